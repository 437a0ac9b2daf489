/- Regions that draw their order, the abstract half: two operations that may change places do. No statement of the seed is proved here. -/
import Derived.Test.YtdbikamciedfdaaDlL
namespace Go.DL
variable {P : Program} {B : Base}

abbrev Log := Nat → Option Nat
abbrev KL := Env → Hp → Log → Prop
def noL : Log := fun _ => none

def logOp (ix : Nat) (op : DOp) (env : Env) (L : Log) : Log := match op with
  | .load _ _ x => fun j => if j = ix then blkA (evA env x) else L j
  | _ => L

def coreD (B : Base) (P : Program) (ix : Nat) (d : Option Nat) (op : DOp) (K : KL) (env : Env) (H : Hp) (L : Log) : Prop :=
  match op with
  | .store n p x l => (∀ j ∈ l, ∀ c, L j = some c → blkA (evA env p) ≠ some c) ∧ optW (storeA n H (evA env p) (evA env x)) fun H' => K (updo env d .any) H' L
  | .callf false f xs l => CallV B P (evA env f) (xs.map (evA env)) H (fun v H' => (∀ j ∈ l, ∀ c, L j = some c → H' c = H c) ∧ K (updo env d v) H' L)
  | op => coreW B P d op (fun e h => K e h (logOp ix op env L)) env H

def effOp (g : Bool) (op : DOp) : DOp := if g then op else .mv (.c (.tup []))
def opD (B : Base) (P : Program) (o : DOper) (K : KL) (env : Env) (H : Hp) (L : Log) : Prop :=
  optW (gd o env) fun g => coreD B P o.ix o.dst (effOp g o.op) K env H L

/-- Operations in the text's order, with a log of where it was looked. -/
def RD (B : Base) (P : Program) : List DOper → (Env → Hp → Prop) → KL
  | [], K => fun env H _ => K env H
  | o :: rest, K => opD B P o (RD B P rest K)

/-! ### What is not looked at -/

theorem evA_upd {env : Env} {k : Nat} {v : AV} {x : AO} (h : k ∉ x.sees) : evA (upd env k v) x = evA env x := by
  cases x with
  | t j => simp only [AO.sees, List.mem_singleton] at h; exact upd_other _ _ (fun e => h e.symm)
  | c v => rfl

theorem boundA_upd {env : Env} {k : Nat} {v : AV} {x : Option AO} {c d : Nat} (h : k ∉ seesO x) : boundA c d (upd env k v) x = boundA c d env x := by
  cases x with
  | none => rfl
  | some x => simp only [boundA, evA_upd (show k ∉ x.sees from h)]

theorem mapA_upd {env : Env} {k : Nat} {v : AV} {xs : List AO} (h : k ∉ seesL xs) : xs.map (evA (upd env k v)) = xs.map (evA env) := by
  refine List.map_congr_left fun x hx => evA_upd fun hk => h ?_
  exact List.mem_flatMap.2 ⟨x, hx, hk⟩

theorem partsA_upd {env : Env} {k : Nat} {v : AV} {ps : List (Nat × Nat × AO)} (h : k ∉ ps.flatMap fun p => p.2.2.sees) :
    (ps.map fun p => (p.1, p.2.1, evA (upd env k v) p.2.2)) = ps.map fun p => (p.1, p.2.1, evA env p.2.2) := by
  refine List.map_congr_left fun x hx => ?_
  rw [evA_upd fun hk => h ?_]
  exact List.mem_flatMap.2 ⟨x, hx, hk⟩

theorem slslA_upd {env : Env} {k : Nat} {v : AV} {s : Nat} {lo hi : Option AO} {x : AV} (h1 : k ∉ seesO lo) (h2 : k ∉ seesO hi) : slslA s (upd env k v) lo hi x = slslA s env lo hi x := by
  unfold slslA
  simp only [boundA_upd h1, boundA_upd h2]

theorem evalQ_upd {env : Env} {k : Nat} {v : AV} {op : DOp} {H : Hp} (h : k ∉ op.sees) : evalQ op (upd env k v) H = evalQ op env H := by
  cases op <;> simp only [DOp.sees, List.mem_append, not_or] at h
  case mkf f a c => simp only [evalQ, mapA_upd h.1, mapA_upd h.2]
  case build z ps => simp only [evalQ, partsA_upd h]
  case bslice s l z ps => simp only [evalQ, partsA_upd h]
  case pick c a b => simp only [evalQ, evA_upd h.1.1, evA_upd h.1.2, evA_upd h.2]
  case slarr l s x lo hi => simp only [evalQ, evA_upd h.1.1, boundA_upd h.1.2, boundA_upd h.2]
  case slsl s x lo hi => simp only [evalQ, evA_upd h.1.1, slslA_upd h.1.2 h.2]
  case slstr x lo hi => simp only [evalQ, evA_upd h.1.1, boundA_upd h.1.2, boundA_upd h.2]
  case store n p x l => rfl
  case copy s x y => rfl
  case mapup q m k x => rfl
  case callf q f xs l => rfl
  case alloc => rfl
  case mkmap => rfl
  case stuck => rfl
  all_goals first
    | (simp only [evalQ, evA_upd h]; done)
    | (simp only [evalQ, evA_upd h.1, evA_upd h.2]; done)

theorem gd_upd {env : Env} {k : Nat} {v : AV} {o : DOper} (h : k ∉ o.sees) : gd o (upd env k v) = gd o env := by
  unfold gd
  unfold DOper.sees at h
  split
  · rfl
  · rename_i g want hg
    rw [hg] at h
    simp only [List.mem_append, List.mem_singleton, not_or] at h
    rw [upd_other _ _ (fun e => h.2 e.symm)]

theorem upd_comm {env : Env} {j k : Nat} {u v : AV} (h : j ≠ k) : upd (upd env j u) k v = upd (upd env k v) j u := by
  funext i
  unfold upd
  by_cases h1 : i = k
  · subst h1; simp [Ne.symm h]
  · simp [h1]

theorem updo_comm {env : Env} {d : Option Nat} {k : Nat} {u v : AV} (h : d ≠ some k) : updo (upd env k v) d u = upd (updo env d u) k v := by
  cases d with
  | none => rfl
  | some d => exact (upd_comm (fun e => h (by rw [e]))).symm

theorem hset_comm {H : Hp} {b c : Nat} {x y : ABlk} (h : b ≠ c) : hset (hset H b x) c y = hset (hset H c y) b x := by
  funext i
  unfold hset
  by_cases h1 : i = c
  · subst h1; simp [Ne.symm h]
  · simp [h1]

theorem logOp_upd {ix : Nat} {op : DOp} {env : Env} {k : Nat} {v : AV} {L : Log} (h : k ∉ op.sees) : logOp ix op (upd env k v) L = logOp ix op env L := by
  cases op <;> first | rfl | skip
  case load g n x => simp only [logOp, evA_upd (show k ∉ x.sees from h)]

theorem coreD_Q {ix : Nat} {d : Option Nat} {op : DOp} {K : KL} {env : Env} {H : Hp} {L : Log} (h : op.isQ = true) :
    coreD B P ix d op K env H L = optW (evalQ op env H) fun e => effW d e (fun e h => K e h (logOp ix op env L)) env H := by
  cases op <;> first | rfl | (simp [DOp.isQ] at h)

theorem effW_upd {d : Option Nat} {e : Eff} {K : Env → Hp → Prop} {env : Env} {H : Hp} {k : Nat} {v : AV} (h : d ≠ some k) :
    effW d e K (upd env k v) H = effW d e (fun e h => K (upd e k v) h) env H := by
  cases e <;> simp only [effW, updo_comm h]

/-- A temporary that an operation neither looks at nor fills. -/
theorem coreD_upd {ix : Nat} {d : Option Nat} {op : DOp} {K : KL} {env : Env} {H : Hp} {L : Log} {k : Nat} {v : AV} (h : k ∉ op.sees) (hd : d ≠ some k) :
    coreD B P ix d op K (upd env k v) H L = coreD B P ix d op (fun e h l => K (upd e k v) h l) env H L := by
  cases op
  case store n p x l =>
    simp only [DOp.sees, List.mem_append, not_or] at h
    simp only [coreD, evA_upd h.1, evA_upd h.2, updo_comm hd]
  case copy s x y =>
    simp only [DOp.sees, List.mem_append, not_or] at h
    simp only [coreD, coreW, logOp, evA_upd h.1, evA_upd h.2, updo_comm hd]
  case mapup q m k x =>
    simp only [DOp.sees, List.mem_append, not_or] at h
    simp only [coreD, coreW, logOp, evA_upd h.1.1, evA_upd h.1.2, evA_upd h.2, updo_comm hd]
  case callf q f xs l =>
    simp only [DOp.sees, List.mem_append, not_or] at h
    cases q <;> simp only [coreD, coreW, logOp, evA_upd h.1, mapA_upd h.2, updo_comm hd]
  all_goals
    rw [coreD_Q rfl, coreD_Q rfl, evalQ_upd h, logOp_upd h]
    simp only [effW_upd hd]

theorem coreD_updo {ix : Nat} {d e : Option Nat} {op : DOp} {K : KL} {env : Env} {H : Hp} {L : Log} {v : AV} (h : ∀ k, e = some k → k ∉ op.sees) (hd : ∀ k, e = some k → d ≠ some k) :
    coreD B P ix d op K (updo env e v) H L = coreD B P ix d op (fun e' h l => K (updo e' e v) h l) env H L := by
  cases e with
  | none => rfl
  | some k => exact coreD_upd (h k rfl) (hd k rfl)
theorem evalQ_updo {e : Option Nat} {op : DOp} {env : Env} {H : Hp} {v : AV} (h : ∀ k, e = some k → k ∉ op.sees) : evalQ op (updo env e v) H = evalQ op env H := by
  cases e with
  | none => rfl
  | some k => exact evalQ_upd (h k rfl)
theorem logOp_updo {ix : Nat} {e : Option Nat} {op : DOp} {env : Env} {L : Log} {v : AV} (h : ∀ k, e = some k → k ∉ op.sees) : logOp ix op (updo env e v) L = logOp ix op env L := by
  cases e with
  | none => rfl
  | some k => exact logOp_upd (h k rfl)
theorem gd_updo {e : Option Nat} {o : DOper} {env : Env} {v : AV} (h : ∀ k, e = some k → k ∉ o.sees) : gd o (updo env e v) = gd o env := by
  cases e with
  | none => rfl
  | some k => exact gd_upd (h k rfl)
theorem updo_comm' {env : Env} {d e : Option Nat} {u v : AV} (h : ∀ k, e = some k → d ≠ some k) : updo (updo env e v) d u = updo (updo env d u) e v := by
  cases e with
  | none => rfl
  | some k => exact updo_comm (h k rfl)
theorem logOp_comm {i j : Nat} {x y : DOp} {env : Env} {L : Log} (h : i ≠ j) : logOp i x env (logOp j y env L) = logOp j y env (logOp i x env L) := by
  cases x <;> cases y <;> first | rfl | skip
  funext k
  simp only [logOp]
  by_cases h1 : k = i
  · subst h1; simp [h]
  · simp [h1]

/-! ### The blocks that are looked at -/

def rdB (op : DOp) (env : Env) : List Nat := match op with
  | .load _ _ x => (blkA (evA env x)).toList
  | .slarr _ _ x _ _ => (blkA (evA env x)).toList
  | .lookup _ _ _ m _ => (blkA (evA env m)).toList
  | .app _ _ x y => (blkA (evA env x)).toList ++ (blkA (evA env y)).toList
  | _ => []

theorem loadA_agree {g : Bool} {n : Nat} {H H' : Hp} {v : AV} (h : ∀ b, blkA v = some b → H b = H' b) : loadA g n H v = loadA g n H' v := by
  cases v <;> first | rfl | skip
  case pt b o => simp only [loadA, h b rfl]

theorem lookA_agree {q : Bool} {H H' : Hp} {k v : AV} (h : ∀ b, blkA v = some b → H b = H' b) : lookA q H k v = lookA q H' k v := by
  cases v <;> first | rfl | skip
  case mp b => simp only [lookA, h b rfl]

theorem srcA_agree {s : Nat} {H H' : Hp} {v : AV} (h : ∀ b, blkA v = some b → H b = H' b) : srcA s H v = srcA s H' v := by
  cases v <;> first | rfl | skip
  case sl b o s' l => simp only [srcA, h b rfl]

theorem appA_agree {s n : Nat} {H H' : Hp} {x y : AV} (h : ∀ b, blkA x = some b → H b = H' b) (h' : ∀ b, blkA y = some b → H b = H' b) : appA s n H x y = appA s n H' x y := by
  unfold appA
  rw [srcA_agree h']
  cases x <;> first | rfl | skip
  case sl b o s' l => cases o <;> simp only [h b rfl]

theorem evalQ_agree {op : DOp} {env : Env} {H H' : Hp} (h : ∀ b ∈ rdB op env, H b = H' b) : evalQ op env H = evalQ op env H' := by
  cases op <;> first | rfl | skip
  case load g n x => simp only [evalQ, loadA_agree (v := evA env x) fun b hb => h b (by simp [rdB, hb])]
  case slarr l s x lo hi =>
    simp only [evalQ]
    cases hx : evA env x <;> first | rfl | skip
    rename_i b o
    simp only [h b (by simp [rdB, hx, blkA])]
  case lookup q ok z m k => simp only [evalQ, lookA_agree (v := evA env m) fun b hb => h b (by simp [rdB, hb])]
  case app s n x y => simp only [evalQ, appA_agree (x := evA env x) (y := evA env y) (fun b hb => h b (by simp [rdB, hb])) (fun b hb => h b (by simp [rdB, hb]))]

theorem evalQ_rd {op : DOp} {env : Env} {H : Hp} {e : Eff} {b : Nat} (h : evalQ op env H = some e) (hb : b ∈ rdB op env) : H b ≠ none := by
  intro hn
  cases op <;> simp only [rdB, List.not_mem_nil, List.mem_append, Option.mem_toList] at hb
  case load g n x =>
    simp only [evalQ] at h
    cases hx : evA env x <;> rw [hx] at hb h <;> simp only [blkA, Option.some.injEq, reduceCtorEq] at hb <;> subst hb <;> simp [loadA, hn] at h
  case slarr l s x lo hi =>
    simp only [evalQ] at h
    cases hx : evA env x <;> rw [hx] at hb h <;> simp only [blkA, Option.some.injEq, reduceCtorEq] at hb <;> subst hb <;> simp [hn] at h
  case lookup q ok z m k =>
    simp only [evalQ] at h
    cases hx : evA env m <;> rw [hx] at hb h <;> simp only [blkA, Option.some.injEq, reduceCtorEq] at hb <;> subst hb <;> simp [lookA, hn] at h
  case app s n x y =>
    simp only [evalQ, appA] at h
    split at h
    · simp at h
    · rename_i k new hs
      rcases hb with hb | hb
      · cases hx : evA env x <;> rw [hx] at hb h <;> simp only [blkA, Option.some.injEq, reduceCtorEq] at hb <;> subst hb <;> try (simp at h; done)
        rename_i c o s' l
        cases o <;> simp [hn] at h
      · cases hx : evA env y <;> rw [hx] at hb hs <;> simp only [blkA, Option.some.injEq, reduceCtorEq] at hb <;> subst hb <;> simp [srcA, hn] at hs

theorem evalQ_fresh {op : DOp} {env : Env} {H : Hp} {e : Eff} {b : Nat} {x : ABlk} (hb : H b = none) (h : evalQ op env H = some e) : evalQ op env (hset H b x) = some e := by
  rw [← h]
  refine evalQ_agree fun c hc => hset_other _ _ fun e => ?_
  subst e
  exact evalQ_rd h hc hb

theorem mem_le_sum {l : List Nat} {b : Nat} (h : b ∈ l) : b ≤ l.sum := by
  induction l with
  | nil => simp at h
  | cons x r ih =>
    simp only [List.mem_cons] at h
    simp only [List.sum_cons]
    rcases h with rfl | h
    · omega
    · have := ih h; omega

theorem evalQ_far {op : DOp} {env : Env} {H : Hp} {b : Nat} {x : ABlk} (hb : (rdB op env).sum < b) : evalQ op env (hset H b x) = evalQ op env H :=
  evalQ_agree fun c hc => hset_other _ _ (by have := mem_le_sum hc; omega)

theorem readA_grow {g : Bool} {n o : Nat} {cs new : List AV} {v : AV} (h : readA g n cs o = some v) : readA g n (cs ++ new) o = some v := by
  unfold readA at *
  split
  · rename_i hg
    rw [if_pos hg] at h
    split at h
    · rename_i hl
      rw [if_pos (by simp; omega), ← h, List.drop_append_of_le_length (by omega), List.take_append_of_le_length (by simp; omega)]
    · simp at h
  · rename_i hg
    rw [if_neg hg] at h
    rw [List.getElem?_append_left (List.getElem?_eq_some_iff.1 h).1, h]

theorem evalQ_grow {op : DOp} {env : Env} {H : Hp} {e : Eff} {b : Nat} {cs new : List AV} (hb : H b = some (.cells true cs)) (hk : op.kind ≠ 3) (h : evalQ op env H = some e) :
    evalQ op env (hset H b (.cells true (cs ++ new))) = some e := by
  by_cases hm : b ∈ rdB op env
  · cases op <;> simp only [rdB, List.not_mem_nil, List.mem_append, Option.mem_toList] at hm
    case load g n x =>
      simp only [evalQ] at h ⊢
      cases hx : evA env x <;> rw [hx] at hm h <;> simp only [blkA, Option.some.injEq, reduceCtorEq] at hm <;> subst hm <;> try (simp [loadA] at h; done)
      rename_i o
      simp only [loadA, hb, hset_same] at h ⊢
      split at h
      · rename_i v hv; rw [readA_grow hv]; exact h
      · simp at h
    case slarr l s x lo hi =>
      simp only [evalQ] at h ⊢
      cases hx : evA env x <;> rw [hx] at hm h <;> simp only [blkA, Option.some.injEq, reduceCtorEq] at hm <;> subst hm <;> try (simp at h; done)
      rename_i o
      simp only [hb, hset_same] at h ⊢
      split at h
      · rename_i hh heq1 heq2
        simp only [Option.some.injEq, ABlk.cells.injEq] at heq1
        obtain ⟨_, rfl⟩ := heq1
        simp only [heq2]
        split at h
        · rename_i ll hl
          split at h
          · rename_i hc
            rw [if_pos (by simp; omega)]; exact h
          · simp at h
        · simp at h
      · simp at h
    case lookup q ok z m k =>
      simp only [evalQ] at h ⊢
      cases hx : evA env m <;> rw [hx] at hm h <;> simp only [blkA, Option.some.injEq, reduceCtorEq] at hm <;> subst hm <;> simp [lookA, hb] at h
    case app => simp [DOp.kind] at hk
  · rw [← h]
    exact evalQ_agree fun c hc => hset_other _ _ fun e => hm (e ▸ hc)

/-- A block that grows is an own one; only 'append' lets one grow. -/
theorem evalQ_own {op : DOp} {env : Env} {H : Hp} {b : Nat} {x : ABlk} {f : Nat → AV} (h : evalQ op env H = some (.new (some b) x f)) :
    op.kind = 3 ∧ ∃ cs new, H b = some (.cells true cs) ∧ x = .cells true (cs ++ new) := by
  cases op
  case app s n y z =>
    refine ⟨rfl, ?_⟩
    simp only [evalQ, appA] at h
    split at h
    · simp at h
    · rename_i k new hs
      split at h
      · split at h
        · split at h <;> simp at h
        · simp at h
      · rename_i c s' l hx
        split at h
        · rename_i cs hc
          split at h
          · simp only [Option.some.injEq, Eff.new.injEq] at h
            obtain ⟨rfl, rfl, _⟩ := h
            exact ⟨cs, new, hc, rfl⟩
          · simp at h
        · simp at h
      · simp at h
  all_goals
    exfalso
    simp only [evalQ] at h
    first
      | (simp at h; done)
      | (repeat' split at h) <;> simp at h

theorem evalQ_val {op : DOp} {env : Env} {H : Hp} {e : Eff} (hk : op.kind ≤ 1) (h : evalQ op env H = some e) : ∃ v, e = .val v := by
  cases op <;> simp only [DOp.kind] at hk <;> try (omega)
  all_goals
    simp only [evalQ] at h
    first
      | (simp at h; done)
      | (simp only [Option.some.injEq] at h; exact ⟨_, h.symm⟩)
      | ((repeat' split at h) <;> first | (simp at h; done) | (simp only [Option.some.injEq] at h; exact ⟨_, h.symm⟩))
      | (rename_i q _ _ _; cases q <;> simp [DOp.kind] at hk; done)

end Go.DL
