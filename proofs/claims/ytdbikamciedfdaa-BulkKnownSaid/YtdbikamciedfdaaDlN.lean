/- Regions that draw their order, the abstract half: two operations that may change places do; the one that comes up is pulled ahead. No statement of the seed is proved here. -/
import Derived.Test.YtdbikamciedfdaaDlM
namespace Go.DL
variable {P : Program} {B : Base}

def FinH (H : Hp) : Prop := ∃ N, ∀ b, N ≤ b → H b = none
theorem St.fin {F : Nat → Prop} {w : World} {H : Hp} (h : St F w H) : FinH H := ⟨w.heap.size, fun b hb => by
  cases hx : H b with
  | none => rfl
  | some x => exact absurd (h.own_lt hx) (by omega)⟩
theorem FinH.hset {H : Hp} {b : Nat} {x : ABlk} (h : FinH H) : FinH (hset H b x) := by
  obtain ⟨N, h⟩ := h
  exact ⟨max N (b + 1), fun c hc => by rw [hset_other _ _ (by omega)]; exact h c (by omega)⟩

/-! ### Calls -/

theorem CallV.conv {fv : AV} {as : List AV} {H1 H2 : Hp} {Q1 Q2 : AV → Hp → Prop} (h : CallV B P fv as H1 Q1)
    (hc : ∀ F w, St F w H2 → St F w H1 ∧ ∀ e w', Post F w H1 Q1 e w' → Post F w H2 Q2 e w') : CallV B P fv as H2 Q2 := by
  unfold CallV at *
  split at h
  · exact ⟨h.1, fun F w vs h1 h2 h3 => (h.2 F w vs h1 (hc F w h2).1 h3).mono (hc F w h2).2⟩
  · exact fun F w vs h1 h2 h3 => let ⟨fn, t, x, y, h4, h5⟩ := h F w vs h1 (hc F w h2).1 h3; ⟨fn, t, x, y, h4, h5.mono (hc F w h2).2⟩
  · exact h.elim

theorem CallV.monoF {fv : AV} {as : List AV} {H : Hp} {Q Q' : AV → Hp → Prop} (h : CallV B P fv as H Q) (hq : ∀ v H', FinH H' → Q v H' → Q' v H') : CallV B P fv as H Q' :=
  h.conv fun F w st => ⟨st, fun e w' ⟨r, v, F', H', h1, h2, h3, h4, h5⟩ => ⟨r, v, F', H', h1, h2, h3, h4, hq _ _ h3.fin h5⟩⟩

/-- A block that the call does not know. -/
theorem CallV.frame {fv : AV} {as : List AV} {H : Hp} {Q : AV → Hp → Prop} {b : Nat} {z : ABlk} (h : CallV B P fv as H Q) (hb : H b = none) :
    CallV B P fv as (hset H b z) fun v H'' => ∃ H', Q v H' ∧ H' b = none ∧ H'' = hset H' b z := by
  refine h.conv fun F w st => ?_
  have st1 : St F w H := st.forget fun c x hc => by rw [hset_other _ _ (fun e => by subst e; simp [hb] at hc)]; exact hc
  refine ⟨st1, ?_⟩
  rintro e w' ⟨r, v, F', H', rfl, h2, h3, h4, h5⟩
  have hlt : b < w.heap.size := st.own_lt (hset_same H b z)
  have hn : H' b = none := by
    cases hx : H' b with
    | none => rfl
    | some x =>
      rcases h2.hdom b (by simp [hx]) with h6 | h6
      · simp [hb] at h6
      · omega
  have hsame : w'.heap[b]? = w.heap[b]? := h2.same b hlt (by simp [wrH, hb])
  have hnF : ¬ F' b := fun hF => by
    rcases h2.fnew b hF with h6 | h6 | h6
    · exact st.dis b z (hset_same H b z) h6
    · simp [hb] at h6
    · omega
  refine ⟨r, v, F', hset H' b z, rfl, ?_, ?_, h4, H', h5, hn, rfl⟩
  · refine ⟨h2.sub, fun c hc => ?_, fun c hc => ?_, fun c hc => ?_, h2.le, fun c hc hw => ?_, h2.cells, h2.io⟩
    · rcases h2.fnew c hc with h6 | h6 | h6
      · exact .inl h6
      · refine .inr (.inl ?_)
        rw [hset_other _ _ (fun e => by subst e; simp [hb] at h6)]; exact h6
      · exact .inr (.inr h6)
    · by_cases h6 : c = b
      · subst h6; left; simp
      · rw [hset_other _ _ h6] at hc ⊢; exact h2.hdom c hc
    · by_cases h6 : c = b
      · subst h6; left; simpa [wrH] using hc
      · simp only [wrH, hset_other _ _ h6] at hc ⊢; exact h2.hnew c hc
    · by_cases h6 : c = b
      · subst h6; exact hsame
      · exact h2.same c hc (by simpa only [wrH, hset_other _ _ h6] using hw)
  · refine ⟨h3.lt, fun c x hc => ?_, fun c x hc => ?_⟩
    · by_cases h6 : c = b
      · subst h6; exact hnF
      · rw [hset_other _ _ h6] at hc; exact h3.dis c x hc
    · by_cases h6 : c = b
      · subst h6
        simp only [hset_same, Option.some.injEq] at hc
        subst hc
        obtain ⟨o, h7, h8⟩ := st.blk c z (hset_same H c z)
        exact ⟨o, by rw [hsame]; exact h7, h8.up (h2.up st1)⟩
      · rw [hset_other _ _ h6] at hc; exact h3.blk c x hc

theorem roH_hset (H : Hp) (b : Nat) (z : ABlk) : roH (hset H b z) = hset (roH H) b z.ro := by
  funext c
  by_cases h : c = b
  · subst h; simp [roH]
  · simp [roH, hset_other _ _ h]

/-- A call that turns nothing, of which less is known. -/
theorem CallV.quiet {fv : AV} {as : List AV} {H H2 : Hp} {v : AV} (h : CallV B P fv as (roH H) fun v' H' => v' = v ∧ H' = roH H)
    (hd : ∀ b, (roH H b).isSome = true → (H2 b).isSome = true) (hs : ∀ F w, St F w (roH H2) → St F w (roH H)) : CallV B P fv as (roH H2) fun v' H' => v' = v ∧ H' = roH H2 := by
  refine h.conv fun F w st => ⟨hs F w st, ?_⟩
  rintro e w' ⟨r, v, F', H', rfl, h2, h3, h4, rfl, rfl⟩
  have hsame : ∀ b, b < w.heap.size → w'.heap[b]? = w.heap[b]? := fun b hb => h2.same b hb (wrH_ro H b)
  have hd2 : ∀ b, (roH H2 b).isSome = (H2 b).isSome := fun b => by unfold roH; cases H2 b <;> rfl
  refine ⟨r, _, F', roH H2, rfl, ?_, ?_, h4, rfl, rfl⟩
  · refine ⟨h2.sub, fun b hb => ?_, fun b hb => .inl hb, fun b hb => .inl hb, h2.le, fun b hb _ => hsame b hb, h2.cells, h2.io⟩
    rcases h2.fnew b hb with h6 | h6 | h6
    · exact .inl h6
    · exact .inr (.inl (by rw [hd2]; exact hd b h6))
    · exact .inr (.inr h6)
  · refine ⟨h3.lt, fun b x hb hF => ?_, fun b x hb => ?_⟩
    · rcases h2.fnew b hF with h6 | h6 | h6
      · exact st.dis b x hb h6
      · obtain ⟨y, hy⟩ := Option.isSome_iff_exists.1 h6
        exact h3.dis b y hy hF
      · exact absurd (st.own_lt hb) (by omega)
    · obtain ⟨o, h7, h8⟩ := st.blk b x hb
      exact ⟨o, by rw [hsame b (st.own_lt hb)]; exact h7, h8.up (h2.up (hs F w st))⟩

theorem CallV.quiet_fresh {fv : AV} {as : List AV} {H : Hp} {v : AV} {b : Nat} {z : ABlk} (h : CallV B P fv as (roH H) fun v' H' => v' = v ∧ H' = roH H) (hb : H b = none) :
    CallV B P fv as (roH (hset H b z)) fun v' H' => v' = v ∧ H' = roH (hset H b z) := by
  have hne : ∀ c, (roH H c).isSome = true → c ≠ b := fun c hc e => by subst e; simp [roH, hb] at hc
  refine h.quiet (fun c hc => ?_) fun F w st => st.forget fun c x hc => ?_
  · rw [hset_other _ _ (hne c hc)]
    unfold roH at hc
    cases hx : H c with
    | none => simp [hx] at hc
    | some y => rfl
  · rw [roH_hset, hset_other _ _ (hne c (by simp [hc]))]; exact hc

theorem CallV.quiet_grow {fv : AV} {as : List AV} {H : Hp} {v : AV} {b : Nat} {cs new : List AV} (h : CallV B P fv as (roH H) fun v' H' => v' = v ∧ H' = roH H) (hb : H b = some (.cells true cs)) :
    CallV B P fv as (roH (hset H b (.cells true (cs ++ new)))) fun v' H' => v' = v ∧ H' = roH (hset H b (.cells true (cs ++ new))) := by
  refine h.quiet (fun c hc => ?_) fun F w st => ⟨st.lt, fun c x hc => ?_, fun c x hc => ?_⟩
  · by_cases h1 : c = b
    · subst h1; simp
    · rw [hset_other _ _ h1]
      unfold roH at hc
      cases hx : H c with
      | none => simp [hx] at hc
      | some y => rfl
  · rw [roH_hset] at st
    by_cases h1 : c = b
    · subst h1; exact st.dis c _ (hset_same _ _ _)
    · exact st.dis c x (by rw [hset_other _ _ h1]; exact hc)
  · rw [roH_hset] at st
    by_cases h1 : c = b
    · subst h1
      obtain ⟨o, h2, h3⟩ := st.blk c _ (hset_same _ _ _)
      simp only [roH, hb, Option.map_some, ABlk.ro, Option.some.injEq] at hc
      subst hc
      refine ⟨o, h2, ?_⟩
      cases h3 with
      | cells p ds c e fr hfr hl ho hr =>
        refine .cells _ _ _ _ _ hfr (by simp at hl; omega) ho fun i a v hi hv => hr i a v ?_ hv
        rw [List.getElem?_append_left (List.getElem?_eq_some_iff.1 hi).1, hi]
    · exact st.blk c x (by rw [hset_other _ _ h1]; exact hc)

/-! ### Monotone -/

theorem effW_mono' {d : Option Nat} {e : Eff} {K K' : Env → Hp → Prop} {env : Env} {H : Hp} (hf : FinH H) (hk : ∀ u H', FinH H' → K (updo env d u) H' → K' (updo env d u) H') (h : effW d e K env H) : effW d e K' env H := by
  cases e with
  | val v => exact hk _ _ hf h
  | new own x f => exact fun b hb => hk _ _ hf.hset (h b hb)

theorem logOp_other {ix j : Nat} {op : DOp} {env : Env} {L : Log} (h : j ≠ ix) : logOp ix op env L j = L j := by
  cases op <;> first | rfl | simp [logOp, h]

theorem storeA_fin {n : Nat} {H H' : Hp} {p x : AV} (hf : FinH H) (h : storeA n H p x = some H') : FinH H' := by
  unfold storeA at h
  split at h
  · split at h
    · split at h <;> simp at h; subst h; exact hf.hset
    · simp at h
  · simp at h
theorem mapupA_fin {q : Bool} {H H' : Hp} {m k x : AV} (hf : FinH H) (h : mapupA q H m k x = some H') : FinH H' := by
  unfold mapupA at h
  split at h
  · split at h
    · simp only [Option.map_eq_some_iff] at h; obtain ⟨_, _, rfl⟩ := h; exact hf.hset
    · simp at h
  · simp at h
theorem copyA_fin {s : Nat} {H : Hp} {x y : AV} {r : Nat × Hp} (hf : FinH H) (h : copyA s H x y = some r) : FinH r.2 := by
  unfold copyA at h
  split at h
  · split at h
    · split at h <;> simp at h; subst h; exact hf.hset
    · simp at h
  · simp at h

theorem optW_mono' {α : Type} {o : Option α} {k k' : α → Prop} (h : ∀ x, o = some x → k x → k' x) (ho : optW o k) : optW o k' := by
  cases o with
  | none => exact ho
  | some x => exact h x rfl ho

theorem coreD_mono {ix : Nat} {d : Option Nat} {op : DOp} {K K' : KL} {env : Env} {H : Hp} {L : Log} (hf : FinH H)
    (hk : ∀ u H' L', FinH H' → (∀ j, j ≠ ix → L' j = L j) → K (updo env d u) H' L' → K' (updo env d u) H' L') (h : coreD B P ix d op K env H L) : coreD B P ix d op K' env H L := by
  cases op
  case store n p x l => exact ⟨h.1, optW_mono' (fun H' he => hk _ _ _ (storeA_fin hf he) fun _ _ => rfl) h.2⟩
  case copy s x y => exact optW_mono' (fun r he => hk _ _ _ (copyA_fin hf he) fun _ _ => rfl) h
  case mapup q m k x => exact optW_mono' (fun H' he => hk _ _ _ (mapupA_fin hf he) fun _ _ => rfl) h
  case callf q f xs l =>
    cases q with
    | true => obtain ⟨v, h1, h2⟩ := h; exact ⟨v, h1, hk _ _ _ hf (fun _ _ => rfl) h2⟩
    | false => exact CallV.monoF h fun v H' hf' hq => ⟨hq.1, hk _ _ _ hf' (fun _ _ => rfl) hq.2⟩
  all_goals
    rw [coreD_Q rfl] at h ⊢
    exact optW_mono (fun e => effW_mono' hf fun u H' hf' => hk _ _ _ hf' fun j hj => logOp_other hj) h

theorem opD_mono {o : DOper} {K K' : KL} {env : Env} {H : Hp} {L : Log} (hf : FinH H)
    (hk : ∀ e H' L', FinH H' → (∀ j, j ≠ o.ix → L' j = L j) → K e H' L' → K' e H' L') (h : opD B P o K env H L) : opD B P o K' env H L :=
  optW_mono (fun g => coreD_mono hf fun u H' L' => hk _ _ _) h

def isCallF (op : DOp) : Bool := match op with
  | .callf false .. => true
  | _ => false

theorem coreD_false {ix : Nat} {d : Option Nat} {op : DOp} {env : Env} {H : Hp} {L : Log} (hf : FinH H) (hc : isCallF op = false) (h : coreD B P ix d op (fun _ _ _ => False) env H L) : False := by
  have ow : ∀ {α : Type} {o : Option α}, optW o (fun _ => False) → False := fun {α o} h => by cases o <;> exact h
  cases op
  case store n p x l => exact ow h.2
  case copy s x y => exact ow h
  case mapup q m k x => exact ow h
  case callf q f xs l =>
    cases q with
    | true => obtain ⟨v, h1, h2⟩ := h; exact h2
    | false => simp [isCallF] at hc
  all_goals
    rw [coreD_Q rfl, optW_iff] at h
    obtain ⟨e, _, h⟩ := h
    cases e with
    | val v => exact h
    | new own x f => obtain ⟨N, hf⟩ := hf; exact h N (.inl (hf N (Nat.le_refl _)))

/-! ### Two operations that yield values or blocks -/

section
variable {ix iy : Nat} {dx dy : Option Nat} {opx opy : DOp} {K : KL} {env : Env} {H : Hp} {L : Log}

/-- The new block lies apart from what the other does. -/
theorem evalQ_beside {op : DOp} {b : Nat} {own : Option Nat} {x : ABlk} {f : Nat → AV} {e : Eff} {op' : DOp} (hn : evalQ op' env H = some (.new own x f)) (h3 : ¬ (op.kind = 3 ∧ op'.kind = 3))
    (hb : H b = none ∨ own = some b) (h : evalQ op env H = some e) : evalQ op env (hset H b x) = some e := by
  rcases hb with hb | rfl
  · exact evalQ_fresh hb h
  · obtain ⟨hk, cs, new, h1, rfl⟩ := evalQ_own hn
    exact evalQ_grow h1 (fun h => h3 ⟨h, hk⟩) h

theorem swapQQ (hf : FinH H) (hqx : opx.isQ = true) (hqy : opy.isQ = true) (h3 : ¬ (opy.kind = 3 ∧ opx.kind = 3)) (hne : ix ≠ iy)
    (a1 : ∀ k, dx = some k → k ∉ opy.sees) (a2 : ∀ k, dy = some k → k ∉ opx.sees) (a3 : ∀ k, dx = some k → dy ≠ some k)
    (h : coreD B P ix dx opx (coreD B P iy dy opy K) env H L) : coreD B P iy dy opy (coreD B P ix dx opx K) env H L := by
  have key : ∀ (e : Env) (h' : Hp) (L' : Log), coreD B P iy dy opy K e h' L' = optW (evalQ opy e h') fun e' => effW dy e' (fun e'' h => K e'' h (logOp iy opy e L')) e h' := fun e h' L' => coreD_Q hqy
  have key' : ∀ (e : Env) (h' : Hp) (L' : Log), coreD B P ix dx opx K e h' L' = optW (evalQ opx e h') fun e' => effW dx e' (fun e'' h => K e'' h (logOp ix opx e L')) e h' := fun e h' L' => coreD_Q hqx
  rw [coreD_Q hqx, optW_iff] at h
  obtain ⟨ex, hex, h⟩ := h
  rw [coreD_Q hqy]
  cases ex with
  | val v =>
    simp only [effW, key, evalQ_updo a1, logOp_updo a1] at h
    rw [optW_iff] at h
    obtain ⟨ey, hey, h⟩ := h
    rw [hey, optW_some]
    cases ey with
    | val u =>
      simp only [effW, key', evalQ_updo a2, logOp_updo a2, hex, optW_some] at h ⊢
      rw [updo_comm' a3, logOp_comm hne] at *
      exact h
    | new own z f =>
      simp only [effW, key', evalQ_updo a2, logOp_updo a2] at h ⊢
      intro b hb
      rw [evalQ_beside hey (fun h => h3 ⟨h.2, h.1⟩) hb hex, optW_some]
      have := h b hb
      rw [updo_comm' a3, logOp_comm (Ne.symm hne)] at this
      exact this
  | new own z f =>
    simp only [effW, key, evalQ_updo a1, logOp_updo a1] at h
    obtain ⟨ey, hey⟩ : ∃ ey, evalQ opy env H = some ey := by
      obtain ⟨N, hN⟩ := hf
      have h1 := h (N + (rdB opy env).sum + 1) (.inl (hN _ (by omega)))
      rw [evalQ_far (by omega), optW_iff] at h1
      exact ⟨_, h1.choose_spec.1⟩
    rw [hey, optW_some]
    have h' : ∀ b, (H b = none ∨ own = some b) → effW dy ey (fun e'' h => K e'' h (logOp iy opy env (logOp ix opx env L))) (updo env dx (f b)) (hset H b z) := fun b hb => by
      have := h b hb
      rwa [evalQ_beside hex h3 hb hey, optW_some] at this
    cases ey with
    | val u =>
      simp only [effW, key', evalQ_updo a2, logOp_updo a2, hex, optW_some] at h' ⊢
      intro b hb
      have := h' b hb
      rw [updo_comm' a3, logOp_comm (Ne.symm hne)] at this
      exact this
    | new own' z' f' =>
      simp only [effW, key', evalQ_updo a2, logOp_updo a2] at h' ⊢
      intro c hc
      rw [evalQ_beside hey (fun h => h3 ⟨h.2, h.1⟩) hc hex, optW_some]
      intro b hb
      have hown : ∀ j, own = some j → H j ≠ none := fun j hj => by
        subst hj; obtain ⟨_, cs, new, h1, _⟩ := evalQ_own hex; simp [h1]
      have hown' : ∀ j, own' = some j → H j ≠ none := fun j hj => by
        subst hj; obtain ⟨_, cs, new, h1, _⟩ := evalQ_own hey; simp [h1]
      have hbc : b ≠ c := by
        rintro rfl
        rcases hb with hb | hb
        · simp at hb
        · rcases hc with hc | hc
          · exact hown _ hb hc
          · subst hb hc
            exact h3 ⟨(evalQ_own hey).1, (evalQ_own hex).1⟩
      have hb' : H b = none ∨ own = some b := by rwa [hset_other _ _ hbc] at hb
      have := h' b hb' c (by rwa [hset_other _ _ (Ne.symm hbc)])
      rw [updo_comm' a3, logOp_comm (Ne.symm hne), hset_comm hbc] at this
      exact this

/-! ### With calls and what turns the heap -/

theorem logOp_kind {op : DOp} {e : Env} (h : op.kind ≠ 1) : logOp ix op e L = L := by
  cases op <;> first | rfl | simp [DOp.kind] at h

theorem kind_isQ {op : DOp} (h : op.kind ≤ 3 ∨ op.kind = 7) : op.isQ = true := by
  cases op <;> first | rfl | skip
  case callf q f xs l => cases q <;> simp [DOp.kind] at h
  all_goals simp [DOp.kind] at h

theorem evalQ_kind0 {op : DOp} {H' : Hp} (h : op.kind = 0) : evalQ op env H = evalQ op env H' := by
  cases op <;> first | rfl | simp [DOp.kind] at h

theorem evalQ_kind7 {op : DOp} (h : op.kind = 7) : ∃ z f, ∀ env H, evalQ op env H = some (.new none z f) := by
  cases op <;> simp [DOp.kind] at h
  case alloc z => exact ⟨_, _, fun _ _ => rfl⟩
  case mkmap => exact ⟨_, _, fun _ _ => rfl⟩
  case callf q f xs l => cases q <;> simp at h

/-- The first only computes. -/
theorem swap0 (hf : FinH H) (hk : opx.kind = 0)
    (a1 : ∀ k, dx = some k → k ∉ opy.sees) (a2 : ∀ k, dy = some k → k ∉ opx.sees) (a3 : ∀ k, dx = some k → dy ≠ some k)
    (h : coreD B P ix dx opx (coreD B P iy dy opy K) env H L) : coreD B P iy dy opy (coreD B P ix dx opx K) env H L := by
  have hq := kind_isQ (op := opx) (by omega)
  rw [coreD_Q hq, optW_iff] at h
  obtain ⟨ex, hex, h⟩ := h
  obtain ⟨v, rfl⟩ := evalQ_val (by omega) hex
  simp only [effW, logOp_kind (op := opx) (by omega : opx.kind ≠ 1)] at h
  rw [coreD_updo a1 (fun k hk' => a3 k hk')] at h
  refine coreD_mono hf (fun u H' L' _ _ hK => ?_) h
  rw [coreD_Q hq, evalQ_updo a2, evalQ_kind0 (H' := H) hk, hex, optW_some]
  simp only [effW, logOp_kind (op := opx) (by omega : opx.kind ≠ 1)]
  exact hK

/-- The second only computes. -/
theorem swapN0 (hf : FinH H) (hk : opy.kind = 0) (hc : isCallF opx = false)
    (a1 : ∀ k, dx = some k → k ∉ opy.sees) (a2 : ∀ k, dy = some k → k ∉ opx.sees) (a3 : ∀ k, dx = some k → dy ≠ some k)
    (h : coreD B P ix dx opx (coreD B P iy dy opy K) env H L) : coreD B P iy dy opy (coreD B P ix dx opx K) env H L := by
  have hq := kind_isQ (op := opy) (by omega)
  have hl : ∀ e, logOp iy opy e = id := fun e => by funext l; exact logOp_kind (by omega)
  cases hey : evalQ opy env H with
  | none =>
    refine (coreD_false (L := L) hf hc (coreD_mono hf (fun u H' L' _ _ hK => ?_) h)).elim
    rw [coreD_Q hq, evalQ_updo a1, evalQ_kind0 (H' := H) hk, hey] at hK
    exact hK
  | some ey =>
    obtain ⟨v, rfl⟩ := evalQ_val (by omega) hey
    rw [coreD_Q hq, hey, optW_some]
    simp only [effW, hl, id]
    rw [coreD_updo a2 (fun k hk' e => a3 k e hk')]
    refine coreD_mono hf (fun u H' L' _ _ hK => ?_) h
    rw [coreD_Q hq, evalQ_updo a1, evalQ_kind0 (H' := H) hk, hey, optW_some] at hK
    simp only [effW, hl, id] at hK
    exact hK

theorem coreD_quiet {f : AO} {xs : List AO} {l : List Nat} : coreD B P ix dx (.callf true f xs l) K env H L =
    ∃ v, CallV B P (evA env f) (xs.map (evA env)) (roH H) (fun v' H' => v' = v ∧ H' = roH H) ∧ K (updo env dx v) H L := rfl

theorem callf_args {k : Option Nat} {v : AV} {q : Bool} {f : AO} {xs : List AO} {l : List Nat} (h : ∀ j, k = some j → j ∉ (DOp.callf q f xs l).sees) :
    evA (updo env k v) f = evA env f ∧ xs.map (evA (updo env k v)) = xs.map (evA env) := by
  cases k with
  | none => exact ⟨rfl, rfl⟩
  | some j =>
    have := h j rfl
    simp only [DOp.sees, List.mem_append, not_or] at this
    exact ⟨evA_upd this.1, mapA_upd this.2⟩

/-- The first is a call that turns nothing, the second yields a value or a block. -/
theorem swapQuietQ {f : AO} {xs : List AO} {l : List Nat} (hqy : opy.isQ = true)
    (a1 : ∀ k, dx = some k → k ∉ opy.sees) (a2 : ∀ k, dy = some k → k ∉ (DOp.callf true f xs l).sees) (a3 : ∀ k, dx = some k → dy ≠ some k)
    (h : coreD B P ix dx (.callf true f xs l) (coreD B P iy dy opy K) env H L) : coreD B P iy dy opy (coreD B P ix dx (.callf true f xs l) K) env H L := by
  rw [coreD_quiet] at h
  obtain ⟨v, h1, h⟩ := h
  rw [coreD_Q hqy, evalQ_updo a1, logOp_updo a1, optW_iff] at h
  obtain ⟨ey, hey, h⟩ := h
  rw [coreD_Q hqy, hey, optW_some]
  cases ey with
  | val u =>
    simp only [effW, coreD_quiet, (callf_args a2).1, (callf_args a2).2] at h ⊢
    exact ⟨v, h1, by rw [← updo_comm' a3]; exact h⟩
  | new own z g =>
    simp only [effW, coreD_quiet, (callf_args a2).1, (callf_args a2).2] at h ⊢
    intro b hb
    refine ⟨v, ?_, by rw [← updo_comm' a3]; exact h b hb⟩
    rcases hb with hb | rfl
    · exact h1.quiet_fresh hb
    · obtain ⟨_, cs, new, h2, rfl⟩ := evalQ_own hey
      exact h1.quiet_grow h2

/-- The first looks, the second is a call that turns nothing. -/
theorem swap1Quiet {f : AO} {xs : List AO} {l : List Nat} (hk : opx.kind = 1)
    (a1 : ∀ k, dx = some k → k ∉ (DOp.callf true f xs l).sees) (a2 : ∀ k, dy = some k → k ∉ opx.sees) (a3 : ∀ k, dx = some k → dy ≠ some k)
    (h : coreD B P ix dx opx (coreD B P iy dy (.callf true f xs l) K) env H L) : coreD B P iy dy (.callf true f xs l) (coreD B P ix dx opx K) env H L := by
  have hq := kind_isQ (op := opx) (by omega)
  rw [coreD_Q hq, optW_iff] at h
  obtain ⟨ex, hex, h⟩ := h
  obtain ⟨v, rfl⟩ := evalQ_val (by omega) hex
  simp only [effW, coreD_quiet, (callf_args a1).1, (callf_args a1).2] at h
  obtain ⟨u, h1, h⟩ := h
  rw [coreD_quiet]
  refine ⟨u, h1, ?_⟩
  rw [coreD_Q hq, evalQ_updo a2, logOp_updo a2, hex, optW_some]
  simp only [effW]
  rw [← updo_comm' a3]
  exact h

theorem swapQuietQuiet {f g : AO} {xs ys : List AO} {l m : List Nat}
    (a1 : ∀ k, dx = some k → k ∉ (DOp.callf true g ys m).sees) (a2 : ∀ k, dy = some k → k ∉ (DOp.callf true f xs l).sees) (a3 : ∀ k, dx = some k → dy ≠ some k)
    (h : coreD B P ix dx (.callf true f xs l) (coreD B P iy dy (.callf true g ys m) K) env H L) : coreD B P iy dy (.callf true g ys m) (coreD B P ix dx (.callf true f xs l) K) env H L := by
  simp only [coreD_quiet, (callf_args a1).1, (callf_args a1).2, (callf_args a2).1, (callf_args a2).2] at h ⊢
  obtain ⟨v, h1, u, h2, h⟩ := h
  exact ⟨u, h2, v, h1, by rw [← updo_comm' a3]; exact h⟩

/-- The second makes a block, whatever there is. -/
theorem swapCall7 {f : AO} {xs : List AO} {l : List Nat} (hk : opy.kind = 7)
    (a2 : ∀ k, dy = some k → k ∉ (DOp.callf false f xs l).sees) (a3 : ∀ k, dx = some k → dy ≠ some k)
    (h : coreD B P ix dx (.callf false f xs l) (coreD B P iy dy opy K) env H L) : coreD B P iy dy opy (coreD B P ix dx (.callf false f xs l) K) env H L := by
  have hq := kind_isQ (op := opy) (by omega)
  have hl : ∀ e, logOp iy opy e = id := fun e => by funext l; exact logOp_kind (by omega)
  obtain ⟨z, g, hg⟩ := evalQ_kind7 hk
  rw [coreD_Q hq, hg, optW_some]
  simp only [effW, hl, id, or_false, reduceCtorEq]
  intro b hb
  show CallV B P (evA (updo env dy (g b)) f) (xs.map (evA (updo env dy (g b)))) (hset H b z) _
  rw [(callf_args a2).1, (callf_args a2).2]
  refine CallV.mono (CallV.frame h hb) ?_
  rintro v H'' ⟨H', ⟨h1, h2⟩, hn, rfl⟩
  refine ⟨fun j hj c hc => ?_, ?_⟩
  · by_cases h5 : c = b
    · subst h5; simp
    · rw [hset_other _ _ h5, hset_other _ _ h5]; exact h1 j hj c hc
  · rw [coreD_Q hq, hg, optW_some] at h2
    simp only [effW, hl, id, or_false, reduceCtorEq] at h2
    rw [← updo_comm' a3]
    exact h2 b hn

theorem loadA_at {g : Bool} {n : Nat} {H H' : Hp} {v : AV} (h : ∀ b, blkA v = some b → H' b = H b) : loadA g n H' v = loadA g n H v := loadA_agree h

/-- The first looks at a place that the second is known to stay away from. -/
theorem swapAwayStore {g : Bool} {n m : Nat} {a p x : AO} {l : List Nat} (hl : ix ∈ l) (hL : L ix = none)
    (a1 : ∀ k, dx = some k → k ∉ (DOp.store m p x l).sees) (a2 : ∀ k, dy = some k → k ∉ (DOp.load g n a).sees) (a3 : ∀ k, dx = some k → dy ≠ some k)
    (h : coreD B P ix dx (.load g n a) (coreD B P iy dy (.store m p x l) K) env H L) : coreD B P iy dy (.store m p x l) (coreD B P ix dx (.load g n a) K) env H L := by
  rw [coreD_Q rfl, optW_iff] at h
  obtain ⟨ex, hex, h⟩ := h
  obtain ⟨v, rfl⟩ := evalQ_val (by simp [DOp.kind]) hex
  simp only [effW] at h
  rw [coreD_updo a1 (fun k hk => a3 k hk)] at h
  obtain ⟨h1, h2⟩ := h
  refine ⟨fun j hj c hc => h1 j hj c ?_, optW_mono' (fun H' he hK => ?_) h2⟩
  · by_cases hji : j = ix
    · subst hji; rw [hL] at hc; cases hc
    · rw [logOp_other hji]; exact hc
  · show coreD B P ix dx (.load g n a) K (updo env dy .any) H' L
    rw [coreD_Q rfl, evalQ_updo a2, logOp_updo a2]
    have : evalQ (.load g n a) env H' = evalQ (.load g n a) env H := by
      refine evalQ_agree fun b hb => ?_
      simp only [rdB, Option.mem_toList] at hb
      have hb2 := h1 ix hl b (by simp [logOp, hb])
      unfold storeA at he
      split at he
      · rename_i c o hp
        split at he
        · split at he
          · simp only [Option.some.injEq] at he
            subst he
            refine hset_other _ _ fun e => hb2 ?_
            rw [hp, e]; rfl
          · simp at he
        · simp at he
      · simp at he
    rw [this, hex, optW_some]
    simp only [effW]
    exact hK

theorem swapAwayCall {g : Bool} {n : Nat} {a f : AO} {xs : List AO} {l : List Nat} (hl : ix ∈ l) (hL : L ix = none)
    (a1 : ∀ k, dx = some k → k ∉ (DOp.callf false f xs l).sees) (a2 : ∀ k, dy = some k → k ∉ (DOp.load g n a).sees) (a3 : ∀ k, dx = some k → dy ≠ some k)
    (h : coreD B P ix dx (.load g n a) (coreD B P iy dy (.callf false f xs l) K) env H L) : coreD B P iy dy (.callf false f xs l) (coreD B P ix dx (.load g n a) K) env H L := by
  rw [coreD_Q rfl, optW_iff] at h
  obtain ⟨ex, hex, h⟩ := h
  obtain ⟨v, rfl⟩ := evalQ_val (by simp [DOp.kind]) hex
  simp only [effW] at h
  rw [coreD_updo a1 (fun k hk => a3 k hk)] at h
  refine CallV.mono h fun u H' ⟨h1, hK⟩ => ⟨fun j hj c hc => h1 j hj c ?_, ?_⟩
  · by_cases hji : j = ix
    · subst hji; rw [hL] at hc; cases hc
    · rw [logOp_other hji]; exact hc
  · show coreD B P ix dx (.load g n a) K (updo env dy u) H' L
    rw [coreD_Q rfl, evalQ_updo a2, logOp_updo a2]
    have : evalQ (.load g n a) env H' = evalQ (.load g n a) env H := by
      refine evalQ_agree fun b hb => ?_
      simp only [rdB, Option.mem_toList] at hb
      exact h1 ix hl b (by simp [logOp, hb])
    rw [this, hex, optW_some]
    simp only [effW]
    exact hK
end

end Go.DL
