/- Functions: a contract out of the body; what is frozen. No statement of the seed is proved here. -/
import Derived.Test.YtdbikamciedfdaaDlQ
namespace Go.DL
variable {P : Program} {B : Base} {F : Nat → Prop} {w : World} {H : Hp} {env : Env} {a : Act}

def resC (P : Program) : ResultVar → Option (Nat × Option (Bool × Nat))
  | .tmp t => some (t, none)
  | .cell a t => match isAggT P t, szT P t with
    | some g, some n => some (a, some (g, n))
    | _, _ => none
def resA1 (env : Env) (H : Hp) : Nat × Option (Bool × Nat) → Option AV
  | (t, none) => some (env t)
  | (a, some (g, n)) => loadA g n H (env a)
def resL (env : Env) (H : Hp) : List (Nat × Option (Bool × Nat)) → Option (List AV)
  | [] => some []
  | x :: r => match resA1 env H x, resL env H r with
    | some v, some vs => some (v :: vs)
    | _, _ => none
def resA (rs : List (Nat × Option (Bool × Nat))) (env : Env) (H : Hp) : Option AV := match resL env H rs with
  | some [v] => some v
  | some vs => some (.tup vs)
  | none => none

/-- A function as it is read. -/
structure DFn where
  N : Nat
  res : List (Nat × Option (Bool × Nat))
  body : DCode

structure FnIs (P : Program) (f : FuncId) (d : DFn) : Prop where
  call : ∀ (vs : Array Value) (w : World), (callFunc f vs).run P w = .ok (.enter f vs) w
  code : ∃ fn c, P.funcs[f]? = some fn ∧ fn.body = some c ∧ fn.ntmps = d.N ∧ fn.results.toList.mapM (resC P) = some d.res ∧ compC P d.N c = some d.body

def argEnv (as : List AV) : Env := fun k => as.getD k .any

/-- What is asked behind a body. -/
def fnQ (rs : List (Nat × Option (Bool × Nat))) (Q : AV → Hp → Prop) : QC := fun e env H => match e with
  | .exit _ => False
  | _ => optW (resA rs env H) fun v => Q v H

theorem run_results1 {tmps : Array Value} {x : ResultVar} {y : Nat × Option (Bool × Nat)} {v : AV} (st : St F w H) (re : RE F w env { tmps := tmps, defers := [] }) (hx : resC P x = some y) (hv : resA1 env H y = some v) :
    ∃ c, (match x with
      | .tmp t => pure (tmps.getD t undef)
      | .cell a t => do loadVar t (← asAddr (tmps.getD a undef)) : Sem Value).run P w = .ok c w ∧ Rv F w v c := by
  cases x with
  | tmp t =>
    simp only [resC, Option.some.injEq] at hx
    subst hx
    simp only [resA1, Option.some.injEq] at hv
    subst hv
    exact ⟨_, by simp only [Sem.run_pure], re t⟩
  | cell p t =>
    simp only [resC] at hx
    split at hx
    · rename_i g n hg hn
      simp only [Option.some.injEq] at hx
      subst hx
      simp only [resA1] at hv
      obtain ⟨c, h1, h2⟩ := run_loadA (P := P) st hg hn (re p) hv
      refine ⟨c, ?_, h2⟩
      have hz : ∃ ad, tmps.getD p undef = .pointer (some ad) := by
        have hp := re p
        cases hq : env p <;> rw [hq] at hv hp <;> simp only [loadA, reduceCtorEq] at hv
        · generalize hy : ({ tmps := tmps, defers := [] } : Act).tmps.getD p undef = z at hp
          cases hp
          exact ⟨_, rfl⟩
        · generalize hy : ({ tmps := tmps, defers := [] } : Act).tmps.getD p undef = z at hp
          cases hp
          exact ⟨_, rfl⟩
      obtain ⟨ad, hz⟩ := hz
      simp only [hz, Instr.loadAt, Instr.sureAddr, asAddr, Sem.run_bind, Sem.run_pure, Result.andThen_ok] at h1 ⊢
      exact h1
    · simp at hx

theorem run_resultsL {tmps : Array Value} (st : St F w H) (re : RE F w env { tmps := tmps, defers := [] }) : ∀ (xs : List ResultVar) (ys : List (Nat × Option (Bool × Nat))) (vs : List AV), xs.mapM (resC P) = some ys → resL env H ys = some vs →
    ∃ cs : List Value, (xs.mapM fun x => (match x with
      | .tmp t => pure (tmps.getD t undef)
      | .cell a t => do loadVar t (← asAddr (tmps.getD a undef)) : Sem Value)).run P w = .ok cs w ∧ vs.length = cs.length ∧ ∀ (i : Nat) (v : AV) (c : Value), vs[i]? = some v → cs[i]? = some c → Rv F w v c := by
  intro xs
  induction xs with
  | nil =>
    intro ys vs hx hv
    simp at hx; subst hx
    simp [resL] at hv; subst hv
    exact ⟨[], by simp only [List.mapM_nil, Sem.run_pure], rfl, by simp⟩
  | cons x xs ih =>
    intro ys vs hx hv
    rw [List.mapM_cons] at hx
    cases h1 : resC P x with
    | none => rw [h1] at hx; simp at hx
    | some y =>
      rw [h1] at hx
      cases h2 : xs.mapM (resC P) with
      | none => rw [h2] at hx; simp at hx
      | some ys' =>
        rw [h2] at hx
        simp at hx; subst hx
        simp only [resL] at hv
        split at hv
        · rename_i v' vs' h3 h4
          simp only [Option.some.injEq] at hv; subst hv
          obtain ⟨c, k1, k2⟩ := run_results1 st re h1 h3
          obtain ⟨cs, k3, k4, k5⟩ := ih ys' vs' h2 h4
          refine ⟨c :: cs, ?_, by simp [k4], fun i v c' hv' hc' => ?_⟩
          · rw [List.mapM_cons]
            simp only [Sem.run_bind, k1, k3, Result.andThen_ok, Sem.run_pure]
          · cases i with
            | zero => simp at hv' hc'; subst hv' hc'; exact k2
            | succ i => exact k5 i v c' (by simpa using hv') (by simpa using hc')
        · simp at hv

theorem run_results {fn : Func} {tmps : Array Value} {rs : List (Nat × Option (Bool × Nat))} {v : AV} (st : St F w H) (re : RE F w env { tmps := tmps, defers := [] }) (hr : fn.results.toList.mapM (resC P) = some rs) (hv : resA rs env H = some v) :
    ∃ c, (results fn tmps).run P w = .ok c w ∧ Rv F w v c := by
  unfold resA at hv
  obtain ⟨vs, hvs⟩ : ∃ vs, resL env H rs = some vs := by
    cases h : resL env H rs with
    | none => rw [h] at hv; simp at hv
    | some vs => exact ⟨vs, rfl⟩
  obtain ⟨cs, h1, h2, h3⟩ := run_resultsL st re _ _ _ hr hvs
  have h4 : (results fn tmps).run P w = .ok (if h : cs.toArray.size = 1 then cs.toArray[0] else .tuple cs.toArray) w := by
    unfold results
    have hmap : ∀ {α β : Type} (f : α → β) (m : Sem α), f <$> m = (m >>= fun x => pure (f x)) := fun f m => rfl
    rw [Sem.run_bind, ← Array.toArray_toList (xs := fn.results), List.mapM_toArray, hmap, Sem.run_bind]
    exact (congrArg (fun r : Result (List Value) => ((r.andThen fun a w' => Sem.run P (pure a.toArray) w').andThen fun a w' => Sem.run P (pure (if h : a.size = 1 then a[0] else Value.tuple a)) w')) h1).trans (by simp only [Result.andThen_ok, Sem.run_pure])
  refine ⟨_, h4, ?_⟩
  rw [hvs] at hv
  cases vs with
  | nil =>
    cases cs with
    | nil => simp at hv; subst hv; exact .tup _ _ (by simp) (by simp)
    | cons c cs => simp at h2
  | cons v1 vs =>
    cases cs with
    | nil => simp at h2
    | cons c cs =>
      cases vs with
      | nil =>
        cases cs with
        | nil => simp at hv; subst hv; exact h3 0 _ _ rfl rfl
        | cons c' cs => simp at h2
      | cons v2 vs =>
        cases cs with
        | nil => simp at h2
        | cons c' cs =>
          simp at hv; subst hv
          simp only [List.size_toArray, List.length_cons, show ¬ (cs.length + 1 + 1 = 1) by omega, dif_neg, not_false_eq_true]
          exact .tup _ _ (by simpa using h2) fun i x y hx hy => h3 i x y hx (by simpa using hy)

theorem putObj_ext {n0 D : Nat} {w0 : World} {F0 : Nat → Prop} {H0 : Hp} {x : Option (List Deferred)} (he : Ext F0 w0 H0 F w H) (st : St F w H) (hn : w0.heap.size ≤ D) (hD : w.heap[D]? = some (.deferred (some []))) (hF : ¬ F D) (hH : H D = none) :
    Ext F0 w0 H0 F (w.putObj D (.deferred x)) H ∧ St F (w.putObj D (.deferred x)) H ∧ Up F w F (w.putObj D (.deferred x)) := by
  have oth : ∀ b, b ≠ D → (w.putObj D (.deferred x)).heap[b]? = w.heap[b]? := fun b hb => World.putObj_heap_other hb
  have hu : Up F w F (w.putObj D (.deferred x)) := ⟨fun _ h => h, fun b hb => oth b fun e => hF (e ▸ hb), fun b c e fr hb => ⟨c, e, fr, by rw [oth b fun e => by subst e; rw [hD] at hb; simp at hb]; exact hb, rfl⟩, by simp⟩
  refine ⟨⟨he.sub, he.fnew, he.hdom, he.hnew, by simpa using he.le, fun b hb hw => by rw [oth b (by omega)]; exact he.same b hb hw, fun b c e fr hb => ?_, he.io.trans ⟨rfl, rfl, rfl⟩⟩, ⟨fun b hb => by simpa using st.lt b hb, st.dis, fun b y hb => ?_⟩, hu⟩
  · have hlt : b < w0.heap.size := (Array.getElem?_eq_some_iff.1 hb).1
    rw [oth b (by omega)]; exact he.cells b c e fr hb
  · obtain ⟨o, h1, h2⟩ := st.blk b y hb
    exact ⟨o, by rw [oth b fun e => by subst e; simp [hH] at hb]; exact h1, h2.up hu⟩

theorem leaves_marks {fn : Func} {tmps : Array Value} {rs : List (Nat × Option (Bool × Nat))} {v : AV} {F0 : Nat → Prop} {w0 : World} {H0 : Hp} {Q : AV → Hp → Prop} (hr : fn.results.toList.mapM (resC P) = some rs) (hv : resA rs env H = some v) (hQ : Q v H) :
    ∀ (ds : List Deferred) (w : World), Ext F0 w0 H0 F w H → St F w H → RE F w env { tmps := tmps, defers := [] } → Mk w0.heap.size F H w ds → LeavesInM Fence.wide 0 P fn tmps (Post F0 w0 H0 Q) ds .returning w := by
  intro ds
  induction ds with
  | nil =>
    intro w he st re _
    obtain ⟨c, h1, h2⟩ := run_results st re hr hv
    exact ⟨c, h1, c, v, F, H, rfl, he, st, h2, hQ⟩
  | cons d ds ih =>
    intro w he st re mk
    obtain ⟨D, rfl, h2, h3, h4, h5⟩ := mk.each d (by simp)
    obtain ⟨k1, k2, k3⟩ := putObj_ext (n0 := 0) (x := none) he st h2 h3 h4 h5
    have hnd := List.nodup_cons.1 mk.nodup
    refine ⟨by simp, .inl ⟨D, _, rfl, run_takeDeferred h3, ih _ k1 k2 (re.up k3) ⟨hnd.2, fun d' hd' => ?_⟩⟩⟩
    obtain ⟨D', rfl, l2, l3, l4, l5⟩ := mk.each d' (by simp [hd'])
    refine ⟨D', rfl, l2, ?_, l4, l5⟩
    rw [World.putObj_heap_other fun e => hnd.1 (by rw [← e]; exact hd')]
    exact l3

/-- A contract out of the body. -/
theorem FnW.of {f : FuncId} {d : DFn} {as : List AV} {Q : AV → Hp → Prop} (hf : FnIs P f d) (hN : as.length ≤ d.N) (h : WD B P none d.N d.body (fnQ d.res Q) (argEnv as) H) : FnW B P f as H Q := by
  refine ⟨hf.call, fun F w vs hB st hA => ?_⟩
  obtain ⟨fn, c, h1, h2, h3, h4, h5⟩ := hf.code
  have hsz : (vs ++ Array.replicate (fn.ntmps - vs.size) undef).size = d.N := by
    have := hA.1
    simp [h3]; omega
  refine callsIn_of_wp_marks h1 h2 trivial (wpIn_mono (h c h5 F w { tmps := vs ++ Array.replicate (fn.ntmps - vs.size) undef, defers := [] } w.heap.size hB (Nat.le_refl _) hsz st ?_ Mk.nil) ?_)
  · intro k
    simp only [argEnv]
    cases hk : as[k]? with
    | none => rw [List.getD_eq_getElem?_getD, hk]; exact .any _
    | some x =>
      have hlt : k < vs.size := by rw [← hA.1]; exact (List.getElem?_eq_some_iff.1 hk).1
      rw [List.getD_eq_getElem?_getD, hk]
      simp only [Option.getD_some, Array.getD_eq_getD_getElem?]
      rw [Array.getElem?_append_left hlt, Array.getElem?_eq_getElem hlt]
      exact hA.2 k x _ hk (Array.getElem?_eq_getElem hlt)
  · rintro e a' w' ⟨x, env', F', H', k1, k2, k3, k4, k5, k6, k7⟩
    have fin : optW (resA d.res env' H') (fun v => Q v H') → LeavesInM Fence.wide 0 P fn a'.tmps (Post F w H Q) a'.defers .returning w' := fun hq => by
      rw [optW_iff] at hq
      obtain ⟨v, hv, hQ⟩ := hq
      exact leaves_marks h4 hv hQ a'.defers w' k3 k4 k5 k6
    cases e with
    | normal => simp only at k1; subst k1; exact fin k7
    | ret => simp only at k1; subst k1; exact fin k7
    | exit id => simp only at k1; subst k1; exact k7.elim
    | goto l => exact k1.elim
    | panic c => exact k1.elim
    | outgrown => exact k1.elim

/-! ### What is frozen -/

/-- A value, where a block is frozen. -/
inductive Fz (b : Nat) (cs : List AV) : AV → AV → Prop where
  | same (v : AV) : Fz b cs v v
  | sl (off s len : Nat) (rows : List (List AV)) (hl : rows.length = len) (hs : ∀ r ∈ rows, r.length = s)
      (hc : ∀ (i : Nat) (r : List AV) (j : Nat) (c : AV), rows[i]? = some r → r[j]? = some c → cs[off + i * s + j]? = some c) : Fz b cs (.sl b off s len) (.fs rows)
  | pt (off s i o : Nat) (rows : List (List AV)) (hs : ∀ r ∈ rows, r.length = s)
      (hc : ∀ (i : Nat) (r : List AV) (j : Nat) (c : AV), rows[i]? = some r → r[j]? = some c → cs[off + i * s + j]? = some c) : Fz b cs (.pt b (off + i * s + o)) (.fp rows i o)
  | agg (xs ys : List AV) (hl : xs.length = ys.length) (h : ∀ (i : Nat) (x y : AV), xs[i]? = some x → ys[i]? = some y → Fz b cs x y) : Fz b cs (.agg xs) (.agg ys)
  | tup (xs ys : List AV) (hl : xs.length = ys.length) (h : ∀ (i : Nat) (x y : AV), xs[i]? = some x → ys[i]? = some y → Fz b cs x y) : Fz b cs (.tup xs) (.tup ys)
  | fn (f : Fn) (xs ys xs' ys' : List AV) (hl : xs.length = ys.length) (h : ∀ (i : Nat) (x y : AV), xs[i]? = some x → ys[i]? = some y → Fz b cs x y)
      (hl' : xs'.length = ys'.length) (h' : ∀ (i : Nat) (x y : AV), xs'[i]? = some x → ys'[i]? = some y → Fz b cs x y) : Fz b cs (.fn f xs xs') (.fn f ys ys')

theorem Rv.fz {b : Nat} {cs : List AV} {x y : AV} (hf : Fz b cs x y) {c : Array Value} {e : TypeId} {fr : Nat × Nat} (hb : w.heap[b]? = some (.cells c e fr)) (hF : F b) (hl : cs.length ≤ c.size)
    (ho : ∀ (i : Nat) (v : Value), c[i]? = some v → v.oneCell' = true) (hc : ∀ (i : Nat) (a : AV) (v : Value), cs[i]? = some a → c[i]? = some v → Rv F w a v) : ∀ {v : Value}, Rv F w x v → Rv F w y v := by
  have cell : ∀ (k : Nat) (x : AV), cs[k]? = some x → w.cell? ⟨b, k, none⟩ = some (c[k]?.getD (Value.bool false)) ∧ Rv F w x (c[k]?.getD (Value.bool false)) := fun k x hk => by
    have hlt : k < c.size := Nat.lt_of_lt_of_le (List.getElem?_eq_some_iff.1 hk).1 hl
    have hg : c[k]? = some c[k] := Array.getElem?_eq_getElem hlt
    refine ⟨?_, ?_⟩
    · simp [World.cell?, hb, hg]
    · rw [hg]; exact hc k x _ hk hg
  have one : ∀ k : Nat, (c[k]?.getD (Value.bool false)).oneCell' = true := fun k => by
    cases hk : c[k]? with
    | none => rfl
    | some v => exact ho k v hk
  induction hf with
  | same v => exact fun h => h
  | sl off s len rows hl' hs h =>
    intro v hv
    cases hv with
    | sl _ _ _ _ cap c' e' fr' hb' hcap hlen =>
      subst hl'
      exact .fs rows b off s cap (fun i j => c[off + i * s + j]?.getD (Value.bool false)) hlen hF hs (fun i r j x h1 h2 => (cell _ x (h i r j x h1 h2)).1) (fun i j => one _) (fun i r j x h1 h2 => (cell _ x (h i r j x h1 h2)).2)
  | pt off s i o rows hs h =>
    intro v hv
    cases hv with
    | pt =>
      exact .fp rows i o b off s (fun i j => c[off + i * s + j]?.getD (Value.bool false)) hF hs (fun i r j x h1 h2 => (cell _ x (h i r j x h1 h2)).1) (fun i j => one _) (fun i r j x h1 h2 => (cell _ x (h i r j x h1 h2)).2)
  | agg xs ys hl' h ih =>
    intro v hv
    cases hv with
    | agg _ vs h1 h2 h3 =>
      refine .agg _ _ (hl'.symm.trans h1) h2 fun i x v hx hv => ?_
      have hlt : i < xs.length := by rw [hl']; exact (List.getElem?_eq_some_iff.1 hx).1
      have hg : xs[i]? = some xs[i] := List.getElem?_eq_getElem hlt
      exact ih i _ x hg hx (h3 i _ v hg hv)
  | tup xs ys hl' h ih =>
    intro v hv
    cases hv with
    | tup _ vs h1 h3 =>
      refine .tup _ _ (hl'.symm.trans h1) fun i x v hx hv => ?_
      have hlt : i < xs.length := by rw [hl']; exact (List.getElem?_eq_some_iff.1 hx).1
      have hg : xs[i]? = some xs[i] := List.getElem?_eq_getElem hlt
      exact ih i _ x hg hx (h3 i _ v hg hv)
  | fn f xs ys xs' ys' hl1 h1 hl2 h2 ih1 ih2 =>
    intro v hv
    cases hv with
    | fn _ _ _ fv cv k1 k2 k3 k4 =>
      refine .fn _ _ _ _ _ (hl1.symm.trans k1) (hl2.symm.trans k2) (fun i x v hx hv => ?_) (fun i x v hx hv => ?_)
      · have hlt : i < xs.length := by rw [hl1]; exact (List.getElem?_eq_some_iff.1 hx).1
        have hg : xs[i]? = some xs[i] := List.getElem?_eq_getElem hlt
        exact ih1 i _ x hg hx (k3 i _ v hg hv)
      · have hlt : i < xs'.length := by rw [hl2]; exact (List.getElem?_eq_some_iff.1 hx).1
        have hg : xs'[i]? = some xs'[i] := List.getElem?_eq_getElem hlt
        exact ih2 i _ x hg hx (k4 i _ v hg hv)

/-- What the other blocks hold, where a block is frozen. -/
inductive FzB (b : Nat) (cs : List AV) : ABlk → ABlk → Prop where
  | same (x : ABlk) : FzB b cs x x
  | cells (p : Bool) (xs ys : List AV) (hl : xs.length = ys.length) (h : ∀ (i : Nat) (x y : AV), xs[i]? = some x → ys[i]? = some y → Fz b cs x y) : FzB b cs (.cells p xs) (.cells p ys)
  | map (p : Bool) (xs ys : List (AV × AV)) (hl : xs.length = ys.length) (h : ∀ (i : Nat) (x y : AV × AV), xs[i]? = some x → ys[i]? = some y → Fz b cs x.1 y.1 ∧ Fz b cs x.2 y.2) : FzB b cs (.map p xs) (.map p ys)

theorem Shift.freeze {b : Nat} {wr : Bool} {cs : List AV} {env' : Env} {H' : Hp} (hb : H b = some (.cells wr cs)) (he : ∀ k, Fz b cs (env k) (env' k)) (hb' : H' b = none)
    (hH : ∀ c, c ≠ b → H' c = none ∨ ∃ x y, H c = some x ∧ H' c = some y ∧ FzB b cs x y) : Shift env H env' H' := by
  intro F w a st re
  obtain ⟨o, h1, h2⟩ := st.blk b _ hb
  cases h2 with
  | cells _ _ c e fr hfr hl ho hc =>
    have hu : Up F w (fun x => F x ∨ x = b) w := ⟨fun _ h => .inl h, fun _ _ => rfl, fun b c e fr h => ⟨c, e, fr, h, rfl⟩, Nat.le_refl _⟩
    have hc' : ∀ (i : Nat) (a : AV) (v : Value), cs[i]? = some a → c[i]? = some v → Rv (fun x => F x ∨ x = b) w a v := fun i a v h1 h2 => (hc i a v h1 h2).up hu
    have rv : ∀ {x y : AV} {v : Value}, Fz b cs x y → Rv F w x v → Rv (fun x => F x ∨ x = b) w y v := fun hf h => Rv.fz hf h1 (.inr rfl) hl ho hc' (h.up hu)
    refine ⟨fun x => F x ∨ x = b, ⟨fun _ h => .inl h, fun x hx => ?_, fun x hx => ?_, fun x hx => ?_, Nat.le_refl _, fun _ _ _ => rfl, fun b c e fr h => ⟨c, e, fr, h, rfl⟩, SameIO.refl w⟩, ⟨fun x hx => ?_, fun x y hx hF => ?_, fun x y hx => ?_⟩, fun k => rv (he k) (re k)⟩
    · rcases hx with hx | rfl
      · exact .inl hx
      · exact .inr (.inl (by simp [hb]))
    · by_cases hxb : x = b
      · subst hxb; simp [hb'] at hx
      · rcases hH x hxb with h | ⟨y, z, h3, h4, h5⟩
        · simp [h] at hx
        · left; simp [h3]
    · by_cases hxb : x = b
      · subst hxb; simp [wrH, hb'] at hx
      · rcases hH x hxb with h | ⟨y, z, h3, h4, h5⟩
        · simp [wrH, h] at hx
        · left
          simp only [wrH, h3, h4] at hx ⊢
          cases h5 <;> exact hx
    · rcases hx with hx | rfl
      · exact st.lt x hx
      · exact st.own_lt hb
    · by_cases hxb : x = b
      · subst hxb; simp [hb'] at hx
      · rcases hH x hxb with h | ⟨y', z, h3, h4, h5⟩
        · simp [h] at hx
        · rcases hF with hF | hF
          · exact st.dis x y' h3 hF
          · exact hxb hF
    · by_cases hxb : x = b
      · subst hxb; simp [hb'] at hx
      · rcases hH x hxb with h | ⟨y', z, h3, h4, h5⟩
        · simp [h] at hx
        · rw [h4] at hx
          simp only [Option.some.injEq] at hx
          subst hx
          obtain ⟨o', k1, k2⟩ := st.blk x y' h3
          refine ⟨o', k1, ?_⟩
          cases h5 with
          | same => exact k2.up hu
          | cells p xs ys hl' h =>
            cases k2 with
            | cells _ _ c' e' fr' hfr' hl'' ho' hc'' =>
              refine .cells _ _ _ _ _ hfr' (by omega) ho' fun i a v ha hv => ?_
              have hlt : i < xs.length := by rw [hl']; exact (List.getElem?_eq_some_iff.1 ha).1
              have hg : xs[i]? = some xs[i] := List.getElem?_eq_getElem hlt
              exact rv (h i _ a hg ha) (hc'' i _ v hg hv)
          | map p xs ys hl' h =>
            cases k2 with
            | map _ _ m clock hl'' hm =>
              refine .map _ _ _ _ (by omega) fun i a v ha hv => ?_
              have hlt : i < xs.length := by rw [hl']; exact (List.getElem?_eq_some_iff.1 ha).1
              have hg : xs[i]? = some xs[i] := List.getElem?_eq_getElem hlt
              exact ⟨rv (h i _ a hg ha).1 (hm i _ v hg hv).1, rv (h i _ a hg ha).2 (hm i _ v hg hv).2⟩

end Go.DL
