/- How the model's operations run over abstract values: equality of structs and arrays of plain cells. No statement of the seed is proved here. -/
import Derived.Test.YtdbikamciedfdaaDlE
import Derived.Laws.StructEq
namespace Go.DL
variable {P : Program} {F F' : Nat → Prop} {w w' : World} {H : Hp} {env : Env} {a : Act}

def cellV : Nat → Option Value → Option Value → Option Bool
  | 0, some (.int k a), some (.int k' b) => if k = k' then some (a == b) else none
  | 1, some (.bool a), some (.bool b) => some (a == b)
  | 2, some (.string a), some (.string b) => some (a == b)
  | _, _, _ => none

theorem cellV_of {k : Nat} {x y : AV} {v u : Value} {b : Bool} (h : cellEq k x y = some b) (hv : Rv F w x v) (hu : Rv F w y u) : cellV k (some v) (some u) = some b := by
  unfold cellEq at h
  split at h
  · cases hv; cases hu; exact h
  · cases hv; cases hu; exact h
  · cases hv; cases hu; exact h
  · simp at h

/-- Cell by cell. -/
theorem cellsEq_at : ∀ {ks : List Nat} {cs ds : List AV} {b : Bool}, cellsEq ks cs ds = some b → ks.length = cs.length ∧ ks.length = ds.length ∧
    ∃ r : Nat → Bool, (∀ (i k : Nat) (x y : AV), ks[i]? = some k → cs[i]? = some x → ds[i]? = some y → cellEq k x y = some (r i)) ∧ b = (List.range ks.length).all r
  | [], [], [], b, h => by simp [cellsEq] at h; subst h; exact ⟨rfl, rfl, fun _ => true, by simp, by simp⟩
  | k :: ks, x :: cs, y :: ds, b, h => by
    simp only [cellsEq] at h
    split at h
    · rename_i x' y' h1 h2
      simp only [Option.some.injEq] at h
      obtain ⟨e1, e2, r, h3, h4⟩ := cellsEq_at h2
      refine ⟨by simp [e1], by simp [e2], fun i => match i with | 0 => x' | i + 1 => r i, fun i k' x0 y0 hk hx hy => ?_, ?_⟩
      · cases i with
        | zero => simp at hk hx hy; subst hk hx hy; exact h1
        | succ i => simp at hk hx hy; exact h3 i k' x0 y0 hk hx hy
      · rw [← h, h4]
        simp only [List.length_cons, List.range_succ_eq_map, List.all_cons, List.all_map]
        rfl
    · simp at h
  | [], [], _ :: _, _, h => by simp [cellsEq] at h
  | [], _ :: _, _, _, h => by simp [cellsEq] at h
  | _ :: _, [], _, _, h => by simp [cellsEq] at h
  | _ :: _, _ :: _, [], _, h => by simp [cellsEq] at h

def eqElems (d : Nat) (e : TypeId) (n : Nat) (xs ys : Array Value) : List Nat → Sem Bool
  | [] => pure true
  | i :: is => do
    let a ← part e xs (i * n)
    let b ← part e ys (i * n)
    let r ← Op.equalIn d e a b
    if (!r) = true then pure false else eqElems d e n xs ys is

theorem run_equalIn_array (w : World) (d : Nat) {t e : TypeId} {len n : Nat} (xs ys : Array Value) (ht : P.underlying t = some (.array len e)) (hn : szT P e = some n) :
    (Op.equalIn (d + 1) t (.agg xs) (.agg ys)).run P w = (eqElems d e n xs ys (List.range len)).run P w := by
  simp only [Op.equalIn, Sem.run_bind, run_underlying ht, Result.andThen_ok, run_sizeOf' hn]
  rw [Std.Legacy.Range.forIn_eq_forIn_range']
  simp only [Std.Legacy.Range.size, Nat.sub_zero, Nat.add_sub_cancel, Nat.div_one]
  rw [← List.range_eq_range']
  generalize List.range len = is
  clear ht
  induction is generalizing w with
  | nil => simp [eqElems]
  | cons i is ih =>
    simp only [List.forIn_cons, eqElems, Sem.run_bind, Sem.run_ite]
    generalize (part e xs (i * n)).run P w = r1
    cases r1 with
    | ok a w1 =>
      simp only [Result.andThen_ok]
      generalize (part e ys (i * n)).run P w1 = r2
      cases r2 with
      | ok b w2 =>
        simp only [Result.andThen_ok]
        generalize (Op.equalIn d e a b).run P w2 = r3
        cases r3 with
        | ok r w3 =>
          cases r
          · simp only [Result.andThen_ok, Bool.not_false, if_true, Sem.run_pure]
          · simp only [Result.andThen_ok, Bool.not_true, Bool.false_eq_true, if_false, Sem.run_pure]
            exact ih w3
        | halt x w3 => simp [Result.andThen]
      | halt x w2 => simp [Result.andThen]
    | halt x w1 => simp [Result.andThen]

theorem run_part_cell {t : TypeId} {xs : Array Value} {o : Nat} {v : Value} (hg : isAggT P t = some false) (hv : xs[o]? = some v) (w : World) : (part t xs o).run P w = .ok v w := by
  simp [part, run_isAgg' hg, hv]
theorem run_part_agg {t : TypeId} {xs : Array Value} {o n : Nat} (hg : isAggT P t = some true) (hn : szT P t = some n) (w : World) : (part t xs o).run P w = .ok (.agg (xs.extract o (o + n))) w := by
  simp [part, run_isAgg' hg, run_sizeOf' hn]

theorem extract_get {xs : Array Value} {b n o : Nat} (h : o < n) : (xs.extract b (b + n))[o]? = xs[b + o]? := by
  rw [Array.getElem?_extract]
  by_cases h1 : b + o < xs.size
  · rw [if_pos (by omega)]
  · rw [if_neg (by omega), Array.getElem?_eq_none (by omega)]

/-- What equality asks of two values of a type of plain cells. -/
def FlatRun (P : Program) (w : World) (D : Nat) (t : TypeId) (l : List (Nat × Nat)) : Prop :=
  ∀ (xs ys : Array Value) (base : Nat) (r : Nat → Bool), (∀ p ∈ l, cellV p.2 xs[base + p.1]? ys[base + p.1]? = some (r p.1)) →
    ∃ va vb, (part t xs base).run P w = .ok va w ∧ (part t ys base).run P w = .ok vb w ∧ (Op.equalIn D t va vb).run P w = .ok (l.all fun p => r p.1) w

theorem flat_run (w : World) : ∀ (d : Nat) (t : TypeId) (l : List (Nat × Nat)), flatL P d t = some l → ∀ D, d ≤ D → FlatRun P w D t l
  | 0, _, _, h => by simp [flatL] at h
  | d + 1, t, l, h => by
    intro D hD xs ys base r hr
    obtain ⟨D, rfl⟩ : ∃ k, D = k + 1 := ⟨D - 1, by omega⟩
    unfold flatL at h
    split at h
    · rename_i hu
      simp only [Option.some.injEq] at h; subst h
      have h0 := hr (0, 1) (by simp)
      have hg : isAggT P t = some false := by simp [isAggT, hu]
      simp only [Nat.add_zero] at h0
      unfold cellV at h0
      split at h0 <;> simp_all
      rename_i a b e1 e2
      exact ⟨_, run_part_cell hg e1 w, _, run_part_cell hg e2 w, by rw [run_equalIn_bool' w D t a b hu, h0]⟩
    · rename_i k0 hu
      simp only [Option.some.injEq] at h; subst h
      have h0 := hr (0, 0) (by simp)
      have hg : isAggT P t = some false := by simp [isAggT, hu]
      simp only [Nat.add_zero] at h0
      unfold cellV at h0
      split at h0 <;> simp_all
      rename_i e1 e2
      obtain ⟨rfl, h0⟩ := h0
      exact ⟨_, run_part_cell hg e1 w, _, run_part_cell hg e2 w, by rw [run_equalIn_int w D t _ k0 _ _ hu, h0]⟩
    · rename_i hu
      simp only [Option.some.injEq] at h; subst h
      have h0 := hr (0, 2) (by simp)
      have hg : isAggT P t = some false := by simp [isAggT, hu]
      simp only [Nat.add_zero] at h0
      unfold cellV at h0
      split at h0 <;> simp_all
      rename_i a b e1 e2
      exact ⟨_, run_part_cell hg e1 w, _, run_part_cell hg e2 w, by rw [run_equalIn_string w D t a b hu, ← beq_toListBytes, h0]⟩
    · rename_i fs hu
      split at h
      · simp at h
      rename_i hst
      split at h
      · rename_i n ls hn hls
        split at h
        · rename_i hall
          simp only [Option.some.injEq] at h; subst h
          have hg : isAggT P t = some true := by simp [isAggT, hu]
          refine ⟨_, _, run_part_agg hg hn w, run_part_agg hg hn w, ?_⟩
          have hfo : P.fieldsOf t = fs := by simp [Program.fieldsOf, hu]
          rw [run_equalIn_struct w D t _ _ (by rw [hfo]; exact hu) (by simpa using hst), hfo]
          have hlt : ∀ p ∈ ls.flatten, p.1 < n := fun p hp => by simpa using List.all_eq_true.1 hall p hp
          clear hall hu hst hfo hg
          generalize fs.toList = fl at hls
          induction fl generalizing ls with
          | nil => simp at hls; subst hls; simp [Op.eqFields]
          | cons f fl ih =>
            simp only [List.mapM_cons, Option.bind_eq_bind, Option.bind_eq_some_iff, Option.pure_def, Option.some.injEq] at hls
            obtain ⟨l1, h1, ls', h2, rfl⟩ := hls
            split at h1
            · simp at h1
            rename_i hname
            cases hf : flatL P d f.type with
            | none => simp [hf] at h1
            | some l0 =>
              simp only [hf, Option.map_some, Option.some.injEq] at h1
              subst h1
              obtain ⟨va, vb, e1, e2, e3⟩ := flat_run w d f.type l0 hf D (by omega) (xs.extract base (base + n)) (ys.extract base (base + n)) f.offset (fun o => r (f.offset + o)) (fun p hp => by
                have hm : (f.offset + p.1, p.2) ∈ ((l0.map fun p => (f.offset + p.1, p.2)) :: ls').flatten := by simp only [List.flatten_cons, List.mem_append, List.mem_map]; exact .inl ⟨p, hp, rfl⟩
                have := hr _ hm
                have hlt' := hlt _ hm
                simp only at hlt'
                rw [extract_get hlt', extract_get hlt']
                exact this)
              have ih' := ih ls' (fun p hp => hr p (by simp only [List.flatten_cons, List.mem_append]; exact .inr hp)) (fun p hp => hlt p (by simp only [List.flatten_cons, List.mem_append]; exact .inr hp)) h2
              simp only [Op.eqFields, ne_eq, hname, not_false_eq_true, if_true, Sem.run_bind, e1, Result.andThen_ok, e2, e3, Sem.run_ite]
              simp only [List.flatten_cons, List.all_append, List.all_map]
              cases hb : (l0.all fun p => r (f.offset + p.1)) with
              | true =>
                simp only [Bool.not_true, Bool.false_eq_true, if_false]
                rw [ih']
                have : (l0.all ((fun p => r p.1) ∘ fun p => (f.offset + p.1, p.2))) = true := hb
                rw [this]; simp
              | false =>
                simp only [Bool.not_false, if_true, Sem.run_pure]
                have : (l0.all ((fun p => r p.1) ∘ fun p => (f.offset + p.1, p.2))) = false := hb
                rw [this]; simp
        · simp at h
      · simp at h
    · rename_i len e hu
      split at h
      · rename_i n s l0 hn hs hl0
        dsimp only at h
        split at h
        · rename_i hall
          simp only [Option.some.injEq] at h; subst h
          have hg : isAggT P t = some true := by simp [isAggT, hu]
          refine ⟨_, _, run_part_agg hg hn w, run_part_agg hg hn w, ?_⟩
          rw [run_equalIn_array w D _ _ hu hs]
          have hlt : ∀ p ∈ (List.range len).flatMap (fun i => l0.map fun p => (i * s + p.1, p.2)), p.1 < n := fun p hp => by simpa using List.all_eq_true.1 hall p hp
          clear hall hu hg
          generalize List.range len = is at hr hlt
          induction is with
          | nil => simp [eqElems]
          | cons i is ih =>
            obtain ⟨va, vb, e1, e2, e3⟩ := flat_run w d e l0 hl0 D (by omega) (xs.extract base (base + n)) (ys.extract base (base + n)) (i * s) (fun o => r (i * s + o)) (fun p hp => by
              have hm : (i * s + p.1, p.2) ∈ (i :: is).flatMap (fun i => l0.map fun p => (i * s + p.1, p.2)) := by simp only [List.flatMap_cons, List.mem_append, List.mem_map]; exact .inl ⟨p, hp, rfl⟩
              have := hr _ hm
              have hlt' := hlt _ hm
              simp only at hlt'
              rw [extract_get hlt', extract_get hlt']
              exact this)
            have ih' := ih (fun p hp => hr p (by simp only [List.flatMap_cons, List.mem_append]; exact .inr hp)) (fun p hp => hlt p (by simp only [List.flatMap_cons, List.mem_append]; exact .inr hp))
            simp only [eqElems, Sem.run_bind, e1, Result.andThen_ok, e2, e3, Sem.run_ite]
            simp only [List.flatMap_cons, List.all_append, List.all_map]
            cases hb : (l0.all fun p => r (i * s + p.1)) with
            | true =>
              simp only [Bool.not_true, Bool.false_eq_true, if_false]
              rw [ih']
              have : (l0.all ((fun p => r p.1) ∘ fun p => (i * s + p.1, p.2))) = true := hb
              rw [this]; simp
            | false =>
              simp only [Bool.not_false, if_true, Sem.run_pure]
              have : (l0.all ((fun p => r p.1) ∘ fun p => (i * s + p.1, p.2))) = false := hb
              rw [this]; simp
        · simp at h
      · simp at h
    · simp at h

theorem sim_eqag {op : BinOp} {neg : Bool} {t : TypeId} {ks : List Nat} {x y : Operand} {cs ds : List AV} {b : Bool} {vx vy : Value} (hk : kindsT P t = some ks)
    (hx : Rv F w (.agg cs) vx) (hy : Rv F w (.agg ds) vy) (hb : cellsEq ks cs ds = some b) (hop : (op = .eql ∧ neg = false) ∨ (op = .neq ∧ neg = true)) :
    ((do eqGuard op t x y vx vy; binOp op t vx vy) : Sem Value).run P w = .ok (.bool (if neg then !b else b)) w := by
  unfold kindsT at hk
  split at hk
  · simp at hk
  rename_i hgd
  split at hk
  · rename_i l hg hl
    split at hk
    · rename_i hrange
      obtain ⟨hrange, hsz⟩ := hrange
      simp only [Option.some.injEq] at hk
      cases hx with
      | agg _ xs hlx hox hax =>
      cases hy with
      | agg _ ys hly hoy hay =>
      obtain ⟨e1, e2, r, h1, h2⟩ := cellsEq_at hb
      have hkl : ks.length = l.length := by rw [← hk]; simp
      have hfst : ∀ (i : Nat) (p : Nat × Nat), l[i]? = some p → p.1 = i := fun i p hp => by
        have : (l.map (·.1))[i]? = some p.1 := by simp [hp]
        rw [hrange] at this
        have hi : i < l.length := (List.getElem?_eq_some_iff.1 hp).1
        simp [hi] at this
        exact this.symm
      have hall : (l.all fun p => r p.1) = b := by
        rw [h2, hkl, ← hrange, List.all_map]; rfl
      have hflat := flat_run (P := P) w 100 t l hl 10000 (by omega) xs ys 0 r (fun p hp => by
        obtain ⟨i, hi⟩ := List.getElem?_of_mem hp
        have hpi := hfst i p hi
        have hil : i < l.length := (List.getElem?_eq_some_iff.1 hi).1
        have hki : ks[i]? = some p.2 := by rw [← hk]; simp [hi]
        have hxi : i < cs.length := by omega
        have hyi : i < ds.length := by omega
        have hxs : i < xs.size := by omega
        have hys : i < ys.size := by omega
        rw [Nat.zero_add, hpi, Array.getElem?_eq_getElem hxs, Array.getElem?_eq_getElem hys]
        exact cellV_of (h1 i p.2 cs[i] ds[i] hki (by simp [hxi]) (by simp [hyi])) (hax i _ _ (by simp [hxi]) (by simp [hxs])) (hay i _ _ (by simp [hyi]) (by simp [hys])))
      -- the two values are the whole of their types
      have hb' : (Op.equalIn 10000 t (.agg xs) (.agg ys)).run P w = .ok b w := by
        obtain ⟨va, vb, f1, f2, f3⟩ := hflat
        rw [hall] at f3
        rw [run_part_agg hg hsz] at f1 f2
        have x1 : xs.extract 0 (0 + l.length) = xs := by rw [Nat.zero_add, show l.length = xs.size by omega]; simp
        have x2 : ys.extract 0 (0 + l.length) = ys := by rw [Nat.zero_add, show l.length = ys.size by omega]; simp
        rw [x1] at f1
        rw [x2] at f2
        simp only [Result.ok.injEq, and_true] at f1 f2
        subst f1 f2
        exact f3
      rcases hop with ⟨rfl, rfl⟩ | ⟨rfl, rfl⟩
      · simp only [Sem.run_bind, run_eqGuard_agg w _ t x y xs ys (by simpa using hgd), Result.andThen_ok, run_eql_struct, hb']; simp
      · simp only [Sem.run_bind, run_eqGuard_agg w _ t x y xs ys (by simpa using hgd), Result.andThen_ok, run_neq_struct, hb']; simp
    · simp at hk
  · simp at hk

end Go.DL
