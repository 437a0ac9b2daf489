/- How the model's operations run over abstract values: new blocks, stores, append, copy. No statement of the seed is proved here. -/
import Derived.Test.YtdbikamciedfdaaDlF
namespace Go.DL
variable {P : Program} {F F' : Nat → Prop} {w w' : World} {H : Hp} {env : Env} {a : Act}

theorem run_newRow' (e : TypeId) (c : Array Value) (w : World) : (newRow e c).run P w = .ok ⟨w.heap.size, 0, none⟩ (w.alloc (.cells c e)) := by
  simp [newRow, World.alloc_eq]

theorem rb_new {cs : List AV} {c : Array Value} {e : TypeId} (h : RL F w cs c) : RB F w (.cells true cs) (.cells c e (0, 0)) :=
  .cells true cs c e (0, 0) (fun i _ => by simp) (by rw [h.len]; exact Nat.le_refl _) h.one h.at_

theorem up_alloc (F : Nat → Prop) (w : World) (o : Obj) : Up F w F (w.alloc o) ∨ True := .inr trivial

theorem up_alloc' (st : St F w H) (o : Obj) : Up F w F (w.alloc o) := by
  have hget : ∀ b, b < w.heap.size → (w.alloc o).heap[b]? = w.heap[b]? := fun b hb => by
    show (w.heap.push o)[b]? = _
    rw [Array.getElem?_push]
    simp [Nat.ne_of_lt hb]
  exact ⟨fun _ h => h, fun b hb => hget b (st.lt b hb), fun b c e fr hb => ⟨c, e, fr, by rw [hget b (Array.getElem?_eq_some_iff.1 hb).1]; exact hb, rfl⟩, by simp⟩

theorem new_row (st : St F w H) {cs : List AV} {c : Array Value} (e : TypeId) (h : RL F w cs c) :
    H w.heap.size = none ∧ Ext F w H F (w.alloc (.cells c e)) (hset H w.heap.size (.cells true cs)) ∧ St F (w.alloc (.cells c e)) (hset H w.heap.size (.cells true cs)) ∧
    (w.alloc (.cells c e)).heap[w.heap.size]? = some (.cells c e (0, 0)) := by
  obtain ⟨h1, h2⟩ := ext_alloc st (o := .cells c e) (rb_new (e := e) (h.up (up_alloc' st _))) st.size_none
  refine ⟨?_, h1, h2, by show (w.heap.push _)[w.heap.size]? = _; simp⟩
  cases hb : H w.heap.size with
  | none => rfl
  | some x => exact absurd (st.own_lt hb) (by omega)

theorem replicate_get {z : List AV} {n i : Nat} (hi : i < n * z.length) (hz : 0 < z.length) : (List.replicate n z).flatten[i]? = z[i % z.length]? := by
  induction n generalizing i with
  | zero => simp at hi
  | succ n ih =>
    rw [List.replicate_succ, List.flatten_cons, List.getElem?_append]
    split
    · rename_i h; rw [Nat.mod_eq_of_lt h]
    · rename_i h
      rw [ih (by rw [Nat.succ_mul] at hi; omega)]
      congr 1
      rw [Nat.mod_eq_sub_mod (by omega : i ≥ z.length)]

theorem flat_len {n : Nat} {z : List AV} : (List.replicate n z).flatten.length = n * z.length := by simp

/-- So many zero elements in a row. -/
theorem rl_zeros {z : List AV} {v : Array Value} {n : Nat} (h : RL F w z v) :
    RL F w (List.replicate n z).flatten ((Array.range (n * z.length)).map (v[· % v.size]!)) := by
  have hl := h.len
  have hget : ∀ i x, ((Array.range (n * z.length)).map (v[· % v.size]!))[i]? = some x → i < n * z.length ∧ 0 < z.length ∧ v[i % v.size]? = some x := fun i x hx => by
    simp only [Array.getElem?_map] at hx
    by_cases hi : i < n * z.length
    · have hz : 0 < z.length := by
        rcases Nat.eq_zero_or_pos z.length with h0 | h0
        · rw [h0] at hi; simp at hi
        · exact h0
      have hm : i % v.size < v.size := Nat.mod_lt _ (by omega)
      rw [Array.getElem?_eq_getElem (by simpa using hi)] at hx
      simp only [Array.getElem_range, Option.map_some, Option.some.injEq] at hx
      refine ⟨hi, hz, ?_⟩
      rw [← hx, getElem!_pos v _ hm]
      simp [hm]
    · rw [Array.getElem?_eq_none (by simpa using hi)] at hx
      simp at hx
  refine ⟨by simp, fun i x hx => h.one _ _ (hget i x hx).2.2, fun i c x hc hx => ?_⟩
  obtain ⟨h1, h2, h3⟩ := hget i x hx
  rw [replicate_get h1 h2] at hc
  rw [← hl] at h3
  exact h.at_ _ _ _ hc h3

theorem rl_nil : RL F w [] #[] := ⟨rfl, fun i v h => by simp at h, fun i c v h => by simp at h⟩

/-! ### Stores -/

theorem setCell_heap {b o : Nat} {c : Array Value} {e : TypeId} {fr : Nat × Nat} (h : w.heap[b]? = some (.cells c e fr)) (v : Value) :
    (w.setCell ⟨b, o, none⟩ v).heap = w.heap.setIfInBounds b (.cells (c.setIfInBounds o v) e fr) := by
  have hlt : b < w.heap.size := (Array.getElem?_eq_some_iff.1 h).1
  apply Array.ext_getElem?
  intro i
  simp only [World.setCell, Array.getElem?_modify, Array.getElem?_setIfInBounds]
  by_cases hi : b = i
  · subst hi
    have hg : w.heap[b] = .cells c e fr := (Array.getElem?_eq_some_iff.1 h).2
    simp [hlt]
    rw [hg]
  · simp [hi]

theorem run_storeCells' (b off : Nat) (e : TypeId) (fr : Nat × Nat) : ∀ (vs : List Value) (i : Nat) (w : World) (c : Array Value), w.heap[b]? = some (.cells c e fr) →
    (∀ j, j < c.size → (fr.1 ≤ j && j < fr.2) = false) → off + i + vs.length ≤ c.size → (∀ v ∈ vs, v.oneCell' = true) →
    ∃ w' c', (storeCells ⟨b, off, none⟩ vs i).run P w = .ok () w' ∧ (w'.heap = w.heap.setIfInBounds b (.cells c' e fr) ∧ SameIO w w') ∧ c'.size = c.size ∧
      ∀ k : Nat, c'[k]? = if off + i ≤ k ∧ k < off + i + vs.length then vs[k - (off + i)]? else c[k]?
  | [], i, w, c, hb, _, _, _ => by
    refine ⟨w, c, by simp [storeCells], ⟨?_, SameIO.refl w⟩, rfl, fun k => by simp; intro h1 h2; omega⟩
    apply Array.ext_getElem?
    intro j
    rw [Array.getElem?_setIfInBounds]
    split
    · rename_i hj; subst hj; rw [hb]; simp [(Array.getElem?_eq_some_iff.1 hb).1]
    · rfl
  | v :: vs, i, w, c, hb, hfr, hle, hone => by
    simp only [List.length_cons] at hle
    have hcell : w.cell? ⟨b, off + i, none⟩ = some c[off + i] := by simp [World.cell?, hb, show off + i < c.size by omega]
    have hfz : w.frozen? ⟨b, off + i, none⟩ = false := by
      have := hfr (off + i) (by omega)
      simp only [World.frozen?, hb]
      exact this
    have hheap := setCell_heap (o := off + i) hb v
    have hb' : (w.setCell ⟨b, off + i, none⟩ v).heap[b]? = some (.cells (c.setIfInBounds (off + i) v) e fr) := by
      rw [hheap]; simp [(Array.getElem?_eq_some_iff.1 hb).1]
    obtain ⟨w', c', h1, h2, h3, h4⟩ := run_storeCells' b off e fr vs (i + 1) (w.setCell ⟨b, off + i, none⟩ v) (c.setIfInBounds (off + i) v) hb'
      (fun j hj => hfr j (by simpa using hj)) (by rw [Array.size_setIfInBounds]; omega) (fun x hx => hone x (by simp [hx]))
    refine ⟨w', c', ?_, ⟨?_, SameIO.trans (w' := w.setCell ⟨b, off + i, none⟩ v) ⟨rfl, rfl, rfl⟩ h2.2⟩, by rw [h3]; simp, fun k => ?_⟩
    · simp only [storeCells, add_none, Sem.run_bind, run_store P w _ v _ (hone v (by simp)), hcell, hfz, Bool.false_eq_true, if_false, Result.andThen_ok, h1]
    · rw [h2.1, hheap]
      apply Array.ext_getElem?
      intro j
      simp only [Array.getElem?_setIfInBounds, Array.size_setIfInBounds]
      split <;> simp_all
    · rw [h4 k]
      by_cases hk : k = off + i
      · subst hk
        rw [if_neg (by omega), if_pos (by simp), Array.getElem?_setIfInBounds, if_pos rfl, if_pos (by omega)]
        simp
      · rw [Array.getElem?_setIfInBounds_ne (Ne.symm hk)]
        by_cases hk2 : off + (i + 1) ≤ k ∧ k < off + (i + 1) + vs.length
        · rw [if_pos hk2, if_pos (by simp; omega), show k - (off + i) = (k - (off + (i + 1))) + 1 by omega, List.getElem?_cons_succ]
        · rw [if_neg hk2, if_neg (by simp; omega)]

/-- Some cells of a block of the call's own are written. -/
theorem run_write (st : St F w H) {b off : Nat} {cs vs : List AV} {us : Array Value} (hb : H b = some (.cells true cs)) (hv : RL F w vs us) (hle : off + vs.length ≤ cs.length) :
    ∃ w', (storeCells ⟨b, off, none⟩ us.toList 0).run P w = .ok () w' ∧ Ext F w H F w' (hset H b (.cells true (splice cs off vs))) ∧ St F w' (hset H b (.cells true (splice cs off vs))) := by
  obtain ⟨o, ho, hr⟩ := st.blk b _ hb
  cases hr with
  | cells p cs c e fr hfr hl h1 h2 =>
    have hlen := hv.len
    obtain ⟨w', c', g1, g2, g3, g4⟩ := run_storeCells' (P := P) b off e fr us.toList 0 w c ho hfr (by simp; omega) (fun v hv' => by
      obtain ⟨i, hi⟩ := List.getElem?_of_mem hv'
      exact hv.one i v (by simpa using hi))
    refine ⟨w', g1, ?_⟩
    refine ext_turn st hb rfl ho g2.1 g2.2 (fun c0 e0 fr0 h => ?_) (fun F1 w1 hu => ?_)
    · cases h; exact ⟨c', e, fr, rfl, g3⟩
    · simp only [Array.length_toList, Array.getElem?_toList, Nat.add_zero] at g4
      have hgA : ∀ i, (splice cs off vs)[i]? = if off ≤ i ∧ i < off + vs.length then vs[i - off]? else cs[i]? := fun i => by
        unfold splice
        rw [List.append_assoc, List.getElem?_append, List.getElem?_append]
        have e1 : (List.take off cs).length = off := by simp; omega
        rw [e1]
        by_cases h3 : i < off
        · rw [if_pos h3, if_neg (by omega), List.getElem?_take, if_pos h3]
        · rw [if_neg h3]
          by_cases h4 : i - off < vs.length
          · rw [if_pos h4, if_pos (by omega)]
          · rw [if_neg h4, if_neg (by omega), List.getElem?_drop]
            congr 1; omega
      refine .cells true _ c' e fr (fun i hi => hfr i (by omega)) ?_ (fun i v hi => ?_) (fun i x v hx hi => ?_)
      · rw [g3]; unfold splice; simp; omega
      · rw [g4] at hi
        split at hi
        · exact hv.one _ _ hi
        · exact h1 _ _ hi
      · rw [g4] at hi
        rw [hgA] at hx
        split at hi
        · rename_i h3; rw [if_pos (by omega)] at hx; exact (hv.at_ _ _ _ hx hi).up hu
        · rename_i h3; rw [if_neg (by omega)] at hx; exact (h2 _ _ _ hx hi).up hu

theorem sim_store (st : St F w H) {t : TypeId} {n : Nat} {p x : AV} {vp vx : Value} {H' : Hp} (hn : szT P t = some n) (hp : Rv F w p vp) (hx : Rv F w x vx)
    (hs : storeA n H p x = some H') : ∃ w', (Instr.storeAt t vp vx).run P w = .ok () w' ∧ Ext F w H F w' H' ∧ St F w' H' := by
  cases hp with
  | pt b o =>
    simp only [storeA] at hs
    split at hs
    · rename_i cs vs hb hc
      split at hs
      · rename_i hle
        simp only [Option.some.injEq] at hs
        subst hs
        have hv := rl_cellsOf hx hc
        obtain ⟨w', h1, h2⟩ := run_write (P := P) st hb hv (off := o) (by omega)
        refine ⟨w', ?_, h2⟩
        have := hv.len
        simp only [Instr.storeAt, Instr.sureAddr, storeVar, Sem.run_bind, Sem.run_pure, Result.andThen_ok, run_sizeOf' hn, Sem.run_ite]
        rw [if_neg (by simp; omega)]
        exact h1
      · simp at hs
    · simp at hs
  | _ => simp [storeA] at hs

/-! ### Sources of append and copy -/

theorem lies_flatten {rows : List (List AV)} {blk off s : Nat} (h : ∀ (i : Nat) (r : List AV), rows[i]? = some r → r.length = s ∧ Lies F w r blk (off + i * s)) : Lies F w rows.flatten blk off := by
  induction rows generalizing off with
  | nil => intro j c hj; simp at hj
  | cons r rows ih =>
    intro j c hj
    obtain ⟨hr, hl⟩ := h 0 r rfl
    rw [List.flatten_cons, List.getElem?_append] at hj
    split at hj
    · have := hl j c hj
      simpa using this
    · have := ih (off := off + s) (fun i r' hi => by
        obtain ⟨h1, h2⟩ := h (i + 1) r' (by simpa using hi)
        refine ⟨h1, ?_⟩
        rw [show off + s + i * s = off + (i + 1) * s by rw [Nat.succ_mul]; omega]
        exact h2) (j - r.length) c hj
      obtain ⟨v, h1, h2⟩ := this
      refine ⟨v, ?_, h2⟩
      rw [← h1]
      congr 2
      omega

theorem flatten_len {rows : List (List AV)} {s : Nat} (h : ∀ r ∈ rows, r.length = s) : rows.flatten.length = rows.length * s := by
  induction rows with
  | nil => simp
  | cons r rows ih => rw [List.flatten_cons, List.length_append, ih (fun x hx => h x (by simp [hx])), h r (by simp), List.length_cons, Nat.succ_mul]; omega

theorem sim_src (st : St F w H) {s : Nat} {y : AV} {vy : Value} {n : Nat} {new : List AV} (hy : Rv F w y vy) (hs : srcA s H y = some (n, new)) :
    (Builtin.lenOf vy).run P w = .ok n w ∧ new.length = n * s ∧ ∃ us, (Builtin.firstCells s n vy).run P w = .ok us w ∧ RL F w new us ∧
      ∀ m, m ≤ n → ∃ us', (Builtin.firstCells s m vy).run P w = .ok us' w ∧ RL F w (new.take (m * s)) us' := by
  have fin : ∀ (b o len : Nat) (cap : Nat) (new : List AV), new.length = len * s → Lies F w new b o → ∀ m, m ≤ len →
      ∃ us', (Builtin.firstCells s m (.slice (some ⟨b, o, none⟩) len cap)).run P w = .ok us' w ∧ RL F w (new.take (m * s)) us' := by
    intro b o len cap new hl hL m hm
    have h1 := hL.take (m * s)
    obtain ⟨us, h2, h3⟩ := run_loadCells_lies (P := P) h1
    have e : (new.take (m * s)).length = m * s := by
      have := Nat.mul_le_mul_right s hm
      simp; omega
    rw [e] at h2
    exact ⟨us, by simpa [Builtin.firstCells] using h2, h3⟩
  cases hy with
  | nilsl =>
    simp only [srcA, Option.some.injEq, Prod.mk.injEq] at hs
    obtain ⟨rfl, rfl⟩ := hs
    exact ⟨by simp [Builtin.lenOf], by simp, #[], by simp [Builtin.firstCells], rl_nil, fun m hm => ⟨#[], by simp [Builtin.firstCells], by simpa using rl_nil⟩⟩
  | fs0 a0 cap =>
    simp only [srcA, List.all_nil, if_true, Option.some.injEq, Prod.mk.injEq, List.length_nil, List.flatten_nil] at hs
    obtain ⟨rfl, rfl⟩ := hs
    refine ⟨by simp [Builtin.lenOf], by simp, #[], ?_, rl_nil, fun m hm => ⟨#[], ?_, by simpa using rl_nil⟩⟩
    · cases a0 <;> simp [Builtin.firstCells, loadCells, loadCellsFrom]
    · obtain rfl : m = 0 := by omega
      cases a0 <;> simp [Builtin.firstCells, loadCells, loadCellsFrom]
  | fs rows blk off s' cap g hcap hF hs' hc ho h =>
    simp only [srcA] at hs
    split at hs
    · rename_i hall
      simp only [Option.some.injEq, Prod.mk.injEq] at hs
      obtain ⟨rfl, rfl⟩ := hs
      have hrow : ∀ r ∈ rows, r.length = s := fun r hr => by simpa using List.all_eq_true.1 hall r hr
      have hL : Lies F w rows.flatten blk off := lies_flatten (s := s) fun i r hi => by
        have hm := List.mem_of_getElem? hi
        have e : s' = s := by rw [← hs' r hm, hrow r hm]
        subst e
        exact ⟨hrow r hm, fun j c hj => ⟨g i j, hc i r j c hi hj, ho i j, h i r j c hi hj⟩⟩
      have hl := flatten_len hrow
      have f := fin blk off rows.length cap rows.flatten hl hL
      obtain ⟨us, h1, h2⟩ := f rows.length (Nat.le_refl _)
      exact ⟨by simp [Builtin.lenOf], hl, us, h1, by rw [List.take_of_length_le (by omega)] at h2; exact h2, f⟩
    · simp at hs
  | sl b o s' len cap c e fr hb hcap hlen =>
    simp only [srcA] at hs
    split at hs
    · rename_i p cs hH
      split at hs
      · rename_i hle
        simp only [Option.some.injEq, Prod.mk.injEq] at hs
        obtain ⟨rfl, rfl⟩ := hs
        have hL : Lies F w ((cs.drop o).take (len * s)) b o := by
          have := ((lies_cells st hH).drop o).take (len * s)
          rwa [Nat.zero_add] at this
        have hl : ((cs.drop o).take (len * s)).length = len * s := by simp; omega
        have f := fin b o len cap _ hl hL
        obtain ⟨us, h1, h2⟩ := f len (Nat.le_refl _)
        refine ⟨by simp [Builtin.lenOf], hl, us, h1, ?_, f⟩
        rw [List.take_of_length_le (by omega)] at h2
        exact h2
      · simp at hs
    · simp at hs
  | _ => simp [srcA] at hs

end Go.DL
