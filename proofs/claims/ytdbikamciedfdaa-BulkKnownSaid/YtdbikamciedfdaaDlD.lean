/- How the model's small steps run over abstract values: lists of cells, loads, stores. No statement of the seed is proved here. -/
import Derived.Test.YtdbikamciedfdaaDlC
namespace Go.DL
variable {P : Program} {F F' : Nat → Prop} {w w' : World} {H : Hp} {env : Env} {a : Act}

/-- A row of cells. -/
structure RL (F : Nat → Prop) (w : World) (cs : List AV) (vs : Array Value) : Prop where
  len : cs.length = vs.size
  one : ∀ (i : Nat) (v : Value), vs[i]? = some v → v.oneCell' = true
  at_ : ∀ (i : Nat) (c : AV) (v : Value), cs[i]? = some c → vs[i]? = some v → Rv F w c v

theorem RL.up {cs : List AV} {vs : Array Value} (hu : Up F w F' w') (h : RL F w cs vs) : RL F' w' cs vs :=
  ⟨h.len, h.one, fun i c v h1 h2 => (h.at_ i c v h1 h2).up hu⟩

theorem rv_ofVal1 (v : Value) : Rv F w (ofVal1 v) v := by
  unfold ofVal1
  split <;> constructor

theorem rl_ofVal {vs : Array Value} (h : oneCells vs = true) : RL F w (vs.toList.map ofVal1) vs := by
  refine ⟨by simp, fun i v hv => ?_, fun i c v hc hv => ?_⟩
  · have := List.all_eq_true.1 h v (by rw [Array.mem_toList_iff]; exact Array.mem_of_getElem? hv)
    exact this
  · simp only [List.getElem?_map, Array.getElem?_toList, hv, Option.map_some, Option.some.injEq] at hc
    rw [← hc]; exact rv_ofVal1 v

theorem rv_ofVal (v : Value) : Rv F w (ofVal v) v := by
  unfold ofVal
  split
  · split
    · rename_i h
      have := rl_ofVal (F := F) (w := w) h
      exact .agg _ _ this.len this.one this.at_
    · exact .any _
  · exact rv_ofVal1 v

theorem rv_co (re : RE F w env a) {x : Operand} {y : AO} (h : co x = some y) : Rv F w (evA env y) (a.eval x) := by
  cases x with
  | tmp t => simp only [co, Option.some.injEq] at h; subst h; exact re t
  | const v => simp only [co, Option.some.injEq] at h; subst h; exact rv_ofVal v
  | func f =>
    simp only [co, Option.some.injEq] at h; subst h
    exact .fn _ _ _ _ _ rfl rfl (fun i c v h => by simp at h) (fun i c v h => by simp at h)
  | global g => simp [co] at h

theorem rl_cellsOf {v : AV} {c : Value} {cs : List AV} (h : Rv F w v c) (hc : cellsOf v = some cs) : RL F w cs c.cells := by
  have single : ∀ {v : AV} {c : Value}, Rv F w v c → c.cells = #[c] → c.oneCell' = true → RL F w [v] c.cells := by
    intro v c h h1 h2
    rw [h1]
    refine ⟨rfl, fun i x hx => ?_, fun i d x hd hx => ?_⟩
    · cases i with
      | zero => simp at hx; subst hx; exact h2
      | succ i => simp at hx
    · cases i with
      | zero => simp at hx hd; subst hx; subst hd; exact h
      | succ i => simp at hx
  cases h with
  | agg cs' vs hl ho h => simp only [cellsOf, Option.some.injEq] at hc; subst hc; exact ⟨hl, ho, h⟩
  | tup => simp [cellsOf] at hc
  | any => simp [cellsOf] at hc
  | int k n => simp only [cellsOf, Option.some.injEq] at hc; subst hc; exact single (.int k n) rfl rfl
  | bool b => simp only [cellsOf, Option.some.injEq] at hc; subst hc; exact single (.bool b) rfl rfl
  | str s => simp only [cellsOf, Option.some.injEq] at hc; subst hc; exact single (.str s) rfl rfl
  | fs0 a cap => simp only [cellsOf, Option.some.injEq] at hc; subst hc; exact single (.fs0 a cap) rfl rfl
  | fs rows blk off s cap g hcap hF hs hc' ho h => simp only [cellsOf, Option.some.injEq] at hc; subst hc; exact single (.fs rows blk off s cap g hcap hF hs hc' ho h) rfl rfl
  | fp rows i o blk off s g hF hs hc' ho h => simp only [cellsOf, Option.some.injEq] at hc; subst hc; exact single (.fp rows i o blk off s g hF hs hc' ho h) rfl rfl
  | sl b off s len cap c e fr hb h1 h2 => simp only [cellsOf, Option.some.injEq] at hc; subst hc; exact single (.sl b off s len cap c e fr hb h1 h2) rfl rfl
  | pt b off => simp only [cellsOf, Option.some.injEq] at hc; subst hc; exact single (.pt b off) rfl rfl
  | mp b => simp only [cellsOf, Option.some.injEq] at hc; subst hc; exact single (.mp b) rfl rfl
  | nilsl => simp only [cellsOf, Option.some.injEq] at hc; subst hc; exact single .nilsl rfl rfl
  | nilpt => simp only [cellsOf, Option.some.injEq] at hc; subst hc; exact single .nilpt rfl rfl
  | nilmap => simp only [cellsOf, Option.some.injEq] at hc; subst hc; exact single .nilmap rfl rfl
  | fn f first cap fv cv hl1 hl2 h1 h2 => simp only [cellsOf, Option.some.injEq] at hc; subst hc; exact single (.fn f first cap fv cv hl1 hl2 h1 h2) rfl rfl
  | nilfn => simp only [cellsOf, Option.some.injEq] at hc; subst hc; exact single .nilfn rfl rfl
  | ifc t a v h => simp only [cellsOf, Option.some.injEq] at hc; subst hc; exact single (.ifc t a v h) rfl rfl
  | nilifc => simp only [cellsOf, Option.some.injEq] at hc; subst hc; exact single .nilifc rfl rfl

/-! ### What lies in memory -/

/-- Some cells stand in a row at a place. -/
def Lies (F : Nat → Prop) (w : World) (cs : List AV) (b o : Nat) : Prop :=
  ∀ (j : Nat) (c : AV), cs[j]? = some c → ∃ v, w.cell? ⟨b, o + j, none⟩ = some v ∧ v.oneCell' = true ∧ Rv F w c v

theorem lies_cells (st : St F w H) {b : Nat} {p : Bool} {cs : List AV} (hb : H b = some (.cells p cs)) : Lies F w cs b 0 := by
  obtain ⟨o, ho, hr⟩ := st.blk b _ hb
  cases hr with
  | cells p cs c e fr hfr hl h1 h2 =>
    intro j x hj
    have hlt : j < c.size := by have := (List.getElem?_eq_some_iff.1 hj).1; omega
    refine ⟨c[j], ?_, h1 j _ (by simp [hlt]), h2 j x _ hj (by simp [hlt])⟩
    simp [World.cell?, ho, hlt]

theorem Lies.drop {cs : List AV} {b o : Nat} (h : Lies F w cs b o) (n : Nat) : Lies F w (cs.drop n) b (o + n) := fun j c hj => by
  rw [List.getElem?_drop] at hj
  obtain ⟨v, h1, h2⟩ := h (n + j) c hj
  exact ⟨v, by rw [← h1]; congr 2; omega, h2⟩
theorem Lies.take {cs : List AV} {b o : Nat} (h : Lies F w cs b o) (n : Nat) : Lies F w (cs.take n) b o := fun j c hj => by
  have h1 : cs[j]? = some c := by
    rw [List.getElem?_take] at hj
    split at hj
    · exact hj
    · simp at hj
  exact h j c h1

theorem add_none (b o n : Nat) : (⟨b, o, none⟩ : Addr).add n = ⟨b, o + n, none⟩ := by
  unfold Addr.add
  split
  · rename_i h; subst h; rfl
  · rfl

/-- A row of cells is loaded. -/
theorem run_loadCells_lies {cs : List AV} {b o : Nat} (h : Lies F w cs b o) : ∃ vs, (loadCells ⟨b, o, none⟩ cs.length).run P w = .ok vs w ∧ RL F w cs vs := by
  have hf : ∀ j, ∃ v, j < cs.length → w.cell? ⟨b, o + j, none⟩ = some v ∧ v.oneCell' = true ∧ ∀ c, cs[j]? = some c → Rv F w c v := by
    intro j
    by_cases hj : j < cs.length
    · obtain ⟨v, h1, h2, h3⟩ := h j cs[j] (by simp [hj])
      exact ⟨v, fun _ => ⟨h1, h2, fun c hc => by simp [hj] at hc; rw [← hc]; exact h3⟩⟩
    · exact ⟨undef, fun h => absurd h hj⟩
  have ⟨f, hf⟩ := Classical.axiomOfChoice hf
  refine ⟨_, run_loadCells w ⟨b, o, none⟩ cs.length f (fun j hj => by rw [add_none]; exact (hf j hj).1), ?_⟩
  have hget : ∀ i v, ((List.range cs.length).map f).toArray[i]? = some v → i < cs.length ∧ v = f i := fun i v hv => by
    simp only [List.getElem?_toArray, List.getElem?_map] at hv
    by_cases hi : i < cs.length
    · simp [hi] at hv; exact ⟨hi, hv.symm⟩
    · simp [List.getElem?_eq_none, hi] at hv
  refine ⟨by simp, fun i v hv => ?_, fun i c v hc hv => ?_⟩
  · obtain ⟨hi, rfl⟩ := hget i v hv; exact (hf i hi).2.1
  · obtain ⟨hi, rfl⟩ := hget i v hv; exact (hf i hi).2.2 c hc

theorem info_of {t : TypeId} {n : Nat} (h : szT P t = some n) : ∃ i, P.info? t = some i ∧ i.size = n := by
  unfold szT at h
  cases hi : P.info? t with
  | none => simp [hi] at h
  | some i => simp [hi] at h; exact ⟨i, rfl, h⟩

theorem run_sizeOf' {t : TypeId} {n : Nat} (h : szT P t = some n) (w : World) : (sizeOf t).run P w = .ok n w := by
  obtain ⟨i, hi, rfl⟩ := info_of h
  simp [sizeOf, typeInfo, hi]

theorem run_isAgg' {t : TypeId} {g : Bool} (h : isAggT P t = some g) (w : World) : (isAgg t).run P w = .ok g w := by
  unfold isAggT at h
  cases hu : P.underlying t with
  | none => simp [hu] at h
  | some d =>
    simp only [hu] at h
    simp only [isAgg, Sem.run_bind, run_underlying hu, Result.andThen_ok]
    cases d <;> simp_all

/-- A variable is loaded. -/
theorem run_loadVar_lies {t : TypeId} {g : Bool} {n : Nat} {cs : List AV} {b o k : Nat} {v : AV} (hg : isAggT P t = some g) (hn : szT P t = some n)
    (h : Lies F w cs b o) (hr : readA g n cs k = some v) : ∃ c, (loadVar t ⟨b, o + k, none⟩).run P w = .ok c w ∧ Rv F w v c := by
  unfold readA at hr
  cases g with
  | true =>
    simp only [if_true] at hr
    split at hr
    · rename_i hle
      simp only [Option.some.injEq] at hr
      subst hr
      have h1 := (h.drop k).take n
      have hl : ((cs.drop k).take n).length = n := by simp; omega
      obtain ⟨vs, h2, h3⟩ := run_loadCells_lies (P := P) h1
      rw [hl] at h2
      refine ⟨.agg vs, ?_, .agg _ _ h3.len h3.one h3.at_⟩
      simp only [loadVar, Sem.run_bind, run_isAgg' hg, Result.andThen_ok, if_true, run_sizeOf' hn, h2, Sem.run_pure]
    · simp at hr
  | false =>
    simp only [Bool.false_eq_true, if_false] at hr
    obtain ⟨x, h1, _, h3⟩ := h k v hr
    refine ⟨x, ?_, h3⟩
    simp only [loadVar, Sem.run_bind, run_isAgg' hg, Result.andThen_ok, Bool.false_eq_true, if_false, run_load, h1]

theorem run_loadA {t : TypeId} {g : Bool} {n : Nat} {p v : AV} {x : Value} (st : St F w H) (hg : isAggT P t = some g) (hn : szT P t = some n)
    (hp : Rv F w p x) (hr : loadA g n H p = some v) : ∃ c, (Instr.loadAt t x).run P w = .ok c w ∧ Rv F w v c := by
  cases hp with
  | pt b o =>
    simp only [loadA] at hr
    split at hr
    · rename_i p cs hb
      have := lies_cells st hb
      obtain ⟨c, h1, h2⟩ := run_loadVar_lies (P := P) (k := o) hg hn this hr
      rw [Nat.zero_add] at h1
      exact ⟨c, by simpa [Instr.loadAt, Instr.sureAddr] using h1, h2⟩
    · simp at hr
  | fp rows i o blk off s g' hF hs hc ho h =>
    simp only [loadA] at hr
    split at hr
    · rename_i r hi
      have hL : Lies F w r blk (off + i * s) := fun j c hj => ⟨g' i j, hc i r j c hi hj, ho i j, h i r j c hi hj⟩
      obtain ⟨c, h1, h2⟩ := run_loadVar_lies (P := P) (k := o) hg hn hL hr
      exact ⟨c, by simpa [Instr.loadAt, Instr.sureAddr] using h1, h2⟩
    · simp at hr
  | _ => simp [loadA] at hr

/-! ### Cells are laid and stored -/

theorem foldl_cells (off : Nat) : ∀ (l : List Value) (k : Nat) (zs : Array Value), off + k + l.length ≤ zs.size →
    ((l.zipIdx k).foldl (fun c (p : Value × Nat) => c.setIfInBounds (off + p.2) p.1) zs).size = zs.size ∧
    ∀ i : Nat, ((l.zipIdx k).foldl (fun c (p : Value × Nat) => c.setIfInBounds (off + p.2) p.1) zs)[i]? = if off + k ≤ i ∧ i < off + k + l.length then l[i - (off + k)]? else zs[i]?
  | [], k, zs, _ => ⟨rfl, fun i => by simp; intro h1 h2; omega⟩
  | x :: l, k, zs, h => by
    simp only [List.zipIdx_cons, List.foldl_cons, List.length_cons] at h ⊢
    obtain ⟨h1, h2⟩ := foldl_cells off l (k + 1) (zs.setIfInBounds (off + k) x) (by rw [Array.size_setIfInBounds]; omega)
    refine ⟨by rw [h1]; simp, fun i => ?_⟩
    rw [h2 i]
    by_cases h3 : i = off + k
    · subst h3
      rw [if_neg (by omega), if_pos (by omega), Array.getElem?_setIfInBounds, if_pos rfl, if_pos (by omega)]
      simp
    · rw [Array.getElem?_setIfInBounds_ne (Ne.symm h3)]
      by_cases h4 : off + (k + 1) ≤ i ∧ i < off + (k + 1) + l.length
      · rw [if_pos h4, if_pos (by omega)]
        rw [show i - (off + k) = (i - (off + (k + 1))) + 1 by omega, List.getElem?_cons_succ]
      · rw [if_neg h4, if_neg (by omega)]

theorem rl_splice {z : List AV} {zs : Array Value} {off : Nat} {cs : List AV} {vs : Array Value} (hz : RL F w z zs) (hv : RL F w cs vs) (hle : off + cs.length ≤ z.length) :
    RL F w (splice z off cs) (vs.zipIdx.foldl (fun c (p : Value × Nat) => c.setIfInBounds (off + p.2) p.1) zs) := by
  have h1 := (foldl_cells off vs.toList 0 zs (by have := hz.len; have := hv.len; simp; omega)).1
  have h2 := (foldl_cells off vs.toList 0 zs (by have := hz.len; have := hv.len; simp; omega)).2
  simp only [Nat.add_zero, Array.length_toList, Array.getElem?_toList] at h1 h2
  rw [← Array.foldl_toList, Array.toList_zipIdx]
  have hlen := hv.len
  have hzl := hz.len
  have hgA : ∀ i, (splice z off cs)[i]? = if off ≤ i ∧ i < off + cs.length then cs[i - off]? else z[i]? := fun i => by
    unfold splice
    rw [List.append_assoc, List.getElem?_append, List.getElem?_append]
    have e1 : (List.take off z).length = off := by simp; omega
    rw [e1]
    by_cases h3 : i < off
    · rw [if_pos h3, if_neg (by omega), List.getElem?_take, if_pos h3]
    · rw [if_neg h3]
      by_cases h4 : i - off < cs.length
      · rw [if_pos h4, if_pos (by omega)]
      · rw [if_neg h4, if_neg (by omega), List.getElem?_drop]
        congr 1; omega
  refine ⟨?_, fun i v hv' => ?_, fun i c v hc hv' => ?_⟩
  · rw [h1]; unfold splice; simp; omega
  · rw [h2] at hv'
    split at hv'
    · exact hv.one _ _ hv'
    · exact hz.one _ _ hv'
  · rw [h2] at hv'
    rw [hgA] at hc
    split at hv'
    · rename_i h3; rw [if_pos (by omega)] at hc; exact hv.at_ _ _ _ hc hv'
    · rename_i h3; rw [if_neg (by omega)] at hc; exact hz.at_ _ _ _ hc hv'

end Go.DL
