/- How the model's operations run over abstract values: one law an operation. No statement of the seed is proved here. -/
import Derived.Test.YtdbikamciedfdaaDlD
namespace Go.DL
variable {P : Program} {F F' : Nat → Prop} {w w' : World} {H : Hp} {env : Env} {a : Act}

theorem mapM_some {α β : Type} {f : α → Option β} : ∀ {l : List α} {r : List β}, l.mapM f = some r → r.length = l.length ∧ ∀ (i : Nat) (x : α), l[i]? = some x → ∃ y, f x = some y ∧ r[i]? = some y
  | [], r, h => by simp at h; subst h; exact ⟨rfl, fun i x hx => by simp at hx⟩
  | x :: l, r, h => by
    simp only [List.mapM_cons, Option.bind_eq_bind, Option.bind_eq_some_iff, Option.pure_def, Option.some.injEq] at h
    obtain ⟨y, hy, s, hs, rfl⟩ := h
    obtain ⟨h1, h2⟩ := mapM_some hs
    refine ⟨by simp [h1], fun i z hz => ?_⟩
    cases i with
    | zero => simp at hz; subst hz; exact ⟨y, hy, rfl⟩
    | succ i => simpa using h2 i z (by simpa using hz)

theorem run_listMapM {α β : Type} {f : α → Sem β} {g : α → β} (w : World) : ∀ (l : List α), (∀ x ∈ l, (f x).run P w = .ok (g x) w) → (l.mapM f).run P w = .ok (l.map g) w
  | [], _ => by simp
  | x :: l, h => by
    simp only [List.mapM_cons, Sem.run_bind, h x (by simp), Result.andThen_ok, run_listMapM w l (fun y hy => h y (by simp [hy])), Sem.run_pure, List.map_cons]

theorem run_arrMapM {α β : Type} {f : α → Sem β} {g : α → β} (w : World) (l : Array α) (h : ∀ x ∈ l.toList, (f x).run P w = .ok (g x) w) : (l.mapM f).run P w = .ok (l.map g) w := by
  rw [Array.mapM_eq_mapM_toList, Sem.run_map, run_listMapM w l.toList h]
  simp only [Result.andThen_ok]
  congr 1
  apply Array.ext'
  simp

theorem fill_rl {place place' : Nat → Option (Nat × Nat)} (re : RE F w env a) : ∀ {ps : List (Nat × Operand)} {l : List (Nat × Nat × AO)} {z cs : List AV} {zs : Array Value},
    (ps.mapM fun p => match place p.1, co p.2 with
      | some (off, n), some x => some (off, n, x)
      | _, _ => none) = some l → (∀ i r, place i = some r → place' i = some r) →
    fillA z (l.map fun p => (p.1, p.2.1, evA env p.2.2)) = some cs → RL F w z zs →
    ∃ out, Instr.fill place' zs (ps.map fun p => (p.1, a.eval p.2)) = some out ∧ RL F w cs out
  | [], l, z, cs, zs, hl, hp, hf, hz => by
    simp at hl; subst hl
    simp [fillA] at hf; subst hf
    exact ⟨zs, by simp [Instr.fill], hz⟩
  | p :: ps, l, z, cs, zs, hl, hp, hf, hz => by
    simp only [List.mapM_cons, Option.bind_eq_bind, Option.bind_eq_some_iff, Option.pure_def, Option.some.injEq] at hl
    obtain ⟨q, hq, s, hs, rfl⟩ := hl
    split at hq
    · rename_i off n x h1 h2
      simp only [Option.some.injEq] at hq
      subst hq
      simp only [List.map_cons, fillA] at hf
      split at hf
      · rename_i vs hvs
        split at hf
        · rename_i hle
          have hv := rl_cellsOf (rv_co re h2) hvs
          have hz' := rl_splice (off := off) hz hv (by have := hle.1; have := hle.2; omega)
          obtain ⟨out, h3, h4⟩ := fill_rl re hs hp hf hz'
          refine ⟨out, ?_, h4⟩
          have hlen := hv.len
          have hzl := hz.len
          simp only [List.map_cons, Instr.fill, hp _ _ h1]
          rw [if_neg (by simp; omega)]
          exact h3
        · simp at hf
      · simp at hf
    · simp at hq

theorem zero_rl {t : TypeId} {z : List AV} (h : zeroT P t = some z) : ∃ i v, P.info? t = some i ∧ i.zero = some v ∧ RL F w z v.cells := by
  unfold zeroT at h
  split at h
  · rename_i i hi
    split at h
    · rename_i v hv
      split at h
      · rename_i ho
        simp only [Option.some.injEq] at h
        subst h
        exact ⟨i, v, hi, hv, rl_ofVal ho⟩
      · simp at h
    · simp at h
  · simp at h

theorem run_zero {t : TypeId} {i : TypeInfo} {v : Value} (hi : P.info? t = some i) (hv : i.zero = some v) (w : World) : (zeroValue t).run P w = .ok v w := by
  simp [zeroValue, typeInfo, hi, hv]

theorem agg_cells {t : TypeId} {g : Bool} {v : Value} (_ : g = g) (vs : Array Value) : (Value.agg vs).cells = vs := rfl

theorem sim_build {t : TypeId} {parts : Array (Nat × Operand)} {z : List AV} {l : List (Nat × Nat × AO)} {cs : List AV} (re : RE F w env a) (hz : zeroT P t = some z)
    (hg : isAggT P t = some true) (hl : partsT (placesT P t) parts = some l)
    (hall : ∀ fields, P.underlying t = some (.struct fields) → (fields.toList.all fun f => (szT P f.type).isSome) = true)
    (harr : ∀ n e, P.underlying t = some (.array n e) → (szT P e).isSome = true)
    (hf : fillA z (l.map fun p => (p.1, p.2.1, evA env p.2.2)) = some cs) :
    ∃ c, (Instr.build t (parts.map fun (i, x) => (i, a.eval x))).run P w = .ok c w ∧ Rv F w (.agg cs) c := by
  obtain ⟨i, v, hi, hv, hzr⟩ := zero_rl (F := F) (w := w) hz
  have hmap : (parts.map fun (i, x) => (i, a.eval x)).toList = parts.toList.map fun p => (p.1, a.eval p.2) := by simp
  unfold isAggT at hg
  cases hu : P.underlying t with
  | none => simp [hu] at hg
  | some d =>
    cases d with
    | struct fields =>
      have hsz : ∀ f ∈ fields.toList, ∃ n, szT P f.type = some n := fun f hf' => by
        have := List.all_eq_true.1 (hall fields hu) f hf'
        exact Option.isSome_iff_exists.1 this
      have hrun := run_arrMapM (P := P) (f := fun f : Field => do pure (f.offset, ← sizeOf f.type)) (g := fun f : Field => (f.offset, (szT P f.type).getD 0)) w fields (fun f hf' => by
        obtain ⟨n, hn⟩ := hsz f hf'
        simp [run_sizeOf' hn, hn])
      obtain ⟨out, h1, h2⟩ := fill_rl (place' := fun i => (fields.map fun f : Field => (f.offset, (szT P f.type).getD 0))[i]?) re hl (fun i r hr => by
        unfold placesT at hr
        simp only [hu] at hr
        split at hr
        · rename_i f hf'
          cases hn : szT P f.type with
          | none => simp [hn] at hr
          | some n => simp [hn] at hr; subst hr; simp [hf', hn]
        · simp at hr) hf hzr
      refine ⟨.agg out, ?_, .agg _ _ h2.len h2.one h2.at_⟩
      rw [← hmap] at h1
      simp only [Instr.build, Sem.run_bind, run_zero hi hv, Result.andThen_ok, run_underlying hu, hrun, h1, Sem.run_pure]
    | array n e =>
      cases hn : szT P e with
      | none => exact absurd (harr n e hu) (by simp [hn])
      | some s =>
        obtain ⟨out, h1, h2⟩ := fill_rl (place' := fun i => some (i * s, s)) re hl (fun i r hr => by
          unfold placesT at hr
          simp only [hu, hn, Option.map_some] at hr
          exact hr) hf hzr
        refine ⟨.agg out, ?_, .agg _ _ h2.len h2.one h2.at_⟩
        rw [← hmap] at h1
        simp only [Instr.build, Sem.run_bind, run_zero hi hv, Result.andThen_ok, run_underlying hu, run_sizeOf' hn, h1, Sem.run_pure]
    | _ => simp [hu] at hg

end Go.DL
