/- How the model's operations run over abstract values: the other operations that yield a value or a block. No statement of the seed is proved here. -/
import Derived.Test.YtdbikamciedfdaaDlH
namespace Go.DL
variable {P : Program} {F F' : Nat → Prop} {w w' : World} {H : Hp} {env : Env} {a : Act}

theorem sim_bslice (st : St F w H) (re : RE F w env a) {t e : TypeId} {len s : Nat} {parts : Array (Nat × Operand)} {z cs : List AV} {l : List (Nat × Nat × AO)}
    (ht : P.underlying t = some (.slice e)) (hs : szT P e = some s) (hz : zeroT P e = some z) (hl : partsT (fun i => some (i * s, s)) parts = some l)
    (hle : len * s ≤ 16777216) (hzs : z.length = s) (hf : fillA (List.replicate len z).flatten (l.map fun p => (p.1, p.2.1, evA env p.2.2)) = some cs) :
    ∃ c w', (Instr.buildSlice t len (parts.map fun (i, x) => (i, a.eval x))).run P w = .ok c w' ∧ H w.heap.size = none ∧
      Ext F w H F w' (hset H w.heap.size (.cells true cs)) ∧ St F w' (hset H w.heap.size (.cells true cs)) ∧ Rv F w' (.sl w.heap.size 0 s len) c := by
  obtain ⟨i, v, hi, hv, hzr⟩ := zero_rl (F := F) (w := w) hz
  have hmap : (parts.map fun (i, x) => (i, a.eval x)).toList = parts.toList.map fun p => (p.1, a.eval p.2) := by simp
  have hzz := rl_zeros (n := len) hzr
  rw [hzs] at hzz
  obtain ⟨out, h1, h2⟩ := fill_rl (place := fun i => some (i * s, s)) (place' := fun i => some (i * s, s)) re hl (fun i r hr => hr) hf hzz
  obtain ⟨g1, g2, g3, g4⟩ := new_row st e h2
  refine ⟨.slice (some ⟨w.heap.size, 0, none⟩) len len, _, ?_, g1, g2, g3, ?_⟩
  · rw [← hmap] at h1
    have hv' : v.cells.size = s := by rw [← hzr.len, hzs]
    simp only [Instr.buildSlice, Sem.run_bind, run_underlying ht, Result.andThen_ok, run_sizeOf' hs, Sem.run_ite]
    rw [if_neg (by have : (2 : Nat) ^ 24 = 16777216 := by decide
                   omega)]
    by_cases h0 : len * s = 0
    · rw [if_pos h0]
      have hz0 : (Array.range (len * s)).map (fun x => v.cells[x % v.cells.size]!) = #[] := by rw [h0]; simp
      rw [hz0] at h1
      simp only [Sem.run_pure, Result.andThen_ok]
      have hz1 : (Array.range (len * s)).map (fun x => (#[] : Array Value)[x % (#[] : Array Value).size]!) = #[] := by rw [h0]; simp
      rw [hz1, h1]
      simp only [Sem.run_bind, run_newRow', Result.andThen_ok, Sem.run_pure]
    · rw [if_neg h0]
      simp only [Sem.run_bind, run_zero hi hv, Sem.run_pure, Result.andThen_ok, h1, run_newRow']
  · refine .sl _ 0 s len len _ _ _ g4 ?_ (Nat.le_refl _)
    rw [← h2.len, Nat.zero_add]
    have hfl : ∀ (ps : List (Nat × Nat × AV)) (z cs : List AV), fillA z ps = some cs → cs.length = z.length := by
      intro ps
      induction ps with
      | nil => intro z cs h; simp [fillA] at h; subst h; rfl
      | cons p ps ih =>
        intro z cs h
        obtain ⟨off, n, v⟩ := p
        simp only [fillA] at h
        split at h
        · split at h
          · rename_i hle
            rw [ih _ _ h]
            unfold splice
            simp; omega
          · simp at h
        · simp at h
    rw [hfl _ _ _ hf, flat_len, hzs]
    exact Nat.le_refl _

theorem sim_mksl (st : St F w H) {t e : TypeId} {i : TypeInfo} {z : List AV} {l c : Int} (ht : P.underlying t = some (.slice e)) (hi : P.info? e = some i) (hz : zeroT P e = some z)
    (hzs : z.length = i.size) (h0 : 0 ≤ l) (h1 : l ≤ c) (h2 : (i.bytes : Int) * c ≤ 281474976710656) (h3 : c ≤ 9223372036854775807) :
    ∃ v w', (Instr.makeSlice t (.int .i64 l) (.int .i64 c)).run P w = .ok v w' ∧ H w.heap.size = none ∧
      Ext F w H F w' (hset H w.heap.size (.cells true (List.replicate c.toNat z).flatten)) ∧ St F w' (hset H w.heap.size (.cells true (List.replicate c.toNat z).flatten)) ∧
      Rv F w' (.sl w.heap.size 0 i.size l.toNat) v := by
  obtain ⟨i', v, hi', hv, hzr⟩ := zero_rl (F := F) (w := w) hz
  rw [hi] at hi'
  obtain rfl : i = i' := by simpa using hi'
  have hsz : szT P e = some i.size := by simp [szT, hi]
  have hzz := rl_zeros (n := c.toNat) hzr
  rw [hzs] at hzz
  obtain ⟨g1, g2, g3, g4⟩ := new_row st e hzz
  have wl : IntKind.i64.wrap l = l := IntWalk.i64_in l (by omega)
  have wc : IntKind.i64.wrap c = c := IntWalk.i64_in c (by omega)
  have hti : (typeInfo e).run P w = .ok i w := by simp [typeInfo, hi]
  refine ⟨.slice (some ⟨w.heap.size, 0, none⟩) l.toNat c.toNat, _, ?_, g1, g2, g3, ?_⟩
  · have c1 : (decide (c < 0) || decide ((i.bytes : Int) * c > 2 ^ 48)) = false := by
      have : (2 : Int) ^ 48 = 281474976710656 := by decide
      rw [this]
      simp; omega
    simp only [Instr.makeSlice, Sem.run_bind, run_underlying ht, Result.andThen_ok, asInt, asIntOf, Sem.run_pure, hti, wl, wc, Sem.run_ite]
    rw [c1]
    have c2 : decide (l < 0) = false := by simp; omega
    have c3 : decide (l > c) = false := by simp; omega
    simp only [c2, c3, Bool.or_self, Bool.false_eq_true, if_false, Sem.run_pure, Result.andThen_ok, run_askRoom, run_sizeOf' hsz]
    by_cases hn : c.toNat * i.size = 0
    · rw [if_pos hn]
      have e1 : (Array.range (c.toNat * i.size)).map (fun x => (#[] : Array Value)[x % (#[] : Array Value).size]!) = (Array.range (c.toNat * i.size)).map (fun x => v.cells[x % v.cells.size]!) := by rw [hn]; simp
      simp only [Sem.run_pure, Result.andThen_ok, e1, Sem.run_bind, run_newRow']
    · rw [if_neg hn]
      simp only [Sem.run_bind, run_zero hi hv, Sem.run_pure, Result.andThen_ok, run_newRow']
  · refine .sl _ 0 i.size l.toNat c.toNat _ _ _ g4 ?_ (by omega)
    simp

theorem run_bound {d cap : Nat} {x : Option Operand} {y : Option AO} {n : Nat} {code : BoundsCode} (re : RE F w env a) (hx : coO x = some y) (h : boundA cap d env y = some n) :
    (x = none ∧ n = d) ∨ (∃ o, x = some o ∧ (Instr.sliceBound (a.eval o) cap code).run P w = .ok n w ∧ n ≤ cap) := by
  cases x with
  | none => simp only [coO, Option.some.injEq] at hx; subst hx; simp only [boundA, Option.some.injEq] at h; exact .inl ⟨rfl, h.symm⟩
  | some o =>
    simp only [coO] at hx
    cases hc : co o with
    | none => simp [hc] at hx
    | some z =>
      simp only [hc, Option.map_some, Option.some.injEq] at hx
      subst hx
      have hr := rv_co re hc
      simp only [boundA] at h
      split at h
      · rename_i k m he
        rw [he] at hr
        obtain ⟨vo, hvo⟩ : ∃ vo, a.eval o = vo := ⟨_, rfl⟩
        rw [hvo] at hr
        cases hr
        split at h
        · rename_i hle
          simp only [Option.some.injEq] at h
          subst h
          refine .inr ⟨o, rfl, ?_, by omega⟩
          simp only [Instr.sliceBound, hvo, asIntOf, Sem.run_bind, Sem.run_pure, Result.andThen_ok, Sem.run_ite]
          rw [if_pos hle]
        · simp at h
      · simp at h

/-- The two bounds of a slice expression. -/
theorem run_bounds {len cap h l : Nat} {lo hi : Option Operand} {lo' hi' : Option AO} (isS : Bool) (re : RE F w env a) (hlo : coO lo = some lo') (hhi : coO hi = some hi')
    (h1 : boundA len len env hi' = some h) (h2 : boundA h 0 env lo' = some l) (hle : len ≤ cap) :
    (Instr.sliceBounds isS len cap (lo.map a.eval) (hi.map a.eval) none).run P w = .ok (l, h, cap) w ∧ l ≤ h ∧ h ≤ len := by
  have hb : ∀ {k m n : Nat} {x : Option Operand} {y : Option AO}, coO x = some y → boundA k m env y = some n → x = none ∧ n = m ∨ ∃ o z, x = some o ∧ y = some z ∧ n ≤ k := by
    intro k m n x y hx hn
    rcases run_bound (P := P) (code := .index) re hx hn with h | ⟨o, h, _, h'⟩
    · exact .inl h
    · subst h
      simp only [coO] at hx
      cases hc : co o with
      | none => simp [hc] at hx
      | some z => simp [hc] at hx; exact .inr ⟨o, z, rfl, hx.symm, h'⟩
  have hup : ∀ {x : Option AO}, boundA len len env x = some h → boundA cap len env x = some h := by
    intro x hx
    unfold boundA at hx ⊢
    split
    · simpa using hx
    · simp only at hx
      split
      · rename_i k m he
        rw [he] at hx
        simp only at hx
        split at hx
        · rename_i hc
          rw [if_pos (by omega)]
          exact hx
        · simp at hx
      · rename_i x' hne
        split at hx
        · rename_i k m he; exact absurd he (hne k m)
        · simp at hx
  have hhle : h ≤ len := by
    rcases hb hhi h1 with ⟨_, rfl⟩ | ⟨_, _, _, _, h'⟩
    · exact Nat.le_refl _
    · exact h'
  have hlle : l ≤ h := by
    rcases hb hlo h2 with ⟨_, rfl⟩ | ⟨_, _, _, _, h'⟩
    · exact Nat.zero_le _
    · exact h'
  refine ⟨?_, hlle, hhle⟩
  unfold Instr.sliceBounds
  rcases run_bound (P := P) (code := if isS then .sliceAcap else .sliceAlen) re hhi (hup h1) with ⟨rfl, rfl⟩ | ⟨o, rfl, hr, _⟩ <;>
  rcases run_bound (P := P) (code := .sliceB) re hlo h2 with ⟨rfl, rfl⟩ | ⟨o', rfl, hr', _⟩ <;>
  simp only [Sem.run_bind, Sem.run_pure, Result.andThen_ok, Option.map_none, Option.map_some, Option.isSome_none, Bool.false_eq_true, if_false, *]

theorem sim_slsl (re : RE F w env a) {t e : TypeId} {s : Nat} {x : AV} {vx : Value} {lo hi : Option Operand} {lo' hi' : Option AO} {r : AV}
    (ht : P.underlying t = some (.slice e)) (hs : szT P e = some s) (hlo : coO lo = some lo') (hhi : coO hi = some hi') (hx : Rv F w x vx)
    (hr : slslA s env lo' hi' x = some r) :
    ∃ c, (Instr.sliceAt t vx (lo.map a.eval) (hi.map a.eval) none).run P w = .ok c w ∧ Rv F w r c := by
  have run : ∀ (ad : Option Addr) (len cap h l : Nat), len ≤ cap → boundA len len env hi' = some h → boundA h 0 env lo' = some l →
      (Instr.sliceAt t (.slice ad len cap) (lo.map a.eval) (hi.map a.eval) none).run P w = .ok (.slice (if cap = l then ad else ad.map (·.add (l * s))) (h - l) (cap - l)) w := by
    intro ad len cap h l hle h1 h2
    have hb := (run_bounds (P := P) true re hlo hhi h1 h2 hle).1
    simp only [Instr.sliceAt, Instr.slice, Sem.run_bind, run_underlying ht, Result.andThen_ok, hb, run_sizeOf' hs, Sem.run_pure]
  have two : ∀ {n : Nat} {K : Nat → Nat → Option AV}, (match boundA n n env hi' with
        | some h => match boundA h 0 env lo' with
          | some l => K h l
          | none => none
        | none => none) = some r → ∃ h l, boundA n n env hi' = some h ∧ boundA h 0 env lo' = some l ∧ K h l = some r := by
    intro n K h
    split at h
    · rename_i h' e1
      split at h
      · rename_i l' e2; exact ⟨h', l', e1, e2, h⟩
      · simp at h
    · simp at h
  unfold slslA at hr
  cases hx with
  | nilsl =>
    obtain ⟨h, l, h1, h2, h3⟩ := two (K := fun _ _ => some AV.nilsl) hr
    simp only [Option.some.injEq] at h3
    subst h3
    obtain ⟨_, b1, b2⟩ := run_bounds (P := P) true re hlo hhi h1 h2 (Nat.le_refl 0)
    refine ⟨_, run none 0 0 h l (Nat.le_refl _) h1 h2, ?_⟩
    have e1 : l = 0 := by omega
    have e2 : h = 0 := by omega
    subst e1 e2
    exact .nilsl
  | fs0 ad cap =>
    simp only [List.all_nil, if_true] at hr
    obtain ⟨h, l, h1, h2, h3⟩ := two (K := fun h l => some (AV.fs ((([] : List (List AV)).drop l).take (h - l)))) hr
    simp only [Option.some.injEq] at h3
    subst h3
    obtain ⟨_, b1, b2⟩ := run_bounds (P := P) (len := 0) (cap := cap) true re hlo hhi h1 h2 (Nat.zero_le _)
    have e1 : l = 0 := by simp at b2; omega
    have e2 : h = 0 := by simpa using b2
    refine ⟨_, run ad 0 cap h l (Nat.zero_le _) h1 h2, ?_⟩
    subst e1 e2
    simpa using Rv.fs0 (F := F) (w := w) (if cap = 0 then ad else ad.map (·.add (0 * s))) cap
  | fs rows blk off s' cap g hcap hF hs' hc ho h0 =>
    simp only at hr
    split at hr
    · rename_i hall
      obtain ⟨h, l, h1, h2, h3⟩ := two (K := fun h l => some (AV.fs ((rows.drop l).take (h - l)))) hr
      simp only [Option.some.injEq] at h3
      subst h3
      obtain ⟨_, b1, b2⟩ := run_bounds (P := P) true re hlo hhi h1 h2 hcap
      refine ⟨_, run (some ⟨blk, off, none⟩) rows.length cap h l hcap h1 h2, ?_⟩
      by_cases hlt : l < h
      · rw [if_neg (by omega)]
        simp only [Option.map_some, add_none]
        have es : s' = s := by
          have hm : rows[l]'(by omega) ∈ rows := List.getElem_mem _
          have := List.all_eq_true.1 hall _ hm
          rw [← hs' _ hm]
          simpa using this
        subst es
        have hlen : ((rows.drop l).take (h - l)).length = h - l := by simp; omega
        have hget : ∀ (i : Nat) (r : List AV), ((rows.drop l).take (h - l))[i]? = some r → rows[l + i]? = some r := fun i r hi => by
          rw [List.getElem?_take] at hi
          split at hi
          · rwa [List.getElem?_drop] at hi
          · simp at hi
        have := Rv.fs (F := F) (w := w) ((rows.drop l).take (h - l)) blk (off + l * s') s' (cap - l) (fun i j => g (l + i) j) (by rw [hlen]; omega) hF
          (fun r hr => hs' r (List.mem_of_mem_drop (List.mem_of_mem_take hr)))
          (fun i r j c hi hj => by
            have := hc (l + i) r j c (hget i r hi) hj
            rw [← this]; congr 2; rw [Nat.add_mul]; omega)
          (fun i j => ho _ _) (fun i r j c hi hj => h0 (l + i) r j c (hget i r hi) hj)
        rwa [hlen] at this
      · have e0 : (rows.drop l).take (h - l) = [] := by rw [show h - l = 0 by omega]; simp
        rw [e0, show h - l = 0 by omega]
        exact .fs0 _ _
    · simp at hr
  | sl b o s' len cap c e0 fr hb hcap hlen =>
    simp only at hr
    split at hr
    · rename_i es
      obtain ⟨h, l, h1, h2, h3⟩ := two (K := fun h l => if l < h then some (AV.sl b (o + l * s) s (h - l)) else some (.fs [])) hr
      obtain ⟨_, b1, b2⟩ := run_bounds (P := P) true re hlo hhi h1 h2 hlen
      refine ⟨_, run (some ⟨b, o, none⟩) len cap h l hlen h1 h2, ?_⟩
      split at h3
      · rename_i hlt
        simp only [Option.some.injEq] at h3
        subst h3
        rw [if_neg (by omega)]
        simp only [Option.map_some, add_none]
        subst es
        refine .sl b (o + l * s') s' (h - l) (cap - l) c e0 fr hb ?_ (by omega)
        rw [Nat.sub_mul]
        have := Nat.mul_le_mul_right s' (show l ≤ cap by omega)
        omega
      · rename_i hlt
        simp only [Option.some.injEq] at h3
        subst h3
        rw [show h - l = 0 by omega]
        exact .fs0 _ _
    · simp at hr
  | _ => simp at hr

end Go.DL
