/- Parts of a proof, joined: LA. No statement of the seed is proved here. -/
import Derived.Test.YtpbeclkpohehgaaDoorRows
import Derived.Test.YtpbeclkpohehgaaDoorCards
import Derived.Test.YtpbeclkpohehgaaDoorTie
import Derived.WalkKit
import Derived.ProofKit
import Derived.LaidMore
import Derived.OpenShut
import Derived.SevenTiedAt
import Derived.Stop.Joined
import Derived.Test.YtpbeclkpohehgaaDoorV7
set_option linter.unusedSimpArgs false
set_option linter.unusedVariables false
set_option linter.unusedSectionVars false
namespace Go.Proofs.YtpbeclkpohehgaaDoor
open Go Go.DL Go.ChangeShapes Go.WideShapes Go.ChangeAt Go.RowKit
set_option maxRecDepth 100000

theorem own : ownKnob Tryd.prog.godebug = none := by kernel_rfl
theorem laid : laidOutB Tryd.prog = true := by kernel_rfl

/-! ### Tables -/
abbrev laid2 : List (String × DataW Unit) := [("math/bits.deBruijn32tab", Rows.laid_math_bits_deBruijn32tab), ("math/bits.deBruijn64tab", Rows.laid_math_bits_deBruijn64tab)]
theorem g32 : Tryd.prog.globalNamed "math/bits.deBruijn32tab" = some 0 := by kernel_rfl
theorem g64 : Tryd.prog.globalNamed "math/bits.deBruijn64tab" = some 1 := by kernel_rfl
theorem door_met (os : Os) (args : Array Value) : laidMetH Tryd.prog laid2 ((World.doorLaid Tryd.prog 400 os).forCall (fun _ _ => 0) ⟨#[], args, []⟩).memory :=
  laidMetH_of_parts3 (fuel := 8) (laidMet_of_run' 8 (by kernel_rfl) (by kernel_rfl)) (by kernel_rfl) (by kernel_rfl)
theorem tab_of {P : Program} {H : Type} {enc : TypeId × Value → H} {W : World} {sp : Nat → Bool} {nm : String} {g t e n fuel : Nat} {ls : List Int} (hg : P.globalNamed nm = some g) (hu : P.underlying t = some (.array n e)) (he : P.underlying e = some (.int .u8)) (hc : P.cellsOf e = 1)
    {cs : Array Value} {p : List MemPlace} (hv : W.var? P nm = some cs) (hd : DataW.trod enc P W 0 sp false fuel t cs.toList = some (.agg (ls.map fun v => .lit (.int .u8 v)), p)) : ∀ j v, ls[j]? = some v → W.cell? ⟨g, j, none⟩ = some (.int .u8 v) := by
  intro j v hj
  obtain ⟨xs, m, rfl, hx, _, hn, hel⟩ := DataW.trod_array hu hd
  simp only [Prod.mk.injEq, DataW.agg.injEq] at hx
  have hjl : j < xs.length := by
    have := congrArg List.length hx.1
    simp only [List.length_map] at this
    have := (List.getElem?_eq_some_iff.1 hj).1
    omega
  have h0 := hel j (by omega)
  rw [List.getElem?_eq_getElem hjl, hc, Nat.mul_one] at h0
  obtain ⟨k, e1, e2, _⟩ := DataW.trod_int he h0
  have hk : k = v := by
    have h1 : (xs.map (·.1))[j]? = some (.lit (.int .u8 k)) := by rw [List.getElem?_map, List.getElem?_eq_getElem hjl, e2]; rfl
    rw [← hx.1, List.getElem?_map, hj] at h1
    simpa using h1.symm
  subst hk
  rw [World.var?_cell hg hv j, ← Array.getElem?_toList]
  have : (cs.toList.drop j)[0]? = some (.int .u8 k) := by
    have h2 : ((cs.toList.drop j).take 1)[0]? = some (.int .u8 k) := by rw [e1]; rfl
    rw [List.getElem?_take_of_lt (by omega)] at h2
    exact h2
  rw [List.getElem?_drop] at this
  simpa using this
theorem gi_of {W : World} (h : laidMetH Tryd.prog laid2 W) : GI (fun b => b < W.heap.size) W := by
  rw [MakeChecks.laidMetH_plain _ _ _ (by kernel_rfl)] at h
  obtain ⟨ps, ⟨i0, t0, cs0, f0, p0, q0, hg0, ht0, hv0, hd0, ⟨i1, t1, cs1, f1, p1, q1, hg1, ht1, hv1, hd1, _, _⟩, _⟩, _, _⟩ := h
  obtain rfl := Option.some.inj (g32.symm.trans hg0)
  obtain rfl := Option.some.inj (g64.symm.trans hg1)
  have e0 : t0 = (Tryd.prog.globals[0]?.map (·.type)).getD 0 := by rw [ht0]; rfl
  have e1 : t1 = (Tryd.prog.globals[1]?.map (·.type)).getD 0 := by rw [ht1]; rfl
  have k0 := tab_of (ls := [0, 1, 28, 2, 29, 14, 24, 3, 30, 22, 20, 15, 25, 17, 4, 8, 31, 27, 13, 23, 21, 19, 16, 7, 26, 12, 18, 6, 11, 5, 10, 9]) g32 (t := t0) (n := 32) (e := 5) (by rw [e0]; kernel_rfl) Tryd.underlying5 (by kernel_rfl) hv0 hd0
  have k1 := tab_of (ls := (match globRow 1 with | some l => l.map (fun c => (match c with | .int _ n => n | _ => 0)) | none => [])) g64 (t := t1) (n := 64) (e := 5) (by rw [e1]; kernel_rfl) Tryd.underlying5 (by kernel_rfl) hv1 hd1
  have lt : ∀ {g j : Nat} {v : Value}, W.cell? ⟨g, j, none⟩ = some v → g < W.heap.size := fun h => (cell_spot0 h).2
  have fin : ∀ (g : Nat) (ls : List Int), ls.length ≠ 0 → (∀ j v, ls[j]? = some v → W.cell? ⟨g, j, none⟩ = some (.int .u8 v)) → g < W.heap.size ∧ ∃ gv : Nat → Value, (∀ j, (gv j).oneCell' = true) ∧ ∀ j c, (ls.map fun v => AV.int .u8 v)[j]? = some c → W.cell? ⟨g, j, none⟩ = some (gv j) ∧ Rv (fun b => b < W.heap.size) W c (gv j) := by
    intro g ls hl h
    refine ⟨?_, fun j => .int .u8 (ls.getD j 0), fun _ => rfl, fun j c hj => ?_⟩
    · cases ls with
      | nil => simp at hl
      | cons a r => exact lt (h 0 a rfl)
    · rw [List.getElem?_map, Option.map_eq_some_iff] at hj
      obtain ⟨v, hv, rfl⟩ := hj
      have : ls.getD j 0 = v := getD_of hv
      dsimp only
      rw [this]
      exact ⟨h j v hv, .int _ _⟩
  intro g row hr
  unfold globRow at hr
  by_cases h0 : g = 0
  · rw [if_pos h0] at hr
    simp only [Option.some.injEq] at hr
    rw [← hr, h0]
    exact fin 0 _ (by decide) k0
  · rw [if_neg h0] at hr
    by_cases h1 : g = 1
    · rw [if_pos h1] at hr
      simp only [Option.some.injEq] at hr
      rw [← hr, h1]
      exact fin 1 _ (by decide) k1
    · rw [if_neg h1] at hr
      simp at hr

/-! ### Lines -/
abbrev stT : List CT := [.int .i64, .int .i64]
abbrev ldT : List CT := [.int .i64, .int .i64, .int .i64, .int .i64, .int .i64]
abbrev liT : List CT := [.sl [.sl stT], .sl ldT, .sl [.sl [.int .i64]], .int .i64, .int .i64]
theorem flat29 : Flat Tryd.prog 29 [.sl [.int .i64]] := .sl Tryd.underlying29 (.int Tryd.underlying3) (by kernel_rfl) (by decide)
theorem flat26 : Flat Tryd.prog 26 [.int .i64, .int .i64] := Flat.mk (rs := [[.int .i64], [.int .i64]]) Tryd.underlying26 ⟨.int Tryd.underlying3, by kernel_rfl, rfl, .int Tryd.underlying3, by kernel_rfl, rfl, trivial⟩ (by kernel_rfl)
theorem flat52 : Flat Tryd.prog 52 stT := Flat.mk (rs := [[.int .i64], [.int .i64]]) Tryd.underlying52 ⟨.int Tryd.underlying3, by kernel_rfl, rfl, .int Tryd.underlying3, by kernel_rfl, rfl, trivial⟩ (by kernel_rfl)
theorem flat54 : Flat Tryd.prog 54 [.sl stT] := .sl Tryd.underlying54 flat52 (by kernel_rfl) (by decide)
theorem flat67 : Flat Tryd.prog 67 ldT := Flat.mk (rs := [[.int .i64], [.int .i64, .int .i64], [.int .i64, .int .i64]]) Tryd.underlying67 ⟨.int Tryd.underlying3, by kernel_rfl, rfl, flat26, by kernel_rfl, rfl, flat26, by kernel_rfl, rfl, trivial⟩ (by kernel_rfl)
theorem flat22 : Flat Tryd.prog 22 [.sl [.sl stT]] := .sl Tryd.underlying22 flat54 (by kernel_rfl) (by decide)
theorem flat23 : Flat Tryd.prog 23 [.sl ldT] := .sl Tryd.underlying23 flat67 (by kernel_rfl) (by decide)
theorem flat24 : Flat Tryd.prog 24 [.sl [.sl [.int .i64]]] := .sl Tryd.underlying24 flat29 (by kernel_rfl) (by decide)
theorem flat28 : Flat Tryd.prog 28 liT := Flat.mk (rs := [[.sl [.sl stT]], [.sl ldT], [.sl [.sl [.int .i64]]], [.int .i64, .int .i64]]) Tryd.underlying28 ⟨flat22, by kernel_rfl, rfl, flat23, by kernel_rfl, rfl, flat24, by kernel_rfl, rfl, flat26, by kernel_rfl, rfl, trivial⟩ (by kernel_rfl)
theorem int_of {k : IntKind} {a : AV} (h : Sh (.int k) a) : ∃ n, a = .int k n ∧ (Lit.int k n).wf = true := by cases h; exact ⟨_, rfl, by assumption⟩
theorem rows_key {α : Type} {f : α → List AV} {r : List CT} (key : ∀ row : List AV, row.length = r.length → (∀ (i : Nat) (c : CT) (a : AV), r[i]? = some c → row[i]? = some a → Sh c a) → ∃ x, row = f x) : ∀ {rows : List (List AV)}, (∀ row ∈ rows, row.length = r.length) →
    (∀ row ∈ rows, ∀ (i : Nat) (c : CT) (a : AV), r[i]? = some c → row[i]? = some a → Sh c a) → ∃ l : List α, rows = l.map f
  | [], _, _ => ⟨[], rfl⟩
  | a :: rows, h1, h2 => by
    obtain ⟨l, rfl⟩ := rows_key key (rows := rows) (fun row hr => h1 row (by simp [hr])) (fun row hr => h2 row (by simp [hr]))
    obtain ⟨x, rfl⟩ := key a (h1 a (by simp)) (h2 a (by simp))
    exact ⟨x :: l, rfl⟩
theorem sl_of {α : Type} {f : α → List AV} {r : List CT} (key : ∀ row : List AV, row.length = r.length → (∀ (i : Nat) (c : CT) (a : AV), r[i]? = some c → row[i]? = some a → Sh c a) → ∃ x, row = f x) {a : AV} (h : Sh (.sl r) a) : ∃ l : List α, a = .fs (l.map f) ∧ l.length ≤ maxLen := by
  cases h with
  | sl _ rows h1 hn h2 =>
    obtain ⟨l, rfl⟩ := rows_key key h1 h2
    exact ⟨l, rfl, by simpa using hn⟩
theorem int1 : ∀ row : List AV, row.length = ([.int .i64] : List CT).length → (∀ (i : Nat) (c : CT) (a : AV), ([.int .i64] : List CT)[i]? = some c → row[i]? = some a → Sh c a) → ∃ v : Int, row = [I v] := by
  intro row hl h
  match row, hl with
  | [a0], _ =>
    obtain ⟨n, rfl, _⟩ := int_of (h 0 _ _ rfl rfl)
    exact ⟨n, rfl⟩
theorem ints_of {a : AV} (h : Sh (.sl [.int .i64]) a) : ∃ us : List Int, a = rI us ∧ us.length ≤ maxLen := sl_of int1 h
theorem st1 : ∀ row : List AV, row.length = stT.length → (∀ (i : Nat) (c : CT) (a : AV), stT[i]? = some c → row[i]? = some a → Sh c a) → ∃ x : St, row = x.row := by
  intro row hl h
  match row, hl with
  | [a0, a1], _ =>
    obtain ⟨n0, rfl, _⟩ := int_of (h 0 _ _ rfl rfl)
    obtain ⟨n1, rfl, _⟩ := int_of (h 1 _ _ rfl rfl)
    exact ⟨⟨n0, n1⟩, rfl⟩
theorem ld1 : ∀ row : List AV, row.length = ldT.length → (∀ (i : Nat) (c : CT) (a : AV), ldT[i]? = some c → row[i]? = some a → Sh c a) → ∃ x : Ld, row = x.row := by
  intro row hl h
  match row, hl with
  | [a0, a1, a2, a3, a4], _ =>
    obtain ⟨n0, rfl, _⟩ := int_of (h 0 _ _ rfl rfl)
    obtain ⟨n1, rfl, _⟩ := int_of (h 1 _ _ rfl rfl)
    obtain ⟨n2, rfl, _⟩ := int_of (h 2 _ _ rfl rfl)
    obtain ⟨n3, rfl, _⟩ := int_of (h 3 _ _ rfl rfl)
    obtain ⟨n4, rfl, _⟩ := int_of (h 4 _ _ rfl rfl)
    exact ⟨⟨n0, n1, n2, n3, n4⟩, rfl⟩
theorem kinds1 : ∀ row : List AV, row.length = ([.sl stT] : List CT).length → (∀ (i : Nat) (c : CT) (a : AV), ([.sl stT] : List CT)[i]? = some c → row[i]? = some a → Sh c a) → ∃ k : {k : List St // k.length ≤ maxLen}, row = [rS k.1] := by
  intro row hl h
  match row, hl with
  | [a0], _ =>
    obtain ⟨k, rfl, hk⟩ := sl_of st1 (h 0 _ _ rfl rfl)
    exact ⟨⟨k, hk⟩, rfl⟩
theorem tracks1 : ∀ row : List AV, row.length = ([.sl [.int .i64]] : List CT).length → (∀ (i : Nat) (c : CT) (a : AV), ([.sl [.int .i64]] : List CT)[i]? = some c → row[i]? = some a → Sh c a) → ∃ k : {k : List Int // k.length ≤ maxLen}, row = [rI k.1] := by
  intro row hl h
  match row, hl with
  | [a0], _ =>
    obtain ⟨k, rfl, hk⟩ := ints_of (h 0 _ _ rfl rfl)
    exact ⟨⟨k, hk⟩, rfl⟩
theorem line_of {xs : List AV} (hl : xs.length = 5) (h : ∀ (i : Nat) (c : CT) (a : AV), liT[i]? = some c → xs[i]? = some a → Sh c a) : ∃ l : Li, AV.agg xs = .agg l.c ∧ Gd (.agg l.c) ∧ l.Fit2 := by
  match xs, hl with
  | [a0, a1, a2, a3, a4], _ =>
    have s0 := h 0 _ _ rfl rfl
    have s1 := h 1 _ _ rfl rfl
    have s2 := h 2 _ _ rfl rfl
    have g0 := s0.gd
    have g1 := s1.gd
    have g2 := s2.gd
    obtain ⟨ks, rfl, b0⟩ := sl_of kinds1 s0
    obtain ⟨ls, rfl, b1⟩ := sl_of ld1 s1
    obtain ⟨ts, rfl, b2⟩ := sl_of tracks1 s2
    obtain ⟨lo, rfl, _⟩ := int_of (h 3 _ _ rfl rfl)
    obtain ⟨hi, rfl, _⟩ := int_of (h 4 _ _ rfl rfl)
    have e1 : (ks.map fun k => [rS k.1]) = (ks.map (·.1)).map fun k => [rS k] := by rw [List.map_map]; rfl
    have e2 : (ts.map fun k => [rI k.1]) = (ts.map (·.1)).map fun k => [rI k] := by rw [List.map_map]; rfl
    rw [e1] at g0 ⊢
    rw [e2] at g2 ⊢
    refine ⟨⟨ks.map (·.1), ls, ts.map (·.1), lo, hi⟩, rfl, .agg _ fun c hc => ?_, ⟨by rw [List.length_map]; exact b0, b1, by rw [List.length_map]; exact b2, fun t ht => ?_⟩⟩
    · simp only [List.mem_cons, List.not_mem_nil, or_false] at hc
      rcases hc with rfl | rfl | rfl | rfl | rfl
      · exact g0
      · exact g1
      · exact g2
      · exact .int _ _
      · exact .int _ _
    · simp only [List.mem_map] at ht
      obtain ⟨k, _, rfl⟩ := ht
      exact k.2

section
variable {H : Type} {enc : TypeId × Value → H} {P : Program} {w : World} {r : Reach} {base : Nat}
theorem okWide_agg {t : TypeId} {fs : Array Field} (ht : P.underlying t = some (.struct fs)) {v : Value} (h : Value.okWide P w r base t v) : ∃ vs, v = .agg vs := by
  unfold Value.okWide at h
  rw [ht] at h
  obtain ⟨cs, h, _⟩ := h
  exact ⟨cs, h⟩
theorem args_1 {a : AV} {v : Value} {F : Nat → Prop} (h : Rv F w a v) : Args F w [a] #[v] := ⟨rfl, fun i a' v' h1 h2 => by
  match i with
  | 0 => simp at h1 h2; rw [← h1, ← h2]; exact h
  | i + 1 => simp at h1⟩
end
end Go.Proofs.YtpbeclkpohehgaaDoor
