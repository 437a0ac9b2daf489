/- 'BulkMore' returns true for every mill, flow number and four masses. No condition. -/
import Derived.Test.YtdbikamciedfdaaT6
set_option linter.unusedSimpArgs false
set_option linter.unusedVariables false
set_option linter.unusedSectionVars false
namespace Go.Proofs.Ytdbikamciedfdaa.bulkMore
open Go Go.DL Go.ChangeShapes Go.WideShapes Go.ChangeAt Go.RowKit

theorem okWide_ar {P : Program} {w : World} {r : Reach} {base : Nat} {t e : TypeId} {n : Nat} (ht : P.underlying t = some (.array n e)) {v : Value} (h : Value.okWide P w r base t v) : ∃ vs, v = .agg vs := by
  unfold Value.okWide at h
  rw [ht] at h
  obtain ⟨cs, h, _⟩ := h
  exact ⟨cs, h⟩
theorem flat77 : Flat Try.prog 77 [.int .u8, .int .u8, .int .u8, .int .u8] := .array (n := 4) Try.underlying77 (.int Try.underlying5) (by kernel_rfl) (by kernel_rfl)
theorem four_of {xs : List AV} (hl : xs.length = 4) (h : ∀ (i : Nat) (c : CT) (a : AV), ([.int .u8, .int .u8, .int .u8, .int .u8] : List CT)[i]? = some c → xs[i]? = some a → Sh c a) : ∃ ms : List Int, AV.agg xs = .agg (ms.map fun v => .int .u8 v) ∧ Gd (.agg (ms.map fun v => .int .u8 v)) ∧ ms.length = 4 ∧ ∀ v ∈ ms, 0 ≤ v ∧ v ≤ 255 := by
  match xs, hl with
  | [a0, a1, a2, a3], _ =>
    cases h 0 _ _ rfl rfl with
    | int _ n0 q0 =>
    cases h 1 _ _ rfl rfl with
    | int _ n1 q1 =>
    cases h 2 _ _ rfl rfl with
    | int _ n2 q2 =>
    cases h 3 _ _ rfl rfl with
    | int _ n3 q3 =>
    refine ⟨[n0, n1, n2, n3], rfl, .agg _ fun c hc => ?_, rfl, fun v hv => ?_⟩
    · simp only [List.map_cons, List.map_nil, List.mem_cons, List.not_mem_nil, or_false] at hc
      rcases hc with rfl | rfl | rfl | rfl <;> exact .int _ _
    · simp only [List.mem_cons, List.not_mem_nil, or_false] at hv
      rcases hv with rfl | rfl | rfl | rfl
      · exact u8_of q0
      · exact u8_of q1
      · exact u8_of q2
      · exact u8_of q3

set_option maxRecDepth 100000 in
theorem lifted (os : Os) (started : os.Started) (H : Type) (enc : TypeId × Value → H) :
    ReturnsInHanded {} Try.checked os 8 .any (Rows.bulkMoreSpec.pre6 enc Try.prog Try.f8 Rows.bulkMoreRow.domain false) (Rows.bulkMoreSpec.post enc Try.prog Try.f8 false true false false) := by
  refine returnsInHanded_of_change (C := Try.checked) own started (by kernel_rfl) Try.func8
    (ChangeSpec.witness6 (enc := enc) (C := Try.checked) false ⟨#[], #[.agg #[.int .u8 0, .slice none 0 0, .slice none 0 0, .int .u16 0], .int .u8 0, .agg #[.int .u8 0, .int .u8 0, .int .u8 0, .int .u8 0]], []⟩ 8 (by kernel_rfl) (by kernel_rfl) (by kernel_rfl) (by kernel_rfl)) ?_
  intro W base args ds gs before hval0 hW _ _
  have hval : ∀ (j : Nat) t v, Try.f8.params[j]? = some t → args[j]? = some v → Value.okWide Try.prog W .any base t v := hval0
  have hW' := hW
  obtain ⟨p, q, hA0, hV, rfl, hfz, hnd⟩ := hW
  have hA : DataW.TrodAll enc Try.prog W 0 (fun _ => true) true Try.f8.params.toList args.toList ds p := hA0
  rw [Try.params8] at hA hval
  obtain ⟨v0, vs0, d0, ds0, p0, q0, hargs, rfl, rfl, h0, r0⟩ := trodAll_cons hA
  obtain ⟨v1, vs1, d1, ds1, p1, q1, rfl, rfl, rfl, h1, r1⟩ := trodAll_cons r0
  obtain ⟨v2, vs2, d2, ds2, p2, q2, rfl, rfl, rfl, h2, r2⟩ := trodAll_cons r1
  obtain ⟨rfl, rfl, rfl⟩ := trodAll_nil r2
  obtain rfl : args = #[v0, v1, v2] := by cases args; simp_all
  obtain ⟨rfl, rfl⟩ := trodVars_none hV
  obtain ⟨x0, rfl⟩ := okWide_agg Try.underlying68 (hval 0 68 v0 rfl rfl)
  obtain ⟨n1, rfl⟩ := okWide_int Try.underlying5 (hval 1 5 v1 rfl rfl)
  obtain ⟨x2, rfl⟩ := okWide_ar Try.underlying77 (hval 2 77 v2 rfl rfl)
  obtain ⟨as0, len0, sh0, rv0⟩ := arg_agg flat68 h0
  obtain ⟨b1, sh1, rv1⟩ := arg_one (.int Try.underlying5) rfl h1
  obtain ⟨as2, len2, sh2, rv2⟩ := arg_agg flat77 h2
  have gd1 := sh1.gd
  obtain ⟨m, e0, gd0, hm⟩ := mill_of len0 sh0
  rw [e0] at rv0
  obtain ⟨k1, rfl, u1⟩ := int_of sh1
  obtain ⟨ms, e2, gd2, ml, mb⟩ := four_of len2 sh2
  rw [e2] at rv2
  refine (law_walk progX_ok (w8 hm k1 ms (u8_of u1) ml mb) (by simp only [List.mem_cons, List.not_mem_nil, or_false]; rintro a (rfl | rfl | rfl) <;> assumption) (args_3 rv0 rv1 rv2)).mono fun e W' ⟨he, hb⟩ => ?_
  subst he
  exact ⟨_, rfl, law_post laid hW' rfl rfl rfl rfl rfl Try.underlying4 (by kernel_rfl) hb⟩

theorem over : Rows.bulkMoreRow.holds Try.pinned (OpenSpec.ofChange Rows.bulkMoreSpec) :=
  OpenClaim.holds_of_wide 8 Try.f8 rfl rfl rfl rfl rfl rfl rfl ⟨rfl, rfl, rfl, rfl, rfl⟩ rfl rfl rfl rfl rfl (by kernel_rfl) Try.func8 (by kernel_rfl)
    (of_decide_eq_true (by kernel_rfl)) (by unfold Func.isWrapper; first | (rw [if_pos (by decide +kernel)]; kernel_rfl) | (rw [if_neg (by decide +kernel)]; exact ⟨rfl, rfl⟩))
    (fun os started H enc _ => lifted os started H enc)

theorem proved : Rows.BulkMoreSaid := over
#print axioms proved
end Go.Proofs.Ytdbikamciedfdaa.bulkMore
