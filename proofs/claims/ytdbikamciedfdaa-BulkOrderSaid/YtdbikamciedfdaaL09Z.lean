/- 'BulkOrder' returns true for every mill and every three numbers. No condition. -/
import Derived.Test.YtdbikamciedfdaaS6
set_option linter.unusedSimpArgs false
set_option linter.unusedVariables false
set_option linter.unusedSectionVars false
namespace Go.Proofs.Ytdbikamciedfdaa.bulkOrder
open Go Go.DL Go.ChangeShapes Go.WideShapes Go.ChangeAt Go.RowKit

set_option maxRecDepth 100000 in
theorem lifted (os : Os) (started : os.Started) (H : Type) (enc : TypeId × Value → H) :
    ReturnsInHanded {} Try.checked os 9 .any (Rows.bulkOrderSpec.pre6 enc Try.prog Try.f9 Rows.bulkOrderRow.domain false) (Rows.bulkOrderSpec.post enc Try.prog Try.f9 false true false false) := by
  refine returnsInHanded_of_change (C := Try.checked) own started (by kernel_rfl) Try.func9
    (ChangeSpec.witness6 (enc := enc) (C := Try.checked) false ⟨#[], #[.agg #[.int .u8 0, .slice none 0 0, .slice none 0 0, .int .u16 0], .int .u8 0, .int .u8 0, .int .u8 0], []⟩ 8 (by kernel_rfl) (by kernel_rfl) (by kernel_rfl) (by kernel_rfl)) ?_
  intro W base args ds gs before hval0 hW _ _
  have hval : ∀ (j : Nat) t v, Try.f9.params[j]? = some t → args[j]? = some v → Value.okWide Try.prog W .any base t v := hval0
  have hW' := hW
  obtain ⟨p, q, hA0, hV, rfl, hfz, hnd⟩ := hW
  have hA : DataW.TrodAll enc Try.prog W 0 (fun _ => true) true Try.f9.params.toList args.toList ds p := hA0
  rw [Try.params9] at hA hval
  obtain ⟨v0, vs0, d0, ds0, p0, q0, hargs, rfl, rfl, h0, r0⟩ := trodAll_cons hA
  obtain ⟨v1, vs1, d1, ds1, p1, q1, rfl, rfl, rfl, h1, r1⟩ := trodAll_cons r0
  obtain ⟨v2, vs2, d2, ds2, p2, q2, rfl, rfl, rfl, h2, r2⟩ := trodAll_cons r1
  obtain ⟨v3, vs3, d3, ds3, p3, q3, rfl, rfl, rfl, h3, r3⟩ := trodAll_cons r2
  obtain ⟨rfl, rfl, rfl⟩ := trodAll_nil r3
  obtain rfl : args = #[v0, v1, v2, v3] := by cases args; simp_all
  obtain ⟨rfl, rfl⟩ := trodVars_none hV
  obtain ⟨x0, rfl⟩ := okWide_agg Try.underlying68 (hval 0 68 v0 rfl rfl)
  obtain ⟨n1, rfl⟩ := okWide_int Try.underlying5 (hval 1 5 v1 rfl rfl)
  obtain ⟨n2, rfl⟩ := okWide_int Try.underlying5 (hval 2 5 v2 rfl rfl)
  obtain ⟨n3, rfl⟩ := okWide_int Try.underlying5 (hval 3 5 v3 rfl rfl)
  obtain ⟨as0, len0, sh0, rv0⟩ := arg_agg flat68 h0
  obtain ⟨b1, sh1, rv1⟩ := arg_one (.int Try.underlying5) rfl h1
  obtain ⟨b2, sh2, rv2⟩ := arg_one (.int Try.underlying5) rfl h2
  obtain ⟨b3, sh3, rv3⟩ := arg_one (.int Try.underlying5) rfl h3
  have gd1 := sh1.gd
  have gd2 := sh2.gd
  have gd3 := sh3.gd
  obtain ⟨m, e0, gd0, hm⟩ := mill_of len0 sh0
  rw [e0] at rv0
  obtain ⟨k1, rfl, u1⟩ := int_of sh1
  obtain ⟨k2, rfl, u2⟩ := int_of sh2
  obtain ⟨k3, rfl, u3⟩ := int_of sh3
  refine (law_walk progX_ok (w9 hm k1 k2 k3 (u8_of u1) (u8_of u2) (u8_of u3)) (by simp only [List.mem_cons, List.not_mem_nil, or_false]; rintro a (rfl | rfl | rfl | rfl) <;> assumption) (args_4 rv0 rv1 rv2 rv3)).mono fun e W' ⟨he, hb⟩ => ?_
  subst he
  exact ⟨_, rfl, law_post laid hW' rfl rfl rfl rfl rfl Try.underlying4 (by kernel_rfl) hb⟩

theorem over : Rows.bulkOrderRow.holds Try.pinned (OpenSpec.ofChange Rows.bulkOrderSpec) :=
  OpenClaim.holds_of_wide 9 Try.f9 rfl rfl rfl rfl rfl rfl rfl ⟨rfl, rfl, rfl, rfl, rfl⟩ rfl rfl rfl rfl rfl (by kernel_rfl) Try.func9 (by kernel_rfl)
    (of_decide_eq_true (by kernel_rfl)) (by unfold Func.isWrapper; first | (rw [if_pos (by decide +kernel)]; kernel_rfl) | (rw [if_neg (by decide +kernel)]; exact ⟨rfl, rfl⟩))
    (fun os started H enc _ => lifted os started H enc)

theorem proved : Rows.BulkOrderSaid := over
#print axioms proved
end Go.Proofs.Ytdbikamciedfdaa.bulkOrder
