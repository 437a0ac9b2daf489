/- 'BulkKnown' returns true: its text, and all that it calls, carried out by the kernel. No condition. -/
import Derived.Test.YtdbikamciedfdaaRows
import Derived.WalkKit
import Derived.ProofKit
import Derived.OpenShut
import Derived.Test.YtdbikamciedfdaaXR
import Derived.Test.YtdbikamciedfdaaE2
namespace Go.Proofs.Ytdbikamciedfdaa.bulkKnown
open Go.ChangeShapes Go.WideShapes Go.ChangeAt Go.RowKit

theorem own : ownKnob Try.prog.godebug = none := by kernel_rfl
theorem laid : laidOutB Try.prog = true := by kernel_rfl

theorem walk (w : World) : Calls Try.prog 10 #[] w fun e w' => e = .returned (.bool true) ∧ Below w.heap.size w w' := by
  obtain ⟨n, hn⟩ := DL.runW_iff.1 known_w
  refine (DL.root progX_ok hn (by simp) (.bool true) (w := w) (vs := #[]) ⟨rfl, by simp⟩).mono ?_
  rintro e w' ⟨F', q, rfl, h1, h2⟩
  exact ⟨by rw [DL.rv_true h1], h2⟩

set_option maxRecDepth 100000 in
theorem lifted (os : Os) (started : os.Started) (H : Type) (enc : TypeId × Value → H) :
    ReturnsInHanded {} Try.checked os 10 .any (Rows.bulkKnownSpec.pre6 enc Try.prog Try.f10 Rows.bulkKnownRow.domain false) (Rows.bulkKnownSpec.post enc Try.prog Try.f10 false true false false) := by
  refine returnsInHanded_of_change (C := Try.checked) own started (by kernel_rfl) Try.func10
    (ChangeSpec.witness6 (enc := enc) (C := Try.checked) false ⟨#[], #[], []⟩ 8 (by kernel_rfl) (by kernel_rfl) (by kernel_rfl) (by kernel_rfl)) ?_
  intro W base args ds gs before _ hW _ _
  have hW' := hW
  obtain ⟨p, q, hA0, hV, rfl, hfz, hnd⟩ := hW
  have hA : DataW.TrodAll enc Try.prog W 0 (fun _ => true) true Try.f10.params.toList args.toList ds p := hA0
  rw [Try.params10] at hA
  obtain ⟨rfl, rfl, rfl⟩ := trodAll_none hA
  obtain ⟨rfl, rfl⟩ := trodVars_none hV
  refine (walk W).mono fun e W' ⟨he, hb⟩ => ?_
  subst he
  exact ⟨_, rfl, DL.law_post laid hW' rfl rfl rfl rfl rfl Try.underlying4 (by kernel_rfl) hb⟩

theorem over : Rows.bulkKnownRow.holds Try.pinned (OpenSpec.ofChange Rows.bulkKnownSpec) :=
  OpenClaim.holds_of_wide 10 Try.f10 rfl rfl rfl rfl rfl rfl rfl ⟨rfl, rfl, rfl, rfl, rfl⟩ rfl rfl rfl rfl rfl (by kernel_rfl) Try.func10 (by kernel_rfl)
    (of_decide_eq_true (by kernel_rfl)) (by unfold Func.isWrapper; first | (rw [if_pos (by decide +kernel)]; kernel_rfl) | (rw [if_neg (by decide +kernel)]; exact ⟨rfl, rfl⟩))
    (fun os started H enc _ => lifted os started H enc)

theorem proved : Rows.BulkKnownSaid := over
#print axioms proved
end Go.Proofs.Ytdbikamciedfdaa.bulkKnown
