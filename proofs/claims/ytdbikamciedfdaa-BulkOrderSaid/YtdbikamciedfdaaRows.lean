/-
  No cell of these rows narrows 'for every input' (looked for: loops, veiled, ifaces, maps, wideKeys, modest, calm, conditions, laid).
  DERIVED. THE GIVEN ROWS OF THIS SEAT. 9 by the template 'for every input the law returns true; each argument reads behind the call as it read before'; 0 by the template 'total and deterministic' (their statements: YtdbikamciedfdaaTotals.lean).
  GIVEN WITH THE SEED: the statements are not yours to turn. If you find one false, say at which input.
  Laid BY PROGRAM, IN A SANDBOX (cutbox-rows.mjs): the forced cells as the released guide's own fill.sh prints them over the translation e2f4d68a7346021e… (all of the seat's roots in one cut). By AI agents, Wed Nov 11 2026. No macro, syntax, notation, axiom, sorry.
-/
import Derived.Test.YtdbikamciedfdaaChecked
import GoSem.Claim
import GoSem.ClaimJoined
import GoSem.ClaimMapViews
import Derived.JoinedTies
import Derived.KernelRfl
namespace Go.Proofs.Ytdbikamciedfdaa
/- THE CELL 'sum', in the pinned program and in every row, IS THE sha256 OF THE DUMP (.gsa) THAT YtdbikamciedfdaaProg.lean LOADS. Nothing in Lean hashes anything: it is a label: what it is worth is what the hold of that sum in a sandbox is worth. -/
noncomputable def Try.pinned : Pinned := { name := "ytdbikamciedfdaa", sum := "e2f4d68a7346021e35ce1178368f190cc61fd562d67eee984d127b011c98f606", checked := Try.checked }
namespace Rows
def none {H : Type} : Left H := { results := [], args := [] }

/-- 'zafralaw01.BulkPlants': WHATEVER THE INPUT: true; the input reads as it did. -/
def bulkPlantsSpec : ChangeSpec := { name := "bulkPlants", fn := fun _ => fun
  | [d1, d2, d3] => { results := [.lit (.bool true)], args := [d1, d2, d3] }
  | _ => none }
def bulkPlantsRow : OpenClaim := { program := "ytdbikamciedfdaa", sum := "e2f4d68a7346021e35ce1178368f190cc61fd562d67eee984d127b011c98f606", func := "zafra/zafralaw01.BulkPlants", spec := "bulkPlants", unfollowed := true, recurses := true, apart := false }
def BulkPlantsSaid : Prop := bulkPlantsRow.holds Try.pinned (OpenSpec.ofChange bulkPlantsSpec)

/-- ITS FALSE NEIGHBOUR: 'it returns false'. Refute it at one input. -/
def bulkPlantsWrong : ChangeSpec := { name := "bulkPlants", fn := fun _ => fun
  | [d1, d2, d3] => { results := [.lit (.bool false)], args := [d1, d2, d3] }
  | _ => none }
def BulkPlantsWrongFalsely : Prop := bulkPlantsRow.holds Try.pinned (OpenSpec.ofChange bulkPlantsWrong)

/-- 'zafralaw01.BulkCloses': WHATEVER THE INPUT: true; the input reads as it did. -/
def bulkClosesSpec : ChangeSpec := { name := "bulkCloses", fn := fun _ => fun
  | [d] => { results := [.lit (.bool true)], args := [d] }
  | _ => none }
def bulkClosesRow : OpenClaim := { program := "ytdbikamciedfdaa", sum := "e2f4d68a7346021e35ce1178368f190cc61fd562d67eee984d127b011c98f606", func := "zafra/zafralaw01.BulkCloses", spec := "bulkCloses", unfollowed := true, recurses := true, apart := false }
def BulkClosesSaid : Prop := bulkClosesRow.holds Try.pinned (OpenSpec.ofChange bulkClosesSpec)

/-- ITS FALSE NEIGHBOUR: 'it returns false'. Refute it at one input. -/
def bulkClosesWrong : ChangeSpec := { name := "bulkCloses", fn := fun _ => fun
  | [d] => { results := [.lit (.bool false)], args := [d] }
  | _ => none }
def BulkClosesWrongFalsely : Prop := bulkClosesRow.holds Try.pinned (OpenSpec.ofChange bulkClosesWrong)

/-- 'zafralaw01.BulkProves': WHATEVER THE INPUT: true; the input reads as it did. -/
def bulkProvesSpec : ChangeSpec := { name := "bulkProves", fn := fun _ => fun
  | [d1, d2, d3] => { results := [.lit (.bool true)], args := [d1, d2, d3] }
  | _ => none }
def bulkProvesRow : OpenClaim := { program := "ytdbikamciedfdaa", sum := "e2f4d68a7346021e35ce1178368f190cc61fd562d67eee984d127b011c98f606", func := "zafra/zafralaw01.BulkProves", spec := "bulkProves", unfollowed := true, recurses := true, apart := false }
def BulkProvesSaid : Prop := bulkProvesRow.holds Try.pinned (OpenSpec.ofChange bulkProvesSpec)

/-- ITS FALSE NEIGHBOUR: 'it returns false'. Refute it at one input. -/
def bulkProvesWrong : ChangeSpec := { name := "bulkProves", fn := fun _ => fun
  | [d1, d2, d3] => { results := [.lit (.bool false)], args := [d1, d2, d3] }
  | _ => none }
def BulkProvesWrongFalsely : Prop := bulkProvesRow.holds Try.pinned (OpenSpec.ofChange bulkProvesWrong)

/-- 'zafralaw01.BulkClash': WHATEVER THE INPUT: true; the input reads as it did. -/
def bulkClashSpec : ChangeSpec := { name := "bulkClash", fn := fun _ => fun
  | [d1, d2, d3] => { results := [.lit (.bool true)], args := [d1, d2, d3] }
  | _ => none }
def bulkClashRow : OpenClaim := { program := "ytdbikamciedfdaa", sum := "e2f4d68a7346021e35ce1178368f190cc61fd562d67eee984d127b011c98f606", func := "zafra/zafralaw01.BulkClash", spec := "bulkClash", unfollowed := true, recurses := true, apart := false }
def BulkClashSaid : Prop := bulkClashRow.holds Try.pinned (OpenSpec.ofChange bulkClashSpec)

/-- ITS FALSE NEIGHBOUR: 'it returns false'. Refute it at one input. -/
def bulkClashWrong : ChangeSpec := { name := "bulkClash", fn := fun _ => fun
  | [d1, d2, d3] => { results := [.lit (.bool false)], args := [d1, d2, d3] }
  | _ => none }
def BulkClashWrongFalsely : Prop := bulkClashRow.holds Try.pinned (OpenSpec.ofChange bulkClashWrong)

/-- 'zafralaw01.BulkProof': WHATEVER THE INPUT: true; the input reads as it did. -/
def bulkProofSpec : ChangeSpec := { name := "bulkProof", fn := fun _ => fun
  | [d1, d2, d3, d4] => { results := [.lit (.bool true)], args := [d1, d2, d3, d4] }
  | _ => none }
def bulkProofRow : OpenClaim := { program := "ytdbikamciedfdaa", sum := "e2f4d68a7346021e35ce1178368f190cc61fd562d67eee984d127b011c98f606", func := "zafra/zafralaw01.BulkProof", spec := "bulkProof", unfollowed := true, recurses := true, apart := false }
def BulkProofSaid : Prop := bulkProofRow.holds Try.pinned (OpenSpec.ofChange bulkProofSpec)

/-- ITS FALSE NEIGHBOUR: 'it returns false'. Refute it at one input. -/
def bulkProofWrong : ChangeSpec := { name := "bulkProof", fn := fun _ => fun
  | [d1, d2, d3, d4] => { results := [.lit (.bool false)], args := [d1, d2, d3, d4] }
  | _ => none }
def BulkProofWrongFalsely : Prop := bulkProofRow.holds Try.pinned (OpenSpec.ofChange bulkProofWrong)

/-- 'zafralaw01.BulkMore': WHATEVER THE INPUT: true; the input reads as it did. -/
def bulkMoreSpec : ChangeSpec := { name := "bulkMore", fn := fun _ => fun
  | [d1, d2, d3] => { results := [.lit (.bool true)], args := [d1, d2, d3] }
  | _ => none }
def bulkMoreRow : OpenClaim := { program := "ytdbikamciedfdaa", sum := "e2f4d68a7346021e35ce1178368f190cc61fd562d67eee984d127b011c98f606", func := "zafra/zafralaw01.BulkMore", spec := "bulkMore", unfollowed := true, recurses := true, apart := false }
def BulkMoreSaid : Prop := bulkMoreRow.holds Try.pinned (OpenSpec.ofChange bulkMoreSpec)

/-- ITS FALSE NEIGHBOUR: 'it returns false'. Refute it at one input. -/
def bulkMoreWrong : ChangeSpec := { name := "bulkMore", fn := fun _ => fun
  | [d1, d2, d3] => { results := [.lit (.bool false)], args := [d1, d2, d3] }
  | _ => none }
def BulkMoreWrongFalsely : Prop := bulkMoreRow.holds Try.pinned (OpenSpec.ofChange bulkMoreWrong)

/-- 'zafralaw01.BulkOrder': WHATEVER THE INPUT: true; the input reads as it did. -/
def bulkOrderSpec : ChangeSpec := { name := "bulkOrder", fn := fun _ => fun
  | [d1, d2, d3, d4] => { results := [.lit (.bool true)], args := [d1, d2, d3, d4] }
  | _ => none }
def bulkOrderRow : OpenClaim := { program := "ytdbikamciedfdaa", sum := "e2f4d68a7346021e35ce1178368f190cc61fd562d67eee984d127b011c98f606", func := "zafra/zafralaw01.BulkOrder", spec := "bulkOrder", unfollowed := true, recurses := true, apart := false }
def BulkOrderSaid : Prop := bulkOrderRow.holds Try.pinned (OpenSpec.ofChange bulkOrderSpec)

/-- ITS FALSE NEIGHBOUR: 'it returns false'. Refute it at one input. -/
def bulkOrderWrong : ChangeSpec := { name := "bulkOrder", fn := fun _ => fun
  | [d1, d2, d3, d4] => { results := [.lit (.bool false)], args := [d1, d2, d3, d4] }
  | _ => none }
def BulkOrderWrongFalsely : Prop := bulkOrderRow.holds Try.pinned (OpenSpec.ofChange bulkOrderWrong)

/-- 'zafralaw01.BulkKnown': WHATEVER THE INPUT: true; the input reads as it did. -/
def bulkKnownSpec : ChangeSpec := { name := "bulkKnown", fn := fun _ => fun
  | [] => { results := [.lit (.bool true)], args := [] }
  | _ => none }
def bulkKnownRow : OpenClaim := { program := "ytdbikamciedfdaa", sum := "e2f4d68a7346021e35ce1178368f190cc61fd562d67eee984d127b011c98f606", func := "zafra/zafralaw01.BulkKnown", spec := "bulkKnown", unfollowed := true, recurses := true, apart := false }
def BulkKnownSaid : Prop := bulkKnownRow.holds Try.pinned (OpenSpec.ofChange bulkKnownSpec)

/-- ITS FALSE NEIGHBOUR: 'it returns false'. Refute it at one input. -/
def bulkKnownWrong : ChangeSpec := { name := "bulkKnown", fn := fun _ => fun
  | [] => { results := [.lit (.bool false)], args := [] }
  | _ => none }
def BulkKnownWrongFalsely : Prop := bulkKnownRow.holds Try.pinned (OpenSpec.ofChange bulkKnownWrong)

/-- 'zafralaw01.BulkTrue': WHATEVER THE INPUT: true; the input reads as it did. -/
def bulkTrueSpec : ChangeSpec := { name := "bulkTrue", fn := fun _ => fun
  | [d1, d2, d3] => { results := [.lit (.bool true)], args := [d1, d2, d3] }
  | _ => none }
def bulkTrueRow : OpenClaim := { program := "ytdbikamciedfdaa", sum := "e2f4d68a7346021e35ce1178368f190cc61fd562d67eee984d127b011c98f606", func := "zafra/zafralaw01.BulkTrue", spec := "bulkTrue", unfollowed := true, recurses := true, apart := false }
def BulkTrueSaid : Prop := bulkTrueRow.holds Try.pinned (OpenSpec.ofChange bulkTrueSpec)

/-- ITS FALSE NEIGHBOUR: 'it returns false'. Refute it at one input. -/
def bulkTrueWrong : ChangeSpec := { name := "bulkTrue", fn := fun _ => fun
  | [d1, d2, d3] => { results := [.lit (.bool false)], args := [d1, d2, d3] }
  | _ => none }
def BulkTrueWrongFalsely : Prop := bulkTrueRow.holds Try.pinned (OpenSpec.ofChange bulkTrueWrong)

/- THE SECOND FORM. 'bulk': how many values and letters a reading holds, each counted each time it is reached (what is shared counts as often as it is met; a slice's spare places count too). A statement '..UptoSaid' is the law's where the arguments, and the package variables that the reading takes, are together of bulk at most 1048576: NARROWER than '..Said'. Prove '..Said' where nothing that the law and all that it calls make is longer than what came in: it says more and counts as full. Else prove '..UptoSaid'. A law counts once. -/
mutual
def uptoBulk {H : Type} : DataW H → Nat
  | .lit (.string bytes) => bytes.length + 1
  | .lit _ => 1
  | .nil => 1
  | .ptr d => uptoBulk d + 1
  | .slice elems spare => uptoBulkAll elems + uptoBulkAll spare + 1
  | .agg parts => uptoBulkAll parts + 1
  | .iface _ d => uptoBulk d + 1
  | .map entries => uptoBulkEntries entries + 1
  | .held _ => 1
def uptoBulkAll {H : Type} : List (DataW H) → Nat
  | [] => 0
  | d :: r => uptoBulk d + uptoBulkAll r
def uptoBulkEntries {H : Type} : List (Lit × DataW H) → Nat
  | [] => 0
  | x :: r => uptoBulkEntry x + uptoBulkEntries r
def uptoBulkEntry {H : Type} : Lit × DataW H → Nat
  | (.string bytes, d) => bytes.length + uptoBulk d + 1
  | (_, d) => uptoBulk d + 1
 end
def uptoSmall : (H : Type) → List (DataW H) → Bool := fun _ ds => decide (uptoBulkAll ds ≤ 1048576)
def OpenSpec.upto (s : _root_.Go.ChangeSpec) : _root_.Go.OpenSpec := { _root_.Go.OpenSpec.ofChange s with cond := some uptoSmall }

/-- 'zafralaw01.BulkPlants', WHERE WHAT IT READS IS OF BULK AT MOST 1048576: true; the input reads as it did. -/
def bulkPlantsUptoRow : OpenClaim := { program := "ytdbikamciedfdaa", sum := "e2f4d68a7346021e35ce1178368f190cc61fd562d67eee984d127b011c98f606", func := "zafra/zafralaw01.BulkPlants", spec := "bulkPlants", unfollowed := true, recurses := true, apart := false, narrowed := true }
def BulkPlantsUptoSaid : Prop := bulkPlantsUptoRow.holds Try.pinned (OpenSpec.upto bulkPlantsSpec)

/-- 'zafralaw01.BulkCloses', WHERE WHAT IT READS IS OF BULK AT MOST 1048576: true; the input reads as it did. -/
def bulkClosesUptoRow : OpenClaim := { program := "ytdbikamciedfdaa", sum := "e2f4d68a7346021e35ce1178368f190cc61fd562d67eee984d127b011c98f606", func := "zafra/zafralaw01.BulkCloses", spec := "bulkCloses", unfollowed := true, recurses := true, apart := false, narrowed := true }
def BulkClosesUptoSaid : Prop := bulkClosesUptoRow.holds Try.pinned (OpenSpec.upto bulkClosesSpec)

/-- 'zafralaw01.BulkProves', WHERE WHAT IT READS IS OF BULK AT MOST 1048576: true; the input reads as it did. -/
def bulkProvesUptoRow : OpenClaim := { program := "ytdbikamciedfdaa", sum := "e2f4d68a7346021e35ce1178368f190cc61fd562d67eee984d127b011c98f606", func := "zafra/zafralaw01.BulkProves", spec := "bulkProves", unfollowed := true, recurses := true, apart := false, narrowed := true }
def BulkProvesUptoSaid : Prop := bulkProvesUptoRow.holds Try.pinned (OpenSpec.upto bulkProvesSpec)

/-- 'zafralaw01.BulkClash', WHERE WHAT IT READS IS OF BULK AT MOST 1048576: true; the input reads as it did. -/
def bulkClashUptoRow : OpenClaim := { program := "ytdbikamciedfdaa", sum := "e2f4d68a7346021e35ce1178368f190cc61fd562d67eee984d127b011c98f606", func := "zafra/zafralaw01.BulkClash", spec := "bulkClash", unfollowed := true, recurses := true, apart := false, narrowed := true }
def BulkClashUptoSaid : Prop := bulkClashUptoRow.holds Try.pinned (OpenSpec.upto bulkClashSpec)

/-- 'zafralaw01.BulkProof', WHERE WHAT IT READS IS OF BULK AT MOST 1048576: true; the input reads as it did. -/
def bulkProofUptoRow : OpenClaim := { program := "ytdbikamciedfdaa", sum := "e2f4d68a7346021e35ce1178368f190cc61fd562d67eee984d127b011c98f606", func := "zafra/zafralaw01.BulkProof", spec := "bulkProof", unfollowed := true, recurses := true, apart := false, narrowed := true }
def BulkProofUptoSaid : Prop := bulkProofUptoRow.holds Try.pinned (OpenSpec.upto bulkProofSpec)

/-- 'zafralaw01.BulkMore', WHERE WHAT IT READS IS OF BULK AT MOST 1048576: true; the input reads as it did. -/
def bulkMoreUptoRow : OpenClaim := { program := "ytdbikamciedfdaa", sum := "e2f4d68a7346021e35ce1178368f190cc61fd562d67eee984d127b011c98f606", func := "zafra/zafralaw01.BulkMore", spec := "bulkMore", unfollowed := true, recurses := true, apart := false, narrowed := true }
def BulkMoreUptoSaid : Prop := bulkMoreUptoRow.holds Try.pinned (OpenSpec.upto bulkMoreSpec)

/-- 'zafralaw01.BulkOrder', WHERE WHAT IT READS IS OF BULK AT MOST 1048576: true; the input reads as it did. -/
def bulkOrderUptoRow : OpenClaim := { program := "ytdbikamciedfdaa", sum := "e2f4d68a7346021e35ce1178368f190cc61fd562d67eee984d127b011c98f606", func := "zafra/zafralaw01.BulkOrder", spec := "bulkOrder", unfollowed := true, recurses := true, apart := false, narrowed := true }
def BulkOrderUptoSaid : Prop := bulkOrderUptoRow.holds Try.pinned (OpenSpec.upto bulkOrderSpec)

/-- 'zafralaw01.BulkKnown', WHERE WHAT IT READS IS OF BULK AT MOST 1048576: true; the input reads as it did. -/
def bulkKnownUptoRow : OpenClaim := { program := "ytdbikamciedfdaa", sum := "e2f4d68a7346021e35ce1178368f190cc61fd562d67eee984d127b011c98f606", func := "zafra/zafralaw01.BulkKnown", spec := "bulkKnown", unfollowed := true, recurses := true, apart := false, narrowed := true }
def BulkKnownUptoSaid : Prop := bulkKnownUptoRow.holds Try.pinned (OpenSpec.upto bulkKnownSpec)

/-- 'zafralaw01.BulkTrue', WHERE WHAT IT READS IS OF BULK AT MOST 1048576: true; the input reads as it did. -/
def bulkTrueUptoRow : OpenClaim := { program := "ytdbikamciedfdaa", sum := "e2f4d68a7346021e35ce1178368f190cc61fd562d67eee984d127b011c98f606", func := "zafra/zafralaw01.BulkTrue", spec := "bulkTrue", unfollowed := true, recurses := true, apart := false, narrowed := true }
def BulkTrueUptoSaid : Prop := bulkTrueUptoRow.holds Try.pinned (OpenSpec.upto bulkTrueSpec)

end Rows
end Go.Proofs.Ytdbikamciedfdaa
