/-
  NARROWER THAN 'FOR EVERY INPUT', by the rows' own cells (each row's printed sentence says how): BlightIlls: laid · BlightHolds: laid · BlightCuts: laid · BlightVerifies: laid · BlightTrue: laid · BlightCut: laid · BlightNeeded: laid · BlightProved: laid · BlightHeld: laid · BlightMore: laid · BlightTurned: laid · BlightKnown: laid.
  DERIVED. THE GIVEN ROWS OF THIS SEAT. 12 by the template 'for every input the law returns true; each argument reads behind the call as it read before'; 0 by the template 'total and deterministic' (their statements: YtiabjdfdkiijmaaDoorTotals.lean).
  GIVEN WITH THE SEED: the statements are not yours to turn. If you find one false, say at which input.
  Laid BY PROGRAM, IN A SANDBOX (cutbox-rows.mjs): the forced cells as the released guide's own fill.sh prints them over the translation f2d58f375fca8c8c… (all of the seat's roots in one cut). By AI agents, Wed Nov 11 2026. No macro, syntax, notation, axiom, sorry.
-/
import Derived.Test.YtiabjdfdkiijmaaDoorChecked
import GoSem.Claim
import GoSem.ClaimJoined
import GoSem.ClaimMapViews
import Derived.JoinedTies
import Derived.KernelRfl
namespace Go.Proofs.YtiabjdfdkiijmaaDoor
/- THE CELL 'sum', in the pinned program and in every row, IS THE sha256 OF THE DUMP (.gsa) THAT YtiabjdfdkiijmaaDoorProg.lean LOADS. Nothing in Lean hashes anything: it is a label: what it is worth is what the hold of that sum in a sandbox is worth. -/
noncomputable def Tryd.pinned : Pinned := { name := "ytiabjdfdkiijmaadoor", sum := "f2d58f375fca8c8c3453f5c876fdd3b0966de71c223741139dfbbf953e858aab", checked := Tryd.checked }
namespace Rows
def none {H : Type} : Left H := { results := [], args := [] }

/- WHAT THE LISTED PACKAGE-LEVEL VARIABLES READ AS WHEN THE CALL BEGINS. Each datum BY PROGRAM (the guide's laid-datum.mjs) off the statement by which the dump's own 'gosem.cut.vars' lays the variable. In a bare row this is a premise. The card (YtiabjdfdkiijmaaDoorCards.lean) ties it to the program's text. -/
def laid_math_bits_deBruijn32tab {H : Type} : DataW H := .agg [.lit (.int .u8 0), .lit (.int .u8 1), .lit (.int .u8 28), .lit (.int .u8 2), .lit (.int .u8 29), .lit (.int .u8 14), .lit (.int .u8 24), .lit (.int .u8 3), .lit (.int .u8 30), .lit (.int .u8 22), .lit (.int .u8 20), .lit (.int .u8 15), .lit (.int .u8 25), .lit (.int .u8 17), .lit (.int .u8 4), .lit (.int .u8 8), .lit (.int .u8 31), .lit (.int .u8 27), .lit (.int .u8 13), .lit (.int .u8 23), .lit (.int .u8 21), .lit (.int .u8 19), .lit (.int .u8 16), .lit (.int .u8 7), .lit (.int .u8 26), .lit (.int .u8 12), .lit (.int .u8 18), .lit (.int .u8 6), .lit (.int .u8 11), .lit (.int .u8 5), .lit (.int .u8 10), .lit (.int .u8 9)]
def laid_math_bits_deBruijn64tab {H : Type} : DataW H := .agg [.lit (.int .u8 0), .lit (.int .u8 1), .lit (.int .u8 56), .lit (.int .u8 2), .lit (.int .u8 57), .lit (.int .u8 49), .lit (.int .u8 28), .lit (.int .u8 3), .lit (.int .u8 61), .lit (.int .u8 58), .lit (.int .u8 42), .lit (.int .u8 50), .lit (.int .u8 38), .lit (.int .u8 29), .lit (.int .u8 17), .lit (.int .u8 4), .lit (.int .u8 62), .lit (.int .u8 47), .lit (.int .u8 59), .lit (.int .u8 36), .lit (.int .u8 45), .lit (.int .u8 43), .lit (.int .u8 51), .lit (.int .u8 22), .lit (.int .u8 53), .lit (.int .u8 39), .lit (.int .u8 33), .lit (.int .u8 30), .lit (.int .u8 24), .lit (.int .u8 18), .lit (.int .u8 12), .lit (.int .u8 5), .lit (.int .u8 63), .lit (.int .u8 55), .lit (.int .u8 48), .lit (.int .u8 27), .lit (.int .u8 60), .lit (.int .u8 41), .lit (.int .u8 37), .lit (.int .u8 16), .lit (.int .u8 46), .lit (.int .u8 35), .lit (.int .u8 44), .lit (.int .u8 21), .lit (.int .u8 52), .lit (.int .u8 32), .lit (.int .u8 23), .lit (.int .u8 11), .lit (.int .u8 54), .lit (.int .u8 26), .lit (.int .u8 40), .lit (.int .u8 15), .lit (.int .u8 34), .lit (.int .u8 20), .lit (.int .u8 31), .lit (.int .u8 10), .lit (.int .u8 25), .lit (.int .u8 14), .lit (.int .u8 19), .lit (.int .u8 9), .lit (.int .u8 13), .lit (.int .u8 8), .lit (.int .u8 7), .lit (.int .u8 6)]

/-- 'zafralaw13.BlightIlls': WHATEVER THE INPUT: true; the input reads as it did. -/
def blightIllsSpec : ChangeSpec := { name := "blightIlls", fn := fun _ => fun
  | [d1, d2] => { results := [.lit (.bool true)], args := [d1, d2] }
  | _ => none }
def blightIllsRow : OpenClaim := { program := "ytiabjdfdkiijmaadoor", sum := "f2d58f375fca8c8c3453f5c876fdd3b0966de71c223741139dfbbf953e858aab", func := "zafra/zafralaw13.BlightIlls", spec := "blightIlls", unfollowed := true, recurses := true, named := ["math/bits.deBruijn32tab", "math/bits.deBruijn64tab"], apart := false, laid := [("math/bits.deBruijn32tab", laid_math_bits_deBruijn32tab), ("math/bits.deBruijn64tab", laid_math_bits_deBruijn64tab)] }
def BlightIllsSaid : Prop := blightIllsRow.holds Tryd.pinned (OpenSpec.ofChange blightIllsSpec)

/-- ITS FALSE NEIGHBOUR: 'it returns false'. Refute it at one input. -/
def blightIllsWrong : ChangeSpec := { name := "blightIlls", fn := fun _ => fun
  | [d1, d2] => { results := [.lit (.bool false)], args := [d1, d2] }
  | _ => none }
def BlightIllsWrongFalsely : Prop := blightIllsRow.holds Tryd.pinned (OpenSpec.ofChange blightIllsWrong)

/-- 'zafralaw13.BlightHolds': WHATEVER THE INPUT: true; the input reads as it did. -/
def blightHoldsSpec : ChangeSpec := { name := "blightHolds", fn := fun _ => fun
  | [d1, d2, d3] => { results := [.lit (.bool true)], args := [d1, d2, d3] }
  | _ => none }
def blightHoldsRow : OpenClaim := { program := "ytiabjdfdkiijmaadoor", sum := "f2d58f375fca8c8c3453f5c876fdd3b0966de71c223741139dfbbf953e858aab", func := "zafra/zafralaw13.BlightHolds", spec := "blightHolds", unfollowed := true, recurses := true, named := ["math/bits.deBruijn32tab", "math/bits.deBruijn64tab"], apart := false, laid := [("math/bits.deBruijn32tab", laid_math_bits_deBruijn32tab), ("math/bits.deBruijn64tab", laid_math_bits_deBruijn64tab)] }
def BlightHoldsSaid : Prop := blightHoldsRow.holds Tryd.pinned (OpenSpec.ofChange blightHoldsSpec)

/-- ITS FALSE NEIGHBOUR: 'it returns false'. Refute it at one input. -/
def blightHoldsWrong : ChangeSpec := { name := "blightHolds", fn := fun _ => fun
  | [d1, d2, d3] => { results := [.lit (.bool false)], args := [d1, d2, d3] }
  | _ => none }
def BlightHoldsWrongFalsely : Prop := blightHoldsRow.holds Tryd.pinned (OpenSpec.ofChange blightHoldsWrong)

/-- 'zafralaw13.BlightCuts': WHATEVER THE INPUT: true; the input reads as it did. -/
def blightCutsSpec : ChangeSpec := { name := "blightCuts", fn := fun _ => fun
  | [d] => { results := [.lit (.bool true)], args := [d] }
  | _ => none }
def blightCutsRow : OpenClaim := { program := "ytiabjdfdkiijmaadoor", sum := "f2d58f375fca8c8c3453f5c876fdd3b0966de71c223741139dfbbf953e858aab", func := "zafra/zafralaw13.BlightCuts", spec := "blightCuts", unfollowed := true, recurses := true, named := ["math/bits.deBruijn32tab", "math/bits.deBruijn64tab"], apart := false, laid := [("math/bits.deBruijn32tab", laid_math_bits_deBruijn32tab), ("math/bits.deBruijn64tab", laid_math_bits_deBruijn64tab)] }
def BlightCutsSaid : Prop := blightCutsRow.holds Tryd.pinned (OpenSpec.ofChange blightCutsSpec)

/-- ITS FALSE NEIGHBOUR: 'it returns false'. Refute it at one input. -/
def blightCutsWrong : ChangeSpec := { name := "blightCuts", fn := fun _ => fun
  | [d] => { results := [.lit (.bool false)], args := [d] }
  | _ => none }
def BlightCutsWrongFalsely : Prop := blightCutsRow.holds Tryd.pinned (OpenSpec.ofChange blightCutsWrong)

/-- 'zafralaw13.BlightVerifies': WHATEVER THE INPUT: true; the input reads as it did. -/
def blightVerifiesSpec : ChangeSpec := { name := "blightVerifies", fn := fun _ => fun
  | [d1, d2] => { results := [.lit (.bool true)], args := [d1, d2] }
  | _ => none }
def blightVerifiesRow : OpenClaim := { program := "ytiabjdfdkiijmaadoor", sum := "f2d58f375fca8c8c3453f5c876fdd3b0966de71c223741139dfbbf953e858aab", func := "zafra/zafralaw13.BlightVerifies", spec := "blightVerifies", unfollowed := true, recurses := true, named := ["math/bits.deBruijn32tab", "math/bits.deBruijn64tab"], apart := false, laid := [("math/bits.deBruijn32tab", laid_math_bits_deBruijn32tab), ("math/bits.deBruijn64tab", laid_math_bits_deBruijn64tab)] }
def BlightVerifiesSaid : Prop := blightVerifiesRow.holds Tryd.pinned (OpenSpec.ofChange blightVerifiesSpec)

/-- ITS FALSE NEIGHBOUR: 'it returns false'. Refute it at one input. -/
def blightVerifiesWrong : ChangeSpec := { name := "blightVerifies", fn := fun _ => fun
  | [d1, d2] => { results := [.lit (.bool false)], args := [d1, d2] }
  | _ => none }
def BlightVerifiesWrongFalsely : Prop := blightVerifiesRow.holds Tryd.pinned (OpenSpec.ofChange blightVerifiesWrong)

/-- 'zafralaw13.BlightTrue': WHATEVER THE INPUT: true; the input reads as it did. -/
def blightTrueSpec : ChangeSpec := { name := "blightTrue", fn := fun _ => fun
  | [d1, d2] => { results := [.lit (.bool true)], args := [d1, d2] }
  | _ => none }
def blightTrueRow : OpenClaim := { program := "ytiabjdfdkiijmaadoor", sum := "f2d58f375fca8c8c3453f5c876fdd3b0966de71c223741139dfbbf953e858aab", func := "zafra/zafralaw13.BlightTrue", spec := "blightTrue", unfollowed := true, recurses := true, named := ["math/bits.deBruijn32tab", "math/bits.deBruijn64tab"], apart := false, laid := [("math/bits.deBruijn32tab", laid_math_bits_deBruijn32tab), ("math/bits.deBruijn64tab", laid_math_bits_deBruijn64tab)] }
def BlightTrueSaid : Prop := blightTrueRow.holds Tryd.pinned (OpenSpec.ofChange blightTrueSpec)

/-- ITS FALSE NEIGHBOUR: 'it returns false'. Refute it at one input. -/
def blightTrueWrong : ChangeSpec := { name := "blightTrue", fn := fun _ => fun
  | [d1, d2] => { results := [.lit (.bool false)], args := [d1, d2] }
  | _ => none }
def BlightTrueWrongFalsely : Prop := blightTrueRow.holds Tryd.pinned (OpenSpec.ofChange blightTrueWrong)

/-- 'zafralaw13.BlightCut': WHATEVER THE INPUT: true; the input reads as it did. -/
def blightCutSpec : ChangeSpec := { name := "blightCut", fn := fun _ => fun
  | [d] => { results := [.lit (.bool true)], args := [d] }
  | _ => none }
def blightCutRow : OpenClaim := { program := "ytiabjdfdkiijmaadoor", sum := "f2d58f375fca8c8c3453f5c876fdd3b0966de71c223741139dfbbf953e858aab", func := "zafra/zafralaw13.BlightCut", spec := "blightCut", unfollowed := true, recurses := true, named := ["math/bits.deBruijn32tab", "math/bits.deBruijn64tab"], apart := false, laid := [("math/bits.deBruijn32tab", laid_math_bits_deBruijn32tab), ("math/bits.deBruijn64tab", laid_math_bits_deBruijn64tab)] }
def BlightCutSaid : Prop := blightCutRow.holds Tryd.pinned (OpenSpec.ofChange blightCutSpec)

/-- ITS FALSE NEIGHBOUR: 'it returns false'. Refute it at one input. -/
def blightCutWrong : ChangeSpec := { name := "blightCut", fn := fun _ => fun
  | [d] => { results := [.lit (.bool false)], args := [d] }
  | _ => none }
def BlightCutWrongFalsely : Prop := blightCutRow.holds Tryd.pinned (OpenSpec.ofChange blightCutWrong)

/-- 'zafralaw13.BlightNeeded': WHATEVER THE INPUT: true; the input reads as it did. -/
def blightNeededSpec : ChangeSpec := { name := "blightNeeded", fn := fun _ => fun
  | [d] => { results := [.lit (.bool true)], args := [d] }
  | _ => none }
def blightNeededRow : OpenClaim := { program := "ytiabjdfdkiijmaadoor", sum := "f2d58f375fca8c8c3453f5c876fdd3b0966de71c223741139dfbbf953e858aab", func := "zafra/zafralaw13.BlightNeeded", spec := "blightNeeded", unfollowed := true, recurses := true, named := ["math/bits.deBruijn32tab", "math/bits.deBruijn64tab"], apart := false, laid := [("math/bits.deBruijn32tab", laid_math_bits_deBruijn32tab), ("math/bits.deBruijn64tab", laid_math_bits_deBruijn64tab)] }
def BlightNeededSaid : Prop := blightNeededRow.holds Tryd.pinned (OpenSpec.ofChange blightNeededSpec)

/-- ITS FALSE NEIGHBOUR: 'it returns false'. Refute it at one input. -/
def blightNeededWrong : ChangeSpec := { name := "blightNeeded", fn := fun _ => fun
  | [d] => { results := [.lit (.bool false)], args := [d] }
  | _ => none }
def BlightNeededWrongFalsely : Prop := blightNeededRow.holds Tryd.pinned (OpenSpec.ofChange blightNeededWrong)

/-- 'zafralaw13.BlightProved': WHATEVER THE INPUT: true; the input reads as it did. -/
def blightProvedSpec : ChangeSpec := { name := "blightProved", fn := fun _ => fun
  | [d1, d2, d3] => { results := [.lit (.bool true)], args := [d1, d2, d3] }
  | _ => none }
def blightProvedRow : OpenClaim := { program := "ytiabjdfdkiijmaadoor", sum := "f2d58f375fca8c8c3453f5c876fdd3b0966de71c223741139dfbbf953e858aab", func := "zafra/zafralaw13.BlightProved", spec := "blightProved", unfollowed := true, recurses := true, named := ["math/bits.deBruijn32tab", "math/bits.deBruijn64tab"], apart := false, laid := [("math/bits.deBruijn32tab", laid_math_bits_deBruijn32tab), ("math/bits.deBruijn64tab", laid_math_bits_deBruijn64tab)] }
def BlightProvedSaid : Prop := blightProvedRow.holds Tryd.pinned (OpenSpec.ofChange blightProvedSpec)

/-- ITS FALSE NEIGHBOUR: 'it returns false'. Refute it at one input. -/
def blightProvedWrong : ChangeSpec := { name := "blightProved", fn := fun _ => fun
  | [d1, d2, d3] => { results := [.lit (.bool false)], args := [d1, d2, d3] }
  | _ => none }
def BlightProvedWrongFalsely : Prop := blightProvedRow.holds Tryd.pinned (OpenSpec.ofChange blightProvedWrong)

/-- 'zafralaw13.BlightHeld': WHATEVER THE INPUT: true; the input reads as it did. -/
def blightHeldSpec : ChangeSpec := { name := "blightHeld", fn := fun _ => fun
  | [d1, d2, d3] => { results := [.lit (.bool true)], args := [d1, d2, d3] }
  | _ => none }
def blightHeldRow : OpenClaim := { program := "ytiabjdfdkiijmaadoor", sum := "f2d58f375fca8c8c3453f5c876fdd3b0966de71c223741139dfbbf953e858aab", func := "zafra/zafralaw13.BlightHeld", spec := "blightHeld", unfollowed := true, recurses := true, named := ["math/bits.deBruijn32tab", "math/bits.deBruijn64tab"], apart := false, laid := [("math/bits.deBruijn32tab", laid_math_bits_deBruijn32tab), ("math/bits.deBruijn64tab", laid_math_bits_deBruijn64tab)] }
def BlightHeldSaid : Prop := blightHeldRow.holds Tryd.pinned (OpenSpec.ofChange blightHeldSpec)

/-- ITS FALSE NEIGHBOUR: 'it returns false'. Refute it at one input. -/
def blightHeldWrong : ChangeSpec := { name := "blightHeld", fn := fun _ => fun
  | [d1, d2, d3] => { results := [.lit (.bool false)], args := [d1, d2, d3] }
  | _ => none }
def BlightHeldWrongFalsely : Prop := blightHeldRow.holds Tryd.pinned (OpenSpec.ofChange blightHeldWrong)

/-- 'zafralaw13.BlightMore': WHATEVER THE INPUT: true; the input reads as it did. -/
def blightMoreSpec : ChangeSpec := { name := "blightMore", fn := fun _ => fun
  | [d1, d2, d3] => { results := [.lit (.bool true)], args := [d1, d2, d3] }
  | _ => none }
def blightMoreRow : OpenClaim := { program := "ytiabjdfdkiijmaadoor", sum := "f2d58f375fca8c8c3453f5c876fdd3b0966de71c223741139dfbbf953e858aab", func := "zafra/zafralaw13.BlightMore", spec := "blightMore", unfollowed := true, recurses := true, named := ["math/bits.deBruijn32tab", "math/bits.deBruijn64tab"], apart := false, laid := [("math/bits.deBruijn32tab", laid_math_bits_deBruijn32tab), ("math/bits.deBruijn64tab", laid_math_bits_deBruijn64tab)] }
def BlightMoreSaid : Prop := blightMoreRow.holds Tryd.pinned (OpenSpec.ofChange blightMoreSpec)

/-- ITS FALSE NEIGHBOUR: 'it returns false'. Refute it at one input. -/
def blightMoreWrong : ChangeSpec := { name := "blightMore", fn := fun _ => fun
  | [d1, d2, d3] => { results := [.lit (.bool false)], args := [d1, d2, d3] }
  | _ => none }
def BlightMoreWrongFalsely : Prop := blightMoreRow.holds Tryd.pinned (OpenSpec.ofChange blightMoreWrong)

/-- 'zafralaw13.BlightTurned': WHATEVER THE INPUT: true; the input reads as it did. -/
def blightTurnedSpec : ChangeSpec := { name := "blightTurned", fn := fun _ => fun
  | [d] => { results := [.lit (.bool true)], args := [d] }
  | _ => none }
def blightTurnedRow : OpenClaim := { program := "ytiabjdfdkiijmaadoor", sum := "f2d58f375fca8c8c3453f5c876fdd3b0966de71c223741139dfbbf953e858aab", func := "zafra/zafralaw13.BlightTurned", spec := "blightTurned", unfollowed := true, recurses := true, named := ["math/bits.deBruijn32tab", "math/bits.deBruijn64tab"], apart := false, laid := [("math/bits.deBruijn32tab", laid_math_bits_deBruijn32tab), ("math/bits.deBruijn64tab", laid_math_bits_deBruijn64tab)] }
def BlightTurnedSaid : Prop := blightTurnedRow.holds Tryd.pinned (OpenSpec.ofChange blightTurnedSpec)

/-- ITS FALSE NEIGHBOUR: 'it returns false'. Refute it at one input. -/
def blightTurnedWrong : ChangeSpec := { name := "blightTurned", fn := fun _ => fun
  | [d] => { results := [.lit (.bool false)], args := [d] }
  | _ => none }
def BlightTurnedWrongFalsely : Prop := blightTurnedRow.holds Tryd.pinned (OpenSpec.ofChange blightTurnedWrong)

/-- 'zafralaw13.BlightKnown': WHATEVER THE INPUT: true; the input reads as it did. -/
def blightKnownSpec : ChangeSpec := { name := "blightKnown", fn := fun _ => fun
  | [] => { results := [.lit (.bool true)], args := [] }
  | _ => none }
def blightKnownRow : OpenClaim := { program := "ytiabjdfdkiijmaadoor", sum := "f2d58f375fca8c8c3453f5c876fdd3b0966de71c223741139dfbbf953e858aab", func := "zafra/zafralaw13.BlightKnown", spec := "blightKnown", unfollowed := true, recurses := true, named := ["math/bits.deBruijn32tab", "math/bits.deBruijn64tab"], apart := false, laid := [("math/bits.deBruijn32tab", laid_math_bits_deBruijn32tab), ("math/bits.deBruijn64tab", laid_math_bits_deBruijn64tab)] }
def BlightKnownSaid : Prop := blightKnownRow.holds Tryd.pinned (OpenSpec.ofChange blightKnownSpec)

/-- ITS FALSE NEIGHBOUR: 'it returns false'. Refute it at one input. -/
def blightKnownWrong : ChangeSpec := { name := "blightKnown", fn := fun _ => fun
  | [] => { results := [.lit (.bool false)], args := [] }
  | _ => none }
def BlightKnownWrongFalsely : Prop := blightKnownRow.holds Tryd.pinned (OpenSpec.ofChange blightKnownWrong)

/- THE SECOND FORM. 'bulk': how many values and letters a reading holds, each counted each time it is reached (what is shared counts as often as it is met; a slice's spare places count too). A statement '..UptoSaid' is the law's where the arguments, and the package variables that the reading takes, are together of bulk at most 1048576: NARROWER than '..Said'. Prove '..Said' where nothing that the law and all that it calls make is longer than what came in: it says more and counts as full. Else prove '..UptoSaid'. A law counts once. -/
mutual
def uptoBulk {H : Type} : DataW H → Nat
  | .lit (.string bytes) => bytes.length + 1
  | .lit _ => 1
  | .nil => 1
  | .ptr d => uptoBulk d + 1
  | .slice elems spare => uptoBulkAll elems + uptoBulkAll spare + 1
  | .agg parts => uptoBulkAll parts + 1
  | .iface _ d => uptoBulk d + 1
  | .map entries => uptoBulkEntries entries + 1
  | .held _ => 1
def uptoBulkAll {H : Type} : List (DataW H) → Nat
  | [] => 0
  | d :: r => uptoBulk d + uptoBulkAll r
def uptoBulkEntries {H : Type} : List (Lit × DataW H) → Nat
  | [] => 0
  | x :: r => uptoBulkEntry x + uptoBulkEntries r
def uptoBulkEntry {H : Type} : Lit × DataW H → Nat
  | (.string bytes, d) => bytes.length + uptoBulk d + 1
  | (_, d) => uptoBulk d + 1
 end
def uptoSmall : (H : Type) → List (DataW H) → Bool := fun _ ds => decide (uptoBulkAll ds ≤ 1048576)
def OpenSpec.upto (s : _root_.Go.ChangeSpec) : _root_.Go.OpenSpec := { _root_.Go.OpenSpec.ofChange s with cond := some uptoSmall }

/-- 'zafralaw13.BlightIlls', WHERE WHAT IT READS IS OF BULK AT MOST 1048576: true; the input reads as it did. -/
def blightIllsUptoRow : OpenClaim := { program := "ytiabjdfdkiijmaadoor", sum := "f2d58f375fca8c8c3453f5c876fdd3b0966de71c223741139dfbbf953e858aab", func := "zafra/zafralaw13.BlightIlls", spec := "blightIlls", unfollowed := true, recurses := true, named := ["math/bits.deBruijn32tab", "math/bits.deBruijn64tab"], apart := false, laid := [("math/bits.deBruijn32tab", laid_math_bits_deBruijn32tab), ("math/bits.deBruijn64tab", laid_math_bits_deBruijn64tab)], narrowed := true }
def BlightIllsUptoSaid : Prop := blightIllsUptoRow.holds Tryd.pinned (OpenSpec.upto blightIllsSpec)

/-- 'zafralaw13.BlightHolds', WHERE WHAT IT READS IS OF BULK AT MOST 1048576: true; the input reads as it did. -/
def blightHoldsUptoRow : OpenClaim := { program := "ytiabjdfdkiijmaadoor", sum := "f2d58f375fca8c8c3453f5c876fdd3b0966de71c223741139dfbbf953e858aab", func := "zafra/zafralaw13.BlightHolds", spec := "blightHolds", unfollowed := true, recurses := true, named := ["math/bits.deBruijn32tab", "math/bits.deBruijn64tab"], apart := false, laid := [("math/bits.deBruijn32tab", laid_math_bits_deBruijn32tab), ("math/bits.deBruijn64tab", laid_math_bits_deBruijn64tab)], narrowed := true }
def BlightHoldsUptoSaid : Prop := blightHoldsUptoRow.holds Tryd.pinned (OpenSpec.upto blightHoldsSpec)

/-- 'zafralaw13.BlightCuts', WHERE WHAT IT READS IS OF BULK AT MOST 1048576: true; the input reads as it did. -/
def blightCutsUptoRow : OpenClaim := { program := "ytiabjdfdkiijmaadoor", sum := "f2d58f375fca8c8c3453f5c876fdd3b0966de71c223741139dfbbf953e858aab", func := "zafra/zafralaw13.BlightCuts", spec := "blightCuts", unfollowed := true, recurses := true, named := ["math/bits.deBruijn32tab", "math/bits.deBruijn64tab"], apart := false, laid := [("math/bits.deBruijn32tab", laid_math_bits_deBruijn32tab), ("math/bits.deBruijn64tab", laid_math_bits_deBruijn64tab)], narrowed := true }
def BlightCutsUptoSaid : Prop := blightCutsUptoRow.holds Tryd.pinned (OpenSpec.upto blightCutsSpec)

/-- 'zafralaw13.BlightVerifies', WHERE WHAT IT READS IS OF BULK AT MOST 1048576: true; the input reads as it did. -/
def blightVerifiesUptoRow : OpenClaim := { program := "ytiabjdfdkiijmaadoor", sum := "f2d58f375fca8c8c3453f5c876fdd3b0966de71c223741139dfbbf953e858aab", func := "zafra/zafralaw13.BlightVerifies", spec := "blightVerifies", unfollowed := true, recurses := true, named := ["math/bits.deBruijn32tab", "math/bits.deBruijn64tab"], apart := false, laid := [("math/bits.deBruijn32tab", laid_math_bits_deBruijn32tab), ("math/bits.deBruijn64tab", laid_math_bits_deBruijn64tab)], narrowed := true }
def BlightVerifiesUptoSaid : Prop := blightVerifiesUptoRow.holds Tryd.pinned (OpenSpec.upto blightVerifiesSpec)

/-- 'zafralaw13.BlightTrue', WHERE WHAT IT READS IS OF BULK AT MOST 1048576: true; the input reads as it did. -/
def blightTrueUptoRow : OpenClaim := { program := "ytiabjdfdkiijmaadoor", sum := "f2d58f375fca8c8c3453f5c876fdd3b0966de71c223741139dfbbf953e858aab", func := "zafra/zafralaw13.BlightTrue", spec := "blightTrue", unfollowed := true, recurses := true, named := ["math/bits.deBruijn32tab", "math/bits.deBruijn64tab"], apart := false, laid := [("math/bits.deBruijn32tab", laid_math_bits_deBruijn32tab), ("math/bits.deBruijn64tab", laid_math_bits_deBruijn64tab)], narrowed := true }
def BlightTrueUptoSaid : Prop := blightTrueUptoRow.holds Tryd.pinned (OpenSpec.upto blightTrueSpec)

/-- 'zafralaw13.BlightCut', WHERE WHAT IT READS IS OF BULK AT MOST 1048576: true; the input reads as it did. -/
def blightCutUptoRow : OpenClaim := { program := "ytiabjdfdkiijmaadoor", sum := "f2d58f375fca8c8c3453f5c876fdd3b0966de71c223741139dfbbf953e858aab", func := "zafra/zafralaw13.BlightCut", spec := "blightCut", unfollowed := true, recurses := true, named := ["math/bits.deBruijn32tab", "math/bits.deBruijn64tab"], apart := false, laid := [("math/bits.deBruijn32tab", laid_math_bits_deBruijn32tab), ("math/bits.deBruijn64tab", laid_math_bits_deBruijn64tab)], narrowed := true }
def BlightCutUptoSaid : Prop := blightCutUptoRow.holds Tryd.pinned (OpenSpec.upto blightCutSpec)

/-- 'zafralaw13.BlightNeeded', WHERE WHAT IT READS IS OF BULK AT MOST 1048576: true; the input reads as it did. -/
def blightNeededUptoRow : OpenClaim := { program := "ytiabjdfdkiijmaadoor", sum := "f2d58f375fca8c8c3453f5c876fdd3b0966de71c223741139dfbbf953e858aab", func := "zafra/zafralaw13.BlightNeeded", spec := "blightNeeded", unfollowed := true, recurses := true, named := ["math/bits.deBruijn32tab", "math/bits.deBruijn64tab"], apart := false, laid := [("math/bits.deBruijn32tab", laid_math_bits_deBruijn32tab), ("math/bits.deBruijn64tab", laid_math_bits_deBruijn64tab)], narrowed := true }
def BlightNeededUptoSaid : Prop := blightNeededUptoRow.holds Tryd.pinned (OpenSpec.upto blightNeededSpec)

/-- 'zafralaw13.BlightProved', WHERE WHAT IT READS IS OF BULK AT MOST 1048576: true; the input reads as it did. -/
def blightProvedUptoRow : OpenClaim := { program := "ytiabjdfdkiijmaadoor", sum := "f2d58f375fca8c8c3453f5c876fdd3b0966de71c223741139dfbbf953e858aab", func := "zafra/zafralaw13.BlightProved", spec := "blightProved", unfollowed := true, recurses := true, named := ["math/bits.deBruijn32tab", "math/bits.deBruijn64tab"], apart := false, laid := [("math/bits.deBruijn32tab", laid_math_bits_deBruijn32tab), ("math/bits.deBruijn64tab", laid_math_bits_deBruijn64tab)], narrowed := true }
def BlightProvedUptoSaid : Prop := blightProvedUptoRow.holds Tryd.pinned (OpenSpec.upto blightProvedSpec)

/-- 'zafralaw13.BlightHeld', WHERE WHAT IT READS IS OF BULK AT MOST 1048576: true; the input reads as it did. -/
def blightHeldUptoRow : OpenClaim := { program := "ytiabjdfdkiijmaadoor", sum := "f2d58f375fca8c8c3453f5c876fdd3b0966de71c223741139dfbbf953e858aab", func := "zafra/zafralaw13.BlightHeld", spec := "blightHeld", unfollowed := true, recurses := true, named := ["math/bits.deBruijn32tab", "math/bits.deBruijn64tab"], apart := false, laid := [("math/bits.deBruijn32tab", laid_math_bits_deBruijn32tab), ("math/bits.deBruijn64tab", laid_math_bits_deBruijn64tab)], narrowed := true }
def BlightHeldUptoSaid : Prop := blightHeldUptoRow.holds Tryd.pinned (OpenSpec.upto blightHeldSpec)

/-- 'zafralaw13.BlightMore', WHERE WHAT IT READS IS OF BULK AT MOST 1048576: true; the input reads as it did. -/
def blightMoreUptoRow : OpenClaim := { program := "ytiabjdfdkiijmaadoor", sum := "f2d58f375fca8c8c3453f5c876fdd3b0966de71c223741139dfbbf953e858aab", func := "zafra/zafralaw13.BlightMore", spec := "blightMore", unfollowed := true, recurses := true, named := ["math/bits.deBruijn32tab", "math/bits.deBruijn64tab"], apart := false, laid := [("math/bits.deBruijn32tab", laid_math_bits_deBruijn32tab), ("math/bits.deBruijn64tab", laid_math_bits_deBruijn64tab)], narrowed := true }
def BlightMoreUptoSaid : Prop := blightMoreUptoRow.holds Tryd.pinned (OpenSpec.upto blightMoreSpec)

/-- 'zafralaw13.BlightTurned', WHERE WHAT IT READS IS OF BULK AT MOST 1048576: true; the input reads as it did. -/
def blightTurnedUptoRow : OpenClaim := { program := "ytiabjdfdkiijmaadoor", sum := "f2d58f375fca8c8c3453f5c876fdd3b0966de71c223741139dfbbf953e858aab", func := "zafra/zafralaw13.BlightTurned", spec := "blightTurned", unfollowed := true, recurses := true, named := ["math/bits.deBruijn32tab", "math/bits.deBruijn64tab"], apart := false, laid := [("math/bits.deBruijn32tab", laid_math_bits_deBruijn32tab), ("math/bits.deBruijn64tab", laid_math_bits_deBruijn64tab)], narrowed := true }
def BlightTurnedUptoSaid : Prop := blightTurnedUptoRow.holds Tryd.pinned (OpenSpec.upto blightTurnedSpec)

/-- 'zafralaw13.BlightKnown', WHERE WHAT IT READS IS OF BULK AT MOST 1048576: true; the input reads as it did. -/
def blightKnownUptoRow : OpenClaim := { program := "ytiabjdfdkiijmaadoor", sum := "f2d58f375fca8c8c3453f5c876fdd3b0966de71c223741139dfbbf953e858aab", func := "zafra/zafralaw13.BlightKnown", spec := "blightKnown", unfollowed := true, recurses := true, named := ["math/bits.deBruijn32tab", "math/bits.deBruijn64tab"], apart := false, laid := [("math/bits.deBruijn32tab", laid_math_bits_deBruijn32tab), ("math/bits.deBruijn64tab", laid_math_bits_deBruijn64tab)], narrowed := true }
def BlightKnownUptoSaid : Prop := blightKnownUptoRow.holds Tryd.pinned (OpenSpec.upto blightKnownSpec)

end Rows
end Go.Proofs.YtiabjdfdkiijmaaDoor
