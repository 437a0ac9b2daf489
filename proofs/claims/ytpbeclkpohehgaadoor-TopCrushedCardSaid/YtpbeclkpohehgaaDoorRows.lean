/-
  NARROWER THAN 'FOR EVERY INPUT', by the rows' own cells (each row's printed sentence says how): SourRuns: laid · TopCrushed: laid · SourBests: laid · SourVerifies: laid · SourDelays: laid · SourTruth: laid · SourBest: laid · SourProof: laid · SourDelay: laid · SourWorse: laid · SourNumbers: laid.
  DERIVED. THE GIVEN ROWS OF THIS SEAT. 11 by the template 'for every input the law returns true; each argument reads behind the call as it read before'; 0 by the template 'total and deterministic' (their statements: YtpbeclkpohehgaaDoorTotals.lean).
  GIVEN WITH THE SEED: the statements are not yours to turn. If you find one false, say at which input.
  Laid BY PROGRAM, IN A SANDBOX (cutbox-rows.mjs): the forced cells as the released guide's own fill.sh prints them over the translation 6e35560e445664a2… (all of the seat's roots in one cut). By AI agents, Wed Nov 11 2026. No macro, syntax, notation, axiom, sorry.
-/
import Derived.Test.YtpbeclkpohehgaaDoorChecked
import GoSem.Claim
import GoSem.ClaimJoined
import GoSem.ClaimMapViews
import Derived.JoinedTies
import Derived.KernelRfl
namespace Go.Proofs.YtpbeclkpohehgaaDoor
/- THE CELL 'sum', in the pinned program and in every row, IS THE sha256 OF THE DUMP (.gsa) THAT YtpbeclkpohehgaaDoorProg.lean LOADS. Nothing in Lean hashes anything: it is a label: what it is worth is what the hold of that sum in a sandbox is worth. -/
noncomputable def Tryd.pinned : Pinned := { name := "ytpbeclkpohehgaadoor", sum := "6e35560e445664a2452acaf55e697790756bc0ecb3617b6523c1f3feea6583e4", checked := Tryd.checked }
namespace Rows
def none {H : Type} : Left H := { results := [], args := [] }

/- WHAT THE LISTED PACKAGE-LEVEL VARIABLES READ AS WHEN THE CALL BEGINS. Each datum BY PROGRAM (the guide's laid-datum.mjs) off the statement by which the dump's own 'gosem.cut.vars' lays the variable. In a bare row this is a premise. The card (YtpbeclkpohehgaaDoorCards.lean) ties it to the program's text. -/
def laid_math_bits_deBruijn32tab {H : Type} : DataW H := .agg [.lit (.int .u8 0), .lit (.int .u8 1), .lit (.int .u8 28), .lit (.int .u8 2), .lit (.int .u8 29), .lit (.int .u8 14), .lit (.int .u8 24), .lit (.int .u8 3), .lit (.int .u8 30), .lit (.int .u8 22), .lit (.int .u8 20), .lit (.int .u8 15), .lit (.int .u8 25), .lit (.int .u8 17), .lit (.int .u8 4), .lit (.int .u8 8), .lit (.int .u8 31), .lit (.int .u8 27), .lit (.int .u8 13), .lit (.int .u8 23), .lit (.int .u8 21), .lit (.int .u8 19), .lit (.int .u8 16), .lit (.int .u8 7), .lit (.int .u8 26), .lit (.int .u8 12), .lit (.int .u8 18), .lit (.int .u8 6), .lit (.int .u8 11), .lit (.int .u8 5), .lit (.int .u8 10), .lit (.int .u8 9)]
def laid_math_bits_deBruijn64tab {H : Type} : DataW H := .agg [.lit (.int .u8 0), .lit (.int .u8 1), .lit (.int .u8 56), .lit (.int .u8 2), .lit (.int .u8 57), .lit (.int .u8 49), .lit (.int .u8 28), .lit (.int .u8 3), .lit (.int .u8 61), .lit (.int .u8 58), .lit (.int .u8 42), .lit (.int .u8 50), .lit (.int .u8 38), .lit (.int .u8 29), .lit (.int .u8 17), .lit (.int .u8 4), .lit (.int .u8 62), .lit (.int .u8 47), .lit (.int .u8 59), .lit (.int .u8 36), .lit (.int .u8 45), .lit (.int .u8 43), .lit (.int .u8 51), .lit (.int .u8 22), .lit (.int .u8 53), .lit (.int .u8 39), .lit (.int .u8 33), .lit (.int .u8 30), .lit (.int .u8 24), .lit (.int .u8 18), .lit (.int .u8 12), .lit (.int .u8 5), .lit (.int .u8 63), .lit (.int .u8 55), .lit (.int .u8 48), .lit (.int .u8 27), .lit (.int .u8 60), .lit (.int .u8 41), .lit (.int .u8 37), .lit (.int .u8 16), .lit (.int .u8 46), .lit (.int .u8 35), .lit (.int .u8 44), .lit (.int .u8 21), .lit (.int .u8 52), .lit (.int .u8 32), .lit (.int .u8 23), .lit (.int .u8 11), .lit (.int .u8 54), .lit (.int .u8 26), .lit (.int .u8 40), .lit (.int .u8 15), .lit (.int .u8 34), .lit (.int .u8 20), .lit (.int .u8 31), .lit (.int .u8 10), .lit (.int .u8 25), .lit (.int .u8 14), .lit (.int .u8 19), .lit (.int .u8 9), .lit (.int .u8 13), .lit (.int .u8 8), .lit (.int .u8 7), .lit (.int .u8 6)]

/-- 'zafralaw04.SourRuns': WHATEVER THE INPUT: true; the input reads as it did. -/
def sourRunsSpec : ChangeSpec := { name := "sourRuns", fn := fun _ => fun
  | [d1, d2] => { results := [.lit (.bool true)], args := [d1, d2] }
  | _ => none }
def sourRunsRow : OpenClaim := { program := "ytpbeclkpohehgaadoor", sum := "6e35560e445664a2452acaf55e697790756bc0ecb3617b6523c1f3feea6583e4", func := "zafra/zafralaw04.SourRuns", spec := "sourRuns", unfollowed := true, recurses := true, named := ["math/bits.deBruijn32tab", "math/bits.deBruijn64tab"], apart := false, laid := [("math/bits.deBruijn32tab", laid_math_bits_deBruijn32tab), ("math/bits.deBruijn64tab", laid_math_bits_deBruijn64tab)] }
def SourRunsSaid : Prop := sourRunsRow.holds Tryd.pinned (OpenSpec.ofChange sourRunsSpec)

/-- ITS FALSE NEIGHBOUR: 'it returns false'. Refute it at one input. -/
def sourRunsWrong : ChangeSpec := { name := "sourRuns", fn := fun _ => fun
  | [d1, d2] => { results := [.lit (.bool false)], args := [d1, d2] }
  | _ => none }
def SourRunsWrongFalsely : Prop := sourRunsRow.holds Tryd.pinned (OpenSpec.ofChange sourRunsWrong)

/-- 'zafratop.TopCrushed': WHATEVER THE INPUT: true; the input reads as it did. -/
def topCrushedSpec : ChangeSpec := { name := "topCrushed", fn := fun _ => fun
  | [d1, d2, d3] => { results := [.lit (.bool true)], args := [d1, d2, d3] }
  | _ => none }
def topCrushedRow : OpenClaim := { program := "ytpbeclkpohehgaadoor", sum := "6e35560e445664a2452acaf55e697790756bc0ecb3617b6523c1f3feea6583e4", func := "zafra/zafratop.TopCrushed", spec := "topCrushed", unfollowed := true, recurses := true, named := ["math/bits.deBruijn32tab", "math/bits.deBruijn64tab"], apart := false, laid := [("math/bits.deBruijn32tab", laid_math_bits_deBruijn32tab), ("math/bits.deBruijn64tab", laid_math_bits_deBruijn64tab)] }
def TopCrushedSaid : Prop := topCrushedRow.holds Tryd.pinned (OpenSpec.ofChange topCrushedSpec)

/-- ITS FALSE NEIGHBOUR: 'it returns false'. Refute it at one input. -/
def topCrushedWrong : ChangeSpec := { name := "topCrushed", fn := fun _ => fun
  | [d1, d2, d3] => { results := [.lit (.bool false)], args := [d1, d2, d3] }
  | _ => none }
def TopCrushedWrongFalsely : Prop := topCrushedRow.holds Tryd.pinned (OpenSpec.ofChange topCrushedWrong)

/-- 'zafralaw04.SourBests': WHATEVER THE INPUT: true; the input reads as it did. -/
def sourBestsSpec : ChangeSpec := { name := "sourBests", fn := fun _ => fun
  | [d] => { results := [.lit (.bool true)], args := [d] }
  | _ => none }
def sourBestsRow : OpenClaim := { program := "ytpbeclkpohehgaadoor", sum := "6e35560e445664a2452acaf55e697790756bc0ecb3617b6523c1f3feea6583e4", func := "zafra/zafralaw04.SourBests", spec := "sourBests", unfollowed := true, recurses := true, named := ["math/bits.deBruijn32tab", "math/bits.deBruijn64tab"], apart := false, laid := [("math/bits.deBruijn32tab", laid_math_bits_deBruijn32tab), ("math/bits.deBruijn64tab", laid_math_bits_deBruijn64tab)] }
def SourBestsSaid : Prop := sourBestsRow.holds Tryd.pinned (OpenSpec.ofChange sourBestsSpec)

/-- ITS FALSE NEIGHBOUR: 'it returns false'. Refute it at one input. -/
def sourBestsWrong : ChangeSpec := { name := "sourBests", fn := fun _ => fun
  | [d] => { results := [.lit (.bool false)], args := [d] }
  | _ => none }
def SourBestsWrongFalsely : Prop := sourBestsRow.holds Tryd.pinned (OpenSpec.ofChange sourBestsWrong)

/-- 'zafralaw04.SourVerifies': WHATEVER THE INPUT: true; the input reads as it did. -/
def sourVerifiesSpec : ChangeSpec := { name := "sourVerifies", fn := fun _ => fun
  | [d1, d2, d3] => { results := [.lit (.bool true)], args := [d1, d2, d3] }
  | _ => none }
def sourVerifiesRow : OpenClaim := { program := "ytpbeclkpohehgaadoor", sum := "6e35560e445664a2452acaf55e697790756bc0ecb3617b6523c1f3feea6583e4", func := "zafra/zafralaw04.SourVerifies", spec := "sourVerifies", unfollowed := true, recurses := true, named := ["math/bits.deBruijn32tab", "math/bits.deBruijn64tab"], apart := false, laid := [("math/bits.deBruijn32tab", laid_math_bits_deBruijn32tab), ("math/bits.deBruijn64tab", laid_math_bits_deBruijn64tab)] }
def SourVerifiesSaid : Prop := sourVerifiesRow.holds Tryd.pinned (OpenSpec.ofChange sourVerifiesSpec)

/-- ITS FALSE NEIGHBOUR: 'it returns false'. Refute it at one input. -/
def sourVerifiesWrong : ChangeSpec := { name := "sourVerifies", fn := fun _ => fun
  | [d1, d2, d3] => { results := [.lit (.bool false)], args := [d1, d2, d3] }
  | _ => none }
def SourVerifiesWrongFalsely : Prop := sourVerifiesRow.holds Tryd.pinned (OpenSpec.ofChange sourVerifiesWrong)

/-- 'zafralaw04.SourDelays': WHATEVER THE INPUT: true; the input reads as it did. -/
def sourDelaysSpec : ChangeSpec := { name := "sourDelays", fn := fun _ => fun
  | [d1, d2, d3] => { results := [.lit (.bool true)], args := [d1, d2, d3] }
  | _ => none }
def sourDelaysRow : OpenClaim := { program := "ytpbeclkpohehgaadoor", sum := "6e35560e445664a2452acaf55e697790756bc0ecb3617b6523c1f3feea6583e4", func := "zafra/zafralaw04.SourDelays", spec := "sourDelays", unfollowed := true, recurses := true, named := ["math/bits.deBruijn32tab", "math/bits.deBruijn64tab"], apart := false, laid := [("math/bits.deBruijn32tab", laid_math_bits_deBruijn32tab), ("math/bits.deBruijn64tab", laid_math_bits_deBruijn64tab)] }
def SourDelaysSaid : Prop := sourDelaysRow.holds Tryd.pinned (OpenSpec.ofChange sourDelaysSpec)

/-- ITS FALSE NEIGHBOUR: 'it returns false'. Refute it at one input. -/
def sourDelaysWrong : ChangeSpec := { name := "sourDelays", fn := fun _ => fun
  | [d1, d2, d3] => { results := [.lit (.bool false)], args := [d1, d2, d3] }
  | _ => none }
def SourDelaysWrongFalsely : Prop := sourDelaysRow.holds Tryd.pinned (OpenSpec.ofChange sourDelaysWrong)

/-- 'zafralaw04.SourTruth': WHATEVER THE INPUT: true; the input reads as it did. -/
def sourTruthSpec : ChangeSpec := { name := "sourTruth", fn := fun _ => fun
  | [d1, d2, d3] => { results := [.lit (.bool true)], args := [d1, d2, d3] }
  | _ => none }
def sourTruthRow : OpenClaim := { program := "ytpbeclkpohehgaadoor", sum := "6e35560e445664a2452acaf55e697790756bc0ecb3617b6523c1f3feea6583e4", func := "zafra/zafralaw04.SourTruth", spec := "sourTruth", unfollowed := true, recurses := true, named := ["math/bits.deBruijn32tab", "math/bits.deBruijn64tab"], apart := false, laid := [("math/bits.deBruijn32tab", laid_math_bits_deBruijn32tab), ("math/bits.deBruijn64tab", laid_math_bits_deBruijn64tab)] }
def SourTruthSaid : Prop := sourTruthRow.holds Tryd.pinned (OpenSpec.ofChange sourTruthSpec)

/-- ITS FALSE NEIGHBOUR: 'it returns false'. Refute it at one input. -/
def sourTruthWrong : ChangeSpec := { name := "sourTruth", fn := fun _ => fun
  | [d1, d2, d3] => { results := [.lit (.bool false)], args := [d1, d2, d3] }
  | _ => none }
def SourTruthWrongFalsely : Prop := sourTruthRow.holds Tryd.pinned (OpenSpec.ofChange sourTruthWrong)

/-- 'zafralaw04.SourBest': WHATEVER THE INPUT: true; the input reads as it did. -/
def sourBestSpec : ChangeSpec := { name := "sourBest", fn := fun _ => fun
  | [d] => { results := [.lit (.bool true)], args := [d] }
  | _ => none }
def sourBestRow : OpenClaim := { program := "ytpbeclkpohehgaadoor", sum := "6e35560e445664a2452acaf55e697790756bc0ecb3617b6523c1f3feea6583e4", func := "zafra/zafralaw04.SourBest", spec := "sourBest", unfollowed := true, recurses := true, named := ["math/bits.deBruijn32tab", "math/bits.deBruijn64tab"], apart := false, laid := [("math/bits.deBruijn32tab", laid_math_bits_deBruijn32tab), ("math/bits.deBruijn64tab", laid_math_bits_deBruijn64tab)] }
def SourBestSaid : Prop := sourBestRow.holds Tryd.pinned (OpenSpec.ofChange sourBestSpec)

/-- ITS FALSE NEIGHBOUR: 'it returns false'. Refute it at one input. -/
def sourBestWrong : ChangeSpec := { name := "sourBest", fn := fun _ => fun
  | [d] => { results := [.lit (.bool false)], args := [d] }
  | _ => none }
def SourBestWrongFalsely : Prop := sourBestRow.holds Tryd.pinned (OpenSpec.ofChange sourBestWrong)

/-- 'zafralaw04.SourProof': WHATEVER THE INPUT: true; the input reads as it did. -/
def sourProofSpec : ChangeSpec := { name := "sourProof", fn := fun _ => fun
  | [d1, d2, d3] => { results := [.lit (.bool true)], args := [d1, d2, d3] }
  | _ => none }
def sourProofRow : OpenClaim := { program := "ytpbeclkpohehgaadoor", sum := "6e35560e445664a2452acaf55e697790756bc0ecb3617b6523c1f3feea6583e4", func := "zafra/zafralaw04.SourProof", spec := "sourProof", unfollowed := true, recurses := true, named := ["math/bits.deBruijn32tab", "math/bits.deBruijn64tab"], apart := false, laid := [("math/bits.deBruijn32tab", laid_math_bits_deBruijn32tab), ("math/bits.deBruijn64tab", laid_math_bits_deBruijn64tab)] }
def SourProofSaid : Prop := sourProofRow.holds Tryd.pinned (OpenSpec.ofChange sourProofSpec)

/-- ITS FALSE NEIGHBOUR: 'it returns false'. Refute it at one input. -/
def sourProofWrong : ChangeSpec := { name := "sourProof", fn := fun _ => fun
  | [d1, d2, d3] => { results := [.lit (.bool false)], args := [d1, d2, d3] }
  | _ => none }
def SourProofWrongFalsely : Prop := sourProofRow.holds Tryd.pinned (OpenSpec.ofChange sourProofWrong)

/-- 'zafralaw04.SourDelay': WHATEVER THE INPUT: true; the input reads as it did. -/
def sourDelaySpec : ChangeSpec := { name := "sourDelay", fn := fun _ => fun
  | [d1, d2, d3] => { results := [.lit (.bool true)], args := [d1, d2, d3] }
  | _ => none }
def sourDelayRow : OpenClaim := { program := "ytpbeclkpohehgaadoor", sum := "6e35560e445664a2452acaf55e697790756bc0ecb3617b6523c1f3feea6583e4", func := "zafra/zafralaw04.SourDelay", spec := "sourDelay", unfollowed := true, recurses := true, named := ["math/bits.deBruijn32tab", "math/bits.deBruijn64tab"], apart := false, laid := [("math/bits.deBruijn32tab", laid_math_bits_deBruijn32tab), ("math/bits.deBruijn64tab", laid_math_bits_deBruijn64tab)] }
def SourDelaySaid : Prop := sourDelayRow.holds Tryd.pinned (OpenSpec.ofChange sourDelaySpec)

/-- ITS FALSE NEIGHBOUR: 'it returns false'. Refute it at one input. -/
def sourDelayWrong : ChangeSpec := { name := "sourDelay", fn := fun _ => fun
  | [d1, d2, d3] => { results := [.lit (.bool false)], args := [d1, d2, d3] }
  | _ => none }
def SourDelayWrongFalsely : Prop := sourDelayRow.holds Tryd.pinned (OpenSpec.ofChange sourDelayWrong)

/-- 'zafralaw04.SourWorse': WHATEVER THE INPUT: true; the input reads as it did. -/
def sourWorseSpec : ChangeSpec := { name := "sourWorse", fn := fun _ => fun
  | [d1, d2, d3] => { results := [.lit (.bool true)], args := [d1, d2, d3] }
  | _ => none }
def sourWorseRow : OpenClaim := { program := "ytpbeclkpohehgaadoor", sum := "6e35560e445664a2452acaf55e697790756bc0ecb3617b6523c1f3feea6583e4", func := "zafra/zafralaw04.SourWorse", spec := "sourWorse", unfollowed := true, recurses := true, named := ["math/bits.deBruijn32tab", "math/bits.deBruijn64tab"], apart := false, laid := [("math/bits.deBruijn32tab", laid_math_bits_deBruijn32tab), ("math/bits.deBruijn64tab", laid_math_bits_deBruijn64tab)] }
def SourWorseSaid : Prop := sourWorseRow.holds Tryd.pinned (OpenSpec.ofChange sourWorseSpec)

/-- ITS FALSE NEIGHBOUR: 'it returns false'. Refute it at one input. -/
def sourWorseWrong : ChangeSpec := { name := "sourWorse", fn := fun _ => fun
  | [d1, d2, d3] => { results := [.lit (.bool false)], args := [d1, d2, d3] }
  | _ => none }
def SourWorseWrongFalsely : Prop := sourWorseRow.holds Tryd.pinned (OpenSpec.ofChange sourWorseWrong)

/-- 'zafralaw04.SourNumbers': WHATEVER THE INPUT: true; the input reads as it did. -/
def sourNumbersSpec : ChangeSpec := { name := "sourNumbers", fn := fun _ => fun
  | [d1, d2, d3] => { results := [.lit (.bool true)], args := [d1, d2, d3] }
  | _ => none }
def sourNumbersRow : OpenClaim := { program := "ytpbeclkpohehgaadoor", sum := "6e35560e445664a2452acaf55e697790756bc0ecb3617b6523c1f3feea6583e4", func := "zafra/zafralaw04.SourNumbers", spec := "sourNumbers", unfollowed := true, recurses := true, named := ["math/bits.deBruijn32tab", "math/bits.deBruijn64tab"], apart := false, laid := [("math/bits.deBruijn32tab", laid_math_bits_deBruijn32tab), ("math/bits.deBruijn64tab", laid_math_bits_deBruijn64tab)] }
def SourNumbersSaid : Prop := sourNumbersRow.holds Tryd.pinned (OpenSpec.ofChange sourNumbersSpec)

/-- ITS FALSE NEIGHBOUR: 'it returns false'. Refute it at one input. -/
def sourNumbersWrong : ChangeSpec := { name := "sourNumbers", fn := fun _ => fun
  | [d1, d2, d3] => { results := [.lit (.bool false)], args := [d1, d2, d3] }
  | _ => none }
def SourNumbersWrongFalsely : Prop := sourNumbersRow.holds Tryd.pinned (OpenSpec.ofChange sourNumbersWrong)

/- THE SECOND FORM. 'bulk': how many values and letters a reading holds, each counted each time it is reached (what is shared counts as often as it is met; a slice's spare places count too). A statement '..UptoSaid' is the law's where the arguments, and the package variables that the reading takes, are together of bulk at most 1048576: NARROWER than '..Said'. Prove '..Said' where nothing that the law and all that it calls make is longer than what came in: it says more and counts as full. Else prove '..UptoSaid'. A law counts once. -/
mutual
def uptoBulk {H : Type} : DataW H → Nat
  | .lit (.string bytes) => bytes.length + 1
  | .lit _ => 1
  | .nil => 1
  | .ptr d => uptoBulk d + 1
  | .slice elems spare => uptoBulkAll elems + uptoBulkAll spare + 1
  | .agg parts => uptoBulkAll parts + 1
  | .iface _ d => uptoBulk d + 1
  | .map entries => uptoBulkEntries entries + 1
  | .held _ => 1
def uptoBulkAll {H : Type} : List (DataW H) → Nat
  | [] => 0
  | d :: r => uptoBulk d + uptoBulkAll r
def uptoBulkEntries {H : Type} : List (Lit × DataW H) → Nat
  | [] => 0
  | x :: r => uptoBulkEntry x + uptoBulkEntries r
def uptoBulkEntry {H : Type} : Lit × DataW H → Nat
  | (.string bytes, d) => bytes.length + uptoBulk d + 1
  | (_, d) => uptoBulk d + 1
 end
def uptoSmall : (H : Type) → List (DataW H) → Bool := fun _ ds => decide (uptoBulkAll ds ≤ 1048576)
def OpenSpec.upto (s : _root_.Go.ChangeSpec) : _root_.Go.OpenSpec := { _root_.Go.OpenSpec.ofChange s with cond := some uptoSmall }

/-- 'zafralaw04.SourRuns', WHERE WHAT IT READS IS OF BULK AT MOST 1048576: true; the input reads as it did. -/
def sourRunsUptoRow : OpenClaim := { program := "ytpbeclkpohehgaadoor", sum := "6e35560e445664a2452acaf55e697790756bc0ecb3617b6523c1f3feea6583e4", func := "zafra/zafralaw04.SourRuns", spec := "sourRuns", unfollowed := true, recurses := true, named := ["math/bits.deBruijn32tab", "math/bits.deBruijn64tab"], apart := false, laid := [("math/bits.deBruijn32tab", laid_math_bits_deBruijn32tab), ("math/bits.deBruijn64tab", laid_math_bits_deBruijn64tab)], narrowed := true }
def SourRunsUptoSaid : Prop := sourRunsUptoRow.holds Tryd.pinned (OpenSpec.upto sourRunsSpec)

/-- 'zafratop.TopCrushed', WHERE WHAT IT READS IS OF BULK AT MOST 1048576: true; the input reads as it did. -/
def topCrushedUptoRow : OpenClaim := { program := "ytpbeclkpohehgaadoor", sum := "6e35560e445664a2452acaf55e697790756bc0ecb3617b6523c1f3feea6583e4", func := "zafra/zafratop.TopCrushed", spec := "topCrushed", unfollowed := true, recurses := true, named := ["math/bits.deBruijn32tab", "math/bits.deBruijn64tab"], apart := false, laid := [("math/bits.deBruijn32tab", laid_math_bits_deBruijn32tab), ("math/bits.deBruijn64tab", laid_math_bits_deBruijn64tab)], narrowed := true }
def TopCrushedUptoSaid : Prop := topCrushedUptoRow.holds Tryd.pinned (OpenSpec.upto topCrushedSpec)

/-- 'zafralaw04.SourBests', WHERE WHAT IT READS IS OF BULK AT MOST 1048576: true; the input reads as it did. -/
def sourBestsUptoRow : OpenClaim := { program := "ytpbeclkpohehgaadoor", sum := "6e35560e445664a2452acaf55e697790756bc0ecb3617b6523c1f3feea6583e4", func := "zafra/zafralaw04.SourBests", spec := "sourBests", unfollowed := true, recurses := true, named := ["math/bits.deBruijn32tab", "math/bits.deBruijn64tab"], apart := false, laid := [("math/bits.deBruijn32tab", laid_math_bits_deBruijn32tab), ("math/bits.deBruijn64tab", laid_math_bits_deBruijn64tab)], narrowed := true }
def SourBestsUptoSaid : Prop := sourBestsUptoRow.holds Tryd.pinned (OpenSpec.upto sourBestsSpec)

/-- 'zafralaw04.SourVerifies', WHERE WHAT IT READS IS OF BULK AT MOST 1048576: true; the input reads as it did. -/
def sourVerifiesUptoRow : OpenClaim := { program := "ytpbeclkpohehgaadoor", sum := "6e35560e445664a2452acaf55e697790756bc0ecb3617b6523c1f3feea6583e4", func := "zafra/zafralaw04.SourVerifies", spec := "sourVerifies", unfollowed := true, recurses := true, named := ["math/bits.deBruijn32tab", "math/bits.deBruijn64tab"], apart := false, laid := [("math/bits.deBruijn32tab", laid_math_bits_deBruijn32tab), ("math/bits.deBruijn64tab", laid_math_bits_deBruijn64tab)], narrowed := true }
def SourVerifiesUptoSaid : Prop := sourVerifiesUptoRow.holds Tryd.pinned (OpenSpec.upto sourVerifiesSpec)

/-- 'zafralaw04.SourDelays', WHERE WHAT IT READS IS OF BULK AT MOST 1048576: true; the input reads as it did. -/
def sourDelaysUptoRow : OpenClaim := { program := "ytpbeclkpohehgaadoor", sum := "6e35560e445664a2452acaf55e697790756bc0ecb3617b6523c1f3feea6583e4", func := "zafra/zafralaw04.SourDelays", spec := "sourDelays", unfollowed := true, recurses := true, named := ["math/bits.deBruijn32tab", "math/bits.deBruijn64tab"], apart := false, laid := [("math/bits.deBruijn32tab", laid_math_bits_deBruijn32tab), ("math/bits.deBruijn64tab", laid_math_bits_deBruijn64tab)], narrowed := true }
def SourDelaysUptoSaid : Prop := sourDelaysUptoRow.holds Tryd.pinned (OpenSpec.upto sourDelaysSpec)

/-- 'zafralaw04.SourTruth', WHERE WHAT IT READS IS OF BULK AT MOST 1048576: true; the input reads as it did. -/
def sourTruthUptoRow : OpenClaim := { program := "ytpbeclkpohehgaadoor", sum := "6e35560e445664a2452acaf55e697790756bc0ecb3617b6523c1f3feea6583e4", func := "zafra/zafralaw04.SourTruth", spec := "sourTruth", unfollowed := true, recurses := true, named := ["math/bits.deBruijn32tab", "math/bits.deBruijn64tab"], apart := false, laid := [("math/bits.deBruijn32tab", laid_math_bits_deBruijn32tab), ("math/bits.deBruijn64tab", laid_math_bits_deBruijn64tab)], narrowed := true }
def SourTruthUptoSaid : Prop := sourTruthUptoRow.holds Tryd.pinned (OpenSpec.upto sourTruthSpec)

/-- 'zafralaw04.SourBest', WHERE WHAT IT READS IS OF BULK AT MOST 1048576: true; the input reads as it did. -/
def sourBestUptoRow : OpenClaim := { program := "ytpbeclkpohehgaadoor", sum := "6e35560e445664a2452acaf55e697790756bc0ecb3617b6523c1f3feea6583e4", func := "zafra/zafralaw04.SourBest", spec := "sourBest", unfollowed := true, recurses := true, named := ["math/bits.deBruijn32tab", "math/bits.deBruijn64tab"], apart := false, laid := [("math/bits.deBruijn32tab", laid_math_bits_deBruijn32tab), ("math/bits.deBruijn64tab", laid_math_bits_deBruijn64tab)], narrowed := true }
def SourBestUptoSaid : Prop := sourBestUptoRow.holds Tryd.pinned (OpenSpec.upto sourBestSpec)

/-- 'zafralaw04.SourProof', WHERE WHAT IT READS IS OF BULK AT MOST 1048576: true; the input reads as it did. -/
def sourProofUptoRow : OpenClaim := { program := "ytpbeclkpohehgaadoor", sum := "6e35560e445664a2452acaf55e697790756bc0ecb3617b6523c1f3feea6583e4", func := "zafra/zafralaw04.SourProof", spec := "sourProof", unfollowed := true, recurses := true, named := ["math/bits.deBruijn32tab", "math/bits.deBruijn64tab"], apart := false, laid := [("math/bits.deBruijn32tab", laid_math_bits_deBruijn32tab), ("math/bits.deBruijn64tab", laid_math_bits_deBruijn64tab)], narrowed := true }
def SourProofUptoSaid : Prop := sourProofUptoRow.holds Tryd.pinned (OpenSpec.upto sourProofSpec)

/-- 'zafralaw04.SourDelay', WHERE WHAT IT READS IS OF BULK AT MOST 1048576: true; the input reads as it did. -/
def sourDelayUptoRow : OpenClaim := { program := "ytpbeclkpohehgaadoor", sum := "6e35560e445664a2452acaf55e697790756bc0ecb3617b6523c1f3feea6583e4", func := "zafra/zafralaw04.SourDelay", spec := "sourDelay", unfollowed := true, recurses := true, named := ["math/bits.deBruijn32tab", "math/bits.deBruijn64tab"], apart := false, laid := [("math/bits.deBruijn32tab", laid_math_bits_deBruijn32tab), ("math/bits.deBruijn64tab", laid_math_bits_deBruijn64tab)], narrowed := true }
def SourDelayUptoSaid : Prop := sourDelayUptoRow.holds Tryd.pinned (OpenSpec.upto sourDelaySpec)

/-- 'zafralaw04.SourWorse', WHERE WHAT IT READS IS OF BULK AT MOST 1048576: true; the input reads as it did. -/
def sourWorseUptoRow : OpenClaim := { program := "ytpbeclkpohehgaadoor", sum := "6e35560e445664a2452acaf55e697790756bc0ecb3617b6523c1f3feea6583e4", func := "zafra/zafralaw04.SourWorse", spec := "sourWorse", unfollowed := true, recurses := true, named := ["math/bits.deBruijn32tab", "math/bits.deBruijn64tab"], apart := false, laid := [("math/bits.deBruijn32tab", laid_math_bits_deBruijn32tab), ("math/bits.deBruijn64tab", laid_math_bits_deBruijn64tab)], narrowed := true }
def SourWorseUptoSaid : Prop := sourWorseUptoRow.holds Tryd.pinned (OpenSpec.upto sourWorseSpec)

/-- 'zafralaw04.SourNumbers', WHERE WHAT IT READS IS OF BULK AT MOST 1048576: true; the input reads as it did. -/
def sourNumbersUptoRow : OpenClaim := { program := "ytpbeclkpohehgaadoor", sum := "6e35560e445664a2452acaf55e697790756bc0ecb3617b6523c1f3feea6583e4", func := "zafra/zafralaw04.SourNumbers", spec := "sourNumbers", unfollowed := true, recurses := true, named := ["math/bits.deBruijn32tab", "math/bits.deBruijn64tab"], apart := false, laid := [("math/bits.deBruijn32tab", laid_math_bits_deBruijn32tab), ("math/bits.deBruijn64tab", laid_math_bits_deBruijn64tab)], narrowed := true }
def SourNumbersUptoSaid : Prop := sourNumbersUptoRow.holds Tryd.pinned (OpenSpec.upto sourNumbersSpec)

end Rows
end Go.Proofs.YtpbeclkpohehgaaDoor
