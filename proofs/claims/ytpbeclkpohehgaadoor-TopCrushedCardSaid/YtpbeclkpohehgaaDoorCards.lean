/-
  DERIVED. GIVEN WITH THE SEED: THE CARDS: each row of YtpbeclkpohehgaaDoorRows.lean that lists a variable, with what it lists TIED to the program's text (the seventh form; the later family's looks); each row that meets fmt, with fmt's text TOLD by the authors' own Lean function (tested against real Go, not proved from fmt's source: count such statements apart). THE CARD IS WHAT COUNTS. Prove the row's statement (the work); the ties are given (YtpbeclkpohehgaaDoorTie.lean); close each card by the builder's one call (the guide's Derived/Test/ToyasCard.lean, 'card_holds'). Laid BY PROGRAM, IN A SANDBOX (cutbox-door.mjs). By AI agents, Wed Nov 11 2026. No macro, syntax, notation, axiom, sorry.
-/
import Derived.Test.YtpbeclkpohehgaaDoorRows
import GoSem.ClaimSeven
namespace Go.Proofs.YtpbeclkpohehgaaDoor
namespace Rows

/-- THE TIED CARD OF 'zafralaw04.SourRuns'. -/
def sourRunsCard : Claim7 := { stood := { row := sourRunsRow, standIns := [], harness := (true, "3bad849ec49e4615da78bf1c0333a1fa6dbd0b99615fe4ed7a6b62d86b3f91a9"), looks := false }, kinds := [], alts := [], laidByText := true, laidKinds := [.data, .data], laidTests := true, laidLooks := .later }
def SourRunsCardSaid : Prop := Claim7.holds Tryd.pinned (.plain (OpenSpec.ofChange sourRunsSpec)) sourRunsCard

/-- THE TIED CARD OF 'zafratop.TopCrushed'. -/
def topCrushedCard : Claim7 := { stood := { row := topCrushedRow, standIns := [], harness := (true, "3bad849ec49e4615da78bf1c0333a1fa6dbd0b99615fe4ed7a6b62d86b3f91a9"), looks := false }, kinds := [], alts := [], laidByText := true, laidKinds := [.data, .data], laidTests := true, laidLooks := .later }
def TopCrushedCardSaid : Prop := Claim7.holds Tryd.pinned (.plain (OpenSpec.ofChange topCrushedSpec)) topCrushedCard

/-- THE TIED CARD OF 'zafralaw04.SourBests'. -/
def sourBestsCard : Claim7 := { stood := { row := sourBestsRow, standIns := [], harness := (true, "3bad849ec49e4615da78bf1c0333a1fa6dbd0b99615fe4ed7a6b62d86b3f91a9"), looks := false }, kinds := [], alts := [], laidByText := true, laidKinds := [.data, .data], laidTests := true, laidLooks := .later }
def SourBestsCardSaid : Prop := Claim7.holds Tryd.pinned (.plain (OpenSpec.ofChange sourBestsSpec)) sourBestsCard

/-- THE TIED CARD OF 'zafralaw04.SourVerifies'. -/
def sourVerifiesCard : Claim7 := { stood := { row := sourVerifiesRow, standIns := [], harness := (true, "3bad849ec49e4615da78bf1c0333a1fa6dbd0b99615fe4ed7a6b62d86b3f91a9"), looks := false }, kinds := [], alts := [], laidByText := true, laidKinds := [.data, .data], laidTests := true, laidLooks := .later }
def SourVerifiesCardSaid : Prop := Claim7.holds Tryd.pinned (.plain (OpenSpec.ofChange sourVerifiesSpec)) sourVerifiesCard

/-- THE TIED CARD OF 'zafralaw04.SourDelays'. -/
def sourDelaysCard : Claim7 := { stood := { row := sourDelaysRow, standIns := [], harness := (true, "3bad849ec49e4615da78bf1c0333a1fa6dbd0b99615fe4ed7a6b62d86b3f91a9"), looks := false }, kinds := [], alts := [], laidByText := true, laidKinds := [.data, .data], laidTests := true, laidLooks := .later }
def SourDelaysCardSaid : Prop := Claim7.holds Tryd.pinned (.plain (OpenSpec.ofChange sourDelaysSpec)) sourDelaysCard

/-- THE TIED CARD OF 'zafralaw04.SourTruth'. -/
def sourTruthCard : Claim7 := { stood := { row := sourTruthRow, standIns := [], harness := (true, "3bad849ec49e4615da78bf1c0333a1fa6dbd0b99615fe4ed7a6b62d86b3f91a9"), looks := false }, kinds := [], alts := [], laidByText := true, laidKinds := [.data, .data], laidTests := true, laidLooks := .later }
def SourTruthCardSaid : Prop := Claim7.holds Tryd.pinned (.plain (OpenSpec.ofChange sourTruthSpec)) sourTruthCard

/-- THE TIED CARD OF 'zafralaw04.SourBest'. -/
def sourBestCard : Claim7 := { stood := { row := sourBestRow, standIns := [], harness := (true, "3bad849ec49e4615da78bf1c0333a1fa6dbd0b99615fe4ed7a6b62d86b3f91a9"), looks := false }, kinds := [], alts := [], laidByText := true, laidKinds := [.data, .data], laidTests := true, laidLooks := .later }
def SourBestCardSaid : Prop := Claim7.holds Tryd.pinned (.plain (OpenSpec.ofChange sourBestSpec)) sourBestCard

/-- THE TIED CARD OF 'zafralaw04.SourProof'. -/
def sourProofCard : Claim7 := { stood := { row := sourProofRow, standIns := [], harness := (true, "3bad849ec49e4615da78bf1c0333a1fa6dbd0b99615fe4ed7a6b62d86b3f91a9"), looks := false }, kinds := [], alts := [], laidByText := true, laidKinds := [.data, .data], laidTests := true, laidLooks := .later }
def SourProofCardSaid : Prop := Claim7.holds Tryd.pinned (.plain (OpenSpec.ofChange sourProofSpec)) sourProofCard

/-- THE TIED CARD OF 'zafralaw04.SourDelay'. -/
def sourDelayCard : Claim7 := { stood := { row := sourDelayRow, standIns := [], harness := (true, "3bad849ec49e4615da78bf1c0333a1fa6dbd0b99615fe4ed7a6b62d86b3f91a9"), looks := false }, kinds := [], alts := [], laidByText := true, laidKinds := [.data, .data], laidTests := true, laidLooks := .later }
def SourDelayCardSaid : Prop := Claim7.holds Tryd.pinned (.plain (OpenSpec.ofChange sourDelaySpec)) sourDelayCard

/-- THE TIED CARD OF 'zafralaw04.SourWorse'. -/
def sourWorseCard : Claim7 := { stood := { row := sourWorseRow, standIns := [], harness := (true, "3bad849ec49e4615da78bf1c0333a1fa6dbd0b99615fe4ed7a6b62d86b3f91a9"), looks := false }, kinds := [], alts := [], laidByText := true, laidKinds := [.data, .data], laidTests := true, laidLooks := .later }
def SourWorseCardSaid : Prop := Claim7.holds Tryd.pinned (.plain (OpenSpec.ofChange sourWorseSpec)) sourWorseCard

/-- THE TIED CARD OF 'zafralaw04.SourNumbers'. -/
def sourNumbersCard : Claim7 := { stood := { row := sourNumbersRow, standIns := [], harness := (true, "3bad849ec49e4615da78bf1c0333a1fa6dbd0b99615fe4ed7a6b62d86b3f91a9"), looks := false }, kinds := [], alts := [], laidByText := true, laidKinds := [.data, .data], laidTests := true, laidLooks := .later }
def SourNumbersCardSaid : Prop := Claim7.holds Tryd.pinned (.plain (OpenSpec.ofChange sourNumbersSpec)) sourNumbersCard

/-- THE SECOND FORM's CARD OF 'zafralaw04.SourRuns'. -/
def sourRunsUptoCard : Claim7 := { stood := { row := sourRunsUptoRow, standIns := [], harness := (true, "3bad849ec49e4615da78bf1c0333a1fa6dbd0b99615fe4ed7a6b62d86b3f91a9"), looks := false }, kinds := [], alts := [], laidByText := true, laidKinds := [.data, .data], laidTests := true, laidLooks := .later }
def SourRunsUptoCardSaid : Prop := Claim7.holds Tryd.pinned (.plain (OpenSpec.upto sourRunsSpec)) sourRunsUptoCard

/-- THE SECOND FORM's CARD OF 'zafratop.TopCrushed'. -/
def topCrushedUptoCard : Claim7 := { stood := { row := topCrushedUptoRow, standIns := [], harness := (true, "3bad849ec49e4615da78bf1c0333a1fa6dbd0b99615fe4ed7a6b62d86b3f91a9"), looks := false }, kinds := [], alts := [], laidByText := true, laidKinds := [.data, .data], laidTests := true, laidLooks := .later }
def TopCrushedUptoCardSaid : Prop := Claim7.holds Tryd.pinned (.plain (OpenSpec.upto topCrushedSpec)) topCrushedUptoCard

/-- THE SECOND FORM's CARD OF 'zafralaw04.SourBests'. -/
def sourBestsUptoCard : Claim7 := { stood := { row := sourBestsUptoRow, standIns := [], harness := (true, "3bad849ec49e4615da78bf1c0333a1fa6dbd0b99615fe4ed7a6b62d86b3f91a9"), looks := false }, kinds := [], alts := [], laidByText := true, laidKinds := [.data, .data], laidTests := true, laidLooks := .later }
def SourBestsUptoCardSaid : Prop := Claim7.holds Tryd.pinned (.plain (OpenSpec.upto sourBestsSpec)) sourBestsUptoCard

/-- THE SECOND FORM's CARD OF 'zafralaw04.SourVerifies'. -/
def sourVerifiesUptoCard : Claim7 := { stood := { row := sourVerifiesUptoRow, standIns := [], harness := (true, "3bad849ec49e4615da78bf1c0333a1fa6dbd0b99615fe4ed7a6b62d86b3f91a9"), looks := false }, kinds := [], alts := [], laidByText := true, laidKinds := [.data, .data], laidTests := true, laidLooks := .later }
def SourVerifiesUptoCardSaid : Prop := Claim7.holds Tryd.pinned (.plain (OpenSpec.upto sourVerifiesSpec)) sourVerifiesUptoCard

/-- THE SECOND FORM's CARD OF 'zafralaw04.SourDelays'. -/
def sourDelaysUptoCard : Claim7 := { stood := { row := sourDelaysUptoRow, standIns := [], harness := (true, "3bad849ec49e4615da78bf1c0333a1fa6dbd0b99615fe4ed7a6b62d86b3f91a9"), looks := false }, kinds := [], alts := [], laidByText := true, laidKinds := [.data, .data], laidTests := true, laidLooks := .later }
def SourDelaysUptoCardSaid : Prop := Claim7.holds Tryd.pinned (.plain (OpenSpec.upto sourDelaysSpec)) sourDelaysUptoCard

/-- THE SECOND FORM's CARD OF 'zafralaw04.SourTruth'. -/
def sourTruthUptoCard : Claim7 := { stood := { row := sourTruthUptoRow, standIns := [], harness := (true, "3bad849ec49e4615da78bf1c0333a1fa6dbd0b99615fe4ed7a6b62d86b3f91a9"), looks := false }, kinds := [], alts := [], laidByText := true, laidKinds := [.data, .data], laidTests := true, laidLooks := .later }
def SourTruthUptoCardSaid : Prop := Claim7.holds Tryd.pinned (.plain (OpenSpec.upto sourTruthSpec)) sourTruthUptoCard

/-- THE SECOND FORM's CARD OF 'zafralaw04.SourBest'. -/
def sourBestUptoCard : Claim7 := { stood := { row := sourBestUptoRow, standIns := [], harness := (true, "3bad849ec49e4615da78bf1c0333a1fa6dbd0b99615fe4ed7a6b62d86b3f91a9"), looks := false }, kinds := [], alts := [], laidByText := true, laidKinds := [.data, .data], laidTests := true, laidLooks := .later }
def SourBestUptoCardSaid : Prop := Claim7.holds Tryd.pinned (.plain (OpenSpec.upto sourBestSpec)) sourBestUptoCard

/-- THE SECOND FORM's CARD OF 'zafralaw04.SourProof'. -/
def sourProofUptoCard : Claim7 := { stood := { row := sourProofUptoRow, standIns := [], harness := (true, "3bad849ec49e4615da78bf1c0333a1fa6dbd0b99615fe4ed7a6b62d86b3f91a9"), looks := false }, kinds := [], alts := [], laidByText := true, laidKinds := [.data, .data], laidTests := true, laidLooks := .later }
def SourProofUptoCardSaid : Prop := Claim7.holds Tryd.pinned (.plain (OpenSpec.upto sourProofSpec)) sourProofUptoCard

/-- THE SECOND FORM's CARD OF 'zafralaw04.SourDelay'. -/
def sourDelayUptoCard : Claim7 := { stood := { row := sourDelayUptoRow, standIns := [], harness := (true, "3bad849ec49e4615da78bf1c0333a1fa6dbd0b99615fe4ed7a6b62d86b3f91a9"), looks := false }, kinds := [], alts := [], laidByText := true, laidKinds := [.data, .data], laidTests := true, laidLooks := .later }
def SourDelayUptoCardSaid : Prop := Claim7.holds Tryd.pinned (.plain (OpenSpec.upto sourDelaySpec)) sourDelayUptoCard

/-- THE SECOND FORM's CARD OF 'zafralaw04.SourWorse'. -/
def sourWorseUptoCard : Claim7 := { stood := { row := sourWorseUptoRow, standIns := [], harness := (true, "3bad849ec49e4615da78bf1c0333a1fa6dbd0b99615fe4ed7a6b62d86b3f91a9"), looks := false }, kinds := [], alts := [], laidByText := true, laidKinds := [.data, .data], laidTests := true, laidLooks := .later }
def SourWorseUptoCardSaid : Prop := Claim7.holds Tryd.pinned (.plain (OpenSpec.upto sourWorseSpec)) sourWorseUptoCard

/-- THE SECOND FORM's CARD OF 'zafralaw04.SourNumbers'. -/
def sourNumbersUptoCard : Claim7 := { stood := { row := sourNumbersUptoRow, standIns := [], harness := (true, "3bad849ec49e4615da78bf1c0333a1fa6dbd0b99615fe4ed7a6b62d86b3f91a9"), looks := false }, kinds := [], alts := [], laidByText := true, laidKinds := [.data, .data], laidTests := true, laidLooks := .later }
def SourNumbersUptoCardSaid : Prop := Claim7.holds Tryd.pinned (.plain (OpenSpec.upto sourNumbersSpec)) sourNumbersUptoCard
end Rows
end Go.Proofs.YtpbeclkpohehgaaDoor
