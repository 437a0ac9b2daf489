/-
  DERIVED. GIVEN WITH THE SEED: THE CARDS: each row of YtiabjdfdkiijmaaDoorRows.lean that lists a variable, with what it lists TIED to the program's text (the seventh form; the later family's looks); each row that meets fmt, with fmt's text TOLD by the authors' own Lean function (tested against real Go, not proved from fmt's source: count such statements apart). THE CARD IS WHAT COUNTS. Prove the row's statement (the work); the ties are given (YtiabjdfdkiijmaaDoorTie.lean); close each card by the builder's one call (the guide's Derived/Test/ToyasCard.lean, 'card_holds'). Laid BY PROGRAM, IN A SANDBOX (cutbox-door.mjs). By AI agents, Wed Nov 11 2026. No macro, syntax, notation, axiom, sorry.
-/
import Derived.Test.YtiabjdfdkiijmaaDoorRows
import GoSem.ClaimSeven
namespace Go.Proofs.YtiabjdfdkiijmaaDoor
namespace Rows

/-- THE TIED CARD OF 'zafralaw13.BlightIlls'. -/
def blightIllsCard : Claim7 := { stood := { row := blightIllsRow, standIns := [], harness := (true, "5bbd4fee4701d756bd6df5cadbed2271ada22b917302935b439049c32824f7d8"), looks := false }, kinds := [], alts := [], laidByText := true, laidKinds := [.data, .data], laidTests := true, laidLooks := .later }
def BlightIllsCardSaid : Prop := Claim7.holds Tryd.pinned (.plain (OpenSpec.ofChange blightIllsSpec)) blightIllsCard

/-- THE TIED CARD OF 'zafralaw13.BlightHolds'. -/
def blightHoldsCard : Claim7 := { stood := { row := blightHoldsRow, standIns := [], harness := (true, "5bbd4fee4701d756bd6df5cadbed2271ada22b917302935b439049c32824f7d8"), looks := false }, kinds := [], alts := [], laidByText := true, laidKinds := [.data, .data], laidTests := true, laidLooks := .later }
def BlightHoldsCardSaid : Prop := Claim7.holds Tryd.pinned (.plain (OpenSpec.ofChange blightHoldsSpec)) blightHoldsCard

/-- THE TIED CARD OF 'zafralaw13.BlightCuts'. -/
def blightCutsCard : Claim7 := { stood := { row := blightCutsRow, standIns := [], harness := (true, "5bbd4fee4701d756bd6df5cadbed2271ada22b917302935b439049c32824f7d8"), looks := false }, kinds := [], alts := [], laidByText := true, laidKinds := [.data, .data], laidTests := true, laidLooks := .later }
def BlightCutsCardSaid : Prop := Claim7.holds Tryd.pinned (.plain (OpenSpec.ofChange blightCutsSpec)) blightCutsCard

/-- THE TIED CARD OF 'zafralaw13.BlightVerifies'. -/
def blightVerifiesCard : Claim7 := { stood := { row := blightVerifiesRow, standIns := [], harness := (true, "5bbd4fee4701d756bd6df5cadbed2271ada22b917302935b439049c32824f7d8"), looks := false }, kinds := [], alts := [], laidByText := true, laidKinds := [.data, .data], laidTests := true, laidLooks := .later }
def BlightVerifiesCardSaid : Prop := Claim7.holds Tryd.pinned (.plain (OpenSpec.ofChange blightVerifiesSpec)) blightVerifiesCard

/-- THE TIED CARD OF 'zafralaw13.BlightTrue'. -/
def blightTrueCard : Claim7 := { stood := { row := blightTrueRow, standIns := [], harness := (true, "5bbd4fee4701d756bd6df5cadbed2271ada22b917302935b439049c32824f7d8"), looks := false }, kinds := [], alts := [], laidByText := true, laidKinds := [.data, .data], laidTests := true, laidLooks := .later }
def BlightTrueCardSaid : Prop := Claim7.holds Tryd.pinned (.plain (OpenSpec.ofChange blightTrueSpec)) blightTrueCard

/-- THE TIED CARD OF 'zafralaw13.BlightCut'. -/
def blightCutCard : Claim7 := { stood := { row := blightCutRow, standIns := [], harness := (true, "5bbd4fee4701d756bd6df5cadbed2271ada22b917302935b439049c32824f7d8"), looks := false }, kinds := [], alts := [], laidByText := true, laidKinds := [.data, .data], laidTests := true, laidLooks := .later }
def BlightCutCardSaid : Prop := Claim7.holds Tryd.pinned (.plain (OpenSpec.ofChange blightCutSpec)) blightCutCard

/-- THE TIED CARD OF 'zafralaw13.BlightNeeded'. -/
def blightNeededCard : Claim7 := { stood := { row := blightNeededRow, standIns := [], harness := (true, "5bbd4fee4701d756bd6df5cadbed2271ada22b917302935b439049c32824f7d8"), looks := false }, kinds := [], alts := [], laidByText := true, laidKinds := [.data, .data], laidTests := true, laidLooks := .later }
def BlightNeededCardSaid : Prop := Claim7.holds Tryd.pinned (.plain (OpenSpec.ofChange blightNeededSpec)) blightNeededCard

/-- THE TIED CARD OF 'zafralaw13.BlightProved'. -/
def blightProvedCard : Claim7 := { stood := { row := blightProvedRow, standIns := [], harness := (true, "5bbd4fee4701d756bd6df5cadbed2271ada22b917302935b439049c32824f7d8"), looks := false }, kinds := [], alts := [], laidByText := true, laidKinds := [.data, .data], laidTests := true, laidLooks := .later }
def BlightProvedCardSaid : Prop := Claim7.holds Tryd.pinned (.plain (OpenSpec.ofChange blightProvedSpec)) blightProvedCard

/-- THE TIED CARD OF 'zafralaw13.BlightHeld'. -/
def blightHeldCard : Claim7 := { stood := { row := blightHeldRow, standIns := [], harness := (true, "5bbd4fee4701d756bd6df5cadbed2271ada22b917302935b439049c32824f7d8"), looks := false }, kinds := [], alts := [], laidByText := true, laidKinds := [.data, .data], laidTests := true, laidLooks := .later }
def BlightHeldCardSaid : Prop := Claim7.holds Tryd.pinned (.plain (OpenSpec.ofChange blightHeldSpec)) blightHeldCard

/-- THE TIED CARD OF 'zafralaw13.BlightMore'. -/
def blightMoreCard : Claim7 := { stood := { row := blightMoreRow, standIns := [], harness := (true, "5bbd4fee4701d756bd6df5cadbed2271ada22b917302935b439049c32824f7d8"), looks := false }, kinds := [], alts := [], laidByText := true, laidKinds := [.data, .data], laidTests := true, laidLooks := .later }
def BlightMoreCardSaid : Prop := Claim7.holds Tryd.pinned (.plain (OpenSpec.ofChange blightMoreSpec)) blightMoreCard

/-- THE TIED CARD OF 'zafralaw13.BlightTurned'. -/
def blightTurnedCard : Claim7 := { stood := { row := blightTurnedRow, standIns := [], harness := (true, "5bbd4fee4701d756bd6df5cadbed2271ada22b917302935b439049c32824f7d8"), looks := false }, kinds := [], alts := [], laidByText := true, laidKinds := [.data, .data], laidTests := true, laidLooks := .later }
def BlightTurnedCardSaid : Prop := Claim7.holds Tryd.pinned (.plain (OpenSpec.ofChange blightTurnedSpec)) blightTurnedCard

/-- THE TIED CARD OF 'zafralaw13.BlightKnown'. -/
def blightKnownCard : Claim7 := { stood := { row := blightKnownRow, standIns := [], harness := (true, "5bbd4fee4701d756bd6df5cadbed2271ada22b917302935b439049c32824f7d8"), looks := false }, kinds := [], alts := [], laidByText := true, laidKinds := [.data, .data], laidTests := true, laidLooks := .later }
def BlightKnownCardSaid : Prop := Claim7.holds Tryd.pinned (.plain (OpenSpec.ofChange blightKnownSpec)) blightKnownCard

/-- THE SECOND FORM's CARD OF 'zafralaw13.BlightIlls'. -/
def blightIllsUptoCard : Claim7 := { stood := { row := blightIllsUptoRow, standIns := [], harness := (true, "5bbd4fee4701d756bd6df5cadbed2271ada22b917302935b439049c32824f7d8"), looks := false }, kinds := [], alts := [], laidByText := true, laidKinds := [.data, .data], laidTests := true, laidLooks := .later }
def BlightIllsUptoCardSaid : Prop := Claim7.holds Tryd.pinned (.plain (OpenSpec.upto blightIllsSpec)) blightIllsUptoCard

/-- THE SECOND FORM's CARD OF 'zafralaw13.BlightHolds'. -/
def blightHoldsUptoCard : Claim7 := { stood := { row := blightHoldsUptoRow, standIns := [], harness := (true, "5bbd4fee4701d756bd6df5cadbed2271ada22b917302935b439049c32824f7d8"), looks := false }, kinds := [], alts := [], laidByText := true, laidKinds := [.data, .data], laidTests := true, laidLooks := .later }
def BlightHoldsUptoCardSaid : Prop := Claim7.holds Tryd.pinned (.plain (OpenSpec.upto blightHoldsSpec)) blightHoldsUptoCard

/-- THE SECOND FORM's CARD OF 'zafralaw13.BlightCuts'. -/
def blightCutsUptoCard : Claim7 := { stood := { row := blightCutsUptoRow, standIns := [], harness := (true, "5bbd4fee4701d756bd6df5cadbed2271ada22b917302935b439049c32824f7d8"), looks := false }, kinds := [], alts := [], laidByText := true, laidKinds := [.data, .data], laidTests := true, laidLooks := .later }
def BlightCutsUptoCardSaid : Prop := Claim7.holds Tryd.pinned (.plain (OpenSpec.upto blightCutsSpec)) blightCutsUptoCard

/-- THE SECOND FORM's CARD OF 'zafralaw13.BlightVerifies'. -/
def blightVerifiesUptoCard : Claim7 := { stood := { row := blightVerifiesUptoRow, standIns := [], harness := (true, "5bbd4fee4701d756bd6df5cadbed2271ada22b917302935b439049c32824f7d8"), looks := false }, kinds := [], alts := [], laidByText := true, laidKinds := [.data, .data], laidTests := true, laidLooks := .later }
def BlightVerifiesUptoCardSaid : Prop := Claim7.holds Tryd.pinned (.plain (OpenSpec.upto blightVerifiesSpec)) blightVerifiesUptoCard

/-- THE SECOND FORM's CARD OF 'zafralaw13.BlightTrue'. -/
def blightTrueUptoCard : Claim7 := { stood := { row := blightTrueUptoRow, standIns := [], harness := (true, "5bbd4fee4701d756bd6df5cadbed2271ada22b917302935b439049c32824f7d8"), looks := false }, kinds := [], alts := [], laidByText := true, laidKinds := [.data, .data], laidTests := true, laidLooks := .later }
def BlightTrueUptoCardSaid : Prop := Claim7.holds Tryd.pinned (.plain (OpenSpec.upto blightTrueSpec)) blightTrueUptoCard

/-- THE SECOND FORM's CARD OF 'zafralaw13.BlightCut'. -/
def blightCutUptoCard : Claim7 := { stood := { row := blightCutUptoRow, standIns := [], harness := (true, "5bbd4fee4701d756bd6df5cadbed2271ada22b917302935b439049c32824f7d8"), looks := false }, kinds := [], alts := [], laidByText := true, laidKinds := [.data, .data], laidTests := true, laidLooks := .later }
def BlightCutUptoCardSaid : Prop := Claim7.holds Tryd.pinned (.plain (OpenSpec.upto blightCutSpec)) blightCutUptoCard

/-- THE SECOND FORM's CARD OF 'zafralaw13.BlightNeeded'. -/
def blightNeededUptoCard : Claim7 := { stood := { row := blightNeededUptoRow, standIns := [], harness := (true, "5bbd4fee4701d756bd6df5cadbed2271ada22b917302935b439049c32824f7d8"), looks := false }, kinds := [], alts := [], laidByText := true, laidKinds := [.data, .data], laidTests := true, laidLooks := .later }
def BlightNeededUptoCardSaid : Prop := Claim7.holds Tryd.pinned (.plain (OpenSpec.upto blightNeededSpec)) blightNeededUptoCard

/-- THE SECOND FORM's CARD OF 'zafralaw13.BlightProved'. -/
def blightProvedUptoCard : Claim7 := { stood := { row := blightProvedUptoRow, standIns := [], harness := (true, "5bbd4fee4701d756bd6df5cadbed2271ada22b917302935b439049c32824f7d8"), looks := false }, kinds := [], alts := [], laidByText := true, laidKinds := [.data, .data], laidTests := true, laidLooks := .later }
def BlightProvedUptoCardSaid : Prop := Claim7.holds Tryd.pinned (.plain (OpenSpec.upto blightProvedSpec)) blightProvedUptoCard

/-- THE SECOND FORM's CARD OF 'zafralaw13.BlightHeld'. -/
def blightHeldUptoCard : Claim7 := { stood := { row := blightHeldUptoRow, standIns := [], harness := (true, "5bbd4fee4701d756bd6df5cadbed2271ada22b917302935b439049c32824f7d8"), looks := false }, kinds := [], alts := [], laidByText := true, laidKinds := [.data, .data], laidTests := true, laidLooks := .later }
def BlightHeldUptoCardSaid : Prop := Claim7.holds Tryd.pinned (.plain (OpenSpec.upto blightHeldSpec)) blightHeldUptoCard

/-- THE SECOND FORM's CARD OF 'zafralaw13.BlightMore'. -/
def blightMoreUptoCard : Claim7 := { stood := { row := blightMoreUptoRow, standIns := [], harness := (true, "5bbd4fee4701d756bd6df5cadbed2271ada22b917302935b439049c32824f7d8"), looks := false }, kinds := [], alts := [], laidByText := true, laidKinds := [.data, .data], laidTests := true, laidLooks := .later }
def BlightMoreUptoCardSaid : Prop := Claim7.holds Tryd.pinned (.plain (OpenSpec.upto blightMoreSpec)) blightMoreUptoCard

/-- THE SECOND FORM's CARD OF 'zafralaw13.BlightTurned'. -/
def blightTurnedUptoCard : Claim7 := { stood := { row := blightTurnedUptoRow, standIns := [], harness := (true, "5bbd4fee4701d756bd6df5cadbed2271ada22b917302935b439049c32824f7d8"), looks := false }, kinds := [], alts := [], laidByText := true, laidKinds := [.data, .data], laidTests := true, laidLooks := .later }
def BlightTurnedUptoCardSaid : Prop := Claim7.holds Tryd.pinned (.plain (OpenSpec.upto blightTurnedSpec)) blightTurnedUptoCard

/-- THE SECOND FORM's CARD OF 'zafralaw13.BlightKnown'. -/
def blightKnownUptoCard : Claim7 := { stood := { row := blightKnownUptoRow, standIns := [], harness := (true, "5bbd4fee4701d756bd6df5cadbed2271ada22b917302935b439049c32824f7d8"), looks := false }, kinds := [], alts := [], laidByText := true, laidKinds := [.data, .data], laidTests := true, laidLooks := .later }
def BlightKnownUptoCardSaid : Prop := Claim7.holds Tryd.pinned (.plain (OpenSpec.upto blightKnownSpec)) blightKnownUptoCard
end Rows
end Go.Proofs.YtiabjdfdkiijmaaDoor
