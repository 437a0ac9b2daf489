/-
  DERIVED. GIVEN WITH THE SEED: THE CARDS: each row of YtfcdcgplogojbaaGreatDoorRows.lean that lists a variable, with what it lists TIED to the program's text (the seventh form; the later family's looks); each row that meets fmt, with fmt's text TOLD by the authors' own Lean function (tested against real Go, not proved from fmt's source: count such statements apart). THE CARD IS WHAT COUNTS. Prove the row's statement (the work); the ties are given (YtfcdcgplogojbaaGreatDoorTie.lean); close each card by the builder's one call (the guide's Derived/Test/ToyasCard.lean, 'card_holds'). Laid BY PROGRAM, IN A SANDBOX (cutbox-door.mjs). By AI agents, Wed Nov 11 2026. No macro, syntax, notation, axiom, sorry.
-/
import Derived.Test.YtfcdcgplogojbaaGreatDoorRows
import GoSem.ClaimSeven
namespace Go.Proofs.YtfcdcgplogojbaaGreatDoor
namespace Rows

/-- THE TIED CARD OF 'zafralaw14.ClerkLoads'. -/
def clerkLoadsCard : Claim7 := { stood := { row := clerkLoadsRow, standIns := [], harness := (true, "c5732f1c642a63e7d0a9fa03c01b4fe773fa5840167439de8f25f356adf8f974"), looks := true }, kinds := [], alts := [], laidByText := true, laidKinds := [.data, .data, .data, .data, .sentinel, .sentinel, .pinned], laidTests := true, laidLooks := .later }
def ClerkLoadsCardSaid : Prop := Claim7.holds Tryz.pinned (.plain (OpenSpec.ofChange clerkLoadsSpec)) clerkLoadsCard

/-- THE SECOND FORM's CARD OF 'zafralaw14.ClerkLoads'. -/
def clerkLoadsUptoCard : Claim7 := { stood := { row := clerkLoadsUptoRow, standIns := [], harness := (true, "c5732f1c642a63e7d0a9fa03c01b4fe773fa5840167439de8f25f356adf8f974"), looks := true }, kinds := [], alts := [], laidByText := true, laidKinds := [.data, .data, .data, .data, .sentinel, .sentinel, .pinned], laidTests := true, laidLooks := .later }
def ClerkLoadsUptoCardSaid : Prop := Claim7.holds Tryz.pinned (.plain (OpenSpec.upto clerkLoadsSpec)) clerkLoadsUptoCard
end Rows
end Go.Proofs.YtfcdcgplogojbaaGreatDoor
