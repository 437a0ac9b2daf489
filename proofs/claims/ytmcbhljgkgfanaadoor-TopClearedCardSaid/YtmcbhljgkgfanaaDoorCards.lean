/-
  DERIVED. GIVEN WITH THE SEED: THE CARDS: each row of YtmcbhljgkgfanaaDoorRows.lean that lists a variable, with what it lists TIED to the program's text (the seventh form; the later family's looks); each row that meets fmt, with fmt's text TOLD by the authors' own Lean function (tested against real Go, not proved from fmt's source: count such statements apart). THE CARD IS WHAT COUNTS. Prove the row's statement (the work); the ties are given (YtmcbhljgkgfanaaDoorTie.lean); close each card by the builder's one call (the guide's Derived/Test/ToyasCard.lean, 'card_holds'). Laid BY PROGRAM, IN A SANDBOX (cutbox-door.mjs). By AI agents, Wed Nov 11 2026. No macro, syntax, notation, axiom, sorry.
-/
import Derived.Test.YtmcbhljgkgfanaaDoorRows
import GoSem.ClaimSeven
namespace Go.Proofs.YtmcbhljgkgfanaaDoor
namespace Rows

/-- THE TIED CARD OF 'zafratop.TopCleared'. -/
def topClearedCard : Claim7 := { stood := { row := topClearedRow, standIns := [], harness := (true, "3e95f9143ef604d603ae7ea235b15392994cfe7811d5f1c4bd023415da9a70a2"), looks := false }, kinds := [], alts := [], laidByText := true, laidKinds := [.data, .data], laidTests := true, laidLooks := .later }
def TopClearedCardSaid : Prop := Claim7.holds Tryd.pinned (.plain (OpenSpec.ofChange topClearedSpec)) topClearedCard

/-- THE SECOND FORM's CARD OF 'zafratop.TopCleared'. -/
def topClearedUptoCard : Claim7 := { stood := { row := topClearedUptoRow, standIns := [], harness := (true, "3e95f9143ef604d603ae7ea235b15392994cfe7811d5f1c4bd023415da9a70a2"), looks := false }, kinds := [], alts := [], laidByText := true, laidKinds := [.data, .data], laidTests := true, laidLooks := .later }
def TopClearedUptoCardSaid : Prop := Claim7.holds Tryd.pinned (.plain (OpenSpec.upto topClearedSpec)) topClearedUptoCard
end Rows
end Go.Proofs.YtmcbhljgkgfanaaDoor
