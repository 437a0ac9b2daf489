/-
  DERIVED. GIVEN WITH THE SEED: THE CARDS: each row of YtjckchgdlbgolaaGreatDoorRows.lean that lists a variable, with what it lists TIED to the program's text (the seventh form; the later family's looks); each row that meets fmt, with fmt's text TOLD by the authors' own Lean function (tested against real Go, not proved from fmt's source: count such statements apart). THE CARD IS WHAT COUNTS. Prove the row's statement (the work); the ties are given (YtjckchgdlbgolaaGreatDoorTie.lean); close each card by the builder's one call (the guide's Derived/Test/ToyasCard.lean, 'card_holds'). Laid BY PROGRAM, IN A SANDBOX (cutbox-door.mjs). By AI agents, Wed Nov 11 2026. No macro, syntax, notation, axiom, sorry.
-/
import Derived.Test.YtjckchgdlbgolaaGreatDoorRows
import GoSem.ClaimSeven
namespace Go.Proofs.YtjckchgdlbgolaaGreatDoor
namespace Rows

/-- THE TIED CARD OF 'zafratop.TopKept'. -/
def topKeptCard : Claim7 := { stood := { row := topKeptRow, standIns := [], harness := (true, "7aa249fe888964ec5ad1cf7d835f878c7ef020ca09192d79d826357217228116"), looks := true }, kinds := [], alts := [], laidByText := true, laidKinds := [.data, .data, .data, .data, .sentinel, .sentinel, .pinned], laidTests := true, laidLooks := .later }
def TopKeptCardSaid : Prop := Claim7.holds Tryz.pinned (.plain (OpenSpec.ofChange topKeptSpec)) topKeptCard

/-- THE TIED CARD OF 'zafratop.TopMetered'. -/
def topMeteredCard : Claim7 := { stood := { row := topMeteredRow, standIns := [], harness := (true, "7aa249fe888964ec5ad1cf7d835f878c7ef020ca09192d79d826357217228116"), looks := true }, kinds := [], alts := [], laidByText := true, laidKinds := [.data, .data, .data, .data, .sentinel, .sentinel, .pinned], laidTests := true, laidLooks := .later }
def TopMeteredCardSaid : Prop := Claim7.holds Tryz.pinned (.plain (OpenSpec.ofChange topMeteredSpec)) topMeteredCard

/-- THE SECOND FORM's CARD OF 'zafratop.TopKept'. -/
def topKeptUptoCard : Claim7 := { stood := { row := topKeptUptoRow, standIns := [], harness := (true, "7aa249fe888964ec5ad1cf7d835f878c7ef020ca09192d79d826357217228116"), looks := true }, kinds := [], alts := [], laidByText := true, laidKinds := [.data, .data, .data, .data, .sentinel, .sentinel, .pinned], laidTests := true, laidLooks := .later }
def TopKeptUptoCardSaid : Prop := Claim7.holds Tryz.pinned (.plain (OpenSpec.upto topKeptSpec)) topKeptUptoCard

/-- THE SECOND FORM's CARD OF 'zafratop.TopMetered'. -/
def topMeteredUptoCard : Claim7 := { stood := { row := topMeteredUptoRow, standIns := [], harness := (true, "7aa249fe888964ec5ad1cf7d835f878c7ef020ca09192d79d826357217228116"), looks := true }, kinds := [], alts := [], laidByText := true, laidKinds := [.data, .data, .data, .data, .sentinel, .sentinel, .pinned], laidTests := true, laidLooks := .later }
def TopMeteredUptoCardSaid : Prop := Claim7.holds Tryz.pinned (.plain (OpenSpec.upto topMeteredSpec)) topMeteredUptoCard
end Rows
end Go.Proofs.YtjckchgdlbgolaaGreatDoor
