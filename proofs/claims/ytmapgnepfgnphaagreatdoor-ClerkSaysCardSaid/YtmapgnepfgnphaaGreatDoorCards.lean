/-
  DERIVED. GIVEN WITH THE SEED: THE CARDS: each row of YtmapgnepfgnphaaGreatDoorRows.lean that lists a variable, with what it lists TIED to the program's text (the seventh form; the later family's looks); each row that meets fmt, with fmt's text TOLD by the authors' own Lean function (tested against real Go, not proved from fmt's source: count such statements apart). THE CARD IS WHAT COUNTS. Prove the row's statement (the work); the ties are given (YtmapgnepfgnphaaGreatDoorTie.lean); close each card by the builder's one call (the guide's Derived/Test/ToyasCard.lean, 'card_holds'). Laid BY PROGRAM, IN A SANDBOX (cutbox-door.mjs). By AI agents, Wed Nov 11 2026. No macro, syntax, notation, axiom, sorry.
-/
import Derived.Test.YtmapgnepfgnphaaGreatDoorRows
import GoSem.ClaimSeven
namespace Go.Proofs.YtmapgnepfgnphaaGreatDoor
namespace Rows

/-- THE TIED CARD OF 'zafralaw14.ClerkRows'. -/
def clerkRowsCard : Claim7 := { stood := { row := clerkRowsRow, standIns := [], harness := (true, "af759928eddbb9eac8a1ef199d391bad5769a165cd1ac7ed8ea8e5f37891e53d"), looks := true }, kinds := [], alts := [], laidByText := true, laidKinds := [.data, .data, .data, .data, .sentinel, .sentinel, .pinned], laidTests := true, laidLooks := .later }
def ClerkRowsCardSaid : Prop := Claim7.holds Tryz.pinned (.plain (OpenSpec.ofChange clerkRowsSpec)) clerkRowsCard

/-- THE TIED CARD OF 'zafralaw14.ClerkSays'. -/
def clerkSaysCard : Claim7 := { stood := { row := clerkSaysRow, standIns := [], harness := (true, "af759928eddbb9eac8a1ef199d391bad5769a165cd1ac7ed8ea8e5f37891e53d"), looks := true }, kinds := [], alts := [], laidByText := true, laidKinds := [.data, .data, .data, .data, .sentinel, .sentinel, .pinned], laidTests := true, laidLooks := .later }
def ClerkSaysCardSaid : Prop := Claim7.holds Tryz.pinned (.plain (OpenSpec.ofChange clerkSaysSpec)) clerkSaysCard

/-- THE TIED CARD OF 'zafralaw14.ClerkLoads'. -/
def clerkLoadsCard : Claim7 := { stood := { row := clerkLoadsRow, standIns := [], harness := (true, "af759928eddbb9eac8a1ef199d391bad5769a165cd1ac7ed8ea8e5f37891e53d"), looks := true }, kinds := [], alts := [], laidByText := true, laidKinds := [.data, .data, .data, .data, .sentinel, .sentinel, .pinned], laidTests := true, laidLooks := .later }
def ClerkLoadsCardSaid : Prop := Claim7.holds Tryz.pinned (.plain (OpenSpec.ofChange clerkLoadsSpec)) clerkLoadsCard

/-- THE TIED CARD OF 'zafralaw14.ClerkFull'. -/
def clerkFullCard : Claim7 := { stood := { row := clerkFullRow, standIns := [], harness := (true, "af759928eddbb9eac8a1ef199d391bad5769a165cd1ac7ed8ea8e5f37891e53d"), looks := true }, kinds := [], alts := [], laidByText := true, laidKinds := [.data, .data, .data, .data, .sentinel, .sentinel, .pinned], laidTests := true, laidLooks := .later }
def ClerkFullCardSaid : Prop := Claim7.holds Tryz.pinned (.plain (OpenSpec.ofChange clerkFullSpec)) clerkFullCard

/-- THE TIED CARD OF 'zafralaw14.ClerkMended'. -/
def clerkMendedCard : Claim7 := { stood := { row := clerkMendedRow, standIns := [], harness := (true, "af759928eddbb9eac8a1ef199d391bad5769a165cd1ac7ed8ea8e5f37891e53d"), looks := true }, kinds := [], alts := [], laidByText := true, laidKinds := [.data, .data, .data, .data, .sentinel, .sentinel, .pinned], laidTests := true, laidLooks := .later }
def ClerkMendedCardSaid : Prop := Claim7.holds Tryz.pinned (.plain (OpenSpec.ofChange clerkMendedSpec)) clerkMendedCard

/-- THE TIED CARD OF 'zafralaw14.ClerkTwo'. -/
def clerkTwoCard : Claim7 := { stood := { row := clerkTwoRow, standIns := [], harness := (true, "af759928eddbb9eac8a1ef199d391bad5769a165cd1ac7ed8ea8e5f37891e53d"), looks := true }, kinds := [], alts := [], laidByText := true, laidKinds := [.data, .data, .data, .data, .sentinel, .sentinel, .pinned], laidTests := true, laidLooks := .later }
def ClerkTwoCardSaid : Prop := Claim7.holds Tryz.pinned (.plain (OpenSpec.ofChange clerkTwoSpec)) clerkTwoCard

/-- THE TIED CARD OF 'zafralaw14.ClerkAgain'. -/
def clerkAgainCard : Claim7 := { stood := { row := clerkAgainRow, standIns := [], harness := (true, "af759928eddbb9eac8a1ef199d391bad5769a165cd1ac7ed8ea8e5f37891e53d"), looks := true }, kinds := [], alts := [], laidByText := true, laidKinds := [.data, .data, .data, .data, .sentinel, .sentinel, .pinned], laidTests := true, laidLooks := .later }
def ClerkAgainCardSaid : Prop := Claim7.holds Tryz.pinned (.plain (OpenSpec.ofChange clerkAgainSpec)) clerkAgainCard

/-- THE TIED CARD OF 'zafralaw14.ClerkSums'. -/
def clerkSumsCard : Claim7 := { stood := { row := clerkSumsRow, standIns := [], harness := (true, "af759928eddbb9eac8a1ef199d391bad5769a165cd1ac7ed8ea8e5f37891e53d"), looks := true }, kinds := [], alts := [], laidByText := true, laidKinds := [.data, .data, .data, .data, .sentinel, .sentinel, .pinned], laidTests := true, laidLooks := .later }
def ClerkSumsCardSaid : Prop := Claim7.holds Tryz.pinned (.plain (OpenSpec.ofChange clerkSumsSpec)) clerkSumsCard

/-- THE TIED CARD OF 'zafralaw14.ClerkOrder'. -/
def clerkOrderCard : Claim7 := { stood := { row := clerkOrderRow, standIns := [], harness := (true, "af759928eddbb9eac8a1ef199d391bad5769a165cd1ac7ed8ea8e5f37891e53d"), looks := true }, kinds := [], alts := [], laidByText := true, laidKinds := [.data, .data, .data, .data, .sentinel, .sentinel, .pinned], laidTests := true, laidLooks := .later }
def ClerkOrderCardSaid : Prop := Claim7.holds Tryz.pinned (.plain (OpenSpec.ofChange clerkOrderSpec)) clerkOrderCard

/-- THE SECOND FORM's CARD OF 'zafralaw14.ClerkRows'. -/
def clerkRowsUptoCard : Claim7 := { stood := { row := clerkRowsUptoRow, standIns := [], harness := (true, "af759928eddbb9eac8a1ef199d391bad5769a165cd1ac7ed8ea8e5f37891e53d"), looks := true }, kinds := [], alts := [], laidByText := true, laidKinds := [.data, .data, .data, .data, .sentinel, .sentinel, .pinned], laidTests := true, laidLooks := .later }
def ClerkRowsUptoCardSaid : Prop := Claim7.holds Tryz.pinned (.plain (OpenSpec.upto clerkRowsSpec)) clerkRowsUptoCard

/-- THE SECOND FORM's CARD OF 'zafralaw14.ClerkSays'. -/
def clerkSaysUptoCard : Claim7 := { stood := { row := clerkSaysUptoRow, standIns := [], harness := (true, "af759928eddbb9eac8a1ef199d391bad5769a165cd1ac7ed8ea8e5f37891e53d"), looks := true }, kinds := [], alts := [], laidByText := true, laidKinds := [.data, .data, .data, .data, .sentinel, .sentinel, .pinned], laidTests := true, laidLooks := .later }
def ClerkSaysUptoCardSaid : Prop := Claim7.holds Tryz.pinned (.plain (OpenSpec.upto clerkSaysSpec)) clerkSaysUptoCard

/-- THE SECOND FORM's CARD OF 'zafralaw14.ClerkLoads'. -/
def clerkLoadsUptoCard : Claim7 := { stood := { row := clerkLoadsUptoRow, standIns := [], harness := (true, "af759928eddbb9eac8a1ef199d391bad5769a165cd1ac7ed8ea8e5f37891e53d"), looks := true }, kinds := [], alts := [], laidByText := true, laidKinds := [.data, .data, .data, .data, .sentinel, .sentinel, .pinned], laidTests := true, laidLooks := .later }
def ClerkLoadsUptoCardSaid : Prop := Claim7.holds Tryz.pinned (.plain (OpenSpec.upto clerkLoadsSpec)) clerkLoadsUptoCard

/-- THE SECOND FORM's CARD OF 'zafralaw14.ClerkFull'. -/
def clerkFullUptoCard : Claim7 := { stood := { row := clerkFullUptoRow, standIns := [], harness := (true, "af759928eddbb9eac8a1ef199d391bad5769a165cd1ac7ed8ea8e5f37891e53d"), looks := true }, kinds := [], alts := [], laidByText := true, laidKinds := [.data, .data, .data, .data, .sentinel, .sentinel, .pinned], laidTests := true, laidLooks := .later }
def ClerkFullUptoCardSaid : Prop := Claim7.holds Tryz.pinned (.plain (OpenSpec.upto clerkFullSpec)) clerkFullUptoCard

/-- THE SECOND FORM's CARD OF 'zafralaw14.ClerkMended'. -/
def clerkMendedUptoCard : Claim7 := { stood := { row := clerkMendedUptoRow, standIns := [], harness := (true, "af759928eddbb9eac8a1ef199d391bad5769a165cd1ac7ed8ea8e5f37891e53d"), looks := true }, kinds := [], alts := [], laidByText := true, laidKinds := [.data, .data, .data, .data, .sentinel, .sentinel, .pinned], laidTests := true, laidLooks := .later }
def ClerkMendedUptoCardSaid : Prop := Claim7.holds Tryz.pinned (.plain (OpenSpec.upto clerkMendedSpec)) clerkMendedUptoCard

/-- THE SECOND FORM's CARD OF 'zafralaw14.ClerkTwo'. -/
def clerkTwoUptoCard : Claim7 := { stood := { row := clerkTwoUptoRow, standIns := [], harness := (true, "af759928eddbb9eac8a1ef199d391bad5769a165cd1ac7ed8ea8e5f37891e53d"), looks := true }, kinds := [], alts := [], laidByText := true, laidKinds := [.data, .data, .data, .data, .sentinel, .sentinel, .pinned], laidTests := true, laidLooks := .later }
def ClerkTwoUptoCardSaid : Prop := Claim7.holds Tryz.pinned (.plain (OpenSpec.upto clerkTwoSpec)) clerkTwoUptoCard

/-- THE SECOND FORM's CARD OF 'zafralaw14.ClerkAgain'. -/
def clerkAgainUptoCard : Claim7 := { stood := { row := clerkAgainUptoRow, standIns := [], harness := (true, "af759928eddbb9eac8a1ef199d391bad5769a165cd1ac7ed8ea8e5f37891e53d"), looks := true }, kinds := [], alts := [], laidByText := true, laidKinds := [.data, .data, .data, .data, .sentinel, .sentinel, .pinned], laidTests := true, laidLooks := .later }
def ClerkAgainUptoCardSaid : Prop := Claim7.holds Tryz.pinned (.plain (OpenSpec.upto clerkAgainSpec)) clerkAgainUptoCard

/-- THE SECOND FORM's CARD OF 'zafralaw14.ClerkSums'. -/
def clerkSumsUptoCard : Claim7 := { stood := { row := clerkSumsUptoRow, standIns := [], harness := (true, "af759928eddbb9eac8a1ef199d391bad5769a165cd1ac7ed8ea8e5f37891e53d"), looks := true }, kinds := [], alts := [], laidByText := true, laidKinds := [.data, .data, .data, .data, .sentinel, .sentinel, .pinned], laidTests := true, laidLooks := .later }
def ClerkSumsUptoCardSaid : Prop := Claim7.holds Tryz.pinned (.plain (OpenSpec.upto clerkSumsSpec)) clerkSumsUptoCard

/-- THE SECOND FORM's CARD OF 'zafralaw14.ClerkOrder'. -/
def clerkOrderUptoCard : Claim7 := { stood := { row := clerkOrderUptoRow, standIns := [], harness := (true, "af759928eddbb9eac8a1ef199d391bad5769a165cd1ac7ed8ea8e5f37891e53d"), looks := true }, kinds := [], alts := [], laidByText := true, laidKinds := [.data, .data, .data, .data, .sentinel, .sentinel, .pinned], laidTests := true, laidLooks := .later }
def ClerkOrderUptoCardSaid : Prop := Claim7.holds Tryz.pinned (.plain (OpenSpec.upto clerkOrderSpec)) clerkOrderUptoCard
end Rows
end Go.Proofs.YtmapgnepfgnphaaGreatDoor
