/-
  DERIVED. GIVEN WITH THE SEED: THE CARDS: each row of YtgbgjkpafnpadaaGreatDoorRows.lean that lists a variable, with what it lists TIED to the program's text (the seventh form; the later family's looks); each row that meets fmt, with fmt's text TOLD by the authors' own Lean function (tested against real Go, not proved from fmt's source: count such statements apart). THE CARD IS WHAT COUNTS. Prove the row's statement (the work); the ties are given (YtgbgjkpafnpadaaGreatDoorTie.lean); close each card by the builder's one call (the guide's Derived/Test/ToyasCard.lean, 'card_holds'). Laid BY PROGRAM, IN A SANDBOX (cutbox-door.mjs). By AI agents, Wed Nov 11 2026. No macro, syntax, notation, axiom, sorry.
-/
import Derived.Test.YtgbgjkpafnpadaaGreatDoorRows
import GoSem.ClaimSeven
namespace Go.Proofs.YtgbgjkpafnpadaaGreatDoor
namespace Rows

/-- THE TIED CARD OF 'quirelaw30.CaretNil'. -/
def caretNilCard : Claim7 := { stood := { row := caretNilRow, standIns := [], harness := (true, "d52ac4609c30e6f58ba837aa9ed19a21c0a37f01c0dd692a68e6c79671dfb9a4"), looks := true }, kinds := [], alts := [], laidByText := true, laidKinds := [.pinned, .data, .data, .listed, .data, .data, .data], laidTests := true, laidLooks := .later }
def CaretNilCardSaid : Prop := Claim7.holds Tryz.pinned (.plain (OpenSpec.ofChange caretNilSpec)) caretNilCard

/-- THE TIED CARD OF 'quirelaw30.CaretKnown'. -/
def caretKnownCard : Claim7 := { stood := { row := caretKnownRow, standIns := [], harness := (true, "d52ac4609c30e6f58ba837aa9ed19a21c0a37f01c0dd692a68e6c79671dfb9a4"), looks := true }, kinds := [], alts := [], laidByText := true, laidKinds := [.pinned, .data, .data, .listed, .data, .data, .data], laidTests := true, laidLooks := .later }
def CaretKnownCardSaid : Prop := Claim7.holds Tryz.pinned (.plain (OpenSpec.ofChange caretKnownSpec)) caretKnownCard

/-- THE TIED CARD OF 'quirelaw29.ShowKnown'. -/
def showKnownCard : Claim7 := { stood := { row := showKnownRow, standIns := [], harness := (true, "d52ac4609c30e6f58ba837aa9ed19a21c0a37f01c0dd692a68e6c79671dfb9a4"), looks := true }, kinds := [], alts := [], laidByText := true, laidKinds := [.pinned, .data, .data, .listed, .data, .data, .data], laidTests := true, laidLooks := .later }
def ShowKnownCardSaid : Prop := Claim7.holds Tryz.pinned (.plain (OpenSpec.ofChange showKnownSpec)) showKnownCard

/-- THE TIED CARD OF 'quirelaw29.ShowNil'. -/
def showNilCard : Claim7 := { stood := { row := showNilRow, standIns := [], harness := (true, "d52ac4609c30e6f58ba837aa9ed19a21c0a37f01c0dd692a68e6c79671dfb9a4"), looks := true }, kinds := [], alts := [], laidByText := true, laidKinds := [.data, .data, .data, .data, .listed, .pinned, .data], laidTests := true, laidLooks := .later }
def ShowNilCardSaid : Prop := Claim7.holds Tryz.pinned (.plain (OpenSpec.ofChange showNilSpec)) showNilCard

/-- THE TIED CARD OF 'quirelaw31.HitNil'. -/
def hitNilCard : Claim7 := { stood := { row := hitNilRow, standIns := [], harness := (true, "d52ac4609c30e6f58ba837aa9ed19a21c0a37f01c0dd692a68e6c79671dfb9a4"), looks := true }, kinds := [], alts := [], laidByText := true, laidKinds := [.pinned, .data, .data, .listed, .data, .data, .data], laidTests := true, laidLooks := .later }
def HitNilCardSaid : Prop := Claim7.holds Tryz.pinned (.plain (OpenSpec.ofChange hitNilSpec)) hitNilCard

/-- THE TIED CARD OF 'quirelaw31.HitKnown'. -/
def hitKnownCard : Claim7 := { stood := { row := hitKnownRow, standIns := [], harness := (true, "d52ac4609c30e6f58ba837aa9ed19a21c0a37f01c0dd692a68e6c79671dfb9a4"), looks := true }, kinds := [], alts := [], laidByText := true, laidKinds := [.pinned, .data, .data, .listed, .data, .data, .data], laidTests := true, laidLooks := .later }
def HitKnownCardSaid : Prop := Claim7.holds Tryz.pinned (.plain (OpenSpec.ofChange hitKnownSpec)) hitKnownCard

/-- THE SECOND FORM's CARD OF 'quirelaw30.CaretNil'. -/
def caretNilUptoCard : Claim7 := { stood := { row := caretNilUptoRow, standIns := [], harness := (true, "d52ac4609c30e6f58ba837aa9ed19a21c0a37f01c0dd692a68e6c79671dfb9a4"), looks := true }, kinds := [], alts := [], laidByText := true, laidKinds := [.pinned, .data, .data, .listed, .data, .data, .data], laidTests := true, laidLooks := .later }
def CaretNilUptoCardSaid : Prop := Claim7.holds Tryz.pinned (.plain (OpenSpec.upto caretNilSpec)) caretNilUptoCard

/-- THE SECOND FORM's CARD OF 'quirelaw30.CaretKnown'. -/
def caretKnownUptoCard : Claim7 := { stood := { row := caretKnownUptoRow, standIns := [], harness := (true, "d52ac4609c30e6f58ba837aa9ed19a21c0a37f01c0dd692a68e6c79671dfb9a4"), looks := true }, kinds := [], alts := [], laidByText := true, laidKinds := [.pinned, .data, .data, .listed, .data, .data, .data], laidTests := true, laidLooks := .later }
def CaretKnownUptoCardSaid : Prop := Claim7.holds Tryz.pinned (.plain (OpenSpec.upto caretKnownSpec)) caretKnownUptoCard

/-- THE SECOND FORM's CARD OF 'quirelaw29.ShowKnown'. -/
def showKnownUptoCard : Claim7 := { stood := { row := showKnownUptoRow, standIns := [], harness := (true, "d52ac4609c30e6f58ba837aa9ed19a21c0a37f01c0dd692a68e6c79671dfb9a4"), looks := true }, kinds := [], alts := [], laidByText := true, laidKinds := [.pinned, .data, .data, .listed, .data, .data, .data], laidTests := true, laidLooks := .later }
def ShowKnownUptoCardSaid : Prop := Claim7.holds Tryz.pinned (.plain (OpenSpec.upto showKnownSpec)) showKnownUptoCard

/-- THE SECOND FORM's CARD OF 'quirelaw29.ShowNil'. -/
def showNilUptoCard : Claim7 := { stood := { row := showNilUptoRow, standIns := [], harness := (true, "d52ac4609c30e6f58ba837aa9ed19a21c0a37f01c0dd692a68e6c79671dfb9a4"), looks := true }, kinds := [], alts := [], laidByText := true, laidKinds := [.data, .data, .data, .data, .listed, .pinned, .data], laidTests := true, laidLooks := .later }
def ShowNilUptoCardSaid : Prop := Claim7.holds Tryz.pinned (.plain (OpenSpec.upto showNilSpec)) showNilUptoCard

/-- THE SECOND FORM's CARD OF 'quirelaw31.HitNil'. -/
def hitNilUptoCard : Claim7 := { stood := { row := hitNilUptoRow, standIns := [], harness := (true, "d52ac4609c30e6f58ba837aa9ed19a21c0a37f01c0dd692a68e6c79671dfb9a4"), looks := true }, kinds := [], alts := [], laidByText := true, laidKinds := [.pinned, .data, .data, .listed, .data, .data, .data], laidTests := true, laidLooks := .later }
def HitNilUptoCardSaid : Prop := Claim7.holds Tryz.pinned (.plain (OpenSpec.upto hitNilSpec)) hitNilUptoCard

/-- THE SECOND FORM's CARD OF 'quirelaw31.HitKnown'. -/
def hitKnownUptoCard : Claim7 := { stood := { row := hitKnownUptoRow, standIns := [], harness := (true, "d52ac4609c30e6f58ba837aa9ed19a21c0a37f01c0dd692a68e6c79671dfb9a4"), looks := true }, kinds := [], alts := [], laidByText := true, laidKinds := [.pinned, .data, .data, .listed, .data, .data, .data], laidTests := true, laidLooks := .later }
def HitKnownUptoCardSaid : Prop := Claim7.holds Tryz.pinned (.plain (OpenSpec.upto hitKnownSpec)) hitKnownUptoCard
end Rows
end Go.Proofs.YtgbgjkpafnpadaaGreatDoor
