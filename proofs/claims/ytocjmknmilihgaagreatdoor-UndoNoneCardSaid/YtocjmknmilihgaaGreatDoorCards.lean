/-
  DERIVED. GIVEN WITH THE SEED: THE CARDS: each row of YtocjmknmilihgaaGreatDoorRows.lean that lists a variable, with what it lists TIED to the program's text (the seventh form; the later family's looks); each row that meets fmt, with fmt's text TOLD by the authors' own Lean function (tested against real Go, not proved from fmt's source: count such statements apart). THE CARD IS WHAT COUNTS. Prove the row's statement (the work); the ties are given (YtocjmknmilihgaaGreatDoorTie.lean); close each card by the builder's one call (the guide's Derived/Test/ToyasCard.lean, 'card_holds'). Laid BY PROGRAM, IN A SANDBOX (cutbox-door.mjs). By AI agents, Wed Nov 11 2026. No macro, syntax, notation, axiom, sorry.
-/
import Derived.Test.YtocjmknmilihgaaGreatDoorRows
import GoSem.ClaimSeven
namespace Go.Proofs.YtocjmknmilihgaaGreatDoor
namespace Rows

/-- THE TIED CARD OF 'quirelaw23.DocNone'. -/
def docNoneCard : Claim7 := { stood := { row := docNoneRow, standIns := [], harness := (true, "b1684bbd15549b519b88355c80c3955920b19c33f0fa3140eb7c93a8e146fc7f"), looks := true }, kinds := [], alts := [], laidByText := true, laidKinds := [.data, .pinned], laidTests := true, laidLooks := .later }
def DocNoneCardSaid : Prop := Claim7.holds Tryz.pinned (.plain (OpenSpec.ofChange docNoneSpec)) docNoneCard

/-- THE TIED CARD OF 'quirelaw24.UndoNone'. -/
def undoNoneCard : Claim7 := { stood := { row := undoNoneRow, standIns := [], harness := (true, "b1684bbd15549b519b88355c80c3955920b19c33f0fa3140eb7c93a8e146fc7f"), looks := true }, kinds := [], alts := [], laidByText := true, laidKinds := [.data, .pinned], laidTests := true, laidLooks := .later }
def UndoNoneCardSaid : Prop := Claim7.holds Tryz.pinned (.plain (OpenSpec.ofChange undoNoneSpec)) undoNoneCard

/-- THE SECOND FORM's CARD OF 'quirelaw23.DocNone'. -/
def docNoneUptoCard : Claim7 := { stood := { row := docNoneUptoRow, standIns := [], harness := (true, "b1684bbd15549b519b88355c80c3955920b19c33f0fa3140eb7c93a8e146fc7f"), looks := true }, kinds := [], alts := [], laidByText := true, laidKinds := [.data, .pinned], laidTests := true, laidLooks := .later }
def DocNoneUptoCardSaid : Prop := Claim7.holds Tryz.pinned (.plain (OpenSpec.upto docNoneSpec)) docNoneUptoCard

/-- THE SECOND FORM's CARD OF 'quirelaw24.UndoNone'. -/
def undoNoneUptoCard : Claim7 := { stood := { row := undoNoneUptoRow, standIns := [], harness := (true, "b1684bbd15549b519b88355c80c3955920b19c33f0fa3140eb7c93a8e146fc7f"), looks := true }, kinds := [], alts := [], laidByText := true, laidKinds := [.data, .pinned], laidTests := true, laidLooks := .later }
def UndoNoneUptoCardSaid : Prop := Claim7.holds Tryz.pinned (.plain (OpenSpec.upto undoNoneSpec)) undoNoneUptoCard
end Rows
end Go.Proofs.YtocjmknmilihgaaGreatDoor
