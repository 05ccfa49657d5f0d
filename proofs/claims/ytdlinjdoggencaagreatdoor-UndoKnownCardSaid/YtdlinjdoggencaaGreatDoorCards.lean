/-
  DERIVED. GIVEN WITH THE SEED: THE CARDS: each row of YtdlinjdoggencaaGreatDoorRows.lean that lists a variable, with what it lists TIED to the program's text (the seventh form; the later family's looks); each row that meets fmt, with fmt's text TOLD by the authors' own Lean function (tested against real Go, not proved from fmt's source: count such statements apart). THE CARD IS WHAT COUNTS. Prove the row's statement (the work); the ties are given (YtdlinjdoggencaaGreatDoorTie.lean); close each card by the builder's one call (the guide's Derived/Test/ToyasCard.lean, 'card_holds'). Laid BY PROGRAM, IN A SANDBOX (cutbox-door.mjs). By AI agents, Wed Nov 11 2026. No macro, syntax, notation, axiom, sorry.
-/
import Derived.Test.YtdlinjdoggencaaGreatDoorRows
import GoSem.ClaimSeven
namespace Go.Proofs.YtdlinjdoggencaaGreatDoor
namespace Rows

/-- THE TIED CARD OF 'quirelaw24.UndoFull'. -/
def undoFullCard : Claim7 := { stood := { row := undoFullRow, standIns := [], harness := (true, "778756a44069959646e7aa304aea217e8b7820fdba20dda4a5f101a78249f23a"), looks := true }, kinds := [], alts := [], laidByText := true, laidKinds := [.data, .pinned], laidTests := true, laidLooks := .later }
def UndoFullCardSaid : Prop := Claim7.holds Tryz.pinned (.plain (OpenSpec.ofChange undoFullSpec)) undoFullCard

/-- THE TIED CARD OF 'quirelaw24.UndoBack'. -/
def undoBackCard : Claim7 := { stood := { row := undoBackRow, standIns := [], harness := (true, "778756a44069959646e7aa304aea217e8b7820fdba20dda4a5f101a78249f23a"), looks := true }, kinds := [], alts := [], laidByText := true, laidKinds := [.data, .pinned], laidTests := true, laidLooks := .later }
def UndoBackCardSaid : Prop := Claim7.holds Tryz.pinned (.plain (OpenSpec.ofChange undoBackSpec)) undoBackCard

/-- THE TIED CARD OF 'quirelaw24.UndoKnown'. -/
def undoKnownCard : Claim7 := { stood := { row := undoKnownRow, standIns := [], harness := (true, "778756a44069959646e7aa304aea217e8b7820fdba20dda4a5f101a78249f23a"), looks := true }, kinds := [], alts := [], laidByText := true, laidKinds := [.data, .pinned], laidTests := true, laidLooks := .later }
def UndoKnownCardSaid : Prop := Claim7.holds Tryz.pinned (.plain (OpenSpec.ofChange undoKnownSpec)) undoKnownCard

/-- THE TIED CARD OF 'quirelaw24.UndoScript'. -/
def undoScriptCard : Claim7 := { stood := { row := undoScriptRow, standIns := [], harness := (true, "778756a44069959646e7aa304aea217e8b7820fdba20dda4a5f101a78249f23a"), looks := true }, kinds := [], alts := [], laidByText := true, laidKinds := [.data, .pinned], laidTests := true, laidLooks := .later }
def UndoScriptCardSaid : Prop := Claim7.holds Tryz.pinned (.plain (OpenSpec.ofChange undoScriptSpec)) undoScriptCard

/-- THE TIED CARD OF 'quirelaw24.UndoNone'. -/
def undoNoneCard : Claim7 := { stood := { row := undoNoneRow, standIns := [], harness := (true, "778756a44069959646e7aa304aea217e8b7820fdba20dda4a5f101a78249f23a"), looks := true }, kinds := [], alts := [], laidByText := true, laidKinds := [.data, .pinned], laidTests := true, laidLooks := .later }
def UndoNoneCardSaid : Prop := Claim7.holds Tryz.pinned (.plain (OpenSpec.ofChange undoNoneSpec)) undoNoneCard

/-- THE SECOND FORM's CARD OF 'quirelaw24.UndoFull'. -/
def undoFullUptoCard : Claim7 := { stood := { row := undoFullUptoRow, standIns := [], harness := (true, "778756a44069959646e7aa304aea217e8b7820fdba20dda4a5f101a78249f23a"), looks := true }, kinds := [], alts := [], laidByText := true, laidKinds := [.data, .pinned], laidTests := true, laidLooks := .later }
def UndoFullUptoCardSaid : Prop := Claim7.holds Tryz.pinned (.plain (OpenSpec.upto undoFullSpec)) undoFullUptoCard

/-- THE SECOND FORM's CARD OF 'quirelaw24.UndoBack'. -/
def undoBackUptoCard : Claim7 := { stood := { row := undoBackUptoRow, standIns := [], harness := (true, "778756a44069959646e7aa304aea217e8b7820fdba20dda4a5f101a78249f23a"), looks := true }, kinds := [], alts := [], laidByText := true, laidKinds := [.data, .pinned], laidTests := true, laidLooks := .later }
def UndoBackUptoCardSaid : Prop := Claim7.holds Tryz.pinned (.plain (OpenSpec.upto undoBackSpec)) undoBackUptoCard

/-- THE SECOND FORM's CARD OF 'quirelaw24.UndoKnown'. -/
def undoKnownUptoCard : Claim7 := { stood := { row := undoKnownUptoRow, standIns := [], harness := (true, "778756a44069959646e7aa304aea217e8b7820fdba20dda4a5f101a78249f23a"), looks := true }, kinds := [], alts := [], laidByText := true, laidKinds := [.data, .pinned], laidTests := true, laidLooks := .later }
def UndoKnownUptoCardSaid : Prop := Claim7.holds Tryz.pinned (.plain (OpenSpec.upto undoKnownSpec)) undoKnownUptoCard

/-- THE SECOND FORM's CARD OF 'quirelaw24.UndoScript'. -/
def undoScriptUptoCard : Claim7 := { stood := { row := undoScriptUptoRow, standIns := [], harness := (true, "778756a44069959646e7aa304aea217e8b7820fdba20dda4a5f101a78249f23a"), looks := true }, kinds := [], alts := [], laidByText := true, laidKinds := [.data, .pinned], laidTests := true, laidLooks := .later }
def UndoScriptUptoCardSaid : Prop := Claim7.holds Tryz.pinned (.plain (OpenSpec.upto undoScriptSpec)) undoScriptUptoCard

/-- THE SECOND FORM's CARD OF 'quirelaw24.UndoNone'. -/
def undoNoneUptoCard : Claim7 := { stood := { row := undoNoneUptoRow, standIns := [], harness := (true, "778756a44069959646e7aa304aea217e8b7820fdba20dda4a5f101a78249f23a"), looks := true }, kinds := [], alts := [], laidByText := true, laidKinds := [.data, .pinned], laidTests := true, laidLooks := .later }
def UndoNoneUptoCardSaid : Prop := Claim7.holds Tryz.pinned (.plain (OpenSpec.upto undoNoneSpec)) undoNoneUptoCard
end Rows
end Go.Proofs.YtdlinjdoggencaaGreatDoor
