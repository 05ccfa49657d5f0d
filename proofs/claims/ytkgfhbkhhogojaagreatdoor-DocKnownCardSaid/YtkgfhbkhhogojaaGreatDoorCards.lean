/-
  DERIVED. GIVEN WITH THE SEED: THE CARDS: each row of YtkgfhbkhhogojaaGreatDoorRows.lean that lists a variable, with what it lists TIED to the program's text (the seventh form; the later family's looks); each row that meets fmt, with fmt's text TOLD by the authors' own Lean function (tested against real Go, not proved from fmt's source: count such statements apart). THE CARD IS WHAT COUNTS. Prove the row's statement (the work); the ties are given (YtkgfhbkhhogojaaGreatDoorTie.lean); close each card by the builder's one call (the guide's Derived/Test/ToyasCard.lean, 'card_holds'). Laid BY PROGRAM, IN A SANDBOX (cutbox-door.mjs). By AI agents, Wed Nov 11 2026. No macro, syntax, notation, axiom, sorry.
-/
import Derived.Test.YtkgfhbkhhogojaaGreatDoorRows
import GoSem.ClaimSeven
namespace Go.Proofs.YtkgfhbkhhogojaaGreatDoor
namespace Rows

/-- THE TIED CARD OF 'quirelaw23.DocRange'. -/
def docRangeCard : Claim7 := { stood := { row := docRangeRow, standIns := [], harness := (true, "935afd48cc655a322ff2de607d75401515c39f4a66fe513dc67a5476cd06278e"), looks := true }, kinds := [], alts := [], laidByText := true, laidKinds := [.data, .pinned], laidTests := true, laidLooks := .later }
def DocRangeCardSaid : Prop := Claim7.holds Tryz.pinned (.plain (OpenSpec.ofChange docRangeSpec)) docRangeCard

/-- THE TIED CARD OF 'quirelaw23.DocKnown'. -/
def docKnownCard : Claim7 := { stood := { row := docKnownRow, standIns := [], harness := (true, "935afd48cc655a322ff2de607d75401515c39f4a66fe513dc67a5476cd06278e"), looks := true }, kinds := [], alts := [], laidByText := true, laidKinds := [.data, .pinned], laidTests := true, laidLooks := .later }
def DocKnownCardSaid : Prop := Claim7.holds Tryz.pinned (.plain (OpenSpec.ofChange docKnownSpec)) docKnownCard

/-- THE TIED CARD OF 'quirelaw23.DocPuts'. -/
def docPutsCard : Claim7 := { stood := { row := docPutsRow, standIns := [], harness := (true, "935afd48cc655a322ff2de607d75401515c39f4a66fe513dc67a5476cd06278e"), looks := true }, kinds := [], alts := [], laidByText := true, laidKinds := [.data, .pinned], laidTests := true, laidLooks := .later }
def DocPutsCardSaid : Prop := Claim7.holds Tryz.pinned (.plain (OpenSpec.ofChange docPutsSpec)) docPutsCard

/-- THE TIED CARD OF 'quirelaw23.DocWhole'. -/
def docWholeCard : Claim7 := { stood := { row := docWholeRow, standIns := [], harness := (true, "935afd48cc655a322ff2de607d75401515c39f4a66fe513dc67a5476cd06278e"), looks := true }, kinds := [], alts := [], laidByText := true, laidKinds := [.data, .pinned], laidTests := true, laidLooks := .later }
def DocWholeCardSaid : Prop := Claim7.holds Tryz.pinned (.plain (OpenSpec.ofChange docWholeSpec)) docWholeCard

/-- THE TIED CARD OF 'quirelaw23.DocScript'. -/
def docScriptCard : Claim7 := { stood := { row := docScriptRow, standIns := [], harness := (true, "935afd48cc655a322ff2de607d75401515c39f4a66fe513dc67a5476cd06278e"), looks := true }, kinds := [], alts := [], laidByText := true, laidKinds := [.data, .pinned], laidTests := true, laidLooks := .later }
def DocScriptCardSaid : Prop := Claim7.holds Tryz.pinned (.plain (OpenSpec.ofChange docScriptSpec)) docScriptCard

/-- THE TIED CARD OF 'quirelaw23.DocNone'. -/
def docNoneCard : Claim7 := { stood := { row := docNoneRow, standIns := [], harness := (true, "935afd48cc655a322ff2de607d75401515c39f4a66fe513dc67a5476cd06278e"), looks := true }, kinds := [], alts := [], laidByText := true, laidKinds := [.data, .pinned], laidTests := true, laidLooks := .later }
def DocNoneCardSaid : Prop := Claim7.holds Tryz.pinned (.plain (OpenSpec.ofChange docNoneSpec)) docNoneCard

/-- THE SECOND FORM's CARD OF 'quirelaw23.DocRange'. -/
def docRangeUptoCard : Claim7 := { stood := { row := docRangeUptoRow, standIns := [], harness := (true, "935afd48cc655a322ff2de607d75401515c39f4a66fe513dc67a5476cd06278e"), looks := true }, kinds := [], alts := [], laidByText := true, laidKinds := [.data, .pinned], laidTests := true, laidLooks := .later }
def DocRangeUptoCardSaid : Prop := Claim7.holds Tryz.pinned (.plain (OpenSpec.upto docRangeSpec)) docRangeUptoCard

/-- THE SECOND FORM's CARD OF 'quirelaw23.DocKnown'. -/
def docKnownUptoCard : Claim7 := { stood := { row := docKnownUptoRow, standIns := [], harness := (true, "935afd48cc655a322ff2de607d75401515c39f4a66fe513dc67a5476cd06278e"), looks := true }, kinds := [], alts := [], laidByText := true, laidKinds := [.data, .pinned], laidTests := true, laidLooks := .later }
def DocKnownUptoCardSaid : Prop := Claim7.holds Tryz.pinned (.plain (OpenSpec.upto docKnownSpec)) docKnownUptoCard

/-- THE SECOND FORM's CARD OF 'quirelaw23.DocPuts'. -/
def docPutsUptoCard : Claim7 := { stood := { row := docPutsUptoRow, standIns := [], harness := (true, "935afd48cc655a322ff2de607d75401515c39f4a66fe513dc67a5476cd06278e"), looks := true }, kinds := [], alts := [], laidByText := true, laidKinds := [.data, .pinned], laidTests := true, laidLooks := .later }
def DocPutsUptoCardSaid : Prop := Claim7.holds Tryz.pinned (.plain (OpenSpec.upto docPutsSpec)) docPutsUptoCard

/-- THE SECOND FORM's CARD OF 'quirelaw23.DocWhole'. -/
def docWholeUptoCard : Claim7 := { stood := { row := docWholeUptoRow, standIns := [], harness := (true, "935afd48cc655a322ff2de607d75401515c39f4a66fe513dc67a5476cd06278e"), looks := true }, kinds := [], alts := [], laidByText := true, laidKinds := [.data, .pinned], laidTests := true, laidLooks := .later }
def DocWholeUptoCardSaid : Prop := Claim7.holds Tryz.pinned (.plain (OpenSpec.upto docWholeSpec)) docWholeUptoCard

/-- THE SECOND FORM's CARD OF 'quirelaw23.DocScript'. -/
def docScriptUptoCard : Claim7 := { stood := { row := docScriptUptoRow, standIns := [], harness := (true, "935afd48cc655a322ff2de607d75401515c39f4a66fe513dc67a5476cd06278e"), looks := true }, kinds := [], alts := [], laidByText := true, laidKinds := [.data, .pinned], laidTests := true, laidLooks := .later }
def DocScriptUptoCardSaid : Prop := Claim7.holds Tryz.pinned (.plain (OpenSpec.upto docScriptSpec)) docScriptUptoCard

/-- THE SECOND FORM's CARD OF 'quirelaw23.DocNone'. -/
def docNoneUptoCard : Claim7 := { stood := { row := docNoneUptoRow, standIns := [], harness := (true, "935afd48cc655a322ff2de607d75401515c39f4a66fe513dc67a5476cd06278e"), looks := true }, kinds := [], alts := [], laidByText := true, laidKinds := [.data, .pinned], laidTests := true, laidLooks := .later }
def DocNoneUptoCardSaid : Prop := Claim7.holds Tryz.pinned (.plain (OpenSpec.upto docNoneSpec)) docNoneUptoCard
end Rows
end Go.Proofs.YtkgfhbkhhogojaaGreatDoor
