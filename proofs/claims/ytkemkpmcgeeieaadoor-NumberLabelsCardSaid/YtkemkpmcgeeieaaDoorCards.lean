/-
  DERIVED. GIVEN WITH THE SEED: THE CARDS: each row of YtkemkpmcgeeieaaDoorRows.lean that lists a variable, with what it lists TIED to the program's text (the seventh form; the later family's looks); each row that meets fmt, with fmt's text TOLD by the authors' own Lean function (tested against real Go, not proved from fmt's source: count such statements apart). THE CARD IS WHAT COUNTS. Prove the row's statement (the work); the ties are given (YtkemkpmcgeeieaaDoorTie.lean); close each card by the builder's one call (the guide's Derived/Test/ToyasCard.lean, 'card_holds'). Laid BY PROGRAM, IN A SANDBOX (cutbox-door.mjs). By AI agents, Wed Nov 11 2026. No macro, syntax, notation, axiom, sorry.
-/
import Derived.Test.YtkemkpmcgeeieaaDoorRows
import GoSem.ClaimSeven
namespace Go.Proofs.YtkemkpmcgeeieaaDoor
namespace Rows

/-- THE TIED CARD OF 'quirelaw04.NumberLabel'. -/
def numberLabelCard : Claim7 := { stood := { row := numberLabelRow, standIns := [], harness := (true, "a0ea2edc442e5520f1a749970f50fa170bda50871defb91dd623e77040ec0e5e"), looks := false }, kinds := [], alts := [], laidByText := true, laidKinds := [.data, .data, .data], laidTests := true, laidLooks := .later }
def NumberLabelCardSaid : Prop := Claim7.holds Tryd.pinned (.plain (OpenSpec.ofChange numberLabelSpec)) numberLabelCard

/-- THE TIED CARD OF 'quirelaw04.NumberAhead'. -/
def numberAheadCard : Claim7 := { stood := { row := numberAheadRow, standIns := [], harness := (true, "a0ea2edc442e5520f1a749970f50fa170bda50871defb91dd623e77040ec0e5e"), looks := false }, kinds := [], alts := [], laidByText := true, laidKinds := [.data, .data, .data], laidTests := true, laidLooks := .later }
def NumberAheadCardSaid : Prop := Claim7.holds Tryd.pinned (.plain (OpenSpec.ofChange numberAheadSpec)) numberAheadCard

/-- THE TIED CARD OF 'quirelaw04.NumberApart'. -/
def numberApartCard : Claim7 := { stood := { row := numberApartRow, standIns := [], harness := (true, "a0ea2edc442e5520f1a749970f50fa170bda50871defb91dd623e77040ec0e5e"), looks := false }, kinds := [], alts := [], laidByText := true, laidKinds := [.data, .data, .data], laidTests := true, laidLooks := .later }
def NumberApartCardSaid : Prop := Claim7.holds Tryd.pinned (.plain (OpenSpec.ofChange numberApartSpec)) numberApartCard

/-- THE TIED CARD OF 'quirelaw04.NumberLabels'. -/
def numberLabelsCard : Claim7 := { stood := { row := numberLabelsRow, standIns := [], harness := (true, "a0ea2edc442e5520f1a749970f50fa170bda50871defb91dd623e77040ec0e5e"), looks := false }, kinds := [], alts := [], laidByText := true, laidKinds := [.data, .data, .data], laidTests := true, laidLooks := .later }
def NumberLabelsCardSaid : Prop := Claim7.holds Tryd.pinned (.plain (OpenSpec.ofChange numberLabelsSpec)) numberLabelsCard

/-- THE TIED CARD OF 'quirelaw04.NumberCounts'. -/
def numberCountsCard : Claim7 := { stood := { row := numberCountsRow, standIns := [], harness := (true, "a0ea2edc442e5520f1a749970f50fa170bda50871defb91dd623e77040ec0e5e"), looks := false }, kinds := [], alts := [], laidByText := true, laidKinds := [.data, .data, .data], laidTests := true, laidLooks := .later }
def NumberCountsCardSaid : Prop := Claim7.holds Tryd.pinned (.plain (OpenSpec.ofChange numberCountsSpec)) numberCountsCard

/-- THE TIED CARD OF 'quirelaw04.NumberKnown'. -/
def numberKnownCard : Claim7 := { stood := { row := numberKnownRow, standIns := [], harness := (true, "a0ea2edc442e5520f1a749970f50fa170bda50871defb91dd623e77040ec0e5e"), looks := false }, kinds := [], alts := [], laidByText := true, laidKinds := [.data, .data, .data], laidTests := true, laidLooks := .later }
def NumberKnownCardSaid : Prop := Claim7.holds Tryd.pinned (.plain (OpenSpec.ofChange numberKnownSpec)) numberKnownCard

/-- THE SECOND FORM's CARD OF 'quirelaw04.NumberLabel'. -/
def numberLabelUptoCard : Claim7 := { stood := { row := numberLabelUptoRow, standIns := [], harness := (true, "a0ea2edc442e5520f1a749970f50fa170bda50871defb91dd623e77040ec0e5e"), looks := false }, kinds := [], alts := [], laidByText := true, laidKinds := [.data, .data, .data], laidTests := true, laidLooks := .later }
def NumberLabelUptoCardSaid : Prop := Claim7.holds Tryd.pinned (.plain (OpenSpec.upto numberLabelSpec)) numberLabelUptoCard

/-- THE SECOND FORM's CARD OF 'quirelaw04.NumberAhead'. -/
def numberAheadUptoCard : Claim7 := { stood := { row := numberAheadUptoRow, standIns := [], harness := (true, "a0ea2edc442e5520f1a749970f50fa170bda50871defb91dd623e77040ec0e5e"), looks := false }, kinds := [], alts := [], laidByText := true, laidKinds := [.data, .data, .data], laidTests := true, laidLooks := .later }
def NumberAheadUptoCardSaid : Prop := Claim7.holds Tryd.pinned (.plain (OpenSpec.upto numberAheadSpec)) numberAheadUptoCard

/-- THE SECOND FORM's CARD OF 'quirelaw04.NumberApart'. -/
def numberApartUptoCard : Claim7 := { stood := { row := numberApartUptoRow, standIns := [], harness := (true, "a0ea2edc442e5520f1a749970f50fa170bda50871defb91dd623e77040ec0e5e"), looks := false }, kinds := [], alts := [], laidByText := true, laidKinds := [.data, .data, .data], laidTests := true, laidLooks := .later }
def NumberApartUptoCardSaid : Prop := Claim7.holds Tryd.pinned (.plain (OpenSpec.upto numberApartSpec)) numberApartUptoCard

/-- THE SECOND FORM's CARD OF 'quirelaw04.NumberLabels'. -/
def numberLabelsUptoCard : Claim7 := { stood := { row := numberLabelsUptoRow, standIns := [], harness := (true, "a0ea2edc442e5520f1a749970f50fa170bda50871defb91dd623e77040ec0e5e"), looks := false }, kinds := [], alts := [], laidByText := true, laidKinds := [.data, .data, .data], laidTests := true, laidLooks := .later }
def NumberLabelsUptoCardSaid : Prop := Claim7.holds Tryd.pinned (.plain (OpenSpec.upto numberLabelsSpec)) numberLabelsUptoCard

/-- THE SECOND FORM's CARD OF 'quirelaw04.NumberCounts'. -/
def numberCountsUptoCard : Claim7 := { stood := { row := numberCountsUptoRow, standIns := [], harness := (true, "a0ea2edc442e5520f1a749970f50fa170bda50871defb91dd623e77040ec0e5e"), looks := false }, kinds := [], alts := [], laidByText := true, laidKinds := [.data, .data, .data], laidTests := true, laidLooks := .later }
def NumberCountsUptoCardSaid : Prop := Claim7.holds Tryd.pinned (.plain (OpenSpec.upto numberCountsSpec)) numberCountsUptoCard

/-- THE SECOND FORM's CARD OF 'quirelaw04.NumberKnown'. -/
def numberKnownUptoCard : Claim7 := { stood := { row := numberKnownUptoRow, standIns := [], harness := (true, "a0ea2edc442e5520f1a749970f50fa170bda50871defb91dd623e77040ec0e5e"), looks := false }, kinds := [], alts := [], laidByText := true, laidKinds := [.data, .data, .data], laidTests := true, laidLooks := .later }
def NumberKnownUptoCardSaid : Prop := Claim7.holds Tryd.pinned (.plain (OpenSpec.upto numberKnownSpec)) numberKnownUptoCard
end Rows
end Go.Proofs.YtkemkpmcgeeieaaDoor
