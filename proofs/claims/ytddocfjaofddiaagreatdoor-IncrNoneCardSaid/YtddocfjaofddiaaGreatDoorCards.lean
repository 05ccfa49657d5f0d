/-
  DERIVED. GIVEN WITH THE SEED: THE CARDS: each row of YtddocfjaofddiaaGreatDoorRows.lean that lists a variable, with what it lists TIED to the program's text (the seventh form; the later family's looks); each row that meets fmt, with fmt's text TOLD by the authors' own Lean function (tested against real Go, not proved from fmt's source: count such statements apart). THE CARD IS WHAT COUNTS. Prove the row's statement (the work); the ties are given (YtddocfjaofddiaaGreatDoorTie.lean); close each card by the builder's one call (the guide's Derived/Test/ToyasCard.lean, 'card_holds'). Laid BY PROGRAM, IN A SANDBOX (cutbox-door.mjs). By AI agents, Wed Nov 11 2026. No macro, syntax, notation, axiom, sorry.
-/
import Derived.Test.YtddocfjaofddiaaGreatDoorRows
import GoSem.ClaimSeven
namespace Go.Proofs.YtddocfjaofddiaaGreatDoor
namespace Rows

/-- THE TIED CARD OF 'quirelaw28.IncrNone'. -/
def incrNoneCard : Claim7 := { stood := { row := incrNoneRow, standIns := [], harness := (true, "b0ccc989258b65961ba2d7fbaa8993b5b092db7ae937fd74e97685ffcf81d69b"), looks := true }, kinds := [], alts := [], laidByText := true, laidKinds := [.sentinel, .pinned, .data, .data, .listed, .data, .data, .data], laidTests := true, laidLooks := .later }
def IncrNoneCardSaid : Prop := Claim7.holds Tryz.pinned (.plain (OpenSpec.ofChange incrNoneSpec)) incrNoneCard

/-- THE TIED CARD OF 'quirelaw28.IncrKnown'. -/
def incrKnownCard : Claim7 := { stood := { row := incrKnownRow, standIns := [], harness := (true, "b0ccc989258b65961ba2d7fbaa8993b5b092db7ae937fd74e97685ffcf81d69b"), looks := true }, kinds := [], alts := [], laidByText := true, laidKinds := [.sentinel, .data, .listed, .data, .data, .data, .pinned, .data], laidTests := true, laidLooks := .later }
def IncrKnownCardSaid : Prop := Claim7.holds Tryz.pinned (.plain (OpenSpec.ofChange incrKnownSpec)) incrKnownCard

/-- THE SECOND FORM's CARD OF 'quirelaw28.IncrNone'. -/
def incrNoneUptoCard : Claim7 := { stood := { row := incrNoneUptoRow, standIns := [], harness := (true, "b0ccc989258b65961ba2d7fbaa8993b5b092db7ae937fd74e97685ffcf81d69b"), looks := true }, kinds := [], alts := [], laidByText := true, laidKinds := [.sentinel, .pinned, .data, .data, .listed, .data, .data, .data], laidTests := true, laidLooks := .later }
def IncrNoneUptoCardSaid : Prop := Claim7.holds Tryz.pinned (.plain (OpenSpec.upto incrNoneSpec)) incrNoneUptoCard

/-- THE SECOND FORM's CARD OF 'quirelaw28.IncrKnown'. -/
def incrKnownUptoCard : Claim7 := { stood := { row := incrKnownUptoRow, standIns := [], harness := (true, "b0ccc989258b65961ba2d7fbaa8993b5b092db7ae937fd74e97685ffcf81d69b"), looks := true }, kinds := [], alts := [], laidByText := true, laidKinds := [.sentinel, .data, .listed, .data, .data, .data, .pinned, .data], laidTests := true, laidLooks := .later }
def IncrKnownUptoCardSaid : Prop := Claim7.holds Tryz.pinned (.plain (OpenSpec.upto incrKnownSpec)) incrKnownUptoCard
end Rows
end Go.Proofs.YtddocfjaofddiaaGreatDoor
