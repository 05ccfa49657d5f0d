/-
  No cell of these rows narrows 'for every input' (looked for: loops, veiled, ifaces, maps, wideKeys, modest, calm, conditions, laid).
  DERIVED. THE GIVEN ROWS OF THIS SEAT. 3 by the template 'for every input the law returns true; each argument reads behind the call as it read before'; 0 by the template 'total and deterministic' (their statements: YtgodjkbccepfoaaTotals.lean).
  GIVEN WITH THE SEED: the statements are not yours to turn. If you find one false, say at which input.
  Laid BY PROGRAM, IN A SANDBOX (cutbox-rows.mjs): the forced cells as the released guide's own fill.sh prints them over the translation 9d85cecc4b9ddce6… (all of the seat's roots in one cut). By AI agents, Wed Nov 11 2026. No macro, syntax, notation, axiom, sorry.
-/
import Derived.Test.YtgodjkbccepfoaaChecked
import GoSem.Claim
import GoSem.ClaimJoined
import GoSem.ClaimMapViews
import Derived.JoinedTies
import Derived.KernelRfl
namespace Go.Proofs.Ytgodjkbccepfoaa
/- THE CELL 'sum', in the pinned program and in every row, IS THE sha256 OF THE DUMP (.gsa) THAT YtgodjkbccepfoaaProg.lean LOADS. Nothing in Lean hashes anything: it is a label: what it is worth is what the hold of that sum in a sandbox is worth. -/
noncomputable def Try.pinned : Pinned := { name := "ytgodjkbccepfoaa", sum := "9d85cecc4b9ddce63e2178f3fc96f37e3da2d3ef8e68321f9ab79ebb5e57471d", checked := Try.checked }
namespace Rows
def none {H : Type} : Left H := { results := [], args := [] }

/-- 'quirelaw08.TabTells': WHATEVER THE INPUT: true; the input reads as it did. -/
def tabTellsSpec : ChangeSpec := { name := "tabTells", fn := fun _ => fun
  | [d1, d2, d3] => { results := [.lit (.bool true)], args := [d1, d2, d3] }
  | _ => none }
def tabTellsRow : OpenClaim := { program := "ytgodjkbccepfoaa", sum := "9d85cecc4b9ddce63e2178f3fc96f37e3da2d3ef8e68321f9ab79ebb5e57471d", func := "quire/quirelaw08.TabTells", spec := "tabTells", unfollowed := true, recurses := true, apart := false }
def TabTellsSaid : Prop := tabTellsRow.holds Try.pinned (OpenSpec.ofChange tabTellsSpec)

/-- ITS FALSE NEIGHBOUR: 'it returns false'. Refute it at one input. -/
def tabTellsWrong : ChangeSpec := { name := "tabTells", fn := fun _ => fun
  | [d1, d2, d3] => { results := [.lit (.bool false)], args := [d1, d2, d3] }
  | _ => none }
def TabTellsWrongFalsely : Prop := tabTellsRow.holds Try.pinned (OpenSpec.ofChange tabTellsWrong)

/-- 'quirelaw08.TabKnown': WHATEVER THE INPUT: true; the input reads as it did. -/
def tabKnownSpec : ChangeSpec := { name := "tabKnown", fn := fun _ => fun
  | [] => { results := [.lit (.bool true)], args := [] }
  | _ => none }
def tabKnownRow : OpenClaim := { program := "ytgodjkbccepfoaa", sum := "9d85cecc4b9ddce63e2178f3fc96f37e3da2d3ef8e68321f9ab79ebb5e57471d", func := "quire/quirelaw08.TabKnown", spec := "tabKnown", unfollowed := true, recurses := true, apart := false }
def TabKnownSaid : Prop := tabKnownRow.holds Try.pinned (OpenSpec.ofChange tabKnownSpec)

/-- ITS FALSE NEIGHBOUR: 'it returns false'. Refute it at one input. -/
def tabKnownWrong : ChangeSpec := { name := "tabKnown", fn := fun _ => fun
  | [] => { results := [.lit (.bool false)], args := [] }
  | _ => none }
def TabKnownWrongFalsely : Prop := tabKnownRow.holds Try.pinned (OpenSpec.ofChange tabKnownWrong)

/-- 'quirelaw08.TabGoes': WHATEVER THE INPUT: true; the input reads as it did. -/
def tabGoesSpec : ChangeSpec := { name := "tabGoes", fn := fun _ => fun
  | [d1, d2, d3] => { results := [.lit (.bool true)], args := [d1, d2, d3] }
  | _ => none }
def tabGoesRow : OpenClaim := { program := "ytgodjkbccepfoaa", sum := "9d85cecc4b9ddce63e2178f3fc96f37e3da2d3ef8e68321f9ab79ebb5e57471d", func := "quire/quirelaw08.TabGoes", spec := "tabGoes", unfollowed := true, recurses := true, apart := false }
def TabGoesSaid : Prop := tabGoesRow.holds Try.pinned (OpenSpec.ofChange tabGoesSpec)

/-- ITS FALSE NEIGHBOUR: 'it returns false'. Refute it at one input. -/
def tabGoesWrong : ChangeSpec := { name := "tabGoes", fn := fun _ => fun
  | [d1, d2, d3] => { results := [.lit (.bool false)], args := [d1, d2, d3] }
  | _ => none }
def TabGoesWrongFalsely : Prop := tabGoesRow.holds Try.pinned (OpenSpec.ofChange tabGoesWrong)

/- THE SECOND FORM. 'bulk': how many values and letters a reading holds, each counted each time it is reached (what is shared counts as often as it is met; a slice's spare places count too). A statement '..UptoSaid' is the law's where the arguments, and the package variables that the reading takes, are together of bulk at most 1048576: NARROWER than '..Said'. Prove '..Said' where nothing that the law and all that it calls make is longer than what came in: it says more and counts as full. Else prove '..UptoSaid'. A law counts once. -/
mutual
def uptoBulk {H : Type} : DataW H → Nat
  | .lit (.string bytes) => bytes.length + 1
  | .lit _ => 1
  | .nil => 1
  | .ptr d => uptoBulk d + 1
  | .slice elems spare => uptoBulkAll elems + uptoBulkAll spare + 1
  | .agg parts => uptoBulkAll parts + 1
  | .iface _ d => uptoBulk d + 1
  | .map entries => uptoBulkEntries entries + 1
  | .held _ => 1
def uptoBulkAll {H : Type} : List (DataW H) → Nat
  | [] => 0
  | d :: r => uptoBulk d + uptoBulkAll r
def uptoBulkEntries {H : Type} : List (Lit × DataW H) → Nat
  | [] => 0
  | x :: r => uptoBulkEntry x + uptoBulkEntries r
def uptoBulkEntry {H : Type} : Lit × DataW H → Nat
  | (.string bytes, d) => bytes.length + uptoBulk d + 1
  | (_, d) => uptoBulk d + 1
 end
def uptoSmall : (H : Type) → List (DataW H) → Bool := fun _ ds => decide (uptoBulkAll ds ≤ 1048576)
def OpenSpec.upto (s : _root_.Go.ChangeSpec) : _root_.Go.OpenSpec := { _root_.Go.OpenSpec.ofChange s with cond := some uptoSmall }

/-- 'quirelaw08.TabTells', WHERE WHAT IT READS IS OF BULK AT MOST 1048576: true; the input reads as it did. -/
def tabTellsUptoRow : OpenClaim := { program := "ytgodjkbccepfoaa", sum := "9d85cecc4b9ddce63e2178f3fc96f37e3da2d3ef8e68321f9ab79ebb5e57471d", func := "quire/quirelaw08.TabTells", spec := "tabTells", unfollowed := true, recurses := true, apart := false, narrowed := true }
def TabTellsUptoSaid : Prop := tabTellsUptoRow.holds Try.pinned (OpenSpec.upto tabTellsSpec)

/-- 'quirelaw08.TabKnown', WHERE WHAT IT READS IS OF BULK AT MOST 1048576: true; the input reads as it did. -/
def tabKnownUptoRow : OpenClaim := { program := "ytgodjkbccepfoaa", sum := "9d85cecc4b9ddce63e2178f3fc96f37e3da2d3ef8e68321f9ab79ebb5e57471d", func := "quire/quirelaw08.TabKnown", spec := "tabKnown", unfollowed := true, recurses := true, apart := false, narrowed := true }
def TabKnownUptoSaid : Prop := tabKnownUptoRow.holds Try.pinned (OpenSpec.upto tabKnownSpec)

/-- 'quirelaw08.TabGoes', WHERE WHAT IT READS IS OF BULK AT MOST 1048576: true; the input reads as it did. -/
def tabGoesUptoRow : OpenClaim := { program := "ytgodjkbccepfoaa", sum := "9d85cecc4b9ddce63e2178f3fc96f37e3da2d3ef8e68321f9ab79ebb5e57471d", func := "quire/quirelaw08.TabGoes", spec := "tabGoes", unfollowed := true, recurses := true, apart := false, narrowed := true }
def TabGoesUptoSaid : Prop := tabGoesUptoRow.holds Try.pinned (OpenSpec.upto tabGoesSpec)

end Rows
end Go.Proofs.Ytgodjkbccepfoaa
