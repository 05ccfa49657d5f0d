/- strconv.Itoa over this program, by the shelf's contract: the table of powers of ten must lie in memory (Tab), as the row lists it; and that a call that writes nothing older keeps it. -/
import Derived.Test.YtkemkpmcgeeieaaDoorShelf
import Derived.Test.YtkemkpmcgeeieaaDoorWMore
import Derived.Lib.AppendIntMem
set_option linter.unusedVariables false
set_option linter.unusedSimpArgs false
namespace Go.Proofs.YtkemkpmcgeeieaaDoor.Ito
open Go Go.RowKit Go.Proofs Go.Proofs.YtkemkpmcgeeieaaDoorW.PrintWords
def Tab (w : World) : Prop := Lib.TabIs Tryd.prog w "internal/strconv.uint64pow10" .u64 Lib.pow10Tab
theorem named : Tryd.prog.globalNamed "internal/strconv.uint64pow10" = some 0 := by kernel_rfl
theorem Tab.below {w w' : World} (h : Tab w) (hb : Below w.heap.size w w') : Tab w' := by
  unfold Tab Lib.TabIs World.var? at h ⊢
  rw [named] at h ⊢
  simp only [Option.bind_some] at h ⊢
  have hlt : 0 < w.heap.size := by
    rcases Nat.lt_or_ge 0 w.heap.size with h' | h'
    · exact h'
    · rw [Array.getElem?_eq_none h'] at h; cases h
  rw [hb.block 0 hlt]
  exact h
theorem itoa_calls (n : Int) (h0 : 0 ≤ n) (h1 : n ≤ 3999) (w : World) (htab : Tab w) :
    Calls Tryd.prog 22 #[.int .i64 n] w fun e w' => e = .returned (.string ⟨(Lib.itoa n).toArray⟩) ∧ Below w.heap.size w w' := by
  refine (Tryd.strconv_Itoa n (by omega) (by omega) w htab).mono ?_
  rintro e w' ⟨rfl, k, os, rfl⟩
  exact ⟨rfl, Lib.below_grow _ _ (Nat.le_refl _) _ _⟩
end Go.Proofs.YtkemkpmcgeeieaaDoor.Ito
