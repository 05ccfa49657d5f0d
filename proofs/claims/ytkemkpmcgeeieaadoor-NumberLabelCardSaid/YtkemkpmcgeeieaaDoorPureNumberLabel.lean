/- The plain law of NumberLabel: the label of any number on any level is the document's, or just its error is told. No condition. -/
import Derived.Test.YtkemkpmcgeeieaaDoorPureLabelA
namespace Go.Proofs.YtkemkpmcgeeieaaDoor.Pure
open Go.RowKit Go.Proofs.YtkemkpmcgeeieaaDoor.PNumberLabel Go.Proofs.YtkemkpmcgeeieaaDoorW.PrintWords Go.Proofs.YtkemkpmcgeeieaaDoorW.PrintLast Go.Proofs.YtkemkpmcgeeieaaDoor.PureLabel
theorem NumberLabel : quirelaw04_NumberLabel.Pure := by
  intro a0 a1 _ _
  refine ⟨5000, ?_⟩
  have he : (⟨#[]⟩ : ByteArray).toList = ([] : List UInt8) := by decide +kernel
  unfold quirelaw04_NumberLabel.f
  by_cases hl : 0 ≤ a0 ∧ a0 ≤ 3
  · by_cases hn : 1 ≤ a1 ∧ a1 ≤ 3999
    · obtain ⟨b, e1, e2⟩ := label_in a0 a1 hl.1 hl.2 hn.1 hn.2
      rw [e1 5000 (by omega), fits_in a0 a1 hl.1 hl.2 hn.1 hn.2 5000 (by omega), e2 5000 (by omega)]
      simp
    · obtain ⟨e1, e2⟩ := label_range a0 a1 hl.1 hl.2 (by omega) 5000 (by omega)
      rw [e1, e2]
      simp [he]
  · obtain ⟨e1, e2⟩ := label_level a0 a1 (by omega) 5000 (by omega)
    rw [e1, e2]
    simp [he]
end Go.Proofs.YtkemkpmcgeeieaaDoor.Pure
