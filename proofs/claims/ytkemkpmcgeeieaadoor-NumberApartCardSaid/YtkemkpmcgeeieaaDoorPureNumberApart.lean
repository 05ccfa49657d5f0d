/- The plain law of NumberApart: unlike numbers have unlike labels on the levels 0 to 2. No condition. -/
import Derived.Test.YtkemkpmcgeeieaaDoorPureLabelB
namespace Go.Proofs.YtkemkpmcgeeieaaDoor.Pure
open Go.RowKit Go.Proofs.YtkemkpmcgeeieaaDoor.PNumberApart Go.Proofs.YtkemkpmcgeeieaaDoorW.PrintWords Go.Proofs.YtkemkpmcgeeieaaDoorW.PrintLast Go.Proofs.YtkemkpmcgeeieaaDoor.PureLabel
set_option maxRecDepth 1000000 in
theorem awake300 : quirelaw04_awake.f 300 = some true := by decide +kernel
theorem awake_at (k : Nat) (hk : 300 ≤ k) : quirelaw04_awake.f k = some true := leO_le (f := fun k => quirelaw04_awake.f k) (fun k => quirelaw04_awake.mono k) awake300 hk
theorem pick_in (x n : Int) (h0 : 0 < n) (h1 : n ≤ 4000) : ∃ p, quirekit_Pick.f x n = some p ∧ 0 ≤ p ∧ p < n := by
  unfold quirekit_Pick.f
  rw [if_neg (by omega), if_neg (by omega)]
  have b1 : Int.tmod x n < n := Int.tmod_lt_of_pos x h0
  have b2 : -n < Int.tmod x n := by
    have := Int.tmod_lt_of_pos (-x) h0
    rw [Int.neg_tmod] at this
    omega
  by_cases h : Int.tmod x n < 0
  · rw [if_pos h]
    have hw : wrap64 (Int.tmod x n + n) = Int.tmod x n + n := by unfold wrap64; omega
    exact ⟨_, rfl, by omega, by omega⟩
  · rw [if_neg h]
    exact ⟨_, rfl, by omega, by omega⟩
theorem NumberApart : quirelaw04_NumberApart.Pure := by
  intro a0 a1 a2 _ _ _
  obtain ⟨p0, e0, l0, u0⟩ := pick_in a0 3 (by omega) (by omega)
  obtain ⟨p1, e1, l1, u1⟩ := pick_in a1 3999 (by omega) (by omega)
  obtain ⟨p2, e2, l2, u2⟩ := pick_in a2 3999 (by omega) (by omega)
  obtain ⟨b1, x1, _, d1⟩ := label_in p0 (1 + p1) l0 (by omega) (by omega) (by omega)
  obtain ⟨b2, x2, _, d2⟩ := label_in p0 (1 + p2) l0 (by omega) (by omega) (by omega)
  have w1 : wrap64 (1 + p1) = 1 + p1 := by unfold wrap64; omega
  have w2 : wrap64 (1 + p2) = 1 + p2 := by unfold wrap64; omega
  refine ⟨5000, ?_⟩
  unfold quirelaw04_NumberApart.f
  rw [awake_at 5000 (by omega), e0, e1, e2]
  simp only [Option.bind_some]
  rw [w1, w2, x1 5000 (by omega), x2 5000 (by omega)]
  simp only [Option.bind_some, if_true, Option.some.injEq]
  by_cases h : p1 = p2
  · subst h
    have : b1 = b2 := by
      have := (x1 1 (by omega)).symm.trans (x2 1 (by omega))
      simp only [Option.some.injEq, Prod.mk.injEq, and_true] at this
      exact this
    subst this
    simp
  · have hne : ¬ b1.toList = b2.toList := by
      intro e
      have := d1 (by omega)
      rw [e, d2 (by omega)] at this
      omega
    have hm : ¬ (1 + p1 = 1 + p2) := by omega
    have q1 : (b1.toList == b2.toList) = false := beq_eq_false_iff_ne.mpr hne
    have q2 : ((1 + p1 : Int) == 1 + p2) = false := beq_eq_false_iff_ne.mpr hm
    first | (rw [q1, q2]; rfl) | (simp only [q1, q2]; rfl) | (simp only [q1, q2]; simp)
end Go.Proofs.YtkemkpmcgeeieaaDoor.Pure
