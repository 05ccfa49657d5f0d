/- The bounds of properties as plain functions, and what fits. -/
import Derived.Test.YtpcpjlbfhbicaaaTry3
import Derived.Outline
namespace Go.Proofs.Ytpcpjlbfhbicaaa.PStyleProps
open Go.RowKit Go.Proofs.YtpcpjlbfhbicaaaW.PrintWords Go.Proofs.YtpcpjlbfhbicaaaW.PrintLast Go.Proofs.YtpcpjlbfhbicaaaW.PrintMore
set_option linter.unusedVariables false
set_option linter.unusedSimpArgs false

/-- The bounds of a property. -/
def lo (n : Int) : Int := if n = 1 ∨ n = 2 ∨ n = 11 ∨ n = 12 then 1 else 0
def hi (n : Int) : Int := if n = 1 then 64 else if n = 3 ∨ n = 17 then 3 else if n = 9 ∨ n = 10 ∨ n = 13 ∨ n = 14 then 1 else if n = 11 ∨ n = 12 ∨ n = 15 then 4 else if n = 16 then 8 else 255
def fitB (n v : Int) : Bool := decide (1 ≤ n) && decide (n ≤ 17) && decide (lo n ≤ v) && decide (v ≤ hi n)
theorem bounds_in (n : Int) (h0 : 1 ≤ n) (h1 : n ≤ 17) : style_Bounds.f 20 n = some (lo n, hi n, 0) ∧ quireref03_Bounds.f 20 n = some (lo n, hi n, true) := by
  rcases range17 n h0 h1 with rfl | rfl | rfl | rfl | rfl | rfl | rfl | rfl | rfl | rfl | rfl | rfl | rfl | rfl | rfl | rfl | rfl <;> exact ⟨by decide +kernel, by decide +kernel⟩
theorem bounds_out (n : Int) (h : n < 1 ∨ 17 < n) : style_Bounds.f 20 n = some (0, 0, 2) ∧ quireref03_Bounds.f 20 n = some (0, 0, false) := by
  have n1 : n ≠ 1 := by omega
  have n2 : n ≠ 2 := by omega
  have n3 : n ≠ 3 := by omega
  have n4 : n ≠ 4 := by omega
  have n5 : n ≠ 5 := by omega
  have n6 : n ≠ 6 := by omega
  have n7 : n ≠ 7 := by omega
  have n8 : n ≠ 8 := by omega
  have n9 : n ≠ 9 := by omega
  have n10 : n ≠ 10 := by omega
  have n11 : n ≠ 11 := by omega
  have n12 : n ≠ 12 := by omega
  have n13 : n ≠ 13 := by omega
  have n14 : n ≠ 14 := by omega
  have n15 : n ≠ 15 := by omega
  have n16 : n ≠ 16 := by omega
  have n17 : n ≠ 17 := by omega
  constructor
  · simp [style_Bounds.f, style_Bounds.j0, style_Bounds.j1, style_Bounds.j2, style_Bounds.j3, *]
  · have h2 : ¬ (4 ≤ n ∧ n ≤ 8) := by omega
    simp [quireref03_Bounds.f, quireref03_Bounds.j0, quireref03_Bounds.j1, quireref03_Bounds.j2, quireref03_Bounds.j3, *]
    try omega
theorem fits_f (n v : Int) : style_fits.f 20 n v = some (fitB n v) := by
  unfold style_fits.f fitB
  by_cases h : 1 ≤ n ∧ n ≤ 17
  · rw [(bounds_in n h.1 h.2).1]
    simp [h.1, h.2]
    by_cases c : lo n ≤ v <;> simp [c]
  · rw [(bounds_out n (by omega)).1]
    simp
    intro a b
    omega
theorem rfits_f (n v : Int) : quireref03_Fits.f 20 n v = some (fitB n v) := by
  unfold quireref03_Fits.f fitB
  by_cases h : 1 ≤ n ∧ n ≤ 17
  · rw [(bounds_in n h.1 h.2).2]
    simp [h.1, h.2]
    by_cases c : lo n ≤ v <;> simp [c]
  · rw [(bounds_out n (by omega)).2]
    simp
    intro a b
    omega
end Go.Proofs.Ytpcpjlbfhbicaaa.PStyleProps
