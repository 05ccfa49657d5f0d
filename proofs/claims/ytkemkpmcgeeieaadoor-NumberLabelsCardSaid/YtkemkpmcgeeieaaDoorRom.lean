/- number.roman over this program: its contract. No condition. -/
import Derived.Test.YtkemkpmcgeeieaaDoorProg
import Derived.Test.YtkemkpmcgeeieaaDoorWMore
import Derived.Outline
import Derived.OwnWalk
set_option linter.unusedVariables false
set_option linter.unusedSimpArgs false
namespace Go.Proofs.YtkemkpmcgeeieaaDoor.Rom
open Go Go.RowKit Go.Proofs Go.Proofs.YtkemkpmcgeeieaaDoorW.PrintWords Go.Proofs.YtkemkpmcgeeieaaDoorW.PrintLast Go.Proofs.YtkemkpmcgeeieaaDoorW.PrintMore
def vs : List Int := [1000, 900, 500, 400, 100, 90, 50, 40, 10, 9, 5, 4, 1]
def ws : List ByteArray := [(⟨#[109]⟩ : ByteArray), (⟨#[99, 109]⟩ : ByteArray), (⟨#[100]⟩ : ByteArray), (⟨#[99, 100]⟩ : ByteArray), (⟨#[99]⟩ : ByteArray), (⟨#[120, 99]⟩ : ByteArray), (⟨#[108]⟩ : ByteArray), (⟨#[120, 108]⟩ : ByteArray), (⟨#[120]⟩ : ByteArray), (⟨#[105, 120]⟩ : ByteArray), (⟨#[118]⟩ : ByteArray), (⟨#[105, 118]⟩ : ByteArray), (⟨#[105]⟩ : ByteArray)]
mutual
def l0 : Nat → Int → ByteArray → Int → Option ByteArray
  | 0, _, _, _ => none
  | k + 1, n, s, i => if i < 13 then l1 k n s i else some s
def l1 : Nat → Int → ByteArray → Int → Option ByteArray
  | 0, _, _, _ => none
  | k + 1, n, s, i => if 0 ≤ i then (if i < 13 then (if n ≥ rd vs i then (if s.size + (rdOf ByteArray.empty ws i).size ≤ 9223372036854775807 then l1 k (wrap64 (n - rd vs i)) (s ++ rdOf ByteArray.empty ws i) i else none) else l0 k n s (wrap64 (i + 1))) else none) else none
end
theorem range13 (i : Int) (h0 : 0 ≤ i) (h1 : i < 13) : i = 0 ∨ i = 1 ∨ i = 2 ∨ i = 3 ∨ i = 4 ∨ i = 5 ∨ i = 6 ∨ i = 7 ∨ i = 8 ∨ i = 9 ∨ i = 10 ∨ i = 11 ∨ i = 12 := by omega
set_option maxRecDepth 100000 in
theorem index59 (i : Int) (h0 : 0 ≤ i) (h1 : i < 13) (w : World) : (Instr.index 59 (.agg #[.int .i64 1000, .string (⟨#[109]⟩ : ByteArray), .int .i64 900, .string (⟨#[99, 109]⟩ : ByteArray), .int .i64 500, .string (⟨#[100]⟩ : ByteArray), .int .i64 400, .string (⟨#[99, 100]⟩ : ByteArray), .int .i64 100, .string (⟨#[99]⟩ : ByteArray), .int .i64 90, .string (⟨#[120, 99]⟩ : ByteArray), .int .i64 50, .string (⟨#[108]⟩ : ByteArray), .int .i64 40, .string (⟨#[120, 108]⟩ : ByteArray), .int .i64 10, .string (⟨#[120]⟩ : ByteArray), .int .i64 9, .string (⟨#[105, 120]⟩ : ByteArray), .int .i64 5, .string (⟨#[118]⟩ : ByteArray), .int .i64 4, .string (⟨#[105, 118]⟩ : ByteArray), .int .i64 1, .string (⟨#[105]⟩ : ByteArray)]) (.int .i64 i)).run Tryd.prog w = .ok (.agg #[.int .i64 (rd vs i), .string (rdOf ByteArray.empty ws i)]) w := by
  rcases range13 i h0 h1 with rfl | rfl | rfl | rfl | rfl | rfl | rfl | rfl | rfl | rfl | rfl | rfl | rfl <;> rfl
set_option maxHeartbeats 4000000 in
set_option maxRecDepth 100000 in
theorem roman_calls (k : Nat) (n : Int) (r : ByteArray) (w : World) (h : l0 k n (⟨#[]⟩ : ByteArray) 0 = some r) :
    Calls Tryd.prog 24 #[.int .i64 n] w fun e w' => e = .returned (.string r) ∧ Below w.heap.size w w' := by
  have hu58 := Tryd.underlying58
  have hu59 := Tryd.underlying59
  have HB := Aside0.mk (Below.refl w.heap.size w)
  have H' := Aside0.mk h
  clear h
  go_enter Tryd.func24, Tryd.ntmps24
  go_wp2
  go_loopg [0, 3, 20] k (fun kq v0 v3 v20 w' => ∃ (x0 : Int) (x3 : ByteArray) (x6 : Int), v0 = .int .i64 x0 ∧ v3 = .string x3 ∧ v20 = .int .i64 x6 ∧ Aside0 (0 ≤ x6) ∧ Aside0 (l0 kq x0 x3 x6 = some r) ∧ Aside0 (kq ≤ k) ∧ Aside0 (Below w.heap.size w w'))
  case atStart => exact ⟨n, _, 0, rfl, rfl, rfl, ⟨by omega⟩, H', ⟨Nat.le_refl _⟩, HB⟩
  case round =>
    clear H' HB
    obtain ⟨x0, x3, x6, rfl, rfl, rfl, H0, HA, HK1, HB⟩ := hrel
    cases gk with
    | zero => exact absurd HA.out (by simp [l0])
    | succ k1 =>
      have H := HA.out
      clear HA
      simp only [l0] at H
      by_cases c6 : x6 < 13
      · rw [if_pos c6] at H
        have c6b0 : decide (x6 < 13) = true := decide_eq_true c6
        have hix := index59 x6 H0.out c6
        have H' := Aside0.mk H
        clear H
        go_wp2
        have BK : Aside0 ((wr.alloc (Obj.cells #[.int .i64 (rd vs x6), .string (rdOf ByteArray.empty ws x6)] 58)).heap[wr.heap.size]? = some (.cells #[.int .i64 (rd vs x6), .string (rdOf ByteArray.empty ws x6)] 58 (0, 0))) := ⟨blk_new _ _⟩
        have HB2 : Aside0 (Below w.heap.size w (wr.alloc (Obj.cells #[.int .i64 (rd vs x6), .string (rdOf ByteArray.empty ws x6)] 58))) := ⟨Below.alloc HB.out (below_size HB.out) _⟩
        clear HB hix
        generalize wr.alloc (Obj.cells #[.int .i64 (rd vs x6), .string (rdOf ByteArray.empty ws x6)] 58) = w2 at BK HB2 ⊢
        generalize wr.heap.size = g at BK ⊢
        go_loopg [0, 3] k1 (fun kq v0 v3 w' => ∃ (y0 : Int) (y3 : ByteArray), v0 = .int .i64 y0 ∧ v3 = .string y3 ∧ Aside0 (l1 kq y0 y3 x6 = some r) ∧ Aside0 (kq ≤ k1) ∧ Aside0 (w'.heap[g]? = some (.cells #[.int .i64 (rd vs x6), .string (rdOf ByteArray.empty ws x6)] 58 (0, 0))) ∧ Aside0 (Below w.heap.size w w'))
        case atStart => exact ⟨x0, x3, rfl, rfl, H', ⟨Nat.le_refl _⟩, BK, HB2⟩
        case round =>
          clear H' HB2 BK
          obtain ⟨y0, y3, rfl, rfl, HA, HK2, BK, HB⟩ := hrel
          cases gk with
          | zero => exact absurd HA.out (by simp [l1])
          | succ k2 =>
            have H := HA.out
            clear HA
            simp only [l1] at H
            rw [if_pos H0.out, if_pos c6] at H
            rename_i wi _ _ _ _
            have hx0 := fun (o : Nat) => blk_cell BK.out o
            by_cases c10 : y0 ≥ rd vs x6
            · rw [if_pos c10] at H
              have c10b : decide (rd vs x6 ≤ y0) = true := decide_eq_true c10
              by_cases c12 : y3.size + (rdOf ByteArray.empty ws x6).size ≤ 9223372036854775807
              · rw [if_pos c12] at H
                have c12b0 := eq_true c12
                have c12b1 : decide (y3.size + (rdOf ByteArray.empty ws x6).size ≤ 9223372036854775807) = true := decide_eq_true c12
                have c12b2 : (9223372036854775807 < y3.size + (rdOf ByteArray.empty ws x6).size) = False := eq_false (Nat.not_lt.2 c12)
                have H' := Aside0.mk H
                clear H
                have hc0 := (hx0 0).trans rfl
                have hc1 := (hx0 1).trans rfl
                clear hx0
                go_wp2
                go_roundg k2
                case measure => omega
                case rel => exact ⟨_, _, (by first | rfl | (simp; done) | (simp [*]; done)), (by first | rfl | (simp; done) | (simp [*]; done)), H', ⟨by have := HK2.out; omega⟩, BK, HB⟩
              · rw [if_neg c12] at H
                exact absurd H (by simp)
            · rw [if_neg c10] at H
              have c10b : decide (rd vs x6 ≤ y0) = false := decide_eq_false c10
              have hw : wrap64 (x6 + 1) = x6 + 1 := by have := H0.out; unfold wrap64; omega
              rw [hw] at H
              have H' := Aside0.mk H
              clear H
              have hc0 := (hx0 0).trans rfl
              clear hx0
              go_wp2
              go_roundg k2
              case measure => have := HK2.out; omega
              case rel => exact ⟨y0, y3, x6 + 1, rfl, rfl, rfl, ⟨by have := H0.out; omega⟩, H', ⟨by have := HK1.out; have := HK2.out; omega⟩, HB⟩
      · rw [if_neg c6] at H
        have c6b0 : decide (x6 < 13) = false := decide_eq_false c6
        obtain rfl := Option.some.inj H
        go_wp2
        go_ret
        exact ⟨rfl, HB.out⟩
end Go.Proofs.YtkemkpmcgeeieaaDoor.Rom
