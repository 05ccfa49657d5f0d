/- Contracts of style.field, Get and With (in range), for StyleProps; no condition but those in each theorem. -/
import Derived.StillTailTactics
import Derived.Deep.RegionWith
import Derived.Test.YtpcpjlbfhbicaaaPStylePropsx
import Derived.Outline
namespace Go.Proofs.Ytpcpjlbfhbicaaa.PStyleProps
open Go.RowKit Go.Proofs.YtpcpjlbfhbicaaaW.PrintWords Go.Proofs.YtpcpjlbfhbicaaaW.PrintLast Go.Proofs.YtpcpjlbfhbicaaaW.PrintMore
set_option linter.unusedVariables false
set_option linter.unusedSimpArgs false

def FPost (g : Nat) (n : Int) (w : World) (e : Ending) (w' : World) : Prop := ∃ o : Nat, Aside0 (o = (n - 1).toNat) ∧ e = .returned (.pointer (some ⟨g, o, none⟩)) ∧ w = w'
theorem range17 (n : Int) (h0 : 1 ≤ n) (h1 : n ≤ 17) : n = 1 ∨ n = 2 ∨ n = 3 ∨ n = 4 ∨ n = 5 ∨ n = 6 ∨ n = 7 ∨ n = 8 ∨ n = 9 ∨ n = 10 ∨ n = 11 ∨ n = 12 ∨ n = 13 ∨ n = 14 ∨ n = 15 ∨ n = 16 ∨ n = 17 := by omega
set_option maxHeartbeats 4000000 in
set_option maxRecDepth 100000 in
theorem field_in (g : Nat) (n : Int) (w : World) (h0 : 1 ≤ n) (h1 : n ≤ 17) : Calls Try.prog 38 #[.pointer (some ⟨g, 0, none⟩), .int .i64 n] w (FPost g n w) := by
  have hu := Try.underlying23
  rcases range17 n h0 h1 with rfl | rfl | rfl | rfl | rfl | rfl | rfl | rfl | rfl | rfl | rfl | rfl | rfl | rfl | rfl | rfl | rfl
  all_goals
    clear h0 h1
    go_enter Try.func38, Try.ntmps38
    go_wp2
    go_ret
    exact ⟨_, ⟨rfl⟩, rfl, rfl⟩
set_option maxHeartbeats 4000000 in
set_option maxRecDepth 100000 in
theorem field_out (g : Nat) (n : Int) (w : World) (h : n < 1 ∨ 17 < n) : Calls Try.prog 38 #[.pointer (some ⟨g, 0, none⟩), .int .i64 n] w fun e w' => e = .returned (.pointer none) ∧ w = w' := by
  have e1 : (n == 1) = false := beq_eq_false_iff_ne.mpr (by omega)
  have e2 : (n == 2) = false := beq_eq_false_iff_ne.mpr (by omega)
  have e3 : (n == 3) = false := beq_eq_false_iff_ne.mpr (by omega)
  have e4 : (n == 4) = false := beq_eq_false_iff_ne.mpr (by omega)
  have e5 : (n == 5) = false := beq_eq_false_iff_ne.mpr (by omega)
  have e6 : (n == 6) = false := beq_eq_false_iff_ne.mpr (by omega)
  have e7 : (n == 7) = false := beq_eq_false_iff_ne.mpr (by omega)
  have e8 : (n == 8) = false := beq_eq_false_iff_ne.mpr (by omega)
  have e9 : (n == 9) = false := beq_eq_false_iff_ne.mpr (by omega)
  have e10 : (n == 10) = false := beq_eq_false_iff_ne.mpr (by omega)
  have e11 : (n == 11) = false := beq_eq_false_iff_ne.mpr (by omega)
  have e12 : (n == 12) = false := beq_eq_false_iff_ne.mpr (by omega)
  have e13 : (n == 13) = false := beq_eq_false_iff_ne.mpr (by omega)
  have e14 : (n == 14) = false := beq_eq_false_iff_ne.mpr (by omega)
  have e15 : (n == 15) = false := beq_eq_false_iff_ne.mpr (by omega)
  have e16 : (n == 16) = false := beq_eq_false_iff_ne.mpr (by omega)
  have e17 : (n == 17) = false := beq_eq_false_iff_ne.mpr (by omega)
  clear h
  go_enter Try.func38, Try.ntmps38
  go_wp2
  go_ret
  exact ⟨rfl, rfl⟩

/-- The n-th of seventeen numbers. -/
def pv (p0 p1 p2 p3 p4 p5 p6 p7 p8 p9 p10 p11 p12 p13 p14 p15 p16 : Int) (n : Int) : Int := [p0, p1, p2, p3, p4, p5, p6, p7, p8, p9, p10, p11, p12, p13, p14, p15, p16].getD (n - 1).toNat 0
theorem pv_at (p0 p1 p2 p3 p4 p5 p6 p7 p8 p9 p10 p11 p12 p13 p14 p15 p16 : Int) (n : Int) (h0 : 1 ≤ n) (h1 : n ≤ 17) : (#[.int .i64 p0, .int .i64 p1, .int .i64 p2, .int .i64 p3, .int .i64 p4, .int .i64 p5, .int .i64 p6, .int .i64 p7, .int .i64 p8, .int .i64 p9, .int .i64 p10, .int .i64 p11, .int .i64 p12, .int .i64 p13, .int .i64 p14, .int .i64 p15, .int .i64 p16] : Array Value)[(n - 1).toNat]? = some (.int .i64 (pv p0 p1 p2 p3 p4 p5 p6 p7 p8 p9 p10 p11 p12 p13 p14 p15 p16 n)) := by
  rcases range17 n h0 h1 with rfl | rfl | rfl | rfl | rfl | rfl | rfl | rfl | rfl | rfl | rfl | rfl | rfl | rfl | rfl | rfl | rfl <;> rfl

set_option maxHeartbeats 4000000 in
set_option maxRecDepth 100000 in
theorem get_in (p0 p1 p2 p3 p4 p5 p6 p7 p8 p9 p10 p11 p12 p13 p14 p15 p16 n : Int) (w : World) (h0 : 1 ≤ n) (h1 : n ≤ 17) : Calls Try.prog 16 #[.agg #[.int .i64 p0, .int .i64 p1, .int .i64 p2, .int .i64 p3, .int .i64 p4, .int .i64 p5, .int .i64 p6, .int .i64 p7, .int .i64 p8, .int .i64 p9, .int .i64 p10, .int .i64 p11, .int .i64 p12, .int .i64 p13, .int .i64 p14, .int .i64 p15, .int .i64 p16], .int .i64 n] w fun e w' => e = .returned (.tuple #[.int .i64 (pv p0 p1 p2 p3 p4 p5 p6 p7 p8 p9 p10 p11 p12 p13 p14 p15 p16 n), .int .i64 0]) ∧ Below w.heap.size w w' := by
  have hu := Try.underlying23
  have ha := Aside0.mk (pv_at p0 p1 p2 p3 p4 p5 p6 p7 p8 p9 p10 p11 p12 p13 p14 p15 p16 n h0 h1)
  have HL := Aside0.mk (field_in (n := n) (h0 := h0) (h1 := h1))
  generalize pv p0 p1 p2 p3 p4 p5 p6 p7 p8 p9 p10 p11 p12 p13 p14 p15 p16 n = x at ha
  clear h0 h1
  go_enter Try.func16, Try.ntmps16
  go_wp2_with (first | ((with_reducible refine gate_dst (N := 2) rfl ?_); refine box_event ?hg (N := 2) ?hd (cs := #[.int .i64 p0, .int .i64 p1, .int .i64 p2, .int .i64 p3, .int .i64 p4, .int .i64 p5, .int .i64 p6, .int .i64 p7, .int .i64 p8, .int .i64 p9, .int .i64 p10, .int .i64 p11, .int .i64 p12, .int .i64 p13, .int .i64 p14, .int .i64 p15, .int .i64 p16]) (t := 23) ?hr ?_; (case hd => rfl); (case hg => rfl); (case hr => first | (go_simp; done) | (go_simp; rfl)); intro gb hg w2 hbox hb; have HB := Aside0.mk hb; have BK := Aside0.mk hbox; have GE : Aside0 (w.heap.size ≤ gb) := ⟨by rw [hg]; exact Nat.le_refl _⟩; clear hb hbox hg) | (go_at_call 38; refine (HL.out _ _).mono ?_; rintro e w3 ⟨o, ho, rfl, rfl⟩; have hz : w2.cell? ⟨gb, o, none⟩ = some (.int .i64 x) := (blk_cell BK.out _).trans (by rw [ho.out]; exact ha.out)))
  go_ret2
  exact ⟨rfl, HB.out⟩
set_option maxHeartbeats 4000000 in
set_option maxRecDepth 100000 in
theorem get_out (p0 p1 p2 p3 p4 p5 p6 p7 p8 p9 p10 p11 p12 p13 p14 p15 p16 n : Int) (w : World) (h : n < 1 ∨ 17 < n) : Calls Try.prog 16 #[.agg #[.int .i64 p0, .int .i64 p1, .int .i64 p2, .int .i64 p3, .int .i64 p4, .int .i64 p5, .int .i64 p6, .int .i64 p7, .int .i64 p8, .int .i64 p9, .int .i64 p10, .int .i64 p11, .int .i64 p12, .int .i64 p13, .int .i64 p14, .int .i64 p15, .int .i64 p16], .int .i64 n] w fun e w' => e = .returned (.tuple #[.int .i64 0, .int .i64 2]) ∧ Below w.heap.size w w' := by
  have hu := Try.underlying23
  have HL := Aside0.mk (field_out (n := n) (h := h))
  clear h
  go_enter Try.func16, Try.ntmps16
  go_wp2_with (first | ((with_reducible refine gate_dst (N := 2) rfl ?_); refine box_event ?hg (N := 2) ?hd (cs := #[.int .i64 p0, .int .i64 p1, .int .i64 p2, .int .i64 p3, .int .i64 p4, .int .i64 p5, .int .i64 p6, .int .i64 p7, .int .i64 p8, .int .i64 p9, .int .i64 p10, .int .i64 p11, .int .i64 p12, .int .i64 p13, .int .i64 p14, .int .i64 p15, .int .i64 p16]) (t := 23) ?hr ?_; (case hd => rfl); (case hg => rfl); (case hr => first | (go_simp; done) | (go_simp; rfl)); intro gb hg w2 hbox hb; have HB := Aside0.mk hb; have BK := Aside0.mk hbox; have GE : Aside0 (w.heap.size ≤ gb) := ⟨by rw [hg]; exact Nat.le_refl _⟩; clear hb hbox hg) | (go_at_call 38; refine (HL.out _ _).mono ?_; rintro e w3 ⟨rfl, rfl⟩))
  go_ret2
  exact ⟨rfl, HB.out⟩


/-- Seventeen numbers, the n-th put anew. -/
def pw (p0 p1 p2 p3 p4 p5 p6 p7 p8 p9 p10 p11 p12 p13 p14 p15 p16 : Int) (n v : Int) (j : Int) : Int := if j = n then v else pv p0 p1 p2 p3 p4 p5 p6 p7 p8 p9 p10 p11 p12 p13 p14 p15 p16 j
theorem set_as (p0 p1 p2 p3 p4 p5 p6 p7 p8 p9 p10 p11 p12 p13 p14 p15 p16 : Int) (n v : Int) (h0 : 1 ≤ n) (h1 : n ≤ 17) : (#[.int .i64 p0, .int .i64 p1, .int .i64 p2, .int .i64 p3, .int .i64 p4, .int .i64 p5, .int .i64 p6, .int .i64 p7, .int .i64 p8, .int .i64 p9, .int .i64 p10, .int .i64 p11, .int .i64 p12, .int .i64 p13, .int .i64 p14, .int .i64 p15, .int .i64 p16] : Array Value).setIfInBounds (n - 1).toNat (.int .i64 v) = #[.int .i64 (pw p0 p1 p2 p3 p4 p5 p6 p7 p8 p9 p10 p11 p12 p13 p14 p15 p16 n v 1), .int .i64 (pw p0 p1 p2 p3 p4 p5 p6 p7 p8 p9 p10 p11 p12 p13 p14 p15 p16 n v 2), .int .i64 (pw p0 p1 p2 p3 p4 p5 p6 p7 p8 p9 p10 p11 p12 p13 p14 p15 p16 n v 3), .int .i64 (pw p0 p1 p2 p3 p4 p5 p6 p7 p8 p9 p10 p11 p12 p13 p14 p15 p16 n v 4), .int .i64 (pw p0 p1 p2 p3 p4 p5 p6 p7 p8 p9 p10 p11 p12 p13 p14 p15 p16 n v 5), .int .i64 (pw p0 p1 p2 p3 p4 p5 p6 p7 p8 p9 p10 p11 p12 p13 p14 p15 p16 n v 6), .int .i64 (pw p0 p1 p2 p3 p4 p5 p6 p7 p8 p9 p10 p11 p12 p13 p14 p15 p16 n v 7), .int .i64 (pw p0 p1 p2 p3 p4 p5 p6 p7 p8 p9 p10 p11 p12 p13 p14 p15 p16 n v 8), .int .i64 (pw p0 p1 p2 p3 p4 p5 p6 p7 p8 p9 p10 p11 p12 p13 p14 p15 p16 n v 9), .int .i64 (pw p0 p1 p2 p3 p4 p5 p6 p7 p8 p9 p10 p11 p12 p13 p14 p15 p16 n v 10), .int .i64 (pw p0 p1 p2 p3 p4 p5 p6 p7 p8 p9 p10 p11 p12 p13 p14 p15 p16 n v 11), .int .i64 (pw p0 p1 p2 p3 p4 p5 p6 p7 p8 p9 p10 p11 p12 p13 p14 p15 p16 n v 12), .int .i64 (pw p0 p1 p2 p3 p4 p5 p6 p7 p8 p9 p10 p11 p12 p13 p14 p15 p16 n v 13), .int .i64 (pw p0 p1 p2 p3 p4 p5 p6 p7 p8 p9 p10 p11 p12 p13 p14 p15 p16 n v 14), .int .i64 (pw p0 p1 p2 p3 p4 p5 p6 p7 p8 p9 p10 p11 p12 p13 p14 p15 p16 n v 15), .int .i64 (pw p0 p1 p2 p3 p4 p5 p6 p7 p8 p9 p10 p11 p12 p13 p14 p15 p16 n v 16), .int .i64 (pw p0 p1 p2 p3 p4 p5 p6 p7 p8 p9 p10 p11 p12 p13 p14 p15 p16 n v 17)] := by
  rcases range17 n h0 h1 with rfl | rfl | rfl | rfl | rfl | rfl | rfl | rfl | rfl | rfl | rfl | rfl | rfl | rfl | rfl | rfl | rfl <;> rfl

/-- Values put into a block's cells, one behind the other. -/
def stAll (g : Nat) : List Value → Nat → World → World
  | [], _, w => w
  | v :: vs, i, w => stAll g vs (i + 1) (w.setCell ⟨g, i, none⟩ v)
theorem stAll_heap {g : Nat} {ty : TypeId} : ∀ (vs : List Value) (i : Nat) (w : World) (pre cs : List Value), w.heap[g]? = some (.cells (pre ++ cs).toArray ty (0, 0)) → pre.length = i → cs.length = vs.length → (stAll g vs i w).heap[g]? = some (.cells (pre ++ vs).toArray ty (0, 0))
  | [], i, w, pre, cs, h, hp, hc => by
    obtain rfl : cs = [] := List.length_eq_zero_iff.1 hc
    exact h
  | v :: vs, i, w, pre, c :: cs, h, hp, hc => by
    have h1 := blk_put (cs' := ((pre ++ [v]) ++ cs).toArray) h i v (by subst hp; simp)
    have h2 := stAll_heap vs (i + 1) _ (pre ++ [v]) cs h1 (by simp [hp]) (by simpa using hc)
    rw [show pre ++ v :: vs = (pre ++ [v]) ++ vs by simp]
    exact h2
theorem below_stAll {w : World} {g : Nat} (hg : w.heap.size ≤ g) : ∀ (vs : List Value) (i : Nat) (W : World), Below w.heap.size w W → Below w.heap.size w (stAll g vs i W)
  | [], _, _, h => h
  | v :: vs, i, W, h => below_stAll hg vs (i + 1) _ (below_set h hg)

set_option maxHeartbeats 4000000 in
set_option maxRecDepth 100000 in
theorem with_in (p0 p1 p2 p3 p4 p5 p6 p7 p8 p9 p10 p11 p12 p13 p14 p15 p16 n v : Int) (k : Nat) (w : World) (h0 : 1 ≤ n) (h1 : n ≤ 17) (hf : style_fits.f k n v = some true) : Calls Try.prog 17 #[.agg #[.int .i64 p0, .int .i64 p1, .int .i64 p2, .int .i64 p3, .int .i64 p4, .int .i64 p5, .int .i64 p6, .int .i64 p7, .int .i64 p8, .int .i64 p9, .int .i64 p10, .int .i64 p11, .int .i64 p12, .int .i64 p13, .int .i64 p14, .int .i64 p15, .int .i64 p16], .agg #[.int .i64 n, .int .i64 v]] w fun e w' => e = .returned (.tuple #[.agg #[.int .i64 (pw p0 p1 p2 p3 p4 p5 p6 p7 p8 p9 p10 p11 p12 p13 p14 p15 p16 n v 1), .int .i64 (pw p0 p1 p2 p3 p4 p5 p6 p7 p8 p9 p10 p11 p12 p13 p14 p15 p16 n v 2), .int .i64 (pw p0 p1 p2 p3 p4 p5 p6 p7 p8 p9 p10 p11 p12 p13 p14 p15 p16 n v 3), .int .i64 (pw p0 p1 p2 p3 p4 p5 p6 p7 p8 p9 p10 p11 p12 p13 p14 p15 p16 n v 4), .int .i64 (pw p0 p1 p2 p3 p4 p5 p6 p7 p8 p9 p10 p11 p12 p13 p14 p15 p16 n v 5), .int .i64 (pw p0 p1 p2 p3 p4 p5 p6 p7 p8 p9 p10 p11 p12 p13 p14 p15 p16 n v 6), .int .i64 (pw p0 p1 p2 p3 p4 p5 p6 p7 p8 p9 p10 p11 p12 p13 p14 p15 p16 n v 7), .int .i64 (pw p0 p1 p2 p3 p4 p5 p6 p7 p8 p9 p10 p11 p12 p13 p14 p15 p16 n v 8), .int .i64 (pw p0 p1 p2 p3 p4 p5 p6 p7 p8 p9 p10 p11 p12 p13 p14 p15 p16 n v 9), .int .i64 (pw p0 p1 p2 p3 p4 p5 p6 p7 p8 p9 p10 p11 p12 p13 p14 p15 p16 n v 10), .int .i64 (pw p0 p1 p2 p3 p4 p5 p6 p7 p8 p9 p10 p11 p12 p13 p14 p15 p16 n v 11), .int .i64 (pw p0 p1 p2 p3 p4 p5 p6 p7 p8 p9 p10 p11 p12 p13 p14 p15 p16 n v 12), .int .i64 (pw p0 p1 p2 p3 p4 p5 p6 p7 p8 p9 p10 p11 p12 p13 p14 p15 p16 n v 13), .int .i64 (pw p0 p1 p2 p3 p4 p5 p6 p7 p8 p9 p10 p11 p12 p13 p14 p15 p16 n v 14), .int .i64 (pw p0 p1 p2 p3 p4 p5 p6 p7 p8 p9 p10 p11 p12 p13 p14 p15 p16 n v 15), .int .i64 (pw p0 p1 p2 p3 p4 p5 p6 p7 p8 p9 p10 p11 p12 p13 p14 p15 p16 n v 16), .int .i64 (pw p0 p1 p2 p3 p4 p5 p6 p7 p8 p9 p10 p11 p12 p13 p14 p15 p16 n v 17)], .int .i64 0]) ∧ Below w.heap.size w w' := by
  have hu := Try.underlying23
  have hu2 := Try.underlying37
  have HF := Aside0.mk hf
  have ha := Aside0.mk (pv_at p0 p1 p2 p3 p4 p5 p6 p7 p8 p9 p10 p11 p12 p13 p14 p15 p16 n h0 h1)
  have hs := Aside0.mk (set_as p0 p1 p2 p3 p4 p5 p6 p7 p8 p9 p10 p11 p12 p13 p14 p15 p16 n v h0 h1)
  generalize pw p0 p1 p2 p3 p4 p5 p6 p7 p8 p9 p10 p11 p12 p13 p14 p15 p16 n v 1 = q0 at hs ⊢
  generalize pw p0 p1 p2 p3 p4 p5 p6 p7 p8 p9 p10 p11 p12 p13 p14 p15 p16 n v 2 = q1 at hs ⊢
  generalize pw p0 p1 p2 p3 p4 p5 p6 p7 p8 p9 p10 p11 p12 p13 p14 p15 p16 n v 3 = q2 at hs ⊢
  generalize pw p0 p1 p2 p3 p4 p5 p6 p7 p8 p9 p10 p11 p12 p13 p14 p15 p16 n v 4 = q3 at hs ⊢
  generalize pw p0 p1 p2 p3 p4 p5 p6 p7 p8 p9 p10 p11 p12 p13 p14 p15 p16 n v 5 = q4 at hs ⊢
  generalize pw p0 p1 p2 p3 p4 p5 p6 p7 p8 p9 p10 p11 p12 p13 p14 p15 p16 n v 6 = q5 at hs ⊢
  generalize pw p0 p1 p2 p3 p4 p5 p6 p7 p8 p9 p10 p11 p12 p13 p14 p15 p16 n v 7 = q6 at hs ⊢
  generalize pw p0 p1 p2 p3 p4 p5 p6 p7 p8 p9 p10 p11 p12 p13 p14 p15 p16 n v 8 = q7 at hs ⊢
  generalize pw p0 p1 p2 p3 p4 p5 p6 p7 p8 p9 p10 p11 p12 p13 p14 p15 p16 n v 9 = q8 at hs ⊢
  generalize pw p0 p1 p2 p3 p4 p5 p6 p7 p8 p9 p10 p11 p12 p13 p14 p15 p16 n v 10 = q9 at hs ⊢
  generalize pw p0 p1 p2 p3 p4 p5 p6 p7 p8 p9 p10 p11 p12 p13 p14 p15 p16 n v 11 = q10 at hs ⊢
  generalize pw p0 p1 p2 p3 p4 p5 p6 p7 p8 p9 p10 p11 p12 p13 p14 p15 p16 n v 12 = q11 at hs ⊢
  generalize pw p0 p1 p2 p3 p4 p5 p6 p7 p8 p9 p10 p11 p12 p13 p14 p15 p16 n v 13 = q12 at hs ⊢
  generalize pw p0 p1 p2 p3 p4 p5 p6 p7 p8 p9 p10 p11 p12 p13 p14 p15 p16 n v 14 = q13 at hs ⊢
  generalize pw p0 p1 p2 p3 p4 p5 p6 p7 p8 p9 p10 p11 p12 p13 p14 p15 p16 n v 15 = q14 at hs ⊢
  generalize pw p0 p1 p2 p3 p4 p5 p6 p7 p8 p9 p10 p11 p12 p13 p14 p15 p16 n v 16 = q15 at hs ⊢
  generalize pw p0 p1 p2 p3 p4 p5 p6 p7 p8 p9 p10 p11 p12 p13 p14 p15 p16 n v 17 = q16 at hs ⊢
  have HL := Aside0.mk (field_in (n := n) (h0 := h0) (h1 := h1))
  clear h0 h1 hf
  go_enter Try.func17, Try.ntmps17
  go_wp2_with (first | ((with_reducible refine gate_dst (N := 2) rfl ?_); refine box_event ?hg (N := 2) ?hd (cs := #[.int .i64 p0, .int .i64 p1, .int .i64 p2, .int .i64 p3, .int .i64 p4, .int .i64 p5, .int .i64 p6, .int .i64 p7, .int .i64 p8, .int .i64 p9, .int .i64 p10, .int .i64 p11, .int .i64 p12, .int .i64 p13, .int .i64 p14, .int .i64 p15, .int .i64 p16]) (t := 23) ?hr ?_; (case hd => rfl); (case hg => rfl); (case hr => first | (go_simp; done) | (go_simp; rfl)); intro g1 hg w1 hbox hb; have HB1 := Aside0.mk hb; have BK1 := Aside0.mk hbox; have GE1 : Aside0 (w.heap.size ≤ g1) := ⟨by rw [hg]; exact Nat.le_refl _⟩; clear hb hbox hg) | ((with_reducible refine gate_dst (N := 3) rfl ?_); refine box_event ?hg (N := 3) ?hd (cs := #[.int .i64 n, .int .i64 v]) (t := 37) ?hr ?_; (case hd => rfl); (case hg => rfl); (case hr => first | (go_simp; done) | (go_simp; rfl)); intro g2 hg w2 hbox hb; have HB2 := Aside0.mk (below_step HB1.out hb); have BK2 := Aside0.mk hbox; have GE2 : Aside0 (w.heap.size ≤ g2) := ⟨by rw [hg]; exact below_size HB1.out⟩; have N12 : Aside0 (g1 ≠ g2) := ⟨by rw [hg]; exact Nat.ne_of_lt (blk_lt BK1.out)⟩; have BK1b := Aside0.mk (blk_below BK1.out hb); clear hb hbox hg) | ((with_reducible refine gate_dst (N := 4) rfl ?_); refine box_event ?hg (N := 4) ?hd (cs := #[.int .i64 0, .int .i64 0, .int .i64 0, .int .i64 0, .int .i64 0, .int .i64 0, .int .i64 0, .int .i64 0, .int .i64 0, .int .i64 0, .int .i64 0, .int .i64 0, .int .i64 0, .int .i64 0, .int .i64 0, .int .i64 0, .int .i64 0]) (t := 23) ?hr ?_; (case hd => rfl); (case hg => rfl); (case hr => first | (go_simp; done) | (go_simp; rfl)); intro g3 hg w3 hbox hb; have HB3 := Aside0.mk (below_step HB2.out hb); have BK3 := Aside0.mk hbox; have GE3 : Aside0 (w.heap.size ≤ g3) := ⟨by rw [hg]; exact below_size HB2.out⟩; have N13 : Aside0 (g1 ≠ g3) := ⟨by rw [hg]; exact Nat.ne_of_lt (blk_lt BK1b.out)⟩; have N23 : Aside0 (g2 ≠ g3) := ⟨by rw [hg]; exact Nat.ne_of_lt (blk_lt BK2.out)⟩; have BK1c := Aside0.mk (blk_below BK1b.out hb); have BK2c := Aside0.mk (blk_below BK2.out hb); have hx0 : w3.cell? ⟨g2, 0, none⟩ = some (.int .i64 n) := (blk_cell BK2c.out 0).trans rfl; have hx1 : w3.cell? ⟨g2, 1, none⟩ = some (.int .i64 v) := (blk_cell BK2c.out 1).trans rfl; clear hb hbox hg) | (go_at_call 37; refine (style_fits.calls k _ _ _ _ HF.out).mono ?_; rintro e w4 ⟨rfl, hb⟩; have HB4 := Aside0.mk (below_step HB3.out hb); have BK1d := Aside0.mk (blk_below BK1c.out hb); have BK2d := Aside0.mk (blk_below BK2c.out hb); have BK3d := Aside0.mk (blk_below BK3.out hb); clear hb hx0 hx1; have hx0 : w4.cell? ⟨g2, 0, none⟩ = some (.int .i64 n) := (blk_cell BK2d.out 0).trans rfl; have hx1 : w4.cell? ⟨g2, 1, none⟩ = some (.int .i64 v) := (blk_cell BK2d.out 1).trans rfl))
  obtain ⟨o, ho⟩ : ∃ o : Nat, Aside0 (o = (n - 1).toNat) := ⟨_, ⟨rfl⟩⟩
  have HL2 : Aside0 (∀ (g : Nat) (w : World), Calls Try.prog 38 #[.pointer (some ⟨g, 0, none⟩), .int .i64 n] w fun e w' => e = .returned (.pointer (some ⟨g, o, none⟩)) ∧ w' = w) := ⟨fun g w => (HL.out g w).mono (by rintro e w' ⟨o', ho', rfl, rfl⟩; exact ⟨by rw [ho'.out, ho.out], rfl⟩)⟩
  have hz : w4.cell? ⟨g1, o, none⟩ = some (.int .i64 (pv p0 p1 p2 p3 p4 p5 p6 p7 p8 p9 p10 p11 p12 p13 p14 p15 p16 n)) := (blk_cell BK1d.out _).trans (by rw [ho.out]; exact ha.out)
  have hzf : w4.frozen? ⟨g1, o, none⟩ = false := blk_frozen BK1d.out o
  clear HL
  refine wp_region_still_tail 6 (by kernel_rfl) (by kernel_rfl) ?_
  simp only [List.take_succ_cons, List.take_zero, List.drop_succ_cons, List.drop_zero]
  still_step
  still_step
  still_call (HL2.out _ _)
  still_step
  still_step
  still_step
  refine wpStill_nil ?_
  change wpList _ _ _ _ _ w4.drew
  have tok : True := trivial
  go_wp2_with (((with_reducible refine gate_dst (N := 16) rfl ?_); have _t := tok; have BK1e : Aside0 ((w4.setCell { block := g1, off := o } (Value.int IntKind.i64 v)).drew.heap[g1]? = some (.cells #[.int .i64 q0, .int .i64 q1, .int .i64 q2, .int .i64 q3, .int .i64 q4, .int .i64 q5, .int .i64 q6, .int .i64 q7, .int .i64 q8, .int .i64 q9, .int .i64 q10, .int .i64 q11, .int .i64 q12, .int .i64 q13, .int .i64 q14, .int .i64 q15, .int .i64 q16] 23 (0, 0))) := ⟨blk_drew (blk_put BK1d.out o _ (by rw [ho.out]; exact hs.out))⟩; have BK3e : Aside0 ((w4.setCell { block := g1, off := o } (Value.int IntKind.i64 v)).drew.heap[g3]? = some (.cells #[.int .i64 0, .int .i64 0, .int .i64 0, .int .i64 0, .int .i64 0, .int .i64 0, .int .i64 0, .int .i64 0, .int .i64 0, .int .i64 0, .int .i64 0, .int .i64 0, .int .i64 0, .int .i64 0, .int .i64 0, .int .i64 0, .int .i64 0] 23 (0, 0))) := ⟨blk_drew (blk_far BK3d.out (Ne.symm N13.out) _)⟩; have HB5 : Aside0 (Below w.heap.size w (w4.setCell { block := g1, off := o } (Value.int IntKind.i64 v)).drew) := ⟨below_drew1 (below_set HB4.out GE1.out)⟩; clear tok hz hzf hx0 hx1; generalize (w4.setCell { block := g1, off := o } (Value.int IntKind.i64 v)).drew = w6 at BK1e BK3e HB5 ⊢; have c0 : w6.cell? ⟨g1, 0, none⟩ = some (.int .i64 q0) := (blk_cell BK1e.out 0).trans rfl; have d0 : w6.cell? ⟨g3, 0, none⟩ = some (.int .i64 0) := (blk_cell BK3e.out 0).trans rfl; have f0 := blk_frozen BK3e.out 0; have c1 : w6.cell? ⟨g1, 1, none⟩ = some (.int .i64 q1) := (blk_cell BK1e.out 1).trans rfl; have d1 : w6.cell? ⟨g3, 1, none⟩ = some (.int .i64 0) := (blk_cell BK3e.out 1).trans rfl; have f1 := blk_frozen BK3e.out 1; have c2 : w6.cell? ⟨g1, 2, none⟩ = some (.int .i64 q2) := (blk_cell BK1e.out 2).trans rfl; have d2 : w6.cell? ⟨g3, 2, none⟩ = some (.int .i64 0) := (blk_cell BK3e.out 2).trans rfl; have f2 := blk_frozen BK3e.out 2; have c3 : w6.cell? ⟨g1, 3, none⟩ = some (.int .i64 q3) := (blk_cell BK1e.out 3).trans rfl; have d3 : w6.cell? ⟨g3, 3, none⟩ = some (.int .i64 0) := (blk_cell BK3e.out 3).trans rfl; have f3 := blk_frozen BK3e.out 3; have c4 : w6.cell? ⟨g1, 4, none⟩ = some (.int .i64 q4) := (blk_cell BK1e.out 4).trans rfl; have d4 : w6.cell? ⟨g3, 4, none⟩ = some (.int .i64 0) := (blk_cell BK3e.out 4).trans rfl; have f4 := blk_frozen BK3e.out 4; have c5 : w6.cell? ⟨g1, 5, none⟩ = some (.int .i64 q5) := (blk_cell BK1e.out 5).trans rfl; have d5 : w6.cell? ⟨g3, 5, none⟩ = some (.int .i64 0) := (blk_cell BK3e.out 5).trans rfl; have f5 := blk_frozen BK3e.out 5; have c6 : w6.cell? ⟨g1, 6, none⟩ = some (.int .i64 q6) := (blk_cell BK1e.out 6).trans rfl; have d6 : w6.cell? ⟨g3, 6, none⟩ = some (.int .i64 0) := (blk_cell BK3e.out 6).trans rfl; have f6 := blk_frozen BK3e.out 6; have c7 : w6.cell? ⟨g1, 7, none⟩ = some (.int .i64 q7) := (blk_cell BK1e.out 7).trans rfl; have d7 : w6.cell? ⟨g3, 7, none⟩ = some (.int .i64 0) := (blk_cell BK3e.out 7).trans rfl; have f7 := blk_frozen BK3e.out 7; have c8 : w6.cell? ⟨g1, 8, none⟩ = some (.int .i64 q8) := (blk_cell BK1e.out 8).trans rfl; have d8 : w6.cell? ⟨g3, 8, none⟩ = some (.int .i64 0) := (blk_cell BK3e.out 8).trans rfl; have f8 := blk_frozen BK3e.out 8; have c9 : w6.cell? ⟨g1, 9, none⟩ = some (.int .i64 q9) := (blk_cell BK1e.out 9).trans rfl; have d9 : w6.cell? ⟨g3, 9, none⟩ = some (.int .i64 0) := (blk_cell BK3e.out 9).trans rfl; have f9 := blk_frozen BK3e.out 9; have c10 : w6.cell? ⟨g1, 10, none⟩ = some (.int .i64 q10) := (blk_cell BK1e.out 10).trans rfl; have d10 : w6.cell? ⟨g3, 10, none⟩ = some (.int .i64 0) := (blk_cell BK3e.out 10).trans rfl; have f10 := blk_frozen BK3e.out 10; have c11 : w6.cell? ⟨g1, 11, none⟩ = some (.int .i64 q11) := (blk_cell BK1e.out 11).trans rfl; have d11 : w6.cell? ⟨g3, 11, none⟩ = some (.int .i64 0) := (blk_cell BK3e.out 11).trans rfl; have f11 := blk_frozen BK3e.out 11; have c12 : w6.cell? ⟨g1, 12, none⟩ = some (.int .i64 q12) := (blk_cell BK1e.out 12).trans rfl; have d12 : w6.cell? ⟨g3, 12, none⟩ = some (.int .i64 0) := (blk_cell BK3e.out 12).trans rfl; have f12 := blk_frozen BK3e.out 12; have c13 : w6.cell? ⟨g1, 13, none⟩ = some (.int .i64 q13) := (blk_cell BK1e.out 13).trans rfl; have d13 : w6.cell? ⟨g3, 13, none⟩ = some (.int .i64 0) := (blk_cell BK3e.out 13).trans rfl; have f13 := blk_frozen BK3e.out 13; have c14 : w6.cell? ⟨g1, 14, none⟩ = some (.int .i64 q14) := (blk_cell BK1e.out 14).trans rfl; have d14 : w6.cell? ⟨g3, 14, none⟩ = some (.int .i64 0) := (blk_cell BK3e.out 14).trans rfl; have f14 := blk_frozen BK3e.out 14; have c15 : w6.cell? ⟨g1, 15, none⟩ = some (.int .i64 q15) := (blk_cell BK1e.out 15).trans rfl; have d15 : w6.cell? ⟨g3, 15, none⟩ = some (.int .i64 0) := (blk_cell BK3e.out 15).trans rfl; have f15 := blk_frozen BK3e.out 15; have c16 : w6.cell? ⟨g1, 16, none⟩ = some (.int .i64 q16) := (blk_cell BK1e.out 16).trans rfl; have d16 : w6.cell? ⟨g3, 16, none⟩ = some (.int .i64 0) := (blk_cell BK3e.out 16).trans rfl; have f16 := blk_frozen BK3e.out 16))
  have HB7 : Aside0 (Below w.heap.size w (stAll g3 [.int .i64 q0, .int .i64 q1, .int .i64 q2, .int .i64 q3, .int .i64 q4, .int .i64 q5, .int .i64 q6, .int .i64 q7, .int .i64 q8, .int .i64 q9, .int .i64 q10, .int .i64 q11, .int .i64 q12, .int .i64 q13, .int .i64 q14, .int .i64 q15, .int .i64 q16] 0 w6)) := ⟨below_stAll GE3.out _ _ _ HB5.out⟩
  have BK7 : Aside0 ((stAll g3 [.int .i64 q0, .int .i64 q1, .int .i64 q2, .int .i64 q3, .int .i64 q4, .int .i64 q5, .int .i64 q6, .int .i64 q7, .int .i64 q8, .int .i64 q9, .int .i64 q10, .int .i64 q11, .int .i64 q12, .int .i64 q13, .int .i64 q14, .int .i64 q15, .int .i64 q16] 0 w6).heap[g3]? = some (.cells #[.int .i64 q0, .int .i64 q1, .int .i64 q2, .int .i64 q3, .int .i64 q4, .int .i64 q5, .int .i64 q6, .int .i64 q7, .int .i64 q8, .int .i64 q9, .int .i64 q10, .int .i64 q11, .int .i64 q12, .int .i64 q13, .int .i64 q14, .int .i64 q15, .int .i64 q16] 23 (0, 0))) := ⟨stAll_heap _ 0 w6 [] [.int .i64 0, .int .i64 0, .int .i64 0, .int .i64 0, .int .i64 0, .int .i64 0, .int .i64 0, .int .i64 0, .int .i64 0, .int .i64 0, .int .i64 0, .int .i64 0, .int .i64 0, .int .i64 0, .int .i64 0, .int .i64 0, .int .i64 0] BK3e.out rfl rfl⟩
  clear c0 d0 f0 c1 d1 f1 c2 d2 f2 c3 d3 f3 c4 d4 f4 c5 d5 f5 c6 d6 f6 c7 d7 f7 c8 d8 f8 c9 d9 f9 c10 d10 f10 c11 d11 f11 c12 d12 f12 c13 d13 f13 c14 d14 f14 c15 d15 f15 c16 d16 f16 hs ha
  change bodyPost _ _ _ _ _ (stAll g3 [.int .i64 q0, .int .i64 q1, .int .i64 q2, .int .i64 q3, .int .i64 q4, .int .i64 q5, .int .i64 q6, .int .i64 q7, .int .i64 q8, .int .i64 q9, .int .i64 q10, .int .i64 q11, .int .i64 q12, .int .i64 q13, .int .i64 q14, .int .i64 q15, .int .i64 q16] 0 w6)
  generalize (stAll g3 [.int .i64 q0, .int .i64 q1, .int .i64 q2, .int .i64 q3, .int .i64 q4, .int .i64 q5, .int .i64 q6, .int .i64 q7, .int .i64 q8, .int .i64 q9, .int .i64 q10, .int .i64 q11, .int .i64 q12, .int .i64 q13, .int .i64 q14, .int .i64 q15, .int .i64 q16] 0 w6) = w7 at HB7 BK7 ⊢
  refine bodyPost_ret (results_ct rfl _ _ g3 23 #[.int .i64 q0, .int .i64 q1, .int .i64 q2, .int .i64 q3, .int .i64 q4, .int .i64 q5, .int .i64 q6, .int .i64 q7, .int .i64 q8, .int .i64 q9, .int .i64 q10, .int .i64 q11, .int .i64 q12, .int .i64 q13, .int .i64 q14, .int .i64 q15, .int .i64 q16] (0, 0) _ rfl BK7.out Try.underlying23 rfl (by kernel_rfl)) rfl ?_
  exact ⟨rfl, HB7.out⟩
end Go.Proofs.Ytpcpjlbfhbicaaa.PStyleProps
