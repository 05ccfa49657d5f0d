/- Contracts of style.May and its reference. -/
import Derived.Test.YtpcpjlbfhbicaaaTry4
import Derived.Outline
namespace Go.Proofs.Ytpcpjlbfhbicaaa.PStyleProps
open Go.RowKit Go.Proofs.YtpcpjlbfhbicaaaW.PrintWords Go.Proofs.YtpcpjlbfhbicaaaW.PrintLast Go.Proofs.YtpcpjlbfhbicaaaW.PrintMore
set_option linter.unusedVariables false
set_option linter.unusedSimpArgs false

/-- Does a test hold of so many numbers on, one behind the other? -/
def mayF (f : Int → Bool) : Nat → Int → Bool
  | 0, _ => true
  | d + 1, n => f n && mayF f d (n + 1)
theorem mayF_congr {f g : Int → Bool} : ∀ (d : Nat) (n : Int), (∀ j, n ≤ j → j < n + d → f j = g j) → mayF f d n = mayF g d n
  | 0, _, _ => rfl
  | d + 1, n, h => by
    simp only [mayF]
    rw [h n (by omega) (by omega), mayF_congr d (n + 1) (fun j h0 h1 => h j (by omega) (by omega))]
set_option maxHeartbeats 4000000 in
set_option maxRecDepth 100000 in
theorem may_any (p0 p1 p2 p3 p4 p5 p6 p7 p8 p9 p10 p11 p12 p13 p14 p15 p16 : Int) (w : World) : Calls Try.prog 12 #[.agg #[.int .i64 p0, .int .i64 p1, .int .i64 p2, .int .i64 p3, .int .i64 p4, .int .i64 p5, .int .i64 p6, .int .i64 p7, .int .i64 p8, .int .i64 p9, .int .i64 p10, .int .i64 p11, .int .i64 p12, .int .i64 p13, .int .i64 p14, .int .i64 p15, .int .i64 p16]] w fun e w' => e = .returned (.bool (mayF (fun j => fitB j (pv p0 p1 p2 p3 p4 p5 p6 p7 p8 p9 p10 p11 p12 p13 p14 p15 p16 j)) 17 1)) ∧ Below w.heap.size w w' := by
  have hu := Try.underlying23
  have hu2 := Try.underlying37
  obtain ⟨r, hr⟩ : ∃ r, Aside0 (mayF (fun j => fitB j (pv p0 p1 p2 p3 p4 p5 p6 p7 p8 p9 p10 p11 p12 p13 p14 p15 p16 j)) 17 1 = r) := ⟨_, ⟨rfl⟩⟩
  rw [hr.out]
  go_enter Try.func12, Try.ntmps12
  go_wp2_with (first | ((with_reducible refine gate_dst (N := 1) rfl ?_); refine box_event ?hg (N := 1) ?hd (cs := #[.int .i64 p0, .int .i64 p1, .int .i64 p2, .int .i64 p3, .int .i64 p4, .int .i64 p5, .int .i64 p6, .int .i64 p7, .int .i64 p8, .int .i64 p9, .int .i64 p10, .int .i64 p11, .int .i64 p12, .int .i64 p13, .int .i64 p14, .int .i64 p15, .int .i64 p16]) (t := 23) ?hr ?_; (case hd => rfl); (case hg => rfl); (case hr => first | (go_simp; done) | (go_simp; rfl)); intro g1 hg w1 hbox hb; have HB := Aside0.mk hb; have BK := Aside0.mk hbox; have GE1 : Aside0 (w.heap.size ≤ g1) := ⟨by rw [hg]; exact Nat.le_refl _⟩; clear hb hbox hg))
  go_loopg [3] 17 (fun kq v3 w' => ∃ n : Int, v3 = .int .i64 n ∧ Aside0 (1 ≤ n ∧ n + kq = 18) ∧ Aside0 (mayF (fun j => fitB j (pv p0 p1 p2 p3 p4 p5 p6 p7 p8 p9 p10 p11 p12 p13 p14 p15 p16 j)) kq n = r) ∧ Aside0 (w'.heap[g1]? = some (.cells #[.int .i64 p0, .int .i64 p1, .int .i64 p2, .int .i64 p3, .int .i64 p4, .int .i64 p5, .int .i64 p6, .int .i64 p7, .int .i64 p8, .int .i64 p9, .int .i64 p10, .int .i64 p11, .int .i64 p12, .int .i64 p13, .int .i64 p14, .int .i64 p15, .int .i64 p16] 23 (0, 0))) ∧ Aside0 (Below w.heap.size w w'))
  case atStart => exact ⟨1, rfl, ⟨by omega, by omega⟩, hr, BK, HB⟩
  case round =>
    clear hr HB BK
    obtain ⟨n, rfl, HK, HA, BK, HB⟩ := hrel
    cases gk with
    | zero =>
      have hk := HK.out
      obtain rfl : n = 18 := by omega
      have h := HA.out
      simp only [mayF] at h
      subst h
      clear HA hk
      go_wp2
      go_ret
      exact ⟨rfl, HB.out⟩
    | succ k1 =>
      have hk := HK.out
      have h := HA.out
      have h1 : 1 ≤ n := hk.1
      have h2 : n ≤ 17 := by omega
      have hle : decide (n ≤ 17) = true := decide_eq_true h2
      have HL := Aside0.mk (field_in (n := n) (h0 := h1) (h1 := h2))
      have ha := Aside0.mk (pv_at p0 p1 p2 p3 p4 p5 p6 p7 p8 p9 p10 p11 p12 p13 p14 p15 p16 n h1 h2)
      simp only [mayF] at h
      generalize pv p0 p1 p2 p3 p4 p5 p6 p7 p8 p9 p10 p11 p12 p13 p14 p15 p16 n = x at h ha
      have HF := Aside0.mk (fits_f n x)
      clear HA hk
      cases hb : fitB n x with
      | true =>
        rw [hb] at h HF
        have H' := Aside0.mk h
        clear h hb
        go_wp2_with (first | (go_at_call 38; refine (HL.out _ _).mono ?_; rintro e w3 ⟨o, ho, rfl, rfl⟩; have hz : wr.cell? ⟨g1, o, none⟩ = some (.int .i64 x) := (blk_cell BK.out _).trans (by rw [ho.out]; exact ha.out)) | (go_at_call 37; refine (style_fits.calls 20 _ _ _ _ HF.out).mono ?_; rintro e w4 ⟨rfl, hb⟩))
        go_roundg k1
        case measure => omega
        case rel => exact ⟨n + 1, rfl, ⟨by have := HK.out; omega, by have := HK.out; omega⟩, ⟨by have := H'.out; simpa using this⟩, ⟨blk_below BK.out hb⟩, ⟨below_step HB.out hb⟩⟩
      | false =>
        rw [hb] at h HF
        simp only [Bool.false_and] at h
        subst h
        clear hb
        go_wp2_with (first | (go_at_call 38; refine (HL.out _ _).mono ?_; rintro e w3 ⟨o, ho, rfl, rfl⟩; have hz : wr.cell? ⟨g1, o, none⟩ = some (.int .i64 x) := (blk_cell BK.out _).trans (by rw [ho.out]; exact ha.out)) | (go_at_call 37; refine (style_fits.calls 20 _ _ _ _ HF.out).mono ?_; rintro e w4 ⟨rfl, hb⟩))
        go_ret
        exact ⟨rfl, below_step HB.out hb⟩
end Go.Proofs.Ytpcpjlbfhbicaaa.PStyleProps
