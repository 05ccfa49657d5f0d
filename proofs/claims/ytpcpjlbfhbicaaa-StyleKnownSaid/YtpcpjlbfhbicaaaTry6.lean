/- Contracts of quireref03.Of and May. -/
import Derived.Test.YtpcpjlbfhbicaaaTry5
import Derived.Outline
namespace Go.Proofs.Ytpcpjlbfhbicaaa.PStyleProps
open Go.RowKit Go.Proofs.YtpcpjlbfhbicaaaW.PrintWords Go.Proofs.YtpcpjlbfhbicaaaW.PrintLast Go.Proofs.YtpcpjlbfhbicaaaW.PrintMore
set_option linter.unusedVariables false
set_option linter.unusedSimpArgs false
set_option maxHeartbeats 4000000 in
set_option maxRecDepth 100000 in
theorem rmay_any (p0 p1 p2 p3 p4 p5 p6 p7 p8 p9 p10 p11 p12 p13 p14 p15 p16 : Int) (w : World) : Calls Try.prog 13 #[.agg #[.int .i64 p0, .int .i64 p1, .int .i64 p2, .int .i64 p3, .int .i64 p4, .int .i64 p5, .int .i64 p6, .int .i64 p7, .int .i64 p8, .int .i64 p9, .int .i64 p10, .int .i64 p11, .int .i64 p12, .int .i64 p13, .int .i64 p14, .int .i64 p15, .int .i64 p16]] w fun e w' => e = .returned (.bool (mayF (fun j => fitB j (pv p0 p1 p2 p3 p4 p5 p6 p7 p8 p9 p10 p11 p12 p13 p14 p15 p16 j)) 17 1)) ∧ Below w.heap.size w w' := by
  have hu := Try.underlying23
  have hu2 := Try.underlying38
  obtain ⟨r, hr⟩ : ∃ r, Aside0 (mayF (fun j => fitB j (pv p0 p1 p2 p3 p4 p5 p6 p7 p8 p9 p10 p11 p12 p13 p14 p15 p16 j)) 17 1 = r) := ⟨_, ⟨rfl⟩⟩
  rw [hr.out]
  go_enter Try.func13, Try.ntmps13
  go_wp2_with (first | ((with_reducible refine gate_dst (N := 1) rfl ?_); refine box_event ?hg (N := 1) ?hd (cs := #[.int .i64 p0, .int .i64 p1, .int .i64 p2, .int .i64 p3, .int .i64 p4, .int .i64 p5, .int .i64 p6, .int .i64 p7, .int .i64 p8, .int .i64 p9, .int .i64 p10, .int .i64 p11, .int .i64 p12, .int .i64 p13, .int .i64 p14, .int .i64 p15, .int .i64 p16]) (t := 23) ?hr ?_; (case hd => rfl); (case hg => rfl); (case hr => first | (go_simp; done) | (go_simp; rfl)); intro g1 hg w1 hbox hb; have HB1 := Aside0.mk hb; have BK1 := Aside0.mk hbox; have GE1 : Aside0 (w.heap.size ≤ g1) := ⟨by rw [hg]; exact Nat.le_refl _⟩; have c0 : w1.cell? ⟨g1, 0, none⟩ = some (.int .i64 p0) := (blk_cell BK1.out 0).trans rfl; have cf0 := blk_frozen BK1.out 0; have c1 : w1.cell? ⟨g1, 1, none⟩ = some (.int .i64 p1) := (blk_cell BK1.out 1).trans rfl; have cf1 := blk_frozen BK1.out 1; have c2 : w1.cell? ⟨g1, 2, none⟩ = some (.int .i64 p2) := (blk_cell BK1.out 2).trans rfl; have cf2 := blk_frozen BK1.out 2; have c3 : w1.cell? ⟨g1, 3, none⟩ = some (.int .i64 p3) := (blk_cell BK1.out 3).trans rfl; have cf3 := blk_frozen BK1.out 3; have c4 : w1.cell? ⟨g1, 4, none⟩ = some (.int .i64 p4) := (blk_cell BK1.out 4).trans rfl; have cf4 := blk_frozen BK1.out 4; have c5 : w1.cell? ⟨g1, 5, none⟩ = some (.int .i64 p5) := (blk_cell BK1.out 5).trans rfl; have cf5 := blk_frozen BK1.out 5; have c6 : w1.cell? ⟨g1, 6, none⟩ = some (.int .i64 p6) := (blk_cell BK1.out 6).trans rfl; have cf6 := blk_frozen BK1.out 6; have c7 : w1.cell? ⟨g1, 7, none⟩ = some (.int .i64 p7) := (blk_cell BK1.out 7).trans rfl; have cf7 := blk_frozen BK1.out 7; have c8 : w1.cell? ⟨g1, 8, none⟩ = some (.int .i64 p8) := (blk_cell BK1.out 8).trans rfl; have cf8 := blk_frozen BK1.out 8; have c9 : w1.cell? ⟨g1, 9, none⟩ = some (.int .i64 p9) := (blk_cell BK1.out 9).trans rfl; have cf9 := blk_frozen BK1.out 9; have c10 : w1.cell? ⟨g1, 10, none⟩ = some (.int .i64 p10) := (blk_cell BK1.out 10).trans rfl; have cf10 := blk_frozen BK1.out 10; have c11 : w1.cell? ⟨g1, 11, none⟩ = some (.int .i64 p11) := (blk_cell BK1.out 11).trans rfl; have cf11 := blk_frozen BK1.out 11; have c12 : w1.cell? ⟨g1, 12, none⟩ = some (.int .i64 p12) := (blk_cell BK1.out 12).trans rfl; have cf12 := blk_frozen BK1.out 12; have c13 : w1.cell? ⟨g1, 13, none⟩ = some (.int .i64 p13) := (blk_cell BK1.out 13).trans rfl; have cf13 := blk_frozen BK1.out 13; have c14 : w1.cell? ⟨g1, 14, none⟩ = some (.int .i64 p14) := (blk_cell BK1.out 14).trans rfl; have cf14 := blk_frozen BK1.out 14; have c15 : w1.cell? ⟨g1, 15, none⟩ = some (.int .i64 p15) := (blk_cell BK1.out 15).trans rfl; have cf15 := blk_frozen BK1.out 15; have c16 : w1.cell? ⟨g1, 16, none⟩ = some (.int .i64 p16) := (blk_cell BK1.out 16).trans rfl; have cf16 := blk_frozen BK1.out 16; clear hb hbox hg) | (go_at_call 18; refine (all_any p0 p1 p2 p3 p4 p5 p6 p7 p8 p9 p10 p11 p12 p13 p14 p15 p16 _).mono ?_; rintro e w2 ⟨rfl, hb⟩; have HB2 := Aside0.mk (below_step HB1.out hb); clear hb) | ((with_reducible refine gate_dst (N := 3) rfl ?_); refine box_event ?hg (N := 3) ?hd (cs := #[.int .i64 0, .int .i64 0, .int .i64 0, .int .i64 0, .int .i64 0, .int .i64 0, .int .i64 0, .int .i64 0, .int .i64 0, .int .i64 0, .int .i64 0, .int .i64 0, .int .i64 0, .int .i64 0, .int .i64 0, .int .i64 0, .int .i64 0]) (t := 38) ?hr ?_; (case hd => rfl); (case hg => rfl); (case hr => first | (go_simp; done) | (go_simp; rfl)); intro g3 hg w3 hbox hb; have HB3 := Aside0.mk (below_step HB2.out hb); have BK3 := Aside0.mk hbox; have GE3 : Aside0 (w.heap.size ≤ g3) := ⟨by rw [hg]; exact below_size HB2.out⟩; have d0 : w3.cell? ⟨g3, 0, none⟩ = some (.int .i64 0) := (blk_cell BK3.out 0).trans rfl; have df0 := blk_frozen BK3.out 0; have d1 : w3.cell? ⟨g3, 1, none⟩ = some (.int .i64 0) := (blk_cell BK3.out 1).trans rfl; have df1 := blk_frozen BK3.out 1; have d2 : w3.cell? ⟨g3, 2, none⟩ = some (.int .i64 0) := (blk_cell BK3.out 2).trans rfl; have df2 := blk_frozen BK3.out 2; have d3 : w3.cell? ⟨g3, 3, none⟩ = some (.int .i64 0) := (blk_cell BK3.out 3).trans rfl; have df3 := blk_frozen BK3.out 3; have d4 : w3.cell? ⟨g3, 4, none⟩ = some (.int .i64 0) := (blk_cell BK3.out 4).trans rfl; have df4 := blk_frozen BK3.out 4; have d5 : w3.cell? ⟨g3, 5, none⟩ = some (.int .i64 0) := (blk_cell BK3.out 5).trans rfl; have df5 := blk_frozen BK3.out 5; have d6 : w3.cell? ⟨g3, 6, none⟩ = some (.int .i64 0) := (blk_cell BK3.out 6).trans rfl; have df6 := blk_frozen BK3.out 6; have d7 : w3.cell? ⟨g3, 7, none⟩ = some (.int .i64 0) := (blk_cell BK3.out 7).trans rfl; have df7 := blk_frozen BK3.out 7; have d8 : w3.cell? ⟨g3, 8, none⟩ = some (.int .i64 0) := (blk_cell BK3.out 8).trans rfl; have df8 := blk_frozen BK3.out 8; have d9 : w3.cell? ⟨g3, 9, none⟩ = some (.int .i64 0) := (blk_cell BK3.out 9).trans rfl; have df9 := blk_frozen BK3.out 9; have d10 : w3.cell? ⟨g3, 10, none⟩ = some (.int .i64 0) := (blk_cell BK3.out 10).trans rfl; have df10 := blk_frozen BK3.out 10; have d11 : w3.cell? ⟨g3, 11, none⟩ = some (.int .i64 0) := (blk_cell BK3.out 11).trans rfl; have df11 := blk_frozen BK3.out 11; have d12 : w3.cell? ⟨g3, 12, none⟩ = some (.int .i64 0) := (blk_cell BK3.out 12).trans rfl; have df12 := blk_frozen BK3.out 12; have d13 : w3.cell? ⟨g3, 13, none⟩ = some (.int .i64 0) := (blk_cell BK3.out 13).trans rfl; have df13 := blk_frozen BK3.out 13; have d14 : w3.cell? ⟨g3, 14, none⟩ = some (.int .i64 0) := (blk_cell BK3.out 14).trans rfl; have df14 := blk_frozen BK3.out 14; have d15 : w3.cell? ⟨g3, 15, none⟩ = some (.int .i64 0) := (blk_cell BK3.out 15).trans rfl; have df15 := blk_frozen BK3.out 15; have d16 : w3.cell? ⟨g3, 16, none⟩ = some (.int .i64 0) := (blk_cell BK3.out 16).trans rfl; have df16 := blk_frozen BK3.out 16; clear hb hbox hg))
  have HB7 : Aside0 (Below w.heap.size w (stAll g3 [.int .i64 p0, .int .i64 p1, .int .i64 p2, .int .i64 p3, .int .i64 p4, .int .i64 p5, .int .i64 p6, .int .i64 p7, .int .i64 p8, .int .i64 p9, .int .i64 p10, .int .i64 p11, .int .i64 p12, .int .i64 p13, .int .i64 p14, .int .i64 p15, .int .i64 p16] 0 w3)) := ⟨below_stAll GE3.out _ _ _ HB3.out⟩
  have BK7 : Aside0 ((stAll g3 [.int .i64 p0, .int .i64 p1, .int .i64 p2, .int .i64 p3, .int .i64 p4, .int .i64 p5, .int .i64 p6, .int .i64 p7, .int .i64 p8, .int .i64 p9, .int .i64 p10, .int .i64 p11, .int .i64 p12, .int .i64 p13, .int .i64 p14, .int .i64 p15, .int .i64 p16] 0 w3).heap[g3]? = some (.cells #[.int .i64 p0, .int .i64 p1, .int .i64 p2, .int .i64 p3, .int .i64 p4, .int .i64 p5, .int .i64 p6, .int .i64 p7, .int .i64 p8, .int .i64 p9, .int .i64 p10, .int .i64 p11, .int .i64 p12, .int .i64 p13, .int .i64 p14, .int .i64 p15, .int .i64 p16] 38 (0, 0))) := ⟨stAll_heap _ 0 w3 [] [.int .i64 0, .int .i64 0, .int .i64 0, .int .i64 0, .int .i64 0, .int .i64 0, .int .i64 0, .int .i64 0, .int .i64 0, .int .i64 0, .int .i64 0, .int .i64 0, .int .i64 0, .int .i64 0, .int .i64 0, .int .i64 0, .int .i64 0] BK3.out rfl rfl⟩
  change Code.wp _ _ _ _ (stAll g3 [.int .i64 p0, .int .i64 p1, .int .i64 p2, .int .i64 p3, .int .i64 p4, .int .i64 p5, .int .i64 p6, .int .i64 p7, .int .i64 p8, .int .i64 p9, .int .i64 p10, .int .i64 p11, .int .i64 p12, .int .i64 p13, .int .i64 p14, .int .i64 p15, .int .i64 p16] 0 w3)
  generalize (stAll g3 [.int .i64 p0, .int .i64 p1, .int .i64 p2, .int .i64 p3, .int .i64 p4, .int .i64 p5, .int .i64 p6, .int .i64 p7, .int .i64 p8, .int .i64 p9, .int .i64 p10, .int .i64 p11, .int .i64 p12, .int .i64 p13, .int .i64 p14, .int .i64 p15, .int .i64 p16] 0 w3) = w7 at HB7 BK7 ⊢
  clear d0 df0 d1 df1 d2 df2 d3 df3 d4 df4 d5 df5 d6 df6 d7 df7 d8 df8 d9 df9 d10 df10 d11 df11 d12 df12 d13 df13 d14 df14 d15 df15 d16 df16
  go_loopg [4] 17 (fun kq v4 w' => ∃ n : Int, v4 = .int .i64 n ∧ Aside0 (0 ≤ n ∧ n + kq = 17) ∧ Aside0 (mayF (fun j => fitB j (pv p0 p1 p2 p3 p4 p5 p6 p7 p8 p9 p10 p11 p12 p13 p14 p15 p16 j)) kq (n + 1) = r) ∧ Aside0 (w'.heap[g3]? = some (.cells #[.int .i64 p0, .int .i64 p1, .int .i64 p2, .int .i64 p3, .int .i64 p4, .int .i64 p5, .int .i64 p6, .int .i64 p7, .int .i64 p8, .int .i64 p9, .int .i64 p10, .int .i64 p11, .int .i64 p12, .int .i64 p13, .int .i64 p14, .int .i64 p15, .int .i64 p16] 38 (0, 0))) ∧ Aside0 (Below w.heap.size w w'))
  case atStart => exact ⟨0, rfl, ⟨by omega, by omega⟩, hr, BK7, HB7⟩
  case round =>
    clear hr HB7 BK7 HB1 HB2 HB3
    obtain ⟨n, rfl, HK, HA, BK, HB⟩ := hrel
    cases gk with
    | zero =>
      have hk := HK.out
      obtain rfl : n = 17 := by omega
      have h := HA.out
      simp only [mayF] at h
      subst h
      clear HA hk
      go_wp2
      go_ret
      exact ⟨rfl, HB.out⟩
    | succ k1 =>
      have hk := HK.out
      have h := HA.out
      have h1 : 0 ≤ n := hk.1
      have h2 : n < 17 := by omega
      have hlt : decide (n < 17) = true := decide_eq_true h2
      have ha0 := pv_at p0 p1 p2 p3 p4 p5 p6 p7 p8 p9 p10 p11 p12 p13 p14 p15 p16 (n + 1) (by omega) (by omega)
      rw [show n + 1 - 1 = n by omega] at ha0
      have hz : wr.cell? ⟨g3, n.toNat, none⟩ = some (.int .i64 (pv p0 p1 p2 p3 p4 p5 p6 p7 p8 p9 p10 p11 p12 p13 p14 p15 p16 (n + 1))) := (blk_cell BK.out _).trans ha0
      clear ha0
      simp only [mayF] at h
      generalize pv p0 p1 p2 p3 p4 p5 p6 p7 p8 p9 p10 p11 p12 p13 p14 p15 p16 (n + 1) = x at h hz
      have HF := Aside0.mk (bounds_in (n + 1) (by omega) (by omega)).2
      have hfb : fitB (n + 1) x = (decide (lo (n + 1) ≤ x) && decide (x ≤ hi (n + 1))) := by unfold fitB; rw [decide_eq_true (by omega : 1 ≤ n + 1), decide_eq_true (by omega : n + 1 ≤ 17)]; rfl
      rw [hfb] at h
      clear hfb
      generalize lo (n + 1) = a at h HF
      generalize hi (n + 1) = b at h HF
      clear HA hk
      by_cases c1 : x < a
      · have c1b : decide (x < a) = true := decide_eq_true c1
        rw [decide_eq_false (by omega)] at h
        simp only [Bool.false_and] at h
        subst h
        go_wp2_with (first | (go_at_call 11; refine (quireref03_Bounds.calls 20 _ _ _ _ _ HF.out).mono ?_; rintro e w4 ⟨rfl, ⟨nd, rfl⟩⟩))
        go_ret
        exact ⟨rfl, pw_below_drewN HB.out _⟩
      · have c1b : decide (x < a) = false := decide_eq_false c1
        rw [decide_eq_true (by omega : a ≤ x)] at h
        simp only [Bool.true_and] at h
        by_cases c2 : b < x
        · have c2b : decide (b < x) = true := decide_eq_true c2
          rw [decide_eq_false (by omega)] at h
          simp only [Bool.false_and] at h
          subst h
          go_wp2_with (first | (go_at_call 11; refine (quireref03_Bounds.calls 20 _ _ _ _ _ HF.out).mono ?_; rintro e w4 ⟨rfl, ⟨nd, rfl⟩⟩))
          go_ret
          exact ⟨rfl, pw_below_drewN HB.out _⟩
        · have c2b : decide (b < x) = false := decide_eq_false c2
          rw [decide_eq_true (by omega : x ≤ b)] at h
          have H' := Aside0.mk h
          clear h
          go_wp2_with (first | (go_at_call 11; refine (quireref03_Bounds.calls 20 _ _ _ _ _ HF.out).mono ?_; rintro e w4 ⟨rfl, ⟨nd, rfl⟩⟩))
          go_roundg k1
          case measure => omega
          case rel => exact ⟨n + 1, rfl, ⟨by have := HK.out; omega, by have := HK.out; omega⟩, ⟨by have := H'.out; simpa using this⟩, ⟨blk_drewN BK.out _⟩, ⟨pw_below_drewN HB.out _⟩⟩
end Go.Proofs.Ytpcpjlbfhbicaaa.PStyleProps
