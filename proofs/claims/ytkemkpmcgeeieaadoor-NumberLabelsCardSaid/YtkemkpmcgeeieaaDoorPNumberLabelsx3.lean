-- Written by a program of this session's (gprint.py over the kit's printer), with hand-written parts. Lean checks it.
import Derived.Test.YtkemkpmcgeeieaaDoorPNumberLabelsx0
import Derived.Test.YtkemkpmcgeeieaaDoorPNumberLabelsx2
namespace Go.Proofs.YtkemkpmcgeeieaaDoor.PNumberLabels
open Go.RowKit Go.Proofs.YtkemkpmcgeeieaaDoorW.PrintWords Go.Proofs.YtkemkpmcgeeieaaDoorW.PrintLast Go.Proofs.YtkemkpmcgeeieaaDoorW.PrintMore
attribute [local go_sem] max2_int min2_int max_two min_two max_three min_three max_four min_four   -- for this text's walks alone
set_option linter.unusedVariables false
set_option linter.unusedSimpArgs false

/-! ### number_Label: function 9 -/
def number_Label.j0 : Nat → Int → Int → Bool → Option (ByteArray × Int)
  | 0, _, _, _ => none
  | k + 1, x0, x1, x6 => if x6 = true then (some ((⟨#[]⟩ : ByteArray), 2)) else (if x1 < 1 then (some ((⟨#[]⟩ : ByteArray), 5)) else (if x1 > 3999 then (some ((⟨#[]⟩ : ByteArray), 5)) else (if x0 = 0 then ((strconv_Itoa_22.f x1).bind fun t128 => (if t128.size + 1 ≤ 9223372036854775807 then (some (t128 ++ (⟨#[46]⟩ : ByteArray), 0)) else (none))) else (if x0 = 1 then ((number_letters.f x1).bind fun t129 => (if t129.size + 1 ≤ 9223372036854775807 then (some (t129 ++ (⟨#[41]⟩ : ByteArray), 0)) else (none))) else (if x0 = 2 then ((number_roman.f x1).bind fun t130 => (if t130.size + 1 ≤ 9223372036854775807 then (some (t130 ++ (⟨#[46]⟩ : ByteArray), 0)) else (none))) else (some ((⟨#[45]⟩ : ByteArray), 0)))))))
def number_Label.f (k : Nat) (a0 : Int) (a1 : Int) : Option (ByteArray × Int) := if a0 < 0 then (number_Label.j0 k a0 a1 true) else (number_Label.j0 k a0 a1 (decide (a0 > 3)))
theorem number_Label.mono_l : ∀ k, (∀ y0 y1 y2, LeO (number_Label.j0 k y0 y1 y2) (number_Label.j0 (k + 1) y0 y1 y2))
  | 0 => fun _ _ _ r h => by simp [number_Label.j0] at h
  | k + 1 => by
    have ih0 := number_Label.mono_l k
    · intro y0 y1 y2
      unfold number_Label.j0
      repeat' first
      | (with_reducible exact ih0 _ _ _)
      | (with_reducible exact LeO.refl _)
      | (with_reducible exact LeO.none _)
      | (with_reducible refine LeO.ite ?_ ?_)
      | (with_reducible refine LeO.bind ?_ (fun _ => ?_))
      | exact ih0 _ _ _
      | exact LeO.none _
      | refine LeO.ite ?_ ?_
      | refine LeO.bind ?_ (fun _ => ?_)
theorem number_Label.mono : ∀ a0 a1 k, LeO (number_Label.f k a0 a1) (number_Label.f (k + 1) a0 a1) := by
  intro a0 a1 k
  have ih0 := number_Label.mono_l k
  unfold number_Label.f
  repeat' first
      | (with_reducible exact ih0 _ _ _)
      | (with_reducible exact LeO.refl _)
      | (with_reducible exact LeO.none _)
      | (with_reducible refine LeO.ite ?_ ?_)
      | (with_reducible refine LeO.bind ?_ (fun _ => ?_))
      | exact ih0 _ _ _
      | exact LeO.none _
      | refine LeO.ite ?_ ?_
      | refine LeO.bind ?_ (fun _ => ?_)
set_option maxHeartbeats 8000000 in
set_option maxRecDepth 100000 in
theorem number_Label.calls (k : Nat) (a0 : Int) (a1 : Int) (r1 : ByteArray) (r2 : Int) (w : World) (htab0 : Ito.Tab w) (h : number_Label.f k a0 a1 = some (r1, r2)) :
    Calls Tryd.prog 9 #[.int .i64 a0, .int .i64 a1] w fun e w' => e = .returned (.tuple #[.string r1, .int .i64 r2]) ∧ Below w.heap.size w w' := by
  have htab := Aside0.mk htab0
  clear htab0
  have HB := Aside0.mk (Below.refl w.heap.size w)
  have H : (if a0 < 0 then (number_Label.j0 k a0 a1 true) else (number_Label.j0 k a0 a1 (decide (a0 > 3)))) = some (r1, r2) := h
  clear h
  have HC3 := Aside0.mk H
  clear H
  go_enter Tryd.func9, Tryd.ntmps9
  go_upto_region 1 with (fail)
  go_cut [6] (fun v6 wc => ∃ (kq : Nat) (x6_2 : Bool), v6 = .bool x6_2 ∧ Aside0 (number_Label.j0 kq a0 a1 x6_2 = some (r1, r2)) ∧ Aside0 (kq ≤ k) ∧ Aside0 (Below w.heap.size w wc))
  case first =>
    have H := HC3.out
    clear HC3
    by_cases c4 : a0 < 0
    · rw [if_pos c4] at H
      have c4b0 : decide (a0 < 0) = true := decide_eq_true c4
      clear c4
      (first | rw [c4b0] | (simp only [i64_w, i32_w]; rw [c4b0]) | skip)
      have H' := Aside0.mk H
      clear H
      go_wp2
      go_meet
      case rel => exact ⟨_, (true), (by first | rfl | (simp; done) | (simp [*]; done)), H', ⟨by first | omega | exact Nat.le_refl _⟩, ⟨by repeat (first | (with_reducible first | exact HB.out | apply below_alloc | apply pw_below_drewN | apply below_drew1) | exact HB.out)⟩⟩
    · rw [if_neg c4] at H
      have c4b0 : decide (a0 < 0) = false := decide_eq_false c4
      clear c4
      (first | rw [c4b0] | (simp only [i64_w, i32_w]; rw [c4b0]) | skip)
      have H' := Aside0.mk H
      clear H
      go_wp2
      go_meet
      case rel => exact ⟨_, (decide (a0 > 3)), (by first | rfl | (simp; done) | (simp [*]; done)), H', ⟨by first | omega | exact Nat.le_refl _⟩, ⟨by repeat (first | (with_reducible first | exact HB.out | apply below_alloc | apply pw_below_drewN | apply below_drew1) | exact HB.out)⟩⟩
  case rest =>
    clear HC3
    try clear p2
    try clear c4
    try clear c4b0
    obtain ⟨kq, x6_2, rfl, HA, HJ2, HB⟩ := hcut
    cases kq with
    | zero => exact absurd HA.out (by simp [number_Label.j0])
    | succ kj2 =>
      have H := HA.out
      clear HA
      simp only [number_Label.j0] at H
      by_cases c5 : x6_2 = true
      · subst c5
        have H1 : (some ((⟨#[]⟩ : ByteArray), 2)) = some (r1, r2) := by rw [if_pos rfl] at H; exact H
        clear H
        have H := H1
        clear H1
        simp only [Option.some.injEq, Prod.mk.injEq] at H
        obtain ⟨rfl, rfl⟩ := H
        go_wp2
        go_ret2
        exact ⟨by first | rfl | (simp [errW_none, errW_some] <;> rfl) | (simp [*, errW_none, errW_some] <;> rfl), by repeat (first | (with_reducible first | exact HB.out | apply below_alloc | apply pw_below_drewN | apply below_drew1) | exact HB.out)⟩
      · replace c5 := Bool.eq_false_iff.mpr c5
        subst c5
        have H1 : (if a1 < 1 then (some ((⟨#[]⟩ : ByteArray), 5)) else (if a1 > 3999 then (some ((⟨#[]⟩ : ByteArray), 5)) else (if a0 = 0 then ((strconv_Itoa_22.f a1).bind fun t128 => (if t128.size + 1 ≤ 9223372036854775807 then (some (t128 ++ (⟨#[46]⟩ : ByteArray), 0)) else (none))) else (if a0 = 1 then ((number_letters.f a1).bind fun t129 => (if t129.size + 1 ≤ 9223372036854775807 then (some (t129 ++ (⟨#[41]⟩ : ByteArray), 0)) else (none))) else (if a0 = 2 then ((number_roman.f a1).bind fun t130 => (if t130.size + 1 ≤ 9223372036854775807 then (some (t130 ++ (⟨#[46]⟩ : ByteArray), 0)) else (none))) else (some ((⟨#[45]⟩ : ByteArray), 0))))))) = some (r1, r2) := by rw [if_neg (show ¬ (false = true) by decide)] at H; exact H
        clear H
        have H := H1
        clear H1
        by_cases c6 : a1 < 1
        · rw [if_pos c6] at H
          have c6b0 : decide (a1 < 1) = true := decide_eq_true c6
          clear c6
          simp only [Option.some.injEq, Prod.mk.injEq] at H
          obtain ⟨rfl, rfl⟩ := H
          go_wp2
          go_ret2
          exact ⟨by first | rfl | (simp [errW_none, errW_some] <;> rfl) | (simp [*, errW_none, errW_some] <;> rfl), by repeat (first | (with_reducible first | exact HB.out | apply below_alloc | apply pw_below_drewN | apply below_drew1) | exact HB.out)⟩
        · rw [if_neg c6] at H
          have c6b0 : decide (a1 < 1) = false := decide_eq_false c6
          clear c6
          by_cases c7 : a1 > 3999
          · rw [if_pos c7] at H
            have c7b0 : decide (3999 < a1) = true := decide_eq_true c7
            clear c7
            simp only [Option.some.injEq, Prod.mk.injEq] at H
            obtain ⟨rfl, rfl⟩ := H
            go_wp2
            go_ret2
            exact ⟨by first | rfl | (simp [errW_none, errW_some] <;> rfl) | (simp [*, errW_none, errW_some] <;> rfl), by repeat (first | (with_reducible first | exact HB.out | apply below_alloc | apply pw_below_drewN | apply below_drew1) | exact HB.out)⟩
          · rw [if_neg c7] at H
            have c7b0 : decide (3999 < a1) = false := decide_eq_false c7
            clear c7
            by_cases c8 : a0 = 0
            · rw [if_pos c8] at H
              have c8b0 : (a0 == 0) = true := beq_iff_eq.mpr c8
              have c8b1 : (a0 != 0) = false := bne_eq_false_iff_eq.mpr c8
              clear c8
              replace H := Option.bind_eq_some_iff.mp H
              obtain ⟨t128, A90, H⟩ := H
              replace H : (if t128.size + 1 ≤ 9223372036854775807 then (some (t128 ++ (⟨#[46]⟩ : ByteArray), 0)) else (none)) = some (r1, r2) := H
              have A9 := Aside0.mk A90
              clear A90
              by_cases c10 : t128.size + 1 ≤ 9223372036854775807
              · rw [if_pos c10] at H
                have c10b0 := eq_true c10
                have c10b1 : decide (t128.size + 1 ≤ 9223372036854775807) = true := decide_eq_true c10
                try have c10b2 : (9223372036854775807 < t128.size + 1) = False := eq_false (Nat.not_lt.2 c10)
                simp only [Option.some.injEq, Prod.mk.injEq] at H
                obtain ⟨rfl, rfl⟩ := H
                go_wp2_with (first | ((with_reducible refine gate_callee (f := 22) rfl ?_); refine goesL_ (some 24) rfl rfl Tryd.func22 (by kernel_rfl) rfl #[.int .i64 a1] rfl (by (try simp only [List.map_toArray, List.map_cons, List.map_nil]); first | done | rfl | (simp only [List.length_drop, List.length_take]; rfl)) ?_; (with_reducible refine (strconv_Itoa_22.calls a1 t128 _ (Ito.Tab.below htab.out (by repeat (first | (with_reducible first | exact HB.out | apply below_alloc | apply pw_below_drewN | apply below_drew1 ) | exact HB.out))) A9.out).mono ?_); rintro e w11 ⟨rfl, hb⟩; refine ⟨_, rfl, ?_⟩; have n0_ := Aside0.mk (below_step (by repeat (first | (with_reducible first | exact HB.out | apply below_alloc | apply pw_below_drewN | apply below_drew1) | exact HB.out)) hb); clear HB; have HB := n0_; clear n0_; (try clear hb); (try clear hb2); (try clear hk); (try clear hi)))
                go_ret2
                exact ⟨by first | rfl | (simp [errW_none, errW_some] <;> rfl) | (simp [*, errW_none, errW_some] <;> rfl), by repeat (first | (with_reducible first | exact HB.out | apply below_alloc | apply pw_below_drewN | apply below_drew1) | exact HB.out)⟩
              · rw [if_neg c10] at H
                exact absurd H (by simp)
            · rw [if_neg c8] at H
              have c8b0 : (a0 == 0) = false := beq_eq_false_iff_ne.mpr c8
              have c8b1 : (a0 != 0) = true := bne_iff_ne.mpr c8
              by_cases c12 : a0 = 1
              · rw [if_pos c12] at H
                have c12b0 : (a0 == 1) = true := beq_iff_eq.mpr c12
                have c12b1 : (a0 != 1) = false := bne_eq_false_iff_eq.mpr c12
                clear c12
                replace H := Option.bind_eq_some_iff.mp H
                obtain ⟨t129, A130, H⟩ := H
                replace H : (if t129.size + 1 ≤ 9223372036854775807 then (some (t129 ++ (⟨#[41]⟩ : ByteArray), 0)) else (none)) = some (r1, r2) := H
                have A13 := Aside0.mk A130
                clear A130
                by_cases c14 : t129.size + 1 ≤ 9223372036854775807
                · rw [if_pos c14] at H
                  have c14b0 := eq_true c14
                  have c14b1 : decide (t129.size + 1 ≤ 9223372036854775807) = true := decide_eq_true c14
                  try have c14b2 : (9223372036854775807 < t129.size + 1) = False := eq_false (Nat.not_lt.2 c14)
                  simp only [Option.some.injEq, Prod.mk.injEq] at H
                  obtain ⟨rfl, rfl⟩ := H
                  go_wp2_with (first | ((with_reducible refine gate_callee (f := 23) rfl ?_); refine goesL_ (some 29) rfl rfl Tryd.func23 (by kernel_rfl) rfl #[.int .i64 a1] rfl (by (try simp only [List.map_toArray, List.map_cons, List.map_nil]); first | done | rfl | (simp only [List.length_drop, List.length_take]; rfl)) ?_; (with_reducible refine (number_letters.calls a1 t129 _ A13.out).mono ?_); rintro e w15 ⟨rfl, hb⟩; refine ⟨_, rfl, ?_⟩; have n0_ := Aside0.mk (below_step (by repeat (first | (with_reducible first | exact HB.out | apply below_alloc | apply pw_below_drewN | apply below_drew1) | exact HB.out)) hb); clear HB; have HB := n0_; clear n0_; (try clear hb); (try clear hb2); (try clear hk); (try clear hi)))
                  go_ret2
                  exact ⟨by first | rfl | (simp [errW_none, errW_some] <;> rfl) | (simp [*, errW_none, errW_some] <;> rfl), by repeat (first | (with_reducible first | exact HB.out | apply below_alloc | apply pw_below_drewN | apply below_drew1) | exact HB.out)⟩
                · rw [if_neg c14] at H
                  exact absurd H (by simp)
              · rw [if_neg c12] at H
                have c12b0 : (a0 == 1) = false := beq_eq_false_iff_ne.mpr c12
                have c12b1 : (a0 != 1) = true := bne_iff_ne.mpr c12
                by_cases c16 : a0 = 2
                · rw [if_pos c16] at H
                  have c16b0 : (a0 == 2) = true := beq_iff_eq.mpr c16
                  have c16b1 : (a0 != 2) = false := bne_eq_false_iff_eq.mpr c16
                  clear c16
                  replace H := Option.bind_eq_some_iff.mp H
                  obtain ⟨t130, A170, H⟩ := H
                  replace H : (if t130.size + 1 ≤ 9223372036854775807 then (some (t130 ++ (⟨#[46]⟩ : ByteArray), 0)) else (none)) = some (r1, r2) := H
                  have A17 := Aside0.mk A170
                  clear A170
                  by_cases c18 : t130.size + 1 ≤ 9223372036854775807
                  · rw [if_pos c18] at H
                    have c18b0 := eq_true c18
                    have c18b1 : decide (t130.size + 1 ≤ 9223372036854775807) = true := decide_eq_true c18
                    try have c18b2 : (9223372036854775807 < t130.size + 1) = False := eq_false (Nat.not_lt.2 c18)
                    simp only [Option.some.injEq, Prod.mk.injEq] at H
                    obtain ⟨rfl, rfl⟩ := H
                    go_wp2_with (first | ((with_reducible refine gate_callee (f := 24) rfl ?_); refine goesL_ (some 34) rfl rfl Tryd.func24 (by kernel_rfl) rfl #[.int .i64 a1] rfl (by (try simp only [List.map_toArray, List.map_cons, List.map_nil]); first | done | rfl | (simp only [List.length_drop, List.length_take]; rfl)) ?_; (with_reducible refine (number_roman.calls a1 t130 _ A17.out).mono ?_); rintro e w19 ⟨rfl, hb⟩; refine ⟨_, rfl, ?_⟩; have n0_ := Aside0.mk (below_step (by repeat (first | (with_reducible first | exact HB.out | apply below_alloc | apply pw_below_drewN | apply below_drew1) | exact HB.out)) hb); clear HB; have HB := n0_; clear n0_; (try clear hb); (try clear hb2); (try clear hk); (try clear hi)))
                    go_ret2
                    exact ⟨by first | rfl | (simp [errW_none, errW_some] <;> rfl) | (simp [*, errW_none, errW_some] <;> rfl), by repeat (first | (with_reducible first | exact HB.out | apply below_alloc | apply pw_below_drewN | apply below_drew1) | exact HB.out)⟩
                  · rw [if_neg c18] at H
                    exact absurd H (by simp)
                · rw [if_neg c16] at H
                  have c16b0 : (a0 == 2) = false := beq_eq_false_iff_ne.mpr c16
                  have c16b1 : (a0 != 2) = true := bne_iff_ne.mpr c16
                  simp only [Option.some.injEq, Prod.mk.injEq] at H
                  obtain ⟨rfl, rfl⟩ := H
                  go_wp2
                  go_ret2
                  exact ⟨by first | rfl | (simp [errW_none, errW_some] <;> rfl) | (simp [*, errW_none, errW_some] <;> rfl), by repeat (first | (with_reducible first | exact HB.out | apply below_alloc | apply pw_below_drewN | apply below_drew1) | exact HB.out)⟩

/-! ### number_wrong: function 28 -/
def number_wrong.l0 : Nat → List (S36) → Int → Int → Option (Int)
  | 0, _, _, _ => none
  | k + 1, x8, x9, x10 => if x10 < x9 then (if 0 ≤ x10 then (if x10 < (x8.length : Int) then (if ((rd_T36 x8 x10).f0) < 0 then (some 2) else (if ((rd_T36 x8 x10).f0) > 8 then (some 2) else (if ((rd_T36 x8 x10).f1) < 0 then (some 2) else (if ((rd_T36 x8 x10).f1) > 3 then (some 2) else (number_wrong.l0 k x8 x9 (wrap64 (x10 + 1))))))) else (none)) else (none)) else (some 0)
def number_wrong.f (k : Nat) (l0 : List (S36)) : Option (Int) := if (l0.length : Int) > 3999 then (some 3) else (number_wrong.l0 k l0 (l0.length : Int) 0)
theorem number_wrong.mono_l : ∀ k, (∀ y0 y1 y2, LeO (number_wrong.l0 k y0 y1 y2) (number_wrong.l0 (k + 1) y0 y1 y2))
  | 0 => fun _ _ _ r h => by simp [number_wrong.l0] at h
  | k + 1 => by
    have ih0 := number_wrong.mono_l k
    · intro y0 y1 y2
      unfold number_wrong.l0
      repeat' first
      | (with_reducible exact ih0 _ _ _)
      | (with_reducible exact LeO.refl _)
      | (with_reducible exact LeO.none _)
      | (with_reducible refine LeO.ite ?_ ?_)
      | (with_reducible refine LeO.bind ?_ (fun _ => ?_))
      | exact ih0 _ _ _
      | exact LeO.none _
      | refine LeO.ite ?_ ?_
      | refine LeO.bind ?_ (fun _ => ?_)
theorem number_wrong.mono : ∀ a0 k, LeO (number_wrong.f k a0) (number_wrong.f (k + 1) a0) := by
  intro a0 k
  have ih0 := number_wrong.mono_l k
  unfold number_wrong.f
  repeat' first
      | (with_reducible exact ih0 _ _ _)
      | (with_reducible exact LeO.refl _)
      | (with_reducible exact LeO.none _)
      | (with_reducible refine LeO.ite ?_ ?_)
      | (with_reducible refine LeO.bind ?_ (fun _ => ?_))
      | exact ih0 _ _ _
      | exact LeO.none _
      | refine LeO.ite ?_ ?_
      | refine LeO.bind ?_ (fun _ => ?_)
set_option maxHeartbeats 8000000 in
set_option maxRecDepth 100000 in
theorem number_wrong.calls (k : Nat) (A0 : Option Addr) (c0 : Nat) (l0 : List (S36)) (r : Int) (w : World) (hr0 : Kd.C k36 w A0 l0.length l0) (hc0 : l0.length ≤ c0) (h : number_wrong.f k l0 = some r) :
    Calls Tryd.prog 28 #[.slice A0 l0.length c0] w fun e w' => e = .returned (.int .i64 r) ∧ Below w.heap.size w w' := by
  have hu36 := Tryd.underlying36
  have HR0 := Aside0.mk hr0
  have HC0 := Aside0.mk hc0
  clear hr0 hc0
  have HB := Aside0.mk (Below.refl w.heap.size w)
  have H : (if (l0.length : Int) > 3999 then (some 3) else (number_wrong.l0 k l0 (l0.length : Int) 0)) = some r := h
  clear h
  by_cases c2 : (l0.length : Int) > 3999
  · rw [if_pos c2] at H
    have c2b0 : decide (3999 < (l0.length : Int)) = true := decide_eq_true c2
    have c2b1 : decide (3999 < l0.length) = true := decide_eq_true (by omega)
    clear c2
    obtain rfl := Option.some.inj H
    go_enter Tryd.func28, Tryd.ntmps28
    go_wp2
    go_ret
    exact ⟨by first | rfl | (simp [errW_none, errW_some] <;> rfl) | (simp [*, errW_none, errW_some] <;> rfl), by repeat (first | (with_reducible first | exact HB.out | apply below_alloc | apply pw_below_drewN | apply below_drew1) | exact HB.out)⟩
  · rw [if_neg c2] at H
    have c2b0 : decide (3999 < (l0.length : Int)) = false := decide_eq_false c2
    have c2b1 : decide (3999 < l0.length) = false := decide_eq_false (by omega)
    clear c2
    have H' := Aside0.mk H
    clear H
    go_enter Tryd.func28, Tryd.ntmps28
    go_wp2
    go_loopg [10] k (fun kq v10 w' => ∃ (x10_1 : Int), v10 = .int .i64 x10_1 ∧ Aside0 (number_wrong.l0 kq l0 (l0.length : Int) x10_1 = some r) ∧ Aside0 (kq ≤ k) ∧ Aside0 (Below w.heap.size w w'))
    case atStart => exact ⟨(0), (by first | rfl | (simp; done) | (simp [*]; done)), H', ⟨Nat.le_refl _⟩, ⟨by repeat (first | (with_reducible first | exact HB.out | apply below_alloc | apply pw_below_drewN | apply below_drew1) | exact HB.out)⟩⟩
    case round =>
      clear H'
      try clear c2
      try clear c2b0
      try clear c2b1
      try clear p2
      obtain ⟨x10_1, rfl, HA, HK1, HB⟩ := hrel
      cases gk with
      | zero => exact absurd HA.out (by simp [number_wrong.l0])
      | succ k1 =>
        have H := HA.out
        clear HA
        simp only [number_wrong.l0] at H
        by_cases c3 : x10_1 < (l0.length : Int)
        · rw [if_pos c3] at H
          have c3b0 : decide (x10_1 < (l0.length : Int)) = true := decide_eq_true c3
          clear c3
          by_cases c4 : 0 ≤ x10_1
          · rw [if_pos c4] at H
            have c4b0 : decide (0 ≤ x10_1) = true := decide_eq_true c4
            clear c4
            by_cases c5 : x10_1 < (l0.length : Int)
            · rw [if_pos c5] at H
              have c5b0 : decide (x10_1 < (l0.length : Int)) = true := decide_eq_true c5
              clear c5
              by_cases c6 : ((rd_T36 l0 x10_1).f0) < 0
              · rw [if_pos c6] at H
                have c6b0 : decide (((rd_T36 l0 x10_1).f0) < 0) = true := decide_eq_true c6
                clear c6
                obtain rfl := Option.some.inj H
                have p131 : 0 ≤ (x10_1 : Int) := of_decide_eq_true (by first | (with_reducible assumption) | assumption)
                have q131 : x10_1 < (l0.length : Int) := of_decide_eq_true (by first | (with_reducible assumption) | assumption)
                obtain ⟨ad131, e131, hx131_0, hx131_1⟩ := at_T36 HR0.out x10_1 p131 q131
                cases e131
                replace hx131_0 := (HB.out.cell (World.block_lt_of_cell? w _ hx131_0)).trans hx131_0
                replace hx131_1 := (HB.out.cell (World.block_lt_of_cell? w _ hx131_1)).trans hx131_1
                replace p131 := eq_true p131
                replace q131 := eq_true q131
                go_wp2_with (first | ((with_reducible refine gate_dst (N := 4) rfl ?_); refine box_event ?hg (N := 4) ?hd (cs := #[.int .i64 0, .int .i64 0]) (t := 36) ?hr ?_; (case hd => rfl); (case hg => rfl); (case hr => first | (go_simp; done) | (go_simp; rfl)); intro gb132 hg w7 hbox hb; have n0_ := Aside0.mk (below_step (by repeat (first | (with_reducible first | exact HB.out | apply below_alloc | apply pw_below_drewN | apply below_drew1) | exact HB.out)) hb); have n1_ := Aside0.mk (hbox); have n2_ := Aside0.mk ((by rw [hg]; exact (below_size (by repeat (first | (with_reducible first | exact HB.out | apply below_alloc | apply pw_below_drewN | apply below_drew1) | exact HB.out))) : w.heap.size ≤ gb132)); have n3_ := Aside0.mk ((by rw [hg]; exact (below_size (by repeat (first | (with_reducible first | exact HB.out | apply below_alloc | apply pw_below_drewN | apply below_drew1) | exact HB.out))) : w.heap.size ≤ gb132)); clear HB; have HB := n0_; have BK132 := n1_; have GW132 := n2_; have GE132 := n3_; clear n0_ n1_ n2_ n3_; clear hb hbox hg; have hcz8_0 : w7.cell? ⟨gb132, 0, none⟩ = some (.int .i64 0) := (blk_cell BK132.out 0).trans rfl; have hcz8_1 : w7.cell? ⟨gb132, 1, none⟩ = some (.int .i64 0) := (blk_cell BK132.out 1).trans rfl; have hfz8_0 := blk_frozen BK132.out 0; have hfz8_1 := blk_frozen BK132.out 1))
                go_ret
                exact ⟨by first | rfl | (simp [errW_none, errW_some] <;> rfl) | (simp [*, errW_none, errW_some] <;> rfl), by repeat (first | (with_reducible first | exact HB.out | apply below_alloc | apply pw_below_drewN | apply below_drew1 | refine below_set ?_ GE132.out) | exact HB.out)⟩
              · rw [if_neg c6] at H
                have c6b0 : decide (((rd_T36 l0 x10_1).f0) < 0) = false := decide_eq_false c6
                clear c6
                by_cases c9 : ((rd_T36 l0 x10_1).f0) > 8
                · rw [if_pos c9] at H
                  have c9b0 : decide (8 < ((rd_T36 l0 x10_1).f0)) = true := decide_eq_true c9
                  clear c9
                  obtain rfl := Option.some.inj H
                  have p131 : 0 ≤ (x10_1 : Int) := of_decide_eq_true (by first | (with_reducible assumption) | assumption)
                  have q131 : x10_1 < (l0.length : Int) := of_decide_eq_true (by first | (with_reducible assumption) | assumption)
                  obtain ⟨ad131, e131, hx131_0, hx131_1⟩ := at_T36 HR0.out x10_1 p131 q131
                  cases e131
                  replace hx131_0 := (HB.out.cell (World.block_lt_of_cell? w _ hx131_0)).trans hx131_0
                  replace hx131_1 := (HB.out.cell (World.block_lt_of_cell? w _ hx131_1)).trans hx131_1
                  replace p131 := eq_true p131
                  replace q131 := eq_true q131
                  go_wp2_with (first | ((with_reducible refine gate_dst (N := 4) rfl ?_); refine box_event ?hg (N := 4) ?hd (cs := #[.int .i64 0, .int .i64 0]) (t := 36) ?hr ?_; (case hd => rfl); (case hg => rfl); (case hr => first | (go_simp; done) | (go_simp; rfl)); intro gb132 hg w10 hbox hb; have n0_ := Aside0.mk (below_step (by repeat (first | (with_reducible first | exact HB.out | apply below_alloc | apply pw_below_drewN | apply below_drew1) | exact HB.out)) hb); have n1_ := Aside0.mk (hbox); have n2_ := Aside0.mk ((by rw [hg]; exact (below_size (by repeat (first | (with_reducible first | exact HB.out | apply below_alloc | apply pw_below_drewN | apply below_drew1) | exact HB.out))) : w.heap.size ≤ gb132)); have n3_ := Aside0.mk ((by rw [hg]; exact (below_size (by repeat (first | (with_reducible first | exact HB.out | apply below_alloc | apply pw_below_drewN | apply below_drew1) | exact HB.out))) : w.heap.size ≤ gb132)); clear HB; have HB := n0_; have BK132 := n1_; have GW132 := n2_; have GE132 := n3_; clear n0_ n1_ n2_ n3_; clear hb hbox hg; have hcz11_0 : w10.cell? ⟨gb132, 0, none⟩ = some (.int .i64 0) := (blk_cell BK132.out 0).trans rfl; have hcz11_1 : w10.cell? ⟨gb132, 1, none⟩ = some (.int .i64 0) := (blk_cell BK132.out 1).trans rfl; have hfz11_0 := blk_frozen BK132.out 0; have hfz11_1 := blk_frozen BK132.out 1))
                  go_ret
                  exact ⟨by first | rfl | (simp [errW_none, errW_some] <;> rfl) | (simp [*, errW_none, errW_some] <;> rfl), by repeat (first | (with_reducible first | exact HB.out | apply below_alloc | apply pw_below_drewN | apply below_drew1 | refine below_set ?_ GE132.out) | exact HB.out)⟩
                · rw [if_neg c9] at H
                  have c9b0 : decide (8 < ((rd_T36 l0 x10_1).f0)) = false := decide_eq_false c9
                  clear c9
                  by_cases c12 : ((rd_T36 l0 x10_1).f1) < 0
                  · rw [if_pos c12] at H
                    have c12b0 : decide (((rd_T36 l0 x10_1).f1) < 0) = true := decide_eq_true c12
                    clear c12
                    obtain rfl := Option.some.inj H
                    have p131 : 0 ≤ (x10_1 : Int) := of_decide_eq_true (by first | (with_reducible assumption) | assumption)
                    have q131 : x10_1 < (l0.length : Int) := of_decide_eq_true (by first | (with_reducible assumption) | assumption)
                    obtain ⟨ad131, e131, hx131_0, hx131_1⟩ := at_T36 HR0.out x10_1 p131 q131
                    cases e131
                    replace hx131_0 := (HB.out.cell (World.block_lt_of_cell? w _ hx131_0)).trans hx131_0
                    replace hx131_1 := (HB.out.cell (World.block_lt_of_cell? w _ hx131_1)).trans hx131_1
                    replace p131 := eq_true p131
                    replace q131 := eq_true q131
                    go_wp2_with (first | ((with_reducible refine gate_dst (N := 4) rfl ?_); refine box_event ?hg (N := 4) ?hd (cs := #[.int .i64 0, .int .i64 0]) (t := 36) ?hr ?_; (case hd => rfl); (case hg => rfl); (case hr => first | (go_simp; done) | (go_simp; rfl)); intro gb132 hg w13 hbox hb; have n0_ := Aside0.mk (below_step (by repeat (first | (with_reducible first | exact HB.out | apply below_alloc | apply pw_below_drewN | apply below_drew1) | exact HB.out)) hb); have n1_ := Aside0.mk (hbox); have n2_ := Aside0.mk ((by rw [hg]; exact (below_size (by repeat (first | (with_reducible first | exact HB.out | apply below_alloc | apply pw_below_drewN | apply below_drew1) | exact HB.out))) : w.heap.size ≤ gb132)); have n3_ := Aside0.mk ((by rw [hg]; exact (below_size (by repeat (first | (with_reducible first | exact HB.out | apply below_alloc | apply pw_below_drewN | apply below_drew1) | exact HB.out))) : w.heap.size ≤ gb132)); clear HB; have HB := n0_; have BK132 := n1_; have GW132 := n2_; have GE132 := n3_; clear n0_ n1_ n2_ n3_; clear hb hbox hg; have hcz14_0 : w13.cell? ⟨gb132, 0, none⟩ = some (.int .i64 0) := (blk_cell BK132.out 0).trans rfl; have hcz14_1 : w13.cell? ⟨gb132, 1, none⟩ = some (.int .i64 0) := (blk_cell BK132.out 1).trans rfl; have hfz14_0 := blk_frozen BK132.out 0; have hfz14_1 := blk_frozen BK132.out 1))
                    go_ret
                    exact ⟨by first | rfl | (simp [errW_none, errW_some] <;> rfl) | (simp [*, errW_none, errW_some] <;> rfl), by repeat (first | (with_reducible first | exact HB.out | apply below_alloc | apply pw_below_drewN | apply below_drew1 | refine below_set ?_ GE132.out) | exact HB.out)⟩
                  · rw [if_neg c12] at H
                    have c12b0 : decide (((rd_T36 l0 x10_1).f1) < 0) = false := decide_eq_false c12
                    clear c12
                    by_cases c15 : ((rd_T36 l0 x10_1).f1) > 3
                    · rw [if_pos c15] at H
                      have c15b0 : decide (3 < ((rd_T36 l0 x10_1).f1)) = true := decide_eq_true c15
                      clear c15
                      obtain rfl := Option.some.inj H
                      have p131 : 0 ≤ (x10_1 : Int) := of_decide_eq_true (by first | (with_reducible assumption) | assumption)
                      have q131 : x10_1 < (l0.length : Int) := of_decide_eq_true (by first | (with_reducible assumption) | assumption)
                      obtain ⟨ad131, e131, hx131_0, hx131_1⟩ := at_T36 HR0.out x10_1 p131 q131
                      cases e131
                      replace hx131_0 := (HB.out.cell (World.block_lt_of_cell? w _ hx131_0)).trans hx131_0
                      replace hx131_1 := (HB.out.cell (World.block_lt_of_cell? w _ hx131_1)).trans hx131_1
                      replace p131 := eq_true p131
                      replace q131 := eq_true q131
                      go_wp2_with (first | ((with_reducible refine gate_dst (N := 4) rfl ?_); refine box_event ?hg (N := 4) ?hd (cs := #[.int .i64 0, .int .i64 0]) (t := 36) ?hr ?_; (case hd => rfl); (case hg => rfl); (case hr => first | (go_simp; done) | (go_simp; rfl)); intro gb132 hg w16 hbox hb; have n0_ := Aside0.mk (below_step (by repeat (first | (with_reducible first | exact HB.out | apply below_alloc | apply pw_below_drewN | apply below_drew1) | exact HB.out)) hb); have n1_ := Aside0.mk (hbox); have n2_ := Aside0.mk ((by rw [hg]; exact (below_size (by repeat (first | (with_reducible first | exact HB.out | apply below_alloc | apply pw_below_drewN | apply below_drew1) | exact HB.out))) : w.heap.size ≤ gb132)); have n3_ := Aside0.mk ((by rw [hg]; exact (below_size (by repeat (first | (with_reducible first | exact HB.out | apply below_alloc | apply pw_below_drewN | apply below_drew1) | exact HB.out))) : w.heap.size ≤ gb132)); clear HB; have HB := n0_; have BK132 := n1_; have GW132 := n2_; have GE132 := n3_; clear n0_ n1_ n2_ n3_; clear hb hbox hg; have hcz17_0 : w16.cell? ⟨gb132, 0, none⟩ = some (.int .i64 0) := (blk_cell BK132.out 0).trans rfl; have hcz17_1 : w16.cell? ⟨gb132, 1, none⟩ = some (.int .i64 0) := (blk_cell BK132.out 1).trans rfl; have hfz17_0 := blk_frozen BK132.out 0; have hfz17_1 := blk_frozen BK132.out 1))
                      go_ret
                      exact ⟨by first | rfl | (simp [errW_none, errW_some] <;> rfl) | (simp [*, errW_none, errW_some] <;> rfl), by repeat (first | (with_reducible first | exact HB.out | apply below_alloc | apply pw_below_drewN | apply below_drew1 | refine below_set ?_ GE132.out) | exact HB.out)⟩
                    · rw [if_neg c15] at H
                      have c15b0 : decide (3 < ((rd_T36 l0 x10_1).f1)) = false := decide_eq_false c15
                      clear c15
                      have H' := Aside0.mk H
                      clear H
                      have p131 : 0 ≤ (x10_1 : Int) := of_decide_eq_true (by first | (with_reducible assumption) | assumption)
                      have q131 : x10_1 < (l0.length : Int) := of_decide_eq_true (by first | (with_reducible assumption) | assumption)
                      obtain ⟨ad131, e131, hx131_0, hx131_1⟩ := at_T36 HR0.out x10_1 p131 q131
                      cases e131
                      replace hx131_0 := (HB.out.cell (World.block_lt_of_cell? w _ hx131_0)).trans hx131_0
                      replace hx131_1 := (HB.out.cell (World.block_lt_of_cell? w _ hx131_1)).trans hx131_1
                      replace p131 := eq_true p131
                      replace q131 := eq_true q131
                      go_wp2_with (first | ((with_reducible refine gate_dst (N := 4) rfl ?_); refine box_event ?hg (N := 4) ?hd (cs := #[.int .i64 0, .int .i64 0]) (t := 36) ?hr ?_; (case hd => rfl); (case hg => rfl); (case hr => first | (go_simp; done) | (go_simp; rfl)); intro gb132 hg w18 hbox hb; have n0_ := Aside0.mk (below_step (by repeat (first | (with_reducible first | exact HB.out | apply below_alloc | apply pw_below_drewN | apply below_drew1) | exact HB.out)) hb); have n1_ := Aside0.mk (hbox); have n2_ := Aside0.mk ((by rw [hg]; exact (below_size (by repeat (first | (with_reducible first | exact HB.out | apply below_alloc | apply pw_below_drewN | apply below_drew1) | exact HB.out))) : w.heap.size ≤ gb132)); have n3_ := Aside0.mk ((by rw [hg]; exact (below_size (by repeat (first | (with_reducible first | exact HB.out | apply below_alloc | apply pw_below_drewN | apply below_drew1) | exact HB.out))) : w.heap.size ≤ gb132)); clear HB; have HB := n0_; have BK132 := n1_; have GW132 := n2_; have GE132 := n3_; clear n0_ n1_ n2_ n3_; clear hb hbox hg; have hcz19_0 : w18.cell? ⟨gb132, 0, none⟩ = some (.int .i64 0) := (blk_cell BK132.out 0).trans rfl; have hcz19_1 : w18.cell? ⟨gb132, 1, none⟩ = some (.int .i64 0) := (blk_cell BK132.out 1).trans rfl; have hfz19_0 := blk_frozen BK132.out 0; have hfz19_1 := blk_frozen BK132.out 1))
                      go_roundg k1
                      case measure => have := HK1.out; omega
                      case rel => exact ⟨(wrap64 (x10_1 + 1)), (by first | rfl | (simp; done) | (simp [*]; done)), H', ⟨by have := HK1.out; omega⟩, ⟨by repeat (first | (with_reducible first | exact HB.out | apply below_alloc | apply pw_below_drewN | apply below_drew1 | refine below_set ?_ GE132.out) | exact HB.out)⟩⟩
            · rw [if_neg c5] at H
              exact absurd H (by simp)
          · rw [if_neg c4] at H
            exact absurd H (by simp)
        · rw [if_neg c3] at H
          have c3b0 : decide (x10_1 < (l0.length : Int)) = false := decide_eq_false c3
          clear c3
          obtain rfl := Option.some.inj H
          go_wp2
          go_ret
          exact ⟨by first | rfl | (simp [errW_none, errW_some] <;> rfl) | (simp [*, errW_none, errW_some] <;> rfl), by repeat (first | (with_reducible first | exact HB.out | apply below_alloc | apply pw_below_drewN | apply below_drew1) | exact HB.out)⟩


def number_Labels.l0 : Nat → List S36 → Int → List Int → List ByteArray → Option (List ByteArray)
  | 0, _, _, _, _ => none
  | k + 1, l, i, c, out => if i < (l.length : Int) then (if 0 ≤ i then (if out.length < 4000 then (if (rd_T36 l i).f0 > 0 then (if (rd_T36 l i).f0 ≤ 8 then (if 0 ≤ (rd_T36 l i).f1 then (if (rd_T36 l i).f1 ≤ 3 then ((Cnt.addL c (rd_T36 l i).f0 (rd_T36 l i).f1).bind fun c2 => (number_Label.f k (rd_T36 l i).f1 (c2.getD (Cnt.place (rd_T36 l i).f0 (rd_T36 l i).f1) 0)).bind fun t => number_Labels.l0 k l (i + 1) c2 (out ++ [t.1])) else none) else none) else none) else number_Labels.l0 k l (i + 1) c (out ++ [(⟨#[]⟩ : ByteArray)])) else none) else none) else some out
def number_Labels.f (k : Nat) (l0 : List S36) : Option (List ByteArray × Int) := (number_wrong.f k l0).bind fun e => if e = 0 then (number_Labels.l0 k l0 0 (List.replicate 36 0) []).bind (fun r => some (r, (0 : Int))) else some (([] : List ByteArray), e)
theorem number_Labels.mono_l : ∀ k, (∀ y0 y1 y2 y3, LeO (number_Labels.l0 k y0 y1 y2 y3) (number_Labels.l0 (k + 1) y0 y1 y2 y3))
  | 0 => fun _ _ _ _ r h => by simp [number_Labels.l0] at h
  | k + 1 => by
    have ih0 := number_Labels.mono_l k
    intro y0 y1 y2 y3
    unfold number_Labels.l0
    exact LeO.ite (LeO.ite (LeO.ite (LeO.ite (LeO.ite (LeO.ite (LeO.ite (LeO.bind (LeO.refl _) (fun _ => LeO.bind (number_Label.mono _ _ k) (fun _ => ih0 _ _ _ _))) (LeO.none _)) (LeO.none _)) (LeO.none _)) (ih0 _ _ _ _)) (LeO.none _)) (LeO.none _)) (LeO.refl _)
theorem number_Labels.mono : ∀ a0 k, LeO (number_Labels.f k a0) (number_Labels.f (k + 1) a0) := by
  intro a0 k
  unfold number_Labels.f
  exact LeO.bind (number_wrong.mono a0 k) (fun _ => LeO.ite (LeO.bind (number_Labels.mono_l k _ _ _ _) (fun _ => LeO.refl _)) (LeO.refl _))
theorem infoS : (Tryd.prog.info? 9).map (fun i => (i.zero, i.size, i.bytes)) = some (some (.string ⟨#[]⟩), 1, 16) := by kernel_rfl
set_option maxHeartbeats 4000000 in
set_option maxRecDepth 100000 in
theorem number_Labels.calls (k : Nat) (A0 : Option Addr) (c0 : Nat) (l0 : List (S36)) (r1 : List ByteArray) (r2 : Int) (w : World) (hr0 : Kd.C k36 w A0 l0.length l0) (hc0 : l0.length ≤ c0) (htab0 : Ito.Tab w) (h : number_Labels.f k l0 = some (r1, r2)) :
    Calls Tryd.prog 15 #[.slice A0 l0.length c0] w fun e w' => ∃ v0_ : Value, e = .returned (.tuple #[v0_, .int .i64 r2]) ∧ Kd.R Kd.string 9 w' w.heap.size (fun _ => True) v0_ r1 ∧ Below w.heap.size w w' := by
  have hu36 := Tryd.underlying36
  have hu53 := Tryd.underlying53
  have HR0 := Aside0.mk hr0
  have HC0 := Aside0.mk hc0
  have htab := Aside0.mk htab0
  clear hr0 hc0 htab0
  have HB := Aside0.mk (Below.refl w.heap.size w)
  unfold number_Labels.f at h
  obtain ⟨e, he, H⟩ := Option.bind_eq_some_iff.mp h
  clear h
  have AW := Aside0.mk he
  clear he
  by_cases ce : e = 0
  · subst ce
    rw [if_pos rfl] at H
    obtain ⟨r, hr, H⟩ := Option.bind_eq_some_iff.mp H
    cases H
    have H' := Aside0.mk hr
    clear hr
    have hl0 : l0.length ≤ 3999 := by
      rcases Classical.em ((l0.length : Int) > 3999) with c | c
      · have := AW.out
        unfold number_wrong.f at this
        rw [if_pos c] at this
        cases this
      · omega
    go_enter Tryd.func15, Tryd.ntmps15
    go_wp2_with (first | (go_at_call 28; refine (number_wrong.calls k A0 c0 l0 0 w HR0.out HC0.out AW.out).mono ?_; rintro e w1 ⟨rfl, hb⟩; have HB1 := Aside0.mk hb; clear hb HB; have HB := HB1; clear HB1) | ((with_reducible refine gate_dst (N := 5) rfl ?_); refine box_event ?hg (N := 5) ?hd (cs := #[.int .i64 0, .int .i64 0, .int .i64 0, .int .i64 0, .int .i64 0, .int .i64 0, .int .i64 0, .int .i64 0, .int .i64 0, .int .i64 0, .int .i64 0, .int .i64 0, .int .i64 0, .int .i64 0, .int .i64 0, .int .i64 0, .int .i64 0, .int .i64 0, .int .i64 0, .int .i64 0, .int .i64 0, .int .i64 0, .int .i64 0, .int .i64 0, .int .i64 0, .int .i64 0, .int .i64 0, .int .i64 0, .int .i64 0, .int .i64 0, .int .i64 0, .int .i64 0, .int .i64 0, .int .i64 0, .int .i64 0, .int .i64 0]) (t := 53) ?hr ?_; (case hd => rfl); (case hg => rfl); (case hr => first | (go_simp; done) | (go_simp; rfl)); intro g hgg w2 hbox hb; have GE := Aside0.mk (show w.heap.size ≤ g from by rw [hgg]; exact below_size HB.out); have BC := Aside0.mk hbox; have HB2 := Aside0.mk (below_step HB.out hb); clear hb hbox hgg HB))
    have BC : Aside0 (w2.heap[g]? = some (.cells (nums .i64 (List.replicate 36 0)).toArray 53 (0, 0))) := BC
    have HLc : Aside0 ((List.replicate 36 (0 : Int)).length = 36) := ⟨rfl⟩
    generalize List.replicate 36 (0 : Int) = c1 at BC HLc H'
    have HO : Aside0 (Kd.R Kd.string 9 w2 w.heap.size (fun k_ => k_ ≠ g) (.slice none 0 0) []) := ⟨Kd.R_nil _ _ _ _ _⟩
    go_loopg [6, 17] k (fun kq v6 v17 w' => ∃ (i : Int) (cc : List Int) (out : List ByteArray), v17 = .int .i64 i ∧ Aside0 (0 ≤ i) ∧ Aside0 (number_Labels.l0 kq l0 i cc out = some r1) ∧ Aside0 (cc.length = 36) ∧ Aside0 (w'.heap[g]? = some (.cells (nums .i64 cc).toArray 53 (0, 0))) ∧ Aside0 (Kd.R Kd.string 9 w' w.heap.size (fun k_ => k_ ≠ g) v6 out) ∧ Aside0 (Below w.heap.size w w'))
    case atStart => exact ⟨0, c1, [], rfl, ⟨by omega⟩, H', HLc, BC, HO, HB2⟩
    case round =>
      clear H' HLc BC HO HB2
      obtain ⟨i, cc, out, rfl, HI, HA, HLc, BC, HO, HB⟩ := hrel
      cases gk with
      | zero => exact absurd HA.out (by simp [number_Labels.l0])
      | succ k1 =>
        have H := HA.out
        clear HA
        simp only [number_Labels.l0] at H
        by_cases c3 : i < (l0.length : Int)
        · rw [if_pos c3, if_pos HI.out] at H
          have c3b : decide (i < (l0.length : Int)) = true := decide_eq_true c3
          have hlen : out.length < 4000 := by
            rcases Classical.em (out.length < 4000) with c | c
            · exact c
            · rw [if_neg c] at H; cases H
          rw [if_pos hlen] at H
          have p104 : 0 ≤ i := HI.out
          obtain ⟨ad, e104, hx0, hx1⟩ := at_T36 HR0.out i p104 c3
          subst e104
          replace hx0 := (HB.out.cell (World.block_lt_of_cell? w _ hx0)).trans hx0
          replace hx1 := (HB.out.cell (World.block_lt_of_cell? w _ hx1)).trans hx1
          obtain ⟨F0, hF0⟩ : ∃ F0, F0 = (rd_T36 l0 i).f0 := ⟨_, rfl⟩
          obtain ⟨F1, hF1⟩ : ∃ F1, F1 = (rd_T36 l0 i).f1 := ⟨_, rfl⟩
          rw [← hF0] at hx0 H
          rw [← hF1] at hx1 H
          clear hF0 hF1
          have H1 := Aside0.mk H
          clear H
          replace c3 := eq_true c3
          go_upto_region 10 with (fail)
          have BE : Aside0 ((wr.alloc (Obj.cells #[.int .i64 F0, .int .i64 F1] 36)).heap[wr.heap.size]? = some (.cells #[.int .i64 F0, .int .i64 F1] 36 (0, 0))) := ⟨blk_new _ _⟩
          have BC2 : Aside0 ((wr.alloc (Obj.cells #[.int .i64 F0, .int .i64 F1] 36)).heap[g]? = some (.cells (nums .i64 cc).toArray 53 (0, 0))) := ⟨blk_below BC.out (below_alloc (Below.refl _ _) _)⟩
          have HO2 : Aside0 (Kd.R Kd.string 9 (wr.alloc (Obj.cells #[.int .i64 F0, .int .i64 F1] 36)) w.heap.size (fun k_ => k_ ≠ g) u6 out) := ⟨Kd.R_alloc HO.out _⟩
          have HB2 : Aside0 (Below w.heap.size w (wr.alloc (Obj.cells #[.int .i64 F0, .int .i64 F1] 36))) := ⟨below_alloc HB.out _⟩
          have NE : Aside0 (wr.heap.size ≠ g) := ⟨by have := blk_lt BC.out; omega⟩
          clear BC HO HB hx0 hx1
          generalize wr.alloc (Obj.cells #[.int .i64 F0, .int .i64 F1] 36) = w3 at BE BC2 HO2 HB2 ⊢
          generalize wr.heap.size = gE at BE NE ⊢
          have BC := BC2
          have HB := HB2
          have HO := HO2
          clear BC2 HB2 HO2
          have e0 := (blk_cell BE.out 0).trans rfl
          have hw : i + 1 ≤ 4000 := by have := c3.symm ▸ trivial; have := of_eq_true c3; omega
          have H := H1.out
          clear H1
          by_cases c4 : F0 > 0
          · rw [if_pos c4] at H
            have c4b : decide (0 < F0) = true := decide_eq_true c4
            have p8 : F0 ≤ 8 := by
              rcases Classical.em (F0 ≤ 8) with c | c
              · exact c
              · rw [if_neg c] at H; cases H
            rw [if_pos p8] at H
            have q0 : 0 ≤ F1 := by
              rcases Classical.em (0 ≤ F1) with c | c
              · exact c
              · rw [if_neg c] at H; cases H
            rw [if_pos q0] at H
            have q3 : F1 ≤ 3 := by
              rcases Classical.em (F1 ≤ 3) with c | c
              · exact c
              · rw [if_neg c] at H; cases H
            rw [if_pos q3] at H
            have p0 : 0 ≤ F0 := by omega
            obtain ⟨c2, hadd, H⟩ := Option.bind_eq_some_iff.mp H
            obtain ⟨⟨tS, tE⟩, hlab, H⟩ := Option.bind_eq_some_iff.mp H
            have HAdd := Aside0.mk hadd
            have HLab := Aside0.mk hlab
            have HL2 : Aside0 (c2.length = 36) := ⟨(Cnt.addL_len hadd).trans HLc.out⟩
            have H' : Aside0 (number_Labels.l0 k1 l0 (i + 1) c2 (out ++ [tS]) = some r1) := ⟨H⟩
            clear H hadd hlab
            go_wp2
            refine start_ (n := 9) (S := fun w' => w'.heap[gE]? = some (.cells #[.int .i64 F0, .int .i64 F1] 36 (0, 0)) ∧ w'.cell? ⟨gE, 0, none⟩ = some (.int .i64 F0) ∧ w'.cell? ⟨gE, 1, none⟩ = some (.int .i64 F1)) (ds := []) #[false, false, false, false, false, false, false, false, false] (by kernel_rfl) rfl rfl ⟨blk_drew BE.out, (blk_cell (blk_drew BE.out) 0).trans rfl, (blk_cell (blk_drew BE.out) 1).trans rfl⟩ (fun hHeld => ?_)
            refine pure_ (i := 0) (N := some 25) (v := ?_) (a' := ?_) #[true, false, false, false, false, false, false, false, false] rfl rfl (by kernel_rfl) (fun _ _ _ h => h) (Or.inl ⟨by rfl, ?_⟩) ?_ ?_
            rotate_left
            · intro w'
              go_simp
              with_reducible rfl
            rotate_left
            · simp only [Act.put, List.setIfInBounds_toArray, List.set_cons_zero, List.set_cons_succ, i64_w, i32_w]
              rfl
            refine take_ (i := 1) (N := some 26) (v := ?_) (a' := ?_) #[true, true, false, false, false, false, false, false, false] rfl rfl (by kernel_rfl) (fun _ _ _ h => h) (Or.inl ⟨by rfl, ?_⟩) hHeld ?_ ?_
            rotate_left
            · rintro w' ⟨s0, s1, s2⟩
              go_simp
              with_reducible rfl
            rotate_left
            · simp only [Act.put, List.setIfInBounds_toArray, List.set_cons_zero, List.set_cons_succ, i64_w, i32_w]
              rfl
            refine take_ (i := 2) (N := some 27) (v := ?_) (a' := ?_) #[true, true, true, false, false, false, false, false, false] rfl rfl (by kernel_rfl) (fun _ _ _ h => h) (Or.inl ⟨by rfl, ?_⟩) hHeld ?_ ?_
            rotate_left
            · rintro w' ⟨s0, s1, s2⟩
              go_simp
              with_reducible rfl
            rotate_left
            · simp only [Act.put, List.setIfInBounds_toArray, List.set_cons_zero, List.set_cons_succ, i64_w, i32_w]
              rfl
            refine one_ (i := 3) (N := some 28) #[true, true, true, true, false, false, false, false, false] rfl rfl (by kernel_rfl) (by decide) (fun K hK => ?_)
            refine goes_ Tryd.func29 (by kernel_rfl) rfl #[.pointer (some ⟨g, 0, none⟩), .agg #[.int .i64 F0, .int .i64 F1]] (by rfl) rfl rfl (by (simp only [List.map_toArray, List.map_cons, List.map_nil]); first | done | rfl) ?_
            with_reducible refine (Cnt.add_calls g cc c2 F0 F1 _ (blk_drew BC.out) HLc.out p0 p8 q0 q3 HAdd.out).mono ?_
            rintro e w4 ⟨rfl, hC4, hb4⟩
            refine ⟨_, rfl, ?_⟩
            refine hK.out _ _ ⟨blk_grown hHeld.1 hb4 (fun h => NE.out (Option.some.inj h)), (blk_cell (blk_grown hHeld.1 hb4 (fun h => NE.out (Option.some.inj h))) 0).trans rfl, (blk_cell (blk_grown hHeld.1 hb4 (fun h => NE.out (Option.some.inj h))) 1).trans rfl⟩ (fun hHeld => ?_)
            clear hK K
            refine norm_ (a' := ?_) ?_ ?_
            rotate_left
            · show Act.put _ (some 28) _ = _
              simp only [Act.put, List.setIfInBounds_toArray, List.set_cons_zero, List.set_cons_succ, i64_w, i32_w]
              rfl
            refine one_ (i := 4) (N := some 29) #[true, true, true, true, true, false, false, false, false] rfl rfl (by kernel_rfl) (by decide) (fun K hK => ?_)
            refine goes_ Tryd.func9 (by kernel_rfl) rfl #[.int .i64 F1, .int .i64 (c2.getD (Cnt.place F0 F1) 0)] (by rfl) rfl rfl (by (simp only [List.map_toArray, List.map_cons, List.map_nil]); first | done | rfl) ?_
            with_reducible refine (number_Label.calls k1 F1 (c2.getD (Cnt.place F0 F1) 0) tS tE _ (Ito.Tab.below htab.out (pw_below_grown (below_drew1 HB.out) (some g) (below_size (below_drew1 HB.out)) hb4 (fun k h => by cases h; exact GE.out))) HLab.out).mono ?_
            rintro e w5 ⟨rfl, hb5⟩
            refine ⟨_, rfl, ?_⟩
            refine hK.out _ _ ⟨blk_below hHeld.1 hb5, (blk_cell (blk_below hHeld.1 hb5) 0).trans rfl, (blk_cell (blk_below hHeld.1 hb5) 1).trans rfl⟩ (fun hHeld => ?_)
            clear hK K
            refine norm_ (a' := ?_) ?_ ?_
            rotate_left
            · show Act.put _ (some 29) _ = _
              simp only [Act.put, List.setIfInBounds_toArray, List.set_cons_zero, List.set_cons_succ, i64_w, i32_w]
              rfl
            refine pure_ (i := 5) (N := some 24) (v := ?_) (a' := ?_) #[true, true, true, true, true, true, false, false, false] rfl rfl (by kernel_rfl) (fun _ _ _ h => h) (Or.inl ⟨by rfl, ?_⟩) ?_ ?_
            rotate_left
            · intro w'
              go_simp
              with_reducible rfl
            rotate_left
            · simp only [Act.put, List.setIfInBounds_toArray, List.set_cons_zero, List.set_cons_succ, i64_w, i32_w]
              rfl
            refine pure_ (i := 6) (N := some 30) (v := ?_) (a' := ?_) #[true, true, true, true, true, true, true, false, false] rfl rfl (by kernel_rfl) (fun _ _ _ h => h) (Or.inl ⟨by rfl, ?_⟩) ?_ ?_
            rotate_left
            · intro w'
              go_simp
              with_reducible rfl
            rotate_left
            · simp only [Act.put, List.setIfInBounds_toArray, List.set_cons_zero, List.set_cons_succ, i64_w, i32_w]
              rfl
            refine pure_ (i := 7) (N := some 31) (v := ?_) (a' := ?_) #[true, true, true, true, true, true, true, true, false] rfl rfl (by kernel_rfl) (fun _ _ _ h => h) (Or.inl ⟨by rfl, ?_⟩) ?_ ?_
            rotate_left
            · intro w'
              go_simp
              with_reducible rfl
            rotate_left
            · simp only [Act.put, List.setIfInBounds_toArray, List.set_cons_zero, List.set_cons_succ, i64_w, i32_w]
              rfl
            refine pure_ (i := 8) (N := some 9) (v := ?_) (a' := ?_) #[true, true, true, true, true, true, true, true, true] rfl rfl (by kernel_rfl) (fun _ _ _ h => h) (Or.inl ⟨by rfl, ?_⟩) ?_ ?_
            rotate_left
            · intro w'
              go_simp
              with_reducible rfl
            rotate_left
            · simp only [Act.put, List.setIfInBounds_toArray, List.set_cons_zero, List.set_cons_succ, i64_w, i32_w]
              rfl
            refine done_ (by kernel_rfl) ?_
            have BC5 := Aside0.mk (blk_below hC4 hb5)
            have HB4 := Aside0.mk (pw_below_grown (below_drew1 HB.out) (some g) (below_size (below_drew1 HB.out)) hb4 (fun k h => by cases h; exact GE.out))
            have HB5 := Aside0.mk (below_step HB4.out hb5)
            have HO5 : Aside0 (Kd.R Kd.string 9 w5 w.heap.size (fun k_ => k_ ≠ g) u6 out) := ⟨Kd.R_below (Kd.R_grown (Kd.R_drew HO.out) hb4 (fun k hk h => hk (Option.some.inj h))) hb5⟩
            clear hC4 hb4 hb5 hHeld HB HO BC BE HB4 e0
            go_wp2_with (first | ((with_reducible refine gate_builtin (b := .append) (xs := #[.tmp 32, .tmp 34]) rfl ?_); at_builtin; refine Kd.R_append Kd.string (w0 := w) w.heap.size rfl (.tmp 32) (.tmp 34) 32 9 (.string ⟨#[]⟩) 16 rfl Tryd.underlying32 infoS rfl (by decide) (by omega) u6 out tS [.string tS] (fun k_ => k_ ≠ g) (fun _ => False) rfl rfl ?aP (fun _ hk => hk.elim) ?aF ?aO ?aB ?aS ?aL ?_; (case aP => exact rfl); (case aF => exact (fun k_ hk => by have h1_ := blk_lt BC5.out; omega)); (case aO => exact HO5.out); (case aB => exact HB5.out); (case aS => exact below_size HB5.out); (case aL => omega); intro v8 w8 ho8 hb8 hg8 hat8; have BC8 := Aside0.mk (blk_grown BC5.out hg8 (fun h => HO5.out.1 g h.symm rfl)); have HO8 := Aside0.mk ho8; have HB8 := Aside0.mk hb8; clear ho8 hb8 hg8 hat8))
            go_roundg k1
            case measure => omega
            case rel => exact ⟨i + 1, c2, out ++ [tS], (by first | rfl | (simp; done) | (simp [*]; done)), ⟨by omega⟩, H', HL2, BC8, HO8, HB8⟩
          · rw [if_neg c4] at H
            have c4b : decide (0 < F0) = false := decide_eq_false c4
            have H' := Aside0.mk H
            clear H
            have BC3 := BC
            have HO3 := HO
            have HB3 := HB
            clear BC HO HB
            go_wp2_with (first | ((with_reducible refine gate_builtin (b := .append) (xs := #[.tmp 32, .tmp 34]) rfl ?_); at_builtin; refine Kd.R_append Kd.string (w0 := w) w.heap.size rfl (.tmp 32) (.tmp 34) 32 9 (.string ⟨#[]⟩) 16 rfl Tryd.underlying32 infoS rfl (by decide) (by omega) u6 out (⟨#[]⟩ : ByteArray) [.string (⟨#[]⟩ : ByteArray)] (fun k_ => k_ ≠ g) (fun _ => False) rfl rfl ?aP (fun _ hk => hk.elim) ?aF ?aO ?aB ?aS ?aL ?_; (case aP => exact rfl); (case aF => exact (fun k_ hk => by have h1_ := blk_lt BC3.out; omega)); (case aO => exact HO3.out); (case aB => exact HB3.out); (case aS => exact below_size HB3.out); (case aL => omega); intro v8 w8 ho8 hb8 hg8 hat8; have BC8 := Aside0.mk (blk_grown BC3.out hg8 (fun h => HO3.out.1 g h.symm rfl)); have HO8 := Aside0.mk ho8; have HB8 := Aside0.mk hb8; clear ho8 hb8 hg8 hat8))
            go_roundg k1
            case measure => omega
            case rel => exact ⟨i + 1, cc, out ++ [(⟨#[]⟩ : ByteArray)], (by first | rfl | (simp; done) | (simp [*]; done)), ⟨by omega⟩, H', HLc, BC8, HO8, HB8⟩
        · rw [if_neg c3] at H
          have c3b : decide (i < (l0.length : Int)) = false := decide_eq_false c3
          obtain rfl := Option.some.inj H
          go_wp2
          go_ret2
          exact ⟨_, rfl, Kd.R_mono HO.out (fun _ _ => trivial), HB.out⟩
  · rw [if_neg ce] at H
    cases H
    have ce0 : (r2 == 0) = false := beq_eq_false_iff_ne.mpr ce
    have ce1 : (r2 != 0) = true := bne_iff_ne.mpr ce
    go_enter Tryd.func15, Tryd.ntmps15
    go_wp2_with (first | (go_at_call 28; refine (number_wrong.calls k A0 c0 l0 r2 w HR0.out HC0.out AW.out).mono ?_; rintro e w1 ⟨rfl, hb⟩; have HB1 := Aside0.mk hb; clear hb HB; have HB := HB1; clear HB1))
    go_ret2
    exact ⟨_, rfl, Kd.R_nil _ _ _ _ _, HB.out⟩


def number_Counts.l0 : Nat → List S36 → Int → List Int → Option (List Int)
  | 0, _, _, _ => none
  | k + 1, l, i, c => if i < (l.length : Int) then (if 0 ≤ i then (if (rd_T36 l i).f0 > 0 then (if (rd_T36 l i).f0 ≤ 8 then (if 0 ≤ (rd_T36 l i).f1 then (if (rd_T36 l i).f1 ≤ 3 then ((Cnt.addL c (rd_T36 l i).f0 (rd_T36 l i).f1).bind fun c2 => number_Counts.l0 k l (i + 1) c2) else none) else none) else none) else number_Counts.l0 k l (i + 1) c) else none) else some c
def number_Counts.f (k : Nat) (l0 : List S36) (a1 : Int) : Option (List Int × Int) := (number_wrong.f k l0).bind fun e => if e = 0 then (if a1 < 1 then some (([] : List Int), (2 : Int)) else (if a1 > 8 then some (([] : List Int), (2 : Int)) else (number_Counts.l0 k l0 0 (List.replicate 36 0)).bind (fun c => some ((c.drop (a1.toNat * 4)).take 4, (0 : Int))))) else some (([] : List Int), e)
theorem number_Counts.mono_l : ∀ k, (∀ y0 y1 y2, LeO (number_Counts.l0 k y0 y1 y2) (number_Counts.l0 (k + 1) y0 y1 y2))
  | 0 => fun _ _ _ r h => by simp [number_Counts.l0] at h
  | k + 1 => by
    have ih0 := number_Counts.mono_l k
    intro y0 y1 y2
    unfold number_Counts.l0
    exact LeO.ite (LeO.ite (LeO.ite (LeO.ite (LeO.ite (LeO.ite (LeO.bind (LeO.refl _) (fun _ => ih0 _ _ _)) (LeO.none _)) (LeO.none _)) (LeO.none _)) (ih0 _ _ _)) (LeO.none _)) (LeO.refl _)
theorem number_Counts.mono : ∀ a0 a1 k, LeO (number_Counts.f k a0 a1) (number_Counts.f (k + 1) a0 a1) := by
  intro a0 a1 k
  unfold number_Counts.f
  exact LeO.bind (number_wrong.mono a0 k) (fun _ => LeO.ite (LeO.ite (LeO.refl _) (LeO.ite (LeO.refl _) (LeO.bind (number_Counts.mono_l k _ _ _) (fun _ => LeO.refl _)))) (LeO.refl _))
theorem number_Counts.len {k : Nat} {l : List S36} {i : Int} {c r : List Int} (h : number_Counts.l0 k l i c = some r) : r.length = c.length := by
  induction k generalizing i c with
  | zero => simp [number_Counts.l0] at h
  | succ k ih =>
    simp only [number_Counts.l0] at h
    split at h
    · split at h
      · split at h
        · split at h
          · split at h
            · split at h
              · obtain ⟨c2, h1, h2⟩ := Option.bind_eq_some_iff.mp h
                exact (ih h2).trans (Cnt.addL_len h1)
              · cases h
            · cases h
          · cases h
        · exact ih h
      · cases h
    · cases h; rfl
set_option maxHeartbeats 4000000 in
set_option maxRecDepth 100000 in
theorem number_Counts.calls (k : Nat) (A0 : Option Addr) (c0 : Nat) (l0 : List (S36)) (a1 : Int) (r1 : List Int) (r2 : Int) (w : World) (hr0 : Kd.C k36 w A0 l0.length l0) (hc0 : l0.length ≤ c0) (h : number_Counts.f k l0 a1 = some (r1, r2)) :
    Calls Tryd.prog 16 #[.slice A0 l0.length c0, .int .i64 a1] w fun e w' => ∃ v0_ : Value, e = .returned (.tuple #[v0_, .int .i64 r2]) ∧ Kd.R (Kd.int .i64) 3 w' w.heap.size (fun _ => True) v0_ r1 ∧ Below w.heap.size w w' := by
  have hu36 := Tryd.underlying36
  have hu53 := Tryd.underlying53
  have hu51 := Tryd.underlying51
  have HR0 := Aside0.mk hr0
  have HC0 := Aside0.mk hc0
  clear hr0 hc0
  have HB := Aside0.mk (Below.refl w.heap.size w)
  unfold number_Counts.f at h
  obtain ⟨e, he, H⟩ := Option.bind_eq_some_iff.mp h
  clear h
  have AW := Aside0.mk he
  clear he
  by_cases ce : e = 0
  · subst ce
    rw [if_pos rfl] at H
    by_cases d1 : a1 < 1
    · rw [if_pos d1] at H
      cases H
      have d1b : decide (a1 < 1) = true := decide_eq_true d1
      go_enter Tryd.func16, Tryd.ntmps16
      go_wp2_with (first | (go_at_call 28; refine (number_wrong.calls k A0 c0 l0 0 w HR0.out HC0.out AW.out).mono ?_; rintro e w1 ⟨rfl, hb⟩; have HB1 := Aside0.mk hb; clear hb HB; have HB := HB1; clear HB1))
      go_ret2
      exact ⟨_, rfl, Kd.R_nil _ _ _ _ _, HB.out⟩
    · rw [if_neg d1] at H
      have d1b : decide (a1 < 1) = false := decide_eq_false d1
      by_cases d8 : a1 > 8
      · rw [if_pos d8] at H
        cases H
        have d8b : decide (8 < a1) = true := decide_eq_true d8
        go_enter Tryd.func16, Tryd.ntmps16
        go_wp2_with (first | (go_at_call 28; refine (number_wrong.calls k A0 c0 l0 0 w HR0.out HC0.out AW.out).mono ?_; rintro e w1 ⟨rfl, hb⟩; have HB1 := Aside0.mk hb; clear hb HB; have HB := HB1; clear HB1))
        go_ret2
        exact ⟨_, rfl, Kd.R_nil _ _ _ _ _, HB.out⟩
      · rw [if_neg d8] at H
        have d8b : decide (8 < a1) = false := decide_eq_false d8
        have d9 : a1 < 9 := by omega
        have d0 : 0 ≤ a1 := by omega
        obtain ⟨r, hr, H⟩ := Option.bind_eq_some_iff.mp H
        cases H
        have H' := Aside0.mk hr
        have hrl := (number_Counts.len hr).trans List.length_replicate
        clear hr
        have hl0 : l0.length ≤ 3999 := by
          rcases Classical.em ((l0.length : Int) > 3999) with c | c
          · have := AW.out
            unfold number_wrong.f at this
            rw [if_pos c] at this
            cases this
          · omega
        go_enter Tryd.func16, Tryd.ntmps16
        go_wp2_with (first | (go_at_call 28; refine (number_wrong.calls k A0 c0 l0 0 w HR0.out HC0.out AW.out).mono ?_; rintro e w1 ⟨rfl, hb⟩; have HB1 := Aside0.mk hb; clear hb HB; have HB := HB1; clear HB1) | ((with_reducible refine gate_dst (N := 7) rfl ?_); refine box_event ?hg (N := 7) ?hd (cs := #[.int .i64 0, .int .i64 0, .int .i64 0, .int .i64 0, .int .i64 0, .int .i64 0, .int .i64 0, .int .i64 0, .int .i64 0, .int .i64 0, .int .i64 0, .int .i64 0, .int .i64 0, .int .i64 0, .int .i64 0, .int .i64 0, .int .i64 0, .int .i64 0, .int .i64 0, .int .i64 0, .int .i64 0, .int .i64 0, .int .i64 0, .int .i64 0, .int .i64 0, .int .i64 0, .int .i64 0, .int .i64 0, .int .i64 0, .int .i64 0, .int .i64 0, .int .i64 0, .int .i64 0, .int .i64 0, .int .i64 0, .int .i64 0]) (t := 53) ?hr ?_; (case hd => rfl); (case hg => rfl); (case hr => first | (go_simp; done) | (go_simp; rfl)); intro g hgg w2 hbox hb; have GE := Aside0.mk (show w.heap.size ≤ g from by rw [hgg]; exact below_size HB.out); have BC := Aside0.mk hbox; have HB2 := Aside0.mk (below_step HB.out hb); clear hb hbox hgg HB))
        have BC : Aside0 (w2.heap[g]? = some (.cells (nums .i64 (List.replicate 36 0)).toArray 53 (0, 0))) := BC
        have HLc : Aside0 ((List.replicate 36 (0 : Int)).length = 36) := ⟨rfl⟩
        generalize List.replicate 36 (0 : Int) = c1 at BC HLc H'
        go_loopg [23] k (fun kq v23 w' => ∃ (i : Int) (cc : List Int), v23 = .int .i64 i ∧ Aside0 (0 ≤ i) ∧ Aside0 (number_Counts.l0 kq l0 i cc = some r) ∧ Aside0 (cc.length = 36) ∧ Aside0 (w'.heap[g]? = some (.cells (nums .i64 cc).toArray 53 (0, 0))) ∧ Aside0 (Below w.heap.size w w'))
        case atStart => exact ⟨0, c1, rfl, ⟨by omega⟩, H', HLc, BC, HB2⟩
        case round =>
          clear H' HLc BC HB2
          obtain ⟨i, cc, rfl, HI, HA, HLc, BC, HB⟩ := hrel
          cases gk with
          | zero => exact absurd HA.out (by simp [number_Counts.l0])
          | succ k1 =>
            have H := HA.out
            clear HA
            simp only [number_Counts.l0] at H
            by_cases c3 : i < (l0.length : Int)
            · rw [if_pos c3, if_pos HI.out] at H
              have c3b : decide (i < (l0.length : Int)) = true := decide_eq_true c3
              have p104 : 0 ≤ i := HI.out
              obtain ⟨ad, e104, hx0, hx1⟩ := at_T36 HR0.out i p104 c3
              subst e104
              replace hx0 := (HB.out.cell (World.block_lt_of_cell? w _ hx0)).trans hx0
              replace hx1 := (HB.out.cell (World.block_lt_of_cell? w _ hx1)).trans hx1
              obtain ⟨F0, hF0⟩ : ∃ F0, F0 = (rd_T36 l0 i).f0 := ⟨_, rfl⟩
              obtain ⟨F1, hF1⟩ : ∃ F1, F1 = (rd_T36 l0 i).f1 := ⟨_, rfl⟩
              rw [← hF0] at hx0 H
              rw [← hF1] at hx1 H
              clear hF0 hF1
              have H1 := Aside0.mk H
              clear H
              have hw : i + 1 ≤ 4000 := by omega
              replace c3 := eq_true c3
              go_upto_region 10 with (fail)
              have BE : Aside0 ((wr.alloc (Obj.cells #[.int .i64 F0, .int .i64 F1] 36)).heap[wr.heap.size]? = some (.cells #[.int .i64 F0, .int .i64 F1] 36 (0, 0))) := ⟨blk_new _ _⟩
              have BC2 : Aside0 ((wr.alloc (Obj.cells #[.int .i64 F0, .int .i64 F1] 36)).heap[g]? = some (.cells (nums .i64 cc).toArray 53 (0, 0))) := ⟨blk_below BC.out (below_alloc (Below.refl _ _) _)⟩
              have HB2 : Aside0 (Below w.heap.size w (wr.alloc (Obj.cells #[.int .i64 F0, .int .i64 F1] 36))) := ⟨below_alloc HB.out _⟩
              clear BC HB hx0 hx1
              generalize wr.alloc (Obj.cells #[.int .i64 F0, .int .i64 F1] 36) = w3 at BE BC2 HB2 ⊢
              generalize wr.heap.size = gE at BE ⊢
              have BC := BC2
              have HB := HB2
              clear BC2 HB2
              have e0 := (blk_cell BE.out 0).trans rfl
              have e1 := (blk_cell BE.out 1).trans rfl
              have H := H1.out
              clear H1
              by_cases c4 : F0 > 0
              · rw [if_pos c4] at H
                have c4b : decide (0 < F0) = true := decide_eq_true c4
                have p8 : F0 ≤ 8 := by
                  rcases Classical.em (F0 ≤ 8) with c | c
                  · exact c
                  · rw [if_neg c] at H; cases H
                rw [if_pos p8] at H
                have q0 : 0 ≤ F1 := by
                  rcases Classical.em (0 ≤ F1) with c | c
                  · exact c
                  · rw [if_neg c] at H; cases H
                rw [if_pos q0] at H
                have q3 : F1 ≤ 3 := by
                  rcases Classical.em (F1 ≤ 3) with c | c
                  · exact c
                  · rw [if_neg c] at H; cases H
                rw [if_pos q3] at H
                have p0 : 0 ≤ F0 := by omega
                obtain ⟨c2, hadd, H⟩ := Option.bind_eq_some_iff.mp H
                have HAdd := Aside0.mk hadd
                have HL2 : Aside0 (c2.length = 36) := ⟨(Cnt.addL_len hadd).trans HLc.out⟩
                have H' : Aside0 (number_Counts.l0 k1 l0 (i + 1) c2 = some r) := ⟨H⟩
                clear H hadd
                go_wp2_with (first | (go_at_call 29; refine (Cnt.add_calls g cc c2 F0 F1 _ BC.out HLc.out p0 p8 q0 q3 HAdd.out).mono ?_; rintro e w4 ⟨rfl, hC4, hb4⟩; have BC4 := Aside0.mk hC4; have HB4 := Aside0.mk (pw_below_grown HB.out (some g) (below_size HB.out) hb4 (fun k h => by cases h; exact GE.out)); clear hC4 hb4 BC HB))
                go_roundg k1
                case measure => omega
                case rel => exact ⟨i + 1, c2, (by first | rfl | (simp; done) | (simp [*]; done)), ⟨by omega⟩, H', HL2, BC4, HB4⟩
              · rw [if_neg c4] at H
                have c4b : decide (0 < F0) = false := decide_eq_false c4
                have H' := Aside0.mk H
                clear H
                go_wp2
                go_roundg k1
                case measure => omega
                case rel => exact ⟨i + 1, cc, (by first | rfl | (simp; done) | (simp [*]; done)), ⟨by omega⟩, H', HLc, BC, HB⟩
            · rw [if_neg c3] at H
              have c3b : decide (i < (l0.length : Int)) = false := decide_eq_false c3
              obtain rfl := Option.some.inj H
              have hz4 : ((cc.drop (a1.toNat * 4)).take 4).length = 4 := by rw [List.length_take, List.length_drop]; omega
              have hcl : ∀ j, j < ((cc.drop (a1.toNat * 4)).take 4).length → wr.cell? ⟨g, a1.toNat * 4 + j, none⟩ = some (.int .i64 (((cc.drop (a1.toNat * 4)).take 4).getD j 0)) := by
                intro j hj
                have hj4 : j < 4 := by omega
                refine (blk_cell BC.out _).trans ((Cnt.nums_at cc (a1.toNat * 4 + j) (by omega)).trans ?_)
                have : ((cc.drop (a1.toNat * 4)).take 4).getD j 0 = cc.getD (a1.toNat * 4 + j) 0 := by
                  simp [List.getD, List.getElem?_take, hj4]
                rw [this]
              have HCL := Aside0.mk (Tryd.slices_Clone_int g (a1.toNat * 4) 4 4 ((cc.drop (a1.toNat * 4)).take 4) wr (by omega) (by omega) hcl)
              clear hcl
              go_wp2_with (first | (go_at_call 30; refine HCL.out.mono ?_; rintro e w5 ⟨v5, rfl, ho5, hn5, hb5⟩; have HO5 := Aside0.mk ho5; have HB5 := Aside0.mk (below_step HB.out hb5); clear ho5 hb5 hn5 HCL))
              go_ret2
              refine ⟨_, rfl, ?_, HB5.out⟩
              have ho := HO5.out
              rw [List.take_of_length_le (by omega)] at ho
              exact Kd.R_lower (Kd.R_of_own (enc := Value.int .i64) (h1 := fun _ => rfl) (by rw [hz4]; exact ho) (fun _ _ => trivial)) (below_size HB.out)
  · rw [if_neg ce] at H
    cases H
    have ce0 : (r2 == 0) = false := beq_eq_false_iff_ne.mpr ce
    have ce1 : (r2 != 0) = true := bne_iff_ne.mpr ce
    go_enter Tryd.func16, Tryd.ntmps16
    go_wp2_with (first | (go_at_call 28; refine (number_wrong.calls k A0 c0 l0 r2 w HR0.out HC0.out AW.out).mono ?_; rintro e w1 ⟨rfl, hb⟩; have HB1 := Aside0.mk hb; clear hb HB; have HB := HB1; clear HB1))
    go_ret2
    exact ⟨_, rfl, Kd.R_nil _ _ _ _ _, HB.out⟩

end Go.Proofs.YtkemkpmcgeeieaaDoor.PNumberLabels
