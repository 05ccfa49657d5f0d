-- Written by a program of this session's (gprint.py over the kit's printer), with hand-written parts. Lean checks it.
import Derived.Test.YtkemkpmcgeeieaaDoorPNumberLabelsx0
import Derived.Test.YtkemkpmcgeeieaaDoorPNumberLabelsx2
namespace Go.Proofs.YtkemkpmcgeeieaaDoor.PNumberLabels
open Go.RowKit Go.Proofs.YtkemkpmcgeeieaaDoorW.PrintWords Go.Proofs.YtkemkpmcgeeieaaDoorW.PrintLast Go.Proofs.YtkemkpmcgeeieaaDoorW.PrintMore
attribute [local go_sem] max2_int min2_int max_two min_two max_three min_three max_four min_four   -- for this text's walks alone
set_option linter.unusedVariables false
set_option linter.unusedSimpArgs false

/-! ### quireref04_Check: function 17 -/
def quireref04_Check.l0 : Nat → List (S36) → Int → Option (Int)
  | 0, _, _ => none
  | k + 1, x0, x3 => if x3 < (x0.length : Int) then (if 0 ≤ x3 then (if ((rd_T36 x0 x3).f0) < 0 then (some 2) else (if ((rd_T36 x0 x3).f0) > 8 then (some 2) else (if ((rd_T36 x0 x3).f1) < 0 then (some 2) else (if ((rd_T36 x0 x3).f1) > 3 then (some 2) else (quireref04_Check.l0 k x0 (wrap64 (x3 + 1))))))) else (none)) else (some 0)
def quireref04_Check.f (k : Nat) (l0 : List (S36)) : Option (Int) := if (l0.length : Int) > 3999 then (some 3) else (quireref04_Check.l0 k l0 0)
theorem quireref04_Check.mono_l : ∀ k, (∀ y0 y1, LeO (quireref04_Check.l0 k y0 y1) (quireref04_Check.l0 (k + 1) y0 y1))
  | 0 => fun _ _ r h => by simp [quireref04_Check.l0] at h
  | k + 1 => by
    have ih0 := quireref04_Check.mono_l k
    · intro y0 y1
      unfold quireref04_Check.l0
      repeat' first
      | (with_reducible exact ih0 _ _)
      | (with_reducible exact LeO.refl _)
      | (with_reducible exact LeO.none _)
      | (with_reducible refine LeO.ite ?_ ?_)
      | (with_reducible refine LeO.bind ?_ (fun _ => ?_))
      | exact ih0 _ _
      | exact LeO.none _
      | refine LeO.ite ?_ ?_
      | refine LeO.bind ?_ (fun _ => ?_)
theorem quireref04_Check.mono : ∀ a0 k, LeO (quireref04_Check.f k a0) (quireref04_Check.f (k + 1) a0) := by
  intro a0 k
  have ih0 := quireref04_Check.mono_l k
  unfold quireref04_Check.f
  repeat' first
      | (with_reducible exact ih0 _ _)
      | (with_reducible exact LeO.refl _)
      | (with_reducible exact LeO.none _)
      | (with_reducible refine LeO.ite ?_ ?_)
      | (with_reducible refine LeO.bind ?_ (fun _ => ?_))
      | exact ih0 _ _
      | exact LeO.none _
      | refine LeO.ite ?_ ?_
      | refine LeO.bind ?_ (fun _ => ?_)
set_option maxHeartbeats 8000000 in
set_option maxRecDepth 100000 in
theorem quireref04_Check.calls (k : Nat) (A0 : Option Addr) (c0 : Nat) (l0 : List (S36)) (r : Int) (w : World) (hr0 : Kd.C k36 w A0 l0.length l0) (hc0 : l0.length ≤ c0) (h : quireref04_Check.f k l0 = some r) :
    Calls Tryd.prog 17 #[.slice A0 l0.length c0] w fun e w' => e = .returned (.int .i64 r) ∧ Drawn0 w w' := by
  have HR0 := Aside0.mk hr0
  have HC0 := Aside0.mk hc0
  clear hr0 hc0
  have H : (if (l0.length : Int) > 3999 then (some 3) else (quireref04_Check.l0 k l0 0)) = some r := h
  clear h
  by_cases c2 : (l0.length : Int) > 3999
  · rw [if_pos c2] at H
    have c2b0 : decide (3999 < (l0.length : Int)) = true := decide_eq_true c2
    have c2b1 : decide (3999 < l0.length) = true := decide_eq_true (by omega)
    clear c2
    obtain rfl := Option.some.inj H
    go_enter Tryd.func17, Tryd.ntmps17
    go_wp2
    go_ret
    exact ⟨by first | rfl | (simp; done) | (simp [*]; done), by repeat (first | exact Drawn0.refl _ | apply Drawn0.step)⟩
  · rw [if_neg c2] at H
    have c2b0 : decide (3999 < (l0.length : Int)) = false := decide_eq_false c2
    have c2b1 : decide (3999 < l0.length) = false := decide_eq_false (by omega)
    clear c2
    have H' := Aside0.mk H
    clear H
    go_enter Tryd.func17, Tryd.ntmps17
    go_wp2
    go_loopg [3] k (fun kq v3 w' => ∃ (x3_1 : Int), v3 = .int .i64 x3_1 ∧ Aside0 (quireref04_Check.l0 kq l0 x3_1 = some r) ∧ Aside0 (kq ≤ k) ∧ Drawn0 w w')
    case atStart => exact ⟨(0), (by first | rfl | (simp; done) | (simp [*]; done)), H', ⟨Nat.le_refl _⟩, by repeat (first | exact Drawn0.refl _ | apply Drawn0.step)⟩
    case round =>
      clear H'
      try clear c1
      try clear c2
      try clear c2b0
      try clear c2b1
      try clear p2
      obtain ⟨x3_1, rfl, HA, HK1, ⟨m1, rfl⟩⟩ := hrel
      cases gk with
      | zero => exact absurd HA.out (by simp [quireref04_Check.l0])
      | succ k1 =>
        have H := HA.out
        clear HA
        simp only [quireref04_Check.l0] at H
        by_cases c3 : x3_1 < (l0.length : Int)
        · rw [if_pos c3] at H
          have c3b0 : decide (x3_1 < (l0.length : Int)) = true := decide_eq_true c3
          clear c3
          by_cases c4 : 0 ≤ x3_1
          · rw [if_pos c4] at H
            have c4b0 : decide (0 ≤ x3_1) = true := decide_eq_true c4
            clear c4
            by_cases c5 : ((rd_T36 l0 x3_1).f0) < 0
            · rw [if_pos c5] at H
              have c5b0 : decide (((rd_T36 l0 x3_1).f0) < 0) = true := decide_eq_true c5
              clear c5
              obtain rfl := Option.some.inj H
              have p133 : 0 ≤ (x3_1 : Int) := of_decide_eq_true (by first | (with_reducible assumption) | assumption)
              have q133 : x3_1 < (l0.length : Int) := of_decide_eq_true (by first | (with_reducible assumption) | assumption)
              obtain ⟨ad133, e133, hx133_0, hx133_1⟩ := at_T36 HR0.out x3_1 p133 q133
              cases e133
              replace p133 := eq_true p133
              replace q133 := eq_true q133
              go_wp2
              go_ret
              exact ⟨by first | rfl | (simp; done) | (simp [*]; done), by repeat (first | exact Drawn0.refl _ | apply Drawn0.step)⟩
            · rw [if_neg c5] at H
              have c5b0 : decide (((rd_T36 l0 x3_1).f0) < 0) = false := decide_eq_false c5
              clear c5
              by_cases c6 : ((rd_T36 l0 x3_1).f0) > 8
              · rw [if_pos c6] at H
                have c6b0 : decide (8 < ((rd_T36 l0 x3_1).f0)) = true := decide_eq_true c6
                clear c6
                obtain rfl := Option.some.inj H
                have p133 : 0 ≤ (x3_1 : Int) := of_decide_eq_true (by first | (with_reducible assumption) | assumption)
                have q133 : x3_1 < (l0.length : Int) := of_decide_eq_true (by first | (with_reducible assumption) | assumption)
                obtain ⟨ad133, e133, hx133_0, hx133_1⟩ := at_T36 HR0.out x3_1 p133 q133
                cases e133
                replace p133 := eq_true p133
                replace q133 := eq_true q133
                have p134 : 0 ≤ (x3_1 : Int) := of_decide_eq_true (by first | (with_reducible assumption) | assumption)
                have q134 : x3_1 < (l0.length : Int) := of_decide_eq_true (by first | (with_reducible assumption) | assumption)
                obtain ⟨ad134, e134, hx134_0, hx134_1⟩ := at_T36 HR0.out x3_1 p134 q134
                obtain rfl : ad133 = ad134 := (by injection e134)
                replace p134 := eq_true p134
                replace q134 := eq_true q134
                go_wp2
                go_ret
                exact ⟨by first | rfl | (simp; done) | (simp [*]; done), by repeat (first | exact Drawn0.refl _ | apply Drawn0.step)⟩
              · rw [if_neg c6] at H
                have c6b0 : decide (8 < ((rd_T36 l0 x3_1).f0)) = false := decide_eq_false c6
                clear c6
                by_cases c7 : ((rd_T36 l0 x3_1).f1) < 0
                · rw [if_pos c7] at H
                  have c7b0 : decide (((rd_T36 l0 x3_1).f1) < 0) = true := decide_eq_true c7
                  clear c7
                  obtain rfl := Option.some.inj H
                  have p133 : 0 ≤ (x3_1 : Int) := of_decide_eq_true (by first | (with_reducible assumption) | assumption)
                  have q133 : x3_1 < (l0.length : Int) := of_decide_eq_true (by first | (with_reducible assumption) | assumption)
                  obtain ⟨ad133, e133, hx133_0, hx133_1⟩ := at_T36 HR0.out x3_1 p133 q133
                  cases e133
                  replace p133 := eq_true p133
                  replace q133 := eq_true q133
                  have p134 : 0 ≤ (x3_1 : Int) := of_decide_eq_true (by first | (with_reducible assumption) | assumption)
                  have q134 : x3_1 < (l0.length : Int) := of_decide_eq_true (by first | (with_reducible assumption) | assumption)
                  obtain ⟨ad134, e134, hx134_0, hx134_1⟩ := at_T36 HR0.out x3_1 p134 q134
                  obtain rfl : ad133 = ad134 := (by injection e134)
                  replace p134 := eq_true p134
                  replace q134 := eq_true q134
                  have p135 : 0 ≤ (x3_1 : Int) := of_decide_eq_true (by first | (with_reducible assumption) | assumption)
                  have q135 : x3_1 < (l0.length : Int) := of_decide_eq_true (by first | (with_reducible assumption) | assumption)
                  obtain ⟨ad135, e135, hx135_0, hx135_1⟩ := at_T36 HR0.out x3_1 p135 q135
                  obtain rfl : ad133 = ad135 := (by injection e135)
                  replace p135 := eq_true p135
                  replace q135 := eq_true q135
                  go_wp2
                  go_ret
                  exact ⟨by first | rfl | (simp; done) | (simp [*]; done), by repeat (first | exact Drawn0.refl _ | apply Drawn0.step)⟩
                · rw [if_neg c7] at H
                  have c7b0 : decide (((rd_T36 l0 x3_1).f1) < 0) = false := decide_eq_false c7
                  clear c7
                  by_cases c8 : ((rd_T36 l0 x3_1).f1) > 3
                  · rw [if_pos c8] at H
                    have c8b0 : decide (3 < ((rd_T36 l0 x3_1).f1)) = true := decide_eq_true c8
                    clear c8
                    obtain rfl := Option.some.inj H
                    have p133 : 0 ≤ (x3_1 : Int) := of_decide_eq_true (by first | (with_reducible assumption) | assumption)
                    have q133 : x3_1 < (l0.length : Int) := of_decide_eq_true (by first | (with_reducible assumption) | assumption)
                    obtain ⟨ad133, e133, hx133_0, hx133_1⟩ := at_T36 HR0.out x3_1 p133 q133
                    cases e133
                    replace p133 := eq_true p133
                    replace q133 := eq_true q133
                    have p134 : 0 ≤ (x3_1 : Int) := of_decide_eq_true (by first | (with_reducible assumption) | assumption)
                    have q134 : x3_1 < (l0.length : Int) := of_decide_eq_true (by first | (with_reducible assumption) | assumption)
                    obtain ⟨ad134, e134, hx134_0, hx134_1⟩ := at_T36 HR0.out x3_1 p134 q134
                    obtain rfl : ad133 = ad134 := (by injection e134)
                    replace p134 := eq_true p134
                    replace q134 := eq_true q134
                    have p135 : 0 ≤ (x3_1 : Int) := of_decide_eq_true (by first | (with_reducible assumption) | assumption)
                    have q135 : x3_1 < (l0.length : Int) := of_decide_eq_true (by first | (with_reducible assumption) | assumption)
                    obtain ⟨ad135, e135, hx135_0, hx135_1⟩ := at_T36 HR0.out x3_1 p135 q135
                    obtain rfl : ad133 = ad135 := (by injection e135)
                    replace p135 := eq_true p135
                    replace q135 := eq_true q135
                    have p136 : 0 ≤ (x3_1 : Int) := of_decide_eq_true (by first | (with_reducible assumption) | assumption)
                    have q136 : x3_1 < (l0.length : Int) := of_decide_eq_true (by first | (with_reducible assumption) | assumption)
                    obtain ⟨ad136, e136, hx136_0, hx136_1⟩ := at_T36 HR0.out x3_1 p136 q136
                    obtain rfl : ad133 = ad136 := (by injection e136)
                    replace p136 := eq_true p136
                    replace q136 := eq_true q136
                    go_wp2
                    go_ret
                    exact ⟨by first | rfl | (simp; done) | (simp [*]; done), by repeat (first | exact Drawn0.refl _ | apply Drawn0.step)⟩
                  · rw [if_neg c8] at H
                    have c8b0 : decide (3 < ((rd_T36 l0 x3_1).f1)) = false := decide_eq_false c8
                    clear c8
                    have H' := Aside0.mk H
                    clear H
                    have p133 : 0 ≤ (x3_1 : Int) := of_decide_eq_true (by first | (with_reducible assumption) | assumption)
                    have q133 : x3_1 < (l0.length : Int) := of_decide_eq_true (by first | (with_reducible assumption) | assumption)
                    obtain ⟨ad133, e133, hx133_0, hx133_1⟩ := at_T36 HR0.out x3_1 p133 q133
                    cases e133
                    replace p133 := eq_true p133
                    replace q133 := eq_true q133
                    have p134 : 0 ≤ (x3_1 : Int) := of_decide_eq_true (by first | (with_reducible assumption) | assumption)
                    have q134 : x3_1 < (l0.length : Int) := of_decide_eq_true (by first | (with_reducible assumption) | assumption)
                    obtain ⟨ad134, e134, hx134_0, hx134_1⟩ := at_T36 HR0.out x3_1 p134 q134
                    obtain rfl : ad133 = ad134 := (by injection e134)
                    replace p134 := eq_true p134
                    replace q134 := eq_true q134
                    have p135 : 0 ≤ (x3_1 : Int) := of_decide_eq_true (by first | (with_reducible assumption) | assumption)
                    have q135 : x3_1 < (l0.length : Int) := of_decide_eq_true (by first | (with_reducible assumption) | assumption)
                    obtain ⟨ad135, e135, hx135_0, hx135_1⟩ := at_T36 HR0.out x3_1 p135 q135
                    obtain rfl : ad133 = ad135 := (by injection e135)
                    replace p135 := eq_true p135
                    replace q135 := eq_true q135
                    have p136 : 0 ≤ (x3_1 : Int) := of_decide_eq_true (by first | (with_reducible assumption) | assumption)
                    have q136 : x3_1 < (l0.length : Int) := of_decide_eq_true (by first | (with_reducible assumption) | assumption)
                    obtain ⟨ad136, e136, hx136_0, hx136_1⟩ := at_T36 HR0.out x3_1 p136 q136
                    obtain rfl : ad133 = ad136 := (by injection e136)
                    replace p136 := eq_true p136
                    replace q136 := eq_true q136
                    go_wp2
                    go_roundg k1
                    case measure => have := HK1.out; omega
                    case rel => exact ⟨(wrap64 (x3_1 + 1)), (by first | rfl | (simp; done) | (simp [*]; done)), H', ⟨by have := HK1.out; omega⟩, by repeat (first | exact Drawn0.refl _ | apply Drawn0.step)⟩
          · rw [if_neg c4] at H
            exact absurd H (by simp)
        · rw [if_neg c3] at H
          have c3b0 : decide (x3_1 < (l0.length : Int)) = false := decide_eq_false c3
          clear c3
          obtain rfl := Option.some.inj H
          go_wp2
          go_ret
          exact ⟨by first | rfl | (simp; done) | (simp [*]; done), by repeat (first | exact Drawn0.refl _ | apply Drawn0.step)⟩

/-! ### quirekit_SameTexts: function 18 -/
def quirekit_SameTexts.l0 : Nat → List ByteArray → List ByteArray → Int → Option (Bool)
  | 0, _, _, _ => none
  | k + 1, x0, x1, x5 => if x5 < (x0.length : Int) then (if 0 ≤ x5 then (if x5 < (x1.length : Int) then (if (rdOf ByteArray.empty x0 x5).toList = (rdOf ByteArray.empty x1 x5).toList then (quirekit_SameTexts.l0 k x0 x1 (wrap64 (x5 + 1))) else (some false)) else (none)) else (none)) else (some true)
def quirekit_SameTexts.f (k : Nat) (l0 : List ByteArray) (l1 : List ByteArray) : Option (Bool) := if (l0.length : Int) = (l1.length : Int) then (quirekit_SameTexts.l0 k l0 l1 0) else (some false)
theorem quirekit_SameTexts.mono_l : ∀ k, (∀ y0 y1 y2, LeO (quirekit_SameTexts.l0 k y0 y1 y2) (quirekit_SameTexts.l0 (k + 1) y0 y1 y2))
  | 0 => fun _ _ _ r h => by simp [quirekit_SameTexts.l0] at h
  | k + 1 => by
    have ih0 := quirekit_SameTexts.mono_l k
    · intro y0 y1 y2
      unfold quirekit_SameTexts.l0
      repeat' first
      | (with_reducible exact ih0 _ _ _)
      | (with_reducible exact LeO.refl _)
      | (with_reducible exact LeO.none _)
      | (with_reducible refine LeO.ite ?_ ?_)
      | (with_reducible refine LeO.bind ?_ (fun _ => ?_))
      | exact ih0 _ _ _
      | exact LeO.none _
      | refine LeO.ite ?_ ?_
      | refine LeO.bind ?_ (fun _ => ?_)
theorem quirekit_SameTexts.mono : ∀ a0 a1 k, LeO (quirekit_SameTexts.f k a0 a1) (quirekit_SameTexts.f (k + 1) a0 a1) := by
  intro a0 a1 k
  have ih0 := quirekit_SameTexts.mono_l k
  unfold quirekit_SameTexts.f
  repeat' first
      | (with_reducible exact ih0 _ _ _)
      | (with_reducible exact LeO.refl _)
      | (with_reducible exact LeO.none _)
      | (with_reducible refine LeO.ite ?_ ?_)
      | (with_reducible refine LeO.bind ?_ (fun _ => ?_))
      | exact ih0 _ _ _
      | exact LeO.none _
      | refine LeO.ite ?_ ?_
      | refine LeO.bind ?_ (fun _ => ?_)
set_option maxHeartbeats 8000000 in
set_option maxRecDepth 100000 in
theorem quirekit_SameTexts.calls (k : Nat) (A0 : Option Addr) (c0 : Nat) (l0 : List ByteArray) (A1 : Option Addr) (c1 : Nat) (l1 : List ByteArray) (r : Bool) (w : World) (hr0 : Kd.C Kd.string w A0 l0.length l0) (hc0 : l0.length ≤ c0) (hr1 : Kd.C Kd.string w A1 l1.length l1) (hc1 : l1.length ≤ c1) (h : quirekit_SameTexts.f k l0 l1 = some r) :
    Calls Tryd.prog 18 #[.slice A0 l0.length c0, .slice A1 l1.length c1] w fun e w' => e = .returned (.bool r) ∧ Drawn0 w w' := by
  have HR0 := Aside0.mk hr0
  have HC0 := Aside0.mk hc0
  clear hr0 hc0
  have HR1 := Aside0.mk hr1
  have HC1 := Aside0.mk hc1
  clear hr1 hc1
  have H : (if (l0.length : Int) = (l1.length : Int) then (quirekit_SameTexts.l0 k l0 l1 0) else (some false)) = some r := h
  clear h
  by_cases c3 : (l0.length : Int) = (l1.length : Int)
  · rw [if_pos c3] at H
    have c3b0 : ((l0.length : Int) == (l1.length : Int)) = true := beq_iff_eq.mpr c3
    have c3b1 : ((l0.length : Int) != (l1.length : Int)) = false := bne_eq_false_iff_eq.mpr c3
    have c3b2 : (l0.length == l1.length) = true := by first | simpa using c3 | (simp at c3 ⊢; omega)
    clear c3
    have H' := Aside0.mk H
    clear H
    go_enter Tryd.func18, Tryd.ntmps18
    go_wp2
    repeat (go_quiet (fail); try go_wp2)
    go_loopg [5] k (fun kq v5 w' => ∃ (x5_1 : Int), v5 = .int .i64 x5_1 ∧ Aside0 (quirekit_SameTexts.l0 kq l0 l1 x5_1 = some r) ∧ Aside0 (kq ≤ k) ∧ Drawn0 w w')
    case atStart => exact ⟨(0), (by first | rfl | (simp; done) | (simp [*]; done)), H', ⟨Nat.le_refl _⟩, by repeat (first | exact Drawn0.refl _ | apply Drawn0.step)⟩
    case round =>
      clear H'
      try clear c1
      try clear p2
      try clear c3
      try clear c3b0
      try clear c3b1
      try clear c3b2
      obtain ⟨x5_1, rfl, HA, HK1, ⟨m1, rfl⟩⟩ := hrel
      cases gk with
      | zero => exact absurd HA.out (by simp [quirekit_SameTexts.l0])
      | succ k1 =>
        have H := HA.out
        clear HA
        simp only [quirekit_SameTexts.l0] at H
        by_cases c4 : x5_1 < (l0.length : Int)
        · rw [if_pos c4] at H
          have c4b0 : decide (x5_1 < (l0.length : Int)) = true := decide_eq_true c4
          clear c4
          by_cases c5 : 0 ≤ x5_1
          · rw [if_pos c5] at H
            have c5b0 : decide (0 ≤ x5_1) = true := decide_eq_true c5
            clear c5
            by_cases c6 : x5_1 < (l1.length : Int)
            · rw [if_pos c6] at H
              have c6b0 : decide (x5_1 < (l1.length : Int)) = true := decide_eq_true c6
              clear c6
              by_cases c7 : (rdOf ByteArray.empty l0 x5_1).toList = (rdOf ByteArray.empty l1 x5_1).toList
              · rw [if_pos c7] at H
                have c7b0 : ((rdOf ByteArray.empty l0 x5_1).toList == (rdOf ByteArray.empty l1 x5_1).toList) = true := beq_iff_eq.mpr c7
                have c7b1 : ((rdOf ByteArray.empty l0 x5_1).toList != (rdOf ByteArray.empty l1 x5_1).toList) = false := bne_eq_false_iff_eq.mpr c7
                clear c7
                have H' := Aside0.mk H
                clear H
                have p137 : 0 ≤ (x5_1 : Int) := of_decide_eq_true (by first | (with_reducible assumption) | assumption)
                have q137 : x5_1 < (l0.length : Int) := of_decide_eq_true (by first | (with_reducible assumption) | assumption)
                obtain ⟨ad137, e137, hx137_0⟩ := Kd.at_string HR0.out x5_1 p137 q137
                cases e137
                replace p137 := eq_true p137
                replace q137 := eq_true q137
                have p138 : 0 ≤ (x5_1 : Int) := of_decide_eq_true (by first | (with_reducible assumption) | assumption)
                have q138 : x5_1 < (l1.length : Int) := of_decide_eq_true (by first | (with_reducible assumption) | assumption)
                obtain ⟨ad138, e138, hx138_0⟩ := Kd.at_string HR1.out x5_1 p138 q138
                cases e138
                replace p138 := eq_true p138
                replace q138 := eq_true q138
                go_wp2
                repeat (go_quiet (fail); try go_wp2)
                go_roundg k1
                case measure => have := HK1.out; omega
                case rel => exact ⟨(wrap64 (x5_1 + 1)), (by first | rfl | (simp; done) | (simp [*]; done)), H', ⟨by have := HK1.out; omega⟩, by repeat (first | exact Drawn0.refl _ | apply Drawn0.step)⟩
              · rw [if_neg c7] at H
                have c7b0 : ((rdOf ByteArray.empty l0 x5_1).toList == (rdOf ByteArray.empty l1 x5_1).toList) = false := beq_eq_false_iff_ne.mpr c7
                have c7b1 : ((rdOf ByteArray.empty l0 x5_1).toList != (rdOf ByteArray.empty l1 x5_1).toList) = true := bne_iff_ne.mpr c7
                obtain rfl := Option.some.inj H
                have p137 : 0 ≤ (x5_1 : Int) := of_decide_eq_true (by first | (with_reducible assumption) | assumption)
                have q137 : x5_1 < (l0.length : Int) := of_decide_eq_true (by first | (with_reducible assumption) | assumption)
                obtain ⟨ad137, e137, hx137_0⟩ := Kd.at_string HR0.out x5_1 p137 q137
                cases e137
                replace p137 := eq_true p137
                replace q137 := eq_true q137
                have p138 : 0 ≤ (x5_1 : Int) := of_decide_eq_true (by first | (with_reducible assumption) | assumption)
                have q138 : x5_1 < (l1.length : Int) := of_decide_eq_true (by first | (with_reducible assumption) | assumption)
                obtain ⟨ad138, e138, hx138_0⟩ := Kd.at_string HR1.out x5_1 p138 q138
                cases e138
                replace p138 := eq_true p138
                replace q138 := eq_true q138
                go_wp2
                repeat (go_quiet (fail); try go_wp2)
                go_ret
                exact ⟨by first | rfl | (simp; done) | (simp [*]; done), by repeat (first | exact Drawn0.refl _ | apply Drawn0.step)⟩
            · rw [if_neg c6] at H
              exact absurd H (by simp)
          · rw [if_neg c5] at H
            exact absurd H (by simp)
        · rw [if_neg c4] at H
          have c4b0 : decide (x5_1 < (l0.length : Int)) = false := decide_eq_false c4
          clear c4
          obtain rfl := Option.some.inj H
          go_wp2
          repeat (go_quiet (fail); try go_wp2)
          go_ret
          exact ⟨by first | rfl | (simp; done) | (simp [*]; done), by repeat (first | exact Drawn0.refl _ | apply Drawn0.step)⟩
  · rw [if_neg c3] at H
    have c3b0 : ((l0.length : Int) == (l1.length : Int)) = false := beq_eq_false_iff_ne.mpr c3
    have c3b1 : ((l0.length : Int) != (l1.length : Int)) = true := bne_iff_ne.mpr c3
    have c3b2 : (l0.length == l1.length) = false := by first | simpa using c3 | (simp at c3 ⊢; omega)
    obtain rfl := Option.some.inj H
    go_enter Tryd.func18, Tryd.ntmps18
    go_wp2
    repeat (go_quiet (fail); try go_wp2)
    go_ret
    exact ⟨by first | rfl | (simp; done) | (simp [*]; done), by repeat (first | exact Drawn0.refl _ | apply Drawn0.step)⟩

def quireref04_Labels.l0 : Nat → List S36 → Int → List Int → List ByteArray → Option (List ByteArray)
  | 0, _, _, _, _ => none
  | k + 1, l, i, c, out => if i < (l.length : Int) then (if 0 ≤ i then (if out.length < 4000 then (if (rd_T36 l i).f0 = 0 then quireref04_Labels.l0 k l (i + 1) c (out ++ [(⟨#[]⟩ : ByteArray)]) else (if 0 ≤ (rd_T36 l i).f0 then (if (rd_T36 l i).f0 ≤ 8 then (if 0 ≤ (rd_T36 l i).f1 then (if (rd_T36 l i).f1 ≤ 3 then ((Cnt.addL c (rd_T36 l i).f0 (rd_T36 l i).f1).bind fun c2 => (quireref04_Label.f k (rd_T36 l i).f1 (c2.getD (Cnt.place (rd_T36 l i).f0 (rd_T36 l i).f1) 0)).bind fun t => quireref04_Labels.l0 k l (i + 1) c2 (out ++ [t])) else none) else none) else none) else none)) else none) else none) else some out
def quireref04_Labels.f (k : Nat) (l0 : List S36) : Option (List ByteArray) := if l0.length < 100000 then quireref04_Labels.l0 k l0 0 (List.replicate 36 0) [] else none
theorem quireref04_Labels.mono_l : ∀ k, (∀ y0 y1 y2 y3, LeO (quireref04_Labels.l0 k y0 y1 y2 y3) (quireref04_Labels.l0 (k + 1) y0 y1 y2 y3))
  | 0 => fun _ _ _ _ r h => by simp [quireref04_Labels.l0] at h
  | k + 1 => by
    have ih0 := quireref04_Labels.mono_l k
    intro y0 y1 y2 y3
    unfold quireref04_Labels.l0
    exact LeO.ite (LeO.ite (LeO.ite (LeO.ite (ih0 _ _ _ _) (LeO.ite (LeO.ite (LeO.ite (LeO.ite (LeO.bind (LeO.refl _) (fun _ => LeO.bind (quireref04_Label.mono _ _ k) (fun _ => ih0 _ _ _ _))) (LeO.none _)) (LeO.none _)) (LeO.none _)) (LeO.none _))) (LeO.none _)) (LeO.none _)) (LeO.refl _)
theorem quireref04_Labels.mono : ∀ a0 k, LeO (quireref04_Labels.f k a0) (quireref04_Labels.f (k + 1) a0) := by
  intro a0 k
  unfold quireref04_Labels.f
  exact LeO.ite (quireref04_Labels.mono_l k _ _ _ _) (LeO.none _)
theorem infoR : (Tryd.prog.info? 9).map (fun i => (i.zero, i.size, i.bytes)) = some (some (.string ⟨#[]⟩), 1, 16) := by kernel_rfl
set_option maxHeartbeats 4000000 in
set_option maxRecDepth 100000 in
theorem quireref04_Labels.calls (k : Nat) (A0 : Option Addr) (c0 : Nat) (l0 : List (S36)) (r : List ByteArray) (w : World) (hr0 : Kd.C k36 w A0 l0.length l0) (hc0 : l0.length ≤ c0) (h : quireref04_Labels.f k l0 = some r) :
    Calls Tryd.prog 19 #[.slice A0 l0.length c0] w fun e w' => ∃ v0_ : Value, e = .returned v0_ ∧ Kd.R Kd.string 9 w' w.heap.size (fun _ => True) v0_ r ∧ Below w.heap.size w w' := by
  have hu36 := Tryd.underlying36
  have hu52 := Tryd.underlying52
  have hu51 := Tryd.underlying51
  have HR0 := Aside0.mk hr0
  have HC0 := Aside0.mk hc0
  clear hr0 hc0
  have HB := Aside0.mk (Below.refl w.heap.size w)
  unfold quireref04_Labels.f at h
  have hl0 : l0.length < 100000 := by
    rcases Classical.em (l0.length < 100000) with c | c
    · exact c
    · rw [if_neg c] at h; cases h
  rw [if_pos hl0] at h
  have H' := Aside0.mk h
  clear h
  go_enter Tryd.func19, Tryd.ntmps19
  go_wp2_with (first | ((with_reducible refine gate_dst (N := 4) rfl ?_); refine box_event ?hg (N := 4) ?hd (cs := #[.int .i64 0, .int .i64 0, .int .i64 0, .int .i64 0, .int .i64 0, .int .i64 0, .int .i64 0, .int .i64 0, .int .i64 0, .int .i64 0, .int .i64 0, .int .i64 0, .int .i64 0, .int .i64 0, .int .i64 0, .int .i64 0, .int .i64 0, .int .i64 0, .int .i64 0, .int .i64 0, .int .i64 0, .int .i64 0, .int .i64 0, .int .i64 0, .int .i64 0, .int .i64 0, .int .i64 0, .int .i64 0, .int .i64 0, .int .i64 0, .int .i64 0, .int .i64 0, .int .i64 0, .int .i64 0, .int .i64 0, .int .i64 0]) (t := 52) ?hr ?_; (case hd => rfl); (case hg => rfl); (case hr => first | (go_simp; done) | (go_simp; rfl)); intro g hgg w2 hbox hb; have GE := Aside0.mk (show w.heap.size ≤ g from by rw [hgg]; exact below_size HB.out); have BC := Aside0.mk hbox; have HB2 := Aside0.mk (below_step HB.out hb); clear hb hbox hgg HB))
  have BC : Aside0 (w2.heap[g]? = some (.cells (nums .i64 (List.replicate 36 0)).toArray 52 (0, 0))) := BC
  have HLc : Aside0 ((List.replicate 36 (0 : Int)).length = 36) := ⟨rfl⟩
  generalize List.replicate 36 (0 : Int) = c1 at BC HLc H'
  have HO : Aside0 (Kd.R Kd.string 9 w2 w.heap.size (fun k_ => k_ ≠ g) (.slice none 0 0) []) := ⟨Kd.R_nil _ _ _ _ _⟩
  go_loopg [3, 5] k (fun kq v3 v5 w' => ∃ (i : Int) (cc : List Int) (out : List ByteArray), v5 = .int .i64 i ∧ Aside0 (0 ≤ i) ∧ Aside0 (quireref04_Labels.l0 kq l0 i cc out = some r) ∧ Aside0 (cc.length = 36) ∧ Aside0 (w'.heap[g]? = some (.cells (nums .i64 cc).toArray 52 (0, 0))) ∧ Aside0 (Kd.R Kd.string 9 w' w.heap.size (fun k_ => k_ ≠ g) v3 out) ∧ Aside0 (Below w.heap.size w w'))
  case atStart => exact ⟨0, c1, [], rfl, ⟨by omega⟩, H', HLc, BC, HO, HB2⟩
  case round =>
    clear H' HLc BC HO HB2
    obtain ⟨i, cc, out, rfl, HI, HA, HLc, BC, HO, HB⟩ := hrel
    cases gk with
    | zero => exact absurd HA.out (by simp [quireref04_Labels.l0])
    | succ k1 =>
      have H := HA.out
      clear HA
      simp only [quireref04_Labels.l0] at H
      by_cases c3 : i < (l0.length : Int)
      · rw [if_pos c3, if_pos HI.out] at H
        have c3b : decide (i < (l0.length : Int)) = true := decide_eq_true c3
        have hlen : out.length < 4000 := by
          rcases Classical.em (out.length < 4000) with c | c
          · exact c
          · rw [if_neg c] at H; cases H
        rw [if_pos hlen] at H
        have p104 : 0 ≤ i := HI.out
        obtain ⟨ad, e104, hx0, hx1⟩ := at_T36 HR0.out i p104 c3
        subst e104
        replace hx0 := (HB.out.cell (World.block_lt_of_cell? w _ hx0)).trans hx0
        replace hx1 := (HB.out.cell (World.block_lt_of_cell? w _ hx1)).trans hx1
        obtain ⟨F0, hF0⟩ : ∃ F0, F0 = (rd_T36 l0 i).f0 := ⟨_, rfl⟩
        obtain ⟨F1, hF1⟩ : ∃ F1, F1 = (rd_T36 l0 i).f1 := ⟨_, rfl⟩
        rw [← hF0] at hx0 H
        rw [← hF1] at hx1 H
        clear hF0 hF1
        have H1 := Aside0.mk H
        clear H
        have hw : i + 1 ≤ 200000 := by omega
        replace c3 := eq_true c3
        go_upto_region 7 with (fail)
        have BE : Aside0 ((wr.alloc (Obj.cells #[.int .i64 F0, .int .i64 F1] 36)).heap[wr.heap.size]? = some (.cells #[.int .i64 F0, .int .i64 F1] 36 (0, 0))) := ⟨blk_new _ _⟩
        have BC2 : Aside0 ((wr.alloc (Obj.cells #[.int .i64 F0, .int .i64 F1] 36)).heap[g]? = some (.cells (nums .i64 cc).toArray 52 (0, 0))) := ⟨blk_below BC.out (below_alloc (Below.refl _ _) _)⟩
        have HO2 : Aside0 (Kd.R Kd.string 9 (wr.alloc (Obj.cells #[.int .i64 F0, .int .i64 F1] 36)) w.heap.size (fun k_ => k_ ≠ g) u3 out) := ⟨Kd.R_alloc HO.out _⟩
        have HB2 : Aside0 (Below w.heap.size w (wr.alloc (Obj.cells #[.int .i64 F0, .int .i64 F1] 36))) := ⟨below_alloc HB.out _⟩
        have NE : Aside0 (wr.heap.size ≠ g) := ⟨by have := blk_lt BC.out; omega⟩
        clear BC HO HB hx0 hx1
        generalize wr.alloc (Obj.cells #[.int .i64 F0, .int .i64 F1] 36) = w3 at BE BC2 HO2 HB2 ⊢
        generalize wr.heap.size = gE at BE NE ⊢
        have BC := BC2
        have HB := HB2
        have HO := HO2
        clear BC2 HB2 HO2
        have e0 := (blk_cell BE.out 0).trans rfl
        have e1 := (blk_cell BE.out 1).trans rfl
        have H := H1.out
        clear H1
        by_cases c4 : F0 = 0
        · rw [if_pos c4] at H
          have c4b : (F0 == 0) = true := beq_iff_eq.mpr c4
          have H' := Aside0.mk H
          clear H
          have BC3 := BC
          have HO3 := HO
          have HB3 := HB
          clear BC HO HB
          clear c4
          go_wp2_with (first | ((with_reducible refine gate_builtin (b := .append) (xs := #[.tmp 21, .tmp 22]) rfl ?_); at_builtin; refine Kd.R_append Kd.string (w0 := w) w.heap.size rfl (.tmp 21) (.tmp 22) 32 9 (.string ⟨#[]⟩) 16 rfl Tryd.underlying32 infoR rfl (by decide) (by omega) u3 out (⟨#[]⟩ : ByteArray) [.string (⟨#[]⟩ : ByteArray)] (fun k_ => k_ ≠ g) (fun _ => False) rfl rfl ?aP (fun _ hk => hk.elim) ?aF ?aO ?aB ?aS ?aL ?_; (case aP => exact rfl); (case aF => exact (fun k_ hk => by have h1_ := blk_lt BC3.out; omega)); (case aO => exact HO3.out); (case aB => exact HB3.out); (case aS => exact below_size HB3.out); (case aL => omega); intro v8 w8 ho8 hb8 hg8 hat8; have BC8 := Aside0.mk (blk_grown BC3.out hg8 (fun h => HO3.out.1 g h.symm rfl)); have HO8 := Aside0.mk ho8; have HB8 := Aside0.mk hb8; clear ho8 hb8 hg8 hat8))
          go_roundg k1
          case measure => omega
          case rel => exact ⟨i + 1, cc, out ++ [(⟨#[]⟩ : ByteArray)], (by first | rfl | (simp; done) | (simp [*]; done)), ⟨by omega⟩, H', HLc, BC8, HO8, HB8⟩
        · rw [if_neg c4] at H
          have c4b : (F0 == 0) = false := beq_eq_false_iff_ne.mpr c4
          have p0 : 0 ≤ F0 := by
            rcases Classical.em (0 ≤ F0) with c | c
            · exact c
            · rw [if_neg c] at H; cases H
          rw [if_pos p0] at H
          have p8 : F0 ≤ 8 := by
            rcases Classical.em (F0 ≤ 8) with c | c
            · exact c
            · rw [if_neg c] at H; cases H
          rw [if_pos p8] at H
          have q0 : 0 ≤ F1 := by
            rcases Classical.em (0 ≤ F1) with c | c
            · exact c
            · rw [if_neg c] at H; cases H
          rw [if_pos q0] at H
          have q3 : F1 ≤ 3 := by
            rcases Classical.em (F1 ≤ 3) with c | c
            · exact c
            · rw [if_neg c] at H; cases H
          rw [if_pos q3] at H
          have p9 : F0 < 9 := by omega
          have q4 : F1 < 4 := by omega
          obtain ⟨c2, hadd, H⟩ := Option.bind_eq_some_iff.mp H
          obtain ⟨tS, hlab, H⟩ := Option.bind_eq_some_iff.mp H
          have HLab := Aside0.mk hlab
          have HL2 : Aside0 (c2.length = 36) := ⟨(Cnt.addL_len hadd).trans HLc.out⟩
          have H' : Aside0 (quireref04_Labels.l0 k1 l0 (i + 1) c2 (out ++ [tS]) = some r) := ⟨H⟩
          have HZ : Aside0 (Cnt.zeroL 5 (cc.set (Cnt.place F0 F1) (Cnt.valL cc F0 F1)) (F0.toNat * 4) (F1 + 1) = some c2) := ⟨hadd⟩
          clear H hadd hlab
          have hx : w3.cell? ⟨g, F0.toNat * 4 + F1.toNat, none⟩ = some (.int .i64 (cc.getD (Cnt.place F0 F1) 0)) := (blk_cell BC.out _).trans (Cnt.nums_at cc (F0.toNat * 4 + F1.toNat) (by have := HLc.out; omega))
          have hxf : w3.frozen? ⟨g, F0.toNat * 4 + F1.toNat, none⟩ = false := blk_frozen BC.out _
          go_wp2
          refine wp_region_still_tail 10 (by kernel_rfl) (by kernel_rfl) ?_
          simp only [List.take_succ_cons, List.take_zero, List.drop_succ_cons, List.drop_zero]
          repeat still_step
          refine wpStill_nil ?_
          change wpList _ _ _ _ _ w3.drew
          go_upto_region 10 with (fail)
          have BC3 : Aside0 (((w3.setCell { block := g, off := F0.toNat * 4 + F1.toNat } (.int .i64 (wrap64 (cc[Cnt.place F0 F1]?.getD 0 + 1)))).drew).heap[g]? = some (.cells (nums .i64 (cc.set (Cnt.place F0 F1) (Cnt.valL cc F0 F1))).toArray 52 (0, 0))) := ⟨blk_put BC.out _ _ (Cnt.nums_set _ _ _)⟩
          have BE3 : Aside0 (((w3.setCell { block := g, off := F0.toNat * 4 + F1.toNat } (.int .i64 (wrap64 (cc[Cnt.place F0 F1]?.getD 0 + 1)))).drew).heap[gE]? = some (.cells #[.int .i64 F0, .int .i64 F1] 36 (0, 0))) := ⟨blk_far BE.out NE.out _⟩
          have HO3 : Aside0 (Kd.R Kd.string 9 ((w3.setCell { block := g, off := F0.toNat * 4 + F1.toNat } (.int .i64 (wrap64 (cc[Cnt.place F0 F1]?.getD 0 + 1)))).drew) w.heap.size (fun k_ => k_ ≠ g) u3 out) := ⟨Kd.R_drew (Kd.R_far (p := ⟨g, F0.toNat * 4 + F1.toNat, none⟩) HO.out (fun _ hk => hk) _)⟩
          have HB3 : Aside0 (Below w.heap.size w ((w3.setCell { block := g, off := F0.toNat * 4 + F1.toNat } (.int .i64 (wrap64 (cc[Cnt.place F0 F1]?.getD 0 + 1)))).drew)) := ⟨below_drew1 (below_set HB.out GE.out)⟩
          have HL3 : Aside0 ((cc.set (Cnt.place F0 F1) (Cnt.valL cc F0 F1)).length = 36) := ⟨by simpa using HLc.out⟩
          clear hx hxf e0 e1 BC BE HO HB HLc
          generalize (w3.setCell { block := g, off := F0.toNat * 4 + F1.toNat } (.int .i64 (wrap64 (cc[Cnt.place F0 F1]?.getD 0 + 1)))).drew = w4 at BC3 BE3 HO3 HB3 ⊢
          generalize cc.set (Cnt.place F0 F1) (Cnt.valL cc F0 F1) = c1 at BC3 HZ HL3
          have e1 := (blk_cell BE3.out 1).trans rfl
          go_wp2
          clear e1
          obtain ⟨K5, hK5⟩ : ∃ K5 : Nat, K5 = 5 := ⟨_, rfl⟩
          rw [← hK5] at HZ
          go_loopg [7] K5 (fun kq v7 w' => ∃ (kk : Int) (cd : List Int), v7 = .int .i64 kk ∧ Aside0 (0 ≤ kk ∧ kk ≤ 4) ∧ Aside0 (Cnt.zeroL kq cd (F0.toNat * 4) kk = some c2) ∧ Aside0 (cd.length = 36) ∧ Aside0 (w'.heap[g]? = some (.cells (nums .i64 cd).toArray 52 (0, 0))) ∧ Aside0 (w'.heap[gE]? = some (.cells #[.int .i64 F0, .int .i64 F1] 36 (0, 0))) ∧ Aside0 (Kd.R Kd.string 9 w' w.heap.size (fun k_ => k_ ≠ g) u3 out) ∧ Aside0 (Below w.heap.size w w'))
          case atStart => exact ⟨F1 + 1, c1, rfl, ⟨by omega, by omega⟩, HZ, HL3, BC3, BE3, HO3, HB3⟩
          case round =>
            clear HZ HL3 BC3 BE3 HO3 HB3
            obtain ⟨kk, cd, rfl, HK, HA, HLc, BC, BE, HO, HB⟩ := hrel
            cases gk with
            | zero => exact absurd HA.out (by simp [Cnt.zeroL])
            | succ k2 =>
              have H := HA.out
              clear HA
              simp only [Cnt.zeroL] at H
              have e0 := (blk_cell BE.out 0).trans rfl
              by_cases c6 : kk < 4
              · rw [if_pos c6] at H
                have c6b : decide (kk < 4) = true := decide_eq_true c6
                have k0 : 0 ≤ kk := HK.out.1
                have HZ := Aside0.mk H
                clear H
                have hx := (blk_cell BC.out (F0.toNat * 4 + kk.toNat)).trans (Cnt.nums_at cd (F0.toNat * 4 + kk.toNat) (by have := HLc.out; omega))
                have hxf := blk_frozen BC.out (F0.toNat * 4 + kk.toNat)
                go_wp2
                have BC2 := Aside0.mk (blk_put BC.out (F0.toNat * 4 + kk.toNat) (.int .i64 0) (Cnt.nums_set cd _ 0))
                have BE2 := Aside0.mk (blk_far BE.out (p := ⟨g, F0.toNat * 4 + kk.toNat, none⟩) NE.out (.int .i64 0))
                have HO2 : Aside0 (Kd.R Kd.string 9 _ w.heap.size (fun k_ => k_ ≠ g) u3 out) := ⟨Kd.R_far (p := ⟨g, F0.toNat * 4 + kk.toNat, none⟩) HO.out (fun _ hk => hk) (.int .i64 0)⟩
                have HB2 := Aside0.mk (below_set (j := F0.toNat * 4 + kk.toNat) (v := .int .i64 0) HB.out GE.out)
                go_roundg k2
                case measure => omega
                case rel => exact ⟨kk + 1, cd.set (F0.toNat * 4 + kk.toNat) 0, rfl, ⟨by omega, by omega⟩, HZ, ⟨by simpa using HLc.out⟩, BC2, BE2, HO2, HB2⟩
              · rw [if_neg c6] at H
                have c6b : decide (kk < 4) = false := decide_eq_false c6
                obtain rfl := Option.some.inj H
                clear H
                obtain ⟨NV, hNV⟩ : ∃ NV, NV = cd.getD (F0.toNat * 4 + F1.toNat) 0 := ⟨_, rfl⟩
                have HNV : Aside0 ((nums .i64 cd).toArray[F0.toNat * 4 + F1.toNat]? = some (.int .i64 NV)) := ⟨by rw [hNV]; exact Cnt.nums_at cd _ (by have := HLc.out; omega)⟩
                have HLab : Aside0 (quireref04_Label.f k1 F1 NV = some tS) := ⟨by rw [hNV]; exact HLab.out⟩
                clear hNV
                go_wp2
                refine start_ (n := 14) (S := fun w' => w'.heap[gE]? = some (.cells #[.int .i64 F0, .int .i64 F1] 36 (0, 0)) ∧ w'.cell? ⟨gE, 0, none⟩ = some (.int .i64 F0) ∧ w'.cell? ⟨gE, 1, none⟩ = some (.int .i64 F1) ∧ w'.heap[g]? = some (.cells (nums .i64 cd).toArray 52 (0, 0)) ∧ w'.cell? ⟨g, F0.toNat * 4 + F1.toNat, none⟩ = some (.int .i64 NV)) (ds := [12]) #[false, false, false, false, false, false, false, false, false, false, false, false, false, false] (by kernel_rfl) rfl rfl ⟨blk_drew BE.out, (blk_cell (blk_drew BE.out) 0).trans rfl, (blk_cell (blk_drew BE.out) 1).trans rfl, blk_drew BC.out, (blk_cell (blk_drew BC.out) _).trans HNV.out⟩ (fun hHeld => ?_)
                refine pure_ (i := 0) (N := some 46) (v := ?_) (a' := ?_) #[true, false, false, false, false, false, false, false, false, false, false, false, false, false] rfl rfl (by kernel_rfl) (fun _ _ _ h => h) (Or.inl ⟨by rfl, ?_⟩) ?_ ?_
                rotate_left
                · intro w'
                  go_simp
                  with_reducible rfl
                rotate_left
                · simp only [Act.put, List.setIfInBounds_toArray, List.set_cons_zero, List.set_cons_succ, i64_w, i32_w]
                  rfl
                refine pure_ (i := 1) (N := some 47) (v := ?_) (a' := ?_) #[true, true, false, false, false, false, false, false, false, false, false, false, false, false] rfl rfl (by kernel_rfl) (fun _ _ _ h => h) (Or.inl ⟨by rfl, ?_⟩) ?_ ?_
                rotate_left
                · intro w'
                  go_simp
                  with_reducible rfl
                rotate_left
                · simp only [Act.put, List.setIfInBounds_toArray, List.set_cons_zero, List.set_cons_succ, i64_w, i32_w]
                  rfl
                refine pure_ (i := 3) (N := some 49) (v := ?_) (a' := ?_) #[true, true, false, true, false, false, false, false, false, false, false, false, false, false] rfl rfl (by kernel_rfl) (fun _ _ _ h => h) (Or.inl ⟨by rfl, ?_⟩) ?_ ?_
                rotate_left
                · intro w'
                  go_simp
                  with_reducible rfl
                rotate_left
                · simp only [Act.put, List.setIfInBounds_toArray, List.set_cons_zero, List.set_cons_succ, i64_w, i32_w]
                  rfl
                refine pure_ (i := 5) (N := some 51) (v := ?_) (a' := ?_) #[true, true, false, true, false, true, false, false, false, false, false, false, false, false] rfl rfl (by kernel_rfl) (fun _ _ _ h => h) (Or.inl ⟨by rfl, ?_⟩) ?_ ?_
                rotate_left
                · intro w'
                  go_simp
                  with_reducible rfl
                rotate_left
                · simp only [Act.put, List.setIfInBounds_toArray, List.set_cons_zero, List.set_cons_succ, i64_w, i32_w]
                  rfl
                refine take_ (i := 2) (N := some 48) (v := ?_) (a' := ?_) #[true, true, true, true, false, true, false, false, false, false, false, false, false, false] rfl rfl (by kernel_rfl) (fun _ _ _ h => h) (Or.inl ⟨by rfl, ?_⟩) hHeld ?_ ?_
                rotate_left
                · rintro w' ⟨s0, s1, s2, s3, s4⟩
                  go_simp
                  with_reducible rfl
                rotate_left
                · simp only [Act.put, List.setIfInBounds_toArray, List.set_cons_zero, List.set_cons_succ, i64_w, i32_w]
                  rfl
                refine take_ (i := 4) (N := some 50) (v := ?_) (a' := ?_) #[true, true, true, true, true, true, false, false, false, false, false, false, false, false] rfl rfl (by kernel_rfl) (fun _ _ _ h => h) (Or.inl ⟨by rfl, ?_⟩) hHeld ?_ ?_
                rotate_left
                · rintro w' ⟨s0, s1, s2, s3, s4⟩
                  go_simp
                  with_reducible rfl
                rotate_left
                · simp only [Act.put, List.setIfInBounds_toArray, List.set_cons_zero, List.set_cons_succ, i64_w, i32_w]
                  rfl
                refine pure_ (i := 7) (N := some 53) (v := ?_) (a' := ?_) #[true, true, true, true, true, true, false, true, false, false, false, false, false, false] rfl rfl (by kernel_rfl) (fun _ _ _ h => h) (Or.inl ⟨by rfl, ?_⟩) ?_ ?_
                rotate_left
                · intro w'
                  go_simp
                  with_reducible rfl
                rotate_left
                · simp only [Act.put, List.setIfInBounds_toArray, List.set_cons_zero, List.set_cons_succ, i64_w, i32_w]
                  rfl
                refine take_ (i := 6) (N := some 52) (v := ?_) (a' := ?_) #[true, true, true, true, true, true, true, true, false, false, false, false, false, false] rfl rfl (by kernel_rfl) (fun _ _ _ h => h) (Or.inl ⟨by rfl, ?_⟩) hHeld ?_ ?_
                rotate_left
                · rintro w' ⟨s0, s1, s2, s3, s4⟩
                  go_simp
                  with_reducible rfl
                rotate_left
                · simp only [Act.put, List.setIfInBounds_toArray, List.set_cons_zero, List.set_cons_succ, i64_w, i32_w]
                  rfl
                refine pure_ (i := 8) (N := some 54) (v := ?_) (a' := ?_) #[true, true, true, true, true, true, true, true, true, false, false, false, false, false] rfl rfl (by kernel_rfl) (fun _ _ _ h => h) (Or.inl ⟨by rfl, ?_⟩) ?_ ?_
                rotate_left
                · intro w'
                  go_simp
                  with_reducible rfl
                rotate_left
                · simp only [Act.put, List.setIfInBounds_toArray, List.set_cons_zero, List.set_cons_succ, i64_w, i32_w]
                  rfl
                refine take_ (i := 9) (N := some 55) (v := ?_) (a' := ?_) #[true, true, true, true, true, true, true, true, true, true, false, false, false, false] rfl rfl (by kernel_rfl) (fun _ _ _ h => h) (Or.inl ⟨by rfl, ?_⟩) hHeld ?_ ?_
                rotate_left
                · rintro w' ⟨s0, s1, s2, s3, s4⟩
                  go_simp
                  with_reducible rfl
                rotate_left
                · simp only [Act.put, List.setIfInBounds_toArray, List.set_cons_zero, List.set_cons_succ, i64_w, i32_w]
                  rfl
                refine one_ (i := 10) (N := some 56) #[true, true, true, true, true, true, true, true, true, true, true, false, false, false] rfl rfl (by kernel_rfl) (by decide) (fun K hK => ?_)
                refine goes_ Tryd.func11 (by kernel_rfl) rfl #[.int .i64 F1, .int .i64 NV] (by rfl) rfl rfl (by (simp only [List.map_toArray, List.map_cons, List.map_nil]); first | done | rfl) ?_
                with_reducible refine (quireref04_Label.calls k1 F1 NV tS _ HLab.out).mono ?_
                rintro e w5 ⟨rfl, hb5⟩
                refine ⟨_, rfl, ?_⟩
                refine hK.out _ _ ⟨blk_below hHeld.1 hb5, (blk_cell (blk_below hHeld.1 hb5) 0).trans rfl, (blk_cell (blk_below hHeld.1 hb5) 1).trans rfl, blk_below hHeld.2.2.2.1 hb5, (blk_cell (blk_below hHeld.2.2.2.1 hb5) _).trans HNV.out⟩ (fun hHeld => ?_)
                clear hK K
                refine norm_ (a' := ?_) ?_ ?_
                rotate_left
                · show Act.put _ (some 56) _ = _
                  simp only [Act.put, List.setIfInBounds_toArray, List.set_cons_zero, List.set_cons_succ, i64_w, i32_w]
                  rfl
                refine one_ (i := 11) (N := some 57) #[true, true, true, true, true, true, true, true, true, true, true, true, false, false] rfl rfl (by kernel_rfl) (by decide) (fun K hK => ?_)
                refine value_ (w1 := ?_) (v := ?_) (by rfl) rfl ?_ ?_
                rotate_left 2
                · go_simp
                  constructor
                  · rfl
                  · rfl
                refine hK.out _ _ ⟨blk_below hHeld.1 (below_alloc (Below.refl _ _) _), (blk_cell (blk_below hHeld.1 (below_alloc (Below.refl _ _) _)) 0).trans rfl, (blk_cell (blk_below hHeld.1 (below_alloc (Below.refl _ _) _)) 1).trans rfl, blk_below hHeld.2.2.2.1 (below_alloc (Below.refl _ _) _), (blk_cell (blk_below hHeld.2.2.2.1 (below_alloc (Below.refl _ _) _)) _).trans HNV.out⟩ (fun hHeld => ?_)
                clear hK K
                refine norm_ (a' := ?_) ?_ ?_
                rotate_left
                · show Act.put _ (some 57) _ = _
                  simp only [Act.put, List.setIfInBounds_toArray, List.set_cons_zero, List.set_cons_succ, i64_w, i32_w]
                  rfl
                refine last_ (i := 12) (N := some 58) #[true, true, true, true, true, true, true, true, true, true, true, true, true, false] rfl rfl (by kernel_rfl) (by decide) (fun K hK => ?_)
                have HB5 := Aside0.mk (below_step (below_drew1 HB.out) hb5)
                have HO5 : Aside0 (Kd.R Kd.string 9 w5 w.heap.size (fun k_ => k_ ≠ g) u3 out) := ⟨Kd.R_below (Kd.R_drew HO.out) hb5⟩
                have hBC5 := blk_below (blk_drew BC.out) hb5
                refine Kd.R_append_step Kd.string (w0 := w) w.heap.size (by rfl) (.tmp 46) (.tmp 57) 32 9 (.string ⟨#[]⟩) 16 rfl Tryd.underlying32 infoR rfl (by decide) (by omega) u3 out tS [.string tS] (fun k_ => k_ ≠ g) (fun _ => False) rfl rfl rfl (fun _ hk => hk.elim) (fun k_ hk => by have h1_ := blk_lt hBC5; omega) HO5.out HB5.out (below_size HB5.out) (by omega) ?_
                intro v8 w8 ho8 hb8 hg8 hat8
                refine hK.out _ _ ?_
                clear hK K
                refine norm_ (a' := ?_) ?_ ?_
                rotate_left
                · show Act.put _ (some 58) _ = _
                  simp only [Act.put, List.setIfInBounds_toArray, List.set_cons_zero, List.set_cons_succ, i64_w, i32_w]
                  rfl
                refine pure_ (i := 13) (N := some 3) (v := ?_) (a' := ?_) #[true, true, true, true, true, true, true, true, true, true, true, true, true, true] rfl rfl (by kernel_rfl) (fun _ _ _ h => h) (Or.inl ⟨by rfl, ?_⟩) ?_ ?_
                rotate_left
                · intro w'
                  go_simp
                  with_reducible rfl
                rotate_left
                · simp only [Act.put, List.setIfInBounds_toArray, List.set_cons_zero, List.set_cons_succ, i64_w, i32_w]
                  rfl
                refine done_ (by kernel_rfl) ?_
                have BC8 := Aside0.mk (blk_grown hBC5 hg8 (fun h => HO5.out.1 g h.symm rfl))
                have HO8 := Aside0.mk ho8
                have HB8 := Aside0.mk hb8
                clear ho8 hb8 hg8 hat8 hBC5 HO5 HB5 hb5
                go_wp2
                go_roundg k1
                case measure => omega
                case rel => exact ⟨i + 1, cd, out ++ [tS], (by first | rfl | (simp; done) | (simp [*]; done)), ⟨by omega⟩, H', HL2, BC8, HO8, HB8⟩
      · rw [if_neg c3] at H
        have c3b : decide (i < (l0.length : Int)) = false := decide_eq_false c3
        obtain rfl := Option.some.inj H
        go_wp2
        go_ret
        exact ⟨_, rfl, Kd.R_mono HO.out (fun _ _ => trivial), HB.out⟩

/-! ### quirekit_SameInts: function 20 -/
def quirekit_SameInts.l0 : Nat → List Int → List Int → Int → Option (Bool)
  | 0, _, _, _ => none
  | k + 1, x0, x1, x5 => if x5 < (x0.length : Int) then (if 0 ≤ x5 then (if x5 < (x1.length : Int) then (if (rd x0 x5) = (rd x1 x5) then (quirekit_SameInts.l0 k x0 x1 (wrap64 (x5 + 1))) else (some false)) else (none)) else (none)) else (some true)
def quirekit_SameInts.f (k : Nat) (l0 : List Int) (l1 : List Int) : Option (Bool) := if (l0.length : Int) = (l1.length : Int) then (quirekit_SameInts.l0 k l0 l1 0) else (some false)
theorem quirekit_SameInts.mono_l : ∀ k, (∀ y0 y1 y2, LeO (quirekit_SameInts.l0 k y0 y1 y2) (quirekit_SameInts.l0 (k + 1) y0 y1 y2))
  | 0 => fun _ _ _ r h => by simp [quirekit_SameInts.l0] at h
  | k + 1 => by
    have ih0 := quirekit_SameInts.mono_l k
    · intro y0 y1 y2
      unfold quirekit_SameInts.l0
      repeat' first
      | (with_reducible exact ih0 _ _ _)
      | (with_reducible exact LeO.refl _)
      | (with_reducible exact LeO.none _)
      | (with_reducible refine LeO.ite ?_ ?_)
      | (with_reducible refine LeO.bind ?_ (fun _ => ?_))
      | exact ih0 _ _ _
      | exact LeO.none _
      | refine LeO.ite ?_ ?_
      | refine LeO.bind ?_ (fun _ => ?_)
theorem quirekit_SameInts.mono : ∀ a0 a1 k, LeO (quirekit_SameInts.f k a0 a1) (quirekit_SameInts.f (k + 1) a0 a1) := by
  intro a0 a1 k
  have ih0 := quirekit_SameInts.mono_l k
  unfold quirekit_SameInts.f
  repeat' first
      | (with_reducible exact ih0 _ _ _)
      | (with_reducible exact LeO.refl _)
      | (with_reducible exact LeO.none _)
      | (with_reducible refine LeO.ite ?_ ?_)
      | (with_reducible refine LeO.bind ?_ (fun _ => ?_))
      | exact ih0 _ _ _
      | exact LeO.none _
      | refine LeO.ite ?_ ?_
      | refine LeO.bind ?_ (fun _ => ?_)
set_option maxHeartbeats 8000000 in
set_option maxRecDepth 100000 in
theorem quirekit_SameInts.calls (k : Nat) (A0 : Option Addr) (c0 : Nat) (l0 : List Int) (A1 : Option Addr) (c1 : Nat) (l1 : List Int) (r : Bool) (w : World) (hr0 : Kd.C (Kd.int .i64) w A0 l0.length l0) (hc0 : l0.length ≤ c0) (hr1 : Kd.C (Kd.int .i64) w A1 l1.length l1) (hc1 : l1.length ≤ c1) (h : quirekit_SameInts.f k l0 l1 = some r) :
    Calls Tryd.prog 20 #[.slice A0 l0.length c0, .slice A1 l1.length c1] w fun e w' => e = .returned (.bool r) ∧ Drawn0 w w' := by
  have HR0 := Aside0.mk hr0
  have HC0 := Aside0.mk hc0
  clear hr0 hc0
  have HR1 := Aside0.mk hr1
  have HC1 := Aside0.mk hc1
  clear hr1 hc1
  have H : (if (l0.length : Int) = (l1.length : Int) then (quirekit_SameInts.l0 k l0 l1 0) else (some false)) = some r := h
  clear h
  by_cases c3 : (l0.length : Int) = (l1.length : Int)
  · rw [if_pos c3] at H
    have c3b0 : ((l0.length : Int) == (l1.length : Int)) = true := beq_iff_eq.mpr c3
    have c3b1 : ((l0.length : Int) != (l1.length : Int)) = false := bne_eq_false_iff_eq.mpr c3
    have c3b2 : (l0.length == l1.length) = true := by first | simpa using c3 | (simp at c3 ⊢; omega)
    clear c3
    have H' := Aside0.mk H
    clear H
    go_enter Tryd.func20, Tryd.ntmps20
    go_wp2
    repeat (go_quiet (fail); try go_wp2)
    go_loopg [5] k (fun kq v5 w' => ∃ (x5_1 : Int), v5 = .int .i64 x5_1 ∧ Aside0 (quirekit_SameInts.l0 kq l0 l1 x5_1 = some r) ∧ Aside0 (kq ≤ k) ∧ Drawn0 w w')
    case atStart => exact ⟨(0), (by first | rfl | (simp; done) | (simp [*]; done)), H', ⟨Nat.le_refl _⟩, by repeat (first | exact Drawn0.refl _ | apply Drawn0.step)⟩
    case round =>
      clear H'
      try clear c1
      try clear c2
      try clear p2
      try clear c3
      try clear c3b0
      try clear c3b1
      try clear c3b2
      obtain ⟨x5_1, rfl, HA, HK1, ⟨m1, rfl⟩⟩ := hrel
      cases gk with
      | zero => exact absurd HA.out (by simp [quirekit_SameInts.l0])
      | succ k1 =>
        have H := HA.out
        clear HA
        simp only [quirekit_SameInts.l0] at H
        by_cases c4 : x5_1 < (l0.length : Int)
        · rw [if_pos c4] at H
          have c4b0 : decide (x5_1 < (l0.length : Int)) = true := decide_eq_true c4
          clear c4
          by_cases c5 : 0 ≤ x5_1
          · rw [if_pos c5] at H
            have c5b0 : decide (0 ≤ x5_1) = true := decide_eq_true c5
            clear c5
            by_cases c6 : x5_1 < (l1.length : Int)
            · rw [if_pos c6] at H
              have c6b0 : decide (x5_1 < (l1.length : Int)) = true := decide_eq_true c6
              clear c6
              by_cases c7 : (rd l0 x5_1) = (rd l1 x5_1)
              · rw [if_pos c7] at H
                have c7b0 : ((rd l0 x5_1) == (rd l1 x5_1)) = true := beq_iff_eq.mpr c7
                have c7b1 : ((rd l0 x5_1) != (rd l1 x5_1)) = false := bne_eq_false_iff_eq.mpr c7
                clear c7
                have H' := Aside0.mk H
                clear H
                have p139 : 0 ≤ (x5_1 : Int) := of_decide_eq_true (by first | (with_reducible assumption) | assumption)
                have q139 : x5_1 < (l0.length : Int) := of_decide_eq_true (by first | (with_reducible assumption) | assumption)
                obtain ⟨ad139, e139, hx139_0⟩ := Kd.at_int HR0.out x5_1 p139 q139
                cases e139
                replace p139 := eq_true p139
                replace q139 := eq_true q139
                have p140 : 0 ≤ (x5_1 : Int) := of_decide_eq_true (by first | (with_reducible assumption) | assumption)
                have q140 : x5_1 < (l1.length : Int) := of_decide_eq_true (by first | (with_reducible assumption) | assumption)
                obtain ⟨ad140, e140, hx140_0⟩ := Kd.at_int HR1.out x5_1 p140 q140
                cases e140
                replace p140 := eq_true p140
                replace q140 := eq_true q140
                go_wp2
                repeat (go_quiet (fail); try go_wp2)
                go_roundg k1
                case measure => have := HK1.out; omega
                case rel => exact ⟨(wrap64 (x5_1 + 1)), (by first | rfl | (simp; done) | (simp [*]; done)), H', ⟨by have := HK1.out; omega⟩, by repeat (first | exact Drawn0.refl _ | apply Drawn0.step)⟩
              · rw [if_neg c7] at H
                have c7b0 : ((rd l0 x5_1) == (rd l1 x5_1)) = false := beq_eq_false_iff_ne.mpr c7
                have c7b1 : ((rd l0 x5_1) != (rd l1 x5_1)) = true := bne_iff_ne.mpr c7
                obtain rfl := Option.some.inj H
                have p139 : 0 ≤ (x5_1 : Int) := of_decide_eq_true (by first | (with_reducible assumption) | assumption)
                have q139 : x5_1 < (l0.length : Int) := of_decide_eq_true (by first | (with_reducible assumption) | assumption)
                obtain ⟨ad139, e139, hx139_0⟩ := Kd.at_int HR0.out x5_1 p139 q139
                cases e139
                replace p139 := eq_true p139
                replace q139 := eq_true q139
                have p140 : 0 ≤ (x5_1 : Int) := of_decide_eq_true (by first | (with_reducible assumption) | assumption)
                have q140 : x5_1 < (l1.length : Int) := of_decide_eq_true (by first | (with_reducible assumption) | assumption)
                obtain ⟨ad140, e140, hx140_0⟩ := Kd.at_int HR1.out x5_1 p140 q140
                cases e140
                replace p140 := eq_true p140
                replace q140 := eq_true q140
                go_wp2
                repeat (go_quiet (fail); try go_wp2)
                go_ret
                exact ⟨by first | rfl | (simp; done) | (simp [*]; done), by repeat (first | exact Drawn0.refl _ | apply Drawn0.step)⟩
            · rw [if_neg c6] at H
              exact absurd H (by simp)
          · rw [if_neg c5] at H
            exact absurd H (by simp)
        · rw [if_neg c4] at H
          have c4b0 : decide (x5_1 < (l0.length : Int)) = false := decide_eq_false c4
          clear c4
          obtain rfl := Option.some.inj H
          go_wp2
          repeat (go_quiet (fail); try go_wp2)
          go_ret
          exact ⟨by first | rfl | (simp; done) | (simp [*]; done), by repeat (first | exact Drawn0.refl _ | apply Drawn0.step)⟩
  · rw [if_neg c3] at H
    have c3b0 : ((l0.length : Int) == (l1.length : Int)) = false := beq_eq_false_iff_ne.mpr c3
    have c3b1 : ((l0.length : Int) != (l1.length : Int)) = true := bne_iff_ne.mpr c3
    have c3b2 : (l0.length == l1.length) = false := by first | simpa using c3 | (simp at c3 ⊢; omega)
    obtain rfl := Option.some.inj H
    go_enter Tryd.func20, Tryd.ntmps20
    go_wp2
    repeat (go_quiet (fail); try go_wp2)
    go_ret
    exact ⟨by first | rfl | (simp; done) | (simp [*]; done), by repeat (first | exact Drawn0.refl _ | apply Drawn0.step)⟩

end Go.Proofs.YtkemkpmcgeeieaaDoor.PNumberLabels
