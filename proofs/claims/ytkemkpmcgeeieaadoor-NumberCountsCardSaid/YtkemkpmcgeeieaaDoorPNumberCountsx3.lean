-- Written by a program of this session's (gprint.py over the kit's printer), with hand-written parts. Lean checks it.
import Derived.Test.YtkemkpmcgeeieaaDoorPNumberCountsx0
import Derived.Test.YtkemkpmcgeeieaaDoorPNumberCountsx2
namespace Go.Proofs.YtkemkpmcgeeieaaDoor.PNumberCounts
open Go.RowKit Go.Proofs.YtkemkpmcgeeieaaDoorW.PrintWords Go.Proofs.YtkemkpmcgeeieaaDoorW.PrintLast Go.Proofs.YtkemkpmcgeeieaaDoorW.PrintMore
attribute [local go_sem] max2_int min2_int max_two min_two max_three min_three max_four min_four   -- for this text's walks alone
set_option linter.unusedVariables false
set_option linter.unusedSimpArgs false

/-! ### quirelaw04_may: function 13 -/
def quirelaw04_may.l0 : Nat → List (S36) → Int → Option (Bool)
  | 0, _, _ => none
  | k + 1, x0, x3 => if x3 < (x0.length : Int) then (if 0 ≤ x3 then (if ((rd_T36 x0 x3).f0) < 0 then (some false) else (if ((rd_T36 x0 x3).f0) > 8 then (some false) else (if ((rd_T36 x0 x3).f1) < 0 then (some false) else (if ((rd_T36 x0 x3).f1) > 3 then (some false) else (quirelaw04_may.l0 k x0 (wrap64 (x3 + 1))))))) else (none)) else (some true)
def quirelaw04_may.f (k : Nat) (l0 : List (S36)) : Option (Bool) := quirelaw04_may.l0 k l0 0
theorem quirelaw04_may.mono_l : ∀ k, (∀ y0 y1, LeO (quirelaw04_may.l0 k y0 y1) (quirelaw04_may.l0 (k + 1) y0 y1))
  | 0 => fun _ _ r h => by simp [quirelaw04_may.l0] at h
  | k + 1 => by
    have ih0 := quirelaw04_may.mono_l k
    · intro y0 y1
      unfold quirelaw04_may.l0
      repeat' first
      | (with_reducible exact ih0 _ _)
      | (with_reducible exact LeO.refl _)
      | (with_reducible exact LeO.none _)
      | (with_reducible refine LeO.ite ?_ ?_)
      | (with_reducible refine LeO.bind ?_ (fun _ => ?_))
      | exact ih0 _ _
      | exact LeO.none _
      | refine LeO.ite ?_ ?_
      | refine LeO.bind ?_ (fun _ => ?_)
theorem quirelaw04_may.mono : ∀ a0 k, LeO (quirelaw04_may.f k a0) (quirelaw04_may.f (k + 1) a0) := by
  intro a0 k
  have ih0 := quirelaw04_may.mono_l k
  unfold quirelaw04_may.f
  repeat' first
      | (with_reducible exact ih0 _ _)
      | (with_reducible exact LeO.refl _)
      | (with_reducible exact LeO.none _)
      | (with_reducible refine LeO.ite ?_ ?_)
      | (with_reducible refine LeO.bind ?_ (fun _ => ?_))
      | exact ih0 _ _
      | exact LeO.none _
      | refine LeO.ite ?_ ?_
      | refine LeO.bind ?_ (fun _ => ?_)
set_option maxHeartbeats 8000000 in
set_option maxRecDepth 100000 in
theorem quirelaw04_may.calls (k : Nat) (A0 : Option Addr) (c0 : Nat) (l0 : List (S36)) (r : Bool) (w : World) (hr0 : Kd.C k36 w A0 l0.length l0) (hc0 : l0.length ≤ c0) (h : quirelaw04_may.f k l0 = some r) :
    Calls Tryd.prog 13 #[.slice A0 l0.length c0] w fun e w' => e = .returned (.bool r) ∧ Drawn0 w w' := by
  have HR0 := Aside0.mk hr0
  have HC0 := Aside0.mk hc0
  clear hr0 hc0
  have H : (quirelaw04_may.l0 k l0 0) = some r := h
  clear h
  have H' := Aside0.mk H
  clear H
  go_enter Tryd.func13, Tryd.ntmps13
  go_wp2
  go_loopg [3] k (fun kq v3 w' => ∃ (x3_1 : Int), v3 = .int .i64 x3_1 ∧ Aside0 (quirelaw04_may.l0 kq l0 x3_1 = some r) ∧ Aside0 (kq ≤ k) ∧ Drawn0 w w')
  case atStart => exact ⟨(0), (by first | rfl | (simp; done) | (simp [*]; done)), H', ⟨Nat.le_refl _⟩, by repeat (first | exact Drawn0.refl _ | apply Drawn0.step)⟩
  case round =>
    clear H'
    try clear c1
    obtain ⟨x3_1, rfl, HA, HK1, ⟨m1, rfl⟩⟩ := hrel
    cases gk with
    | zero => exact absurd HA.out (by simp [quirelaw04_may.l0])
    | succ k1 =>
      have H := HA.out
      clear HA
      simp only [quirelaw04_may.l0] at H
      by_cases c2 : x3_1 < (l0.length : Int)
      · rw [if_pos c2] at H
        have c2b0 : decide (x3_1 < (l0.length : Int)) = true := decide_eq_true c2
        clear c2
        by_cases c3 : 0 ≤ x3_1
        · rw [if_pos c3] at H
          have c3b0 : decide (0 ≤ x3_1) = true := decide_eq_true c3
          clear c3
          by_cases c4 : ((rd_T36 l0 x3_1).f0) < 0
          · rw [if_pos c4] at H
            have c4b0 : decide (((rd_T36 l0 x3_1).f0) < 0) = true := decide_eq_true c4
            clear c4
            obtain rfl := Option.some.inj H
            have p148 : 0 ≤ (x3_1 : Int) := of_decide_eq_true (by first | (with_reducible assumption) | assumption)
            have q148 : x3_1 < (l0.length : Int) := of_decide_eq_true (by first | (with_reducible assumption) | assumption)
            obtain ⟨ad148, e148, hx148_0, hx148_1⟩ := at_T36 HR0.out x3_1 p148 q148
            cases e148
            replace p148 := eq_true p148
            replace q148 := eq_true q148
            go_wp2
            go_ret
            exact ⟨by first | rfl | (simp; done) | (simp [*]; done), by repeat (first | exact Drawn0.refl _ | apply Drawn0.step)⟩
          · rw [if_neg c4] at H
            have c4b0 : decide (((rd_T36 l0 x3_1).f0) < 0) = false := decide_eq_false c4
            clear c4
            by_cases c5 : ((rd_T36 l0 x3_1).f0) > 8
            · rw [if_pos c5] at H
              have c5b0 : decide (8 < ((rd_T36 l0 x3_1).f0)) = true := decide_eq_true c5
              clear c5
              obtain rfl := Option.some.inj H
              have p148 : 0 ≤ (x3_1 : Int) := of_decide_eq_true (by first | (with_reducible assumption) | assumption)
              have q148 : x3_1 < (l0.length : Int) := of_decide_eq_true (by first | (with_reducible assumption) | assumption)
              obtain ⟨ad148, e148, hx148_0, hx148_1⟩ := at_T36 HR0.out x3_1 p148 q148
              cases e148
              replace p148 := eq_true p148
              replace q148 := eq_true q148
              have p149 : 0 ≤ (x3_1 : Int) := of_decide_eq_true (by first | (with_reducible assumption) | assumption)
              have q149 : x3_1 < (l0.length : Int) := of_decide_eq_true (by first | (with_reducible assumption) | assumption)
              obtain ⟨ad149, e149, hx149_0, hx149_1⟩ := at_T36 HR0.out x3_1 p149 q149
              obtain rfl : ad148 = ad149 := (by injection e149)
              replace p149 := eq_true p149
              replace q149 := eq_true q149
              go_wp2
              go_ret
              exact ⟨by first | rfl | (simp; done) | (simp [*]; done), by repeat (first | exact Drawn0.refl _ | apply Drawn0.step)⟩
            · rw [if_neg c5] at H
              have c5b0 : decide (8 < ((rd_T36 l0 x3_1).f0)) = false := decide_eq_false c5
              clear c5
              by_cases c6 : ((rd_T36 l0 x3_1).f1) < 0
              · rw [if_pos c6] at H
                have c6b0 : decide (((rd_T36 l0 x3_1).f1) < 0) = true := decide_eq_true c6
                clear c6
                obtain rfl := Option.some.inj H
                have p148 : 0 ≤ (x3_1 : Int) := of_decide_eq_true (by first | (with_reducible assumption) | assumption)
                have q148 : x3_1 < (l0.length : Int) := of_decide_eq_true (by first | (with_reducible assumption) | assumption)
                obtain ⟨ad148, e148, hx148_0, hx148_1⟩ := at_T36 HR0.out x3_1 p148 q148
                cases e148
                replace p148 := eq_true p148
                replace q148 := eq_true q148
                have p149 : 0 ≤ (x3_1 : Int) := of_decide_eq_true (by first | (with_reducible assumption) | assumption)
                have q149 : x3_1 < (l0.length : Int) := of_decide_eq_true (by first | (with_reducible assumption) | assumption)
                obtain ⟨ad149, e149, hx149_0, hx149_1⟩ := at_T36 HR0.out x3_1 p149 q149
                obtain rfl : ad148 = ad149 := (by injection e149)
                replace p149 := eq_true p149
                replace q149 := eq_true q149
                have p150 : 0 ≤ (x3_1 : Int) := of_decide_eq_true (by first | (with_reducible assumption) | assumption)
                have q150 : x3_1 < (l0.length : Int) := of_decide_eq_true (by first | (with_reducible assumption) | assumption)
                obtain ⟨ad150, e150, hx150_0, hx150_1⟩ := at_T36 HR0.out x3_1 p150 q150
                obtain rfl : ad148 = ad150 := (by injection e150)
                replace p150 := eq_true p150
                replace q150 := eq_true q150
                go_wp2
                go_ret
                exact ⟨by first | rfl | (simp; done) | (simp [*]; done), by repeat (first | exact Drawn0.refl _ | apply Drawn0.step)⟩
              · rw [if_neg c6] at H
                have c6b0 : decide (((rd_T36 l0 x3_1).f1) < 0) = false := decide_eq_false c6
                clear c6
                by_cases c7 : ((rd_T36 l0 x3_1).f1) > 3
                · rw [if_pos c7] at H
                  have c7b0 : decide (3 < ((rd_T36 l0 x3_1).f1)) = true := decide_eq_true c7
                  clear c7
                  obtain rfl := Option.some.inj H
                  have p148 : 0 ≤ (x3_1 : Int) := of_decide_eq_true (by first | (with_reducible assumption) | assumption)
                  have q148 : x3_1 < (l0.length : Int) := of_decide_eq_true (by first | (with_reducible assumption) | assumption)
                  obtain ⟨ad148, e148, hx148_0, hx148_1⟩ := at_T36 HR0.out x3_1 p148 q148
                  cases e148
                  replace p148 := eq_true p148
                  replace q148 := eq_true q148
                  have p149 : 0 ≤ (x3_1 : Int) := of_decide_eq_true (by first | (with_reducible assumption) | assumption)
                  have q149 : x3_1 < (l0.length : Int) := of_decide_eq_true (by first | (with_reducible assumption) | assumption)
                  obtain ⟨ad149, e149, hx149_0, hx149_1⟩ := at_T36 HR0.out x3_1 p149 q149
                  obtain rfl : ad148 = ad149 := (by injection e149)
                  replace p149 := eq_true p149
                  replace q149 := eq_true q149
                  have p150 : 0 ≤ (x3_1 : Int) := of_decide_eq_true (by first | (with_reducible assumption) | assumption)
                  have q150 : x3_1 < (l0.length : Int) := of_decide_eq_true (by first | (with_reducible assumption) | assumption)
                  obtain ⟨ad150, e150, hx150_0, hx150_1⟩ := at_T36 HR0.out x3_1 p150 q150
                  obtain rfl : ad148 = ad150 := (by injection e150)
                  replace p150 := eq_true p150
                  replace q150 := eq_true q150
                  have p151 : 0 ≤ (x3_1 : Int) := of_decide_eq_true (by first | (with_reducible assumption) | assumption)
                  have q151 : x3_1 < (l0.length : Int) := of_decide_eq_true (by first | (with_reducible assumption) | assumption)
                  obtain ⟨ad151, e151, hx151_0, hx151_1⟩ := at_T36 HR0.out x3_1 p151 q151
                  obtain rfl : ad148 = ad151 := (by injection e151)
                  replace p151 := eq_true p151
                  replace q151 := eq_true q151
                  go_wp2
                  go_ret
                  exact ⟨by first | rfl | (simp; done) | (simp [*]; done), by repeat (first | exact Drawn0.refl _ | apply Drawn0.step)⟩
                · rw [if_neg c7] at H
                  have c7b0 : decide (3 < ((rd_T36 l0 x3_1).f1)) = false := decide_eq_false c7
                  clear c7
                  have H' := Aside0.mk H
                  clear H
                  have p148 : 0 ≤ (x3_1 : Int) := of_decide_eq_true (by first | (with_reducible assumption) | assumption)
                  have q148 : x3_1 < (l0.length : Int) := of_decide_eq_true (by first | (with_reducible assumption) | assumption)
                  obtain ⟨ad148, e148, hx148_0, hx148_1⟩ := at_T36 HR0.out x3_1 p148 q148
                  cases e148
                  replace p148 := eq_true p148
                  replace q148 := eq_true q148
                  have p149 : 0 ≤ (x3_1 : Int) := of_decide_eq_true (by first | (with_reducible assumption) | assumption)
                  have q149 : x3_1 < (l0.length : Int) := of_decide_eq_true (by first | (with_reducible assumption) | assumption)
                  obtain ⟨ad149, e149, hx149_0, hx149_1⟩ := at_T36 HR0.out x3_1 p149 q149
                  obtain rfl : ad148 = ad149 := (by injection e149)
                  replace p149 := eq_true p149
                  replace q149 := eq_true q149
                  have p150 : 0 ≤ (x3_1 : Int) := of_decide_eq_true (by first | (with_reducible assumption) | assumption)
                  have q150 : x3_1 < (l0.length : Int) := of_decide_eq_true (by first | (with_reducible assumption) | assumption)
                  obtain ⟨ad150, e150, hx150_0, hx150_1⟩ := at_T36 HR0.out x3_1 p150 q150
                  obtain rfl : ad148 = ad150 := (by injection e150)
                  replace p150 := eq_true p150
                  replace q150 := eq_true q150
                  have p151 : 0 ≤ (x3_1 : Int) := of_decide_eq_true (by first | (with_reducible assumption) | assumption)
                  have q151 : x3_1 < (l0.length : Int) := of_decide_eq_true (by first | (with_reducible assumption) | assumption)
                  obtain ⟨ad151, e151, hx151_0, hx151_1⟩ := at_T36 HR0.out x3_1 p151 q151
                  obtain rfl : ad148 = ad151 := (by injection e151)
                  replace p151 := eq_true p151
                  replace q151 := eq_true q151
                  go_wp2
                  go_roundg k1
                  case measure => have := HK1.out; omega
                  case rel => exact ⟨(wrap64 (x3_1 + 1)), (by first | rfl | (simp; done) | (simp [*]; done)), H', ⟨by have := HK1.out; omega⟩, by repeat (first | exact Drawn0.refl _ | apply Drawn0.step)⟩
        · rw [if_neg c3] at H
          exact absurd H (by simp)
      · rw [if_neg c2] at H
        have c2b0 : decide (x3_1 < (l0.length : Int)) = false := decide_eq_false c2
        clear c2
        obtain rfl := Option.some.inj H
        go_wp2
        go_ret
        exact ⟨by first | rfl | (simp; done) | (simp [*]; done), by repeat (first | exact Drawn0.refl _ | apply Drawn0.step)⟩


def number_Counts.l0 : Nat → List S36 → Int → List Int → Option (List Int)
  | 0, _, _, _ => none
  | k + 1, l, i, c => if i < (l.length : Int) then (if 0 ≤ i then (if (rd_T36 l i).f0 > 0 then (if (rd_T36 l i).f0 ≤ 8 then (if 0 ≤ (rd_T36 l i).f1 then (if (rd_T36 l i).f1 ≤ 3 then ((Cnt.addL c (rd_T36 l i).f0 (rd_T36 l i).f1).bind fun c2 => number_Counts.l0 k l (i + 1) c2) else none) else none) else none) else number_Counts.l0 k l (i + 1) c) else none) else some c
def number_Counts.f (k : Nat) (l0 : List S36) (a1 : Int) : Option (List Int × Int) := (number_wrong.f k l0).bind fun e => if e = 0 then (if a1 < 1 then some (([] : List Int), (2 : Int)) else (if a1 > 8 then some (([] : List Int), (2 : Int)) else (number_Counts.l0 k l0 0 (List.replicate 36 0)).bind (fun c => some ((c.drop (a1.toNat * 4)).take 4, (0 : Int))))) else some (([] : List Int), e)
theorem number_Counts.mono_l : ∀ k, (∀ y0 y1 y2, LeO (number_Counts.l0 k y0 y1 y2) (number_Counts.l0 (k + 1) y0 y1 y2))
  | 0 => fun _ _ _ r h => by simp [number_Counts.l0] at h
  | k + 1 => by
    have ih0 := number_Counts.mono_l k
    intro y0 y1 y2
    unfold number_Counts.l0
    exact LeO.ite (LeO.ite (LeO.ite (LeO.ite (LeO.ite (LeO.ite (LeO.bind (LeO.refl _) (fun _ => ih0 _ _ _)) (LeO.none _)) (LeO.none _)) (LeO.none _)) (ih0 _ _ _)) (LeO.none _)) (LeO.refl _)
theorem number_Counts.mono : ∀ a0 a1 k, LeO (number_Counts.f k a0 a1) (number_Counts.f (k + 1) a0 a1) := by
  intro a0 a1 k
  unfold number_Counts.f
  exact LeO.bind (number_wrong.mono a0 k) (fun _ => LeO.ite (LeO.ite (LeO.refl _) (LeO.ite (LeO.refl _) (LeO.bind (number_Counts.mono_l k _ _ _) (fun _ => LeO.refl _)))) (LeO.refl _))
theorem number_Counts.len {k : Nat} {l : List S36} {i : Int} {c r : List Int} (h : number_Counts.l0 k l i c = some r) : r.length = c.length := by
  induction k generalizing i c with
  | zero => simp [number_Counts.l0] at h
  | succ k ih =>
    simp only [number_Counts.l0] at h
    split at h
    · split at h
      · split at h
        · split at h
          · split at h
            · split at h
              · obtain ⟨c2, h1, h2⟩ := Option.bind_eq_some_iff.mp h
                exact (ih h2).trans (Cnt.addL_len h1)
              · cases h
            · cases h
          · cases h
        · exact ih h
      · cases h
    · cases h; rfl
set_option maxHeartbeats 4000000 in
set_option maxRecDepth 100000 in
theorem number_Counts.calls (k : Nat) (A0 : Option Addr) (c0 : Nat) (l0 : List (S36)) (a1 : Int) (r1 : List Int) (r2 : Int) (w : World) (hr0 : Kd.C k36 w A0 l0.length l0) (hc0 : l0.length ≤ c0) (h : number_Counts.f k l0 a1 = some (r1, r2)) :
    Calls Tryd.prog 16 #[.slice A0 l0.length c0, .int .i64 a1] w fun e w' => ∃ v0_ : Value, e = .returned (.tuple #[v0_, .int .i64 r2]) ∧ Kd.R (Kd.int .i64) 3 w' w.heap.size (fun _ => True) v0_ r1 ∧ Below w.heap.size w w' := by
  have hu36 := Tryd.underlying36
  have hu53 := Tryd.underlying53
  have hu51 := Tryd.underlying51
  have HR0 := Aside0.mk hr0
  have HC0 := Aside0.mk hc0
  clear hr0 hc0
  have HB := Aside0.mk (Below.refl w.heap.size w)
  unfold number_Counts.f at h
  obtain ⟨e, he, H⟩ := Option.bind_eq_some_iff.mp h
  clear h
  have AW := Aside0.mk he
  clear he
  by_cases ce : e = 0
  · subst ce
    rw [if_pos rfl] at H
    by_cases d1 : a1 < 1
    · rw [if_pos d1] at H
      cases H
      have d1b : decide (a1 < 1) = true := decide_eq_true d1
      go_enter Tryd.func16, Tryd.ntmps16
      go_wp2_with (first | (go_at_call 28; refine (number_wrong.calls k A0 c0 l0 0 w HR0.out HC0.out AW.out).mono ?_; rintro e w1 ⟨rfl, hb⟩; have HB1 := Aside0.mk hb; clear hb HB; have HB := HB1; clear HB1))
      go_ret2
      exact ⟨_, rfl, Kd.R_nil _ _ _ _ _, HB.out⟩
    · rw [if_neg d1] at H
      have d1b : decide (a1 < 1) = false := decide_eq_false d1
      by_cases d8 : a1 > 8
      · rw [if_pos d8] at H
        cases H
        have d8b : decide (8 < a1) = true := decide_eq_true d8
        go_enter Tryd.func16, Tryd.ntmps16
        go_wp2_with (first | (go_at_call 28; refine (number_wrong.calls k A0 c0 l0 0 w HR0.out HC0.out AW.out).mono ?_; rintro e w1 ⟨rfl, hb⟩; have HB1 := Aside0.mk hb; clear hb HB; have HB := HB1; clear HB1))
        go_ret2
        exact ⟨_, rfl, Kd.R_nil _ _ _ _ _, HB.out⟩
      · rw [if_neg d8] at H
        have d8b : decide (8 < a1) = false := decide_eq_false d8
        have d9 : a1 < 9 := by omega
        have d0 : 0 ≤ a1 := by omega
        obtain ⟨r, hr, H⟩ := Option.bind_eq_some_iff.mp H
        cases H
        have H' := Aside0.mk hr
        have hrl := (number_Counts.len hr).trans List.length_replicate
        clear hr
        have hl0 : l0.length ≤ 3999 := by
          rcases Classical.em ((l0.length : Int) > 3999) with c | c
          · have := AW.out
            unfold number_wrong.f at this
            rw [if_pos c] at this
            cases this
          · omega
        go_enter Tryd.func16, Tryd.ntmps16
        go_wp2_with (first | (go_at_call 28; refine (number_wrong.calls k A0 c0 l0 0 w HR0.out HC0.out AW.out).mono ?_; rintro e w1 ⟨rfl, hb⟩; have HB1 := Aside0.mk hb; clear hb HB; have HB := HB1; clear HB1) | ((with_reducible refine gate_dst (N := 7) rfl ?_); refine box_event ?hg (N := 7) ?hd (cs := #[.int .i64 0, .int .i64 0, .int .i64 0, .int .i64 0, .int .i64 0, .int .i64 0, .int .i64 0, .int .i64 0, .int .i64 0, .int .i64 0, .int .i64 0, .int .i64 0, .int .i64 0, .int .i64 0, .int .i64 0, .int .i64 0, .int .i64 0, .int .i64 0, .int .i64 0, .int .i64 0, .int .i64 0, .int .i64 0, .int .i64 0, .int .i64 0, .int .i64 0, .int .i64 0, .int .i64 0, .int .i64 0, .int .i64 0, .int .i64 0, .int .i64 0, .int .i64 0, .int .i64 0, .int .i64 0, .int .i64 0, .int .i64 0]) (t := 53) ?hr ?_; (case hd => rfl); (case hg => rfl); (case hr => first | (go_simp; done) | (go_simp; rfl)); intro g hgg w2 hbox hb; have GE := Aside0.mk (show w.heap.size ≤ g from by rw [hgg]; exact below_size HB.out); have BC := Aside0.mk hbox; have HB2 := Aside0.mk (below_step HB.out hb); clear hb hbox hgg HB))
        have BC : Aside0 (w2.heap[g]? = some (.cells (nums .i64 (List.replicate 36 0)).toArray 53 (0, 0))) := BC
        have HLc : Aside0 ((List.replicate 36 (0 : Int)).length = 36) := ⟨rfl⟩
        generalize List.replicate 36 (0 : Int) = c1 at BC HLc H'
        go_loopg [23] k (fun kq v23 w' => ∃ (i : Int) (cc : List Int), v23 = .int .i64 i ∧ Aside0 (0 ≤ i) ∧ Aside0 (number_Counts.l0 kq l0 i cc = some r) ∧ Aside0 (cc.length = 36) ∧ Aside0 (w'.heap[g]? = some (.cells (nums .i64 cc).toArray 53 (0, 0))) ∧ Aside0 (Below w.heap.size w w'))
        case atStart => exact ⟨0, c1, rfl, ⟨by omega⟩, H', HLc, BC, HB2⟩
        case round =>
          clear H' HLc BC HB2
          obtain ⟨i, cc, rfl, HI, HA, HLc, BC, HB⟩ := hrel
          cases gk with
          | zero => exact absurd HA.out (by simp [number_Counts.l0])
          | succ k1 =>
            have H := HA.out
            clear HA
            simp only [number_Counts.l0] at H
            by_cases c3 : i < (l0.length : Int)
            · rw [if_pos c3, if_pos HI.out] at H
              have c3b : decide (i < (l0.length : Int)) = true := decide_eq_true c3
              have p104 : 0 ≤ i := HI.out
              obtain ⟨ad, e104, hx0, hx1⟩ := at_T36 HR0.out i p104 c3
              subst e104
              replace hx0 := (HB.out.cell (World.block_lt_of_cell? w _ hx0)).trans hx0
              replace hx1 := (HB.out.cell (World.block_lt_of_cell? w _ hx1)).trans hx1
              obtain ⟨F0, hF0⟩ : ∃ F0, F0 = (rd_T36 l0 i).f0 := ⟨_, rfl⟩
              obtain ⟨F1, hF1⟩ : ∃ F1, F1 = (rd_T36 l0 i).f1 := ⟨_, rfl⟩
              rw [← hF0] at hx0 H
              rw [← hF1] at hx1 H
              clear hF0 hF1
              have H1 := Aside0.mk H
              clear H
              have hw : i + 1 ≤ 4000 := by omega
              replace c3 := eq_true c3
              go_upto_region 10 with (fail)
              have BE : Aside0 ((wr.alloc (Obj.cells #[.int .i64 F0, .int .i64 F1] 36)).heap[wr.heap.size]? = some (.cells #[.int .i64 F0, .int .i64 F1] 36 (0, 0))) := ⟨blk_new _ _⟩
              have BC2 : Aside0 ((wr.alloc (Obj.cells #[.int .i64 F0, .int .i64 F1] 36)).heap[g]? = some (.cells (nums .i64 cc).toArray 53 (0, 0))) := ⟨blk_below BC.out (below_alloc (Below.refl _ _) _)⟩
              have HB2 : Aside0 (Below w.heap.size w (wr.alloc (Obj.cells #[.int .i64 F0, .int .i64 F1] 36))) := ⟨below_alloc HB.out _⟩
              clear BC HB hx0 hx1
              generalize wr.alloc (Obj.cells #[.int .i64 F0, .int .i64 F1] 36) = w3 at BE BC2 HB2 ⊢
              generalize wr.heap.size = gE at BE ⊢
              have BC := BC2
              have HB := HB2
              clear BC2 HB2
              have e0 := (blk_cell BE.out 0).trans rfl
              have e1 := (blk_cell BE.out 1).trans rfl
              have H := H1.out
              clear H1
              by_cases c4 : F0 > 0
              · rw [if_pos c4] at H
                have c4b : decide (0 < F0) = true := decide_eq_true c4
                have p8 : F0 ≤ 8 := by
                  rcases Classical.em (F0 ≤ 8) with c | c
                  · exact c
                  · rw [if_neg c] at H; cases H
                rw [if_pos p8] at H
                have q0 : 0 ≤ F1 := by
                  rcases Classical.em (0 ≤ F1) with c | c
                  · exact c
                  · rw [if_neg c] at H; cases H
                rw [if_pos q0] at H
                have q3 : F1 ≤ 3 := by
                  rcases Classical.em (F1 ≤ 3) with c | c
                  · exact c
                  · rw [if_neg c] at H; cases H
                rw [if_pos q3] at H
                have p0 : 0 ≤ F0 := by omega
                obtain ⟨c2, hadd, H⟩ := Option.bind_eq_some_iff.mp H
                have HAdd := Aside0.mk hadd
                have HL2 : Aside0 (c2.length = 36) := ⟨(Cnt.addL_len hadd).trans HLc.out⟩
                have H' : Aside0 (number_Counts.l0 k1 l0 (i + 1) c2 = some r) := ⟨H⟩
                clear H hadd
                go_wp2_with (first | (go_at_call 29; refine (Cnt.add_calls g cc c2 F0 F1 _ BC.out HLc.out p0 p8 q0 q3 HAdd.out).mono ?_; rintro e w4 ⟨rfl, hC4, hb4⟩; have BC4 := Aside0.mk hC4; have HB4 := Aside0.mk (pw_below_grown HB.out (some g) (below_size HB.out) hb4 (fun k h => by cases h; exact GE.out)); clear hC4 hb4 BC HB))
                go_roundg k1
                case measure => omega
                case rel => exact ⟨i + 1, c2, (by first | rfl | (simp; done) | (simp [*]; done)), ⟨by omega⟩, H', HL2, BC4, HB4⟩
              · rw [if_neg c4] at H
                have c4b : decide (0 < F0) = false := decide_eq_false c4
                have H' := Aside0.mk H
                clear H
                go_wp2
                go_roundg k1
                case measure => omega
                case rel => exact ⟨i + 1, cc, (by first | rfl | (simp; done) | (simp [*]; done)), ⟨by omega⟩, H', HLc, BC, HB⟩
            · rw [if_neg c3] at H
              have c3b : decide (i < (l0.length : Int)) = false := decide_eq_false c3
              obtain rfl := Option.some.inj H
              have hz4 : ((cc.drop (a1.toNat * 4)).take 4).length = 4 := by rw [List.length_take, List.length_drop]; omega
              have hcl : ∀ j, j < ((cc.drop (a1.toNat * 4)).take 4).length → wr.cell? ⟨g, a1.toNat * 4 + j, none⟩ = some (.int .i64 (((cc.drop (a1.toNat * 4)).take 4).getD j 0)) := by
                intro j hj
                have hj4 : j < 4 := by omega
                refine (blk_cell BC.out _).trans ((Cnt.nums_at cc (a1.toNat * 4 + j) (by omega)).trans ?_)
                have : ((cc.drop (a1.toNat * 4)).take 4).getD j 0 = cc.getD (a1.toNat * 4 + j) 0 := by
                  simp [List.getD, List.getElem?_take, hj4]
                rw [this]
              have HCL := Aside0.mk (Tryd.slices_Clone_int g (a1.toNat * 4) 4 4 ((cc.drop (a1.toNat * 4)).take 4) wr (by omega) (by omega) hcl)
              clear hcl
              go_wp2_with (first | (go_at_call 30; refine HCL.out.mono ?_; rintro e w5 ⟨v5, rfl, ho5, hn5, hb5⟩; have HO5 := Aside0.mk ho5; have HB5 := Aside0.mk (below_step HB.out hb5); clear ho5 hb5 hn5 HCL))
              go_ret2
              refine ⟨_, rfl, ?_, HB5.out⟩
              have ho := HO5.out
              rw [List.take_of_length_le (by omega)] at ho
              exact Kd.R_lower (Kd.R_of_own (enc := Value.int .i64) (h1 := fun _ => rfl) (by rw [hz4]; exact ho) (fun _ _ => trivial)) (below_size HB.out)
  · rw [if_neg ce] at H
    cases H
    have ce0 : (r2 == 0) = false := beq_eq_false_iff_ne.mpr ce
    have ce1 : (r2 != 0) = true := bne_iff_ne.mpr ce
    go_enter Tryd.func16, Tryd.ntmps16
    go_wp2_with (first | (go_at_call 28; refine (number_wrong.calls k A0 c0 l0 r2 w HR0.out HC0.out AW.out).mono ?_; rintro e w1 ⟨rfl, hb⟩; have HB1 := Aside0.mk hb; clear hb HB; have HB := HB1; clear HB1))
    go_ret2
    exact ⟨_, rfl, Kd.R_nil _ _ _ _ _, HB.out⟩

end Go.Proofs.YtkemkpmcgeeieaaDoor.PNumberCounts
