/- quirekit.LargeEdit answers some bool that hangs on its argument alone, and writes nothing that lay. -/
import Derived.Test.YtddocfjaofddiaaGreatDoorProg
import Derived.WalkKit
import Derived.Below
import Derived.Deep.LoopGhost
import Derived.Deep.DeepCutAuto
import Derived.Tactics
import Derived.BigQuiet
import Derived.WalkSpells
import Derived.Deep.Slices
import Derived.ChangeSame
namespace Go.Proofs.YtddocfjaofddiaaGreatDoor.Run
open Go.RowKit
def big (t n p : ByteArray) (ns nc nf : Nat) (cells : List ByteArray) (hs : List ByteArray) : Bool :=
  decide (t.size > 5000) || decide (ns > 100) || decide (nc > 100) || decide (nf > 40) || decide (n.size > 100) || decide (p.size > 100) || cells.any (fun s => decide (s.size > 300)) || hs.any (fun s => decide (s.size > 300))
set_option maxHeartbeats 4000000 in
set_option maxRecDepth 100000 in
theorem largeEdit0 (w : World) (x0 x1 x2 c0 c1 c2 o0 o1 o2 o3 tc s0 s1 s2 s3 s4 s5 s6 s7 s8 s9 s10 : Value) (t n p h0 h1 h2 f0 f1 f2 : ByteArray) (aS aF aC : Option Addr) (ns nc nf ks kc kf : Nat) (cells : List ByteArray) (hc : cells.length = nc)
    (hcs : ∀ j (s : ByteArray), cells[j]? = some s → ∃ a, aC = some a ∧ w.cell? (a.add j) = some (.string s)) :
    Calls Tryz.prog 5 #[.agg #[x0, x1, x2, .string t, c0, c1, c2, .string n, .string p, .slice aS ns ks, o0, o1, o2, o3, tc, .slice aC nc kc, s0, s1, s2, s3, s4, s5, s6, s7, s8, s9, s10, .string h0, .string h1, .string h2, .string f0, .string f1, .string f2, .slice aF nf kf]] w
      fun e w' => e = .returned (.bool (big t n p ns nc nf cells [h0, f0, h1, f1, h2, f2])) ∧ w' = w.alloc (.cells #[x0, x1, x2, .string t, c0, c1, c2, .string n, .string p, .slice aS ns ks, o0, o1, o2, o3, tc, .slice aC nc kc, s0, s1, s2, s3, s4, s5, s6, s7, s8, s9, s10, .string h0, .string h1, .string h2, .string f0, .string f1, .string f2, .slice aF nf kf] 35) := by
  go_enter Tryz.func5, Tryz.ntmps5
  go_wp2
  any_goals (go_ret; refine ⟨?_, rfl⟩; simp [big] <;> omega)
  go_loop [3] (fun v3 => ∃ i : Nat, v3 = .int .i64 i ∧ i ≤ nc ∧ ∀ j (s : ByteArray), j < i → cells[j]? = some s → s.size ≤ 300) (fun v3 => match v3 with | .int _ i => nc - i.toNat | _ => 0)
  case atStart => exact ⟨0, rfl, Nat.zero_le _, fun j s h => absurd h (Nat.not_lt_zero _)⟩
  case round =>
    obtain ⟨i, rfl, hi, hp⟩ := hrel
    by_cases hlt : i < nc
    · obtain ⟨s, hs⟩ : ∃ s, cells[i]? = some s := ⟨_, List.getElem?_eq_getElem (by omega)⟩
      obtain ⟨a, rfl, ha⟩ := hcs i s hs
      have ha' : ∀ o, (w.alloc o).cell? (a.add i) = some (.string s) := fun o => cell_later ((Below.refl _ w).alloc (Nat.le_refl _) o) ha
      go_wp2
      · go_ret
        refine ⟨?_, rfl⟩
        have : cells.any (fun s => decide (s.size > 300)) = true := List.any_eq_true.2 ⟨s, List.mem_of_getElem? hs, by simp; omega⟩
        simp [big, this]
      case roundEnd =>
        refine ⟨⟨i + 1, by simp, by omega, fun j s' h1 h2 => ?_⟩, by simp; omega⟩
        rcases Nat.lt_succ_iff_lt_or_eq.1 h1 with h | h
        · exact hp j s' h h2
        · subst h
          rw [hs] at h2
          obtain rfl := Option.some.inj h2
          omega
    · have hni : ¬ ((i : Int) < (nc : Int)) := by omega
      go_wp2
      go_loop [4] (fun v4 => ∃ k : Nat, v4 = .int .i64 k ∧ k ≤ 3 ∧ (0 < k → h0.size ≤ 300 ∧ f0.size ≤ 300) ∧ (1 < k → h1.size ≤ 300 ∧ f1.size ≤ 300) ∧ (2 < k → h2.size ≤ 300 ∧ f2.size ≤ 300)) (fun v4 => match v4 with | .int _ i => 3 - i.toNat | _ => 0)
      case atStart => exact ⟨0, rfl, by omega, by omega, by omega, by omega⟩
      case round =>
        obtain ⟨k, rfl, hk, a1, a2, a3⟩ := hrel
        have : k = 0 ∨ k = 1 ∨ k = 2 ∨ k = 3 := by omega
        rcases this with rfl | rfl | rfl | rfl
        all_goals go_wp2
        all_goals first
          | (go_ret
             refine ⟨?_, rfl⟩
             have hany : cells.any (fun s => decide (s.size > 300)) = false := by
               rw [List.any_eq_false]
               intro s hs
               obtain ⟨j, hj, e⟩ := List.mem_iff_getElem.1 hs
               have := hp j s (by omega) (by rw [List.getElem?_eq_getElem hj, e])
               simp; omega
             simp [big, hany] <;> omega)
          | exact ⟨⟨1, rfl, by omega, by omega, by omega, by omega⟩, by simp⟩
          | exact ⟨⟨2, rfl, by omega, by omega, by omega, by omega⟩, by simp⟩
          | exact ⟨⟨3, rfl, by omega, by omega, by omega, by omega⟩, by simp⟩
theorem trod_below {H : Type} {enc : TypeId × Value → H} {P : Program} {w : World} {base : Nat} {spare : Nat → Bool} {held : Bool} {t : TypeId} {v : Value} {d : DataW H} {ps : List MemPlace} (h : DataW.Trod enc P w base spare held t v d ps) : ∀ x ∈ ps, x.block < w.heap.size := by
  obtain ⟨m, hm⟩ := h
  exact DataW.trod_lt m _ _ _ hm
theorem largeEdit (w : World) (i0 : Int) (i1 : Int) (i2 : Int) (t3 : ByteArray) (i4 : Int) (i5 : Int) (i6 : Int) (t7 : ByteArray) (t8 : ByteArray) (a9 : Option Addr) (l9 k9 : Nat) (i10 : Int) (i11 : Int) (i12 : Int) (i13 : Int) (i14 : Int) (a15 : Option Addr) (l15 k15 : Nat) (i16 : Int) (i17 : Int) (i18 : Int) (i19 : Int) (i20 : Int) (i21 : Int) (i22 : Int) (i23 : Int) (i24 : Int) (i25 : Int) (i26 : Int) (t27 : ByteArray) (t28 : ByteArray) (t29 : ByteArray) (t30 : ByteArray) (t31 : ByteArray) (t32 : ByteArray) (a33 : Option Addr) (l33 k33 : Nat) (cells : List ByteArray) (hcl : cells.length = l15) (hcs : ∀ j (s : ByteArray), cells[j]? = some s → ∃ a, a15 = some a ∧ w.cell? (a.add j) = some (.string s)) :
    Calls Tryz.prog 5 #[.agg #[.int .i64 i0, .int .i64 i1, .int .i64 i2, .string t3, .int .i64 i4, .int .i64 i5, .int .i64 i6, .string t7, .string t8, .slice a9 l9 k9, .int .i64 i10, .int .i64 i11, .int .i64 i12, .int .i64 i13, .int .i64 i14, .slice a15 l15 k15, .int .i64 i16, .int .i64 i17, .int .i64 i18, .int .i64 i19, .int .i64 i20, .int .i64 i21, .int .i64 i22, .int .i64 i23, .int .i64 i24, .int .i64 i25, .int .i64 i26, .string t27, .string t28, .string t29, .string t30, .string t31, .string t32, .slice a33 l33 k33]] w fun e w' => e = .returned (.bool (big t3 t7 t8 l9 l15 l33 cells [t27, t30, t28, t31, t29, t32])) ∧ w' = w.alloc (.cells #[.int .i64 i0, .int .i64 i1, .int .i64 i2, .string t3, .int .i64 i4, .int .i64 i5, .int .i64 i6, .string t7, .string t8, .slice a9 l9 k9, .int .i64 i10, .int .i64 i11, .int .i64 i12, .int .i64 i13, .int .i64 i14, .slice a15 l15 k15, .int .i64 i16, .int .i64 i17, .int .i64 i18, .int .i64 i19, .int .i64 i20, .int .i64 i21, .int .i64 i22, .int .i64 i23, .int .i64 i24, .int .i64 i25, .int .i64 i26, .string t27, .string t28, .string t29, .string t30, .string t31, .string t32, .slice a33 l33 k33] 35) :=
  largeEdit0 w (.int .i64 i0) (.int .i64 i1) (.int .i64 i2) (.int .i64 i4) (.int .i64 i5) (.int .i64 i6) (.int .i64 i10) (.int .i64 i11) (.int .i64 i12) (.int .i64 i13) (.int .i64 i14) (.int .i64 i16) (.int .i64 i17) (.int .i64 i18) (.int .i64 i19) (.int .i64 i20) (.int .i64 i21) (.int .i64 i22) (.int .i64 i23) (.int .i64 i24) (.int .i64 i25) (.int .i64 i26) t3 t7 t8 t27 t28 t29 t30 t31 t32 a9 a33 a15 l9 l15 l33 k9 k15 k33 cells hcl hcs
end Go.Proofs.YtddocfjaofddiaaGreatDoor.Run
