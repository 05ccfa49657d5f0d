/- Proved: what an argument of type api.Edit is made of: 34 cells, and the texts of its table's cells; no condition but that it reads as data. -/
import Derived.Test.YtddocfjaofddiaaGreatDoorProg
import Derived.Deep.Slices
import Derived.Laws.IdiomArrays
import Derived.ChangeArms
import Derived.OpenShut
import Derived.WalkKit
import Derived.ProofKit
namespace Go.Proofs.YtddocfjaofddiaaGreatDoor.Run
open Go.ChangeShapes Go.WideShapes Go.ChangeAt Go.RowKit
set_option linter.unusedVariables false
theorem field_t {H : Type} {enc : TypeId × Value → H} {P : Program} {w : World} {base : Nat} {spare : Nat → Bool} {held : Bool} {n : Nat} {cs : List Value} {fs : Array Field} {xs : List (DataW H × List MemPlace)}
    (hf : ∀ (i : Nat) (f : Field), fs[i]? = some f → DataW.trod enc P w base spare held n f.type ((cs.drop f.offset).take (P.cellsOf f.type)) = xs[i]?) (hl : xs.length = fs.size) (i : Nat) (ft : TypeId) (off sz : Nat)
    (hi : (fs[i]?).map (fun f => (f.type, f.offset)) = some (ft, off)) (hc : P.cellsOf ft = sz) : ∃ y, DataW.trod enc P w base spare held n ft ((cs.drop off).take sz) = some y := by
  obtain ⟨f, h1, h2⟩ := Option.map_eq_some_iff.1 hi
  cases h2
  have hs : i < fs.size := (Array.getElem?_eq_some_iff.1 h1).1
  have := hf i f h1
  rw [List.getElem?_eq_getElem (by omega)] at this
  rw [← hc]
  exact ⟨_, this⟩
set_option maxRecDepth 100000 in
set_option maxHeartbeats 4000000 in
theorem edit_open {H : Type} {enc : TypeId × Value → H} {w : World} {base : Nat} {spare : Nat → Bool} {held : Bool} {cs : Array Value} {x : DataW H} {ps : List MemPlace} (hz : cs.size = 34) (h : DataW.Trod enc Tryz.prog w base spare held 35 (.agg cs) x ps) :
    ∃ (i0 : Int) (i1 : Int) (i2 : Int) (t3 : ByteArray) (i4 : Int) (i5 : Int) (i6 : Int) (t7 : ByteArray) (t8 : ByteArray) (a9 : Option Addr) (l9 k9 : Nat) (i10 : Int) (i11 : Int) (i12 : Int) (i13 : Int) (i14 : Int) (a15 : Option Addr) (l15 k15 : Nat) (i16 : Int) (i17 : Int) (i18 : Int) (i19 : Int) (i20 : Int) (i21 : Int) (i22 : Int) (i23 : Int) (i24 : Int) (i25 : Int) (i26 : Int) (t27 : ByteArray) (t28 : ByteArray) (t29 : ByteArray) (t30 : ByteArray) (t31 : ByteArray) (t32 : ByteArray) (a33 : Option Addr) (l33 k33 : Nat) (cells : List ByteArray), cs = #[.int .i64 i0, .int .i64 i1, .int .i64 i2, .string t3, .int .i64 i4, .int .i64 i5, .int .i64 i6, .string t7, .string t8, .slice a9 l9 k9, .int .i64 i10, .int .i64 i11, .int .i64 i12, .int .i64 i13, .int .i64 i14, .slice a15 l15 k15, .int .i64 i16, .int .i64 i17, .int .i64 i18, .int .i64 i19, .int .i64 i20, .int .i64 i21, .int .i64 i22, .int .i64 i23, .int .i64 i24, .int .i64 i25, .int .i64 i26, .string t27, .string t28, .string t29, .string t30, .string t31, .string t32, .slice a33 l33 k33] ∧ cells.length = l15 ∧ ∀ j (s : ByteArray), cells[j]? = some s → ∃ ad, a15 = some ad ∧ w.cell? (ad.add j) = some (.string s) := by
  obtain ⟨fuel, h⟩ := h
  obtain ⟨cs⟩ := cs
  replace hz : cs.length = 34 := hz
  obtain ⟨x0, cs, rfl⟩ := List.exists_cons_of_length_eq_add_one (n := 33) hz
  replace hz : cs.length = 33 := Nat.succ.inj hz
  obtain ⟨x1, cs, rfl⟩ := List.exists_cons_of_length_eq_add_one (n := 32) hz
  replace hz : cs.length = 32 := Nat.succ.inj hz
  obtain ⟨x2, cs, rfl⟩ := List.exists_cons_of_length_eq_add_one (n := 31) hz
  replace hz : cs.length = 31 := Nat.succ.inj hz
  obtain ⟨x3, cs, rfl⟩ := List.exists_cons_of_length_eq_add_one (n := 30) hz
  replace hz : cs.length = 30 := Nat.succ.inj hz
  obtain ⟨x4, cs, rfl⟩ := List.exists_cons_of_length_eq_add_one (n := 29) hz
  replace hz : cs.length = 29 := Nat.succ.inj hz
  obtain ⟨x5, cs, rfl⟩ := List.exists_cons_of_length_eq_add_one (n := 28) hz
  replace hz : cs.length = 28 := Nat.succ.inj hz
  obtain ⟨x6, cs, rfl⟩ := List.exists_cons_of_length_eq_add_one (n := 27) hz
  replace hz : cs.length = 27 := Nat.succ.inj hz
  obtain ⟨x7, cs, rfl⟩ := List.exists_cons_of_length_eq_add_one (n := 26) hz
  replace hz : cs.length = 26 := Nat.succ.inj hz
  obtain ⟨x8, cs, rfl⟩ := List.exists_cons_of_length_eq_add_one (n := 25) hz
  replace hz : cs.length = 25 := Nat.succ.inj hz
  obtain ⟨x9, cs, rfl⟩ := List.exists_cons_of_length_eq_add_one (n := 24) hz
  replace hz : cs.length = 24 := Nat.succ.inj hz
  obtain ⟨x10, cs, rfl⟩ := List.exists_cons_of_length_eq_add_one (n := 23) hz
  replace hz : cs.length = 23 := Nat.succ.inj hz
  obtain ⟨x11, cs, rfl⟩ := List.exists_cons_of_length_eq_add_one (n := 22) hz
  replace hz : cs.length = 22 := Nat.succ.inj hz
  obtain ⟨x12, cs, rfl⟩ := List.exists_cons_of_length_eq_add_one (n := 21) hz
  replace hz : cs.length = 21 := Nat.succ.inj hz
  obtain ⟨x13, cs, rfl⟩ := List.exists_cons_of_length_eq_add_one (n := 20) hz
  replace hz : cs.length = 20 := Nat.succ.inj hz
  obtain ⟨x14, cs, rfl⟩ := List.exists_cons_of_length_eq_add_one (n := 19) hz
  replace hz : cs.length = 19 := Nat.succ.inj hz
  obtain ⟨x15, cs, rfl⟩ := List.exists_cons_of_length_eq_add_one (n := 18) hz
  replace hz : cs.length = 18 := Nat.succ.inj hz
  obtain ⟨x16, cs, rfl⟩ := List.exists_cons_of_length_eq_add_one (n := 17) hz
  replace hz : cs.length = 17 := Nat.succ.inj hz
  obtain ⟨x17, cs, rfl⟩ := List.exists_cons_of_length_eq_add_one (n := 16) hz
  replace hz : cs.length = 16 := Nat.succ.inj hz
  obtain ⟨x18, cs, rfl⟩ := List.exists_cons_of_length_eq_add_one (n := 15) hz
  replace hz : cs.length = 15 := Nat.succ.inj hz
  obtain ⟨x19, cs, rfl⟩ := List.exists_cons_of_length_eq_add_one (n := 14) hz
  replace hz : cs.length = 14 := Nat.succ.inj hz
  obtain ⟨x20, cs, rfl⟩ := List.exists_cons_of_length_eq_add_one (n := 13) hz
  replace hz : cs.length = 13 := Nat.succ.inj hz
  obtain ⟨x21, cs, rfl⟩ := List.exists_cons_of_length_eq_add_one (n := 12) hz
  replace hz : cs.length = 12 := Nat.succ.inj hz
  obtain ⟨x22, cs, rfl⟩ := List.exists_cons_of_length_eq_add_one (n := 11) hz
  replace hz : cs.length = 11 := Nat.succ.inj hz
  obtain ⟨x23, cs, rfl⟩ := List.exists_cons_of_length_eq_add_one (n := 10) hz
  replace hz : cs.length = 10 := Nat.succ.inj hz
  obtain ⟨x24, cs, rfl⟩ := List.exists_cons_of_length_eq_add_one (n := 9) hz
  replace hz : cs.length = 9 := Nat.succ.inj hz
  obtain ⟨x25, cs, rfl⟩ := List.exists_cons_of_length_eq_add_one (n := 8) hz
  replace hz : cs.length = 8 := Nat.succ.inj hz
  obtain ⟨x26, cs, rfl⟩ := List.exists_cons_of_length_eq_add_one (n := 7) hz
  replace hz : cs.length = 7 := Nat.succ.inj hz
  obtain ⟨x27, cs, rfl⟩ := List.exists_cons_of_length_eq_add_one (n := 6) hz
  replace hz : cs.length = 6 := Nat.succ.inj hz
  obtain ⟨x28, cs, rfl⟩ := List.exists_cons_of_length_eq_add_one (n := 5) hz
  replace hz : cs.length = 5 := Nat.succ.inj hz
  obtain ⟨x29, cs, rfl⟩ := List.exists_cons_of_length_eq_add_one (n := 4) hz
  replace hz : cs.length = 4 := Nat.succ.inj hz
  obtain ⟨x30, cs, rfl⟩ := List.exists_cons_of_length_eq_add_one (n := 3) hz
  replace hz : cs.length = 3 := Nat.succ.inj hz
  obtain ⟨x31, cs, rfl⟩ := List.exists_cons_of_length_eq_add_one (n := 2) hz
  replace hz : cs.length = 2 := Nat.succ.inj hz
  obtain ⟨x32, cs, rfl⟩ := List.exists_cons_of_length_eq_add_one (n := 1) hz
  replace hz : cs.length = 1 := Nat.succ.inj hz
  obtain ⟨x33, cs, rfl⟩ := List.exists_cons_of_length_eq_add_one (n := 0) hz
  replace hz : cs.length = 0 := Nat.succ.inj hz
  obtain rfl := List.eq_nil_of_length_eq_zero hz
  have cz3 : Tryz.prog.cellsOf 3 = 1 := by kernel_rfl
  have cz9 : Tryz.prog.cellsOf 9 = 1 := by kernel_rfl
  have cz23 : Tryz.prog.cellsOf 23 = 3 := by kernel_rfl
  have cz24 : Tryz.prog.cellsOf 24 = 1 := by kernel_rfl
  have cz26 : Tryz.prog.cellsOf 26 = 4 := by kernel_rfl
  have cz27 : Tryz.prog.cellsOf 27 = 1 := by kernel_rfl
  have cz29 : Tryz.prog.cellsOf 29 = 2 := by kernel_rfl
  have cz30 : Tryz.prog.cellsOf 30 = 3 := by kernel_rfl
  have cz32 : Tryz.prog.cellsOf 32 = 17 := by kernel_rfl
  have cz33 : Tryz.prog.cellsOf 33 = 1 := by kernel_rfl
  have cz35 : Tryz.prog.cellsOf 35 = 34 := by kernel_rfl
  obtain ⟨xs0, n0, _, _, _, hl0, hf0⟩ := DataW.trod_struct Tryz.underlying35 h
  obtain ⟨y0_0, g0_0⟩ := field_t hf0 hl0 0 3 0 1 rfl cz3
  replace g0_0 : DataW.trod enc Tryz.prog w base spare held _ 3 [x0] = some _ := g0_0
  obtain ⟨i0, e0, _, _⟩ := DataW.trod_int Tryz.underlying3 g0_0
  cases e0
  obtain ⟨y0_1, g0_1⟩ := field_t hf0 hl0 1 3 1 1 rfl cz3
  replace g0_1 : DataW.trod enc Tryz.prog w base spare held _ 3 [x1] = some _ := g0_1
  obtain ⟨i1, e1, _, _⟩ := DataW.trod_int Tryz.underlying3 g0_1
  cases e1
  obtain ⟨y0_2, g0_2⟩ := field_t hf0 hl0 2 3 2 1 rfl cz3
  replace g0_2 : DataW.trod enc Tryz.prog w base spare held _ 3 [x2] = some _ := g0_2
  obtain ⟨i2, e2, _, _⟩ := DataW.trod_int Tryz.underlying3 g0_2
  cases e2
  obtain ⟨y0_3, g0_3⟩ := field_t hf0 hl0 3 9 3 1 rfl cz9
  replace g0_3 : DataW.trod enc Tryz.prog w base spare held _ 9 [x3] = some _ := g0_3
  obtain ⟨t3, e3, _⟩ := DataW.trod_string Tryz.underlying9 g0_3
  cases e3
  obtain ⟨y0_4, g0_4⟩ := field_t hf0 hl0 4 23 4 3 rfl cz23
  replace g0_4 : DataW.trod enc Tryz.prog w base spare held _ 23 [x4, x5, x6] = some _ := g0_4
  obtain ⟨xs1, n1, _, _, _, hl1, hf1⟩ := DataW.trod_struct Tryz.underlying23 g0_4
  obtain ⟨y1_0, g1_0⟩ := field_t hf1 hl1 0 3 0 1 rfl cz3
  replace g1_0 : DataW.trod enc Tryz.prog w base spare held _ 3 [x4] = some _ := g1_0
  obtain ⟨i4, e4, _, _⟩ := DataW.trod_int Tryz.underlying3 g1_0
  cases e4
  obtain ⟨y1_1, g1_1⟩ := field_t hf1 hl1 1 3 1 1 rfl cz3
  replace g1_1 : DataW.trod enc Tryz.prog w base spare held _ 3 [x5] = some _ := g1_1
  obtain ⟨i5, e5, _, _⟩ := DataW.trod_int Tryz.underlying3 g1_1
  cases e5
  obtain ⟨y1_2, g1_2⟩ := field_t hf1 hl1 2 3 2 1 rfl cz3
  replace g1_2 : DataW.trod enc Tryz.prog w base spare held _ 3 [x6] = some _ := g1_2
  obtain ⟨i6, e6, _, _⟩ := DataW.trod_int Tryz.underlying3 g1_2
  cases e6
  obtain ⟨y0_5, g0_5⟩ := field_t hf0 hl0 5 9 7 1 rfl cz9
  replace g0_5 : DataW.trod enc Tryz.prog w base spare held _ 9 [x7] = some _ := g0_5
  obtain ⟨t7, e7, _⟩ := DataW.trod_string Tryz.underlying9 g0_5
  cases e7
  obtain ⟨y0_6, g0_6⟩ := field_t hf0 hl0 6 9 8 1 rfl cz9
  replace g0_6 : DataW.trod enc Tryz.prog w base spare held _ 9 [x8] = some _ := g0_6
  obtain ⟨t8, e8, _⟩ := DataW.trod_string Tryz.underlying9 g0_6
  cases e8
  obtain ⟨y0_7, g0_7⟩ := field_t hf0 hl0 7 24 9 1 rfl cz24
  replace g0_7 : DataW.trod enc Tryz.prog w base spare held _ 24 [x9] = some _ := g0_7
  obtain ⟨a9, l9, k9, e9⟩ : ∃ a l k, x9 = .slice a l k := by
    rcases Go.Deep.open_slice Tryz.underlying24 g0_7 with ⟨e, _⟩ | ⟨a, len, cap, m, nn, D, Pl, e, _⟩
    · cases e; exact ⟨_, _, _, rfl⟩
    · cases e; exact ⟨_, _, _, rfl⟩
  subst e9
  obtain ⟨y0_8, g0_8⟩ := field_t hf0 hl0 8 26 10 4 rfl cz26
  replace g0_8 : DataW.trod enc Tryz.prog w base spare held _ 26 [x10, x11, x12, x13] = some _ := g0_8
  obtain ⟨xs2, n2, _, _, _, hl2, hf2⟩ := DataW.trod_struct Tryz.underlying26 g0_8
  obtain ⟨y2_0, g2_0⟩ := field_t hf2 hl2 0 3 0 1 rfl cz3
  replace g2_0 : DataW.trod enc Tryz.prog w base spare held _ 3 [x10] = some _ := g2_0
  obtain ⟨i10, e10, _, _⟩ := DataW.trod_int Tryz.underlying3 g2_0
  cases e10
  obtain ⟨y2_1, g2_1⟩ := field_t hf2 hl2 1 3 1 1 rfl cz3
  replace g2_1 : DataW.trod enc Tryz.prog w base spare held _ 3 [x11] = some _ := g2_1
  obtain ⟨i11, e11, _, _⟩ := DataW.trod_int Tryz.underlying3 g2_1
  cases e11
  obtain ⟨y2_2, g2_2⟩ := field_t hf2 hl2 2 3 2 1 rfl cz3
  replace g2_2 : DataW.trod enc Tryz.prog w base spare held _ 3 [x12] = some _ := g2_2
  obtain ⟨i12, e12, _, _⟩ := DataW.trod_int Tryz.underlying3 g2_2
  cases e12
  obtain ⟨y2_3, g2_3⟩ := field_t hf2 hl2 3 3 3 1 rfl cz3
  replace g2_3 : DataW.trod enc Tryz.prog w base spare held _ 3 [x13] = some _ := g2_3
  obtain ⟨i13, e13, _, _⟩ := DataW.trod_int Tryz.underlying3 g2_3
  cases e13
  obtain ⟨y0_9, g0_9⟩ := field_t hf0 hl0 9 29 14 2 rfl cz29
  replace g0_9 : DataW.trod enc Tryz.prog w base spare held _ 29 [x14, x15] = some _ := g0_9
  obtain ⟨xs3, n3, _, _, _, hl3, hf3⟩ := DataW.trod_struct Tryz.underlying29 g0_9
  obtain ⟨y3_0, g3_0⟩ := field_t hf3 hl3 0 3 0 1 rfl cz3
  replace g3_0 : DataW.trod enc Tryz.prog w base spare held _ 3 [x14] = some _ := g3_0
  obtain ⟨i14, e14, _, _⟩ := DataW.trod_int Tryz.underlying3 g3_0
  cases e14
  obtain ⟨y3_1, g3_1⟩ := field_t hf3 hl3 1 27 1 1 rfl cz27
  replace g3_1 : DataW.trod enc Tryz.prog w base spare held _ 27 [x15] = some _ := g3_1
  obtain ⟨a15, l15, k15, cells, e15, hcl, hcs⟩ : ∃ (a : Option Addr) (l k : Nat) (cells : List ByteArray), x15 = .slice a l k ∧ cells.length = l ∧ ∀ j (s : ByteArray), cells[j]? = some s → ∃ ad, a = some ad ∧ w.cell? (ad.add j) = some (.string s) := by
    rcases Go.Deep.open_slice Tryz.underlying27 g3_1 with ⟨e, _⟩ | ⟨a, len, cap, m, nn, D, Pl, e, _, _, _, hmm, _, hi⟩
    · cases e; exact ⟨none, 0, 0, [], rfl, rfl, fun j s hj => by simp at hj⟩
    · cases e
      have hlm : len ≤ m := by rw [hmm]; split <;> omega
      have key : ∀ i, i < len → ∃ s : ByteArray, w.cell? (a.add i) = some (.string s) := fun i hil => by
        obtain ⟨cs', hc, htr⟩ := hi i (by omega)
        obtain ⟨_, hl1, hat⟩ := World.cells?_some hc
        obtain ⟨s, es, _⟩ := DataW.trod_string Tryz.underlying9 htr
        subst es
        refine ⟨s, ?_⟩
        have := hat 0 (by rw [cz9]; decide)
        rw [cz9, Nat.mul_one, Go.Deep.add_add, Nat.add_zero] at this
        rw [this]; rfl
      obtain ⟨f, hfk⟩ := Go.Deep.choose_lt key
      refine ⟨some a, len, cap, (List.range len).map f, rfl, by simp, fun j s hj => ⟨a, rfl, ?_⟩⟩
      simp only [List.getElem?_map, Option.map_eq_some_iff] at hj
      obtain ⟨i, hi', rfl⟩ := hj
      have hjl : j < len := by have := (List.getElem?_eq_some_iff.1 hi').1; simpa using this
      obtain rfl : j = i := by have := (List.getElem?_eq_some_iff.1 hi').2; simpa using this
      exact hfk j hjl
  subst e15
  obtain ⟨y0_10, g0_10⟩ := field_t hf0 hl0 10 32 16 17 rfl cz32
  replace g0_10 : DataW.trod enc Tryz.prog w base spare held _ 32 [x16, x17, x18, x19, x20, x21, x22, x23, x24, x25, x26, x27, x28, x29, x30, x31, x32] = some _ := g0_10
  obtain ⟨xs4, n4, _, _, _, hl4, hf4⟩ := DataW.trod_struct Tryz.underlying32 g0_10
  obtain ⟨y4_0, g4_0⟩ := field_t hf4 hl4 0 3 0 1 rfl cz3
  replace g4_0 : DataW.trod enc Tryz.prog w base spare held _ 3 [x16] = some _ := g4_0
  obtain ⟨i16, e16, _, _⟩ := DataW.trod_int Tryz.underlying3 g4_0
  cases e16
  obtain ⟨y4_1, g4_1⟩ := field_t hf4 hl4 1 3 1 1 rfl cz3
  replace g4_1 : DataW.trod enc Tryz.prog w base spare held _ 3 [x17] = some _ := g4_1
  obtain ⟨i17, e17, _, _⟩ := DataW.trod_int Tryz.underlying3 g4_1
  cases e17
  obtain ⟨y4_2, g4_2⟩ := field_t hf4 hl4 2 3 2 1 rfl cz3
  replace g4_2 : DataW.trod enc Tryz.prog w base spare held _ 3 [x18] = some _ := g4_2
  obtain ⟨i18, e18, _, _⟩ := DataW.trod_int Tryz.underlying3 g4_2
  cases e18
  obtain ⟨y4_3, g4_3⟩ := field_t hf4 hl4 3 3 3 1 rfl cz3
  replace g4_3 : DataW.trod enc Tryz.prog w base spare held _ 3 [x19] = some _ := g4_3
  obtain ⟨i19, e19, _, _⟩ := DataW.trod_int Tryz.underlying3 g4_3
  cases e19
  obtain ⟨y4_4, g4_4⟩ := field_t hf4 hl4 4 3 4 1 rfl cz3
  replace g4_4 : DataW.trod enc Tryz.prog w base spare held _ 3 [x20] = some _ := g4_4
  obtain ⟨i20, e20, _, _⟩ := DataW.trod_int Tryz.underlying3 g4_4
  cases e20
  obtain ⟨y4_5, g4_5⟩ := field_t hf4 hl4 5 3 5 1 rfl cz3
  replace g4_5 : DataW.trod enc Tryz.prog w base spare held _ 3 [x21] = some _ := g4_5
  obtain ⟨i21, e21, _, _⟩ := DataW.trod_int Tryz.underlying3 g4_5
  cases e21
  obtain ⟨y4_6, g4_6⟩ := field_t hf4 hl4 6 3 6 1 rfl cz3
  replace g4_6 : DataW.trod enc Tryz.prog w base spare held _ 3 [x22] = some _ := g4_6
  obtain ⟨i22, e22, _, _⟩ := DataW.trod_int Tryz.underlying3 g4_6
  cases e22
  obtain ⟨y4_7, g4_7⟩ := field_t hf4 hl4 7 3 7 1 rfl cz3
  replace g4_7 : DataW.trod enc Tryz.prog w base spare held _ 3 [x23] = some _ := g4_7
  obtain ⟨i23, e23, _, _⟩ := DataW.trod_int Tryz.underlying3 g4_7
  cases e23
  obtain ⟨y4_8, g4_8⟩ := field_t hf4 hl4 8 3 8 1 rfl cz3
  replace g4_8 : DataW.trod enc Tryz.prog w base spare held _ 3 [x24] = some _ := g4_8
  obtain ⟨i24, e24, _, _⟩ := DataW.trod_int Tryz.underlying3 g4_8
  cases e24
  obtain ⟨y4_9, g4_9⟩ := field_t hf4 hl4 9 3 9 1 rfl cz3
  replace g4_9 : DataW.trod enc Tryz.prog w base spare held _ 3 [x25] = some _ := g4_9
  obtain ⟨i25, e25, _, _⟩ := DataW.trod_int Tryz.underlying3 g4_9
  cases e25
  obtain ⟨y4_10, g4_10⟩ := field_t hf4 hl4 10 3 10 1 rfl cz3
  replace g4_10 : DataW.trod enc Tryz.prog w base spare held _ 3 [x26] = some _ := g4_10
  obtain ⟨i26, e26, _, _⟩ := DataW.trod_int Tryz.underlying3 g4_10
  cases e26
  obtain ⟨y4_11, g4_11⟩ := field_t hf4 hl4 11 30 11 3 rfl cz30
  replace g4_11 : DataW.trod enc Tryz.prog w base spare held _ 30 [x27, x28, x29] = some _ := g4_11
  obtain ⟨_, _, _, _, _, b5_0, b5_1, b5_2⟩ := trod_array3 Tryz.underlying30 cz9 g4_11
  obtain ⟨t27, e27, _⟩ := DataW.trod_string Tryz.underlying9 b5_0
  cases e27
  obtain ⟨t28, e28, _⟩ := DataW.trod_string Tryz.underlying9 b5_1
  cases e28
  obtain ⟨t29, e29, _⟩ := DataW.trod_string Tryz.underlying9 b5_2
  cases e29
  obtain ⟨y4_12, g4_12⟩ := field_t hf4 hl4 12 30 14 3 rfl cz30
  replace g4_12 : DataW.trod enc Tryz.prog w base spare held _ 30 [x30, x31, x32] = some _ := g4_12
  obtain ⟨_, _, _, _, _, b6_0, b6_1, b6_2⟩ := trod_array3 Tryz.underlying30 cz9 g4_12
  obtain ⟨t30, e30, _⟩ := DataW.trod_string Tryz.underlying9 b6_0
  cases e30
  obtain ⟨t31, e31, _⟩ := DataW.trod_string Tryz.underlying9 b6_1
  cases e31
  obtain ⟨t32, e32, _⟩ := DataW.trod_string Tryz.underlying9 b6_2
  cases e32
  obtain ⟨y0_11, g0_11⟩ := field_t hf0 hl0 11 33 33 1 rfl cz33
  replace g0_11 : DataW.trod enc Tryz.prog w base spare held _ 33 [x33] = some _ := g0_11
  obtain ⟨a33, l33, k33, e33⟩ : ∃ a l k, x33 = .slice a l k := by
    rcases Go.Deep.open_slice Tryz.underlying33 g0_11 with ⟨e, _⟩ | ⟨a, len, cap, m, nn, D, Pl, e, _⟩
    · cases e; exact ⟨_, _, _, rfl⟩
    · cases e; exact ⟨_, _, _, rfl⟩
  subst e33
  exact ⟨i0, i1, i2, t3, i4, i5, i6, t7, t8, a9, l9, k9, i10, i11, i12, i13, i14, a15, l15, k15, i16, i17, i18, i19, i20, i21, i22, i23, i24, i25, i26, t27, t28, t29, t30, t31, t32, a33, l33, k33, cells, rfl, hcl, hcs⟩
end Go.Proofs.YtddocfjaofddiaaGreatDoor.Run
