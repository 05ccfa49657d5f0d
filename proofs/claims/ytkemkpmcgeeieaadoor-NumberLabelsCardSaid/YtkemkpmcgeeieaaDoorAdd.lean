/- (*number.counts).add over this program: its contract. Conditions: the block of counts holds 36 numbers; the list lies from 0 to 8, the level from 0 to 3. -/
import Derived.Test.YtkemkpmcgeeieaaDoorProg
import Derived.Test.YtkemkpmcgeeieaaDoorWMore
import Derived.Outline
import Derived.OwnWalk
import Derived.StillTailTactics
import Derived.Laws.Tables
set_option linter.unusedVariables false
set_option linter.unusedSimpArgs false
namespace Go.Proofs.YtkemkpmcgeeieaaDoor.Cnt
open Go Go.RowKit Go.Proofs Go.Proofs.YtkemkpmcgeeieaaDoorW.PrintWords Go.Proofs.YtkemkpmcgeeieaaDoorW.PrintLast Go.Proofs.YtkemkpmcgeeieaaDoorW.PrintMore
/-- From place b + k on, up to b + 3: noughts. -/
def zeroL : Nat → List Int → Nat → Int → Option (List Int)
  | 0, _, _, _ => none
  | n + 1, c, b, k => if k < 4 then zeroL n (c.set (b + k.toNat) 0) b (k + 1) else some c
def place (li lv : Int) : Nat := li.toNat * 4 + lv.toNat
def valL (c : List Int) (li lv : Int) : Int := wrap64 (c.getD (place li lv) 0 + 1)
def addL (c : List Int) (li lv : Int) : Option (List Int) := zeroL 5 (c.set (place li lv) (valL c li lv)) (li.toNat * 4) (lv + 1)
theorem zeroL_len : ∀ (n : Nat) (c : List Int) (b : Nat) (k : Int) (c2 : List Int), zeroL n c b k = some c2 → c2.length = c.length
  | 0, _, _, _, _, h => by simp [zeroL] at h
  | n + 1, c, b, k, c2, h => by
    simp only [zeroL] at h
    split at h
    · have := zeroL_len n _ _ _ _ h
      simpa using this
    · cases h; rfl
theorem addL_len {c c2 : List Int} {li lv : Int} (h : addL c li lv = some c2) : c2.length = c.length := by
  have := zeroL_len _ _ _ _ _ h
  simpa using this
theorem nums_at (c : List Int) (o : Nat) (h : o < c.length) : (nums .i64 c).toArray[o]? = some (.int .i64 (c.getD o 0)) := by simp [nums, h]
theorem nums_set (c : List Int) (o : Nat) (x : Int) : (nums .i64 c).toArray.setIfInBounds o (.int .i64 x) = (nums .i64 (c.set o x)).toArray := by simp [nums, List.map_set]
theorem grown_set {w w1 : World} {g : Nat} (h : w.grownBy w1 (some g)) (o : Nat) (v : Value) : w.grownBy (w1.setCell ⟨g, o, none⟩ v) (some g) :=
  have b := (Below.refl g w1).setCell (p := ⟨g, o, none⟩) (Nat.le_refl _) v
  ⟨b.os.trans h.os, b.tape.trans h.tape, b.output.trans h.output, Nat.le_trans h.size b.size, fun k hk hne =>
    (Below.heap_setCell w1 ⟨g, o, none⟩ v k (fun e => hne (by rw [e]))).trans (h.block k hk hne)⟩
theorem grown_drew {w w1 : World} {row : Option Nat} (h : w.grownBy w1 row) : w.grownBy w1.drew row := ⟨h.os, h.tape, h.output, h.size, h.block⟩
theorem grown_below {w w1 : World} {row : Option Nat} (h : Below w.heap.size w w1) : w.grownBy w1 row := ⟨h.os, h.tape, h.output, h.size, fun k hk _ => h.block k hk⟩
set_option maxHeartbeats 4000000 in
set_option maxRecDepth 100000 in
theorem add_calls (g : Nat) (c c2 : List Int) (li lv : Int) (w : World) (hc : w.heap[g]? = some (.cells (nums .i64 c).toArray 53 (0, 0))) (hl : c.length = 36) (h0 : 0 ≤ li) (h1 : li ≤ 8) (h2 : 0 ≤ lv) (h3 : lv ≤ 3) (h : addL c li lv = some c2) :
    Calls Tryd.prog 29 #[.pointer (some ⟨g, 0, none⟩), .agg #[.int .i64 li, .int .i64 lv]] w fun e w' => e = .returned (.int .i64 (c2.getD (place li lv) 0)) ∧ w'.heap[g]? = some (.cells (nums .i64 c2).toArray 53 (0, 0)) ∧ w.grownBy w' (some g) := by
  have hu36 := Tryd.underlying36
  have hu51 := Tryd.underlying51
  have hu53 := Tryd.underlying53
  have h1b : li < 9 := by omega
  have h3b : lv < 4 := by omega
  have HC := Aside0.mk hc
  have HH := Aside0.mk h
  clear hc h
  go_enter Tryd.func29, Tryd.ntmps29
  go_wp2_with (first | ((with_reducible refine gate_dst (N := 3) rfl ?_); refine box_event ?hg (N := 3) ?hd (cs := #[.int .i64 li, .int .i64 lv]) (t := 36) ?hr ?_; (case hd => rfl); (case hg => rfl); (case hr => first | (go_simp; done) | (go_simp; rfl)); intro g3 hg w1 hbox hb; have BE := Aside0.mk hbox; have BC := Aside0.mk (blk_below HC.out hb); have NE := Aside0.mk (show g3 ≠ g from by have := blk_lt HC.out; omega); have GB := Aside0.mk (grown_below (row := some g) hb); clear hb hbox hg HC))
  have e0 := (blk_cell BE.out 0).trans rfl
  have e1 := (blk_cell BE.out 1).trans rfl
  go_still (by kernel_rfl)
  clear e0 e1
  have BE2 : Aside0 (({ heap := w1.heap, tape := w1.tape, drawn := w1.drawn + 1, os := w1.os, output := w1.output } : World).heap[g3]? = some (.cells #[.int .i64 li, .int .i64 lv] 36 (0, 0))) := ⟨BE.out⟩
  have BC2 : Aside0 (({ heap := w1.heap, tape := w1.tape, drawn := w1.drawn + 1, os := w1.os, output := w1.output } : World).heap[g]? = some (.cells (nums .i64 c).toArray 53 (0, 0))) := ⟨BC.out⟩
  have GB2 : Aside0 (w.grownBy ({ heap := w1.heap, tape := w1.tape, drawn := w1.drawn + 1, os := w1.os, output := w1.output } : World) (some g)) := ⟨⟨GB.out.os, GB.out.tape, GB.out.output, GB.out.size, GB.out.block⟩⟩
  generalize ({ heap := w1.heap, tape := w1.tape, drawn := w1.drawn + 1, os := w1.os, output := w1.output } : World) = w2 at BE2 BC2 GB2 ⊢
  clear BE BC GB
  have e1 := (blk_cell BE2.out 1).trans rfl
  have hx : w2.cell? ⟨g, li.toNat * 4 + lv.toNat, none⟩ = some (.int .i64 (c.getD (place li lv) 0)) := (blk_cell BC2.out _).trans (nums_at c (li.toNat * 4 + lv.toNat) (by omega))
  have hxf : w2.frozen? ⟨g, li.toNat * 4 + lv.toNat, none⟩ = false := blk_frozen BC2.out _
  go_wp2
  refine wp_region_still_tail 9 (by kernel_rfl) (by kernel_rfl) ?_
  simp only [List.take_succ_cons, List.take_zero, List.drop_succ_cons, List.drop_zero]
  repeat still_step
  refine wpStill_nil ?_
  change wpList _ _ _ _ _ w2.drew
  go_upto_region 3 with (fail)
  have BC3 : Aside0 (((w2.setCell { block := g, off := li.toNat * 4 + lv.toNat } (.int .i64 (wrap64 (c[place li lv]?.getD 0 + 1)))).drew).heap[g]? = some (.cells (nums .i64 (c.set (place li lv) (valL c li lv))).toArray 53 (0, 0))) := ⟨blk_put BC2.out _ _ (nums_set _ _ _)⟩
  have BE3 : Aside0 (((w2.setCell { block := g, off := li.toNat * 4 + lv.toNat } (.int .i64 (wrap64 (c[place li lv]?.getD 0 + 1)))).drew).heap[g3]? = some (.cells #[.int .i64 li, .int .i64 lv] 36 (0, 0))) := ⟨blk_far BE2.out NE.out _⟩
  have GB3 : Aside0 (w.grownBy ((w2.setCell { block := g, off := li.toNat * 4 + lv.toNat } (.int .i64 (wrap64 (c[place li lv]?.getD 0 + 1)))).drew) (some g)) := ⟨grown_drew (grown_set GB2.out _ _)⟩
  clear hx hxf e1 BC2 BE2 GB2
  generalize (w2.setCell { block := g, off := li.toNat * 4 + lv.toNat } (.int .i64 (wrap64 (c[place li lv]?.getD 0 + 1)))).drew = w3 at BC3 BE3 GB3 ⊢
  have H' : Aside0 (zeroL 5 (c.set (place li lv) (valL c li lv)) (li.toNat * 4) (lv + 1) = some c2) := HH
  have HL : Aside0 ((c.set (place li lv) (valL c li lv)).length = 36) := ⟨by simpa using hl⟩
  generalize c.set (place li lv) (valL c li lv) = c1 at BC3 H' HL
  clear HH hl
  have e1 := (blk_cell BE3.out 1).trans rfl
  go_wp2
  clear e1
  obtain ⟨K5, hK5⟩ : ∃ K5 : Nat, K5 = 5 := ⟨_, rfl⟩
  rw [← hK5] at H'
  go_loopg [6] K5 (fun kq v6 w' => ∃ (kk : Int) (cc : List Int), v6 = .int .i64 kk ∧ Aside0 (0 ≤ kk ∧ kk ≤ 4) ∧ Aside0 (zeroL kq cc (li.toNat * 4) kk = some c2) ∧ Aside0 (cc.length = 36) ∧ Aside0 (w'.heap[g]? = some (.cells (nums .i64 cc).toArray 53 (0, 0))) ∧ Aside0 (w'.heap[g3]? = some (.cells #[.int .i64 li, .int .i64 lv] 36 (0, 0))) ∧ Aside0 (w.grownBy w' (some g)))
  case atStart => exact ⟨lv + 1, c1, rfl, ⟨by omega, by omega⟩, H', HL, BC3, BE3, GB3⟩
  case round =>
    clear H' HL BC3 BE3 GB3
    obtain ⟨kk, cc, rfl, HK, HA, HL, BC, BE, GB⟩ := hrel
    cases gk with
    | zero => exact absurd HA.out (by simp [zeroL])
    | succ k1 =>
      have H := HA.out
      clear HA
      simp only [zeroL] at H
      by_cases c6 : kk < 4
      · rw [if_pos c6] at H
        have c6b : decide (kk < 4) = true := decide_eq_true c6
        have k0 : 0 ≤ kk := HK.out.1
        have H' := Aside0.mk H
        clear H
        have hx := (blk_cell BC.out (li.toNat * 4 + kk.toNat)).trans (nums_at cc (li.toNat * 4 + kk.toNat) (by have := HL.out; omega))
        have hxf := blk_frozen BC.out (li.toNat * 4 + kk.toNat)
        go_wp2
        have BC2 := Aside0.mk (blk_put BC.out (li.toNat * 4 + kk.toNat) (.int .i64 0) (nums_set cc _ 0))
        have BE2 := Aside0.mk (blk_far BE.out (p := ⟨g, li.toNat * 4 + kk.toNat, none⟩) NE.out (.int .i64 0))
        have GB2 := Aside0.mk (grown_set GB.out (li.toNat * 4 + kk.toNat) (.int .i64 0))
        go_roundg k1
        case measure => omega
        case rel => exact ⟨kk + 1, cc.set (li.toNat * 4 + kk.toNat) 0, rfl, ⟨by omega, by omega⟩, H', ⟨by simpa using HL.out⟩, BC2, BE2, GB2⟩
      · rw [if_neg c6] at H
        have c6b : decide (kk < 4) = false := decide_eq_false c6
        obtain rfl := Option.some.inj H
        have e1 := (blk_cell BE.out 1).trans rfl
        have hx := (blk_cell BC.out (li.toNat * 4 + lv.toNat)).trans (nums_at cc (li.toNat * 4 + lv.toNat) (by have := HL.out; omega))
        go_wp2
        go_still (by kernel_rfl)
        go_wp2
        go_ret
        exact ⟨by simp [place], BC.out, ⟨GB.out.os, GB.out.tape, GB.out.output, GB.out.size, GB.out.block⟩⟩
end Go.Proofs.YtkemkpmcgeeieaaDoor.Cnt
