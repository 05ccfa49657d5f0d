/- number.letters over this program: its contract, over slices.Insert at bytes (module YtkemkpmcgeeieaaDoorInsert). Condition: the number lies from 1 to 3,999. -/
import Derived.Test.YtkemkpmcgeeieaaDoorInsert
import Derived.Test.YtkemkpmcgeeieaaDoorWMore
import Derived.Outline
import Derived.OwnWalk
set_option linter.unusedVariables false
set_option linter.unusedSimpArgs false
namespace Go.Proofs.YtkemkpmcgeeieaaDoor.Let
open Go Go.RowKit Go.Proofs Go.Proofs.YtkemkpmcgeeieaaDoor.Ins Go.Proofs.YtkemkpmcgeeieaaDoorW.PrintWords Go.Proofs.YtkemkpmcgeeieaaDoorW.PrintLast Go.Proofs.YtkemkpmcgeeieaaDoorW.PrintMore

/-- A row's cells behind several stores. -/
def spl (cur : Array Value) : Nat → List Value → Array Value
  | _, [] => cur
  | o, v :: r => spl (cur.setIfInBounds o v) (o + 1) r
theorem setCells_row {t : TypeId} {g : Nat} : ∀ (vs : List Value) (o : Nat) (w : World) (cur : Array Value), w.heap[g]? = some (.cells cur t (0, 0)) → (w.setCells g o vs).heap[g]? = some (.cells (spl cur o vs) t (0, 0))
  | [], _, _, _, h => h
  | v :: r, o, w, cur, h => setCells_row r (o + 1) (w.setCell ⟨g, o, none⟩ v) _ (blk_put h o v rfl)
theorem spl_size : ∀ (vs : List Value) (o : Nat) (cur : Array Value), (spl cur o vs).size = cur.size
  | [], _, _ => rfl
  | v :: r, o, cur => by simp [spl, spl_size r]
theorem spl_list : ∀ (vs : List Value) (o : Nat) (cur : Array Value), o + vs.length ≤ cur.size → (spl cur o vs).toList = cur.toList.take o ++ (vs ++ cur.toList.drop (o + vs.length))
  | [], o, cur, _ => by simp [spl]
  | v :: r, o, cur, h => by
    have h' : o + (r.length + 1) ≤ cur.size := h
    rw [spl, spl_list r (o + 1) _ (by simp; omega)]
    have hl : o < cur.toList.length := by simp; omega
    simp only [Array.toList_setIfInBounds, List.length_cons]
    rw [List.set_eq_take_append_cons_drop, if_pos hl]
    have t1 : (cur.toList.take o ++ v :: cur.toList.drop (o + 1)).take (o + 1) = cur.toList.take o ++ [v] := by
      have e0 : (cur.toList.take o).length = o := by simp; omega
      have e1 : o + 1 - o = 1 := by omega
      rw [List.take_append, e0, List.take_of_length_le (by rw [e0]; omega), e1]
      rfl
    have t2 : (cur.toList.take o ++ v :: cur.toList.drop (o + 1)).drop (o + 1 + r.length) = cur.toList.drop (o + (r.length + 1)) := by
      rw [List.drop_append]
      have e1 : (cur.toList.take o).length = o := by simp; omega
      rw [e1, List.drop_of_length_le (by rw [e1]; omega)]
      have e2 : o + 1 + r.length - o = r.length + 1 := by omega
      rw [e2]
      simp only [List.nil_append, List.drop_succ_cons, List.drop_drop]
      congr 1
      omega
    rw [t1, t2]
    simp
theorem below_setCells {B g : Nat} {w0 : World} (hg : B ≤ g) : ∀ (vs : List Value) (o : Nat) (w : World), Below B w0 w → Below B w0 (w.setCells g o vs)
  | [], _, _, h => h
  | v :: r, o, w, h => below_setCells hg r (o + 1) _ (h.setCell (p := ⟨g, o, none⟩) hg v)

theorem insert_own {base : Nat} {sv : Value} {xs : List Value} {w w0 : World} (b : Int) (gv : Nat) (h : w.ownsRow base 5 1 sv xs.length xs) (hnil : xs = [] → sv = .slice none 0 0)
    (hs : xs.length ≤ 100) (hv : w.heap[gv]? = some (.cells #[.int .u8 b] 5 (0, 0))) (hne : ∀ k, sv.ownBlock = some k → k ≠ gv) (h1 : ∀ v ∈ xs, v.oneCell' = true) (hb : base ≤ w.heap.size) :
    Calls Tryd.prog 32 #[sv, .int .i64 0, .slice (some ⟨gv, 0, none⟩) 1 1] w fun e w' => ∃ sv', e = .returned sv' ∧ w'.ownsRow base 5 1 sv' (xs.length + 1) (.int .u8 b :: xs) ∧ Below base w w' := by
  have hvs : ∀ j v, [Value.int .u8 b][j]? = some v → w.cell? ⟨gv, 0 + j, none⟩ = some v := by
    intro j v hj
    rw [Nat.zero_add, blk_cell hv]
    simpa using hj
  have h1v : ∀ v ∈ [Value.int .u8 b], v.oneCell' = true := by simp [Value.oneCell']
  rcases h.2 with ⟨rfl, hn⟩ | ⟨g, c, cur, rfl, hg, hG, hnc, hc63, hcs, ht⟩
  · obtain rfl : xs = [] := List.eq_nil_of_length_eq_zero hn
    refine (insert_byte_end_grow none 0 0 gv 0 1 1 [] [.int .u8 b] w (by omega) (by omega) (by omega) (by omega) rfl rfl (fun _ => rfl) (by simp) hvs h1v).mono ?_
    rintro e w' ⟨rfl, rfl⟩
    have hG1 : 0 + 1 ≤ grownCap w (0 + 1) 0 5 := grownCap_ge _ _ _ _
    have hG2 : grownCap w (0 + 1) 0 5 ≤ maxLen := grownCap_le_maxLen _ _ _ _ (by unfold maxLen; omega)
    generalize grownCap w (0 + 1) 0 5 = G at hG1 hG2
    refine ⟨_, rfl, ⟨rfl, .inr ⟨w.heap.size, _, _, rfl, hb, heap_alloc_new _ _, hG1, hG2, ?_, ?_⟩⟩, ?_⟩
    · simp [Builtin.zeroCells, Value.cells]
      omega
    · simp
    · exact Below.alloc (below_drew1 (Below.refl base w)) hb _
  · have hx : xs ≠ [] := fun he => by
      have := hnil he
      simp at this
    have hpos : 0 < xs.length := List.length_pos_iff.2 hx
    have hgne : g ≠ gv := hne g rfl
    have hcell : ∀ j v, xs[j]? = some v → w.cell? ⟨g, 0 + j, none⟩ = some v := by
      intro j v hj
      rw [Nat.zero_add, blk_cell hG]
      have : (cur.toList.take (xs.length * 1))[j]? = some v := by rw [ht]; exact hj
      rw [List.getElem?_take] at this
      split at this
      · simpa using this
      · cases this
    have hc : cur.size = c := by omega
    rcases Nat.lt_or_ge c (xs.length + 1) with hr | hr
    · refine (insert_byte_grow g 0 xs.length c 0 gv 0 1 1 xs [.int .u8 b] w (by omega) (by omega) hnc hr (by omega) rfl rfl hcell hvs h1 h1v).mono ?_
      rintro e w' ⟨rfl, rfl⟩
      obtain ⟨G, hGe⟩ : ∃ G, G = grownCap w (xs.length + 1) c 5 := ⟨_, rfl⟩
      have hG1 : xs.length + 1 ≤ G := by rw [hGe]; exact grownCap_ge _ _ _ _
      have hG2 : G ≤ maxLen := by rw [hGe]; exact grownCap_le_maxLen _ _ _ _ (by unfold maxLen; omega)
      rw [← hGe]
      obtain ⟨ROW, hROW⟩ : ∃ ROW : Array Value, ROW = (List.take 0 xs).toArray ++ Builtin.zeroCells (Value.int .u8 0).cells (xs.length + 1 - 0) ++ Builtin.zeroCells (Value.int .u8 0).cells (G - (xs.length + 1)) := ⟨_, rfl⟩
      rw [← hROW]
      have hRs : ROW.size = G := by rw [hROW]; simp [Builtin.zeroCells, Value.cells]; omega
      have r1 : (w.alloc (.cells ROW 5)).drew.heap[w.heap.size]? = some (.cells ROW 5 (0, 0)) := heap_alloc_new w _
      have r2 := setCells_row [Value.int .u8 b] 0 _ _ r1
      have r3 : (((w.alloc (.cells ROW 5)).drew.setCells w.heap.size 0 [Value.int .u8 b]).drew).heap[w.heap.size]? = _ := r2
      have r4 := setCells_row (List.drop 0 xs) (0 + 1) _ _ r3
      refine ⟨_, rfl, ⟨by simp, .inr ⟨w.heap.size, G, _, rfl, hb, r4, hG1, hG2, by rw [spl_size, spl_size]; omega, ?_⟩⟩, ?_⟩
      · rw [spl_list _ _ _ (by rw [spl_size]; simp; omega), spl_list _ _ _ (by simp; omega)]
        simp
      · refine below_setCells hb _ _ _ ?_
        have b1 : Below base w (w.alloc (.cells ROW 5)).drew := below_drew1 (Below.alloc (Below.refl base w) hb _)
        have b2 := below_setCells hb [Value.int .u8 b] 0 _ b1
        exact ⟨b2.os, b2.tape, b2.output, b2.size, b2.block⟩
    · refine (insert_byte_shift g 0 xs.length c 0 gv 0 1 1 xs [.int .u8 b] w (by omega) (by omega) hr (by unfold maxLen at hc63; omega) (Ne.symm hgne) rfl rfl hcell
        (fun j hj => by rw [Nat.zero_add, blk_cell hG, Array.getElem?_eq_getElem (by omega)]; rfl) (fun j hj => by rw [Nat.zero_add]; exact blk_frozen hG j) hvs h1 h1v
        5 5 1 c (by simp [World.shape?, hv]) (by simp [World.shape?, hG, hc]) (by omega) (blk_frozen hv 0) (blk_frozen hv 1)).mono ?_
      rintro e w' ⟨rfl, rfl⟩
      have r1 : w.drew.heap[g]? = some (.cells cur 5 (0, 0)) := hG
      have r2 := setCells_row (List.drop 0 xs) (0 + (0 + 1)) _ _ r1
      have r3 := setCells_row [Value.int .u8 b] (0 + 0) _ _ r2
      refine ⟨_, rfl, ⟨by simp, .inr ⟨g, c, _, rfl, hg, r3, hr, hc63, by rw [spl_size, spl_size]; omega, ?_⟩⟩, ?_⟩
      · rw [spl_list _ _ _ (by rw [spl_size]; simp; omega), spl_list _ _ _ (by simp; omega)]
        simp
        cases hl : cur.toList with
        | nil => have h2 : cur.size = 0 := by rw [← Array.length_toList, hl]; rfl
                 omega
        | cons y ys => simp
      · exact below_setCells hg _ _ _ (below_setCells hg _ _ _ (below_drew1 (Below.refl base w)))

theorem own_block_lt {w : World} {base n size : Nat} {e : TypeId} {v : Value} {xs : List Value} (h : w.ownsRow base e size v n xs) : ∀ k, v.ownBlock = some k → k ≠ w.heap.size := by
  rcases h.2 with ⟨rfl, _⟩ | ⟨g, cap, cur, rfl, _, hg, _⟩
  · intro k hk; cases hk
  · intro k hk
    cases hk
    have := blk_lt hg
    show g ≠ _
    omega
def lettersL : Nat → Int → List Int → Option (List Int)
  | 0, _, _ => none
  | k + 1, n, xs => if 0 < n then (if n ≤ 4000 then (if xs.length < 50 then lettersL k ((n - 1) / 26) ((97 + (n - 1) % 26) :: xs) else none) else none) else some xs

set_option maxHeartbeats 4000000 in
set_option maxRecDepth 100000 in
theorem letters_calls (k : Nat) (n : Int) (r : List Int) (w : World) (h : lettersL k n [] = some r) (h0 : 0 ≤ n) :
    Calls Tryd.prog 23 #[.int .i64 n] w fun e w' => e = .returned (.string (strOfNums r)) ∧ Below w.heap.size w w' := by
  have HB := Aside0.mk (Below.refl w.heap.size w)
  have H' := Aside0.mk h
  have H0 := Aside0.mk h0
  clear h h0
  have HO : Aside0 (w.ownsRow w.heap.size 5 1 (.slice none 0 0) ([] : List Int).length (nums .u8 [])) := ⟨⟨rfl, .inl ⟨rfl, rfl⟩⟩⟩
  go_enter Tryd.func23, Tryd.ntmps23
  go_wp2
  go_loopg [0, 3] k (fun kq v0 v3 w' => ∃ (m : Int) (xs : List Int), v0 = .int .i64 m ∧ Aside0 (0 ≤ m) ∧ Aside0 (lettersL kq m xs = some r) ∧ Aside0 (xs = [] → v3 = .slice none 0 0) ∧ Aside0 (w'.ownsRow w.heap.size 5 1 v3 xs.length (nums .u8 xs)) ∧ Aside0 (Below w.heap.size w w'))
  case atStart => exact ⟨n, [], rfl, H0, H', ⟨fun _ => rfl⟩, HO, HB⟩
  case round =>
    clear H' H0 HO HB
    obtain ⟨m, xs, rfl, H0, HA, HN, HO, HB⟩ := hrel
    cases gk with
    | zero => exact absurd HA.out (by simp [lettersL])
    | succ k1 =>
      have H := HA.out
      clear HA
      simp only [lettersL] at H
      by_cases c1 : 0 < m
      · rw [if_pos c1] at H
        have c1b : decide (0 < m) = true := decide_eq_true c1
        have c2 : m ≤ 4000 := by
          rcases Classical.em (m ≤ 4000) with c | c
          · exact c
          · rw [if_neg c] at H; cases H
        rw [if_pos c2] at H
        have c3 : xs.length < 50 := by
          rcases Classical.em (xs.length < 50) with c | c
          · exact c
          · rw [if_neg c] at H; cases H
        rw [if_pos c3] at H
        have H' := Aside0.mk H
        clear H
        have hlen : (nums .u8 xs).length = xs.length := by simp [nums]
        go_wp2_with (first | (go_at_call 32; refine (insert_own (base := w.heap.size) (xs := nums .u8 xs) (w0 := w) (97 + (m - 1) % 26) wr.heap.size ?a1 ?a2 ?a3 ?a4 ?a5 ?a6 ?a7).mono ?_; (case a1 => (rw [hlen]; exact own_alloc HO.out _)); (case a2 => (intro h; exact HN.out (by simpa [nums] using h))); (case a3 => omega); (case a4 => exact blk_new _ _); (case a5 => exact own_block_lt HO.out); (case a6 => (intro v hv; obtain ⟨x, _, rfl⟩ := List.mem_map.1 hv; rfl)); (case a7 => exact Nat.le_trans (below_size HB.out) (Nat.le_of_lt (by simp))); rintro e w2 ⟨sv2, rfl, ho2, hb2⟩; have HO2 : Aside0 (w2.ownsRow w.heap.size 5 1 sv2 ((97 + (m - 1) % 26) :: xs).length (nums .u8 ((97 + (m - 1) % 26) :: xs))) := ⟨by rw [hlen] at ho2; exact ho2⟩; have HB2 := Aside0.mk (Below.trans (Below.alloc HB.out (below_size HB.out) _) hb2); clear ho2 hb2 HB HO))
        go_roundg k1
        case measure => omega
        case rel => exact ⟨(m - 1) / 26, (97 + (m - 1) % 26) :: xs, rfl, ⟨by omega⟩, H', ⟨fun h => by cases h⟩, HO2, HB2⟩
      · rw [if_neg c1] at H
        obtain rfl := Option.some.inj H
        have hcv8 := own_string (P := Tryd.prog) Tryd.underlying56 Tryd.underlying5 Tryd.underlying9 HO.out
        go_wp2
        go_ret
        exact ⟨rfl, HB.out⟩
end Go.Proofs.YtkemkpmcgeeieaaDoor.Let
