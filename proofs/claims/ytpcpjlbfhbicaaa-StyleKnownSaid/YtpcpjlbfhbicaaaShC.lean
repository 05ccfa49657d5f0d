/- style.with over this program: its contract. Conditions: the settings' row reads, and each may be. -/
import Derived.Test.YtpcpjlbfhbicaaaShB
import Derived.Laws.Tables
import Derived.Laws.CopyOwn
set_option linter.unusedVariables false
set_option linter.unusedSimpArgs false
namespace Go.Proofs.Ytpcpjlbfhbicaaa.Sh
open Go Go.RowKit Go.Proofs.YtpcpjlbfhbicaaaW.PrintWords Go.Proofs.YtpcpjlbfhbicaaaW.PrintLast Go.Proofs.YtpcpjlbfhbicaaaW.PrintMore Go.Proofs.Ytpcpjlbfhbicaaa.PStyleProps
open Go.Proofs.Ytpcpjlbfhbicaaa.PStyleNearest (S37 k37 z37 rd_T37 at_T37 k37_open k37_openM k37_mk k37_mkM info37)
/-- The 17 values as they lie. -/
def row (f : Int → Int) : Array Value := #[.int .i64 (f 1), .int .i64 (f 2), .int .i64 (f 3), .int .i64 (f 4), .int .i64 (f 5), .int .i64 (f 6), .int .i64 (f 7), .int .i64 (f 8), .int .i64 (f 9), .int .i64 (f 10), .int .i64 (f 11), .int .i64 (f 12), .int .i64 (f 13), .int .i64 (f 14), .int .i64 (f 15), .int .i64 (f 16), .int .i64 (f 17)]
theorem row_size (f : Int → Int) : (row f).size = 17 := rfl
theorem row_all (f : Int → Int) : (row f).all (·.oneCell') = true := by simp [row, Value.oneCell']
def upd (f : Int → Int) (n v : Int) : Int → Int := fun j => if j = n then v else f j
def withF (f : Int → Int) (l : List S37) : Int → Int := l.foldl (fun f s => upd f s.f0 s.f1) f
def fitsAll (l : List S37) : Prop := ∀ s ∈ l, fitB s.f0 s.f1 = true
theorem fit_range {n v : Int} (h : fitB n v = true) : 1 ≤ n ∧ n ≤ 17 := by
  simp only [fitB, Bool.and_eq_true, decide_eq_true_eq] at h
  exact ⟨h.1.1.1, h.1.1.2⟩
theorem with1 (f : Int → Int) (n v : Int) (w : World) (h : fitB n v = true) : Calls Try.prog 17 #[.agg (row f), .agg #[.int .i64 n, .int .i64 v]] w fun e w' => e = .returned (.tuple #[.agg (row (upd f n v)), .int .i64 0]) ∧ Below w.heap.size w w' :=
  with_in (f 1) (f 2) (f 3) (f 4) (f 5) (f 6) (f 7) (f 8) (f 9) (f 10) (f 11) (f 12) (f 13) (f 14) (f 15) (f 16) (f 17) n v 20 w (fit_range h).1 (fit_range h).2 ((fits_f n v).trans (by rw [h]))
theorem info23 : (Try.prog.info? 23).map (·.size) = some 17 := by kernel_rfl
set_option maxHeartbeats 4000000 in
set_option maxRecDepth 100000 in
theorem with_calls (f : Int → Int) (v : Value) (l : List S37) (w : World) (hv : Sl w v l) (hf : fitsAll l) :
    Calls Try.prog 45 #[.agg (row f), v] w fun e w' => e = .returned (.agg (row (withF f l))) ∧ Below w.heap.size w w' := by
  obtain ⟨A, c, rfl, hc, hr⟩ := hv
  have hu := Try.underlying23
  have hu2 := Try.underlying37
  have HR := Aside0.mk hr
  have HF := Aside0.mk hf
  obtain ⟨r, hr0⟩ : ∃ r, Aside0 (row (withF f l) = r) := ⟨_, ⟨rfl⟩⟩
  rw [hr0.out]
  clear hr hf hc
  obtain ⟨R, hR⟩ : ∃ R, Aside0 (row f = R) := ⟨_, ⟨rfl⟩⟩
  have hcells : (Value.agg R).cells = R := by rw [← hR.out]; rfl
  rw [hR.out]
  go_enter Try.func45, Try.ntmps45
  go_wp2_with (first | ((with_reducible refine gate_dst (N := 2) rfl ?_); refine box_event ?hg (N := 2) ?hd (cs := R) (t := 23) ?hr ?_; (case hd => rfl); (case hg => rfl); (case hr => first | (go_simp; done) | (go_simp; rfl)); intro g1 hg w1 hbox hb; have HB1 := Aside0.mk hb; have BK1 := Aside0.mk hbox; have GE1 : Aside0 (w.heap.size ≤ g1) := ⟨by rw [hg]; exact Nat.le_refl _⟩; clear hb hbox hg) | ((with_reducible refine gate_dst (N := 4) rfl ?_); refine box_event ?hg (N := 4) ?hd (cs := #[.int .i64 0, .int .i64 0, .int .i64 0, .int .i64 0, .int .i64 0, .int .i64 0, .int .i64 0, .int .i64 0, .int .i64 0, .int .i64 0, .int .i64 0, .int .i64 0, .int .i64 0, .int .i64 0, .int .i64 0, .int .i64 0, .int .i64 0]) (t := 23) ?hr ?_; (case hd => rfl); (case hg => rfl); (case hr => first | (go_simp; done) | (go_simp; rfl)); intro g3 hg w3 hbox hb; have HB3 := Aside0.mk (below_step HB1.out hb); have BK3 := Aside0.mk hbox; have GE3 : Aside0 (w.heap.size ≤ g3) := ⟨by rw [hg]; exact below_size HB1.out⟩; have N13 : Aside0 (g1 ≠ g3) := ⟨by rw [hg]; exact Nat.ne_of_lt (blk_lt BK1.out)⟩; have BK1b := Aside0.mk (blk_below BK1.out hb); clear hb hbox hg))
  go_loopg [9] l.length (fun kq v9 w' => ∃ i : Int, v9 = .int .i64 i ∧ Aside0 (0 ≤ i ∧ i + kq = l.length) ∧ (∃ fi, Aside0 (row (withF fi (l.drop i.toNat)) = r) ∧ Aside0 (w'.heap[g1]? = some (.cells (row fi) 23 (0, 0)))) ∧ Aside0 (w'.heap[g3]? = some (.cells #[.int .i64 0, .int .i64 0, .int .i64 0, .int .i64 0, .int .i64 0, .int .i64 0, .int .i64 0, .int .i64 0, .int .i64 0, .int .i64 0, .int .i64 0, .int .i64 0, .int .i64 0, .int .i64 0, .int .i64 0, .int .i64 0, .int .i64 0] 23 (0, 0))) ∧ Aside0 (Below w.heap.size w w'))
  case atStart => exact ⟨0, rfl, ⟨by omega, by simp⟩, ⟨f, hr0, by rw [hR.out]; exact BK1b⟩, BK3, HB3⟩
  case round =>
    clear hr0 HB1 HB3 BK1 BK1b BK3 hR hcells
    obtain ⟨i, rfl, HK, ⟨fi, HA, BK1⟩, BK3, HB⟩ := hrel
    cases gk with
    | zero =>
      have hk := HK.out
      have c1 : decide (i < (l.length : Int)) = false := decide_eq_false (by omega)
      have hd : l.drop i.toNat = [] := List.drop_eq_nil_of_le (by omega)
      have ha := HA.out
      rw [hd] at ha
      have ha' : row fi = r := ha
      rw [ha'] at BK1
      have hs : r.size = 17 := by rw [← ha']; rfl
      have h1 : r.all (·.oneCell') = true := by rw [← ha']; exact row_all _
      have HS := Aside0.mk hs
      have HO := Aside0.mk h1
      clear HA ha hd hk ha' hs h1
      go_wp2_with (first | ((with_reducible refine gate_dst (N := 20) rfl ?_); refine wpList_load_row rfl 23 (.tmp 2) rfl g1 rfl 23 r (0, 0) _ BK1.out Try.underlying23 rfl (by rw [HS.out]; exact info23) ?_) | ((with_reducible refine gate_store (t := 23) (p := 4) rfl ?_); refine wpList_store_row rfl 23 (.tmp 4) (.tmp 20) rfl g3 r rfl rfl 23 #[.int .i64 0, .int .i64 0, .int .i64 0, .int .i64 0, .int .i64 0, .int .i64 0, .int .i64 0, .int .i64 0, .int .i64 0, .int .i64 0, .int .i64 0, .int .i64 0, .int .i64 0, .int .i64 0, .int .i64 0, .int .i64 0, .int .i64 0] BK3.out (by rw [HS.out]; exact info23) (by rw [HS.out]; rfl) HO.out ?_; have HB9 := Aside0.mk (below_setRow HB.out GE3.out r); have BK9 := Aside0.mk (setRow_heap _ g3 _ r 23 (0, 0) BK3.out); clear HB BK3; generalize World.setRow _ g3 r = w9 at HB9 BK9 ⊢))
      refine bodyPost_ret (results_cell_row rfl _ _ g3 23 r (0, 0) _ rfl BK9.out Try.underlying23 rfl (by rw [HS.out]; exact info23)) rfl ?_
      exact ⟨rfl, HB9.out⟩
    | succ k1 =>
      have hk := HK.out
      have p108 : 0 ≤ i := hk.1
      have q108 : i < (l.length : Int) := by omega
      have c1 : decide (i < (l.length : Int)) = true := decide_eq_true q108
      have c2 : decide (0 ≤ i) = true := decide_eq_true p108
      have hg : l[i.toNat]? = some (rd_T37 l i) := by
        unfold rd_T37
        rw [List.getD_eq_getElem?_getD, List.getElem?_eq_getElem (by omega)]
        rfl
      have hfit := HF.out _ (List.mem_of_getElem? hg)
      have hdrop : l.drop i.toNat = rd_T37 l i :: l.drop (i.toNat + 1) := by
        rw [List.drop_eq_getElem_cons (by omega)]
        rw [List.getElem?_eq_getElem (by omega)] at hg
        injection hg with hg
        rw [hg]
      have ha := HA.out
      rw [hdrop] at ha
      have HA' : Aside0 (row (withF (upd fi (rd_T37 l i).f0 (rd_T37 l i).f1) (l.drop (i.toNat + 1))) = r) := ⟨ha⟩
      have HG : Aside0 (∀ w, Calls Try.prog 17 #[.agg (row fi), .agg #[.int .i64 (rd_T37 l i).f0, .int .i64 (rd_T37 l i).f1]] w fun e w' => e = .returned (.tuple #[.agg (row (upd fi (rd_T37 l i).f0 (rd_T37 l i).f1)), .int .i64 0]) ∧ Below w.heap.size w w') := ⟨fun w => with1 fi _ _ w hfit⟩
      obtain ⟨ad, e108, hx0, hx1⟩ := at_T37 HR.out i p108 q108
      cases e108
      replace hx0 := (HB.out.cell (World.block_lt_of_cell? w _ hx0)).trans hx0
      replace hx1 := (HB.out.cell (World.block_lt_of_cell? w _ hx1)).trans hx1
      clear ha hdrop hfit hg HA hk
      replace p108 := eq_true p108
      replace q108 := eq_true q108
      have HS : Aside0 ((row fi).size = 17) := ⟨rfl⟩
      have HS2 : Aside0 ((row (upd fi (rd_T37 l i).f0 (rd_T37 l i).f1)).size = 17) := ⟨rfl⟩
      have HO2 : Aside0 ((row (upd fi (rd_T37 l i).f0 (rd_T37 l i).f1)).all (·.oneCell') = true) := ⟨row_all _⟩
      obtain ⟨f2, hf2⟩ : ∃ f2, Aside0 (upd fi (rd_T37 l i).f0 (rd_T37 l i).f1 = f2) := ⟨_, ⟨rfl⟩⟩
      rw [hf2.out] at HA' HG HS2 HO2
      obtain ⟨R2, hR2⟩ : ∃ R2, Aside0 (row f2 = R2) := ⟨_, ⟨rfl⟩⟩
      rw [hR2.out] at HG HS2 HO2
      obtain ⟨R1, hR1⟩ : ∃ R1, Aside0 (row fi = R1) := ⟨_, ⟨rfl⟩⟩
      rw [hR1.out] at HG HS BK1
      generalize (rd_T37 l i).f0 = p0 at hx0 HG
      generalize (rd_T37 l i).f1 = p1 at hx1 HG
      go_wp2_with (first | ((with_reducible refine gate_dst (N := 6) rfl ?_); refine box_event ?hg (N := 6) ?hd (cs := #[.int .i64 0, .int .i64 0]) (t := 37) ?hr ?_; (case hd => rfl); (case hg => rfl); (case hr => first | (go_simp; done) | (go_simp; rfl)); intro g6 hg w6 hbox hb; have HB6 := Aside0.mk (below_step HB.out hb); have BK6 := Aside0.mk hbox; have GE6 : Aside0 (w.heap.size ≤ g6) := ⟨by rw [hg]; exact below_size HB.out⟩; have N16 : Aside0 (g1 ≠ g6) := ⟨by rw [hg]; exact Nat.ne_of_lt (blk_lt BK1.out)⟩; have N36 : Aside0 (g3 ≠ g6) := ⟨by rw [hg]; exact Nat.ne_of_lt (blk_lt BK3.out)⟩; have BK1c := Aside0.mk (blk_below BK1.out hb); have BK3c := Aside0.mk (blk_below BK3.out hb); clear HB BK1 BK3; have z0 : w6.cell? ⟨g6, 0, none⟩ = some (.int .i64 0) := (blk_cell BK6.out 0).trans rfl; have z1 : w6.cell? ⟨g6, 1, none⟩ = some (.int .i64 0) := (blk_cell BK6.out 1).trans rfl; have zf0 := blk_frozen BK6.out 0; have zf1 := blk_frozen BK6.out 1; clear hb hbox hg) | ((with_reducible refine gate_dst (N := 14) rfl ?_); have BK1d := Aside0.mk (blk_far (p := ⟨g6, 1, none⟩) (blk_far (p := ⟨g6, 0, none⟩) BK1c.out N16.out (.int .i64 p0)) N16.out (.int .i64 p1)); have BK3d := Aside0.mk (blk_far (p := ⟨g6, 1, none⟩) (blk_far (p := ⟨g6, 0, none⟩) BK3c.out N36.out (.int .i64 p0)) N36.out (.int .i64 p1)); have HB7 := Aside0.mk (below_set (j := 1) (v := .int .i64 p1) (below_set (j := 0) (v := .int .i64 p0) HB6.out GE6.out) GE6.out); have BK6b := Aside0.mk (blk_put (cs := #[.int .i64 p0, .int .i64 0]) (cs' := #[.int .i64 p0, .int .i64 p1]) (blk_put (cs := #[.int .i64 0, .int .i64 0]) (cs' := #[.int .i64 p0, .int .i64 0]) BK6.out 0 (.int .i64 p0) rfl) 1 (.int .i64 p1) rfl); clear z0 z1 zf0 zf1 HB6 BK6 BK1c BK3c; generalize World.setCell (World.setCell w6 _ _) _ _ = w7 at *; have z0 : w7.cell? ⟨g6, 0, none⟩ = some (.int .i64 p0) := (blk_cell BK6b.out 0).trans rfl; have z1 : w7.cell? ⟨g6, 1, none⟩ = some (.int .i64 p1) := (blk_cell BK6b.out 1).trans rfl; refine wpList_load_row rfl 23 (.tmp 2) rfl g1 rfl 23 R1 (0, 0) _ BK1d.out Try.underlying23 rfl (by rw [HS.out]; exact info23) ?_) | (go_at_call 17; refine (HG.out _).mono ?_; rintro e w8 ⟨rfl, hb⟩; have HB8 := Aside0.mk (below_step HB7.out hb); have BK1e := Aside0.mk (blk_below BK1d.out hb); have BK3e := Aside0.mk (blk_below BK3d.out hb); clear hb z0 z1 HB7 BK1d BK3d) | ((with_reducible refine gate_store (t := 23) (p := 2) rfl ?_); refine wpList_store_row rfl 23 (.tmp 2) (.tmp 17) rfl g1 R2 rfl rfl 23 R1 BK1e.out (by rw [HS2.out]; exact info23) (by rw [HS2.out, HS.out]) HO2.out ?_; have HB9 := Aside0.mk (below_setRow HB8.out GE1.out R2); have BK9 := Aside0.mk (setRow_heap _ g1 _ R2 23 (0, 0) BK1e.out); have BK3f := Aside0.mk ((setRow_other _ g1 g3 R2 N13.out.symm).trans BK3e.out); clear HB8 BK1e BK3e; generalize World.setRow _ g1 R2 = w9 at HB9 BK9 BK3f ⊢))
      go_roundg k1
      case measure => omega
      case rel => exact ⟨i + 1, by rw [show wrap64 (i + 1) = i + 1 by (have h1 := HR.out.2.1; have h2 := HK.out; unfold wrap64; omega)], ⟨by have := HK.out; omega, by have := HK.out; omega⟩, ⟨f2, by rw [show (i + 1).toNat = i.toNat + 1 by have := HK.out; omega]; exact HA', by rw [hR2.out]; exact BK9⟩, BK3f, HB9⟩
end Go.Proofs.Ytpcpjlbfhbicaaa.Sh
