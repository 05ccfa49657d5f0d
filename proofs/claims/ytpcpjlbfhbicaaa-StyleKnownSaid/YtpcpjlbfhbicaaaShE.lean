/- (*style.Sheet).Resolve over this program: its contracts, case by case. Conditions: the Sheet stands in memory, each style's settings may be, the chain of parents ends. -/
import Derived.Test.YtpcpjlbfhbicaaaShD
set_option linter.unusedVariables false
set_option linter.unusedSimpArgs false
namespace Go.Proofs.Ytpcpjlbfhbicaaa.Sh
open Go Go.RowKit Go.Proofs.YtpcpjlbfhbicaaaW.PrintWords Go.Proofs.YtpcpjlbfhbicaaaW.PrintLast Go.Proofs.YtpcpjlbfhbicaaaW.PrintMore Go.Proofs.Ytpcpjlbfhbicaaa.PStyleProps
open Go.Proofs.Ytpcpjlbfhbicaaa.PStyleNearest (S37 k37 z37 rd_T37 at_T37 k37_open k37_openM k37_mk k37_mkM info37)
def zero : Int → Int := fun _ => 0
theorem settings_calls (ks : Nat) (v : Value) (l : List S37) (e : Int) (w : World) (hv : Sl w v l) (h : PStyleNearest.style_settings.f ks l = some e) : Calls Try.prog 42 #[v] w fun x w' => x = .returned (.int .i64 e) ∧ Below w.heap.size w w' := by
  obtain ⟨A, c, rfl, hc, hr⟩ := hv
  exact PStyleNearest.style_settings.calls ks A c l e w hr hc h
set_option maxHeartbeats 4000000 in
set_option maxRecDepth 100000 in
theorem resolve_miss (gs gm : Nat) (L : List Sty) (n : ByteArray) (v : Value) (own : List S37) (w : World) (hs : Sheet w gs gm L) (hv : Sl w v own) (hn : n ≠ ⟨#[]⟩) (hf : fnd L n = none) :
    Calls Try.prog 24 #[.pointer (some ⟨gs, 0, none⟩), .string n, v] w fun e w' => e = .returned (.tuple #[.agg (row zero), .int .i64 6]) ∧ Below w.heap.size w w' := by
  have hu := Try.underlying77
  have hu5 := Try.underlying75
  have hu8 := Try.underlying85
  have hu23 := Try.underlying23
  obtain ⟨h1, M, hm, hrd⟩ := hs
  obtain ⟨r1, r2, r3, _⟩ := reads_all n hrd
  obtain ⟨p, hp⟩ : ∃ p, p = upL L n := ⟨_, rfl⟩
  rw [← hp] at r1
  obtain ⟨A, c, e1, e2, e3⟩ := r2
  generalize hm0 : (setsL L n).length = m at e1 e2 e3
  have HS : Aside0 (Sheet w gs gm L) := ⟨h1, M, hm, hrd⟩
  have HM := Aside0.mk hm
  have H1 := Aside0.mk h1
  have HL : Aside0 (∀ w', MapAt w' gm M → (Instr.lookup 75 (.map (some gm)) (.string n) true).run Try.prog w' = .ok (.tuple #[.agg #[.string p, .slice A m c], .bool (fnd L n).isSome]) w') := ⟨fun w' hw' => by rw [look2 hw', r1, e1, r3]⟩
  clear h1 hm hrd r1 r3 e1 e2 e3 hp hm0
  obtain ⟨A0, c0, rfl, q2, q3⟩ := id hv
  clear q2 q3
  have HOwn := Aside0.mk hv
  clear hv
  rw [hf] at HL
  simp only [Option.isSome_none] at HL
  have c1 := list_ne hn
  clear hf
  show Calls Try.prog 24 _ w fun e w' => e = .returned (.tuple #[.agg #[.int .i64 0, .int .i64 0, .int .i64 0, .int .i64 0, .int .i64 0, .int .i64 0, .int .i64 0, .int .i64 0, .int .i64 0, .int .i64 0, .int .i64 0, .int .i64 0, .int .i64 0, .int .i64 0, .int .i64 0, .int .i64 0, .int .i64 0], .int .i64 6]) ∧ Below w.heap.size w w'
  go_enter Try.func24, Try.ntmps24
  go_upto_region 4 with (first | ((with_reducible refine gate_dst (N := 6) rfl ?_); refine box_event ?hg (N := 6) ?hd (cs := #[.int .i64 0, .int .i64 0, .int .i64 0, .int .i64 0, .int .i64 0, .int .i64 0, .int .i64 0, .int .i64 0, .int .i64 0, .int .i64 0, .int .i64 0, .int .i64 0, .int .i64 0, .int .i64 0, .int .i64 0, .int .i64 0, .int .i64 0]) (t := 23) ?hr ?_; (case hd => rfl); (case hg => rfl); (case hr => first | (go_simp; done) | (go_simp; rfl)); intro g6 hg w6 hbox hb; have HB6 := Aside0.mk hb; have BK6 := Aside0.mk hbox; have GE6 : Aside0 (w.heap.size ≤ g6) := ⟨by rw [hg]; exact Nat.le_refl _⟩; have hlk := HL.out w6 (HM.out.below hb); have e0 := (blk_cell (blk_below H1.out hb) 0).trans rfl; clear hb hbox hg) | (go_at_call 40; refine (none_calls gs gm _ (blk_below H1.out HB6.out)).mono ?_; rintro e w7 ⟨rfl, rfl⟩))
  have BK6b : Aside0 ((w7.alloc (.cells #[.string p, .slice A m c] 85)).heap[g6]? = some (.cells #[.int .i64 0, .int .i64 0, .int .i64 0, .int .i64 0, .int .i64 0, .int .i64 0, .int .i64 0, .int .i64 0, .int .i64 0, .int .i64 0, .int .i64 0, .int .i64 0, .int .i64 0, .int .i64 0, .int .i64 0, .int .i64 0, .int .i64 0] 23 (0, 0))) := ⟨blk_below BK6.out (below_alloc (Below.refl _ _) _)⟩
  have HB : Aside0 (Below w.heap.size w (w7.alloc (.cells #[.string p, .slice A m c] 85))) := ⟨below_alloc HB6.out _⟩
  have B8 : Aside0 ((w7.alloc (.cells #[.string p, .slice A m c] 85)).heap[w7.heap.size]? = some (.cells #[.string p, .slice A m c] 85 (0, 0))) := ⟨blk_new _ _⟩
  clear BK6 HB6 e0 hlk
  have BK6 := BK6b
  clear BK6b
  generalize w7.alloc (.cells #[.string p, .slice A m c] 85) = w3 at BK6 HB B8 ⊢
  generalize w7.heap.size = g8 at B8 ⊢
  go_wp2_with (first | ((with_reducible refine gate_store (t := 23) (p := 6) rfl ?_); refine wpList_store_row rfl 23 (.tmp 6) (.tmp 29) rfl g6 #[.int .i64 0, .int .i64 0, .int .i64 0, .int .i64 0, .int .i64 0, .int .i64 0, .int .i64 0, .int .i64 0, .int .i64 0, .int .i64 0, .int .i64 0, .int .i64 0, .int .i64 0, .int .i64 0, .int .i64 0, .int .i64 0, .int .i64 0] rfl rfl 23 #[.int .i64 0, .int .i64 0, .int .i64 0, .int .i64 0, .int .i64 0, .int .i64 0, .int .i64 0, .int .i64 0, .int .i64 0, .int .i64 0, .int .i64 0, .int .i64 0, .int .i64 0, .int .i64 0, .int .i64 0, .int .i64 0, .int .i64 0] BK6.out (by kernel_rfl) rfl (by kernel_rfl) ?_; have HB9 := Aside0.mk (below_setRow HB.out GE6.out #[.int .i64 0, .int .i64 0, .int .i64 0, .int .i64 0, .int .i64 0, .int .i64 0, .int .i64 0, .int .i64 0, .int .i64 0, .int .i64 0, .int .i64 0, .int .i64 0, .int .i64 0, .int .i64 0, .int .i64 0, .int .i64 0, .int .i64 0]); have BK9 := Aside0.mk (setRow_heap _ g6 _ #[.int .i64 0, .int .i64 0, .int .i64 0, .int .i64 0, .int .i64 0, .int .i64 0, .int .i64 0, .int .i64 0, .int .i64 0, .int .i64 0, .int .i64 0, .int .i64 0, .int .i64 0, .int .i64 0, .int .i64 0, .int .i64 0, .int .i64 0] 23 (0, 0) BK6.out); clear HB BK6; generalize World.setRow _ g6 #[.int .i64 0, .int .i64 0, .int .i64 0, .int .i64 0, .int .i64 0, .int .i64 0, .int .i64 0, .int .i64 0, .int .i64 0, .int .i64 0, .int .i64 0, .int .i64 0, .int .i64 0, .int .i64 0, .int .i64 0, .int .i64 0, .int .i64 0] = w9 at HB9 BK9 ⊢))
  refine bodyPost_ret (results_ct rfl _ _ g6 23 #[.int .i64 0, .int .i64 0, .int .i64 0, .int .i64 0, .int .i64 0, .int .i64 0, .int .i64 0, .int .i64 0, .int .i64 0, .int .i64 0, .int .i64 0, .int .i64 0, .int .i64 0, .int .i64 0, .int .i64 0, .int .i64 0, .int .i64 0] (0, 0) _ rfl BK9.out Try.underlying23 rfl (by kernel_rfl)) rfl ?_
  exact ⟨rfl, HB9.out⟩
set_option maxHeartbeats 4000000 in
set_option maxRecDepth 100000 in
theorem resolve_wrong0 (gs gm : Nat) (L : List Sty) (n : ByteArray) (v : Value) (own : List S37) (w : World) (hs : Sheet w gs gm L) (hv : Sl w v own) (ks : Nat) (e : Int) (he : PStyleNearest.style_settings.f ks own = some e) (he0 : e ≠ 0) (hn : n = ⟨#[]⟩) :
    Calls Try.prog 24 #[.pointer (some ⟨gs, 0, none⟩), .string n, v] w fun x w' => x = .returned (.tuple #[.agg (row zero), .int .i64 e]) ∧ Below w.heap.size w w' := by
  have hu := Try.underlying77
  have hu5 := Try.underlying75
  have hu8 := Try.underlying85
  have hu23 := Try.underlying23
  obtain ⟨h1, M, hm, hrd⟩ := hs
  obtain ⟨r1, r2, r3, _⟩ := reads_all n hrd
  obtain ⟨p, hp⟩ : ∃ p, p = upL L n := ⟨_, rfl⟩
  rw [← hp] at r1
  obtain ⟨A, c, e1, e2, e3⟩ := r2
  generalize hm0 : (setsL L n).length = m at e1 e2 e3
  have HS : Aside0 (Sheet w gs gm L) := ⟨h1, M, hm, hrd⟩
  have HM := Aside0.mk hm
  have H1 := Aside0.mk h1
  have HL : Aside0 (∀ w', MapAt w' gm M → (Instr.lookup 75 (.map (some gm)) (.string n) true).run Try.prog w' = .ok (.tuple #[.agg #[.string p, .slice A m c], .bool (fnd L n).isSome]) w') := ⟨fun w' hw' => by rw [look2 hw', r1, e1, r3]⟩
  clear h1 hm hrd r1 r3 e1 e2 e3 hp hm0
  obtain ⟨A0, c0, rfl, q2, q3⟩ := id hv
  clear q2 q3
  have HOwn := Aside0.mk hv
  clear hv
  have HSet : Aside0 (∀ w', Sl w' (.slice A0 own.length c0) own → Calls Try.prog 42 #[.slice A0 own.length c0] w' fun x w'' => x = .returned (.int .i64 e) ∧ Below w'.heap.size w' w'') := ⟨fun w' h => settings_calls ks _ own e w' h he⟩
  have ce0 : (e == 0) = false := beq_eq_false_iff_ne.mpr he0
  have ce1 : (e != 0) = true := bne_iff_ne.mpr he0
  clear he he0
  obtain ⟨b, hb⟩ : ∃ b, b = (fnd L n).isSome := ⟨_, rfl⟩
  rw [← hb] at HL
  clear hb
  subst hn
  go_enter Try.func24, Try.ntmps24
  go_upto_region 4 with (first | ((with_reducible refine gate_dst (N := 6) rfl ?_); refine box_event ?hg (N := 6) ?hd (cs := #[.int .i64 0, .int .i64 0, .int .i64 0, .int .i64 0, .int .i64 0, .int .i64 0, .int .i64 0, .int .i64 0, .int .i64 0, .int .i64 0, .int .i64 0, .int .i64 0, .int .i64 0, .int .i64 0, .int .i64 0, .int .i64 0, .int .i64 0]) (t := 23) ?hr ?_; (case hd => rfl); (case hg => rfl); (case hr => first | (go_simp; done) | (go_simp; rfl)); intro g6 hg w6 hbox hb; have HB6 := Aside0.mk hb; have BK6 := Aside0.mk hbox; have GE6 : Aside0 (w.heap.size ≤ g6) := ⟨by rw [hg]; exact Nat.le_refl _⟩; have hlk := HL.out w6 (HM.out.below hb); have e0 := (blk_cell (blk_below H1.out hb) 0).trans rfl; clear hb hbox hg) | (go_at_call 40; refine (none_calls gs gm _ (blk_below H1.out HB6.out)).mono ?_; rintro e w7 ⟨rfl, rfl⟩))
  have BK6b : Aside0 ((w7.alloc (.cells #[.string p, .slice A m c] 85)).heap[g6]? = some (.cells #[.int .i64 0, .int .i64 0, .int .i64 0, .int .i64 0, .int .i64 0, .int .i64 0, .int .i64 0, .int .i64 0, .int .i64 0, .int .i64 0, .int .i64 0, .int .i64 0, .int .i64 0, .int .i64 0, .int .i64 0, .int .i64 0, .int .i64 0] 23 (0, 0))) := ⟨blk_below BK6.out (below_alloc (Below.refl _ _) _)⟩
  have HB : Aside0 (Below w.heap.size w (w7.alloc (.cells #[.string p, .slice A m c] 85))) := ⟨below_alloc HB6.out _⟩
  have B8 : Aside0 ((w7.alloc (.cells #[.string p, .slice A m c] 85)).heap[w7.heap.size]? = some (.cells #[.string p, .slice A m c] 85 (0, 0))) := ⟨blk_new _ _⟩
  clear BK6 HB6 e0 hlk
  have BK6 := BK6b
  clear BK6b
  generalize w7.alloc (.cells #[.string p, .slice A m c] 85) = w3 at BK6 HB B8 ⊢
  generalize w7.heap.size = g8 at B8 ⊢
  go_wp2_with (first | (go_at_call 42; refine (HSet.out _ (HOwn.out.below HB.out)).mono ?_; rintro x w8 ⟨rfl, hb⟩; have HBn := Aside0.mk (below_step HB.out hb); have BKn := Aside0.mk (blk_below BK6.out hb); clear HB BK6 hb; have HB := HBn; have BK6 := BKn; clear HBn BKn) | ((with_reducible refine gate_store (t := 23) (p := 6) rfl ?_); refine wpList_store_row rfl 23 (.tmp 6) (.tmp 34) rfl g6 #[.int .i64 0, .int .i64 0, .int .i64 0, .int .i64 0, .int .i64 0, .int .i64 0, .int .i64 0, .int .i64 0, .int .i64 0, .int .i64 0, .int .i64 0, .int .i64 0, .int .i64 0, .int .i64 0, .int .i64 0, .int .i64 0, .int .i64 0] rfl rfl 23 #[.int .i64 0, .int .i64 0, .int .i64 0, .int .i64 0, .int .i64 0, .int .i64 0, .int .i64 0, .int .i64 0, .int .i64 0, .int .i64 0, .int .i64 0, .int .i64 0, .int .i64 0, .int .i64 0, .int .i64 0, .int .i64 0, .int .i64 0] BK6.out (by kernel_rfl) rfl (by kernel_rfl) ?_; have HB9 := Aside0.mk (below_setRow HB.out GE6.out #[.int .i64 0, .int .i64 0, .int .i64 0, .int .i64 0, .int .i64 0, .int .i64 0, .int .i64 0, .int .i64 0, .int .i64 0, .int .i64 0, .int .i64 0, .int .i64 0, .int .i64 0, .int .i64 0, .int .i64 0, .int .i64 0, .int .i64 0]); have BK9 := Aside0.mk (setRow_heap _ g6 _ #[.int .i64 0, .int .i64 0, .int .i64 0, .int .i64 0, .int .i64 0, .int .i64 0, .int .i64 0, .int .i64 0, .int .i64 0, .int .i64 0, .int .i64 0, .int .i64 0, .int .i64 0, .int .i64 0, .int .i64 0, .int .i64 0, .int .i64 0] 23 (0, 0) BK6.out); clear HB BK6; generalize World.setRow _ g6 #[.int .i64 0, .int .i64 0, .int .i64 0, .int .i64 0, .int .i64 0, .int .i64 0, .int .i64 0, .int .i64 0, .int .i64 0, .int .i64 0, .int .i64 0, .int .i64 0, .int .i64 0, .int .i64 0, .int .i64 0, .int .i64 0, .int .i64 0] = w9 at HB9 BK9 ⊢))
  refine bodyPost_ret (results_ct rfl _ _ g6 23 #[.int .i64 0, .int .i64 0, .int .i64 0, .int .i64 0, .int .i64 0, .int .i64 0, .int .i64 0, .int .i64 0, .int .i64 0, .int .i64 0, .int .i64 0, .int .i64 0, .int .i64 0, .int .i64 0, .int .i64 0, .int .i64 0, .int .i64 0] (0, 0) _ rfl BK9.out Try.underlying23 rfl (by kernel_rfl)) rfl ?_
  exact ⟨rfl, HB9.out⟩
set_option maxHeartbeats 4000000 in
set_option maxRecDepth 100000 in
theorem resolve_wrong1 (gs gm : Nat) (L : List Sty) (n : ByteArray) (v : Value) (own : List S37) (w : World) (hs : Sheet w gs gm L) (hv : Sl w v own) (ks : Nat) (e : Int) (he : PStyleNearest.style_settings.f ks own = some e) (he0 : e ≠ 0) (hn : n ≠ ⟨#[]⟩) (hf : (fnd L n).isSome = true) :
    Calls Try.prog 24 #[.pointer (some ⟨gs, 0, none⟩), .string n, v] w fun x w' => x = .returned (.tuple #[.agg (row zero), .int .i64 e]) ∧ Below w.heap.size w w' := by
  have hu := Try.underlying77
  have hu5 := Try.underlying75
  have hu8 := Try.underlying85
  have hu23 := Try.underlying23
  obtain ⟨h1, M, hm, hrd⟩ := hs
  obtain ⟨r1, r2, r3, _⟩ := reads_all n hrd
  obtain ⟨p, hp⟩ : ∃ p, p = upL L n := ⟨_, rfl⟩
  rw [← hp] at r1
  obtain ⟨A, c, e1, e2, e3⟩ := r2
  generalize hm0 : (setsL L n).length = m at e1 e2 e3
  have HS : Aside0 (Sheet w gs gm L) := ⟨h1, M, hm, hrd⟩
  have HM := Aside0.mk hm
  have H1 := Aside0.mk h1
  have HL : Aside0 (∀ w', MapAt w' gm M → (Instr.lookup 75 (.map (some gm)) (.string n) true).run Try.prog w' = .ok (.tuple #[.agg #[.string p, .slice A m c], .bool (fnd L n).isSome]) w') := ⟨fun w' hw' => by rw [look2 hw', r1, e1, r3]⟩
  clear h1 hm hrd r1 r3 e1 e2 e3 hp hm0
  obtain ⟨A0, c0, rfl, q2, q3⟩ := id hv
  clear q2 q3
  have HOwn := Aside0.mk hv
  clear hv
  rw [hf] at HL
  clear hf
  have HSet : Aside0 (∀ w', Sl w' (.slice A0 own.length c0) own → Calls Try.prog 42 #[.slice A0 own.length c0] w' fun x w'' => x = .returned (.int .i64 e) ∧ Below w'.heap.size w' w'') := ⟨fun w' h => settings_calls ks _ own e w' h he⟩
  have ce0 : (e == 0) = false := beq_eq_false_iff_ne.mpr he0
  have ce1 : (e != 0) = true := bne_iff_ne.mpr he0
  clear he he0
  have c1 := list_ne hn
  go_enter Try.func24, Try.ntmps24
  go_upto_region 4 with (first | ((with_reducible refine gate_dst (N := 6) rfl ?_); refine box_event ?hg (N := 6) ?hd (cs := #[.int .i64 0, .int .i64 0, .int .i64 0, .int .i64 0, .int .i64 0, .int .i64 0, .int .i64 0, .int .i64 0, .int .i64 0, .int .i64 0, .int .i64 0, .int .i64 0, .int .i64 0, .int .i64 0, .int .i64 0, .int .i64 0, .int .i64 0]) (t := 23) ?hr ?_; (case hd => rfl); (case hg => rfl); (case hr => first | (go_simp; done) | (go_simp; rfl)); intro g6 hg w6 hbox hb; have HB6 := Aside0.mk hb; have BK6 := Aside0.mk hbox; have GE6 : Aside0 (w.heap.size ≤ g6) := ⟨by rw [hg]; exact Nat.le_refl _⟩; have hlk := HL.out w6 (HM.out.below hb); have e0 := (blk_cell (blk_below H1.out hb) 0).trans rfl; clear hb hbox hg) | (go_at_call 40; refine (none_calls gs gm _ (blk_below H1.out HB6.out)).mono ?_; rintro e w7 ⟨rfl, rfl⟩))
  have BK6b : Aside0 ((w7.alloc (.cells #[.string p, .slice A m c] 85)).heap[g6]? = some (.cells #[.int .i64 0, .int .i64 0, .int .i64 0, .int .i64 0, .int .i64 0, .int .i64 0, .int .i64 0, .int .i64 0, .int .i64 0, .int .i64 0, .int .i64 0, .int .i64 0, .int .i64 0, .int .i64 0, .int .i64 0, .int .i64 0, .int .i64 0] 23 (0, 0))) := ⟨blk_below BK6.out (below_alloc (Below.refl _ _) _)⟩
  have HB : Aside0 (Below w.heap.size w (w7.alloc (.cells #[.string p, .slice A m c] 85))) := ⟨below_alloc HB6.out _⟩
  have B8 : Aside0 ((w7.alloc (.cells #[.string p, .slice A m c] 85)).heap[w7.heap.size]? = some (.cells #[.string p, .slice A m c] 85 (0, 0))) := ⟨blk_new _ _⟩
  clear BK6 HB6 e0 hlk
  have BK6 := BK6b
  clear BK6b
  generalize w7.alloc (.cells #[.string p, .slice A m c] 85) = w3 at BK6 HB B8 ⊢
  generalize w7.heap.size = g8 at B8 ⊢
  go_wp2_with (first | (go_at_call 42; refine (HSet.out _ (HOwn.out.below HB.out)).mono ?_; rintro x w8 ⟨rfl, hb⟩; have HBn := Aside0.mk (below_step HB.out hb); have BKn := Aside0.mk (blk_below BK6.out hb); clear HB BK6 hb; have HB := HBn; have BK6 := BKn; clear HBn BKn) | ((with_reducible refine gate_store (t := 23) (p := 6) rfl ?_); refine wpList_store_row rfl 23 (.tmp 6) (.tmp 34) rfl g6 #[.int .i64 0, .int .i64 0, .int .i64 0, .int .i64 0, .int .i64 0, .int .i64 0, .int .i64 0, .int .i64 0, .int .i64 0, .int .i64 0, .int .i64 0, .int .i64 0, .int .i64 0, .int .i64 0, .int .i64 0, .int .i64 0, .int .i64 0] rfl rfl 23 #[.int .i64 0, .int .i64 0, .int .i64 0, .int .i64 0, .int .i64 0, .int .i64 0, .int .i64 0, .int .i64 0, .int .i64 0, .int .i64 0, .int .i64 0, .int .i64 0, .int .i64 0, .int .i64 0, .int .i64 0, .int .i64 0, .int .i64 0] BK6.out (by kernel_rfl) rfl (by kernel_rfl) ?_; have HB9 := Aside0.mk (below_setRow HB.out GE6.out #[.int .i64 0, .int .i64 0, .int .i64 0, .int .i64 0, .int .i64 0, .int .i64 0, .int .i64 0, .int .i64 0, .int .i64 0, .int .i64 0, .int .i64 0, .int .i64 0, .int .i64 0, .int .i64 0, .int .i64 0, .int .i64 0, .int .i64 0]); have BK9 := Aside0.mk (setRow_heap _ g6 _ #[.int .i64 0, .int .i64 0, .int .i64 0, .int .i64 0, .int .i64 0, .int .i64 0, .int .i64 0, .int .i64 0, .int .i64 0, .int .i64 0, .int .i64 0, .int .i64 0, .int .i64 0, .int .i64 0, .int .i64 0, .int .i64 0, .int .i64 0] 23 (0, 0) BK6.out); clear HB BK6; generalize World.setRow _ g6 #[.int .i64 0, .int .i64 0, .int .i64 0, .int .i64 0, .int .i64 0, .int .i64 0, .int .i64 0, .int .i64 0, .int .i64 0, .int .i64 0, .int .i64 0, .int .i64 0, .int .i64 0, .int .i64 0, .int .i64 0, .int .i64 0, .int .i64 0] = w9 at HB9 BK9 ⊢))
  refine bodyPost_ret (results_ct rfl _ _ g6 23 #[.int .i64 0, .int .i64 0, .int .i64 0, .int .i64 0, .int .i64 0, .int .i64 0, .int .i64 0, .int .i64 0, .int .i64 0, .int .i64 0, .int .i64 0, .int .i64 0, .int .i64 0, .int .i64 0, .int .i64 0, .int .i64 0, .int .i64 0] (0, 0) _ rfl BK9.out Try.underlying23 rfl (by kernel_rfl)) rfl ?_
  exact ⟨rfl, HB9.out⟩
set_option maxHeartbeats 4000000 in
set_option maxRecDepth 100000 in
theorem resolve_fine0 (gs gm : Nat) (L : List Sty) (n : ByteArray) (v : Value) (own : List S37) (w : World) (hs : Sheet w gs gm L) (hv : Sl w v own) (ks k : Nat) (f : Int → Int) (hfit : Fits L) (he : PStyleNearest.style_settings.f ks own = some 0) (hown : fitsAll own) (hmk : makesF L k n = some f) (hn : n = ⟨#[]⟩) :
    Calls Try.prog 24 #[.pointer (some ⟨gs, 0, none⟩), .string n, v] w fun e w' => e = .returned (.tuple #[.agg (row (withF f own)), .int .i64 0]) ∧ Below w.heap.size w w' := by
  have hu := Try.underlying77
  have hu5 := Try.underlying75
  have hu8 := Try.underlying85
  have hu23 := Try.underlying23
  obtain ⟨h1, M, hm, hrd⟩ := hs
  obtain ⟨r1, r2, r3, _⟩ := reads_all n hrd
  obtain ⟨p, hp⟩ : ∃ p, p = upL L n := ⟨_, rfl⟩
  rw [← hp] at r1
  obtain ⟨A, c, e1, e2, e3⟩ := r2
  generalize hm0 : (setsL L n).length = m at e1 e2 e3
  have HS : Aside0 (Sheet w gs gm L) := ⟨h1, M, hm, hrd⟩
  have HM := Aside0.mk hm
  have H1 := Aside0.mk h1
  have HL : Aside0 (∀ w', MapAt w' gm M → (Instr.lookup 75 (.map (some gm)) (.string n) true).run Try.prog w' = .ok (.tuple #[.agg #[.string p, .slice A m c], .bool (fnd L n).isSome]) w') := ⟨fun w' hw' => by rw [look2 hw', r1, e1, r3]⟩
  clear h1 hm hrd r1 r3 e1 e2 e3 hp hm0
  obtain ⟨A0, c0, rfl, q2, q3⟩ := id hv
  clear q2 q3
  have HOwn := Aside0.mk hv
  clear hv
  have HSet : Aside0 (∀ w', Sl w' (.slice A0 own.length c0) own → Calls Try.prog 42 #[.slice A0 own.length c0] w' fun x w'' => x = .returned (.int .i64 0) ∧ Below w'.heap.size w' w'') := ⟨fun w' h => settings_calls ks _ own 0 w' h he⟩
  have HMk : Aside0 (∀ w', Sheet w' gs gm L → Calls Try.prog 46 #[.pointer (some ⟨gs, 0, none⟩), .string n] w' fun e w'' => e = .returned (.agg (row f)) ∧ Below w'.heap.size w' w'') := ⟨fun w' h => makes_calls gs gm L hfit k _ f w' h hmk⟩
  have HWi : Aside0 (∀ w', Sl w' (.slice A0 own.length c0) own → Calls Try.prog 45 #[.agg (row f), .slice A0 own.length c0] w' fun e w'' => e = .returned (.agg (row (withF f own))) ∧ Below w'.heap.size w' w'') := ⟨fun w' h => with_calls f _ own w' h hown⟩
  have HS2 : Aside0 ((row (withF f own)).size = 17) := ⟨rfl⟩
  have HO2 : Aside0 ((row (withF f own)).all (·.oneCell') = true) := ⟨row_all _⟩
  clear he hmk hown hfit
  generalize row (withF f own) = Rr at HS2 HO2 HWi ⊢
  generalize row f = Rf at HMk HWi
  obtain ⟨b, hb⟩ : ∃ b, b = (fnd L n).isSome := ⟨_, rfl⟩
  rw [← hb] at HL
  clear hb
  subst hn
  go_enter Try.func24, Try.ntmps24
  go_upto_region 4 with (first | ((with_reducible refine gate_dst (N := 6) rfl ?_); refine box_event ?hg (N := 6) ?hd (cs := #[.int .i64 0, .int .i64 0, .int .i64 0, .int .i64 0, .int .i64 0, .int .i64 0, .int .i64 0, .int .i64 0, .int .i64 0, .int .i64 0, .int .i64 0, .int .i64 0, .int .i64 0, .int .i64 0, .int .i64 0, .int .i64 0, .int .i64 0]) (t := 23) ?hr ?_; (case hd => rfl); (case hg => rfl); (case hr => first | (go_simp; done) | (go_simp; rfl)); intro g6 hg w6 hbox hb; have HB6 := Aside0.mk hb; have BK6 := Aside0.mk hbox; have GE6 : Aside0 (w.heap.size ≤ g6) := ⟨by rw [hg]; exact Nat.le_refl _⟩; have hlk := HL.out w6 (HM.out.below hb); have e0 := (blk_cell (blk_below H1.out hb) 0).trans rfl; clear hb hbox hg) | (go_at_call 40; refine (none_calls gs gm _ (blk_below H1.out HB6.out)).mono ?_; rintro e w7 ⟨rfl, rfl⟩))
  have BK6b : Aside0 ((w7.alloc (.cells #[.string p, .slice A m c] 85)).heap[g6]? = some (.cells #[.int .i64 0, .int .i64 0, .int .i64 0, .int .i64 0, .int .i64 0, .int .i64 0, .int .i64 0, .int .i64 0, .int .i64 0, .int .i64 0, .int .i64 0, .int .i64 0, .int .i64 0, .int .i64 0, .int .i64 0, .int .i64 0, .int .i64 0] 23 (0, 0))) := ⟨blk_below BK6.out (below_alloc (Below.refl _ _) _)⟩
  have HB : Aside0 (Below w.heap.size w (w7.alloc (.cells #[.string p, .slice A m c] 85))) := ⟨below_alloc HB6.out _⟩
  have B8 : Aside0 ((w7.alloc (.cells #[.string p, .slice A m c] 85)).heap[w7.heap.size]? = some (.cells #[.string p, .slice A m c] 85 (0, 0))) := ⟨blk_new _ _⟩
  clear BK6 HB6 e0 hlk
  have BK6 := BK6b
  clear BK6b
  generalize w7.alloc (.cells #[.string p, .slice A m c] 85) = w3 at BK6 HB B8 ⊢
  generalize w7.heap.size = g8 at B8 ⊢
  go_wp2_with (first | (go_at_call 42; refine (HSet.out _ (HOwn.out.below HB.out)).mono ?_; rintro e w8 ⟨rfl, hb⟩; have HBn := Aside0.mk (below_step HB.out hb); have BKn := Aside0.mk (blk_below BK6.out hb); clear HB BK6 hb; have HB := HBn; have BK6 := BKn; clear HBn BKn) | (go_at_call 46; refine (HMk.out _ (HS.out.below HB.out)).mono ?_; rintro e w10 ⟨rfl, hb⟩; have HBn := Aside0.mk (below_step HB.out hb); have BKn := Aside0.mk (blk_below BK6.out hb); clear HB BK6 hb; have HB := HBn; have BK6 := BKn; clear HBn BKn) | (go_at_call 45; refine (HWi.out _ (HOwn.out.below HB.out)).mono ?_; rintro e w11 ⟨rfl, hb⟩; have HBn := Aside0.mk (below_step HB.out hb); have BKn := Aside0.mk (blk_below BK6.out hb); clear HB BK6 hb; have HB := HBn; have BK6 := BKn; clear HBn BKn) | ((with_reducible refine gate_store (t := 23) (p := 6) rfl ?_); refine wpList_store_row rfl 23 (.tmp 6) (.tmp 40) rfl g6 Rr rfl rfl 23 #[.int .i64 0, .int .i64 0, .int .i64 0, .int .i64 0, .int .i64 0, .int .i64 0, .int .i64 0, .int .i64 0, .int .i64 0, .int .i64 0, .int .i64 0, .int .i64 0, .int .i64 0, .int .i64 0, .int .i64 0, .int .i64 0, .int .i64 0] BK6.out (by rw [HS2.out]; exact info23) (by rw [HS2.out]; rfl) HO2.out ?_; have HB9 := Aside0.mk (below_setRow HB.out GE6.out Rr); have BK9 := Aside0.mk (setRow_heap _ g6 _ Rr 23 (0, 0) BK6.out); clear HB BK6; generalize World.setRow _ g6 Rr = w9 at HB9 BK9 ⊢))
  refine bodyPost_ret (results_ct rfl _ _ g6 23 Rr (0, 0) _ rfl BK9.out Try.underlying23 rfl (by rw [HS2.out]; exact info23)) rfl ?_
  exact ⟨rfl, HB9.out⟩
set_option maxHeartbeats 4000000 in
set_option maxRecDepth 100000 in
theorem resolve_fine1 (gs gm : Nat) (L : List Sty) (n : ByteArray) (v : Value) (own : List S37) (w : World) (hs : Sheet w gs gm L) (hv : Sl w v own) (ks k : Nat) (f : Int → Int) (hfit : Fits L) (he : PStyleNearest.style_settings.f ks own = some 0) (hown : fitsAll own) (hmk : makesF L k n = some f) (hn : n ≠ ⟨#[]⟩) (hf : (fnd L n).isSome = true) :
    Calls Try.prog 24 #[.pointer (some ⟨gs, 0, none⟩), .string n, v] w fun e w' => e = .returned (.tuple #[.agg (row (withF f own)), .int .i64 0]) ∧ Below w.heap.size w w' := by
  have hu := Try.underlying77
  have hu5 := Try.underlying75
  have hu8 := Try.underlying85
  have hu23 := Try.underlying23
  obtain ⟨h1, M, hm, hrd⟩ := hs
  obtain ⟨r1, r2, r3, _⟩ := reads_all n hrd
  obtain ⟨p, hp⟩ : ∃ p, p = upL L n := ⟨_, rfl⟩
  rw [← hp] at r1
  obtain ⟨A, c, e1, e2, e3⟩ := r2
  generalize hm0 : (setsL L n).length = m at e1 e2 e3
  have HS : Aside0 (Sheet w gs gm L) := ⟨h1, M, hm, hrd⟩
  have HM := Aside0.mk hm
  have H1 := Aside0.mk h1
  have HL : Aside0 (∀ w', MapAt w' gm M → (Instr.lookup 75 (.map (some gm)) (.string n) true).run Try.prog w' = .ok (.tuple #[.agg #[.string p, .slice A m c], .bool (fnd L n).isSome]) w') := ⟨fun w' hw' => by rw [look2 hw', r1, e1, r3]⟩
  clear h1 hm hrd r1 r3 e1 e2 e3 hp hm0
  obtain ⟨A0, c0, rfl, q2, q3⟩ := id hv
  clear q2 q3
  have HOwn := Aside0.mk hv
  clear hv
  rw [hf] at HL
  clear hf
  have HSet : Aside0 (∀ w', Sl w' (.slice A0 own.length c0) own → Calls Try.prog 42 #[.slice A0 own.length c0] w' fun x w'' => x = .returned (.int .i64 0) ∧ Below w'.heap.size w' w'') := ⟨fun w' h => settings_calls ks _ own 0 w' h he⟩
  have HMk : Aside0 (∀ w', Sheet w' gs gm L → Calls Try.prog 46 #[.pointer (some ⟨gs, 0, none⟩), .string n] w' fun e w'' => e = .returned (.agg (row f)) ∧ Below w'.heap.size w' w'') := ⟨fun w' h => makes_calls gs gm L hfit k _ f w' h hmk⟩
  have HWi : Aside0 (∀ w', Sl w' (.slice A0 own.length c0) own → Calls Try.prog 45 #[.agg (row f), .slice A0 own.length c0] w' fun e w'' => e = .returned (.agg (row (withF f own))) ∧ Below w'.heap.size w' w'') := ⟨fun w' h => with_calls f _ own w' h hown⟩
  have HS2 : Aside0 ((row (withF f own)).size = 17) := ⟨rfl⟩
  have HO2 : Aside0 ((row (withF f own)).all (·.oneCell') = true) := ⟨row_all _⟩
  clear he hmk hown hfit
  generalize row (withF f own) = Rr at HS2 HO2 HWi ⊢
  generalize row f = Rf at HMk HWi
  have c1 := list_ne hn
  go_enter Try.func24, Try.ntmps24
  go_upto_region 4 with (first | ((with_reducible refine gate_dst (N := 6) rfl ?_); refine box_event ?hg (N := 6) ?hd (cs := #[.int .i64 0, .int .i64 0, .int .i64 0, .int .i64 0, .int .i64 0, .int .i64 0, .int .i64 0, .int .i64 0, .int .i64 0, .int .i64 0, .int .i64 0, .int .i64 0, .int .i64 0, .int .i64 0, .int .i64 0, .int .i64 0, .int .i64 0]) (t := 23) ?hr ?_; (case hd => rfl); (case hg => rfl); (case hr => first | (go_simp; done) | (go_simp; rfl)); intro g6 hg w6 hbox hb; have HB6 := Aside0.mk hb; have BK6 := Aside0.mk hbox; have GE6 : Aside0 (w.heap.size ≤ g6) := ⟨by rw [hg]; exact Nat.le_refl _⟩; have hlk := HL.out w6 (HM.out.below hb); have e0 := (blk_cell (blk_below H1.out hb) 0).trans rfl; clear hb hbox hg) | (go_at_call 40; refine (none_calls gs gm _ (blk_below H1.out HB6.out)).mono ?_; rintro e w7 ⟨rfl, rfl⟩))
  have BK6b : Aside0 ((w7.alloc (.cells #[.string p, .slice A m c] 85)).heap[g6]? = some (.cells #[.int .i64 0, .int .i64 0, .int .i64 0, .int .i64 0, .int .i64 0, .int .i64 0, .int .i64 0, .int .i64 0, .int .i64 0, .int .i64 0, .int .i64 0, .int .i64 0, .int .i64 0, .int .i64 0, .int .i64 0, .int .i64 0, .int .i64 0] 23 (0, 0))) := ⟨blk_below BK6.out (below_alloc (Below.refl _ _) _)⟩
  have HB : Aside0 (Below w.heap.size w (w7.alloc (.cells #[.string p, .slice A m c] 85))) := ⟨below_alloc HB6.out _⟩
  have B8 : Aside0 ((w7.alloc (.cells #[.string p, .slice A m c] 85)).heap[w7.heap.size]? = some (.cells #[.string p, .slice A m c] 85 (0, 0))) := ⟨blk_new _ _⟩
  clear BK6 HB6 e0 hlk
  have BK6 := BK6b
  clear BK6b
  generalize w7.alloc (.cells #[.string p, .slice A m c] 85) = w3 at BK6 HB B8 ⊢
  generalize w7.heap.size = g8 at B8 ⊢
  go_wp2_with (first | (go_at_call 42; refine (HSet.out _ (HOwn.out.below HB.out)).mono ?_; rintro e w8 ⟨rfl, hb⟩; have HBn := Aside0.mk (below_step HB.out hb); have BKn := Aside0.mk (blk_below BK6.out hb); clear HB BK6 hb; have HB := HBn; have BK6 := BKn; clear HBn BKn) | (go_at_call 46; refine (HMk.out _ (HS.out.below HB.out)).mono ?_; rintro e w10 ⟨rfl, hb⟩; have HBn := Aside0.mk (below_step HB.out hb); have BKn := Aside0.mk (blk_below BK6.out hb); clear HB BK6 hb; have HB := HBn; have BK6 := BKn; clear HBn BKn) | (go_at_call 45; refine (HWi.out _ (HOwn.out.below HB.out)).mono ?_; rintro e w11 ⟨rfl, hb⟩; have HBn := Aside0.mk (below_step HB.out hb); have BKn := Aside0.mk (blk_below BK6.out hb); clear HB BK6 hb; have HB := HBn; have BK6 := BKn; clear HBn BKn) | ((with_reducible refine gate_store (t := 23) (p := 6) rfl ?_); refine wpList_store_row rfl 23 (.tmp 6) (.tmp 40) rfl g6 Rr rfl rfl 23 #[.int .i64 0, .int .i64 0, .int .i64 0, .int .i64 0, .int .i64 0, .int .i64 0, .int .i64 0, .int .i64 0, .int .i64 0, .int .i64 0, .int .i64 0, .int .i64 0, .int .i64 0, .int .i64 0, .int .i64 0, .int .i64 0, .int .i64 0] BK6.out (by rw [HS2.out]; exact info23) (by rw [HS2.out]; rfl) HO2.out ?_; have HB9 := Aside0.mk (below_setRow HB.out GE6.out Rr); have BK9 := Aside0.mk (setRow_heap _ g6 _ Rr 23 (0, 0) BK6.out); clear HB BK6; generalize World.setRow _ g6 Rr = w9 at HB9 BK9 ⊢))
  refine bodyPost_ret (results_ct rfl _ _ g6 23 Rr (0, 0) _ rfl BK9.out Try.underlying23 rfl (by rw [HS2.out]; exact info23)) rfl ?_
  exact ⟨rfl, HB9.out⟩
end Go.Proofs.Ytpcpjlbfhbicaaa.Sh
