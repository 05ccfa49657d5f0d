/- Own walks for the law, joined from several texts: what the law reaches, and no more (joined by keeplive.py). -/
import Derived.Test.YtpcpjlbfhbicaaaS1
section
set_option linter.unusedVariables false
set_option linter.unusedSimpArgs false
namespace Go.Proofs.Ytpcpjlbfhbicaaa.Sh
open Go Go.RowKit Go.Proofs.YtpcpjlbfhbicaaaW.PrintWords Go.Proofs.YtpcpjlbfhbicaaaW.PrintLast Go.Proofs.YtpcpjlbfhbicaaaW.PrintMore Go.Proofs.Ytpcpjlbfhbicaaa.PStyleProps
open Go.Proofs.Ytpcpjlbfhbicaaa.PStyleNearest (S37 k37 z37 rd_T37 at_T37 k37_open k37_openM k37_mk k37_mkM info37)
def zero : Int → Int := fun _ => 0
theorem settings_calls (ks : Nat) (v : Value) (l : List S37) (e : Int) (w : World) (hv : Sl w v l) (h : PStyleNearest.style_settings.f ks l = some e) : Calls Try.prog 42 #[v] w fun x w' => x = .returned (.int .i64 e) ∧ Below w.heap.size w w' := by
  obtain ⟨A, c, rfl, hc, hr⟩ := hv
  exact PStyleNearest.style_settings.calls ks A c l e w hr hc h
set_option maxHeartbeats 4000000 in
set_option maxRecDepth 100000 in
theorem resolve_miss (gs gm : Nat) (L : List Sty) (n : ByteArray) (v : Value) (own : List S37) (w : World) (hs : Sheet w gs gm L) (hv : Sl w v own) (hn : n ≠ ⟨#[]⟩) (hf : fnd L n = none) :
    Calls Try.prog 24 #[.pointer (some ⟨gs, 0, none⟩), .string n, v] w fun e w' => e = .returned (.tuple #[.agg (row zero), .int .i64 6]) ∧ Below w.heap.size w w' := by
  have hu := Try.underlying77
  have hu5 := Try.underlying75
  have hu8 := Try.underlying85
  have hu23 := Try.underlying23
  obtain ⟨h1, M, hm, hrd⟩ := hs
  obtain ⟨r1, r2, r3, _⟩ := reads_all n hrd
  obtain ⟨p, hp⟩ : ∃ p, p = upL L n := ⟨_, rfl⟩
  rw [← hp] at r1
  obtain ⟨A, c, e1, e2, e3⟩ := r2
  generalize hm0 : (setsL L n).length = m at e1 e2 e3
  have HS : Aside0 (Sheet w gs gm L) := ⟨h1, M, hm, hrd⟩
  have HM := Aside0.mk hm
  have H1 := Aside0.mk h1
  have HL : Aside0 (∀ w', MapAt w' gm M → (Instr.lookup 75 (.map (some gm)) (.string n) true).run Try.prog w' = .ok (.tuple #[.agg #[.string p, .slice A m c], .bool (fnd L n).isSome]) w') := ⟨fun w' hw' => by rw [look2 hw', r1, e1, r3]⟩
  clear h1 hm hrd r1 r3 e1 e2 e3 hp hm0
  obtain ⟨A0, c0, rfl, q2, q3⟩ := id hv
  clear q2 q3
  have HOwn := Aside0.mk hv
  clear hv
  rw [hf] at HL
  simp only [Option.isSome_none] at HL
  have c1 := list_ne hn
  clear hf
  show Calls Try.prog 24 _ w fun e w' => e = .returned (.tuple #[.agg #[.int .i64 0, .int .i64 0, .int .i64 0, .int .i64 0, .int .i64 0, .int .i64 0, .int .i64 0, .int .i64 0, .int .i64 0, .int .i64 0, .int .i64 0, .int .i64 0, .int .i64 0, .int .i64 0, .int .i64 0, .int .i64 0, .int .i64 0], .int .i64 6]) ∧ Below w.heap.size w w'
  go_enter Try.func24, Try.ntmps24
  go_upto_region 4 with (first | ((with_reducible refine gate_dst (N := 6) rfl ?_); refine box_event ?hg (N := 6) ?hd (cs := #[.int .i64 0, .int .i64 0, .int .i64 0, .int .i64 0, .int .i64 0, .int .i64 0, .int .i64 0, .int .i64 0, .int .i64 0, .int .i64 0, .int .i64 0, .int .i64 0, .int .i64 0, .int .i64 0, .int .i64 0, .int .i64 0, .int .i64 0]) (t := 23) ?hr ?_; (case hd => rfl); (case hg => rfl); (case hr => first | (go_simp; done) | (go_simp; rfl)); intro g6 hg w6 hbox hb; have HB6 := Aside0.mk hb; have BK6 := Aside0.mk hbox; have GE6 : Aside0 (w.heap.size ≤ g6) := ⟨by rw [hg]; exact Nat.le_refl _⟩; have hlk := HL.out w6 (HM.out.below hb); have e0 := (blk_cell (blk_below H1.out hb) 0).trans rfl; clear hb hbox hg) | (go_at_call 40; refine (none_calls gs gm _ (blk_below H1.out HB6.out)).mono ?_; rintro e w7 ⟨rfl, rfl⟩))
  have BK6b : Aside0 ((w7.alloc (.cells #[.string p, .slice A m c] 85)).heap[g6]? = some (.cells #[.int .i64 0, .int .i64 0, .int .i64 0, .int .i64 0, .int .i64 0, .int .i64 0, .int .i64 0, .int .i64 0, .int .i64 0, .int .i64 0, .int .i64 0, .int .i64 0, .int .i64 0, .int .i64 0, .int .i64 0, .int .i64 0, .int .i64 0] 23 (0, 0))) := ⟨blk_below BK6.out (below_alloc (Below.refl _ _) _)⟩
  have HB : Aside0 (Below w.heap.size w (w7.alloc (.cells #[.string p, .slice A m c] 85))) := ⟨below_alloc HB6.out _⟩
  have B8 : Aside0 ((w7.alloc (.cells #[.string p, .slice A m c] 85)).heap[w7.heap.size]? = some (.cells #[.string p, .slice A m c] 85 (0, 0))) := ⟨blk_new _ _⟩
  clear BK6 HB6 e0 hlk
  have BK6 := BK6b
  clear BK6b
  generalize w7.alloc (.cells #[.string p, .slice A m c] 85) = w3 at BK6 HB B8 ⊢
  generalize w7.heap.size = g8 at B8 ⊢
  go_wp2_with (first | ((with_reducible refine gate_store (t := 23) (p := 6) rfl ?_); refine wpList_store_row rfl 23 (.tmp 6) (.tmp 29) rfl g6 #[.int .i64 0, .int .i64 0, .int .i64 0, .int .i64 0, .int .i64 0, .int .i64 0, .int .i64 0, .int .i64 0, .int .i64 0, .int .i64 0, .int .i64 0, .int .i64 0, .int .i64 0, .int .i64 0, .int .i64 0, .int .i64 0, .int .i64 0] rfl rfl 23 #[.int .i64 0, .int .i64 0, .int .i64 0, .int .i64 0, .int .i64 0, .int .i64 0, .int .i64 0, .int .i64 0, .int .i64 0, .int .i64 0, .int .i64 0, .int .i64 0, .int .i64 0, .int .i64 0, .int .i64 0, .int .i64 0, .int .i64 0] BK6.out (by kernel_rfl) rfl (by kernel_rfl) ?_; have HB9 := Aside0.mk (below_setRow HB.out GE6.out #[.int .i64 0, .int .i64 0, .int .i64 0, .int .i64 0, .int .i64 0, .int .i64 0, .int .i64 0, .int .i64 0, .int .i64 0, .int .i64 0, .int .i64 0, .int .i64 0, .int .i64 0, .int .i64 0, .int .i64 0, .int .i64 0, .int .i64 0]); have BK9 := Aside0.mk (setRow_heap _ g6 _ #[.int .i64 0, .int .i64 0, .int .i64 0, .int .i64 0, .int .i64 0, .int .i64 0, .int .i64 0, .int .i64 0, .int .i64 0, .int .i64 0, .int .i64 0, .int .i64 0, .int .i64 0, .int .i64 0, .int .i64 0, .int .i64 0, .int .i64 0] 23 (0, 0) BK6.out); clear HB BK6; generalize World.setRow _ g6 #[.int .i64 0, .int .i64 0, .int .i64 0, .int .i64 0, .int .i64 0, .int .i64 0, .int .i64 0, .int .i64 0, .int .i64 0, .int .i64 0, .int .i64 0, .int .i64 0, .int .i64 0, .int .i64 0, .int .i64 0, .int .i64 0, .int .i64 0] = w9 at HB9 BK9 ⊢))
  refine bodyPost_ret (results_ct rfl _ _ g6 23 #[.int .i64 0, .int .i64 0, .int .i64 0, .int .i64 0, .int .i64 0, .int .i64 0, .int .i64 0, .int .i64 0, .int .i64 0, .int .i64 0, .int .i64 0, .int .i64 0, .int .i64 0, .int .i64 0, .int .i64 0, .int .i64 0, .int .i64 0] (0, 0) _ rfl BK9.out Try.underlying23 rfl (by kernel_rfl)) rfl ?_
  exact ⟨rfl, HB9.out⟩
set_option maxHeartbeats 4000000 in
set_option maxRecDepth 100000 in
theorem resolve_wrong0 (gs gm : Nat) (L : List Sty) (n : ByteArray) (v : Value) (own : List S37) (w : World) (hs : Sheet w gs gm L) (hv : Sl w v own) (ks : Nat) (e : Int) (he : PStyleNearest.style_settings.f ks own = some e) (he0 : e ≠ 0) (hn : n = ⟨#[]⟩) :
    Calls Try.prog 24 #[.pointer (some ⟨gs, 0, none⟩), .string n, v] w fun x w' => x = .returned (.tuple #[.agg (row zero), .int .i64 e]) ∧ Below w.heap.size w w' := by
  have hu := Try.underlying77
  have hu5 := Try.underlying75
  have hu8 := Try.underlying85
  have hu23 := Try.underlying23
  obtain ⟨h1, M, hm, hrd⟩ := hs
  obtain ⟨r1, r2, r3, _⟩ := reads_all n hrd
  obtain ⟨p, hp⟩ : ∃ p, p = upL L n := ⟨_, rfl⟩
  rw [← hp] at r1
  obtain ⟨A, c, e1, e2, e3⟩ := r2
  generalize hm0 : (setsL L n).length = m at e1 e2 e3
  have HS : Aside0 (Sheet w gs gm L) := ⟨h1, M, hm, hrd⟩
  have HM := Aside0.mk hm
  have H1 := Aside0.mk h1
  have HL : Aside0 (∀ w', MapAt w' gm M → (Instr.lookup 75 (.map (some gm)) (.string n) true).run Try.prog w' = .ok (.tuple #[.agg #[.string p, .slice A m c], .bool (fnd L n).isSome]) w') := ⟨fun w' hw' => by rw [look2 hw', r1, e1, r3]⟩
  clear h1 hm hrd r1 r3 e1 e2 e3 hp hm0
  obtain ⟨A0, c0, rfl, q2, q3⟩ := id hv
  clear q2 q3
  have HOwn := Aside0.mk hv
  clear hv
  have HSet : Aside0 (∀ w', Sl w' (.slice A0 own.length c0) own → Calls Try.prog 42 #[.slice A0 own.length c0] w' fun x w'' => x = .returned (.int .i64 e) ∧ Below w'.heap.size w' w'') := ⟨fun w' h => settings_calls ks _ own e w' h he⟩
  have ce0 : (e == 0) = false := beq_eq_false_iff_ne.mpr he0
  have ce1 : (e != 0) = true := bne_iff_ne.mpr he0
  clear he he0
  obtain ⟨b, hb⟩ : ∃ b, b = (fnd L n).isSome := ⟨_, rfl⟩
  rw [← hb] at HL
  clear hb
  subst hn
  go_enter Try.func24, Try.ntmps24
  go_upto_region 4 with (first | ((with_reducible refine gate_dst (N := 6) rfl ?_); refine box_event ?hg (N := 6) ?hd (cs := #[.int .i64 0, .int .i64 0, .int .i64 0, .int .i64 0, .int .i64 0, .int .i64 0, .int .i64 0, .int .i64 0, .int .i64 0, .int .i64 0, .int .i64 0, .int .i64 0, .int .i64 0, .int .i64 0, .int .i64 0, .int .i64 0, .int .i64 0]) (t := 23) ?hr ?_; (case hd => rfl); (case hg => rfl); (case hr => first | (go_simp; done) | (go_simp; rfl)); intro g6 hg w6 hbox hb; have HB6 := Aside0.mk hb; have BK6 := Aside0.mk hbox; have GE6 : Aside0 (w.heap.size ≤ g6) := ⟨by rw [hg]; exact Nat.le_refl _⟩; have hlk := HL.out w6 (HM.out.below hb); have e0 := (blk_cell (blk_below H1.out hb) 0).trans rfl; clear hb hbox hg) | (go_at_call 40; refine (none_calls gs gm _ (blk_below H1.out HB6.out)).mono ?_; rintro e w7 ⟨rfl, rfl⟩))
  have BK6b : Aside0 ((w7.alloc (.cells #[.string p, .slice A m c] 85)).heap[g6]? = some (.cells #[.int .i64 0, .int .i64 0, .int .i64 0, .int .i64 0, .int .i64 0, .int .i64 0, .int .i64 0, .int .i64 0, .int .i64 0, .int .i64 0, .int .i64 0, .int .i64 0, .int .i64 0, .int .i64 0, .int .i64 0, .int .i64 0, .int .i64 0] 23 (0, 0))) := ⟨blk_below BK6.out (below_alloc (Below.refl _ _) _)⟩
  have HB : Aside0 (Below w.heap.size w (w7.alloc (.cells #[.string p, .slice A m c] 85))) := ⟨below_alloc HB6.out _⟩
  have B8 : Aside0 ((w7.alloc (.cells #[.string p, .slice A m c] 85)).heap[w7.heap.size]? = some (.cells #[.string p, .slice A m c] 85 (0, 0))) := ⟨blk_new _ _⟩
  clear BK6 HB6 e0 hlk
  have BK6 := BK6b
  clear BK6b
  generalize w7.alloc (.cells #[.string p, .slice A m c] 85) = w3 at BK6 HB B8 ⊢
  generalize w7.heap.size = g8 at B8 ⊢
  go_wp2_with (first | (go_at_call 42; refine (HSet.out _ (HOwn.out.below HB.out)).mono ?_; rintro x w8 ⟨rfl, hb⟩; have HBn := Aside0.mk (below_step HB.out hb); have BKn := Aside0.mk (blk_below BK6.out hb); clear HB BK6 hb; have HB := HBn; have BK6 := BKn; clear HBn BKn) | ((with_reducible refine gate_store (t := 23) (p := 6) rfl ?_); refine wpList_store_row rfl 23 (.tmp 6) (.tmp 34) rfl g6 #[.int .i64 0, .int .i64 0, .int .i64 0, .int .i64 0, .int .i64 0, .int .i64 0, .int .i64 0, .int .i64 0, .int .i64 0, .int .i64 0, .int .i64 0, .int .i64 0, .int .i64 0, .int .i64 0, .int .i64 0, .int .i64 0, .int .i64 0] rfl rfl 23 #[.int .i64 0, .int .i64 0, .int .i64 0, .int .i64 0, .int .i64 0, .int .i64 0, .int .i64 0, .int .i64 0, .int .i64 0, .int .i64 0, .int .i64 0, .int .i64 0, .int .i64 0, .int .i64 0, .int .i64 0, .int .i64 0, .int .i64 0] BK6.out (by kernel_rfl) rfl (by kernel_rfl) ?_; have HB9 := Aside0.mk (below_setRow HB.out GE6.out #[.int .i64 0, .int .i64 0, .int .i64 0, .int .i64 0, .int .i64 0, .int .i64 0, .int .i64 0, .int .i64 0, .int .i64 0, .int .i64 0, .int .i64 0, .int .i64 0, .int .i64 0, .int .i64 0, .int .i64 0, .int .i64 0, .int .i64 0]); have BK9 := Aside0.mk (setRow_heap _ g6 _ #[.int .i64 0, .int .i64 0, .int .i64 0, .int .i64 0, .int .i64 0, .int .i64 0, .int .i64 0, .int .i64 0, .int .i64 0, .int .i64 0, .int .i64 0, .int .i64 0, .int .i64 0, .int .i64 0, .int .i64 0, .int .i64 0, .int .i64 0] 23 (0, 0) BK6.out); clear HB BK6; generalize World.setRow _ g6 #[.int .i64 0, .int .i64 0, .int .i64 0, .int .i64 0, .int .i64 0, .int .i64 0, .int .i64 0, .int .i64 0, .int .i64 0, .int .i64 0, .int .i64 0, .int .i64 0, .int .i64 0, .int .i64 0, .int .i64 0, .int .i64 0, .int .i64 0] = w9 at HB9 BK9 ⊢))
  refine bodyPost_ret (results_ct rfl _ _ g6 23 #[.int .i64 0, .int .i64 0, .int .i64 0, .int .i64 0, .int .i64 0, .int .i64 0, .int .i64 0, .int .i64 0, .int .i64 0, .int .i64 0, .int .i64 0, .int .i64 0, .int .i64 0, .int .i64 0, .int .i64 0, .int .i64 0, .int .i64 0] (0, 0) _ rfl BK9.out Try.underlying23 rfl (by kernel_rfl)) rfl ?_
  exact ⟨rfl, HB9.out⟩
set_option maxHeartbeats 4000000 in
set_option maxRecDepth 100000 in
theorem resolve_wrong1 (gs gm : Nat) (L : List Sty) (n : ByteArray) (v : Value) (own : List S37) (w : World) (hs : Sheet w gs gm L) (hv : Sl w v own) (ks : Nat) (e : Int) (he : PStyleNearest.style_settings.f ks own = some e) (he0 : e ≠ 0) (hn : n ≠ ⟨#[]⟩) (hf : (fnd L n).isSome = true) :
    Calls Try.prog 24 #[.pointer (some ⟨gs, 0, none⟩), .string n, v] w fun x w' => x = .returned (.tuple #[.agg (row zero), .int .i64 e]) ∧ Below w.heap.size w w' := by
  have hu := Try.underlying77
  have hu5 := Try.underlying75
  have hu8 := Try.underlying85
  have hu23 := Try.underlying23
  obtain ⟨h1, M, hm, hrd⟩ := hs
  obtain ⟨r1, r2, r3, _⟩ := reads_all n hrd
  obtain ⟨p, hp⟩ : ∃ p, p = upL L n := ⟨_, rfl⟩
  rw [← hp] at r1
  obtain ⟨A, c, e1, e2, e3⟩ := r2
  generalize hm0 : (setsL L n).length = m at e1 e2 e3
  have HS : Aside0 (Sheet w gs gm L) := ⟨h1, M, hm, hrd⟩
  have HM := Aside0.mk hm
  have H1 := Aside0.mk h1
  have HL : Aside0 (∀ w', MapAt w' gm M → (Instr.lookup 75 (.map (some gm)) (.string n) true).run Try.prog w' = .ok (.tuple #[.agg #[.string p, .slice A m c], .bool (fnd L n).isSome]) w') := ⟨fun w' hw' => by rw [look2 hw', r1, e1, r3]⟩
  clear h1 hm hrd r1 r3 e1 e2 e3 hp hm0
  obtain ⟨A0, c0, rfl, q2, q3⟩ := id hv
  clear q2 q3
  have HOwn := Aside0.mk hv
  clear hv
  rw [hf] at HL
  clear hf
  have HSet : Aside0 (∀ w', Sl w' (.slice A0 own.length c0) own → Calls Try.prog 42 #[.slice A0 own.length c0] w' fun x w'' => x = .returned (.int .i64 e) ∧ Below w'.heap.size w' w'') := ⟨fun w' h => settings_calls ks _ own e w' h he⟩
  have ce0 : (e == 0) = false := beq_eq_false_iff_ne.mpr he0
  have ce1 : (e != 0) = true := bne_iff_ne.mpr he0
  clear he he0
  have c1 := list_ne hn
  go_enter Try.func24, Try.ntmps24
  go_upto_region 4 with (first | ((with_reducible refine gate_dst (N := 6) rfl ?_); refine box_event ?hg (N := 6) ?hd (cs := #[.int .i64 0, .int .i64 0, .int .i64 0, .int .i64 0, .int .i64 0, .int .i64 0, .int .i64 0, .int .i64 0, .int .i64 0, .int .i64 0, .int .i64 0, .int .i64 0, .int .i64 0, .int .i64 0, .int .i64 0, .int .i64 0, .int .i64 0]) (t := 23) ?hr ?_; (case hd => rfl); (case hg => rfl); (case hr => first | (go_simp; done) | (go_simp; rfl)); intro g6 hg w6 hbox hb; have HB6 := Aside0.mk hb; have BK6 := Aside0.mk hbox; have GE6 : Aside0 (w.heap.size ≤ g6) := ⟨by rw [hg]; exact Nat.le_refl _⟩; have hlk := HL.out w6 (HM.out.below hb); have e0 := (blk_cell (blk_below H1.out hb) 0).trans rfl; clear hb hbox hg) | (go_at_call 40; refine (none_calls gs gm _ (blk_below H1.out HB6.out)).mono ?_; rintro e w7 ⟨rfl, rfl⟩))
  have BK6b : Aside0 ((w7.alloc (.cells #[.string p, .slice A m c] 85)).heap[g6]? = some (.cells #[.int .i64 0, .int .i64 0, .int .i64 0, .int .i64 0, .int .i64 0, .int .i64 0, .int .i64 0, .int .i64 0, .int .i64 0, .int .i64 0, .int .i64 0, .int .i64 0, .int .i64 0, .int .i64 0, .int .i64 0, .int .i64 0, .int .i64 0] 23 (0, 0))) := ⟨blk_below BK6.out (below_alloc (Below.refl _ _) _)⟩
  have HB : Aside0 (Below w.heap.size w (w7.alloc (.cells #[.string p, .slice A m c] 85))) := ⟨below_alloc HB6.out _⟩
  have B8 : Aside0 ((w7.alloc (.cells #[.string p, .slice A m c] 85)).heap[w7.heap.size]? = some (.cells #[.string p, .slice A m c] 85 (0, 0))) := ⟨blk_new _ _⟩
  clear BK6 HB6 e0 hlk
  have BK6 := BK6b
  clear BK6b
  generalize w7.alloc (.cells #[.string p, .slice A m c] 85) = w3 at BK6 HB B8 ⊢
  generalize w7.heap.size = g8 at B8 ⊢
  go_wp2_with (first | (go_at_call 42; refine (HSet.out _ (HOwn.out.below HB.out)).mono ?_; rintro x w8 ⟨rfl, hb⟩; have HBn := Aside0.mk (below_step HB.out hb); have BKn := Aside0.mk (blk_below BK6.out hb); clear HB BK6 hb; have HB := HBn; have BK6 := BKn; clear HBn BKn) | ((with_reducible refine gate_store (t := 23) (p := 6) rfl ?_); refine wpList_store_row rfl 23 (.tmp 6) (.tmp 34) rfl g6 #[.int .i64 0, .int .i64 0, .int .i64 0, .int .i64 0, .int .i64 0, .int .i64 0, .int .i64 0, .int .i64 0, .int .i64 0, .int .i64 0, .int .i64 0, .int .i64 0, .int .i64 0, .int .i64 0, .int .i64 0, .int .i64 0, .int .i64 0] rfl rfl 23 #[.int .i64 0, .int .i64 0, .int .i64 0, .int .i64 0, .int .i64 0, .int .i64 0, .int .i64 0, .int .i64 0, .int .i64 0, .int .i64 0, .int .i64 0, .int .i64 0, .int .i64 0, .int .i64 0, .int .i64 0, .int .i64 0, .int .i64 0] BK6.out (by kernel_rfl) rfl (by kernel_rfl) ?_; have HB9 := Aside0.mk (below_setRow HB.out GE6.out #[.int .i64 0, .int .i64 0, .int .i64 0, .int .i64 0, .int .i64 0, .int .i64 0, .int .i64 0, .int .i64 0, .int .i64 0, .int .i64 0, .int .i64 0, .int .i64 0, .int .i64 0, .int .i64 0, .int .i64 0, .int .i64 0, .int .i64 0]); have BK9 := Aside0.mk (setRow_heap _ g6 _ #[.int .i64 0, .int .i64 0, .int .i64 0, .int .i64 0, .int .i64 0, .int .i64 0, .int .i64 0, .int .i64 0, .int .i64 0, .int .i64 0, .int .i64 0, .int .i64 0, .int .i64 0, .int .i64 0, .int .i64 0, .int .i64 0, .int .i64 0] 23 (0, 0) BK6.out); clear HB BK6; generalize World.setRow _ g6 #[.int .i64 0, .int .i64 0, .int .i64 0, .int .i64 0, .int .i64 0, .int .i64 0, .int .i64 0, .int .i64 0, .int .i64 0, .int .i64 0, .int .i64 0, .int .i64 0, .int .i64 0, .int .i64 0, .int .i64 0, .int .i64 0, .int .i64 0] = w9 at HB9 BK9 ⊢))
  refine bodyPost_ret (results_ct rfl _ _ g6 23 #[.int .i64 0, .int .i64 0, .int .i64 0, .int .i64 0, .int .i64 0, .int .i64 0, .int .i64 0, .int .i64 0, .int .i64 0, .int .i64 0, .int .i64 0, .int .i64 0, .int .i64 0, .int .i64 0, .int .i64 0, .int .i64 0, .int .i64 0] (0, 0) _ rfl BK9.out Try.underlying23 rfl (by kernel_rfl)) rfl ?_
  exact ⟨rfl, HB9.out⟩
set_option maxHeartbeats 4000000 in
set_option maxRecDepth 100000 in
theorem resolve_fine0 (gs gm : Nat) (L : List Sty) (n : ByteArray) (v : Value) (own : List S37) (w : World) (hs : Sheet w gs gm L) (hv : Sl w v own) (ks k : Nat) (f : Int → Int) (hfit : Fits L) (he : PStyleNearest.style_settings.f ks own = some 0) (hown : fitsAll own) (hmk : makesF L k n = some f) (hn : n = ⟨#[]⟩) :
    Calls Try.prog 24 #[.pointer (some ⟨gs, 0, none⟩), .string n, v] w fun e w' => e = .returned (.tuple #[.agg (row (withF f own)), .int .i64 0]) ∧ Below w.heap.size w w' := by
  have hu := Try.underlying77
  have hu5 := Try.underlying75
  have hu8 := Try.underlying85
  have hu23 := Try.underlying23
  obtain ⟨h1, M, hm, hrd⟩ := hs
  obtain ⟨r1, r2, r3, _⟩ := reads_all n hrd
  obtain ⟨p, hp⟩ : ∃ p, p = upL L n := ⟨_, rfl⟩
  rw [← hp] at r1
  obtain ⟨A, c, e1, e2, e3⟩ := r2
  generalize hm0 : (setsL L n).length = m at e1 e2 e3
  have HS : Aside0 (Sheet w gs gm L) := ⟨h1, M, hm, hrd⟩
  have HM := Aside0.mk hm
  have H1 := Aside0.mk h1
  have HL : Aside0 (∀ w', MapAt w' gm M → (Instr.lookup 75 (.map (some gm)) (.string n) true).run Try.prog w' = .ok (.tuple #[.agg #[.string p, .slice A m c], .bool (fnd L n).isSome]) w') := ⟨fun w' hw' => by rw [look2 hw', r1, e1, r3]⟩
  clear h1 hm hrd r1 r3 e1 e2 e3 hp hm0
  obtain ⟨A0, c0, rfl, q2, q3⟩ := id hv
  clear q2 q3
  have HOwn := Aside0.mk hv
  clear hv
  have HSet : Aside0 (∀ w', Sl w' (.slice A0 own.length c0) own → Calls Try.prog 42 #[.slice A0 own.length c0] w' fun x w'' => x = .returned (.int .i64 0) ∧ Below w'.heap.size w' w'') := ⟨fun w' h => settings_calls ks _ own 0 w' h he⟩
  have HMk : Aside0 (∀ w', Sheet w' gs gm L → Calls Try.prog 46 #[.pointer (some ⟨gs, 0, none⟩), .string n] w' fun e w'' => e = .returned (.agg (row f)) ∧ Below w'.heap.size w' w'') := ⟨fun w' h => makes_calls gs gm L hfit k _ f w' h hmk⟩
  have HWi : Aside0 (∀ w', Sl w' (.slice A0 own.length c0) own → Calls Try.prog 45 #[.agg (row f), .slice A0 own.length c0] w' fun e w'' => e = .returned (.agg (row (withF f own))) ∧ Below w'.heap.size w' w'') := ⟨fun w' h => with_calls f _ own w' h hown⟩
  have HS2 : Aside0 ((row (withF f own)).size = 17) := ⟨rfl⟩
  have HO2 : Aside0 ((row (withF f own)).all (·.oneCell') = true) := ⟨row_all _⟩
  clear he hmk hown hfit
  generalize row (withF f own) = Rr at HS2 HO2 HWi ⊢
  generalize row f = Rf at HMk HWi
  obtain ⟨b, hb⟩ : ∃ b, b = (fnd L n).isSome := ⟨_, rfl⟩
  rw [← hb] at HL
  clear hb
  subst hn
  go_enter Try.func24, Try.ntmps24
  go_upto_region 4 with (first | ((with_reducible refine gate_dst (N := 6) rfl ?_); refine box_event ?hg (N := 6) ?hd (cs := #[.int .i64 0, .int .i64 0, .int .i64 0, .int .i64 0, .int .i64 0, .int .i64 0, .int .i64 0, .int .i64 0, .int .i64 0, .int .i64 0, .int .i64 0, .int .i64 0, .int .i64 0, .int .i64 0, .int .i64 0, .int .i64 0, .int .i64 0]) (t := 23) ?hr ?_; (case hd => rfl); (case hg => rfl); (case hr => first | (go_simp; done) | (go_simp; rfl)); intro g6 hg w6 hbox hb; have HB6 := Aside0.mk hb; have BK6 := Aside0.mk hbox; have GE6 : Aside0 (w.heap.size ≤ g6) := ⟨by rw [hg]; exact Nat.le_refl _⟩; have hlk := HL.out w6 (HM.out.below hb); have e0 := (blk_cell (blk_below H1.out hb) 0).trans rfl; clear hb hbox hg) | (go_at_call 40; refine (none_calls gs gm _ (blk_below H1.out HB6.out)).mono ?_; rintro e w7 ⟨rfl, rfl⟩))
  have BK6b : Aside0 ((w7.alloc (.cells #[.string p, .slice A m c] 85)).heap[g6]? = some (.cells #[.int .i64 0, .int .i64 0, .int .i64 0, .int .i64 0, .int .i64 0, .int .i64 0, .int .i64 0, .int .i64 0, .int .i64 0, .int .i64 0, .int .i64 0, .int .i64 0, .int .i64 0, .int .i64 0, .int .i64 0, .int .i64 0, .int .i64 0] 23 (0, 0))) := ⟨blk_below BK6.out (below_alloc (Below.refl _ _) _)⟩
  have HB : Aside0 (Below w.heap.size w (w7.alloc (.cells #[.string p, .slice A m c] 85))) := ⟨below_alloc HB6.out _⟩
  have B8 : Aside0 ((w7.alloc (.cells #[.string p, .slice A m c] 85)).heap[w7.heap.size]? = some (.cells #[.string p, .slice A m c] 85 (0, 0))) := ⟨blk_new _ _⟩
  clear BK6 HB6 e0 hlk
  have BK6 := BK6b
  clear BK6b
  generalize w7.alloc (.cells #[.string p, .slice A m c] 85) = w3 at BK6 HB B8 ⊢
  generalize w7.heap.size = g8 at B8 ⊢
  go_wp2_with (first | (go_at_call 42; refine (HSet.out _ (HOwn.out.below HB.out)).mono ?_; rintro e w8 ⟨rfl, hb⟩; have HBn := Aside0.mk (below_step HB.out hb); have BKn := Aside0.mk (blk_below BK6.out hb); clear HB BK6 hb; have HB := HBn; have BK6 := BKn; clear HBn BKn) | (go_at_call 46; refine (HMk.out _ (HS.out.below HB.out)).mono ?_; rintro e w10 ⟨rfl, hb⟩; have HBn := Aside0.mk (below_step HB.out hb); have BKn := Aside0.mk (blk_below BK6.out hb); clear HB BK6 hb; have HB := HBn; have BK6 := BKn; clear HBn BKn) | (go_at_call 45; refine (HWi.out _ (HOwn.out.below HB.out)).mono ?_; rintro e w11 ⟨rfl, hb⟩; have HBn := Aside0.mk (below_step HB.out hb); have BKn := Aside0.mk (blk_below BK6.out hb); clear HB BK6 hb; have HB := HBn; have BK6 := BKn; clear HBn BKn) | ((with_reducible refine gate_store (t := 23) (p := 6) rfl ?_); refine wpList_store_row rfl 23 (.tmp 6) (.tmp 40) rfl g6 Rr rfl rfl 23 #[.int .i64 0, .int .i64 0, .int .i64 0, .int .i64 0, .int .i64 0, .int .i64 0, .int .i64 0, .int .i64 0, .int .i64 0, .int .i64 0, .int .i64 0, .int .i64 0, .int .i64 0, .int .i64 0, .int .i64 0, .int .i64 0, .int .i64 0] BK6.out (by rw [HS2.out]; exact info23) (by rw [HS2.out]; rfl) HO2.out ?_; have HB9 := Aside0.mk (below_setRow HB.out GE6.out Rr); have BK9 := Aside0.mk (setRow_heap _ g6 _ Rr 23 (0, 0) BK6.out); clear HB BK6; generalize World.setRow _ g6 Rr = w9 at HB9 BK9 ⊢))
  refine bodyPost_ret (results_ct rfl _ _ g6 23 Rr (0, 0) _ rfl BK9.out Try.underlying23 rfl (by rw [HS2.out]; exact info23)) rfl ?_
  exact ⟨rfl, HB9.out⟩
set_option maxHeartbeats 4000000 in
set_option maxRecDepth 100000 in
theorem resolve_fine1 (gs gm : Nat) (L : List Sty) (n : ByteArray) (v : Value) (own : List S37) (w : World) (hs : Sheet w gs gm L) (hv : Sl w v own) (ks k : Nat) (f : Int → Int) (hfit : Fits L) (he : PStyleNearest.style_settings.f ks own = some 0) (hown : fitsAll own) (hmk : makesF L k n = some f) (hn : n ≠ ⟨#[]⟩) (hf : (fnd L n).isSome = true) :
    Calls Try.prog 24 #[.pointer (some ⟨gs, 0, none⟩), .string n, v] w fun e w' => e = .returned (.tuple #[.agg (row (withF f own)), .int .i64 0]) ∧ Below w.heap.size w w' := by
  have hu := Try.underlying77
  have hu5 := Try.underlying75
  have hu8 := Try.underlying85
  have hu23 := Try.underlying23
  obtain ⟨h1, M, hm, hrd⟩ := hs
  obtain ⟨r1, r2, r3, _⟩ := reads_all n hrd
  obtain ⟨p, hp⟩ : ∃ p, p = upL L n := ⟨_, rfl⟩
  rw [← hp] at r1
  obtain ⟨A, c, e1, e2, e3⟩ := r2
  generalize hm0 : (setsL L n).length = m at e1 e2 e3
  have HS : Aside0 (Sheet w gs gm L) := ⟨h1, M, hm, hrd⟩
  have HM := Aside0.mk hm
  have H1 := Aside0.mk h1
  have HL : Aside0 (∀ w', MapAt w' gm M → (Instr.lookup 75 (.map (some gm)) (.string n) true).run Try.prog w' = .ok (.tuple #[.agg #[.string p, .slice A m c], .bool (fnd L n).isSome]) w') := ⟨fun w' hw' => by rw [look2 hw', r1, e1, r3]⟩
  clear h1 hm hrd r1 r3 e1 e2 e3 hp hm0
  obtain ⟨A0, c0, rfl, q2, q3⟩ := id hv
  clear q2 q3
  have HOwn := Aside0.mk hv
  clear hv
  rw [hf] at HL
  clear hf
  have HSet : Aside0 (∀ w', Sl w' (.slice A0 own.length c0) own → Calls Try.prog 42 #[.slice A0 own.length c0] w' fun x w'' => x = .returned (.int .i64 0) ∧ Below w'.heap.size w' w'') := ⟨fun w' h => settings_calls ks _ own 0 w' h he⟩
  have HMk : Aside0 (∀ w', Sheet w' gs gm L → Calls Try.prog 46 #[.pointer (some ⟨gs, 0, none⟩), .string n] w' fun e w'' => e = .returned (.agg (row f)) ∧ Below w'.heap.size w' w'') := ⟨fun w' h => makes_calls gs gm L hfit k _ f w' h hmk⟩
  have HWi : Aside0 (∀ w', Sl w' (.slice A0 own.length c0) own → Calls Try.prog 45 #[.agg (row f), .slice A0 own.length c0] w' fun e w'' => e = .returned (.agg (row (withF f own))) ∧ Below w'.heap.size w' w'') := ⟨fun w' h => with_calls f _ own w' h hown⟩
  have HS2 : Aside0 ((row (withF f own)).size = 17) := ⟨rfl⟩
  have HO2 : Aside0 ((row (withF f own)).all (·.oneCell') = true) := ⟨row_all _⟩
  clear he hmk hown hfit
  generalize row (withF f own) = Rr at HS2 HO2 HWi ⊢
  generalize row f = Rf at HMk HWi
  have c1 := list_ne hn
  go_enter Try.func24, Try.ntmps24
  go_upto_region 4 with (first | ((with_reducible refine gate_dst (N := 6) rfl ?_); refine box_event ?hg (N := 6) ?hd (cs := #[.int .i64 0, .int .i64 0, .int .i64 0, .int .i64 0, .int .i64 0, .int .i64 0, .int .i64 0, .int .i64 0, .int .i64 0, .int .i64 0, .int .i64 0, .int .i64 0, .int .i64 0, .int .i64 0, .int .i64 0, .int .i64 0, .int .i64 0]) (t := 23) ?hr ?_; (case hd => rfl); (case hg => rfl); (case hr => first | (go_simp; done) | (go_simp; rfl)); intro g6 hg w6 hbox hb; have HB6 := Aside0.mk hb; have BK6 := Aside0.mk hbox; have GE6 : Aside0 (w.heap.size ≤ g6) := ⟨by rw [hg]; exact Nat.le_refl _⟩; have hlk := HL.out w6 (HM.out.below hb); have e0 := (blk_cell (blk_below H1.out hb) 0).trans rfl; clear hb hbox hg) | (go_at_call 40; refine (none_calls gs gm _ (blk_below H1.out HB6.out)).mono ?_; rintro e w7 ⟨rfl, rfl⟩))
  have BK6b : Aside0 ((w7.alloc (.cells #[.string p, .slice A m c] 85)).heap[g6]? = some (.cells #[.int .i64 0, .int .i64 0, .int .i64 0, .int .i64 0, .int .i64 0, .int .i64 0, .int .i64 0, .int .i64 0, .int .i64 0, .int .i64 0, .int .i64 0, .int .i64 0, .int .i64 0, .int .i64 0, .int .i64 0, .int .i64 0, .int .i64 0] 23 (0, 0))) := ⟨blk_below BK6.out (below_alloc (Below.refl _ _) _)⟩
  have HB : Aside0 (Below w.heap.size w (w7.alloc (.cells #[.string p, .slice A m c] 85))) := ⟨below_alloc HB6.out _⟩
  have B8 : Aside0 ((w7.alloc (.cells #[.string p, .slice A m c] 85)).heap[w7.heap.size]? = some (.cells #[.string p, .slice A m c] 85 (0, 0))) := ⟨blk_new _ _⟩
  clear BK6 HB6 e0 hlk
  have BK6 := BK6b
  clear BK6b
  generalize w7.alloc (.cells #[.string p, .slice A m c] 85) = w3 at BK6 HB B8 ⊢
  generalize w7.heap.size = g8 at B8 ⊢
  go_wp2_with (first | (go_at_call 42; refine (HSet.out _ (HOwn.out.below HB.out)).mono ?_; rintro e w8 ⟨rfl, hb⟩; have HBn := Aside0.mk (below_step HB.out hb); have BKn := Aside0.mk (blk_below BK6.out hb); clear HB BK6 hb; have HB := HBn; have BK6 := BKn; clear HBn BKn) | (go_at_call 46; refine (HMk.out _ (HS.out.below HB.out)).mono ?_; rintro e w10 ⟨rfl, hb⟩; have HBn := Aside0.mk (below_step HB.out hb); have BKn := Aside0.mk (blk_below BK6.out hb); clear HB BK6 hb; have HB := HBn; have BK6 := BKn; clear HBn BKn) | (go_at_call 45; refine (HWi.out _ (HOwn.out.below HB.out)).mono ?_; rintro e w11 ⟨rfl, hb⟩; have HBn := Aside0.mk (below_step HB.out hb); have BKn := Aside0.mk (blk_below BK6.out hb); clear HB BK6 hb; have HB := HBn; have BK6 := BKn; clear HBn BKn) | ((with_reducible refine gate_store (t := 23) (p := 6) rfl ?_); refine wpList_store_row rfl 23 (.tmp 6) (.tmp 40) rfl g6 Rr rfl rfl 23 #[.int .i64 0, .int .i64 0, .int .i64 0, .int .i64 0, .int .i64 0, .int .i64 0, .int .i64 0, .int .i64 0, .int .i64 0, .int .i64 0, .int .i64 0, .int .i64 0, .int .i64 0, .int .i64 0, .int .i64 0, .int .i64 0, .int .i64 0] BK6.out (by rw [HS2.out]; exact info23) (by rw [HS2.out]; rfl) HO2.out ?_; have HB9 := Aside0.mk (below_setRow HB.out GE6.out Rr); have BK9 := Aside0.mk (setRow_heap _ g6 _ Rr 23 (0, 0) BK6.out); clear HB BK6; generalize World.setRow _ g6 Rr = w9 at HB9 BK9 ⊢))
  refine bodyPost_ret (results_ct rfl _ _ g6 23 Rr (0, 0) _ rfl BK9.out Try.underlying23 rfl (by rw [HS2.out]; exact info23)) rfl ?_
  exact ⟨rfl, HB9.out⟩
end Go.Proofs.Ytpcpjlbfhbicaaa.Sh
end
section
set_option linter.unusedVariables false
set_option linter.unusedSimpArgs false
namespace Go.Proofs.Ytpcpjlbfhbicaaa.Sh
open Go Go.RowKit Go.Proofs.YtpcpjlbfhbicaaaW.PrintWords Go.Proofs.YtpcpjlbfhbicaaaW.PrintLast Go.Proofs.YtpcpjlbfhbicaaaW.PrintMore Go.Proofs.Ytpcpjlbfhbicaaa.PStyleProps
open Go.Proofs.Ytpcpjlbfhbicaaa.PStyleNearest (S37 k37 z37 rd_T37 at_T37 k37_open k37_openM k37_mk k37_mkM info37)
theorem Has.len : ∀ {es : List MapEntry} {M : List Ent}, Has es M → es.length = M.length := by
  intro es M h
  have := congrArg List.length h
  simpa using this
theorem run_len {w : World} {gm : Nat} {M : List Ent} (h : MapAt w gm M) : (Builtin.len_ #[75] 3 #[.map (some gm)]).run Try.prog w = .ok (.int .i64 M.length) w := by
  obtain ⟨es, clock, hg, hh, _⟩ := h
  have hl := hh.len
  have hl' : es.size = M.length := by simpa using hl
  simp [Builtin.len_, Builtin.lenOf, run_underlying under75, MapKept.run_getObj_map hg, hl', goInt, Result.andThen]
theorem cell_set {w : World} {gm : Nat} {es : Array MapEntry} {cl : Nat} (hg : w.heap[gm]? = some (.map es cl)) (o : Obj) {a : Addr} {u : Value} (h : w.cell? a = some u) : ({ w with heap := w.heap.setIfInBounds gm o } : World).cell? a = some u := by
  have hne : gm ≠ a.block := by
    intro e
    rw [e] at hg
    simp [World.cell?, hg] at h
  simp only [World.cell?, Array.getElem?_setIfInBounds] at h ⊢
  rw [if_neg hne]
  exact h
theorem Sl.put {w : World} {gm : Nat} {es : Array MapEntry} {cl : Nat} (hg : w.heap[gm]? = some (.map es cl)) (o : Obj) {v : Value} {l : List S37} (h : Sl w v l) : Sl { w with heap := w.heap.setIfInBounds gm o } v l := by
  obtain ⟨A, c, e, hc, h1, h2, h3⟩ := h
  refine ⟨A, c, e, hc, h1, h2, fun hn => ?_⟩
  obtain ⟨ad, e, hr⟩ := h3 hn
  refine ⟨ad, e, fun j p hj => ?_⟩
  obtain ⟨cs, hs, hk, hcell⟩ := hr j p hj
  exact ⟨cs, hs, by rw [k37_open hk]; exact k37_mk _ _, fun i u hu => cell_set hg o (hcell i u hu)⟩
def aboveG (u : ByteArray → ByteArray) (who : ByteArray) : Nat → ByteArray → Option Bool
  | 0, _ => none
  | k + 1, o => if o = ⟨#[]⟩ then some false else if o = who then some true else aboveG u who k (u o)
def putL (L : List Sty) (n p : ByteArray) (l : List S37) : List Sty := match L with
  | [] => [(n, p, l)]
  | s :: r => if n == s.1 then (n, p, l) :: r else s :: putL r n p l
theorem Reads.put {w : World} (n p : ByteArray) {v : Value} {l : List S37} (hv : Sl w v l) : ∀ {M : List Ent} {L : List Sty}, Reads w M L → Reads w (Sh.put M n p v) (putL L n p l)
  | [], [], _ => ⟨rfl, rfl, hv, trivial⟩
  | m :: M, s :: L, ⟨h1, h2, h3, h4⟩ => by
    simp only [Sh.put, putL]
    cases c : (n == m.1) with
    | true =>
      have c' : (n == s.1) = true := by rw [← h1]; exact c
      rw [c']
      exact ⟨rfl, rfl, hv, h4⟩
    | false =>
      have c' : (n == s.1) = false := by rw [← h1]; exact c
      rw [c']
      exact ⟨h1, h2, h3, Reads.put n p hv h4⟩
  | [], _ :: _, h => h.elim
  | _ :: _, [], h => h.elim
theorem gs_ne {w : World} {gs gm : Nat} {cs : Array Value} {t : TypeId} {M : List Ent} (h1 : w.heap[gs]? = some (.cells cs t (0, 0))) (h2 : MapAt w gm M) : gm ≠ gs := by
  obtain ⟨es, cl, hg, _⟩ := h2
  rintro rfl
  rw [h1] at hg
  cases hg
theorem sheet_put {w : World} {gs gm : Nat} {M : List Ent} {L : List Sty} {n p : ByteArray} {v : Value} {l : List S37} {o : Obj} (h1 : w.heap[gs]? = some (.cells #[.map (some gm)] 77 (0, 0))) (h2 : MapAt w gm M) (h3 : Reads w M L) (hv : Sl w v l)
    (h4 : MapAt { w with heap := w.heap.setIfInBounds gm o } gm (Sh.put M n p v)) : Sheet { w with heap := w.heap.setIfInBounds gm o } gs gm (putL L n p l) := by
  have hne := gs_ne h1 h2
  obtain ⟨es, cl, hg, _⟩ := h2
  refine ⟨?_, _, h4, ?_⟩
  · show (w.heap.setIfInBounds gm o)[gs]? = _
    rw [Array.getElem?_setIfInBounds, if_neg hne]
    exact h1
  · exact (h3.put n p hv).imp (fun _ _ h => h.put hg o)
theorem grown_put {w0 w : World} {gm : Nat} (h : Below w0.heap.size w0 w) (o : Obj) : w0.grownBy { w with heap := w.heap.setIfInBounds gm o } (some gm) :=
  ⟨h.os, h.tape, h.output, by simpa using h.size, fun i hi hne => by
    show (w.heap.setIfInBounds gm o)[i]? = _
    rw [Array.getElem?_setIfInBounds, if_neg (fun e => hne (by rw [e]))]
    exact h.block i hi⟩
theorem name_calls (kn : Nat) (n : ByteArray) (b : Bool) (w : World) (h : PStyleNearest.style_name.f kn n = some b) : Calls Try.prog 41 #[.string n] w fun e w' => e = .returned (.bool b) ∧ Below w.heap.size w w' :=
  (PStyleNearest.style_name.calls kn n b w h).mono (fun e w' hh => ⟨hh.1, hh.2.below⟩)
set_option maxHeartbeats 4000000 in
set_option maxRecDepth 100000 in
theorem define_name (gs gm : Nat) (L : List Sty) (n p : ByteArray) (v : Value) (l : List S37) (w : World) (hs : Sheet w gs gm L) (hv : Sl w v l) (kn : Nat) (hn : PStyleNearest.style_name.f kn n = some false) :
    Calls Try.prog 23 #[.pointer (some ⟨gs, 0, none⟩), .string n, .string p, v] w fun x w' => x = .returned (.int .i64 4) ∧ Below w.heap.size w w' := by
  have hu := Try.underlying77
  have hu5 := Try.underlying75
  have hu8 := Try.underlying85
  have hu37 := Try.underlying37
  have HS := Aside0.mk hs
  obtain ⟨h1, M, hm, hrd⟩ := hs
  obtain ⟨r1, r2, r3, r4⟩ := reads_all p hrd
  obtain ⟨q1, q2, q3, _⟩ := reads_all n hrd
  obtain ⟨A, c, e1, e2, e3⟩ := r2
  generalize hm0 : (setsL L p).length = m at e1 e2 e3
  obtain ⟨An, cn, f1, f2, f3⟩ := q2
  generalize hm1 : (setsL L n).length = mn at f1 f2 f3
  obtain ⟨pp, hpp⟩ : ∃ pp, pp = upL L p := ⟨_, rfl⟩
  obtain ⟨pn, hpn⟩ : ∃ pn, pn = upL L n := ⟨_, rfl⟩
  rw [← hpp] at r1
  rw [← hpn] at q1
  have HM := Aside0.mk hm
  have H1 := Aside0.mk h1
  have HRd := Aside0.mk hrd
  obtain ⟨tp, htp⟩ : ∃ tp, tp = (fnd L p).isSome := ⟨_, rfl⟩
  obtain ⟨tn, htn⟩ : ∃ tn, tn = (fnd L n).isSome := ⟨_, rfl⟩
  rw [← htp] at r3
  rw [← htn] at q3
  have HLp : Aside0 (∀ w', MapAt w' gm M → (Instr.lookup 75 (.map (some gm)) (.string p) true).run Try.prog w' = .ok (.tuple #[.agg #[.string pp, .slice A m c], .bool tp]) w') := ⟨fun w' hw' => by rw [look2 hw', r1, e1, r3]⟩
  have HLn : Aside0 (∀ w', MapAt w' gm M → (Instr.lookup 75 (.map (some gm)) (.string n) true).run Try.prog w' = .ok (.tuple #[.agg #[.string pn, .slice An mn cn], .bool tn]) w') := ⟨fun w' hw' => by rw [look2 hw', q1, f1, q3]⟩
  have HLen : Aside0 (∀ w', MapAt w' gm M → (Builtin.len_ #[75] 3 #[.map (some gm)]).run Try.prog w' = .ok (.int .i64 L.length) w') := ⟨fun w' hw' => by rw [← r4]; exact run_len hw'⟩
  clear h1 hm hrd r1 r3 r4 q1 q3 e1 e2 e3 f1 f2 f3 hpp hpn hm0 hm1
  obtain ⟨A0, c0, rfl, z2, z3⟩ := id hv
  clear z2 z3
  have HOwn := Aside0.mk hv
  clear hv
  have HN : Aside0 (∀ w', Calls Try.prog 41 #[.string n] w' fun x w'' => x = .returned (.bool false) ∧ Below w'.heap.size w' w'') := ⟨fun w' => name_calls kn n false w' hn⟩
  clear hn
  go_enter Try.func23, Try.ntmps23
  go_wp2_with (first | (go_at_call 40; refine (none_calls gs gm _ H1.out).mono ?_; rintro x w7 ⟨rfl, hw⟩; rw [hw]; clear hw) | (go_at_call 41; refine (HN.out _).mono ?_; rintro x w8 ⟨rfl, hb⟩; have HB := Aside0.mk hb; clear hb))
  go_ret
  exact ⟨rfl, HB.out⟩
set_option maxHeartbeats 4000000 in
set_option maxRecDepth 100000 in
theorem define_miss (gs gm : Nat) (L : List Sty) (n p : ByteArray) (v : Value) (l : List S37) (w : World) (hs : Sheet w gs gm L) (hv : Sl w v l) (kn : Nat) (hn : PStyleNearest.style_name.f kn n = some true) (hp : p ≠ ⟨#[]⟩) (hf : fnd L p = none) :
    Calls Try.prog 23 #[.pointer (some ⟨gs, 0, none⟩), .string n, .string p, v] w fun x w' => x = .returned (.int .i64 6) ∧ Below w.heap.size w w' := by
  have hu := Try.underlying77
  have hu5 := Try.underlying75
  have hu8 := Try.underlying85
  have hu37 := Try.underlying37
  have HS := Aside0.mk hs
  obtain ⟨h1, M, hm, hrd⟩ := hs
  obtain ⟨r1, r2, r3, r4⟩ := reads_all p hrd
  obtain ⟨q1, q2, q3, _⟩ := reads_all n hrd
  obtain ⟨A, c, e1, e2, e3⟩ := r2
  generalize hm0 : (setsL L p).length = m at e1 e2 e3
  obtain ⟨An, cn, f1, f2, f3⟩ := q2
  generalize hm1 : (setsL L n).length = mn at f1 f2 f3
  obtain ⟨pp, hpp⟩ : ∃ pp, pp = upL L p := ⟨_, rfl⟩
  obtain ⟨pn, hpn⟩ : ∃ pn, pn = upL L n := ⟨_, rfl⟩
  rw [← hpp] at r1
  rw [← hpn] at q1
  have HM := Aside0.mk hm
  have H1 := Aside0.mk h1
  have HRd := Aside0.mk hrd
  obtain ⟨tp, htp⟩ : ∃ tp, tp = (fnd L p).isSome := ⟨_, rfl⟩
  obtain ⟨tn, htn⟩ : ∃ tn, tn = (fnd L n).isSome := ⟨_, rfl⟩
  rw [← htp] at r3
  rw [← htn] at q3
  have HLp : Aside0 (∀ w', MapAt w' gm M → (Instr.lookup 75 (.map (some gm)) (.string p) true).run Try.prog w' = .ok (.tuple #[.agg #[.string pp, .slice A m c], .bool tp]) w') := ⟨fun w' hw' => by rw [look2 hw', r1, e1, r3]⟩
  have HLn : Aside0 (∀ w', MapAt w' gm M → (Instr.lookup 75 (.map (some gm)) (.string n) true).run Try.prog w' = .ok (.tuple #[.agg #[.string pn, .slice An mn cn], .bool tn]) w') := ⟨fun w' hw' => by rw [look2 hw', q1, f1, q3]⟩
  have HLen : Aside0 (∀ w', MapAt w' gm M → (Builtin.len_ #[75] 3 #[.map (some gm)]).run Try.prog w' = .ok (.int .i64 L.length) w') := ⟨fun w' hw' => by rw [← r4]; exact run_len hw'⟩
  clear h1 hm hrd r1 r3 r4 q1 q3 e1 e2 e3 f1 f2 f3 hpp hpn hm0 hm1
  obtain ⟨A0, c0, rfl, z2, z3⟩ := id hv
  clear z2 z3
  have HOwn := Aside0.mk hv
  clear hv
  have HN : Aside0 (∀ w', Calls Try.prog 41 #[.string n] w' fun x w'' => x = .returned (.bool true) ∧ Below w'.heap.size w' w'') := ⟨fun w' => name_calls kn n true w' hn⟩
  clear hn
  rw [hf] at htp
  simp only [Option.isSome_none] at htp
  subst htp
  have c1 := list_ne hp
  clear hf
  go_enter Try.func23, Try.ntmps23
  go_upto_region 6 with (first | (go_at_call 40; refine (none_calls gs gm _ H1.out).mono ?_; rintro x w7 ⟨rfl, hw⟩; rw [hw]; clear hw) | (go_at_call 41; refine (HN.out _).mono ?_; rintro x w8 ⟨rfl, hb⟩; have HB := Aside0.mk hb; have e0 := (blk_cell (blk_below H1.out hb) 0).trans rfl; have hlk := HLp.out w8 (HM.out.below hb); clear hb))
  have HB2 : Aside0 (Below w.heap.size w (w8.alloc (.cells #[.string pp, .slice A m c] 85))) := ⟨below_alloc HB.out _⟩
  clear HB e0 hlk
  have HB := HB2
  clear HB2
  generalize w8.alloc (.cells #[.string pp, .slice A m c] 85) = w9 at HB ⊢
  generalize w8.heap.size = g9
  go_wp2
  go_ret
  exact ⟨rfl, HB.out⟩
theorem aboveL {w : World} {M : List Ent} {L : List Sty} (h : Reads w M L) (who : ByteArray) : ∀ (k : Nat) (o : ByteArray), aboveF M who k o = aboveG (upL L) who k o
  | 0, _ => rfl
  | k + 1, o => by
    simp only [aboveF, aboveG]
    rw [aboveL h who k, (reads_all o h).1]
theorem above_callsL (gs gm : Nat) (L : List Sty) (k : Nat) (who o : ByteArray) (b : Bool) (w : World) (hs : Sheet w gs gm L) (h : aboveG (upL L) who k o = some b) :
    Calls Try.prog 43 #[.pointer (some ⟨gs, 0, none⟩), .string who, .string o] w fun e w' => e = .returned (.bool b) ∧ w' = w := by
  obtain ⟨h1, M, hm, hrd⟩ := hs
  exact above_calls gs gm M k who o b w h1 hm ((aboveL hrd who k o).trans h)
set_option maxHeartbeats 4000000 in
set_option maxRecDepth 100000 in
theorem define_set0 (gs gm : Nat) (L : List Sty) (n p : ByteArray) (v : Value) (l : List S37) (w : World) (hs : Sheet w gs gm L) (hv : Sl w v l) (kn : Nat) (hn : PStyleNearest.style_name.f kn n = some true) (ks : Nat) (e : Int) (he : PStyleNearest.style_settings.f ks l = some e) (he0 : e ≠ 0) (hp : p = ⟨#[]⟩) :
    Calls Try.prog 23 #[.pointer (some ⟨gs, 0, none⟩), .string n, .string p, v] w fun x w' => x = .returned (.int .i64 e) ∧ Below w.heap.size w w' := by
  have hu := Try.underlying77
  have hu5 := Try.underlying75
  have hu8 := Try.underlying85
  have hu37 := Try.underlying37
  have HS := Aside0.mk hs
  obtain ⟨h1, M, hm, hrd⟩ := hs
  obtain ⟨r1, r2, r3, r4⟩ := reads_all p hrd
  obtain ⟨q1, q2, q3, _⟩ := reads_all n hrd
  obtain ⟨A, c, e1, e2, e3⟩ := r2
  generalize hm0 : (setsL L p).length = m at e1 e2 e3
  obtain ⟨An, cn, f1, f2, f3⟩ := q2
  generalize hm1 : (setsL L n).length = mn at f1 f2 f3
  obtain ⟨pp, hpp⟩ : ∃ pp, pp = upL L p := ⟨_, rfl⟩
  obtain ⟨pn, hpn⟩ : ∃ pn, pn = upL L n := ⟨_, rfl⟩
  rw [← hpp] at r1
  rw [← hpn] at q1
  have HM := Aside0.mk hm
  have H1 := Aside0.mk h1
  have HRd := Aside0.mk hrd
  obtain ⟨tp, htp⟩ : ∃ tp, tp = (fnd L p).isSome := ⟨_, rfl⟩
  obtain ⟨tn, htn⟩ : ∃ tn, tn = (fnd L n).isSome := ⟨_, rfl⟩
  rw [← htp] at r3
  rw [← htn] at q3
  have HLp : Aside0 (∀ w', MapAt w' gm M → (Instr.lookup 75 (.map (some gm)) (.string p) true).run Try.prog w' = .ok (.tuple #[.agg #[.string pp, .slice A m c], .bool tp]) w') := ⟨fun w' hw' => by rw [look2 hw', r1, e1, r3]⟩
  have HLn : Aside0 (∀ w', MapAt w' gm M → (Instr.lookup 75 (.map (some gm)) (.string n) true).run Try.prog w' = .ok (.tuple #[.agg #[.string pn, .slice An mn cn], .bool tn]) w') := ⟨fun w' hw' => by rw [look2 hw', q1, f1, q3]⟩
  have HLen : Aside0 (∀ w', MapAt w' gm M → (Builtin.len_ #[75] 3 #[.map (some gm)]).run Try.prog w' = .ok (.int .i64 L.length) w') := ⟨fun w' hw' => by rw [← r4]; exact run_len hw'⟩
  clear h1 hm hrd r1 r3 r4 q1 q3 e1 e2 e3 f1 f2 f3 hpp hpn hm0 hm1
  obtain ⟨A0, c0, rfl, z2, z3⟩ := id hv
  clear z2 z3
  have HOwn := Aside0.mk hv
  clear hv
  have HSet : Aside0 (∀ w', Sl w' (.slice A0 l.length c0) l → Calls Try.prog 42 #[.slice A0 l.length c0] w' fun x w'' => x = .returned (.int .i64 e) ∧ Below w'.heap.size w' w'') := ⟨fun w' h => settings_calls ks _ l _ w' h he⟩
  have ce0 : (e == 0) = false := beq_eq_false_iff_ne.mpr he0
  have ce1 : (e != 0) = true := bne_iff_ne.mpr he0
  clear he he0
  have HN : Aside0 (∀ w', Calls Try.prog 41 #[.string n] w' fun x w'' => x = .returned (.bool true) ∧ Below w'.heap.size w' w'') := ⟨fun w' => name_calls kn n true w' hn⟩
  clear hn
  clear htp
  subst hp
  go_enter Try.func23, Try.ntmps23
  go_upto_region 6 with (first | (go_at_call 40; refine (none_calls gs gm _ H1.out).mono ?_; rintro x w7 ⟨rfl, hw⟩; rw [hw]; clear hw) | (go_at_call 41; refine (HN.out _).mono ?_; rintro x w8 ⟨rfl, hb⟩; have HB := Aside0.mk hb; have e0 := (blk_cell (blk_below H1.out hb) 0).trans rfl; have hlk := HLp.out w8 (HM.out.below hb); clear hb))
  have HB2 : Aside0 (Below w.heap.size w (w8.alloc (.cells #[.string pp, .slice A m c] 85))) := ⟨below_alloc HB.out _⟩
  clear HB e0 hlk
  have HB := HB2
  clear HB2
  generalize w8.alloc (.cells #[.string pp, .slice A m c] 85) = w9 at HB ⊢
  generalize w8.heap.size = g9
  go_wp2_with (first | (go_at_call 42; refine (HSet.out _ (HOwn.out.below HB.out)).mono ?_; rintro x w10 ⟨rfl, hb⟩; have HBn := Aside0.mk (below_step HB.out hb); clear HB hb; have HB := HBn; clear HBn))
  go_ret
  exact ⟨rfl, HB.out⟩
set_option maxHeartbeats 4000000 in
set_option maxRecDepth 100000 in
theorem define_set1 (gs gm : Nat) (L : List Sty) (n p : ByteArray) (v : Value) (l : List S37) (w : World) (hs : Sheet w gs gm L) (hv : Sl w v l) (kn : Nat) (hn : PStyleNearest.style_name.f kn n = some true) (ks : Nat) (e : Int) (he : PStyleNearest.style_settings.f ks l = some e) (he0 : e ≠ 0) (hp : p ≠ ⟨#[]⟩) (hf : (fnd L p).isSome = true) :
    Calls Try.prog 23 #[.pointer (some ⟨gs, 0, none⟩), .string n, .string p, v] w fun x w' => x = .returned (.int .i64 e) ∧ Below w.heap.size w w' := by
  have hu := Try.underlying77
  have hu5 := Try.underlying75
  have hu8 := Try.underlying85
  have hu37 := Try.underlying37
  have HS := Aside0.mk hs
  obtain ⟨h1, M, hm, hrd⟩ := hs
  obtain ⟨r1, r2, r3, r4⟩ := reads_all p hrd
  obtain ⟨q1, q2, q3, _⟩ := reads_all n hrd
  obtain ⟨A, c, e1, e2, e3⟩ := r2
  generalize hm0 : (setsL L p).length = m at e1 e2 e3
  obtain ⟨An, cn, f1, f2, f3⟩ := q2
  generalize hm1 : (setsL L n).length = mn at f1 f2 f3
  obtain ⟨pp, hpp⟩ : ∃ pp, pp = upL L p := ⟨_, rfl⟩
  obtain ⟨pn, hpn⟩ : ∃ pn, pn = upL L n := ⟨_, rfl⟩
  rw [← hpp] at r1
  rw [← hpn] at q1
  have HM := Aside0.mk hm
  have H1 := Aside0.mk h1
  have HRd := Aside0.mk hrd
  obtain ⟨tp, htp⟩ : ∃ tp, tp = (fnd L p).isSome := ⟨_, rfl⟩
  obtain ⟨tn, htn⟩ : ∃ tn, tn = (fnd L n).isSome := ⟨_, rfl⟩
  rw [← htp] at r3
  rw [← htn] at q3
  have HLp : Aside0 (∀ w', MapAt w' gm M → (Instr.lookup 75 (.map (some gm)) (.string p) true).run Try.prog w' = .ok (.tuple #[.agg #[.string pp, .slice A m c], .bool tp]) w') := ⟨fun w' hw' => by rw [look2 hw', r1, e1, r3]⟩
  have HLn : Aside0 (∀ w', MapAt w' gm M → (Instr.lookup 75 (.map (some gm)) (.string n) true).run Try.prog w' = .ok (.tuple #[.agg #[.string pn, .slice An mn cn], .bool tn]) w') := ⟨fun w' hw' => by rw [look2 hw', q1, f1, q3]⟩
  have HLen : Aside0 (∀ w', MapAt w' gm M → (Builtin.len_ #[75] 3 #[.map (some gm)]).run Try.prog w' = .ok (.int .i64 L.length) w') := ⟨fun w' hw' => by rw [← r4]; exact run_len hw'⟩
  clear h1 hm hrd r1 r3 r4 q1 q3 e1 e2 e3 f1 f2 f3 hpp hpn hm0 hm1
  obtain ⟨A0, c0, rfl, z2, z3⟩ := id hv
  clear z2 z3
  have HOwn := Aside0.mk hv
  clear hv
  have HSet : Aside0 (∀ w', Sl w' (.slice A0 l.length c0) l → Calls Try.prog 42 #[.slice A0 l.length c0] w' fun x w'' => x = .returned (.int .i64 e) ∧ Below w'.heap.size w' w'') := ⟨fun w' h => settings_calls ks _ l _ w' h he⟩
  have ce0 : (e == 0) = false := beq_eq_false_iff_ne.mpr he0
  have ce1 : (e != 0) = true := bne_iff_ne.mpr he0
  clear he he0
  have HN : Aside0 (∀ w', Calls Try.prog 41 #[.string n] w' fun x w'' => x = .returned (.bool true) ∧ Below w'.heap.size w' w'') := ⟨fun w' => name_calls kn n true w' hn⟩
  clear hn
  rw [hf] at htp
  subst htp
  clear hf
  have c1 := list_ne hp
  go_enter Try.func23, Try.ntmps23
  go_upto_region 6 with (first | (go_at_call 40; refine (none_calls gs gm _ H1.out).mono ?_; rintro x w7 ⟨rfl, hw⟩; rw [hw]; clear hw) | (go_at_call 41; refine (HN.out _).mono ?_; rintro x w8 ⟨rfl, hb⟩; have HB := Aside0.mk hb; have e0 := (blk_cell (blk_below H1.out hb) 0).trans rfl; have hlk := HLp.out w8 (HM.out.below hb); clear hb))
  have HB2 : Aside0 (Below w.heap.size w (w8.alloc (.cells #[.string pp, .slice A m c] 85))) := ⟨below_alloc HB.out _⟩
  clear HB e0 hlk
  have HB := HB2
  clear HB2
  generalize w8.alloc (.cells #[.string pp, .slice A m c] 85) = w9 at HB ⊢
  generalize w8.heap.size = g9
  go_wp2_with (first | (go_at_call 42; refine (HSet.out _ (HOwn.out.below HB.out)).mono ?_; rintro x w10 ⟨rfl, hb⟩; have HBn := Aside0.mk (below_step HB.out hb); clear HB hb; have HB := HBn; clear HBn))
  go_ret
  exact ⟨rfl, HB.out⟩
set_option maxHeartbeats 4000000 in
set_option maxRecDepth 100000 in
theorem define_loop0 (gs gm : Nat) (L : List Sty) (n p : ByteArray) (v : Value) (l : List S37) (w : World) (hs : Sheet w gs gm L) (hv : Sl w v l) (kn : Nat) (hn : PStyleNearest.style_name.f kn n = some true) (ks k : Nat) (he : PStyleNearest.style_settings.f ks l = some 0) (hab : aboveG (upL L) n k p = some true) (hp : p = ⟨#[]⟩) :
    Calls Try.prog 23 #[.pointer (some ⟨gs, 0, none⟩), .string n, .string p, v] w fun x w' => x = .returned (.int .i64 10) ∧ Below w.heap.size w w' := by
  have hu := Try.underlying77
  have hu5 := Try.underlying75
  have hu8 := Try.underlying85
  have hu37 := Try.underlying37
  have HS := Aside0.mk hs
  obtain ⟨h1, M, hm, hrd⟩ := hs
  obtain ⟨r1, r2, r3, r4⟩ := reads_all p hrd
  obtain ⟨q1, q2, q3, _⟩ := reads_all n hrd
  obtain ⟨A, c, e1, e2, e3⟩ := r2
  generalize hm0 : (setsL L p).length = m at e1 e2 e3
  obtain ⟨An, cn, f1, f2, f3⟩ := q2
  generalize hm1 : (setsL L n).length = mn at f1 f2 f3
  obtain ⟨pp, hpp⟩ : ∃ pp, pp = upL L p := ⟨_, rfl⟩
  obtain ⟨pn, hpn⟩ : ∃ pn, pn = upL L n := ⟨_, rfl⟩
  rw [← hpp] at r1
  rw [← hpn] at q1
  have HM := Aside0.mk hm
  have H1 := Aside0.mk h1
  have HRd := Aside0.mk hrd
  obtain ⟨tp, htp⟩ : ∃ tp, tp = (fnd L p).isSome := ⟨_, rfl⟩
  obtain ⟨tn, htn⟩ : ∃ tn, tn = (fnd L n).isSome := ⟨_, rfl⟩
  rw [← htp] at r3
  rw [← htn] at q3
  have HLp : Aside0 (∀ w', MapAt w' gm M → (Instr.lookup 75 (.map (some gm)) (.string p) true).run Try.prog w' = .ok (.tuple #[.agg #[.string pp, .slice A m c], .bool tp]) w') := ⟨fun w' hw' => by rw [look2 hw', r1, e1, r3]⟩
  have HLn : Aside0 (∀ w', MapAt w' gm M → (Instr.lookup 75 (.map (some gm)) (.string n) true).run Try.prog w' = .ok (.tuple #[.agg #[.string pn, .slice An mn cn], .bool tn]) w') := ⟨fun w' hw' => by rw [look2 hw', q1, f1, q3]⟩
  have HLen : Aside0 (∀ w', MapAt w' gm M → (Builtin.len_ #[75] 3 #[.map (some gm)]).run Try.prog w' = .ok (.int .i64 L.length) w') := ⟨fun w' hw' => by rw [← r4]; exact run_len hw'⟩
  clear h1 hm hrd r1 r3 r4 q1 q3 e1 e2 e3 f1 f2 f3 hpp hpn hm0 hm1
  obtain ⟨A0, c0, rfl, z2, z3⟩ := id hv
  clear z2 z3
  have HOwn := Aside0.mk hv
  clear hv
  have HSet : Aside0 (∀ w', Sl w' (.slice A0 l.length c0) l → Calls Try.prog 42 #[.slice A0 l.length c0] w' fun x w'' => x = .returned (.int .i64 0) ∧ Below w'.heap.size w' w'') := ⟨fun w' h => settings_calls ks _ l _ w' h he⟩
  have HAb : Aside0 (∀ w', Sheet w' gs gm L → Calls Try.prog 43 #[.pointer (some ⟨gs, 0, none⟩), .string n, .string p] w' fun x w'' => x = .returned (.bool true) ∧ w'' = w') := ⟨fun w' h => above_callsL gs gm L k n p true w' h hab⟩
  clear hab he
  have HN : Aside0 (∀ w', Calls Try.prog 41 #[.string n] w' fun x w'' => x = .returned (.bool true) ∧ Below w'.heap.size w' w'') := ⟨fun w' => name_calls kn n true w' hn⟩
  clear hn
  clear htp
  subst hp
  go_enter Try.func23, Try.ntmps23
  go_upto_region 6 with (first | (go_at_call 40; refine (none_calls gs gm _ H1.out).mono ?_; rintro x w7 ⟨rfl, hw⟩; rw [hw]; clear hw) | (go_at_call 41; refine (HN.out _).mono ?_; rintro x w8 ⟨rfl, hb⟩; have HB := Aside0.mk hb; have e0 := (blk_cell (blk_below H1.out hb) 0).trans rfl; have hlk := HLp.out w8 (HM.out.below hb); clear hb))
  have HB2 : Aside0 (Below w.heap.size w (w8.alloc (.cells #[.string pp, .slice A m c] 85))) := ⟨below_alloc HB.out _⟩
  clear HB e0 hlk
  have HB := HB2
  clear HB2
  generalize w8.alloc (.cells #[.string pp, .slice A m c] 85) = w9 at HB ⊢
  generalize w8.heap.size = g9
  go_wp2_with (first | (go_at_call 42; refine (HSet.out _ (HOwn.out.below HB.out)).mono ?_; rintro x w10 ⟨rfl, hb⟩; have HBn := Aside0.mk (below_step HB.out hb); clear HB hb; have HB := HBn; clear HBn) | (go_at_call 43; refine (HAb.out _ (HS.out.below HB.out)).mono ?_; rintro x w11 ⟨rfl, hw⟩; rw [hw]; clear hw; have e0 := (blk_cell (blk_below H1.out HB.out) 0).trans rfl; have hlk := HLn.out _ (HM.out.below HB.out)))
  go_ret
  exact ⟨rfl, HB.out⟩
set_option maxHeartbeats 4000000 in
set_option maxRecDepth 100000 in
theorem define_loop1 (gs gm : Nat) (L : List Sty) (n p : ByteArray) (v : Value) (l : List S37) (w : World) (hs : Sheet w gs gm L) (hv : Sl w v l) (kn : Nat) (hn : PStyleNearest.style_name.f kn n = some true) (ks k : Nat) (he : PStyleNearest.style_settings.f ks l = some 0) (hab : aboveG (upL L) n k p = some true) (hp : p ≠ ⟨#[]⟩) (hf : (fnd L p).isSome = true) :
    Calls Try.prog 23 #[.pointer (some ⟨gs, 0, none⟩), .string n, .string p, v] w fun x w' => x = .returned (.int .i64 10) ∧ Below w.heap.size w w' := by
  have hu := Try.underlying77
  have hu5 := Try.underlying75
  have hu8 := Try.underlying85
  have hu37 := Try.underlying37
  have HS := Aside0.mk hs
  obtain ⟨h1, M, hm, hrd⟩ := hs
  obtain ⟨r1, r2, r3, r4⟩ := reads_all p hrd
  obtain ⟨q1, q2, q3, _⟩ := reads_all n hrd
  obtain ⟨A, c, e1, e2, e3⟩ := r2
  generalize hm0 : (setsL L p).length = m at e1 e2 e3
  obtain ⟨An, cn, f1, f2, f3⟩ := q2
  generalize hm1 : (setsL L n).length = mn at f1 f2 f3
  obtain ⟨pp, hpp⟩ : ∃ pp, pp = upL L p := ⟨_, rfl⟩
  obtain ⟨pn, hpn⟩ : ∃ pn, pn = upL L n := ⟨_, rfl⟩
  rw [← hpp] at r1
  rw [← hpn] at q1
  have HM := Aside0.mk hm
  have H1 := Aside0.mk h1
  have HRd := Aside0.mk hrd
  obtain ⟨tp, htp⟩ : ∃ tp, tp = (fnd L p).isSome := ⟨_, rfl⟩
  obtain ⟨tn, htn⟩ : ∃ tn, tn = (fnd L n).isSome := ⟨_, rfl⟩
  rw [← htp] at r3
  rw [← htn] at q3
  have HLp : Aside0 (∀ w', MapAt w' gm M → (Instr.lookup 75 (.map (some gm)) (.string p) true).run Try.prog w' = .ok (.tuple #[.agg #[.string pp, .slice A m c], .bool tp]) w') := ⟨fun w' hw' => by rw [look2 hw', r1, e1, r3]⟩
  have HLn : Aside0 (∀ w', MapAt w' gm M → (Instr.lookup 75 (.map (some gm)) (.string n) true).run Try.prog w' = .ok (.tuple #[.agg #[.string pn, .slice An mn cn], .bool tn]) w') := ⟨fun w' hw' => by rw [look2 hw', q1, f1, q3]⟩
  have HLen : Aside0 (∀ w', MapAt w' gm M → (Builtin.len_ #[75] 3 #[.map (some gm)]).run Try.prog w' = .ok (.int .i64 L.length) w') := ⟨fun w' hw' => by rw [← r4]; exact run_len hw'⟩
  clear h1 hm hrd r1 r3 r4 q1 q3 e1 e2 e3 f1 f2 f3 hpp hpn hm0 hm1
  obtain ⟨A0, c0, rfl, z2, z3⟩ := id hv
  clear z2 z3
  have HOwn := Aside0.mk hv
  clear hv
  have HSet : Aside0 (∀ w', Sl w' (.slice A0 l.length c0) l → Calls Try.prog 42 #[.slice A0 l.length c0] w' fun x w'' => x = .returned (.int .i64 0) ∧ Below w'.heap.size w' w'') := ⟨fun w' h => settings_calls ks _ l _ w' h he⟩
  have HAb : Aside0 (∀ w', Sheet w' gs gm L → Calls Try.prog 43 #[.pointer (some ⟨gs, 0, none⟩), .string n, .string p] w' fun x w'' => x = .returned (.bool true) ∧ w'' = w') := ⟨fun w' h => above_callsL gs gm L k n p true w' h hab⟩
  clear hab he
  have HN : Aside0 (∀ w', Calls Try.prog 41 #[.string n] w' fun x w'' => x = .returned (.bool true) ∧ Below w'.heap.size w' w'') := ⟨fun w' => name_calls kn n true w' hn⟩
  clear hn
  rw [hf] at htp
  subst htp
  clear hf
  have c1 := list_ne hp
  go_enter Try.func23, Try.ntmps23
  go_upto_region 6 with (first | (go_at_call 40; refine (none_calls gs gm _ H1.out).mono ?_; rintro x w7 ⟨rfl, hw⟩; rw [hw]; clear hw) | (go_at_call 41; refine (HN.out _).mono ?_; rintro x w8 ⟨rfl, hb⟩; have HB := Aside0.mk hb; have e0 := (blk_cell (blk_below H1.out hb) 0).trans rfl; have hlk := HLp.out w8 (HM.out.below hb); clear hb))
  have HB2 : Aside0 (Below w.heap.size w (w8.alloc (.cells #[.string pp, .slice A m c] 85))) := ⟨below_alloc HB.out _⟩
  clear HB e0 hlk
  have HB := HB2
  clear HB2
  generalize w8.alloc (.cells #[.string pp, .slice A m c] 85) = w9 at HB ⊢
  generalize w8.heap.size = g9
  go_wp2_with (first | (go_at_call 42; refine (HSet.out _ (HOwn.out.below HB.out)).mono ?_; rintro x w10 ⟨rfl, hb⟩; have HBn := Aside0.mk (below_step HB.out hb); clear HB hb; have HB := HBn; clear HBn) | (go_at_call 43; refine (HAb.out _ (HS.out.below HB.out)).mono ?_; rintro x w11 ⟨rfl, hw⟩; rw [hw]; clear hw; have e0 := (blk_cell (blk_below H1.out HB.out) 0).trans rfl; have hlk := HLn.out _ (HM.out.below HB.out)))
  go_ret
  exact ⟨rfl, HB.out⟩
set_option maxHeartbeats 4000000 in
set_option maxRecDepth 100000 in
theorem define_full0 (gs gm : Nat) (L : List Sty) (n p : ByteArray) (v : Value) (l : List S37) (w : World) (hs : Sheet w gs gm L) (hv : Sl w v l) (kn : Nat) (hn : PStyleNearest.style_name.f kn n = some true) (ks k : Nat) (he : PStyleNearest.style_settings.f ks l = some 0) (hab : aboveG (upL L) n k p = some false) (ht : fnd L n = none) (hlen : 32 ≤ L.length) (hp : p = ⟨#[]⟩) :
    Calls Try.prog 23 #[.pointer (some ⟨gs, 0, none⟩), .string n, .string p, v] w fun x w' => x = .returned (.int .i64 8) ∧ Below w.heap.size w w' := by
  have hu := Try.underlying77
  have hu5 := Try.underlying75
  have hu8 := Try.underlying85
  have hu37 := Try.underlying37
  have HS := Aside0.mk hs
  obtain ⟨h1, M, hm, hrd⟩ := hs
  obtain ⟨r1, r2, r3, r4⟩ := reads_all p hrd
  obtain ⟨q1, q2, q3, _⟩ := reads_all n hrd
  obtain ⟨A, c, e1, e2, e3⟩ := r2
  generalize hm0 : (setsL L p).length = m at e1 e2 e3
  obtain ⟨An, cn, f1, f2, f3⟩ := q2
  generalize hm1 : (setsL L n).length = mn at f1 f2 f3
  obtain ⟨pp, hpp⟩ : ∃ pp, pp = upL L p := ⟨_, rfl⟩
  obtain ⟨pn, hpn⟩ : ∃ pn, pn = upL L n := ⟨_, rfl⟩
  rw [← hpp] at r1
  rw [← hpn] at q1
  have HM := Aside0.mk hm
  have H1 := Aside0.mk h1
  have HRd := Aside0.mk hrd
  obtain ⟨tp, htp⟩ : ∃ tp, tp = (fnd L p).isSome := ⟨_, rfl⟩
  obtain ⟨tn, htn⟩ : ∃ tn, tn = (fnd L n).isSome := ⟨_, rfl⟩
  rw [← htp] at r3
  rw [← htn] at q3
  have HLp : Aside0 (∀ w', MapAt w' gm M → (Instr.lookup 75 (.map (some gm)) (.string p) true).run Try.prog w' = .ok (.tuple #[.agg #[.string pp, .slice A m c], .bool tp]) w') := ⟨fun w' hw' => by rw [look2 hw', r1, e1, r3]⟩
  have HLn : Aside0 (∀ w', MapAt w' gm M → (Instr.lookup 75 (.map (some gm)) (.string n) true).run Try.prog w' = .ok (.tuple #[.agg #[.string pn, .slice An mn cn], .bool tn]) w') := ⟨fun w' hw' => by rw [look2 hw', q1, f1, q3]⟩
  have HLen : Aside0 (∀ w', MapAt w' gm M → (Builtin.len_ #[75] 3 #[.map (some gm)]).run Try.prog w' = .ok (.int .i64 L.length) w') := ⟨fun w' hw' => by rw [← r4]; exact run_len hw'⟩
  clear h1 hm hrd r1 r3 r4 q1 q3 e1 e2 e3 f1 f2 f3 hpp hpn hm0 hm1
  obtain ⟨A0, c0, rfl, z2, z3⟩ := id hv
  clear z2 z3
  have HOwn := Aside0.mk hv
  clear hv
  have HSet : Aside0 (∀ w', Sl w' (.slice A0 l.length c0) l → Calls Try.prog 42 #[.slice A0 l.length c0] w' fun x w'' => x = .returned (.int .i64 0) ∧ Below w'.heap.size w' w'') := ⟨fun w' h => settings_calls ks _ l _ w' h he⟩
  have HAb : Aside0 (∀ w', Sheet w' gs gm L → Calls Try.prog 43 #[.pointer (some ⟨gs, 0, none⟩), .string n, .string p] w' fun x w'' => x = .returned (.bool false) ∧ w'' = w') := ⟨fun w' h => above_callsL gs gm L k n p false w' h hab⟩
  clear hab he
  rw [ht] at htn
  simp only [Option.isSome_none] at htn
  subst htn
  clear ht
  have cl : decide ((32 : Int) ≤ (L.length : Int)) = true := decide_eq_true (by omega)
  have cl2 : decide (32 ≤ L.length) = true := decide_eq_true hlen
  clear hlen
  have HN : Aside0 (∀ w', Calls Try.prog 41 #[.string n] w' fun x w'' => x = .returned (.bool true) ∧ Below w'.heap.size w' w'') := ⟨fun w' => name_calls kn n true w' hn⟩
  clear hn
  clear htp
  subst hp
  go_enter Try.func23, Try.ntmps23
  go_upto_region 6 with (first | (go_at_call 40; refine (none_calls gs gm _ H1.out).mono ?_; rintro x w7 ⟨rfl, hw⟩; rw [hw]; clear hw) | (go_at_call 41; refine (HN.out _).mono ?_; rintro x w8 ⟨rfl, hb⟩; have HB := Aside0.mk hb; have e0 := (blk_cell (blk_below H1.out hb) 0).trans rfl; have hlk := HLp.out w8 (HM.out.below hb); clear hb))
  have HB2 : Aside0 (Below w.heap.size w (w8.alloc (.cells #[.string pp, .slice A m c] 85))) := ⟨below_alloc HB.out _⟩
  clear HB e0 hlk
  have HB := HB2
  clear HB2
  generalize w8.alloc (.cells #[.string pp, .slice A m c] 85) = w9 at HB ⊢
  generalize w8.heap.size = g9
  go_upto_region 14 with (first | (go_at_call 42; refine (HSet.out _ (HOwn.out.below HB.out)).mono ?_; rintro x w10 ⟨rfl, hb⟩; have HBn := Aside0.mk (below_step HB.out hb); clear HB hb; have HB := HBn; clear HBn) | (go_at_call 43; refine (HAb.out _ (HS.out.below HB.out)).mono ?_; rintro x w11 ⟨rfl, hw⟩; rw [hw]; clear hw; have e0 := (blk_cell (blk_below H1.out HB.out) 0).trans rfl; have hlk := HLn.out _ (HM.out.below HB.out)))
  have HB2 : Aside0 (Below w.heap.size w (w10.alloc (.cells #[.string pn, .slice An mn cn] 85))) := ⟨below_alloc HB.out _⟩
  clear HB e0 hlk
  have HB := HB2
  clear HB2
  generalize w10.alloc (.cells #[.string pn, .slice An mn cn] 85) = w12 at HB ⊢
  generalize w10.heap.size = g12
  have e0 := (blk_cell (blk_below H1.out HB.out) 0).trans rfl
  have hle := HLen.out _ (HM.out.below HB.out)
  go_wp2
  go_ret
  exact ⟨rfl, HB.out⟩
set_option maxHeartbeats 4000000 in
set_option maxRecDepth 100000 in
theorem define_full1 (gs gm : Nat) (L : List Sty) (n p : ByteArray) (v : Value) (l : List S37) (w : World) (hs : Sheet w gs gm L) (hv : Sl w v l) (kn : Nat) (hn : PStyleNearest.style_name.f kn n = some true) (ks k : Nat) (he : PStyleNearest.style_settings.f ks l = some 0) (hab : aboveG (upL L) n k p = some false) (ht : fnd L n = none) (hlen : 32 ≤ L.length) (hp : p ≠ ⟨#[]⟩) (hf : (fnd L p).isSome = true) :
    Calls Try.prog 23 #[.pointer (some ⟨gs, 0, none⟩), .string n, .string p, v] w fun x w' => x = .returned (.int .i64 8) ∧ Below w.heap.size w w' := by
  have hu := Try.underlying77
  have hu5 := Try.underlying75
  have hu8 := Try.underlying85
  have hu37 := Try.underlying37
  have HS := Aside0.mk hs
  obtain ⟨h1, M, hm, hrd⟩ := hs
  obtain ⟨r1, r2, r3, r4⟩ := reads_all p hrd
  obtain ⟨q1, q2, q3, _⟩ := reads_all n hrd
  obtain ⟨A, c, e1, e2, e3⟩ := r2
  generalize hm0 : (setsL L p).length = m at e1 e2 e3
  obtain ⟨An, cn, f1, f2, f3⟩ := q2
  generalize hm1 : (setsL L n).length = mn at f1 f2 f3
  obtain ⟨pp, hpp⟩ : ∃ pp, pp = upL L p := ⟨_, rfl⟩
  obtain ⟨pn, hpn⟩ : ∃ pn, pn = upL L n := ⟨_, rfl⟩
  rw [← hpp] at r1
  rw [← hpn] at q1
  have HM := Aside0.mk hm
  have H1 := Aside0.mk h1
  have HRd := Aside0.mk hrd
  obtain ⟨tp, htp⟩ : ∃ tp, tp = (fnd L p).isSome := ⟨_, rfl⟩
  obtain ⟨tn, htn⟩ : ∃ tn, tn = (fnd L n).isSome := ⟨_, rfl⟩
  rw [← htp] at r3
  rw [← htn] at q3
  have HLp : Aside0 (∀ w', MapAt w' gm M → (Instr.lookup 75 (.map (some gm)) (.string p) true).run Try.prog w' = .ok (.tuple #[.agg #[.string pp, .slice A m c], .bool tp]) w') := ⟨fun w' hw' => by rw [look2 hw', r1, e1, r3]⟩
  have HLn : Aside0 (∀ w', MapAt w' gm M → (Instr.lookup 75 (.map (some gm)) (.string n) true).run Try.prog w' = .ok (.tuple #[.agg #[.string pn, .slice An mn cn], .bool tn]) w') := ⟨fun w' hw' => by rw [look2 hw', q1, f1, q3]⟩
  have HLen : Aside0 (∀ w', MapAt w' gm M → (Builtin.len_ #[75] 3 #[.map (some gm)]).run Try.prog w' = .ok (.int .i64 L.length) w') := ⟨fun w' hw' => by rw [← r4]; exact run_len hw'⟩
  clear h1 hm hrd r1 r3 r4 q1 q3 e1 e2 e3 f1 f2 f3 hpp hpn hm0 hm1
  obtain ⟨A0, c0, rfl, z2, z3⟩ := id hv
  clear z2 z3
  have HOwn := Aside0.mk hv
  clear hv
  have HSet : Aside0 (∀ w', Sl w' (.slice A0 l.length c0) l → Calls Try.prog 42 #[.slice A0 l.length c0] w' fun x w'' => x = .returned (.int .i64 0) ∧ Below w'.heap.size w' w'') := ⟨fun w' h => settings_calls ks _ l _ w' h he⟩
  have HAb : Aside0 (∀ w', Sheet w' gs gm L → Calls Try.prog 43 #[.pointer (some ⟨gs, 0, none⟩), .string n, .string p] w' fun x w'' => x = .returned (.bool false) ∧ w'' = w') := ⟨fun w' h => above_callsL gs gm L k n p false w' h hab⟩
  clear hab he
  rw [ht] at htn
  simp only [Option.isSome_none] at htn
  subst htn
  clear ht
  have cl : decide ((32 : Int) ≤ (L.length : Int)) = true := decide_eq_true (by omega)
  have cl2 : decide (32 ≤ L.length) = true := decide_eq_true hlen
  clear hlen
  have HN : Aside0 (∀ w', Calls Try.prog 41 #[.string n] w' fun x w'' => x = .returned (.bool true) ∧ Below w'.heap.size w' w'') := ⟨fun w' => name_calls kn n true w' hn⟩
  clear hn
  rw [hf] at htp
  subst htp
  clear hf
  have c1 := list_ne hp
  go_enter Try.func23, Try.ntmps23
  go_upto_region 6 with (first | (go_at_call 40; refine (none_calls gs gm _ H1.out).mono ?_; rintro x w7 ⟨rfl, hw⟩; rw [hw]; clear hw) | (go_at_call 41; refine (HN.out _).mono ?_; rintro x w8 ⟨rfl, hb⟩; have HB := Aside0.mk hb; have e0 := (blk_cell (blk_below H1.out hb) 0).trans rfl; have hlk := HLp.out w8 (HM.out.below hb); clear hb))
  have HB2 : Aside0 (Below w.heap.size w (w8.alloc (.cells #[.string pp, .slice A m c] 85))) := ⟨below_alloc HB.out _⟩
  clear HB e0 hlk
  have HB := HB2
  clear HB2
  generalize w8.alloc (.cells #[.string pp, .slice A m c] 85) = w9 at HB ⊢
  generalize w8.heap.size = g9
  go_upto_region 14 with (first | (go_at_call 42; refine (HSet.out _ (HOwn.out.below HB.out)).mono ?_; rintro x w10 ⟨rfl, hb⟩; have HBn := Aside0.mk (below_step HB.out hb); clear HB hb; have HB := HBn; clear HBn) | (go_at_call 43; refine (HAb.out _ (HS.out.below HB.out)).mono ?_; rintro x w11 ⟨rfl, hw⟩; rw [hw]; clear hw; have e0 := (blk_cell (blk_below H1.out HB.out) 0).trans rfl; have hlk := HLn.out _ (HM.out.below HB.out)))
  have HB2 : Aside0 (Below w.heap.size w (w10.alloc (.cells #[.string pn, .slice An mn cn] 85))) := ⟨below_alloc HB.out _⟩
  clear HB e0 hlk
  have HB := HB2
  clear HB2
  generalize w10.alloc (.cells #[.string pn, .slice An mn cn] 85) = w12 at HB ⊢
  generalize w10.heap.size = g12
  have e0 := (blk_cell (blk_below H1.out HB.out) 0).trans rfl
  have hle := HLen.out _ (HM.out.below HB.out)
  go_wp2
  go_ret
  exact ⟨rfl, HB.out⟩
end Go.Proofs.Ytpcpjlbfhbicaaa.Sh
end
