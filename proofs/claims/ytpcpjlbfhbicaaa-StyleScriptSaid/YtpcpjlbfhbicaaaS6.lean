/- Own walks for the law, joined from several texts: what the law reaches, and no more (joined by keeplive.py). -/
import Derived.Test.YtpcpjlbfhbicaaaS5
section
set_option linter.unusedVariables false
set_option linter.unusedSimpArgs false
namespace Go.Proofs.Ytpcpjlbfhbicaaa.Sh
open Go Go.RowKit Go.Proofs.YtpcpjlbfhbicaaaW.PrintWords Go.Proofs.YtpcpjlbfhbicaaaW.PrintLast Go.Proofs.YtpcpjlbfhbicaaaW.PrintMore Go.Proofs.Ytpcpjlbfhbicaaa.PStyleProps
open Go.Proofs.Ytpcpjlbfhbicaaa.PStyleNearest (S37 k37 z37 rd_T37 at_T37 k37_open k37_openM k37_mk k37_mkM info37)
theorem AtIs.ex (W : List Sty) (n : ByteArray) : ∃ i, AtIs W n i := by
  cases hf : fnd W n with
  | none => exact ⟨-1, .inl ⟨rfl, hf⟩⟩
  | some s =>
    have h := hf
    unfold fnd at h
    rw [List.find?_eq_some_iff_getElem] at h
    obtain ⟨h1, i, hi, e, h2⟩ := h
    refine ⟨(i : Int), .inr ⟨by omega, ⟨s, by rw [Int.toNat_natCast, List.getElem?_eq_getElem hi, e], (ba_eq h1).symm, hf⟩, fun j hj t ht => ?_⟩⟩
    rw [Int.toNat_natCast] at hj
    obtain ⟨hj2, e2⟩ := List.getElem?_eq_some_iff.1 ht
    have := h2 j hj
    rw [e2] at this
    intro e3
    rw [e3, ba_refl] at this; cases this
theorem AtIs.one {W : List Sty} {n : ByteArray} {i j : Int} (hi : AtIs W n i) (hj : AtIs W n j) : i = j := by
  rcases hi with ⟨rfl, h1⟩ | ⟨h0, ⟨s, h1, h2, h3⟩, h4⟩
  · rcases hj with ⟨rfl, _⟩ | ⟨_, ⟨t, _, _, h5⟩, _⟩
    · rfl
    · rw [h1] at h5; cases h5
  · rcases hj with ⟨rfl, h5⟩ | ⟨g0, ⟨t, g1, g2, g3⟩, g4⟩
    · rw [h3] at h5; cases h5
    · rcases Nat.lt_or_ge i.toNat j.toNat with c | c
      · exact absurd h2 (g4 _ c s h1)
      · rcases Nat.lt_or_ge j.toNat i.toNat with c2 | c2
        · exact absurd g2 (h4 _ c2 t g1)
        · omega
theorem at_fix (p : Nat) (W : List Sty) (n : ByteArray) (i : Int) (w : World) (hs : RSheet w p W) (hl : W.length ≤ 1000) (hi : AtIs W n i) :
    Calls Try.prog 51 #[.pointer (some ⟨p, 0, none⟩), .string n] w fun e w' => e = .returned (.int .i64 i) ∧ w' = w := by
  refine (at_calls p W n w hs hl).mono ?_
  rintro e w' ⟨⟨j, rfl, hj⟩, rfl⟩
  exact ⟨by rw [hi.one hj], rfl⟩
/-- What the reference's sheet keeps. -/
structure RI (W : List Sty) : Prop where
  fits : Fits W
  short : ∀ s ∈ W, s.2.2.length ≤ 64
  par : ∀ s ∈ W, s.2.1 = ⟨#[]⟩ ∨ (fnd W s.2.1).isSome = true
  len : W.length ≤ 32
theorem st_one (a b : ByteArray) (A : Option Addr) (m c : Nat) : (#[Value.string a, Value.string b, Value.slice A m c].all fun x => x.oneCell') = true := by simp [Value.oneCell']
theorem info99s : (Try.prog.info? 99).map (·.size) = some 3 := by kernel_rfl
set_option maxHeartbeats 8000000 in
set_option maxRecDepth 100000 in
theorem rstyle_calls (p : Nat) (W : List Sty) (hI : RI W) : ∀ (k : Nat) (n : ByteArray) (f : Int → Int) (w : World), RSheet w p W → makesF W k n = some f → (n = ⟨#[]⟩ ∨ (fnd W n).isSome = true) →
    Calls Try.prog 61 #[.pointer (some ⟨p, 0, none⟩), .string n] w fun e w' => e = .returned (.agg (row f)) ∧ Below w.heap.size w w'
  | 0, n, f, w, hs, h, _ => by cases h
  | k + 1, n, f, w, hs, h, hin => by
    have hu23 := Try.underlying23
    have hu71 := Try.underlying71
    have hu69 := Try.underlying69
    have hu99 := Try.underlying99
    simp only [makesF] at h
    by_cases c1 : n = ⟨#[]⟩
    · rw [if_pos c1] at h
      obtain rfl := Option.some.inj h
      subst c1
      have HS2 : Aside0 ((row base).size = 17) := ⟨rfl⟩
      have HO2 : Aside0 ((row base).all (·.oneCell') = true) := ⟨row_all _⟩
      have HG : Aside0 (∀ w, Calls Try.prog 15 #[] w fun e w' => e = .returned (.agg (row base)) ∧ Below w.heap.size w w') := ⟨rbase_calls⟩
      clear hs hin
      generalize row base = Rr at HS2 HO2 HG ⊢
      go_enter Try.func61, Try.ntmps61
      go_wp2_with (first | ((with_reducible refine gate_dst (N := 4) rfl ?_); refine box_event ?hg (N := 4) ?hd (cs := #[.int .i64 0, .int .i64 0, .int .i64 0, .int .i64 0, .int .i64 0, .int .i64 0, .int .i64 0, .int .i64 0, .int .i64 0, .int .i64 0, .int .i64 0, .int .i64 0, .int .i64 0, .int .i64 0, .int .i64 0, .int .i64 0, .int .i64 0]) (t := 23) ?hr ?_; (case hd => rfl); (case hg => rfl); (case hr => first | (go_simp; done) | (go_simp; rfl)); intro g4 hg w4 hbox hb; have HB := Aside0.mk hb; have BK4 := Aside0.mk hbox; have GE4 : Aside0 (w.heap.size ≤ g4) := ⟨by rw [hg]; exact Nat.le_refl _⟩; clear hb hbox hg) | (go_at_call 15; refine (HG.out _).mono ?_; rintro x wz ⟨rfl, hb⟩; have HBn := Aside0.mk (below_step HB.out hb); have BKn := Aside0.mk (blk_below BK4.out hb); clear HB BK4 hb; have HB := HBn; have BK4 := BKn; clear HBn BKn) | ((with_reducible refine gate_store (t := 23) (p := 4) rfl ?_); refine wpList_store_row rfl 23 (.tmp 4) (.tmp 8) rfl g4 Rr rfl rfl 23 #[.int .i64 0, .int .i64 0, .int .i64 0, .int .i64 0, .int .i64 0, .int .i64 0, .int .i64 0, .int .i64 0, .int .i64 0, .int .i64 0, .int .i64 0, .int .i64 0, .int .i64 0, .int .i64 0, .int .i64 0, .int .i64 0, .int .i64 0] BK4.out (by rw [HS2.out]; exact info23) (by rw [HS2.out]; rfl) HO2.out ?_; have HB9 := Aside0.mk (below_setRow HB.out GE4.out Rr); have BK9 := Aside0.mk (setRow_heap _ g4 _ Rr 23 (0, 0) BK4.out); clear HB BK4; generalize World.setRow _ g4 Rr = w9 at HB9 BK9 ⊢))
      refine bodyPost_ret (results_cell_row rfl _ _ g4 23 Rr (0, 0) _ rfl BK9.out Try.underlying23 rfl (by rw [HS2.out]; exact info23)) rfl ?_
      exact ⟨rfl, HB9.out⟩
    · rw [if_neg c1] at h
      have c1' := list_ne c1
      have c1'' := ba_ne c1
      obtain ⟨f1, hf1, h⟩ := Option.map_eq_some_iff.1 h
      obtain ⟨i, hi⟩ := AtIs.ex W n
      have hsome : (fnd W n).isSome = true := by rcases hin with e | e; exact absurd e c1; exact e
      obtain ⟨i0, s, hs1, hs2, hs3⟩ : 0 ≤ i ∧ ∃ s, W[i.toNat]? = some s ∧ s.1 = n ∧ fnd W n = some s := by
        rcases hi with ⟨_, h1⟩ | ⟨h0, h1, _⟩
        · rw [h1] at hsome; cases hsome
        · exact ⟨h0, h1⟩
      have hup : upL W n = s.2.1 := by unfold upL; rw [hs3]; rfl
      have hse : setsL W n = s.2.2 := by unfold setsL; rw [hs3]; rfl
      have hmem : s ∈ W := List.mem_of_getElem? hs1
      rw [hup] at hf1
      rw [hse] at h
      have HS : Aside0 (RSheet w p W) := ⟨hs⟩
      obtain ⟨A, c, M, h1, hc, hC, hrd⟩ := id hs
      obtain ⟨m, hm⟩ : ∃ m, M[i.toNat]? = some m := ⟨_, List.getElem?_eq_getElem (by have := (List.getElem?_eq_some_iff.1 hs1).1; have := reads_len hrd; omega)⟩
      obtain ⟨ad, ea, ha, hb, hcc⟩ := at_St hC i.toNat m hm rfl
      obtain ⟨s', hs', g1, g2, g3⟩ := reads_get hrd hm
      obtain rfl : s = s' := by rw [hs1] at hs'; exact Option.some.inj hs'
      obtain ⟨nl, hnl⟩ : ∃ nl, Aside0 (nl = M.length) := ⟨_, ⟨rfl⟩⟩
      rw [← hnl.out] at h1
      have hlt : i < (nl : Int) := by have := (List.getElem?_eq_some_iff.1 hm).1; have := hnl.out; omega
      subst ea
      obtain ⟨a, ha'⟩ : ∃ a, a = m.1 := ⟨_, rfl⟩
      obtain ⟨b, hb'⟩ : ∃ b, b = m.2.1 := ⟨_, rfl⟩
      obtain ⟨A2, c2, e2, e3, e4⟩ := id g3
      rw [← ha'] at ha
      rw [← hb'] at hb g2
      rw [e2] at hcc g3
      have hfit := hI.fits s hmem
      have IH : Aside0 (∀ w', RSheet w' p W → Calls Try.prog 61 #[.pointer (some ⟨p, 0, none⟩), .string b] w' fun e w'' => e = .returned (.agg (row f1)) ∧ Below w'.heap.size w' w'') := ⟨fun w' hw' => by rw [← g2]; exact rstyle_calls p W hI k _ f1 w' hw' hf1 (hI.par s hmem)⟩
      have HMk : Aside0 (∀ w', Sl w' (.slice A2 s.2.2.length c2) s.2.2 → Calls Try.prog 60 #[.agg (row f1), .slice A2 s.2.2.length c2] w' fun e w'' => e = .returned (.agg (row f)) ∧ Below w'.heap.size w' w'') := ⟨fun w' hw' => by rw [← h]; exact rmakes_calls f1 _ _ w' hw' hfit (hI.short s hmem)⟩
      have HAt : Aside0 (∀ w', RSheet w' p W → Calls Try.prog 51 #[.pointer (some ⟨p, 0, none⟩), .string n] w' fun e w'' => e = .returned (.int .i64 i) ∧ w'' = w') := ⟨fun w' hw' => at_fix p W n i w' hw' (Nat.le_trans hI.len (by decide)) hi⟩
      have HSl := Aside0.mk g3
      have H1 := Aside0.mk h1
      have HX0 := Aside0.mk ha
      have HX1 := Aside0.mk hb
      have HX2 := Aside0.mk hcc
      have HS2 : Aside0 ((row f).size = 17) := ⟨rfl⟩
      have HO2 : Aside0 ((row f).all (·.oneCell') = true) := ⟨row_all _⟩
      generalize s.2.2.length = ml at HMk HSl HX2 e2 e3 e4
      generalize s.2.2 = ls at HMk HSl
      have p108 := eq_true i0
      have q108 := eq_true hlt
      clear hs h1 hc hC hrd hm ha hb hcc g1 g2 g3 e2 e3 e4 hf1 h hup hse hs1 hs2 hs3 hmem hfit hi hsome hin ha' hb' hnl i0 hlt hs'
      generalize row f = Rr at HS2 HO2 HMk ⊢
      generalize row f1 = Rf at IH HMk
      go_enter Try.func61, Try.ntmps61
      go_upto_region 3 with (first | ((with_reducible refine gate_dst (N := 4) rfl ?_); refine box_event ?hg (N := 4) ?hd (cs := #[.int .i64 0, .int .i64 0, .int .i64 0, .int .i64 0, .int .i64 0, .int .i64 0, .int .i64 0, .int .i64 0, .int .i64 0, .int .i64 0, .int .i64 0, .int .i64 0, .int .i64 0, .int .i64 0, .int .i64 0, .int .i64 0, .int .i64 0]) (t := 23) ?hr ?_; (case hd => rfl); (case hg => rfl); (case hr => first | (go_simp; done) | (go_simp; rfl)); intro g4 hg w4 hbox hb; have HB := Aside0.mk hb; have BK4 := Aside0.mk hbox; have GE4 : Aside0 (w.heap.size ≤ g4) := ⟨by rw [hg]; exact Nat.le_refl _⟩; clear hb hbox hg))
      refine start_ (n := 11) (S := fun w' => w'.cell? ⟨p, 0, none⟩ = some (.slice (some ad) nl c) ∧ w'.cell? (ad.add (i.toNat * 3)) = some (.string a) ∧ w'.cell? ⟨(ad.add (i.toNat * 3)).block, (ad.add (i.toNat * 3)).off + 1, none⟩ = some (.string b) ∧ w'.cell? ⟨(ad.add (i.toNat * 3)).block, (ad.add (i.toNat * 3)).off + 2, none⟩ = some (.slice A2 ml c2) ∧ Below w.heap.size w w' ∧ w'.heap[g4]? = some (.cells #[.int .i64 0, .int .i64 0, .int .i64 0, .int .i64 0, .int .i64 0, .int .i64 0, .int .i64 0, .int .i64 0, .int .i64 0, .int .i64 0, .int .i64 0, .int .i64 0, .int .i64 0, .int .i64 0, .int .i64 0, .int .i64 0, .int .i64 0] 23 (0, 0)) ∧ RSheet w' p W) (ds := [10]) #[false, false, false, false, false, false, false, false, false, false, false] (by kernel_rfl) rfl rfl ⟨(blk_cell (blk_below H1.out (below_drew1 HB.out)) 0).trans rfl, ((below_drew1 HB.out).cell (World.block_lt_of_cell? w _ HX0.out)).trans HX0.out, ((below_drew1 HB.out).cell (World.block_lt_of_cell? w _ HX1.out)).trans HX1.out, ((below_drew1 HB.out).cell (World.block_lt_of_cell? w _ HX2.out)).trans HX2.out, (below_drew1 HB.out), (blk_below BK4.out (below_drew1 (Below.refl _ _))), HS.out.below (below_drew1 HB.out)⟩ (fun hHeld => ?_)
      refine pure_ (i := 0) (N := some 9) (v := ?_) (a' := ?_) #[true, false, false, false, false, false, false, false, false, false, false] rfl rfl (by kernel_rfl) (fun _ _ _ h => h) (Or.inl ⟨by rfl, ?_⟩) ?_ ?_
      rotate_left
      · intro w'
        go_simp
        with_reducible rfl
      rotate_left
      · simp only [Act.put, List.setIfInBounds_toArray, List.set_cons_zero, List.set_cons_succ, i64_w, i32_w]
        rfl
      refine pure_ (i := 1) (N := some 10) (v := ?_) (a' := ?_) #[true, true, false, false, false, false, false, false, false, false, false] rfl rfl (by kernel_rfl) (fun _ _ _ h => h) (Or.inl ⟨by rfl, ?_⟩) ?_ ?_
      rotate_left
      · intro w'
        go_simp
        with_reducible rfl
      rotate_left
      · simp only [Act.put, List.setIfInBounds_toArray, List.set_cons_zero, List.set_cons_succ, i64_w, i32_w]
        rfl
      refine pure_ (i := 2) (N := some 11) (v := ?_) (a' := ?_) #[true, true, true, false, false, false, false, false, false, false, false] rfl rfl (by kernel_rfl) (fun _ _ _ h => h) (Or.inl ⟨by rfl, ?_⟩) ?_ ?_
      rotate_left
      · intro w'
        go_simp
        with_reducible rfl
      rotate_left
      · simp only [Act.put, List.setIfInBounds_toArray, List.set_cons_zero, List.set_cons_succ, i64_w, i32_w]
        rfl
      refine take_ (i := 3) (N := some 12) (v := ?_) (a' := ?_) #[true, true, true, true, false, false, false, false, false, false, false] rfl rfl (by kernel_rfl) (fun _ _ _ h => h) (Or.inl ⟨by rfl, ?_⟩) hHeld ?_ ?_
      rotate_left
      · rintro w' ⟨s0, s1, s2, s3, s4, s5, s6⟩
        go_simp
        with_reducible rfl
      rotate_left
      · simp only [Act.put, List.setIfInBounds_toArray, List.set_cons_zero, List.set_cons_succ, i64_w, i32_w]
        rfl
      refine pure_ (i := 4) (N := some 13) (v := ?_) (a' := ?_) #[true, true, true, true, true, false, false, false, false, false, false] rfl rfl (by kernel_rfl) (fun _ _ _ h => h) (Or.inl ⟨by rfl, ?_⟩) ?_ ?_
      rotate_left
      · intro w'
        go_simp
        with_reducible rfl
      rotate_left
      · simp only [Act.put, List.setIfInBounds_toArray, List.set_cons_zero, List.set_cons_succ, i64_w, i32_w]
        rfl
      refine pure_ (i := 5) (N := some 14) (v := ?_) (a' := ?_) #[true, true, true, true, true, true, false, false, false, false, false] rfl rfl (by kernel_rfl) (fun _ _ _ h => h) (Or.inl ⟨by rfl, ?_⟩) ?_ ?_
      rotate_left
      · intro w'
        go_simp
        with_reducible rfl
      rotate_left
      · simp only [Act.put, List.setIfInBounds_toArray, List.set_cons_zero, List.set_cons_succ, i64_w, i32_w]
        rfl
      refine two_ (i := 6) (j := 9) (Ni := some 15) (Nj := some 5) #[true, true, true, true, true, true, true, false, false, false, false] #[true, true, true, true, true, true, false, false, false, true, false] rfl rfl rfl rfl (by kernel_rfl) (by decide) (by decide) (fun K hK => ?_) (fun K hK => ?_)
      · refine goes_ Try.func51 (by kernel_rfl) rfl #[.pointer (some ⟨p, 0, none⟩), .string n] (by rfl) rfl rfl (by (simp only [List.map_toArray, List.map_cons, List.map_nil]); first | done | rfl) ?_
        with_reducible refine (HAt.out _ hHeld.2.2.2.2.2.2).mono ?_
        rintro x wz ⟨rfl, hwz⟩
        rw [hwz]
        clear hwz
        refine ⟨_, rfl, ?_⟩
        refine hK.out _ _ hHeld (fun hHeld => ?_)
        clear hK K
        refine norm_ (a' := ?_) ?_ ?_
        rotate_left
        · show Act.put _ (some 15) _ = _
          simp only [Act.put, List.setIfInBounds_toArray, List.set_cons_zero, List.set_cons_succ, i64_w, i32_w]
          rfl
        refine pure_ (i := 7) (N := some 16) (v := ?_) (a' := ?_) #[true, true, true, true, true, true, true, true, false, false, false] rfl rfl (by kernel_rfl) (fun _ _ _ h => h) (Or.inl ⟨by rfl, ?_⟩) ?_ ?_
        rotate_left
        · intro w'
          go_simp
          with_reducible rfl
        rotate_left
        · simp only [Act.put, List.setIfInBounds_toArray, List.set_cons_zero, List.set_cons_succ, i64_w, i32_w]
          rfl
        refine take_ (i := 8) (N := some 17) (v := ?_) (a' := ?_) #[true, true, true, true, true, true, true, true, true, false, false] rfl rfl (by kernel_rfl) (fun _ _ _ h => h) (Or.inl ⟨by rfl, ?_⟩) hHeld ?_ ?_
        rotate_left
        · rintro w' ⟨s0, s1, s2, s3, s4, s5, s6⟩
          go_simp
          with_reducible rfl
        rotate_left
        · simp only [Act.put, List.setIfInBounds_toArray, List.set_cons_zero, List.set_cons_succ, i64_w, i32_w]
          rfl
        refine one_ (i := 9) (N := some 5) #[true, true, true, true, true, true, true, true, true, true, false] rfl rfl (by kernel_rfl) (by decide) (fun K hK => ?_)
        refine value_ (by rfl) rfl (v := .pointer (some ⟨w4.drew.heap.size, 0, none⟩)) (w1 := w4.drew.alloc (.cells #[.string ⟨#[]⟩, .string ⟨#[]⟩, .slice none 0 0] 99)) (by first | (go_simp; done) | (go_simp; rfl) | (go_simp; exact ⟨rfl, rfl⟩)) ?_
        refine hK.out _ _ ⟨(blk_cell (blk_below H1.out (below_alloc hHeld.2.2.2.2.1 _)) 0).trans rfl, ((below_alloc hHeld.2.2.2.2.1 _).cell (World.block_lt_of_cell? w _ HX0.out)).trans HX0.out, ((below_alloc hHeld.2.2.2.2.1 _).cell (World.block_lt_of_cell? w _ HX1.out)).trans HX1.out, ((below_alloc hHeld.2.2.2.2.1 _).cell (World.block_lt_of_cell? w _ HX2.out)).trans HX2.out, (below_alloc hHeld.2.2.2.2.1 _), (blk_below hHeld.2.2.2.2.2.1 (below_alloc (Below.refl _ _) _)), HS.out.below (below_alloc hHeld.2.2.2.2.1 _)⟩ (fun hHeld => ?_)
        clear hK K
        refine norm_ (a' := ?_) ?_ ?_
        rotate_left
        · show Act.put _ (some 5) _ = _
          simp only [Act.put, List.setIfInBounds_toArray, List.set_cons_zero, List.set_cons_succ, i64_w, i32_w]
          rfl
        refine last_ (i := 10) (N := none) #[true, true, true, true, true, true, true, true, true, true, true] rfl rfl (by kernel_rfl) (by decide) (fun K hK => ?_)
        refine row_ (by rfl) rfl 99 (.tmp 5) (.tmp 17) rfl w4.drew.heap.size #[.string a, .string b, .slice A2 ml c2] rfl rfl 99 #[.string ⟨#[]⟩, .string ⟨#[]⟩, .slice none 0 0] (blk_new _ _) info99s rfl (st_one _ _ _ _ _) ?_
        have GE5 : Aside0 (w.heap.size ≤ w4.drew.heap.size) := ⟨below_size (below_drew1 HB.out)⟩
        have HB3 := Aside0.mk (below_setRow hHeld.2.2.2.2.1 GE5.out #[.string a, .string b, .slice A2 ml c2])
        have BK5 := Aside0.mk (setRow_heap _ w4.drew.heap.size _ #[.string a, .string b, .slice A2 ml c2] 99 (0, 0) (blk_new w4.drew (.cells #[.string ⟨#[]⟩, .string ⟨#[]⟩, .slice none 0 0] 99)))
        have BK4b := Aside0.mk ((setRow_other _ w4.drew.heap.size g4 #[.string a, .string b, .slice A2 ml c2] (Nat.ne_of_lt (blk_lt (blk_below BK4.out (below_drew1 (Below.refl _ _)))))).trans hHeld.2.2.2.2.2.1)
        refine hK.out _ _ ?_
        clear hK K
        refine done_ (by kernel_rfl) ?_
        clear hHeld HB BK4
        generalize World.setRow _ w4.drew.heap.size _ = w5 at HB3 BK5 BK4b ⊢
        generalize w4.drew.heap.size = g5 at GE5 BK5 ⊢
        go_wp2
        refine start_ (n := 8) (S := fun w' => w'.heap[g5]? = some (.cells #[.string a, .string b, .slice A2 ml c2] 99 (0, 0)) ∧ w'.cell? ⟨g5, 1, none⟩ = some (.string b) ∧ w'.cell? ⟨g5, 2, none⟩ = some (.slice A2 ml c2) ∧ Below w.heap.size w w' ∧ w'.heap[g4]? = some (.cells #[.int .i64 0, .int .i64 0, .int .i64 0, .int .i64 0, .int .i64 0, .int .i64 0, .int .i64 0, .int .i64 0, .int .i64 0, .int .i64 0, .int .i64 0, .int .i64 0, .int .i64 0, .int .i64 0, .int .i64 0, .int .i64 0, .int .i64 0] 23 (0, 0))) (ds := [7]) #[false, false, false, false, false, false, false, false] (by kernel_rfl) rfl rfl ⟨(blk_below BK5.out (below_drew1 (Below.refl _ _))), (blk_cell (blk_below BK5.out (below_drew1 (Below.refl _ _))) 1).trans rfl, (blk_cell (blk_below BK5.out (below_drew1 (Below.refl _ _))) 2).trans rfl, below_drew1 HB3.out, blk_below BK4b.out (below_drew1 (Below.refl _ _))⟩ (fun hHeld => ?_)
        refine pure_ (i := 0) (N := some 18) (v := ?_) (a' := ?_) #[true, false, false, false, false, false, false, false] rfl rfl (by kernel_rfl) (fun _ _ _ h => h) (Or.inl ⟨by rfl, ?_⟩) ?_ ?_
        rotate_left
        · intro w'
          go_simp
          with_reducible rfl
        rotate_left
        · simp only [Act.put, List.setIfInBounds_toArray, List.set_cons_zero, List.set_cons_succ, i64_w, i32_w]
          rfl
        refine pure_ (i := 1) (N := some 19) (v := ?_) (a' := ?_) #[true, true, false, false, false, false, false, false] rfl rfl (by kernel_rfl) (fun _ _ _ h => h) (Or.inl ⟨by rfl, ?_⟩) ?_ ?_
        rotate_left
        · intro w'
          go_simp
          with_reducible rfl
        rotate_left
        · simp only [Act.put, List.setIfInBounds_toArray, List.set_cons_zero, List.set_cons_succ, i64_w, i32_w]
          rfl
        refine pure_ (i := 4) (N := some 22) (v := ?_) (a' := ?_) #[true, true, false, false, true, false, false, false] rfl rfl (by kernel_rfl) (fun _ _ _ h => h) (Or.inl ⟨by rfl, ?_⟩) ?_ ?_
        rotate_left
        · intro w'
          go_simp
          with_reducible rfl
        rotate_left
        · simp only [Act.put, List.setIfInBounds_toArray, List.set_cons_zero, List.set_cons_succ, i64_w, i32_w]
          rfl
        refine take_ (i := 2) (N := some 20) (v := ?_) (a' := ?_) #[true, true, true, false, true, false, false, false] rfl rfl (by kernel_rfl) (fun _ _ _ h => h) (Or.inl ⟨by rfl, ?_⟩) hHeld ?_ ?_
        rotate_left
        · rintro w' ⟨s0, s1, s2, s3, s4⟩
          go_simp
          with_reducible rfl
        rotate_left
        · simp only [Act.put, List.setIfInBounds_toArray, List.set_cons_zero, List.set_cons_succ, i64_w, i32_w]
          rfl
        refine take_ (i := 5) (N := some 23) (v := ?_) (a' := ?_) #[true, true, true, false, true, true, false, false] rfl rfl (by kernel_rfl) (fun _ _ _ h => h) (Or.inl ⟨by rfl, ?_⟩) hHeld ?_ ?_
        rotate_left
        · rintro w' ⟨s0, s1, s2, s3, s4⟩
          go_simp
          with_reducible rfl
        rotate_left
        · simp only [Act.put, List.setIfInBounds_toArray, List.set_cons_zero, List.set_cons_succ, i64_w, i32_w]
          rfl
        refine one_ (i := 3) (N := some 21) #[true, true, true, true, true, true, false, false] rfl rfl (by kernel_rfl) (by decide) (fun K hK => ?_)
        refine goes_ Try.func61 (by kernel_rfl) rfl #[.pointer (some ⟨p, 0, none⟩), .string b] (by rfl) rfl rfl (by (simp only [List.map_toArray, List.map_cons, List.map_nil]); first | done | rfl) ?_
        with_reducible refine (IH.out _ (HS.out.below hHeld.2.2.2.1)).mono ?_
        rintro e w6 ⟨rfl, hb6⟩
        refine ⟨_, rfl, ?_⟩
        refine hK.out _ _ ⟨(blk_below hHeld.1 hb6), (blk_cell (blk_below hHeld.1 hb6) 1).trans rfl, (blk_cell (blk_below hHeld.1 hb6) 2).trans rfl, below_step hHeld.2.2.2.1 hb6, blk_below hHeld.2.2.2.2 hb6⟩ (fun hHeld => ?_)
        clear hK K
        refine norm_ (a' := ?_) ?_ ?_
        rotate_left
        · show Act.put _ (some 21) _ = _
          simp only [Act.put, List.setIfInBounds_toArray, List.set_cons_zero, List.set_cons_succ, i64_w, i32_w]
          rfl
        refine one_ (i := 6) (N := some 24) #[true, true, true, true, true, true, true, false] rfl rfl (by kernel_rfl) (by decide) (fun K hK => ?_)
        refine goes_ Try.func60 (by kernel_rfl) rfl #[.agg Rf, .slice A2 ml c2] (by rfl) rfl rfl (by (simp only [List.map_toArray, List.map_cons, List.map_nil]); first | done | rfl) ?_
        with_reducible refine (HMk.out _ (HSl.out.below hHeld.2.2.2.1)).mono ?_
        rintro e w7 ⟨rfl, hb7⟩
        refine ⟨_, rfl, ?_⟩
        refine hK.out _ _ ⟨(blk_below hHeld.1 hb7), (blk_cell (blk_below hHeld.1 hb7) 1).trans rfl, (blk_cell (blk_below hHeld.1 hb7) 2).trans rfl, below_step hHeld.2.2.2.1 hb7, blk_below hHeld.2.2.2.2 hb7⟩ (fun hHeld => ?_)
        clear hK K
        refine norm_ (a' := ?_) ?_ ?_
        rotate_left
        · show Act.put _ (some 24) _ = _
          simp only [Act.put, List.setIfInBounds_toArray, List.set_cons_zero, List.set_cons_succ, i64_w, i32_w]
          rfl
        refine last_ (i := 7) (N := none) #[true, true, true, true, true, true, true, true] rfl rfl (by kernel_rfl) (by decide) (fun K hK => ?_)
        refine row_ (by rfl) rfl 23 (.tmp 4) (.tmp 24) rfl g4 Rr rfl rfl 23 #[.int .i64 0, .int .i64 0, .int .i64 0, .int .i64 0, .int .i64 0, .int .i64 0, .int .i64 0, .int .i64 0, .int .i64 0, .int .i64 0, .int .i64 0, .int .i64 0, .int .i64 0, .int .i64 0, .int .i64 0, .int .i64 0, .int .i64 0] hHeld.2.2.2.2 (by rw [HS2.out]; exact info23) (by rw [HS2.out]; rfl) HO2.out ?_
        have HB9 := Aside0.mk (below_setRow hHeld.2.2.2.1 GE4.out Rr)
        have BK9 := Aside0.mk (setRow_heap _ g4 _ Rr 23 (0, 0) hHeld.2.2.2.2)
        refine hK.out _ _ ?_
        clear hK K
        refine done_ (by kernel_rfl) ?_
        clear hHeld
        go_wp2
        refine bodyPost_ret (results_cell_row rfl _ _ g4 23 Rr (0, 0) _ rfl BK9.out Try.underlying23 rfl (by rw [HS2.out]; exact info23)) rfl ?_
        exact ⟨rfl, HB9.out⟩
      · refine value_ (by rfl) rfl (v := .pointer (some ⟨w4.drew.heap.size, 0, none⟩)) (w1 := w4.drew.alloc (.cells #[.string ⟨#[]⟩, .string ⟨#[]⟩, .slice none 0 0] 99)) (by first | (go_simp; done) | (go_simp; rfl) | (go_simp; exact ⟨rfl, rfl⟩)) ?_
        refine hK.out _ _ ⟨(blk_cell (blk_below H1.out (below_alloc hHeld.2.2.2.2.1 _)) 0).trans rfl, ((below_alloc hHeld.2.2.2.2.1 _).cell (World.block_lt_of_cell? w _ HX0.out)).trans HX0.out, ((below_alloc hHeld.2.2.2.2.1 _).cell (World.block_lt_of_cell? w _ HX1.out)).trans HX1.out, ((below_alloc hHeld.2.2.2.2.1 _).cell (World.block_lt_of_cell? w _ HX2.out)).trans HX2.out, (below_alloc hHeld.2.2.2.2.1 _), (blk_below hHeld.2.2.2.2.2.1 (below_alloc (Below.refl _ _) _)), HS.out.below (below_alloc hHeld.2.2.2.2.1 _)⟩ (fun hHeld => ?_)
        clear hK K
        refine norm_ (a' := ?_) ?_ ?_
        rotate_left
        · show Act.put _ (some 5) _ = _
          simp only [Act.put, List.setIfInBounds_toArray, List.set_cons_zero, List.set_cons_succ, i64_w, i32_w]
          rfl
        refine one_ (i := 6) (N := some 15) #[true, true, true, true, true, true, true, false, false, true, false] rfl rfl (by kernel_rfl) (by decide) (fun K hK => ?_)
        refine goes_ Try.func51 (by kernel_rfl) rfl #[.pointer (some ⟨p, 0, none⟩), .string n] (by rfl) rfl rfl (by (simp only [List.map_toArray, List.map_cons, List.map_nil]); first | done | rfl) ?_
        with_reducible refine (HAt.out _ hHeld.2.2.2.2.2.2).mono ?_
        rintro x wz ⟨rfl, hwz⟩
        rw [hwz]
        clear hwz
        refine ⟨_, rfl, ?_⟩
        refine hK.out _ _ hHeld (fun hHeld => ?_)
        clear hK K
        refine norm_ (a' := ?_) ?_ ?_
        rotate_left
        · show Act.put _ (some 15) _ = _
          simp only [Act.put, List.setIfInBounds_toArray, List.set_cons_zero, List.set_cons_succ, i64_w, i32_w]
          rfl
        refine pure_ (i := 7) (N := some 16) (v := ?_) (a' := ?_) #[true, true, true, true, true, true, true, true, false, true, false] rfl rfl (by kernel_rfl) (fun _ _ _ h => h) (Or.inl ⟨by rfl, ?_⟩) ?_ ?_
        rotate_left
        · intro w'
          go_simp
          with_reducible rfl
        rotate_left
        · simp only [Act.put, List.setIfInBounds_toArray, List.set_cons_zero, List.set_cons_succ, i64_w, i32_w]
          rfl
        refine take_ (i := 8) (N := some 17) (v := ?_) (a' := ?_) #[true, true, true, true, true, true, true, true, true, true, false] rfl rfl (by kernel_rfl) (fun _ _ _ h => h) (Or.inl ⟨by rfl, ?_⟩) hHeld ?_ ?_
        rotate_left
        · rintro w' ⟨s0, s1, s2, s3, s4, s5, s6⟩
          go_simp
          with_reducible rfl
        rotate_left
        · simp only [Act.put, List.setIfInBounds_toArray, List.set_cons_zero, List.set_cons_succ, i64_w, i32_w]
          rfl
        refine last_ (i := 10) (N := none) #[true, true, true, true, true, true, true, true, true, true, true] rfl rfl (by kernel_rfl) (by decide) (fun K hK => ?_)
        refine row_ (by rfl) rfl 99 (.tmp 5) (.tmp 17) rfl w4.drew.heap.size #[.string a, .string b, .slice A2 ml c2] rfl rfl 99 #[.string ⟨#[]⟩, .string ⟨#[]⟩, .slice none 0 0] (blk_new _ _) info99s rfl (st_one _ _ _ _ _) ?_
        have GE5 : Aside0 (w.heap.size ≤ w4.drew.heap.size) := ⟨below_size (below_drew1 HB.out)⟩
        have HB3 := Aside0.mk (below_setRow hHeld.2.2.2.2.1 GE5.out #[.string a, .string b, .slice A2 ml c2])
        have BK5 := Aside0.mk (setRow_heap _ w4.drew.heap.size _ #[.string a, .string b, .slice A2 ml c2] 99 (0, 0) (blk_new w4.drew (.cells #[.string ⟨#[]⟩, .string ⟨#[]⟩, .slice none 0 0] 99)))
        have BK4b := Aside0.mk ((setRow_other _ w4.drew.heap.size g4 #[.string a, .string b, .slice A2 ml c2] (Nat.ne_of_lt (blk_lt (blk_below BK4.out (below_drew1 (Below.refl _ _)))))).trans hHeld.2.2.2.2.2.1)
        refine hK.out _ _ ?_
        clear hK K
        refine done_ (by kernel_rfl) ?_
        clear hHeld HB BK4
        generalize World.setRow _ w4.drew.heap.size _ = w5 at HB3 BK5 BK4b ⊢
        generalize w4.drew.heap.size = g5 at GE5 BK5 ⊢
        go_wp2
        refine start_ (n := 8) (S := fun w' => w'.heap[g5]? = some (.cells #[.string a, .string b, .slice A2 ml c2] 99 (0, 0)) ∧ w'.cell? ⟨g5, 1, none⟩ = some (.string b) ∧ w'.cell? ⟨g5, 2, none⟩ = some (.slice A2 ml c2) ∧ Below w.heap.size w w' ∧ w'.heap[g4]? = some (.cells #[.int .i64 0, .int .i64 0, .int .i64 0, .int .i64 0, .int .i64 0, .int .i64 0, .int .i64 0, .int .i64 0, .int .i64 0, .int .i64 0, .int .i64 0, .int .i64 0, .int .i64 0, .int .i64 0, .int .i64 0, .int .i64 0, .int .i64 0] 23 (0, 0))) (ds := [7]) #[false, false, false, false, false, false, false, false] (by kernel_rfl) rfl rfl ⟨(blk_below BK5.out (below_drew1 (Below.refl _ _))), (blk_cell (blk_below BK5.out (below_drew1 (Below.refl _ _))) 1).trans rfl, (blk_cell (blk_below BK5.out (below_drew1 (Below.refl _ _))) 2).trans rfl, below_drew1 HB3.out, blk_below BK4b.out (below_drew1 (Below.refl _ _))⟩ (fun hHeld => ?_)
        refine pure_ (i := 0) (N := some 18) (v := ?_) (a' := ?_) #[true, false, false, false, false, false, false, false] rfl rfl (by kernel_rfl) (fun _ _ _ h => h) (Or.inl ⟨by rfl, ?_⟩) ?_ ?_
        rotate_left
        · intro w'
          go_simp
          with_reducible rfl
        rotate_left
        · simp only [Act.put, List.setIfInBounds_toArray, List.set_cons_zero, List.set_cons_succ, i64_w, i32_w]
          rfl
        refine pure_ (i := 1) (N := some 19) (v := ?_) (a' := ?_) #[true, true, false, false, false, false, false, false] rfl rfl (by kernel_rfl) (fun _ _ _ h => h) (Or.inl ⟨by rfl, ?_⟩) ?_ ?_
        rotate_left
        · intro w'
          go_simp
          with_reducible rfl
        rotate_left
        · simp only [Act.put, List.setIfInBounds_toArray, List.set_cons_zero, List.set_cons_succ, i64_w, i32_w]
          rfl
        refine pure_ (i := 4) (N := some 22) (v := ?_) (a' := ?_) #[true, true, false, false, true, false, false, false] rfl rfl (by kernel_rfl) (fun _ _ _ h => h) (Or.inl ⟨by rfl, ?_⟩) ?_ ?_
        rotate_left
        · intro w'
          go_simp
          with_reducible rfl
        rotate_left
        · simp only [Act.put, List.setIfInBounds_toArray, List.set_cons_zero, List.set_cons_succ, i64_w, i32_w]
          rfl
        refine take_ (i := 2) (N := some 20) (v := ?_) (a' := ?_) #[true, true, true, false, true, false, false, false] rfl rfl (by kernel_rfl) (fun _ _ _ h => h) (Or.inl ⟨by rfl, ?_⟩) hHeld ?_ ?_
        rotate_left
        · rintro w' ⟨s0, s1, s2, s3, s4⟩
          go_simp
          with_reducible rfl
        rotate_left
        · simp only [Act.put, List.setIfInBounds_toArray, List.set_cons_zero, List.set_cons_succ, i64_w, i32_w]
          rfl
        refine take_ (i := 5) (N := some 23) (v := ?_) (a' := ?_) #[true, true, true, false, true, true, false, false] rfl rfl (by kernel_rfl) (fun _ _ _ h => h) (Or.inl ⟨by rfl, ?_⟩) hHeld ?_ ?_
        rotate_left
        · rintro w' ⟨s0, s1, s2, s3, s4⟩
          go_simp
          with_reducible rfl
        rotate_left
        · simp only [Act.put, List.setIfInBounds_toArray, List.set_cons_zero, List.set_cons_succ, i64_w, i32_w]
          rfl
        refine one_ (i := 3) (N := some 21) #[true, true, true, true, true, true, false, false] rfl rfl (by kernel_rfl) (by decide) (fun K hK => ?_)
        refine goes_ Try.func61 (by kernel_rfl) rfl #[.pointer (some ⟨p, 0, none⟩), .string b] (by rfl) rfl rfl (by (simp only [List.map_toArray, List.map_cons, List.map_nil]); first | done | rfl) ?_
        with_reducible refine (IH.out _ (HS.out.below hHeld.2.2.2.1)).mono ?_
        rintro e w6 ⟨rfl, hb6⟩
        refine ⟨_, rfl, ?_⟩
        refine hK.out _ _ ⟨(blk_below hHeld.1 hb6), (blk_cell (blk_below hHeld.1 hb6) 1).trans rfl, (blk_cell (blk_below hHeld.1 hb6) 2).trans rfl, below_step hHeld.2.2.2.1 hb6, blk_below hHeld.2.2.2.2 hb6⟩ (fun hHeld => ?_)
        clear hK K
        refine norm_ (a' := ?_) ?_ ?_
        rotate_left
        · show Act.put _ (some 21) _ = _
          simp only [Act.put, List.setIfInBounds_toArray, List.set_cons_zero, List.set_cons_succ, i64_w, i32_w]
          rfl
        refine one_ (i := 6) (N := some 24) #[true, true, true, true, true, true, true, false] rfl rfl (by kernel_rfl) (by decide) (fun K hK => ?_)
        refine goes_ Try.func60 (by kernel_rfl) rfl #[.agg Rf, .slice A2 ml c2] (by rfl) rfl rfl (by (simp only [List.map_toArray, List.map_cons, List.map_nil]); first | done | rfl) ?_
        with_reducible refine (HMk.out _ (HSl.out.below hHeld.2.2.2.1)).mono ?_
        rintro e w7 ⟨rfl, hb7⟩
        refine ⟨_, rfl, ?_⟩
        refine hK.out _ _ ⟨(blk_below hHeld.1 hb7), (blk_cell (blk_below hHeld.1 hb7) 1).trans rfl, (blk_cell (blk_below hHeld.1 hb7) 2).trans rfl, below_step hHeld.2.2.2.1 hb7, blk_below hHeld.2.2.2.2 hb7⟩ (fun hHeld => ?_)
        clear hK K
        refine norm_ (a' := ?_) ?_ ?_
        rotate_left
        · show Act.put _ (some 24) _ = _
          simp only [Act.put, List.setIfInBounds_toArray, List.set_cons_zero, List.set_cons_succ, i64_w, i32_w]
          rfl
        refine last_ (i := 7) (N := none) #[true, true, true, true, true, true, true, true] rfl rfl (by kernel_rfl) (by decide) (fun K hK => ?_)
        refine row_ (by rfl) rfl 23 (.tmp 4) (.tmp 24) rfl g4 Rr rfl rfl 23 #[.int .i64 0, .int .i64 0, .int .i64 0, .int .i64 0, .int .i64 0, .int .i64 0, .int .i64 0, .int .i64 0, .int .i64 0, .int .i64 0, .int .i64 0, .int .i64 0, .int .i64 0, .int .i64 0, .int .i64 0, .int .i64 0, .int .i64 0] hHeld.2.2.2.2 (by rw [HS2.out]; exact info23) (by rw [HS2.out]; rfl) HO2.out ?_
        have HB9 := Aside0.mk (below_setRow hHeld.2.2.2.1 GE4.out Rr)
        have BK9 := Aside0.mk (setRow_heap _ g4 _ Rr 23 (0, 0) hHeld.2.2.2.2)
        refine hK.out _ _ ?_
        clear hK K
        refine done_ (by kernel_rfl) ?_
        clear hHeld
        go_wp2
        refine bodyPost_ret (results_cell_row rfl _ _ g4 23 Rr (0, 0) _ rfl BK9.out Try.underlying23 rfl (by rw [HS2.out]; exact info23)) rfl ?_
        exact ⟨rfl, HB9.out⟩
end Go.Proofs.Ytpcpjlbfhbicaaa.Sh
end
section
set_option linter.unusedVariables false
set_option linter.unusedSimpArgs false
namespace Go.Proofs.Ytpcpjlbfhbicaaa.Sh
open Go Go.RowKit Go.Proofs.YtpcpjlbfhbicaaaW.PrintWords Go.Proofs.YtpcpjlbfhbicaaaW.PrintLast Go.Proofs.YtpcpjlbfhbicaaaW.PrintMore Go.Proofs.Ytpcpjlbfhbicaaa.PStyleProps
open Go.Proofs.Ytpcpjlbfhbicaaa.PStyleNearest (S37 k37 z37 rd_T37 at_T37 k37_open k37_openM k37_mk k37_mkM info37)
set_option maxHeartbeats 4000000 in
set_option maxRecDepth 100000 in
theorem rres_miss (p : Nat) (W : List Sty) (n : ByteArray) (v : Value) (own : List S37) (w : World) (hs : RSheet w p W) (hl : W.length ≤ 1000) (hv : Sl w v own) (hn : n ≠ ⟨#[]⟩) (hf : fnd W n = none) :
    Calls Try.prog 53 #[.pointer (some ⟨p, 0, none⟩), .string n, v] w fun e w' => e = .returned (.tuple #[.agg (row zero), .int .i64 6]) ∧ Below w.heap.size w w' := by
  have hu23 := Try.underlying23
  have hu71 := Try.underlying71
  have HS := Aside0.mk hs
  obtain ⟨A0, c0, rfl, z2, z3⟩ := id hv
  clear z2 z3
  have HOwn := Aside0.mk hv
  clear hv hs
  have HAt : Aside0 (∀ w', RSheet w' p W → Calls Try.prog 51 #[.pointer (some ⟨p, 0, none⟩), .string n] w' fun e w'' => e = .returned (.int .i64 (-1)) ∧ w'' = w') := ⟨fun w' hw' => at_fix p W n (-1) w' hw' hl (.inl ⟨rfl, hf⟩)⟩
  have c1 := list_ne hn
  have c2 := ba_ne hn
  clear hf hn hl
  show Calls Try.prog 53 _ w fun e w' => e = .returned (.tuple #[.agg #[.int .i64 0, .int .i64 0, .int .i64 0, .int .i64 0, .int .i64 0, .int .i64 0, .int .i64 0, .int .i64 0, .int .i64 0, .int .i64 0, .int .i64 0, .int .i64 0, .int .i64 0, .int .i64 0, .int .i64 0, .int .i64 0, .int .i64 0], .int .i64 6]) ∧ Below w.heap.size w w'
  go_enter Try.func53, Try.ntmps53
  go_wp2_with (first | ((with_reducible refine gate_dst (N := 6) rfl ?_); refine box_event ?hg (N := 6) ?hd (cs := #[.int .i64 0, .int .i64 0, .int .i64 0, .int .i64 0, .int .i64 0, .int .i64 0, .int .i64 0, .int .i64 0, .int .i64 0, .int .i64 0, .int .i64 0, .int .i64 0, .int .i64 0, .int .i64 0, .int .i64 0, .int .i64 0, .int .i64 0]) (t := 23) ?hr ?_; (case hd => rfl); (case hg => rfl); (case hr => first | (go_simp; done) | (go_simp; rfl)); intro g6 hg wb hbox hb; have HB := Aside0.mk hb; have BK6 := Aside0.mk hbox; have GE6 : Aside0 (w.heap.size ≤ g6) := ⟨by rw [hg]; exact Nat.le_refl _⟩; clear hb hbox hg) | (go_at_call 51; with_reducible refine (HAt.out _ (HS.out.below HB.out)).mono ?_; rintro x wz ⟨rfl, hw⟩; rw [hw]; clear hw) | ((with_reducible refine gate_store (t := 23) (p := 6) rfl ?_); refine wpList_store_row rfl 23 (.tmp 6) (.tmp 17) rfl g6 #[.int .i64 0, .int .i64 0, .int .i64 0, .int .i64 0, .int .i64 0, .int .i64 0, .int .i64 0, .int .i64 0, .int .i64 0, .int .i64 0, .int .i64 0, .int .i64 0, .int .i64 0, .int .i64 0, .int .i64 0, .int .i64 0, .int .i64 0] rfl rfl 23 #[.int .i64 0, .int .i64 0, .int .i64 0, .int .i64 0, .int .i64 0, .int .i64 0, .int .i64 0, .int .i64 0, .int .i64 0, .int .i64 0, .int .i64 0, .int .i64 0, .int .i64 0, .int .i64 0, .int .i64 0, .int .i64 0, .int .i64 0] BK6.out (by kernel_rfl) rfl (by kernel_rfl) ?_; have HBn := Aside0.mk (below_setRow HB.out GE6.out #[.int .i64 0, .int .i64 0, .int .i64 0, .int .i64 0, .int .i64 0, .int .i64 0, .int .i64 0, .int .i64 0, .int .i64 0, .int .i64 0, .int .i64 0, .int .i64 0, .int .i64 0, .int .i64 0, .int .i64 0, .int .i64 0, .int .i64 0]); have BKn := Aside0.mk (setRow_heap _ g6 _ #[.int .i64 0, .int .i64 0, .int .i64 0, .int .i64 0, .int .i64 0, .int .i64 0, .int .i64 0, .int .i64 0, .int .i64 0, .int .i64 0, .int .i64 0, .int .i64 0, .int .i64 0, .int .i64 0, .int .i64 0, .int .i64 0, .int .i64 0] 23 (0, 0) BK6.out); clear HB BK6; have HB := HBn; have BK6 := BKn; clear HBn BKn; generalize World.setRow _ g6 #[.int .i64 0, .int .i64 0, .int .i64 0, .int .i64 0, .int .i64 0, .int .i64 0, .int .i64 0, .int .i64 0, .int .i64 0, .int .i64 0, .int .i64 0, .int .i64 0, .int .i64 0, .int .i64 0, .int .i64 0, .int .i64 0, .int .i64 0] = wq at HB BK6 ⊢))
  refine bodyPost_ret (results_ct rfl _ _ g6 23 #[.int .i64 0, .int .i64 0, .int .i64 0, .int .i64 0, .int .i64 0, .int .i64 0, .int .i64 0, .int .i64 0, .int .i64 0, .int .i64 0, .int .i64 0, .int .i64 0, .int .i64 0, .int .i64 0, .int .i64 0, .int .i64 0, .int .i64 0] (0, 0) _ rfl BK6.out Try.underlying23 rfl (by kernel_rfl)) rfl ?_
  exact ⟨rfl, HB.out⟩
set_option maxHeartbeats 4000000 in
set_option maxRecDepth 100000 in
theorem rres_wrong0 (p : Nat) (W : List Sty) (n : ByteArray) (v : Value) (own : List S37) (w : World) (hs : RSheet w p W) (hI : RI W) (hv : Sl w v own) (e : Int) (he : setE own = e) (he0 : e ≠ 0) (hn : n = ⟨#[]⟩) :
    Calls Try.prog 53 #[.pointer (some ⟨p, 0, none⟩), .string n, v] w fun x w' => x = .returned (.tuple #[.agg (row zero), .int .i64 e]) ∧ Below w.heap.size w w' := by
  have hu23 := Try.underlying23
  have hu71 := Try.underlying71
  have HS := Aside0.mk hs
  obtain ⟨A0, c0, rfl, z2, z3⟩ := id hv
  clear z2 z3
  have HOwn := Aside0.mk hv
  clear hv hs
  have HFt : Aside0 (∀ w', Sl w' (.slice A0 own.length c0) own → Calls Try.prog 52 #[.slice A0 own.length c0] w' fun x w'' => x = .returned (.int .i64 e) ∧ Below w'.heap.size w' w'') := ⟨fun w' h => by rw [← he]; exact rfits_calls _ own w' h⟩
  have ce0 : (e == 0) = false := beq_eq_false_iff_ne.mpr he0
  have ce1 : (e != 0) = true := bne_iff_ne.mpr he0
  clear he he0 hI
  subst hn
  show Calls Try.prog 53 _ w fun x w' => x = .returned (.tuple #[.agg #[.int .i64 0, .int .i64 0, .int .i64 0, .int .i64 0, .int .i64 0, .int .i64 0, .int .i64 0, .int .i64 0, .int .i64 0, .int .i64 0, .int .i64 0, .int .i64 0, .int .i64 0, .int .i64 0, .int .i64 0, .int .i64 0, .int .i64 0], .int .i64 e]) ∧ Below w.heap.size w w'
  go_enter Try.func53, Try.ntmps53
  go_wp2_with (first | ((with_reducible refine gate_dst (N := 6) rfl ?_); refine box_event ?hg (N := 6) ?hd (cs := #[.int .i64 0, .int .i64 0, .int .i64 0, .int .i64 0, .int .i64 0, .int .i64 0, .int .i64 0, .int .i64 0, .int .i64 0, .int .i64 0, .int .i64 0, .int .i64 0, .int .i64 0, .int .i64 0, .int .i64 0, .int .i64 0, .int .i64 0]) (t := 23) ?hr ?_; (case hd => rfl); (case hg => rfl); (case hr => first | (go_simp; done) | (go_simp; rfl)); intro g6 hg wb hbox hb; have HB := Aside0.mk hb; have BK6 := Aside0.mk hbox; have GE6 : Aside0 (w.heap.size ≤ g6) := ⟨by rw [hg]; exact Nat.le_refl _⟩; clear hb hbox hg) | (go_at_call 52; with_reducible refine (HFt.out _ (HOwn.out.below HB.out)).mono ?_; rintro x wz ⟨rfl, hb⟩; have HBn := Aside0.mk (below_step HB.out hb); have BKn := Aside0.mk (blk_below BK6.out hb); clear HB BK6 hb; have HB := HBn; have BK6 := BKn; clear HBn BKn) | ((with_reducible refine gate_store (t := 23) (p := 6) rfl ?_); refine wpList_store_row rfl 23 (.tmp 6) (.tmp 22) rfl g6 #[.int .i64 0, .int .i64 0, .int .i64 0, .int .i64 0, .int .i64 0, .int .i64 0, .int .i64 0, .int .i64 0, .int .i64 0, .int .i64 0, .int .i64 0, .int .i64 0, .int .i64 0, .int .i64 0, .int .i64 0, .int .i64 0, .int .i64 0] rfl rfl 23 #[.int .i64 0, .int .i64 0, .int .i64 0, .int .i64 0, .int .i64 0, .int .i64 0, .int .i64 0, .int .i64 0, .int .i64 0, .int .i64 0, .int .i64 0, .int .i64 0, .int .i64 0, .int .i64 0, .int .i64 0, .int .i64 0, .int .i64 0] BK6.out (by kernel_rfl) rfl (by kernel_rfl) ?_; have HBn := Aside0.mk (below_setRow HB.out GE6.out #[.int .i64 0, .int .i64 0, .int .i64 0, .int .i64 0, .int .i64 0, .int .i64 0, .int .i64 0, .int .i64 0, .int .i64 0, .int .i64 0, .int .i64 0, .int .i64 0, .int .i64 0, .int .i64 0, .int .i64 0, .int .i64 0, .int .i64 0]); have BKn := Aside0.mk (setRow_heap _ g6 _ #[.int .i64 0, .int .i64 0, .int .i64 0, .int .i64 0, .int .i64 0, .int .i64 0, .int .i64 0, .int .i64 0, .int .i64 0, .int .i64 0, .int .i64 0, .int .i64 0, .int .i64 0, .int .i64 0, .int .i64 0, .int .i64 0, .int .i64 0] 23 (0, 0) BK6.out); clear HB BK6; have HB := HBn; have BK6 := BKn; clear HBn BKn; generalize World.setRow _ g6 #[.int .i64 0, .int .i64 0, .int .i64 0, .int .i64 0, .int .i64 0, .int .i64 0, .int .i64 0, .int .i64 0, .int .i64 0, .int .i64 0, .int .i64 0, .int .i64 0, .int .i64 0, .int .i64 0, .int .i64 0, .int .i64 0, .int .i64 0] = wq at HB BK6 ⊢))
  refine bodyPost_ret (results_ct rfl _ _ g6 23 #[.int .i64 0, .int .i64 0, .int .i64 0, .int .i64 0, .int .i64 0, .int .i64 0, .int .i64 0, .int .i64 0, .int .i64 0, .int .i64 0, .int .i64 0, .int .i64 0, .int .i64 0, .int .i64 0, .int .i64 0, .int .i64 0, .int .i64 0] (0, 0) _ rfl BK6.out Try.underlying23 rfl (by kernel_rfl)) rfl ?_
  exact ⟨rfl, HB.out⟩
set_option maxHeartbeats 4000000 in
set_option maxRecDepth 100000 in
theorem rres_wrong1 (p : Nat) (W : List Sty) (n : ByteArray) (v : Value) (own : List S37) (w : World) (hs : RSheet w p W) (hI : RI W) (hv : Sl w v own) (e : Int) (he : setE own = e) (he0 : e ≠ 0) (hn : n ≠ ⟨#[]⟩) (hf : (fnd W n).isSome = true) :
    Calls Try.prog 53 #[.pointer (some ⟨p, 0, none⟩), .string n, v] w fun x w' => x = .returned (.tuple #[.agg (row zero), .int .i64 e]) ∧ Below w.heap.size w w' := by
  have hu23 := Try.underlying23
  have hu71 := Try.underlying71
  have HS := Aside0.mk hs
  obtain ⟨A0, c0, rfl, z2, z3⟩ := id hv
  clear z2 z3
  have HOwn := Aside0.mk hv
  clear hv hs
  have HFt : Aside0 (∀ w', Sl w' (.slice A0 own.length c0) own → Calls Try.prog 52 #[.slice A0 own.length c0] w' fun x w'' => x = .returned (.int .i64 e) ∧ Below w'.heap.size w' w'') := ⟨fun w' h => by rw [← he]; exact rfits_calls _ own w' h⟩
  obtain ⟨i, hi⟩ := AtIs.ex W n
  have i0 : 0 ≤ i := by
    rcases hi with ⟨_, h1⟩ | ⟨h0, _⟩
    · rw [h1] at hf; cases hf
    · exact h0
  have HAt : Aside0 (∀ w', RSheet w' p W → Calls Try.prog 51 #[.pointer (some ⟨p, 0, none⟩), .string n] w' fun e w'' => e = .returned (.int .i64 i) ∧ w'' = w') := ⟨fun w' hw' => at_fix p W n i w' hw' (Nat.le_trans hI.len (by decide)) hi⟩
  have d0 : decide (i < 0) = false := decide_eq_false (by omega)
  have c1 := list_ne hn
  have c2 := ba_ne hn
  have ce0 : (e == 0) = false := beq_eq_false_iff_ne.mpr he0
  have ce1 : (e != 0) = true := bne_iff_ne.mpr he0
  clear he he0 hf hn hi i0 hI
  show Calls Try.prog 53 _ w fun x w' => x = .returned (.tuple #[.agg #[.int .i64 0, .int .i64 0, .int .i64 0, .int .i64 0, .int .i64 0, .int .i64 0, .int .i64 0, .int .i64 0, .int .i64 0, .int .i64 0, .int .i64 0, .int .i64 0, .int .i64 0, .int .i64 0, .int .i64 0, .int .i64 0, .int .i64 0], .int .i64 e]) ∧ Below w.heap.size w w'
  go_enter Try.func53, Try.ntmps53
  go_wp2_with (first | ((with_reducible refine gate_dst (N := 6) rfl ?_); refine box_event ?hg (N := 6) ?hd (cs := #[.int .i64 0, .int .i64 0, .int .i64 0, .int .i64 0, .int .i64 0, .int .i64 0, .int .i64 0, .int .i64 0, .int .i64 0, .int .i64 0, .int .i64 0, .int .i64 0, .int .i64 0, .int .i64 0, .int .i64 0, .int .i64 0, .int .i64 0]) (t := 23) ?hr ?_; (case hd => rfl); (case hg => rfl); (case hr => first | (go_simp; done) | (go_simp; rfl)); intro g6 hg wb hbox hb; have HB := Aside0.mk hb; have BK6 := Aside0.mk hbox; have GE6 : Aside0 (w.heap.size ≤ g6) := ⟨by rw [hg]; exact Nat.le_refl _⟩; clear hb hbox hg) | (go_at_call 51; with_reducible refine (HAt.out _ (HS.out.below HB.out)).mono ?_; rintro x wz ⟨rfl, hw⟩; rw [hw]; clear hw) | (go_at_call 52; with_reducible refine (HFt.out _ (HOwn.out.below HB.out)).mono ?_; rintro x wz ⟨rfl, hb⟩; have HBn := Aside0.mk (below_step HB.out hb); have BKn := Aside0.mk (blk_below BK6.out hb); clear HB BK6 hb; have HB := HBn; have BK6 := BKn; clear HBn BKn) | ((with_reducible refine gate_store (t := 23) (p := 6) rfl ?_); refine wpList_store_row rfl 23 (.tmp 6) (.tmp 22) rfl g6 #[.int .i64 0, .int .i64 0, .int .i64 0, .int .i64 0, .int .i64 0, .int .i64 0, .int .i64 0, .int .i64 0, .int .i64 0, .int .i64 0, .int .i64 0, .int .i64 0, .int .i64 0, .int .i64 0, .int .i64 0, .int .i64 0, .int .i64 0] rfl rfl 23 #[.int .i64 0, .int .i64 0, .int .i64 0, .int .i64 0, .int .i64 0, .int .i64 0, .int .i64 0, .int .i64 0, .int .i64 0, .int .i64 0, .int .i64 0, .int .i64 0, .int .i64 0, .int .i64 0, .int .i64 0, .int .i64 0, .int .i64 0] BK6.out (by kernel_rfl) rfl (by kernel_rfl) ?_; have HBn := Aside0.mk (below_setRow HB.out GE6.out #[.int .i64 0, .int .i64 0, .int .i64 0, .int .i64 0, .int .i64 0, .int .i64 0, .int .i64 0, .int .i64 0, .int .i64 0, .int .i64 0, .int .i64 0, .int .i64 0, .int .i64 0, .int .i64 0, .int .i64 0, .int .i64 0, .int .i64 0]); have BKn := Aside0.mk (setRow_heap _ g6 _ #[.int .i64 0, .int .i64 0, .int .i64 0, .int .i64 0, .int .i64 0, .int .i64 0, .int .i64 0, .int .i64 0, .int .i64 0, .int .i64 0, .int .i64 0, .int .i64 0, .int .i64 0, .int .i64 0, .int .i64 0, .int .i64 0, .int .i64 0] 23 (0, 0) BK6.out); clear HB BK6; have HB := HBn; have BK6 := BKn; clear HBn BKn; generalize World.setRow _ g6 #[.int .i64 0, .int .i64 0, .int .i64 0, .int .i64 0, .int .i64 0, .int .i64 0, .int .i64 0, .int .i64 0, .int .i64 0, .int .i64 0, .int .i64 0, .int .i64 0, .int .i64 0, .int .i64 0, .int .i64 0, .int .i64 0, .int .i64 0] = wq at HB BK6 ⊢))
  refine bodyPost_ret (results_ct rfl _ _ g6 23 #[.int .i64 0, .int .i64 0, .int .i64 0, .int .i64 0, .int .i64 0, .int .i64 0, .int .i64 0, .int .i64 0, .int .i64 0, .int .i64 0, .int .i64 0, .int .i64 0, .int .i64 0, .int .i64 0, .int .i64 0, .int .i64 0, .int .i64 0] (0, 0) _ rfl BK6.out Try.underlying23 rfl (by kernel_rfl)) rfl ?_
  exact ⟨rfl, HB.out⟩
set_option maxHeartbeats 4000000 in
set_option maxRecDepth 100000 in
theorem rres_fine0 (p : Nat) (W : List Sty) (n : ByteArray) (v : Value) (own : List S37) (w : World) (hs : RSheet w p W) (hI : RI W) (hv : Sl w v own) (k : Nat) (f : Int → Int) (he : setE own = 0) (hmk : makesF W k n = some f) (hn : n = ⟨#[]⟩) :
    Calls Try.prog 53 #[.pointer (some ⟨p, 0, none⟩), .string n, v] w fun x w' => x = .returned (.tuple #[.agg (row (withF f own)), .int .i64 0]) ∧ Below w.heap.size w w' := by
  have hu23 := Try.underlying23
  have hu71 := Try.underlying71
  have HS := Aside0.mk hs
  obtain ⟨A0, c0, rfl, z2, z3⟩ := id hv
  clear z2 z3
  have HOwn := Aside0.mk hv
  clear hv hs
  have HFt : Aside0 (∀ w', Sl w' (.slice A0 own.length c0) own → Calls Try.prog 52 #[.slice A0 own.length c0] w' fun x w'' => x = .returned (.int .i64 0) ∧ Below w'.heap.size w' w'') := ⟨fun w' h => by rw [← he]; exact rfits_calls _ own w' h⟩
  have HSt : Aside0 (∀ w', RSheet w' p W → Calls Try.prog 61 #[.pointer (some ⟨p, 0, none⟩), .string n] w' fun e w'' => e = .returned (.agg (row f)) ∧ Below w'.heap.size w' w'') := ⟨fun w' hw' => rstyle_calls p W hI k n f w' hw' hmk (.inl hn)⟩
  have HMk : Aside0 (∀ w', Sl w' (.slice A0 own.length c0) own → Calls Try.prog 60 #[.agg (row f), .slice A0 own.length c0] w' fun e w'' => e = .returned (.agg (row (withF f own))) ∧ Below w'.heap.size w' w'') := ⟨fun w' hw' => rmakes_calls f _ own w' hw' (setE_zero he).1 (setE_zero he).2⟩
  have Z1 : Aside0 ((row (withF f own)).size = 17) := ⟨rfl⟩
  have O1 : Aside0 ((row (withF f own)).all (·.oneCell') = true) := ⟨row_all _⟩
  clear he hmk hI
  subst hn
  generalize row (withF f own) = R1 at HMk Z1 O1 ⊢
  generalize row f = Rf at HSt HMk
  go_enter Try.func53, Try.ntmps53
  go_wp2_with (first | ((with_reducible refine gate_dst (N := 6) rfl ?_); refine box_event ?hg (N := 6) ?hd (cs := #[.int .i64 0, .int .i64 0, .int .i64 0, .int .i64 0, .int .i64 0, .int .i64 0, .int .i64 0, .int .i64 0, .int .i64 0, .int .i64 0, .int .i64 0, .int .i64 0, .int .i64 0, .int .i64 0, .int .i64 0, .int .i64 0, .int .i64 0]) (t := 23) ?hr ?_; (case hd => rfl); (case hg => rfl); (case hr => first | (go_simp; done) | (go_simp; rfl)); intro g6 hg wb hbox hb; have HB := Aside0.mk hb; have BK6 := Aside0.mk hbox; have GE6 : Aside0 (w.heap.size ≤ g6) := ⟨by rw [hg]; exact Nat.le_refl _⟩; clear hb hbox hg) | (go_at_call 52; with_reducible refine (HFt.out _ (HOwn.out.below HB.out)).mono ?_; rintro x wz ⟨rfl, hb⟩; have HBn := Aside0.mk (below_step HB.out hb); have BKn := Aside0.mk (blk_below BK6.out hb); clear HB BK6 hb; have HB := HBn; have BK6 := BKn; clear HBn BKn) | (go_at_call 61; with_reducible refine (HSt.out _ (HS.out.below HB.out)).mono ?_; rintro x wz ⟨rfl, hb⟩; have HBn := Aside0.mk (below_step HB.out hb); have BKn := Aside0.mk (blk_below BK6.out hb); clear HB BK6 hb; have HB := HBn; have BK6 := BKn; clear HBn BKn) | (go_at_call 60; with_reducible refine (HMk.out _ (HOwn.out.below HB.out)).mono ?_; rintro x wz ⟨rfl, hb⟩; have HBn := Aside0.mk (below_step HB.out hb); have BKn := Aside0.mk (blk_below BK6.out hb); clear HB BK6 hb; have HB := HBn; have BK6 := BKn; clear HBn BKn) | ((with_reducible refine gate_store (t := 23) (p := 6) rfl ?_); refine wpList_store_row rfl 23 (.tmp 6) (.tmp 28) rfl g6 R1 rfl rfl 23 #[.int .i64 0, .int .i64 0, .int .i64 0, .int .i64 0, .int .i64 0, .int .i64 0, .int .i64 0, .int .i64 0, .int .i64 0, .int .i64 0, .int .i64 0, .int .i64 0, .int .i64 0, .int .i64 0, .int .i64 0, .int .i64 0, .int .i64 0] BK6.out (by rw [Z1.out]; exact info23) (by rw [Z1.out]; rfl) O1.out ?_; have HBn := Aside0.mk (below_setRow HB.out GE6.out R1); have BKn := Aside0.mk (setRow_heap _ g6 _ R1 23 (0, 0) BK6.out); clear HB BK6; have HB := HBn; have BK6 := BKn; clear HBn BKn; generalize World.setRow _ g6 R1 = wq at HB BK6 ⊢))
  refine bodyPost_ret (results_ct rfl _ _ g6 23 R1 (0, 0) _ rfl BK6.out Try.underlying23 rfl (by rw [Z1.out]; exact info23)) rfl ?_
  exact ⟨rfl, HB.out⟩
set_option maxHeartbeats 4000000 in
set_option maxRecDepth 100000 in
theorem rres_fine1 (p : Nat) (W : List Sty) (n : ByteArray) (v : Value) (own : List S37) (w : World) (hs : RSheet w p W) (hI : RI W) (hv : Sl w v own) (k : Nat) (f : Int → Int) (he : setE own = 0) (hmk : makesF W k n = some f) (hn : n ≠ ⟨#[]⟩) (hf : (fnd W n).isSome = true) :
    Calls Try.prog 53 #[.pointer (some ⟨p, 0, none⟩), .string n, v] w fun x w' => x = .returned (.tuple #[.agg (row (withF f own)), .int .i64 0]) ∧ Below w.heap.size w w' := by
  have hu23 := Try.underlying23
  have hu71 := Try.underlying71
  have HS := Aside0.mk hs
  obtain ⟨A0, c0, rfl, z2, z3⟩ := id hv
  clear z2 z3
  have HOwn := Aside0.mk hv
  clear hv hs
  have HFt : Aside0 (∀ w', Sl w' (.slice A0 own.length c0) own → Calls Try.prog 52 #[.slice A0 own.length c0] w' fun x w'' => x = .returned (.int .i64 0) ∧ Below w'.heap.size w' w'') := ⟨fun w' h => by rw [← he]; exact rfits_calls _ own w' h⟩
  obtain ⟨i, hi⟩ := AtIs.ex W n
  have i0 : 0 ≤ i := by
    rcases hi with ⟨_, h1⟩ | ⟨h0, _⟩
    · rw [h1] at hf; cases hf
    · exact h0
  have HAt : Aside0 (∀ w', RSheet w' p W → Calls Try.prog 51 #[.pointer (some ⟨p, 0, none⟩), .string n] w' fun e w'' => e = .returned (.int .i64 i) ∧ w'' = w') := ⟨fun w' hw' => at_fix p W n i w' hw' (Nat.le_trans hI.len (by decide)) hi⟩
  have d0 : decide (i < 0) = false := decide_eq_false (by omega)
  have c1 := list_ne hn
  have c2 := ba_ne hn
  have HSt : Aside0 (∀ w', RSheet w' p W → Calls Try.prog 61 #[.pointer (some ⟨p, 0, none⟩), .string n] w' fun e w'' => e = .returned (.agg (row f)) ∧ Below w'.heap.size w' w'') := ⟨fun w' hw' => rstyle_calls p W hI k n f w' hw' hmk (.inr hf)⟩
  have HMk : Aside0 (∀ w', Sl w' (.slice A0 own.length c0) own → Calls Try.prog 60 #[.agg (row f), .slice A0 own.length c0] w' fun e w'' => e = .returned (.agg (row (withF f own))) ∧ Below w'.heap.size w' w'') := ⟨fun w' hw' => rmakes_calls f _ own w' hw' (setE_zero he).1 (setE_zero he).2⟩
  have Z1 : Aside0 ((row (withF f own)).size = 17) := ⟨rfl⟩
  have O1 : Aside0 ((row (withF f own)).all (·.oneCell') = true) := ⟨row_all _⟩
  clear he hmk hf hn hi i0 hI
  generalize row (withF f own) = R1 at HMk Z1 O1 ⊢
  generalize row f = Rf at HSt HMk
  go_enter Try.func53, Try.ntmps53
  go_wp2_with (first | ((with_reducible refine gate_dst (N := 6) rfl ?_); refine box_event ?hg (N := 6) ?hd (cs := #[.int .i64 0, .int .i64 0, .int .i64 0, .int .i64 0, .int .i64 0, .int .i64 0, .int .i64 0, .int .i64 0, .int .i64 0, .int .i64 0, .int .i64 0, .int .i64 0, .int .i64 0, .int .i64 0, .int .i64 0, .int .i64 0, .int .i64 0]) (t := 23) ?hr ?_; (case hd => rfl); (case hg => rfl); (case hr => first | (go_simp; done) | (go_simp; rfl)); intro g6 hg wb hbox hb; have HB := Aside0.mk hb; have BK6 := Aside0.mk hbox; have GE6 : Aside0 (w.heap.size ≤ g6) := ⟨by rw [hg]; exact Nat.le_refl _⟩; clear hb hbox hg) | (go_at_call 51; with_reducible refine (HAt.out _ (HS.out.below HB.out)).mono ?_; rintro x wz ⟨rfl, hw⟩; rw [hw]; clear hw) | (go_at_call 52; with_reducible refine (HFt.out _ (HOwn.out.below HB.out)).mono ?_; rintro x wz ⟨rfl, hb⟩; have HBn := Aside0.mk (below_step HB.out hb); have BKn := Aside0.mk (blk_below BK6.out hb); clear HB BK6 hb; have HB := HBn; have BK6 := BKn; clear HBn BKn) | (go_at_call 61; with_reducible refine (HSt.out _ (HS.out.below HB.out)).mono ?_; rintro x wz ⟨rfl, hb⟩; have HBn := Aside0.mk (below_step HB.out hb); have BKn := Aside0.mk (blk_below BK6.out hb); clear HB BK6 hb; have HB := HBn; have BK6 := BKn; clear HBn BKn) | (go_at_call 60; with_reducible refine (HMk.out _ (HOwn.out.below HB.out)).mono ?_; rintro x wz ⟨rfl, hb⟩; have HBn := Aside0.mk (below_step HB.out hb); have BKn := Aside0.mk (blk_below BK6.out hb); clear HB BK6 hb; have HB := HBn; have BK6 := BKn; clear HBn BKn) | ((with_reducible refine gate_store (t := 23) (p := 6) rfl ?_); refine wpList_store_row rfl 23 (.tmp 6) (.tmp 28) rfl g6 R1 rfl rfl 23 #[.int .i64 0, .int .i64 0, .int .i64 0, .int .i64 0, .int .i64 0, .int .i64 0, .int .i64 0, .int .i64 0, .int .i64 0, .int .i64 0, .int .i64 0, .int .i64 0, .int .i64 0, .int .i64 0, .int .i64 0, .int .i64 0, .int .i64 0] BK6.out (by rw [Z1.out]; exact info23) (by rw [Z1.out]; rfl) O1.out ?_; have HBn := Aside0.mk (below_setRow HB.out GE6.out R1); have BKn := Aside0.mk (setRow_heap _ g6 _ R1 23 (0, 0) BK6.out); clear HB BK6; have HB := HBn; have BK6 := BKn; clear HBn BKn; generalize World.setRow _ g6 R1 = wq at HB BK6 ⊢))
  refine bodyPost_ret (results_ct rfl _ _ g6 23 R1 (0, 0) _ rfl BK6.out Try.underlying23 rfl (by rw [Z1.out]; exact info23)) rfl ?_
  exact ⟨rfl, HB.out⟩
theorem rresolve_calls (p : Nat) (W : List Sty) (n : ByteArray) (v : Value) (own : List S37) (w : World) (hs : RSheet w p W) (hI : RI W) (hv : Sl w v own) (k : Nat) (f : Int → Int) (hmk : makesF W k n = some f) :
    Calls Try.prog 53 #[.pointer (some ⟨p, 0, none⟩), .string n, v] w fun x w' => x = .returned (.tuple #[.agg (row (resF (setE own) f W n own)), .int .i64 (resE (setE own) W n)]) ∧ Below w.heap.size w w' := by
  by_cases c1 : n ≠ ⟨#[]⟩ ∧ fnd W n = none
  · have h1 : resE (setE own) W n = 6 := by unfold resE; rw [if_pos c1]
    have h2 : resF (setE own) f W n own = zero := by unfold resF; rw [if_neg (by rw [h1]; decide)]
    rw [h1, h2]
    exact rres_miss p W n v own w hs (Nat.le_trans hI.len (by decide)) hv c1.1 c1.2
  · have h1 : resE (setE own) W n = setE own := by unfold resE; rw [if_neg c1]
    have hp : n = ⟨#[]⟩ ∨ (n ≠ ⟨#[]⟩ ∧ (fnd W n).isSome = true) := by
      by_cases q : n = ⟨#[]⟩
      · exact .inl q
      · refine .inr ⟨q, ?_⟩
        cases hf : fnd W n with
        | none => exact absurd ⟨q, hf⟩ c1
        | some s => rfl
    by_cases c2 : setE own = 0
    · have h2 : resF (setE own) f W n own = withF f own := by unfold resF; rw [if_pos (by rw [h1]; exact c2)]
      rw [h1, h2, c2]
      rcases hp with hp | ⟨hp, hf⟩
      · exact rres_fine0 p W n v own w hs hI hv k f c2 hmk hp
      · exact rres_fine1 p W n v own w hs hI hv k f c2 hmk hp hf
    · have h2 : resF (setE own) f W n own = zero := by unfold resF; rw [if_neg (by rw [h1]; exact c2)]
      rw [h1, h2]
      rcases hp with hp | ⟨hp, hf⟩
      · exact rres_wrong0 p W n v own w hs hI hv _ rfl c2 hp
      · exact rres_wrong1 p W n v own w hs hI hv _ rfl c2 hp hf
end Go.Proofs.Ytpcpjlbfhbicaaa.Sh
end
section
set_option linter.unusedVariables false
set_option linter.unusedSimpArgs false
namespace Go.Proofs.Ytpcpjlbfhbicaaa.Sh
open Go Go.RowKit Go.Proofs.YtpcpjlbfhbicaaaW.PrintWords Go.Proofs.YtpcpjlbfhbicaaaW.PrintLast Go.Proofs.YtpcpjlbfhbicaaaW.PrintMore Go.Proofs.Ytpcpjlbfhbicaaa.PStyleProps
open Go.Proofs.Ytpcpjlbfhbicaaa.PStyleNearest (S37 k37 z37 rd_T37 at_T37 k37_open k37_openM k37_mk k37_mkM info37)
theorem info69 : (Try.prog.info? 69).map (·.size) = some 1 := by kernel_rfl
theorem run_slot (w : World) (p : Nat) (A : Option Addr) (n c : Nat) (old : Value) (hg : w.heap[p]? = some (.cells #[old] 71 (0, 0))) : (storeVar 69 ⟨p, 0, none⟩ (.slice A n c)).run Try.prog w = .ok () (w.setRow p #[.slice A n c]) :=
  run_storeVar_row w p 71 69 #[old] #[.slice A n c] hg info69 rfl (by simp [Value.oneCell'])
theorem wp_slot {Q : Exit → Act → World → Prop} {oi : Oper} {a : Act} {w : World} {K : Act → World → Prop} (hN : oi.dst = none) (x y : Operand) (ho : oi.op = .store 69 x y)
    (p : Nat) (A : Option Addr) (n c : Nat) (hx : a.eval x = .pointer (some ⟨p, 0, none⟩)) (hy : a.eval y = .slice A n c) (old : Value) (hg : w.heap[p]? = some (.cells #[old] 71 (0, 0))) (h : K (a.put none undef) (w.setRow p #[.slice A n c])) : oi.wp Try.prog a w K Q := by
  unfold Oper.wp execOp
  simp only [ho, hx, hy, Instr.storeAt, Instr.sureAddr, Sem.run_bind, Sem.run_pure, Result.andThen_ok, run_slot w p A n c old hg]
  rw [← hN] at h
  exact h
theorem slot_ {ops : Array Oper} {Q : Exit → Act → World → Prop} {oi : Oper} {a : Act} {w : World} {K : Act → World → Prop} (hw : Region.wanted oi (yielded ops a.tmps) = true) (hN : oi.dst = none) (x y : Operand) (ho : oi.op = .store 69 x y)
    (p : Nat) (A : Option Addr) (n c : Nat) (hx : a.eval x = .pointer (some ⟨p, 0, none⟩)) (hy : a.eval y = .slice A n c) (old : Value) (hg : w.heap[p]? = some (.cells #[old] 71 (0, 0))) (h : K a (w.setRow p #[.slice A n c])) : if Region.wanted oi (yielded ops a.tmps) = true then Oper.wp Try.prog oi a w K Q else K (a.put none undef) w := by
  rw [if_pos hw]
  exact wp_slot hN x y ho p A n c hx hy old hg h
theorem wpList_slot {ops : Array Oper} {rest : List Oper} {o : Oper} {a : Act} {w : World} {Q : Exit → Act → World → Prop} (hgd : o.guard = none) (hN : o.dst = none) (x y : Operand) (ho : o.op = .store 69 x y)
    (p : Nat) (A : Option Addr) (n c : Nat) (hx : a.eval x = .pointer (some ⟨p, 0, none⟩)) (hy : a.eval y = .slice A n c) (old : Value) (hg : w.heap[p]? = some (.cells #[old] 71 (0, 0))) (h : wpList Try.prog ops Q rest (a.put none undef) (w.setRow p #[.slice A n c])) : wpList Try.prog ops Q (o :: rest) a w :=
  wpList_plain hgd fun _ hK => wp_slot hN x y ho p A n c hx hy old hg (hK _ _ h)
theorem slice_to (W : World) (A : Option Addr) (n c : Nat) (i : Int) (h0 : 0 ≤ i) (h1 : i ≤ c) (ha : A ≠ none) : (Instr.slice 69 (.slice A n c) none (some (.int .i64 i)) none).run Try.prog W = .ok (.slice A i.toNat c) W := by
  have hu : Try.prog.underlying 69 = some (.slice (Try.prog.elem 69)) := by kernel_rfl
  have he : Try.prog.elem 69 = 99 := by kernel_rfl
  obtain ⟨i0, hi, hs⟩ := Option.map_eq_some_iff.1 info99s
  rw [run_slice_h W 69 A n c hu .i64 i h0 h1, he]
  simp [sizeOf, typeInfo, hi, hs, sliced, Result.andThen]
  intro _
  cases A with
  | none => rfl
  | some ad => simp [Addr.add]
theorem slice_from (W : World) (A : Option Addr) (n c : Nat) (i : Int) (h0 : 0 ≤ i) (h1 : i ≤ n) (hc : n ≤ c) : (Instr.slice 69 (.slice A n c) (some (.int .i64 i)) none none).run Try.prog W = .ok (.slice (if c = i.toNat then A else A.map (·.add (i.toNat * 3))) (n - i.toNat) (c - i.toNat)) W := by
  have hu : Try.prog.underlying 69 = some (.slice (Try.prog.elem 69)) := by kernel_rfl
  have he : Try.prog.elem 69 = 99 := by kernel_rfl
  obtain ⟨i0, hi, hs⟩ := Option.map_eq_some_iff.1 info99s
  rw [run_slice_l W 69 A n c hu .i64 i h0 h1, he]
  simp [sizeOf, typeInfo, hi, hs, sliced, Result.andThen]
set_option maxHeartbeats 4000000 in
set_option maxRecDepth 100000 in
theorem rrem_miss (p : Nat) (W : List Sty) (n : ByteArray) (w : World) (hs : RSheet w p W) (hl : W.length ≤ 1000) (hf : fnd W n = none) :
    Calls Try.prog 35 #[.pointer (some ⟨p, 0, none⟩), .string n] w fun e w' => e = .returned (.int .i64 6) ∧ w' = w := by
  have HAt : Aside0 (∀ w', RSheet w' p W → Calls Try.prog 51 #[.pointer (some ⟨p, 0, none⟩), .string n] w' fun e w'' => e = .returned (.int .i64 (-1)) ∧ w'' = w') := ⟨fun w' hw' => at_fix p W n (-1) w' hw' hl (.inl ⟨rfl, hf⟩)⟩
  have HS := Aside0.mk hs
  clear hs hl hf
  go_enter Try.func35, Try.ntmps35
  go_wp2_with (first | (go_at_call 51; with_reducible refine (HAt.out _ HS.out).mono ?_; rintro x wz ⟨rfl, hw⟩; rw [hw]; clear hw))
  go_ret
  exact ⟨rfl, rfl⟩
theorem eraseP_at {W : List Sty} {n : ByteArray} : ∀ {i : Nat} {s : Sty}, W[i]? = some s → s.1 = n → (∀ j, j < i → ∀ t, W[j]? = some t → t.1 ≠ n) → delL W n = W.take i ++ W.drop (i + 1) := by
  induction W with
  | nil => intro i s h; simp at h
  | cons t W ih =>
    intro i s h e hm
    unfold delL at ih ⊢
    rw [List.eraseP_cons]
    cases i with
    | zero =>
      cases h
      rw [e, ba_refl]
      simp
    | succ i =>
      have h0 := hm 0 (Nat.succ_pos _) t rfl
      rw [ba_ne (fun e => h0 e.symm)]
      have := ih (i := i) (s := s) (by simpa using h) e (fun j hj t ht => hm (j + 1) (by omega) t (by simpa using ht))
      simp only [cond_false, List.take_succ_cons, List.drop_succ_cons, List.cons_append]
      rw [this]
theorem reads_take {w : World} : ∀ {M : List Ent} {W : List Sty} (i : Nat), Reads w M W → Reads w (M.take i) (W.take i)
  | [], [], _, _ => by simp [Reads]
  | m :: M, s :: W, 0, _ => by simp [Reads]
  | m :: M, s :: W, i + 1, ⟨h1, h2, h3, h4⟩ => ⟨h1, h2, h3, reads_take i h4⟩
  | [], _ :: _, _, h => h.elim
  | _ :: _, [], _, h => h.elim
theorem reads_drop {w : World} : ∀ {M : List Ent} {W : List Sty} (i : Nat), Reads w M W → Reads w (M.drop i) (W.drop i)
  | [], [], _, _ => by simp [Reads]
  | m :: M, s :: W, 0, h => h
  | m :: M, s :: W, i + 1, ⟨_, _, _, h4⟩ => reads_drop i h4
  | [], _ :: _, _, h => h.elim
  | _ :: _, [], _, h => h.elim
theorem reads_app {w : World} : ∀ {M M2 : List Ent} {W W2 : List Sty}, Reads w M W → Reads w M2 W2 → Reads w (M ++ M2) (W ++ W2)
  | [], _, [], _, _, h => h
  | m :: M, _, s :: W, _, ⟨h1, h2, h3, h4⟩, h => ⟨h1, h2, h3, reads_app h4 h⟩
  | [], _, _ :: _, _, h, _ => h.elim
  | _ :: _, _, [], _, h, _ => h.elim
/-- What a removal makes of the sheet. -/
theorem RSheet.set {w : World} {p : Nat} {old : Value} {A : Option Addr} {c : Nat} {M : List Ent} {W : List Sty} (h1 : w.heap[p]? = some (.cells #[old] 71 (0, 0))) (hc : M.length ≤ c) (hC : Kd.C kSt w A M.length M) (hne : ∀ ad, A = some ad → ad.block ≠ p) (hr : Reads w M W) (hs : ∀ v l, Sl w v l → Sl (w.setRow p #[.slice A M.length c]) v l) : RSheet (w.setRow p #[.slice A M.length c]) p W := by
  refine ⟨A, c, M, setRow_heap w p _ _ 71 (0, 0) h1, hc, ?_, hr.imp hs⟩
  refine ⟨hC.1, hC.2.1, fun hp => ?_⟩
  obtain ⟨ad, e, hcells⟩ := hC.2.2 hp
  refine ⟨ad, e, fun j q hj => ?_⟩
  obtain ⟨cs, g1, g2, g3⟩ := hcells j q hj
  refine ⟨cs, g1, g2, fun i u hu => ?_⟩
  have := g3 i u hu
  have hb : ((ad.add (j * kSt.sz + i))).block ≠ p := by rw [add_block]; exact hne ad e
  exact (World.cell?_of_block (setRow_other w p _ _ hb)).trans this
theorem grown_slot {w0 w : World} {p : Nat} (h : Below w0.heap.size w0 w) (cs : Array Value) : w0.grownBy (w.setRow p cs) (some p) :=
  ⟨h.os, h.tape, h.output, by have := h.size; simp [World.setRow]; exact this, fun k hk hne => (setRow_other w p k cs (fun e => hne (by rw [e]))).trans (h.block k hk)⟩
theorem Sl.grown {w w' : World} {b : Nat} {v : Value} {l : List S37} (h : Sl w v l) (hno : ∀ a k x, w.cell? a = some (.int k x) → a.block ≠ b) (hg : w.grownBy w' (some b)) : Sl w' v l := by
  obtain ⟨A, c, e, hc, hr⟩ := h
  refine ⟨A, c, e, hc, hr.1, hr.2.1, fun hp => ?_⟩
  obtain ⟨ad, e, hcells⟩ := hr.2.2 hp
  refine ⟨ad, e, fun j q hj => ?_⟩
  obtain ⟨cs, g1, g2, g3⟩ := hcells j q hj
  have g4 := k37_open g2
  subst g4
  refine ⟨_, g1, k37_mk w' q, fun i u hu => ?_⟩
  have h5 := g3 i u hu
  have hi : ∃ x, u = .int .i64 x := by
    match i, hu with
    | 0, hu => cases hu; exact ⟨_, rfl⟩
    | 1, hu => cases hu; exact ⟨_, rfl⟩
    | i + 2, hu => simp at hu
  obtain ⟨x, rfl⟩ := hi
  exact hg.cell h5 (by have := hno _ _ _ h5; simpa using this)
theorem slot_no {w : World} {p : Nat} {A : Option Addr} {n c : Nat} {t : TypeId} (h : w.heap[p]? = some (.cells #[.slice A n c] t (0, 0))) : ∀ a k x, w.cell? a = some (.int k x) → a.block ≠ p := by
  intro a k x hc e
  obtain ⟨b, off, spot⟩ := a
  subst e
  unfold World.cell? at hc
  simp only at h
  rw [h] at hc
  cases off with
  | zero => simp at hc
  | succ off => simp at hc
theorem map_no {w : World} {g : Nat} {es : Array MapEntry} {cl : Nat} (h : w.heap[g]? = some (.map es cl)) : ∀ a v, w.cell? a = some v → a.block ≠ g := by
  intro a v hc e
  obtain ⟨b, off, spot⟩ := a
  subst e
  unfold World.cell? at hc
  simp only at h
  rw [h] at hc
  simp at hc
/-- The program's sheet stays while the reference's is written. -/
theorem Sheet.slot {w w' : World} {gs gm p : Nat} {L : List Sty} {A : Option Addr} {n c : Nat} (h : Sheet w gs gm L) (hp : w.heap[p]? = some (.cells #[.slice A n c] 71 (0, 0))) (hg : w.grownBy w' (some p)) : Sheet w' gs gm L := by
  obtain ⟨h1, M, ⟨es, cl, h2, h2'⟩, h3⟩ := h
  have hs : gs ≠ p := fun e => by subst e; rw [h1] at hp; cases hp
  have hm : gm ≠ p := fun e => by subst e; rw [h2] at hp; cases hp
  exact ⟨(hg.block gs (Array.getElem?_eq_some_iff.1 h1).1 (by simpa using hs)).trans h1, M, ⟨es, cl, (hg.block gm (Array.getElem?_eq_some_iff.1 h2).1 (by simpa using hm)).trans h2, h2'⟩, h3.imp (fun v l h => h.grown (slot_no hp) hg)⟩
theorem Sheet.other {w w' : World} {gs gm g2 : Nat} {L : List Sty} {es : Array MapEntry} {cl : Nat} (h : Sheet w gs gm L) (hp : w.heap[g2]? = some (.map es cl)) (hne : gm ≠ g2) (hg : w.grownBy w' (some g2)) : Sheet w' gs gm L := by
  obtain ⟨h1, M, ⟨es, cl, h2, h2'⟩, h3⟩ := h
  have hs : gs ≠ g2 := fun e => by subst e; rw [h1] at hp; cases hp
  exact ⟨(hg.block gs (Array.getElem?_eq_some_iff.1 h1).1 (by simpa using hs)).trans h1, M, ⟨es, cl, (hg.block gm (Array.getElem?_eq_some_iff.1 h2).1 (by simpa using hne)).trans h2, h2'⟩, h3.imp (fun v l h => h.grown (fun a k x hc => map_no hp a _ hc) hg)⟩
theorem kSt_grown {w w' : World} {b : Nat} {A : Option Addr} {n : Nat} {M : List Ent} (h : Kd.C kSt w A n M) (hno : ∀ ad, A = some ad → 0 < n → ad.block ≠ b) (hg : w.grownBy w' (some b)) : Kd.C kSt w' A n M := by
  refine ⟨h.1, h.2.1, fun hp => ?_⟩
  obtain ⟨ad, e, hcells⟩ := h.2.2 hp
  refine ⟨ad, e, fun j q hj => ?_⟩
  obtain ⟨cs, g1, g2, g3⟩ := hcells j q hj
  exact ⟨cs, g1, g2, fun i u hu => hg.cell (g3 i u hu) (by rw [add_block]; have := hno ad e hp; simpa using this)⟩
theorem kSt_cell {w : World} {A : Option Addr} {n : Nat} {M : List Ent} (h : Kd.C kSt w A n M) (hn : 0 < n) : ∃ ad s, A = some ad ∧ w.cell? (ad.add 0) = some (.string s) := by
  obtain ⟨ad, e, hcells⟩ := h.2.2 hn
  obtain ⟨m, hm⟩ : ∃ m, M[0]? = some m := ⟨_, List.getElem?_eq_getElem (by have := h.1; omega)⟩
  obtain ⟨cs, g1, g2, g3⟩ := hcells 0 m hm
  have g4 := g2.1
  subst g4
  exact ⟨ad, m.1, e, by have := g3 0 _ rfl; simpa using this⟩
/-- The reference's sheet stays while the program's is written, or another of the reference's. -/
theorem RSheet.map {w w' : World} {p g2 : Nat} {W : List Sty} {es : Array MapEntry} {cl : Nat} (h : RSheet w p W) (hp : w.heap[g2]? = some (.map es cl)) (hg : w.grownBy w' (some g2)) : RSheet w' p W := by
  obtain ⟨A, c, M, h1, h2, h3, h4⟩ := h
  have hs : p ≠ g2 := fun e => by subst e; rw [h1] at hp; cases hp
  refine ⟨A, c, M, (hg.block p (Array.getElem?_eq_some_iff.1 h1).1 (by simpa using hs)).trans h1, h2, kSt_grown h3 (fun ad e hn => ?_) hg, h4.imp (fun v l h => h.grown (fun a k x hc => map_no hp a _ hc) hg)⟩
  obtain ⟨ad2, s, e2, hc⟩ := kSt_cell h3 hn
  rw [e] at e2
  cases e2
  have := map_no hp _ _ hc
  rwa [add_block] at this
theorem RSheet.other {w w' : World} {p p2 : Nat} {W : List Sty} {A2 : Option Addr} {n2 c2 : Nat} (h : RSheet w p W) (hp : w.heap[p2]? = some (.cells #[.slice A2 n2 c2] 71 (0, 0))) (hne : p ≠ p2) (hg : w.grownBy w' (some p2)) : RSheet w' p W := by
  obtain ⟨A, c, M, h1, h2, h3, h4⟩ := h
  refine ⟨A, c, M, (hg.block p (Array.getElem?_eq_some_iff.1 h1).1 (by simpa using hne)).trans h1, h2, kSt_grown h3 (fun ad e hn => ?_) hg, h4.imp (fun v l h => h.grown (slot_no hp) hg)⟩
  obtain ⟨ad2, s, e2, hc⟩ := kSt_cell h3 hn
  rw [e] at e2
  cases e2
  intro hb
  have h5 := hc
  unfold World.cell? at h5
  rw [add_block, hb, hp] at h5
  generalize (ad.add 0).off = o at h5
  cases o with
  | zero => simp at h5
  | succ o => simp at h5
end Go.Proofs.Ytpcpjlbfhbicaaa.Sh
end
section
set_option linter.unusedVariables false
set_option linter.unusedSimpArgs false
namespace Go.Proofs.Ytpcpjlbfhbicaaa.Sh
open Go Go.RowKit Go.Proofs.YtpcpjlbfhbicaaaW.PrintWords Go.Proofs.YtpcpjlbfhbicaaaW.PrintLast Go.Proofs.YtpcpjlbfhbicaaaW.PrintMore Go.Proofs.Ytpcpjlbfhbicaaa.PStyleProps
open Go.Proofs.Ytpcpjlbfhbicaaa.PStyleNearest (S37 k37 z37 rd_T37 at_T37 k37_open k37_openM k37_mk k37_mkM info37)
theorem R_off {w : World} {base : Nat} {ok : Nat → Prop} {A : Option Addr} {n c : Nat} {M : List Ent} (h : Kd.R kSt 99 w base ok (.slice A n c) M) : ∀ ad, A = some ad → base ≤ ad.block := by
  rintro ad rfl
  obtain ⟨h0, inner, hown, hr⟩ := h
  exact (hown.lt ad.block rfl).1
end Go.Proofs.Ytpcpjlbfhbicaaa.Sh
end
