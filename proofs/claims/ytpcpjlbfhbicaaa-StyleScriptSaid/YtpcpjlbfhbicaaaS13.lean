/- Own walks for the law, joined from several texts: what the law reaches, and no more (joined by keeplive.py). -/
import Derived.Test.YtpcpjlbfhbicaaaS12
set_option linter.unusedVariables false
set_option linter.unusedSimpArgs false
namespace Go.Proofs.Ytpcpjlbfhbicaaa.Sh
open Go Go.RowKit Go.Proofs.YtpcpjlbfhbicaaaW.PrintWords Go.Proofs.YtpcpjlbfhbicaaaW.PrintLast Go.Proofs.YtpcpjlbfhbicaaaW.PrintMore Go.Proofs.Ytpcpjlbfhbicaaa.PStyleProps
open Go.Proofs.Ytpcpjlbfhbicaaa.PStyleNearest (S37 k37 z37 rd_T37 at_T37 k37_open k37_openM k37_mk k37_mkM info37)
theorem info37z : (Try.prog.info? 37).map (·.size) = some 2 := by kernel_rfl
set_option maxHeartbeats 4000000 in
set_option maxRecDepth 100000 in
theorem script_long (A A0 : Option Addr) (n c m0 c0 : Nat) (w : World) (h0 : 60 < n ∨ 70 < m0) : Calls Try.prog 8 #[.slice A n c, .slice A0 m0 c0] w fun e w' => e = .returned (.bool true) ∧ Below w.heap.size w w' := by
  have hu55 := Try.underlying55
  have hu43 := Try.underlying43
  by_cases h1 : 60 < n
  · have da : decide ((60 : Int) < (n : Int)) = true := decide_eq_true (by omega)
    have db : decide (60 < n) = true := decide_eq_true h1
    clear h0 h1
    go_enter Try.func8, Try.ntmps8
    go_wp2
    go_ret
    exact ⟨rfl, Below.refl _ _⟩
  · have h2 : 70 < m0 := by omega
    have da : decide ((60 : Int) < (n : Int)) = false := decide_eq_false (by omega)
    have db : decide (60 < n) = false := decide_eq_false h1
    have dc : decide ((70 : Int) < (m0 : Int)) = true := decide_eq_true (by omega)
    have dd : decide (70 < m0) = true := decide_eq_true h2
    clear h0 h1 h2
    go_enter Try.func8, Try.ntmps8
    go_wp2
    go_ret
    exact ⟨rfl, Below.refl _ _⟩
theorem sl_own {w0 w : World} {b g base : Nat} {ac : Array Value} {v : Value} {l : List S37} {A : Option Addr} {m c : Nat} {xs : List S37} {gs gm p : Nat} {L W : List Sty} {gs2 gm2 p2 : Nat} {L2 W2 : List Sty} (h : Rn w0 w b g base ac v l A m c xs gs gm p L W gs2 gm2 p2 L2 W2) : Sl w (.slice A m c) xs := by
  obtain ⟨A', c', e, h1, h2⟩ := Kd.R_reads h.own
  exact ⟨A', c', e, h1, h2⟩
theorem at_S37 {w : World} {A : Option Addr} {n : Nat} {xs : List S37} (h : Kd.C k37 w A n xs) (i : Nat) (q : S37) (hq : xs[i]? = some q) (hn : xs.length = n) :
    ∃ ad, A = some ad ∧ w.cell? (ad.add (i * 2)) = some (.int .i64 q.f0) ∧ w.cell? ⟨(ad.add (i * 2)).block, (ad.add (i * 2)).off + 1, none⟩ = some (.int .i64 q.f1) := by
  have hlt : i < xs.length := (List.getElem?_eq_some_iff.1 hq).1
  obtain ⟨ad, c, e, _, hK, hc0⟩ := Kd.C_get h z37 (i : Int) (by omega) (by omega)
  have hc : ∀ j u, c[j]? = some u → w.cell? (ad.add (i * 2 + j)) = some u := by
    intro j u hj
    have := hc0 j u hj
    rw [Int.toNat_natCast] at this
    exact this
  have hg : xs.getD i z37 = q := by rw [List.getD_eq_getElem?_getD, hq]; rfl
  rw [Int.toNat_natCast, hg] at hK
  have hK' := k37_open hK
  subst hK'
  exact ⟨ad, e, hc 0 _ rfl, by rw [← add_field _ _ 1 (by omega)]; exact hc 1 _ rfl⟩
theorem at_Sl {w : World} {A : Option Addr} {n c : Nat} {l : List S37} (h : Sl w (.slice A n c) l) (i : Nat) (q : S37) (hq : l[i]? = some q) :
    ∃ ad, A = some ad ∧ w.cell? (ad.add (i * 2)) = some (.int .i64 q.f0) ∧ w.cell? ⟨(ad.add (i * 2)).block, (ad.add (i * 2)).off + 1, none⟩ = some (.int .i64 q.f1) := by
  obtain ⟨A', c', e, hc, hr⟩ := h
  injection e with e1 e2 e3
  subst e1
  exact at_S37 hr i q hq rfl
theorem lt_alloc {w w2 : World} {o : Obj} {row : Option Nat} (hg : (w.alloc o).grownBy w2 row) : w.heap.size < w2.heap.size := by
  have h := hg.size
  have e : (w.alloc o).heap.size = w.heap.size + 1 := by simp
  omega
theorem two_cells {w : World} {ad : Addr} {b o : Nat} {f0 f1 : Int} (e : ad = ⟨b, 0, none⟩) (h0 : w.cell? (ad.add o) = some (.int .i64 f0)) (h1 : w.cell? ⟨(ad.add o).block, (ad.add o).off + 1, none⟩ = some (.int .i64 f1)) :
    ∀ j u, ([.int .i64 f0, .int .i64 f1] : List Value)[j]? = some u → w.cell? ⟨b, o + j, none⟩ = some u := by
  subst e
  rw [add_plain] at h0 h1
  intro j u hj
  match j, hj with
  | 0, hj => cases hj; exact h0
  | 1, hj => cases hj; exact h1
  | j + 2, hj => simp at hj
set_option maxHeartbeats 16000000 in
set_option maxRecDepth 100000 in
theorem script_main (A A0 : Option Addr) (n c m0 c0 : Nat) (own : List S37) (w : World) (h0 : n ≤ 60) (h1 : m0 ≤ 70) (ha : ActsS w A n) (hv : Sl w (.slice A0 m0 c0) own) : Calls Try.prog 8 #[.slice A n c, .slice A0 m0 c0] w fun e w' => e = .returned (.bool true) ∧ Below w.heap.size w w' := by
  have hu55 := Try.underlying55
  have hu57 := Try.underlying57
  have hu43 := Try.underlying43
  have hu37 := Try.underlying37
  have hu71 := Try.underlying71
  have hu69 := Try.underlying69
  have da : decide ((60 : Int) < (n : Int)) = false := decide_eq_false (by omega)
  have db : decide (60 < n) = false := decide_eq_false (by omega)
  have dc : decide ((70 : Int) < (m0 : Int)) = false := decide_eq_false (by omega)
  have dd : decide (70 < m0) = false := decide_eq_false (by omega)
  have HN := Aside0.mk h0
  have HA := Aside0.mk ha
  have HV := Aside0.mk hv
  clear h0 h1 ha hv
  go_enter Try.func8, Try.ntmps8
  go_wp2_with (first | (go_at_call 22; refine (new_calls _).mono ?_; rintro e w2 ⟨gs, gm, rfl, hgs, hgm, hne, h1, h2, hb⟩; have HS := Aside0.mk (sheet_new h1 h2); have GM : Aside0 (w.heap.size ≤ gm) := ⟨hgm⟩; have HB := Aside0.mk hb; clear hgs hgm hne h1 h2 hb) | (go_at_call 32; refine (clone_sheet gs gm [] _ (HS.out.below (below_alloc (Below.refl _ _) (.cells #[.slice none 0 0] 71)))).mono ?_; rintro e w3 ⟨gs2, gm2, rfl, hgs2, hgm2, hs2, hb3⟩; have HS2 := Aside0.mk hs2; have GM2 := Aside0.mk hgm2; have HB3 := Aside0.mk hb3; clear hgs2 hgm2 hs2 hb3) | (go_at_call 33; refine (rclone_calls w2.heap.size [] _ ((rsheet_new w2).below HB3.out) (by decide)).mono ?_; rintro e w4 ⟨p2, rfl, hp2, hr2, hb4⟩; have H0 := Aside0.mk (St0.start HS.out GM.out HB.out HS2.out GM2.out HB3.out hr2 hp2 hb4); clear HS GM HB HS2 GM2 HB3 hp2 hr2 hb4))
  generalize w2.heap.size = p at H0 ⊢
  go_loopg [5, 6, 7, 8, 9] n (fun kq v5 v6 v7 v8 v9 w' => ∃ (gs gm p : Nat) (L W : List Sty) (gs2 gm2 p2 : Nat) (L2 W2 : List Sty) (i : Int), v5 = .pointer (some ⟨gs, 0, none⟩) ∧ v6 = .pointer (some ⟨p, 0, none⟩) ∧ v7 = .pointer (some ⟨gs2, 0, none⟩) ∧ v8 = .pointer (some ⟨p2, 0, none⟩) ∧ v9 = .int .i64 i ∧ Aside0 (0 ≤ i ∧ i + kq = n) ∧ Aside0 (Two L W ∧ Two L2 W2) ∧ Aside0 (St0 w w' gs gm p L W gs2 gm2 p2 L2 W2))
  case atStart => exact ⟨gs, gm, p, [], [], gs2, gm2, p2, [], [], 0, rfl, rfl, rfl, rfl, rfl, ⟨by omega, by omega⟩, ⟨⟨Two.nil, Two.nil⟩⟩, H0⟩
  case round =>
    clear H0
    obtain ⟨gs, gm, p, L, W, gs2, gm2, p2, L2, W2, i, rfl, rfl, rfl, rfl, rfl, HI, HT, H0⟩ := hrel
    cases gk with
    | zero =>
      have hi := HI.out
      have q109 : decide (i < (n : Int)) = false := decide_eq_false (by omega)
      clear hi
      have HT1 : Aside0 (∀ w', Sheet w' gs gm L → RSheet w' p W → Sl w' (.slice A0 m0 c0) own → Calls Try.prog 36 #[.pointer (some ⟨gs, 0, none⟩), .pointer (some ⟨p, 0, none⟩), .string ⟨#[97]⟩, .slice A0 m0 c0] w' fun e w'' => e = .returned (.bool true) ∧ Below w'.heap.size w' w'') := ⟨fun w' h1 h2 h3 => two_told HT.out.1 gs gm p ⟨#[97]⟩ _ own w' h1 h2 h3⟩
      have HT2 : Aside0 (∀ w', Sheet w' gs2 gm2 L2 → RSheet w' p2 W2 → Sl w' (.slice A0 m0 c0) own → Calls Try.prog 36 #[.pointer (some ⟨gs2, 0, none⟩), .pointer (some ⟨p2, 0, none⟩), .string ⟨#[97]⟩, .slice A0 m0 c0] w' fun e w'' => e = .returned (.bool true) ∧ Below w'.heap.size w' w'') := ⟨fun w' h1 h2 h3 => two_told HT.out.2 gs2 gm2 p2 ⟨#[97]⟩ _ own w' h1 h2 h3⟩
      have HT3 : Aside0 (∀ w', Sheet w' gs gm L → RSheet w' p W → Sl w' (.slice A0 m0 c0) own → Calls Try.prog 36 #[.pointer (some ⟨gs, 0, none⟩), .pointer (some ⟨p, 0, none⟩), .string ⟨#[]⟩, .slice A0 m0 c0] w' fun e w'' => e = .returned (.bool true) ∧ Below w'.heap.size w' w'') := ⟨fun w' h1 h2 h3 => two_told HT.out.1 gs gm p ⟨#[]⟩ _ own w' h1 h2 h3⟩
      go_wp2_with (first | (go_at_call 36; with_reducible refine (HT1.out _ H0.out.s1 H0.out.r1 (HV.out.below H0.out.bel)).mono ?_; rintro x wz ⟨rfl, hb⟩; have HZ := Aside0.mk (H0.out.below hb); clear H0 hb; have H0 := HZ; clear HZ) | (go_at_call 36; with_reducible refine (HT2.out _ H0.out.s2 H0.out.r2 (HV.out.below H0.out.bel)).mono ?_; rintro x wz ⟨rfl, hb⟩; have HZ := Aside0.mk (H0.out.below hb); clear H0 hb; have H0 := HZ; clear HZ) | (go_at_call 36; with_reducible refine (HT3.out _ H0.out.s1 H0.out.r1 (HV.out.below H0.out.bel)).mono ?_; rintro x wz ⟨rfl, hb⟩; have HZ := Aside0.mk (H0.out.below hb); clear H0 hb; have H0 := HZ; clear HZ))
      go_ret
      exact ⟨rfl, H0.out.bel⟩
    | succ k1 =>
      have hi := HI.out
      have p108 : 0 ≤ i := hi.1
      have q108 : i < (n : Int) := by omega
      have cb1 : decide (i < (n : Int)) = true := decide_eq_true q108
      have hadd : wrap64 (i + 1) = i + 1 := by have := HN.out; unfold wrap64; omega
      obtain ⟨ad, kd, nm, pn, B, m, cB, l, e108, x0, x1, x2, x3, hml, hsl⟩ := HA.out i.toNat (by omega)
      subst e108
      replace x0 := (H0.out.bel.cell (World.block_lt_of_cell? w _ x0)).trans x0
      replace x1 := (H0.out.bel.cell (World.block_lt_of_cell? w _ x1)).trans x1
      replace x2 := (H0.out.bel.cell (World.block_lt_of_cell? w _ x2)).trans x2
      replace x3 := (H0.out.bel.cell (World.block_lt_of_cell? w _ x3)).trans x3
      have HSl := Aside0.mk (hsl.below H0.out.bel)
      have HML := Aside0.mk hml
      clear hi hml hsl
      replace p108 := eq_true p108
      replace q108 := eq_true q108
      go_upto_region 12 with fail
      have BK := Aside0.mk (blk_new wr (.cells #[.int .i64 kd, .string nm, .string pn, .slice B m cB] 57))
      have H1 := Aside0.mk (H0.out.below (below_alloc (Below.refl _ _) (.cells #[.int .i64 kd, .string nm, .string pn, .slice B m cB] 57)))
      have HSl1 := Aside0.mk (HSl.out.below (below_alloc (Below.refl _ _) (.cells #[.int .i64 kd, .string nm, .string pn, .slice B m cB] 57)))
      have HGn : Aside0 (gm < wr.heap.size ∧ p < wr.heap.size) := ⟨(sheet_lt H0.out.s1).2, H0.out.r1.lt⟩
      clear H0 HSl x0 x1 x2 x3
      generalize wr.alloc (.cells #[.int .i64 kd, .string nm, .string pn, .slice B m cB] 57) = w1 at BK H1 HSl1 ⊢
      generalize wr.heap.size = g at BK HGn ⊢
      have y0 := (blk_cell BK.out 0).trans rfl
      have y1 := (blk_cell BK.out 1).trans rfl
      have y2 := (blk_cell BK.out 2).trans rfl
      have y3 := (blk_cell BK.out 3).trans rfl
      by_cases b1 : 70 < m
      · have d1 : decide ((70 : Int) < (m : Int)) = true := decide_eq_true (by omega)
        have d2 : decide (70 < m) = true := decide_eq_true b1
        clear b1
        go_wp2
        go_ret
        exact ⟨rfl, H1.out.bel⟩
      have d1 : decide ((70 : Int) < (m : Int)) = false := decide_eq_false (by omega)
      have d2 : decide (70 < m) = false := decide_eq_false b1
      by_cases b2 : 100 < nm.size
      · have d3 : decide ((100 : Int) < (nm.size : Int)) = true := decide_eq_true (by omega)
        have d4 : decide (100 < nm.size) = true := decide_eq_true b2
        clear b1 b2
        go_wp2
        go_ret
        exact ⟨rfl, H1.out.bel⟩
      have d3 : decide ((100 : Int) < (nm.size : Int)) = false := decide_eq_false (by omega)
      have d4 : decide (100 < nm.size) = false := decide_eq_false b2
      by_cases b3 : 100 < pn.size
      · have d5 : decide ((100 : Int) < (pn.size : Int)) = true := decide_eq_true (by omega)
        have d6 : decide (100 < pn.size) = true := decide_eq_true b3
        clear b1 b2 b3
        go_wp2
        go_ret
        exact ⟨rfl, H1.out.bel⟩
      have d5 : decide ((100 : Int) < (pn.size : Int)) = false := decide_eq_false (by omega)
      have d6 : decide (100 < pn.size) = false := decide_eq_false b3
      have HM : Aside0 (m ≤ 70 ∧ nm.size ≤ 100) := ⟨by omega, by omega⟩
      clear b1 b2 b3
      have HO0 : Aside0 (Kd.R k37 37 (w1.alloc (.cells #[] 37)) w1.heap.size (fun _ => True) (.slice (some ⟨w1.heap.size, 0, none⟩) 0 0) []) := ⟨⟨fun _ _ => trivial, [], World.ownsRow_made w1 #[] 0 (Nat.le_refl _) (Nat.zero_le _) rfl, Reps.none _ _⟩⟩
      have e3 := (blk_cell (blk_below BK.out (below_alloc (Below.refl _ _) (.cells #[] 37))) 3).trans rfl
      go_upto_region 15 with (first | (at_builtin; refine Kd.R_append_rows k37 (w0 := w1) (Rr := fun x cs => cs = [.int .i64 x.f0, .int .i64 x.f1]) w1.heap.size rfl (.tmp 56) (.tmp 58) 43 37 (.agg #[(.int .i64 0), (.int .i64 0)]) 16 rfl Try.underlying43 info37 rfl (by decide) (by omega) (.slice (some ⟨w1.heap.size, 0, none⟩) 0 0) [] l B m cB (fun _ => True) (fun _ => False) rfl rfl HO0.out ?aR ?aK (fun _ hk => hk.elim) (fun _ _ => trivial) (below_alloc (Below.refl _ _) _) ?aB ?aL ?_; (case aR => (obtain ⟨A9, c9, e9, _, r9⟩ := HSl1.out; injection e9 with e91 e92 e93; subst e91 e92 e93; exact Kd.C_below r9 (below_alloc (Below.refl _ _) _) |>.imp_ (Below.refl _ _) (fun _ _ hp => k37_open hp))); (case aK => (intro x cs hx; subst hx; exact k37_mkM _ _ _ x)); (case aB => simp); (case aL => (have := HM.out; simp only [List.length_nil]; omega)); intro v1 w2 ho1 hb1 hg1 hat1; rw [List.nil_append] at ho1; have hlt := lt_alloc hg1; replace ho1 := Kd.R_mono (Kd.R_bound ho1) (fun k hk => hk.2.1); obtain ⟨Ai, ci, ev1, q1, q2⟩ := Kd.R_reads ho1; subst ev1; obtain ⟨mi, hmi⟩ : ∃ mi, mi = l.length := ⟨_, rfl⟩; rw [← hmi] at ho1 ⊢; obtain rfl : m = mi := HML.out.trans hmi.symm; obtain ⟨gI, t1, t2, t3⟩ := R_block ho1 hlt; have HSt := Aside0.mk (H1.out.o t1 t2 hb1); have HOf := Aside0.mk (HSl1.out.off t1); have HSl2 := Aside0.mk (HSl1.out.below hb1); have HBK2 := Aside0.mk (blk_below BK.out hb1); have HOw := Aside0.mk ho1; have HGb := Aside0.mk (show g < w1.heap.size from blk_lt BK.out); have HAd := Aside0.mk t3; have HGe := Aside0.mk t1; clear ho1 hb1 hg1 hat1 q1 q2 hlt t1 t2 t3 hmi))
      have HR : Aside0 (Rn w w2 gI g w1.heap.size #[.int .i64 kd, .string nm, .string pn, .slice B m cB] (.slice B m cB) l Ai m ci l gs gm p L W gs2 gm2 p2 L2 W2) := ⟨⟨HSt.out, HBK2.out, HSl2.out, HOw.out, HOf.out, HGb.out, HGe.out, HAd.out⟩⟩
      clear HSt HOf HSl2 HBK2 HOw HGb HAd HGe HO0 e3 y0 y1 y2 y3 HSl1 H1 BK
      generalize w1.heap.size = base at HR
      by_cases k0 : kd = 0
      · subst k0
        have y0 := (blk_cell HR.out.bk 0).trans rfl
        obtain ⟨e, L3, W3, h3, hd, hr⟩ := two_define HT.out.1 nm pn l (by have := HM.out; omega)
        have HT3 := Aside0.mk h3
        have HD := Aside0.mk hd
        have HDr := Aside0.mk hr
        have HY1 := Aside0.mk ((blk_cell HR.out.bk 1).trans rfl)
        have HY2 := Aside0.mk ((blk_cell HR.out.bk 2).trans rfl)
        have HY3 := Aside0.mk ((blk_cell HR.out.bk 3).trans rfl)
        have HLt := Aside0.mk HR.out.st.lt
        clear h3 hd hr
        go_upto_region 17 with fail
        have HRd := Aside0.mk (HR.out.below (below_drew1 (Below.refl w2.heap.size w2)))
        refine start_ (n := 16) (S := fun w' => w'.cell? ⟨g, 1, none⟩ = some (.string nm) ∧ w'.cell? ⟨g, 2, none⟩ = some (.string pn) ∧ w'.cell? ⟨g, 3, none⟩ = some (.slice B m cB)) (ds := [14, 15]) #[false, false, false, false, false, false, false, false, false, false, false, false, false, false, false, false] (by kernel_rfl) rfl rfl ⟨(blk_cell HRd.out.bk 1).trans rfl, (blk_cell HRd.out.bk 2).trans rfl, (blk_cell HRd.out.bk 3).trans rfl⟩ (fun hHeld => ?_)
        refine pure_ (i := 0) (N := some 64) (v := ?_) (a' := ?_) #[true, false, false, false, false, false, false, false, false, false, false, false, false, false, false, false] rfl rfl (by kernel_rfl) (fun _ _ _ h => h) (Or.inl ⟨by rfl, ?_⟩) ?_ ?_
        rotate_left
        · intro w'
          go_simp
          with_reducible rfl
        rotate_left
        · simp only [Act.put, List.setIfInBounds_toArray, List.set_cons_zero, List.set_cons_succ, i64_w, i32_w]
          rfl
        refine pure_ (i := 1) (N := some 65) (v := ?_) (a' := ?_) #[true, true, false, false, false, false, false, false, false, false, false, false, false, false, false, false] rfl rfl (by kernel_rfl) (fun _ _ _ h => h) (Or.inl ⟨by rfl, ?_⟩) ?_ ?_
        rotate_left
        · intro w'
          go_simp
          with_reducible rfl
        rotate_left
        · simp only [Act.put, List.setIfInBounds_toArray, List.set_cons_zero, List.set_cons_succ, i64_w, i32_w]
          rfl
        refine pure_ (i := 3) (N := some 67) (v := ?_) (a' := ?_) #[true, true, false, true, false, false, false, false, false, false, false, false, false, false, false, false] rfl rfl (by kernel_rfl) (fun _ _ _ h => h) (Or.inl ⟨by rfl, ?_⟩) ?_ ?_
        rotate_left
        · intro w'
          go_simp
          with_reducible rfl
        rotate_left
        · simp only [Act.put, List.setIfInBounds_toArray, List.set_cons_zero, List.set_cons_succ, i64_w, i32_w]
          rfl
        refine pure_ (i := 5) (N := some 69) (v := ?_) (a' := ?_) #[true, true, false, true, false, true, false, false, false, false, false, false, false, false, false, false] rfl rfl (by kernel_rfl) (fun _ _ _ h => h) (Or.inl ⟨by rfl, ?_⟩) ?_ ?_
        rotate_left
        · intro w'
          go_simp
          with_reducible rfl
        rotate_left
        · simp only [Act.put, List.setIfInBounds_toArray, List.set_cons_zero, List.set_cons_succ, i64_w, i32_w]
          rfl
        refine pure_ (i := 7) (N := some 71) (v := ?_) (a' := ?_) #[true, true, false, true, false, true, false, true, false, false, false, false, false, false, false, false] rfl rfl (by kernel_rfl) (fun _ _ _ h => h) (Or.inl ⟨by rfl, ?_⟩) ?_ ?_
        rotate_left
        · intro w'
          go_simp
          with_reducible rfl
        rotate_left
        · simp only [Act.put, List.setIfInBounds_toArray, List.set_cons_zero, List.set_cons_succ, i64_w, i32_w]
          rfl
        refine pure_ (i := 8) (N := some 72) (v := ?_) (a' := ?_) #[true, true, false, true, false, true, false, true, true, false, false, false, false, false, false, false] rfl rfl (by kernel_rfl) (fun _ _ _ h => h) (Or.inl ⟨by rfl, ?_⟩) ?_ ?_
        rotate_left
        · intro w'
          go_simp
          with_reducible rfl
        rotate_left
        · simp only [Act.put, List.setIfInBounds_toArray, List.set_cons_zero, List.set_cons_succ, i64_w, i32_w]
          rfl
        refine pure_ (i := 10) (N := some 74) (v := ?_) (a' := ?_) #[true, true, false, true, false, true, false, true, true, false, true, false, false, false, false, false] rfl rfl (by kernel_rfl) (fun _ _ _ h => h) (Or.inl ⟨by rfl, ?_⟩) ?_ ?_
        rotate_left
        · intro w'
          go_simp
          with_reducible rfl
        rotate_left
        · simp only [Act.put, List.setIfInBounds_toArray, List.set_cons_zero, List.set_cons_succ, i64_w, i32_w]
          rfl
        refine pure_ (i := 12) (N := some 76) (v := ?_) (a' := ?_) #[true, true, false, true, false, true, false, true, true, false, true, false, true, false, false, false] rfl rfl (by kernel_rfl) (fun _ _ _ h => h) (Or.inl ⟨by rfl, ?_⟩) ?_ ?_
        rotate_left
        · intro w'
          go_simp
          with_reducible rfl
        rotate_left
        · simp only [Act.put, List.setIfInBounds_toArray, List.set_cons_zero, List.set_cons_succ, i64_w, i32_w]
          rfl
        refine take_ (i := 2) (N := some 66) (v := ?_) (a' := ?_) #[true, true, true, true, false, true, false, true, true, false, true, false, true, false, false, false] rfl rfl (by kernel_rfl) (fun _ _ _ h => h) (Or.inl ⟨by rfl, ?_⟩) hHeld ?_ ?_
        rotate_left
        · rintro w' ⟨s0, s1, s2⟩
          go_simp
          with_reducible rfl
        rotate_left
        · simp only [Act.put, List.setIfInBounds_toArray, List.set_cons_zero, List.set_cons_succ, i64_w, i32_w]
          rfl
        refine take_ (i := 4) (N := some 68) (v := ?_) (a' := ?_) #[true, true, true, true, true, true, false, true, true, false, true, false, true, false, false, false] rfl rfl (by kernel_rfl) (fun _ _ _ h => h) (Or.inl ⟨by rfl, ?_⟩) hHeld ?_ ?_
        rotate_left
        · rintro w' ⟨s0, s1, s2⟩
          go_simp
          with_reducible rfl
        rotate_left
        · simp only [Act.put, List.setIfInBounds_toArray, List.set_cons_zero, List.set_cons_succ, i64_w, i32_w]
          rfl
        refine take_ (i := 9) (N := some 73) (v := ?_) (a' := ?_) #[true, true, true, true, true, true, false, true, true, true, true, false, true, false, false, false] rfl rfl (by kernel_rfl) (fun _ _ _ h => h) (Or.inl ⟨by rfl, ?_⟩) hHeld ?_ ?_
        rotate_left
        · rintro w' ⟨s0, s1, s2⟩
          go_simp
          with_reducible rfl
        rotate_left
        · simp only [Act.put, List.setIfInBounds_toArray, List.set_cons_zero, List.set_cons_succ, i64_w, i32_w]
          rfl
        refine take_ (i := 11) (N := some 75) (v := ?_) (a' := ?_) #[true, true, true, true, true, true, false, true, true, true, true, true, true, false, false, false] rfl rfl (by kernel_rfl) (fun _ _ _ h => h) (Or.inl ⟨by rfl, ?_⟩) hHeld ?_ ?_
        rotate_left
        · rintro w' ⟨s0, s1, s2⟩
          go_simp
          with_reducible rfl
        rotate_left
        · simp only [Act.put, List.setIfInBounds_toArray, List.set_cons_zero, List.set_cons_succ, i64_w, i32_w]
          rfl
        refine take_ (i := 13) (N := some 77) (v := ?_) (a' := ?_) #[true, true, true, true, true, true, false, true, true, true, true, true, true, true, false, false] rfl rfl (by kernel_rfl) (fun _ _ _ h => h) (Or.inl ⟨by rfl, ?_⟩) hHeld ?_ ?_
        rotate_left
        · rintro w' ⟨s0, s1, s2⟩
          go_simp
          with_reducible rfl
        rotate_left
        · simp only [Act.put, List.setIfInBounds_toArray, List.set_cons_zero, List.set_cons_succ, i64_w, i32_w]
          rfl
        refine one_ (i := 6) (N := some 70) #[true, true, true, true, true, true, true, true, true, true, true, true, true, true, false, false] rfl rfl (by kernel_rfl) (by decide) (fun K hK => ?_)
        refine goes_ Try.func23 (by kernel_rfl) rfl #[.pointer (some ⟨gs, 0, none⟩), .string nm, .string pn, .slice Ai m ci] (by rfl) rfl rfl (by (simp only [List.map_toArray, List.map_cons, List.map_nil]); first | done | rfl) ?_
        with_reducible refine (HD.out gI gs gm _ w2.drew HRd.out.st.lt HRd.out.st.s1 (sl_own HRd.out)).mono ?_
        rintro x w3 ⟨rfl, hs, hg⟩
        have HR3 := Aside0.mk (HRd.out.def1 HGn.out.1 hs hg)
        clear hs hg
        refine ⟨_, rfl, ?_⟩
        refine hK.out _ _ ⟨(blk_cell HR3.out.bk 1).trans rfl, (blk_cell HR3.out.bk 2).trans rfl, (blk_cell HR3.out.bk 3).trans rfl⟩ (fun hHeld => ?_)
        clear hK K
        refine norm_ (a' := ?_) ?_ ?_
        rotate_left
        · show Act.put _ (some 70) _ = _
          simp only [Act.put, List.setIfInBounds_toArray, List.set_cons_zero, List.set_cons_succ, i64_w, i32_w]
          rfl
        refine last_ (i := 14) (N := some 78) #[true, true, true, true, true, true, true, true, true, true, true, true, true, true, true, false] rfl rfl (by kernel_rfl) (by decide) (fun K hK => ?_)
        refine goes_ Try.func34 (by kernel_rfl) rfl #[.pointer (some ⟨p, 0, none⟩), .string nm, .string pn, .slice B m cB] (by rfl) rfl rfl (by (simp only [List.map_toArray, List.map_cons, List.map_nil]); first | done | rfl) ?_
        with_reducible refine (HDr.out gI p _ w3 HR3.out.st.lt HR3.out.st.r1 HR3.out.sl).mono ?_
        rintro x w4 ⟨rfl, hs, hg⟩
        have HR4 := Aside0.mk (HR3.out.ref1 HGn.out.2 hs hg)
        clear hs hg HR3 HRd HR
        refine ⟨_, rfl, ?_⟩
        refine hK.out _ _ ?_
        clear hK K
        refine last_ (i := 15) (N := some 79) #[true, true, true, true, true, true, true, true, true, true, true, true, true, true, true, true] rfl rfl (by kernel_rfl) (by decide) (fun K hK => ?_)
        refine value_ (by rfl) rfl (v := .bool false) (w1 := w4) (by first | (go_simp; done) | (go_simp; rfl)) ?_
        refine hK.out _ _ ?_
        clear hK K
        refine done_ (by kernel_rfl) ?_
        have HR := HR4
        clear HR4 HY1 HY2 HY3 y0 HD HDr HLt
        go_upto_region 28 with fail
        go_wp2
        skip
        have HX0 : Aside0 (∀ j : Nat, (0 : Int) ≤ j → l[j]? = l[j]?) := ⟨fun _ _ => rfl⟩
        go_loopg [12] m (fun kq v12 w' => ∃ (k : Int) (xs : List S37), v12 = .int .i64 k ∧ Aside0 (0 ≤ k ∧ k + kq = m) ∧ Aside0 (Rn w w' gI g base #[.int .i64 0, .string nm, .string pn, .slice B m cB] (.slice B m cB) l Ai m ci xs gs gm p L3 W3 gs2 gm2 p2 L2 W2) ∧ Aside0 (∀ j : Nat, k ≤ j → xs[j]? = l[j]?))
        case atStart => exact ⟨0, l, rfl, ⟨by omega, by omega⟩, HR, HX0⟩
        case round =>
          clear HR HX0
          obtain ⟨k, xs, rfl, HK, HR, HX⟩ := hrel
          cases gk with
          | zero =>
            have hk := HK.out
            have q109 : decide (k < (m : Int)) = false := decide_eq_false (by omega)
            have HTd : Aside0 (∀ w', Sheet w' gs gm L3 → RSheet w' p W3 → Sl w' (.slice A0 m0 c0) own → Calls Try.prog 36 #[.pointer (some ⟨gs, 0, none⟩), .pointer (some ⟨p, 0, none⟩), .string nm, .slice A0 m0 c0] w' fun e w'' => e = .returned (.bool true) ∧ Below w'.heap.size w' w'') := ⟨fun w' h1 h2 h3 => two_told HT3.out gs gm p nm _ own w' h1 h2 h3⟩
            have y1 := (blk_cell HR.out.bk 1).trans rfl
            have HZ0 := Aside0.mk HR.out.st.to0
            clear hk
            go_wp2_with (first | (go_at_call 36; with_reducible refine (HTd.out _ HZ0.out.s1 HZ0.out.r1 (HV.out.below HZ0.out.bel)).mono ?_; rintro x wz ⟨rfl, hb⟩; have HZ := Aside0.mk (HZ0.out.below hb); clear HZ0 hb; have HZ0 := HZ; clear HZ))
            go_roundg k1
            case measure => omega
            case rel => exact ⟨gs, gm, p, L3, W3, gs2, gm2, p2, L2, W2, i + 1, rfl, rfl, rfl, rfl, by rw [hadd], ⟨by have := HI.out; omega, by have := HI.out; omega⟩, ⟨⟨HT3.out, HT.out.2⟩⟩, HZ0⟩
          | succ k2 =>
            have hk := HK.out
            have i0 : 0 ≤ k := hk.1
            have i1 : k < (m : Int) := by omega
            have cb1 : decide (k < (m : Int)) = true := decide_eq_true i1
            have haddk : wrap64 (k + 1) = k + 1 := by have := HM.out; unfold wrap64; omega
            obtain ⟨q, hq⟩ : ∃ q, l[k.toNat]? = some q := ⟨_, List.getElem?_eq_getElem (by have := HML.out; omega)⟩
            have hxq : xs[k.toNat]? = some q := by rw [HX.out k.toNat (by omega)]; exact hq
            obtain ⟨nx, rx1, rx2⟩ := Kd.R_reads' HR.out.own
            have rx3 : Kd.C k37 wr Ai m xs := by rw [nx]; exact rx2
            obtain ⟨adI, eI, x0, x1⟩ := at_S37 rx3 k.toNat q hxq nx.symm
            obtain ⟨adL, eL, z0, z1⟩ := at_Sl HR.out.sl k.toNat q hq
            subst eI eL
            have HAdI : Aside0 (adI = ⟨gI, 0, none⟩) := ⟨HR.out.ad _ rfl⟩
            have y3 := (blk_cell HR.out.bk 3).trans rfl
            have HX0' := Aside0.mk x0
            have HX1' := Aside0.mk x1
            have HY0 := Aside0.mk z0
            have HY1 := Aside0.mk z1
            have HY3 := Aside0.mk y3
            have p108 := eq_true i0
            have q108 := eq_true i1
            obtain ⟨f0, hf0⟩ : ∃ f0, Aside0 (f0 = q.f0) := ⟨_, ⟨rfl⟩⟩
            obtain ⟨f1, hf1⟩ : ∃ f1, Aside0 (f1 = q.f1) := ⟨_, ⟨rfl⟩⟩
            rw [← hf0.out] at HX0' HY0
            rw [← hf1.out] at HX1' HY1
            clear hk i0 i1 hq hxq nx rx1 rx2 rx3 x0 x1 z0 z1 y3
            go_upto_region 31 with fail
            refine start_ (n := 10) (S := fun w' => w'.cell? (adI.add (k.toNat * 2)) = some (.int .i64 f0) ∧ w'.cell? ⟨(adI.add (k.toNat * 2)).block, (adI.add (k.toNat * 2)).off + 1, none⟩ = some (.int .i64 f1) ∧ w'.cell? (adL.add (k.toNat * 2)) = some (.int .i64 f0) ∧ w'.cell? ⟨(adL.add (k.toNat * 2)).block, (adL.add (k.toNat * 2)).off + 1, none⟩ = some (.int .i64 f1) ∧ w'.cell? ⟨g, 3, none⟩ = some (.slice (some adL) m cB)) (ds := [9]) #[false, false, false, false, false, false, false, false, false, false] (by kernel_rfl) rfl rfl ⟨HX0'.out, HX1'.out, HY0.out, HY1.out, HY3.out⟩ (fun hHeld => ?_)
            refine pure_ (i := 0) (N := some 111) (v := ?_) (a' := ?_) #[true, false, false, false, false, false, false, false, false, false] rfl rfl (by kernel_rfl) (fun _ _ _ h => h) (Or.inl ⟨by rfl, ?_⟩) ?_ ?_
            rotate_left
            · intro w'
              go_simp
              with_reducible rfl
            rotate_left
            · simp only [Act.put, List.setIfInBounds_toArray, List.set_cons_zero, List.set_cons_succ, i64_w, i32_w]
              rfl
            refine pure_ (i := 1) (N := some 112) (v := ?_) (a' := ?_) #[true, true, false, false, false, false, false, false, false, false] rfl rfl (by kernel_rfl) (fun _ _ _ h => h) (Or.inl ⟨by rfl, ?_⟩) ?_ ?_
            rotate_left
            · intro w'
              go_simp
              with_reducible rfl
            rotate_left
            · simp only [Act.put, List.setIfInBounds_toArray, List.set_cons_zero, List.set_cons_succ, i64_w, i32_w]
              rfl
            refine pure_ (i := 2) (N := some 113) (v := ?_) (a' := ?_) #[true, true, true, false, false, false, false, false, false, false] rfl rfl (by kernel_rfl) (fun _ _ _ h => h) (Or.inl ⟨by rfl, ?_⟩) ?_ ?_
            rotate_left
            · intro w'
              go_simp
              with_reducible rfl
            rotate_left
            · simp only [Act.put, List.setIfInBounds_toArray, List.set_cons_zero, List.set_cons_succ, i64_w, i32_w]
              rfl
            refine pure_ (i := 4) (N := some 115) (v := ?_) (a' := ?_) #[true, true, true, false, true, false, false, false, false, false] rfl rfl (by kernel_rfl) (fun _ _ _ h => h) (Or.inl ⟨by rfl, ?_⟩) ?_ ?_
            rotate_left
            · intro w'
              go_simp
              with_reducible rfl
            rotate_left
            · simp only [Act.put, List.setIfInBounds_toArray, List.set_cons_zero, List.set_cons_succ, i64_w, i32_w]
              rfl
            refine pure_ (i := 6) (N := some 117) (v := ?_) (a' := ?_) #[true, true, true, false, true, false, true, false, false, false] rfl rfl (by kernel_rfl) (fun _ _ _ h => h) (Or.inl ⟨by rfl, ?_⟩) ?_ ?_
            rotate_left
            · intro w'
              go_simp
              with_reducible rfl
            rotate_left
            · simp only [Act.put, List.setIfInBounds_toArray, List.set_cons_zero, List.set_cons_succ, i64_w, i32_w]
              rfl
            refine take_ (i := 3) (N := some 114) (v := ?_) (a' := ?_) #[true, true, true, true, true, false, true, false, false, false] rfl rfl (by kernel_rfl) (fun _ _ _ h => h) (Or.inl ⟨by rfl, ?_⟩) hHeld ?_ ?_
            rotate_left
            · rintro w' ⟨s0, s1, s2, s3, s4⟩
              go_simp
              with_reducible rfl
            rotate_left
            · simp only [Act.put, List.setIfInBounds_toArray, List.set_cons_zero, List.set_cons_succ, i64_w, i32_w]
              rfl
            refine take_ (i := 5) (N := some 116) (v := ?_) (a' := ?_) #[true, true, true, true, true, true, true, false, false, false] rfl rfl (by kernel_rfl) (fun _ _ _ h => h) (Or.inl ⟨by rfl, ?_⟩) hHeld ?_ ?_
            rotate_left
            · rintro w' ⟨s0, s1, s2, s3, s4⟩
              go_simp
              with_reducible rfl
            rotate_left
            · simp only [Act.put, List.setIfInBounds_toArray, List.set_cons_zero, List.set_cons_succ, i64_w, i32_w]
              rfl
            refine pure_ (i := 7) (N := some 118) (v := ?_) (a' := ?_) #[true, true, true, true, true, true, true, true, false, false] rfl rfl (by kernel_rfl) (fun _ _ _ h => h) (Or.inl ⟨by rfl, ?_⟩) ?_ ?_
            rotate_left
            · intro w'
              go_simp
              with_reducible rfl
            rotate_left
            · simp only [Act.put, List.setIfInBounds_toArray, List.set_cons_zero, List.set_cons_succ, i64_w, i32_w]
              rfl
            refine take_ (i := 8) (N := some 119) (v := ?_) (a' := ?_) #[true, true, true, true, true, true, true, true, true, false] rfl rfl (by kernel_rfl) (fun _ _ _ h => h) (Or.inl ⟨by rfl, ?_⟩) hHeld ?_ ?_
            rotate_left
            · rintro w' ⟨s0, s1, s2, s3, s4⟩
              go_simp
              with_reducible rfl
            rotate_left
            · simp only [Act.put, List.setIfInBounds_toArray, List.set_cons_zero, List.set_cons_succ, i64_w, i32_w]
              rfl
            refine last_ (i := 9) (N := some 120) #[true, true, true, true, true, true, true, true, true, true] rfl rfl (by kernel_rfl) (by decide) (fun K hK => ?_)
            refine value_ (by rfl) rfl (v := .bool false) (w1 := wr.drew) (by first | (go_simp; done) | (go_simp; rfl)) ?_
            refine hK.out _ _ ?_
            clear hK K
            refine done_ (by kernel_rfl) ?_
            have HRd := Aside0.mk (HR.out.below (below_drew1 (Below.refl wr.heap.size wr)))
            go_wp2_with (first | (refine Kd.R_store k37 (w0 := wr.drew) base rfl rfl 37 (.tmp 124) (.tmp 123) rfl 37 (g := gI) (n := m) (cap := ci) (o' := k.toNat * 2) k 0 xs ⟨1, 1⟩ (.agg #[.int .i64 1, .int .i64 1]) [.int .i64 1, .int .i64 1] [.int .i64 f0, .int .i64 f1] (fun k => base ≤ k) (fun _ => False) (show Value.pointer (some (adI.add (k.toNat * 2))) = _ by rw [HAdI.out, add_plain]) rfl rfl rfl info37z (by decide) (by rw [← HAdI.out]; exact HRd.out.own) (by have := HK.out; omega) (by have := HK.out; omega) rfl (two_cells HAdI.out HX0'.out HX1'.out) (by decide) (k37_mkM _ _ _ ⟨1, 1⟩) (fun _ h => h.elim) (Below.refl _ _) ?_; intro w3 ho3 hb3 hg3; rw [← HAdI.out] at ho3; have HRw := Aside0.mk (HRd.out.write hg3 ho3); clear ho3 hb3 hg3))
            go_roundg k2
            case measure => omega
            case rel => exact ⟨k + 1, _, by first | rfl | rw [haddk], ⟨by have := HK.out; omega, by have := HK.out; omega⟩, HRw, ⟨fun j hj => by rw [List.getElem?_set_ne (by have := HK.out; omega)]; exact HX.out j (by omega)⟩⟩
      by_cases k1' : kd = 1
      · subst k1'
        have y0 := (blk_cell HR.out.bk 0).trans rfl
        obtain ⟨e, L3, W3, h3, hd, hr⟩ := two_remove HT.out.1 nm
        have HT3 := Aside0.mk h3
        have HD := Aside0.mk hd
        have HDr := Aside0.mk hr
        clear h3 hd hr k0
        go_upto_region 20 with fail
        have HRd := Aside0.mk (HR.out.below (below_drew1 (Below.refl w2.heap.size w2)))
        refine start_ (n := 9) (S := fun w' => w'.cell? ⟨g, 1, none⟩ = some (.string nm)) (ds := [7, 8]) #[false, false, false, false, false, false, false, false, false] (by kernel_rfl) rfl rfl ((blk_cell HRd.out.bk 1).trans rfl) (fun hHeld => ?_)
        refine pure_ (i := 0) (N := some 82) (v := ?_) (a' := ?_) #[true, false, false, false, false, false, false, false, false] rfl rfl (by kernel_rfl) (fun _ _ _ h => h) (Or.inl ⟨by rfl, ?_⟩) ?_ ?_
        rotate_left
        · intro w'
          go_simp
          with_reducible rfl
        rotate_left
        · simp only [Act.put, List.setIfInBounds_toArray, List.set_cons_zero, List.set_cons_succ, i64_w, i32_w]
          rfl
        refine pure_ (i := 1) (N := some 83) (v := ?_) (a' := ?_) #[true, true, false, false, false, false, false, false, false] rfl rfl (by kernel_rfl) (fun _ _ _ h => h) (Or.inl ⟨by rfl, ?_⟩) ?_ ?_
        rotate_left
        · intro w'
          go_simp
          with_reducible rfl
        rotate_left
        · simp only [Act.put, List.setIfInBounds_toArray, List.set_cons_zero, List.set_cons_succ, i64_w, i32_w]
          rfl
        refine pure_ (i := 4) (N := some 86) (v := ?_) (a' := ?_) #[true, true, false, false, true, false, false, false, false] rfl rfl (by kernel_rfl) (fun _ _ _ h => h) (Or.inl ⟨by rfl, ?_⟩) ?_ ?_
        rotate_left
        · intro w'
          go_simp
          with_reducible rfl
        rotate_left
        · simp only [Act.put, List.setIfInBounds_toArray, List.set_cons_zero, List.set_cons_succ, i64_w, i32_w]
          rfl
        refine pure_ (i := 5) (N := some 87) (v := ?_) (a' := ?_) #[true, true, false, false, true, true, false, false, false] rfl rfl (by kernel_rfl) (fun _ _ _ h => h) (Or.inl ⟨by rfl, ?_⟩) ?_ ?_
        rotate_left
        · intro w'
          go_simp
          with_reducible rfl
        rotate_left
        · simp only [Act.put, List.setIfInBounds_toArray, List.set_cons_zero, List.set_cons_succ, i64_w, i32_w]
          rfl
        refine take_ (i := 2) (N := some 84) (v := ?_) (a' := ?_) #[true, true, true, false, true, true, false, false, false] rfl rfl (by kernel_rfl) (fun _ _ _ h => h) (Or.inl ⟨by rfl, ?_⟩) hHeld ?_ ?_
        rotate_left
        · rintro w' s0
          go_simp
          with_reducible rfl
        rotate_left
        · simp only [Act.put, List.setIfInBounds_toArray, List.set_cons_zero, List.set_cons_succ, i64_w, i32_w]
          rfl
        refine take_ (i := 6) (N := some 88) (v := ?_) (a' := ?_) #[true, true, true, false, true, true, true, false, false] rfl rfl (by kernel_rfl) (fun _ _ _ h => h) (Or.inl ⟨by rfl, ?_⟩) hHeld ?_ ?_
        rotate_left
        · rintro w' s0
          go_simp
          with_reducible rfl
        rotate_left
        · simp only [Act.put, List.setIfInBounds_toArray, List.set_cons_zero, List.set_cons_succ, i64_w, i32_w]
          rfl
        refine one_ (i := 3) (N := some 85) #[true, true, true, true, true, true, true, false, false] rfl rfl (by kernel_rfl) (by decide) (fun K hK => ?_)
        refine goes_ Try.func29 (by kernel_rfl) rfl #[.pointer (some ⟨gs, 0, none⟩), .string nm] (by rfl) rfl rfl (by (simp only [List.map_toArray, List.map_cons, List.map_nil]); first | done | rfl) ?_
        with_reducible refine (HD.out gI gs gm w2.drew HRd.out.st.s1).mono ?_
        rintro x w3 ⟨rfl, hs, hg⟩
        have HR3 := Aside0.mk (HRd.out.def1 HGn.out.1 hs hg)
        clear hs hg
        refine ⟨_, rfl, ?_⟩
        refine hK.out _ _ ((blk_cell HR3.out.bk 1).trans rfl) (fun hHeld => ?_)
        clear hK K
        refine norm_ (a' := ?_) ?_ ?_
        rotate_left
        · show Act.put _ (some 85) _ = _
          simp only [Act.put, List.setIfInBounds_toArray, List.set_cons_zero, List.set_cons_succ, i64_w, i32_w]
          rfl
        refine last_ (i := 7) (N := some 89) #[true, true, true, true, true, true, true, true, false] rfl rfl (by kernel_rfl) (by decide) (fun K hK => ?_)
        refine goes_ Try.func35 (by kernel_rfl) rfl #[.pointer (some ⟨p, 0, none⟩), .string nm] (by rfl) rfl rfl (by (simp only [List.map_toArray, List.map_cons, List.map_nil]); first | done | rfl) ?_
        with_reducible refine (HDr.out gI p w3 HR3.out.st.lt HR3.out.st.r1).mono ?_
        rintro x w4 ⟨rfl, hs, hg⟩
        have HR4 := Aside0.mk (HR3.out.ref1 HGn.out.2 hs hg)
        clear hs hg HR3 HRd HR
        refine ⟨_, rfl, ?_⟩
        refine hK.out _ _ ?_
        clear hK K
        refine last_ (i := 8) (N := some 90) #[true, true, true, true, true, true, true, true, true] rfl rfl (by kernel_rfl) (by decide) (fun K hK => ?_)
        refine value_ (by rfl) rfl (v := .bool false) (w1 := w4) (by first | (go_simp; done) | (go_simp; rfl)) ?_
        refine hK.out _ _ ?_
        clear hK K
        refine done_ (by kernel_rfl) ?_
        have HR := HR4
        clear HR4 y0 HD HDr
        go_upto_region 28 with fail
        go_wp2
        skip
        have HX0 : Aside0 (∀ j : Nat, (0 : Int) ≤ j → l[j]? = l[j]?) := ⟨fun _ _ => rfl⟩
        go_loopg [12] m (fun kq v12 w' => ∃ (k : Int) (xs : List S37), v12 = .int .i64 k ∧ Aside0 (0 ≤ k ∧ k + kq = m) ∧ Aside0 (Rn w w' gI g base #[.int .i64 1, .string nm, .string pn, .slice B m cB] (.slice B m cB) l Ai m ci xs gs gm p L3 W3 gs2 gm2 p2 L2 W2) ∧ Aside0 (∀ j : Nat, k ≤ j → xs[j]? = l[j]?))
        case atStart => exact ⟨0, l, rfl, ⟨by omega, by omega⟩, HR, HX0⟩
        case round =>
          clear HR HX0
          obtain ⟨k, xs, rfl, HK, HR, HX⟩ := hrel
          cases gk with
          | zero =>
            have hk := HK.out
            have q109 : decide (k < (m : Int)) = false := decide_eq_false (by omega)
            have HTd : Aside0 (∀ w', Sheet w' gs gm L3 → RSheet w' p W3 → Sl w' (.slice A0 m0 c0) own → Calls Try.prog 36 #[.pointer (some ⟨gs, 0, none⟩), .pointer (some ⟨p, 0, none⟩), .string nm, .slice A0 m0 c0] w' fun e w'' => e = .returned (.bool true) ∧ Below w'.heap.size w' w'') := ⟨fun w' h1 h2 h3 => two_told HT3.out gs gm p nm _ own w' h1 h2 h3⟩
            have y1 := (blk_cell HR.out.bk 1).trans rfl
            have HZ0 := Aside0.mk HR.out.st.to0
            clear hk
            go_wp2_with (first | (go_at_call 36; with_reducible refine (HTd.out _ HZ0.out.s1 HZ0.out.r1 (HV.out.below HZ0.out.bel)).mono ?_; rintro x wz ⟨rfl, hb⟩; have HZ := Aside0.mk (HZ0.out.below hb); clear HZ0 hb; have HZ0 := HZ; clear HZ))
            go_roundg k1
            case measure => omega
            case rel => exact ⟨gs, gm, p, L3, W3, gs2, gm2, p2, L2, W2, i + 1, rfl, rfl, rfl, rfl, by rw [hadd], ⟨by have := HI.out; omega, by have := HI.out; omega⟩, ⟨⟨HT3.out, HT.out.2⟩⟩, HZ0⟩
          | succ k2 =>
            have hk := HK.out
            have i0 : 0 ≤ k := hk.1
            have i1 : k < (m : Int) := by omega
            have cb1 : decide (k < (m : Int)) = true := decide_eq_true i1
            have haddk : wrap64 (k + 1) = k + 1 := by have := HM.out; unfold wrap64; omega
            obtain ⟨q, hq⟩ : ∃ q, l[k.toNat]? = some q := ⟨_, List.getElem?_eq_getElem (by have := HML.out; omega)⟩
            have hxq : xs[k.toNat]? = some q := by rw [HX.out k.toNat (by omega)]; exact hq
            obtain ⟨nx, rx1, rx2⟩ := Kd.R_reads' HR.out.own
            have rx3 : Kd.C k37 wr Ai m xs := by rw [nx]; exact rx2
            obtain ⟨adI, eI, x0, x1⟩ := at_S37 rx3 k.toNat q hxq nx.symm
            obtain ⟨adL, eL, z0, z1⟩ := at_Sl HR.out.sl k.toNat q hq
            subst eI eL
            have HAdI : Aside0 (adI = ⟨gI, 0, none⟩) := ⟨HR.out.ad _ rfl⟩
            have y3 := (blk_cell HR.out.bk 3).trans rfl
            have HX0' := Aside0.mk x0
            have HX1' := Aside0.mk x1
            have HY0 := Aside0.mk z0
            have HY1 := Aside0.mk z1
            have HY3 := Aside0.mk y3
            have p108 := eq_true i0
            have q108 := eq_true i1
            obtain ⟨f0, hf0⟩ : ∃ f0, Aside0 (f0 = q.f0) := ⟨_, ⟨rfl⟩⟩
            obtain ⟨f1, hf1⟩ : ∃ f1, Aside0 (f1 = q.f1) := ⟨_, ⟨rfl⟩⟩
            rw [← hf0.out] at HX0' HY0
            rw [← hf1.out] at HX1' HY1
            clear hk i0 i1 hq hxq nx rx1 rx2 rx3 x0 x1 z0 z1 y3
            go_upto_region 31 with fail
            refine start_ (n := 10) (S := fun w' => w'.cell? (adI.add (k.toNat * 2)) = some (.int .i64 f0) ∧ w'.cell? ⟨(adI.add (k.toNat * 2)).block, (adI.add (k.toNat * 2)).off + 1, none⟩ = some (.int .i64 f1) ∧ w'.cell? (adL.add (k.toNat * 2)) = some (.int .i64 f0) ∧ w'.cell? ⟨(adL.add (k.toNat * 2)).block, (adL.add (k.toNat * 2)).off + 1, none⟩ = some (.int .i64 f1) ∧ w'.cell? ⟨g, 3, none⟩ = some (.slice (some adL) m cB)) (ds := [9]) #[false, false, false, false, false, false, false, false, false, false] (by kernel_rfl) rfl rfl ⟨HX0'.out, HX1'.out, HY0.out, HY1.out, HY3.out⟩ (fun hHeld => ?_)
            refine pure_ (i := 0) (N := some 111) (v := ?_) (a' := ?_) #[true, false, false, false, false, false, false, false, false, false] rfl rfl (by kernel_rfl) (fun _ _ _ h => h) (Or.inl ⟨by rfl, ?_⟩) ?_ ?_
            rotate_left
            · intro w'
              go_simp
              with_reducible rfl
            rotate_left
            · simp only [Act.put, List.setIfInBounds_toArray, List.set_cons_zero, List.set_cons_succ, i64_w, i32_w]
              rfl
            refine pure_ (i := 1) (N := some 112) (v := ?_) (a' := ?_) #[true, true, false, false, false, false, false, false, false, false] rfl rfl (by kernel_rfl) (fun _ _ _ h => h) (Or.inl ⟨by rfl, ?_⟩) ?_ ?_
            rotate_left
            · intro w'
              go_simp
              with_reducible rfl
            rotate_left
            · simp only [Act.put, List.setIfInBounds_toArray, List.set_cons_zero, List.set_cons_succ, i64_w, i32_w]
              rfl
            refine pure_ (i := 2) (N := some 113) (v := ?_) (a' := ?_) #[true, true, true, false, false, false, false, false, false, false] rfl rfl (by kernel_rfl) (fun _ _ _ h => h) (Or.inl ⟨by rfl, ?_⟩) ?_ ?_
            rotate_left
            · intro w'
              go_simp
              with_reducible rfl
            rotate_left
            · simp only [Act.put, List.setIfInBounds_toArray, List.set_cons_zero, List.set_cons_succ, i64_w, i32_w]
              rfl
            refine pure_ (i := 4) (N := some 115) (v := ?_) (a' := ?_) #[true, true, true, false, true, false, false, false, false, false] rfl rfl (by kernel_rfl) (fun _ _ _ h => h) (Or.inl ⟨by rfl, ?_⟩) ?_ ?_
            rotate_left
            · intro w'
              go_simp
              with_reducible rfl
            rotate_left
            · simp only [Act.put, List.setIfInBounds_toArray, List.set_cons_zero, List.set_cons_succ, i64_w, i32_w]
              rfl
            refine pure_ (i := 6) (N := some 117) (v := ?_) (a' := ?_) #[true, true, true, false, true, false, true, false, false, false] rfl rfl (by kernel_rfl) (fun _ _ _ h => h) (Or.inl ⟨by rfl, ?_⟩) ?_ ?_
            rotate_left
            · intro w'
              go_simp
              with_reducible rfl
            rotate_left
            · simp only [Act.put, List.setIfInBounds_toArray, List.set_cons_zero, List.set_cons_succ, i64_w, i32_w]
              rfl
            refine take_ (i := 3) (N := some 114) (v := ?_) (a' := ?_) #[true, true, true, true, true, false, true, false, false, false] rfl rfl (by kernel_rfl) (fun _ _ _ h => h) (Or.inl ⟨by rfl, ?_⟩) hHeld ?_ ?_
            rotate_left
            · rintro w' ⟨s0, s1, s2, s3, s4⟩
              go_simp
              with_reducible rfl
            rotate_left
            · simp only [Act.put, List.setIfInBounds_toArray, List.set_cons_zero, List.set_cons_succ, i64_w, i32_w]
              rfl
            refine take_ (i := 5) (N := some 116) (v := ?_) (a' := ?_) #[true, true, true, true, true, true, true, false, false, false] rfl rfl (by kernel_rfl) (fun _ _ _ h => h) (Or.inl ⟨by rfl, ?_⟩) hHeld ?_ ?_
            rotate_left
            · rintro w' ⟨s0, s1, s2, s3, s4⟩
              go_simp
              with_reducible rfl
            rotate_left
            · simp only [Act.put, List.setIfInBounds_toArray, List.set_cons_zero, List.set_cons_succ, i64_w, i32_w]
              rfl
            refine pure_ (i := 7) (N := some 118) (v := ?_) (a' := ?_) #[true, true, true, true, true, true, true, true, false, false] rfl rfl (by kernel_rfl) (fun _ _ _ h => h) (Or.inl ⟨by rfl, ?_⟩) ?_ ?_
            rotate_left
            · intro w'
              go_simp
              with_reducible rfl
            rotate_left
            · simp only [Act.put, List.setIfInBounds_toArray, List.set_cons_zero, List.set_cons_succ, i64_w, i32_w]
              rfl
            refine take_ (i := 8) (N := some 119) (v := ?_) (a' := ?_) #[true, true, true, true, true, true, true, true, true, false] rfl rfl (by kernel_rfl) (fun _ _ _ h => h) (Or.inl ⟨by rfl, ?_⟩) hHeld ?_ ?_
            rotate_left
            · rintro w' ⟨s0, s1, s2, s3, s4⟩
              go_simp
              with_reducible rfl
            rotate_left
            · simp only [Act.put, List.setIfInBounds_toArray, List.set_cons_zero, List.set_cons_succ, i64_w, i32_w]
              rfl
            refine last_ (i := 9) (N := some 120) #[true, true, true, true, true, true, true, true, true, true] rfl rfl (by kernel_rfl) (by decide) (fun K hK => ?_)
            refine value_ (by rfl) rfl (v := .bool false) (w1 := wr.drew) (by first | (go_simp; done) | (go_simp; rfl)) ?_
            refine hK.out _ _ ?_
            clear hK K
            refine done_ (by kernel_rfl) ?_
            have HRd := Aside0.mk (HR.out.below (below_drew1 (Below.refl wr.heap.size wr)))
            go_wp2_with (first | (refine Kd.R_store k37 (w0 := wr.drew) base rfl rfl 37 (.tmp 124) (.tmp 123) rfl 37 (g := gI) (n := m) (cap := ci) (o' := k.toNat * 2) k 0 xs ⟨1, 1⟩ (.agg #[.int .i64 1, .int .i64 1]) [.int .i64 1, .int .i64 1] [.int .i64 f0, .int .i64 f1] (fun k => base ≤ k) (fun _ => False) (show Value.pointer (some (adI.add (k.toNat * 2))) = _ by rw [HAdI.out, add_plain]) rfl rfl rfl info37z (by decide) (by rw [← HAdI.out]; exact HRd.out.own) (by have := HK.out; omega) (by have := HK.out; omega) rfl (two_cells HAdI.out HX0'.out HX1'.out) (by decide) (k37_mkM _ _ _ ⟨1, 1⟩) (fun _ h => h.elim) (Below.refl _ _) ?_; intro w3 ho3 hb3 hg3; rw [← HAdI.out] at ho3; have HRw := Aside0.mk (HRd.out.write hg3 ho3); clear ho3 hb3 hg3))
            go_roundg k2
            case measure => omega
            case rel => exact ⟨k + 1, _, by first | rfl | rw [haddk], ⟨by have := HK.out; omega, by have := HK.out; omega⟩, HRw, ⟨fun j hj => by rw [List.getElem?_set_ne (by have := HK.out; omega)]; exact HX.out j (by omega)⟩⟩
      by_cases k2' : kd = 2
      · subst k2'
        have y0 := (blk_cell HR.out.bk 0).trans rfl
        clear k0 k1'
        go_upto_region 28 with (first | (go_at_call 32; with_reducible refine (clone_sheetO gI gs gm L _ HR.out.st.s1).mono ?_; rintro x w3 ⟨gs3, gm3, rfl, hg3, hm3, hs3, hb3⟩; have HS3 := Aside0.mk hs3; have HG3 := Aside0.mk (And.intro hg3 hm3); have HB3 := Aside0.mk hb3; clear hg3 hm3 hs3 hb3) | (go_at_call 33; with_reducible refine (rclone_callsO gI p W _ (Nat.lt_of_lt_of_le HR.out.st.lt HB3.out.size) (HR.out.st.r1.below HB3.out) HT.out.1.small).mono ?_; rintro x w4 ⟨p3, rfl, hp3, hr3, hb4⟩; have HR4 := Aside0.mk (HR.out.clone HS3.out HG3.out.1 HG3.out.2 HB3.out hr3 hp3 hb4); clear HR HS3 HG3 HB3 hp3 hr3 hb4; have HR := HR4; clear HR4))
        clear y0
        go_wp2
        skip
        have HX0 : Aside0 (∀ j : Nat, (0 : Int) ≤ j → l[j]? = l[j]?) := ⟨fun _ _ => rfl⟩
        go_loopg [12] m (fun kq v12 w' => ∃ (k : Int) (xs : List S37), v12 = .int .i64 k ∧ Aside0 (0 ≤ k ∧ k + kq = m) ∧ Aside0 (Rn w w' gI g base #[.int .i64 2, .string nm, .string pn, .slice B m cB] (.slice B m cB) l Ai m ci xs gs3 gm3 p3 L W gs gm p L W) ∧ Aside0 (∀ j : Nat, k ≤ j → xs[j]? = l[j]?))
        case atStart => exact ⟨0, l, rfl, ⟨by omega, by omega⟩, HR, HX0⟩
        case round =>
          clear HR HX0
          obtain ⟨k, xs, rfl, HK, HR, HX⟩ := hrel
          cases gk with
          | zero =>
            have hk := HK.out
            have q109 : decide (k < (m : Int)) = false := decide_eq_false (by omega)
            have HTd : Aside0 (∀ w', Sheet w' gs3 gm3 L → RSheet w' p3 W → Sl w' (.slice A0 m0 c0) own → Calls Try.prog 36 #[.pointer (some ⟨gs3, 0, none⟩), .pointer (some ⟨p3, 0, none⟩), .string nm, .slice A0 m0 c0] w' fun e w'' => e = .returned (.bool true) ∧ Below w'.heap.size w' w'') := ⟨fun w' h1 h2 h3 => two_told HT.out.1 gs3 gm3 p3 nm _ own w' h1 h2 h3⟩
            have y1 := (blk_cell HR.out.bk 1).trans rfl
            have HZ0 := Aside0.mk HR.out.st.to0
            clear hk
            go_wp2_with (first | (go_at_call 36; with_reducible refine (HTd.out _ HZ0.out.s1 HZ0.out.r1 (HV.out.below HZ0.out.bel)).mono ?_; rintro x wz ⟨rfl, hb⟩; have HZ := Aside0.mk (HZ0.out.below hb); clear HZ0 hb; have HZ0 := HZ; clear HZ))
            go_roundg k1
            case measure => omega
            case rel => exact ⟨gs3, gm3, p3, L, W, gs, gm, p, L, W, i + 1, rfl, rfl, rfl, rfl, by rw [hadd], ⟨by have := HI.out; omega, by have := HI.out; omega⟩, ⟨⟨HT.out.1, HT.out.1⟩⟩, HZ0⟩
          | succ k2 =>
            have hk := HK.out
            have i0 : 0 ≤ k := hk.1
            have i1 : k < (m : Int) := by omega
            have cb1 : decide (k < (m : Int)) = true := decide_eq_true i1
            have haddk : wrap64 (k + 1) = k + 1 := by have := HM.out; unfold wrap64; omega
            obtain ⟨q, hq⟩ : ∃ q, l[k.toNat]? = some q := ⟨_, List.getElem?_eq_getElem (by have := HML.out; omega)⟩
            have hxq : xs[k.toNat]? = some q := by rw [HX.out k.toNat (by omega)]; exact hq
            obtain ⟨nx, rx1, rx2⟩ := Kd.R_reads' HR.out.own
            have rx3 : Kd.C k37 wr Ai m xs := by rw [nx]; exact rx2
            obtain ⟨adI, eI, x0, x1⟩ := at_S37 rx3 k.toNat q hxq nx.symm
            obtain ⟨adL, eL, z0, z1⟩ := at_Sl HR.out.sl k.toNat q hq
            subst eI eL
            have HAdI : Aside0 (adI = ⟨gI, 0, none⟩) := ⟨HR.out.ad _ rfl⟩
            have y3 := (blk_cell HR.out.bk 3).trans rfl
            have HX0' := Aside0.mk x0
            have HX1' := Aside0.mk x1
            have HY0 := Aside0.mk z0
            have HY1 := Aside0.mk z1
            have HY3 := Aside0.mk y3
            have p108 := eq_true i0
            have q108 := eq_true i1
            obtain ⟨f0, hf0⟩ : ∃ f0, Aside0 (f0 = q.f0) := ⟨_, ⟨rfl⟩⟩
            obtain ⟨f1, hf1⟩ : ∃ f1, Aside0 (f1 = q.f1) := ⟨_, ⟨rfl⟩⟩
            rw [← hf0.out] at HX0' HY0
            rw [← hf1.out] at HX1' HY1
            clear hk i0 i1 hq hxq nx rx1 rx2 rx3 x0 x1 z0 z1 y3
            go_upto_region 31 with fail
            refine start_ (n := 10) (S := fun w' => w'.cell? (adI.add (k.toNat * 2)) = some (.int .i64 f0) ∧ w'.cell? ⟨(adI.add (k.toNat * 2)).block, (adI.add (k.toNat * 2)).off + 1, none⟩ = some (.int .i64 f1) ∧ w'.cell? (adL.add (k.toNat * 2)) = some (.int .i64 f0) ∧ w'.cell? ⟨(adL.add (k.toNat * 2)).block, (adL.add (k.toNat * 2)).off + 1, none⟩ = some (.int .i64 f1) ∧ w'.cell? ⟨g, 3, none⟩ = some (.slice (some adL) m cB)) (ds := [9]) #[false, false, false, false, false, false, false, false, false, false] (by kernel_rfl) rfl rfl ⟨HX0'.out, HX1'.out, HY0.out, HY1.out, HY3.out⟩ (fun hHeld => ?_)
            refine pure_ (i := 0) (N := some 111) (v := ?_) (a' := ?_) #[true, false, false, false, false, false, false, false, false, false] rfl rfl (by kernel_rfl) (fun _ _ _ h => h) (Or.inl ⟨by rfl, ?_⟩) ?_ ?_
            rotate_left
            · intro w'
              go_simp
              with_reducible rfl
            rotate_left
            · simp only [Act.put, List.setIfInBounds_toArray, List.set_cons_zero, List.set_cons_succ, i64_w, i32_w]
              rfl
            refine pure_ (i := 1) (N := some 112) (v := ?_) (a' := ?_) #[true, true, false, false, false, false, false, false, false, false] rfl rfl (by kernel_rfl) (fun _ _ _ h => h) (Or.inl ⟨by rfl, ?_⟩) ?_ ?_
            rotate_left
            · intro w'
              go_simp
              with_reducible rfl
            rotate_left
            · simp only [Act.put, List.setIfInBounds_toArray, List.set_cons_zero, List.set_cons_succ, i64_w, i32_w]
              rfl
            refine pure_ (i := 2) (N := some 113) (v := ?_) (a' := ?_) #[true, true, true, false, false, false, false, false, false, false] rfl rfl (by kernel_rfl) (fun _ _ _ h => h) (Or.inl ⟨by rfl, ?_⟩) ?_ ?_
            rotate_left
            · intro w'
              go_simp
              with_reducible rfl
            rotate_left
            · simp only [Act.put, List.setIfInBounds_toArray, List.set_cons_zero, List.set_cons_succ, i64_w, i32_w]
              rfl
            refine pure_ (i := 4) (N := some 115) (v := ?_) (a' := ?_) #[true, true, true, false, true, false, false, false, false, false] rfl rfl (by kernel_rfl) (fun _ _ _ h => h) (Or.inl ⟨by rfl, ?_⟩) ?_ ?_
            rotate_left
            · intro w'
              go_simp
              with_reducible rfl
            rotate_left
            · simp only [Act.put, List.setIfInBounds_toArray, List.set_cons_zero, List.set_cons_succ, i64_w, i32_w]
              rfl
            refine pure_ (i := 6) (N := some 117) (v := ?_) (a' := ?_) #[true, true, true, false, true, false, true, false, false, false] rfl rfl (by kernel_rfl) (fun _ _ _ h => h) (Or.inl ⟨by rfl, ?_⟩) ?_ ?_
            rotate_left
            · intro w'
              go_simp
              with_reducible rfl
            rotate_left
            · simp only [Act.put, List.setIfInBounds_toArray, List.set_cons_zero, List.set_cons_succ, i64_w, i32_w]
              rfl
            refine take_ (i := 3) (N := some 114) (v := ?_) (a' := ?_) #[true, true, true, true, true, false, true, false, false, false] rfl rfl (by kernel_rfl) (fun _ _ _ h => h) (Or.inl ⟨by rfl, ?_⟩) hHeld ?_ ?_
            rotate_left
            · rintro w' ⟨s0, s1, s2, s3, s4⟩
              go_simp
              with_reducible rfl
            rotate_left
            · simp only [Act.put, List.setIfInBounds_toArray, List.set_cons_zero, List.set_cons_succ, i64_w, i32_w]
              rfl
            refine take_ (i := 5) (N := some 116) (v := ?_) (a' := ?_) #[true, true, true, true, true, true, true, false, false, false] rfl rfl (by kernel_rfl) (fun _ _ _ h => h) (Or.inl ⟨by rfl, ?_⟩) hHeld ?_ ?_
            rotate_left
            · rintro w' ⟨s0, s1, s2, s3, s4⟩
              go_simp
              with_reducible rfl
            rotate_left
            · simp only [Act.put, List.setIfInBounds_toArray, List.set_cons_zero, List.set_cons_succ, i64_w, i32_w]
              rfl
            refine pure_ (i := 7) (N := some 118) (v := ?_) (a' := ?_) #[true, true, true, true, true, true, true, true, false, false] rfl rfl (by kernel_rfl) (fun _ _ _ h => h) (Or.inl ⟨by rfl, ?_⟩) ?_ ?_
            rotate_left
            · intro w'
              go_simp
              with_reducible rfl
            rotate_left
            · simp only [Act.put, List.setIfInBounds_toArray, List.set_cons_zero, List.set_cons_succ, i64_w, i32_w]
              rfl
            refine take_ (i := 8) (N := some 119) (v := ?_) (a' := ?_) #[true, true, true, true, true, true, true, true, true, false] rfl rfl (by kernel_rfl) (fun _ _ _ h => h) (Or.inl ⟨by rfl, ?_⟩) hHeld ?_ ?_
            rotate_left
            · rintro w' ⟨s0, s1, s2, s3, s4⟩
              go_simp
              with_reducible rfl
            rotate_left
            · simp only [Act.put, List.setIfInBounds_toArray, List.set_cons_zero, List.set_cons_succ, i64_w, i32_w]
              rfl
            refine last_ (i := 9) (N := some 120) #[true, true, true, true, true, true, true, true, true, true] rfl rfl (by kernel_rfl) (by decide) (fun K hK => ?_)
            refine value_ (by rfl) rfl (v := .bool false) (w1 := wr.drew) (by first | (go_simp; done) | (go_simp; rfl)) ?_
            refine hK.out _ _ ?_
            clear hK K
            refine done_ (by kernel_rfl) ?_
            have HRd := Aside0.mk (HR.out.below (below_drew1 (Below.refl wr.heap.size wr)))
            go_wp2_with (first | (refine Kd.R_store k37 (w0 := wr.drew) base rfl rfl 37 (.tmp 124) (.tmp 123) rfl 37 (g := gI) (n := m) (cap := ci) (o' := k.toNat * 2) k 0 xs ⟨1, 1⟩ (.agg #[.int .i64 1, .int .i64 1]) [.int .i64 1, .int .i64 1] [.int .i64 f0, .int .i64 f1] (fun k => base ≤ k) (fun _ => False) (show Value.pointer (some (adI.add (k.toNat * 2))) = _ by rw [HAdI.out, add_plain]) rfl rfl rfl info37z (by decide) (by rw [← HAdI.out]; exact HRd.out.own) (by have := HK.out; omega) (by have := HK.out; omega) rfl (two_cells HAdI.out HX0'.out HX1'.out) (by decide) (k37_mkM _ _ _ ⟨1, 1⟩) (fun _ h => h.elim) (Below.refl _ _) ?_; intro w3 ho3 hb3 hg3; rw [← HAdI.out] at ho3; have HRw := Aside0.mk (HRd.out.write hg3 ho3); clear ho3 hb3 hg3))
            go_roundg k2
            case measure => omega
            case rel => exact ⟨k + 1, _, by first | rfl | rw [haddk], ⟨by have := HK.out; omega, by have := HK.out; omega⟩, HRw, ⟨fun j hj => by rw [List.getElem?_set_ne (by have := HK.out; omega)]; exact HX.out j (by omega)⟩⟩
      by_cases k3' : kd = 3
      · subst k3'
        have y0 := (blk_cell HR.out.bk 0).trans rfl
        clear k0 k1' k2'
        go_upto_region 28 with fail
        have HR4 := Aside0.mk HR.out.swap
        clear HR y0
        have HR := HR4
        clear HR4
        go_wp2
        skip
        have HX0 : Aside0 (∀ j : Nat, (0 : Int) ≤ j → l[j]? = l[j]?) := ⟨fun _ _ => rfl⟩
        go_loopg [12] m (fun kq v12 w' => ∃ (k : Int) (xs : List S37), v12 = .int .i64 k ∧ Aside0 (0 ≤ k ∧ k + kq = m) ∧ Aside0 (Rn w w' gI g base #[.int .i64 3, .string nm, .string pn, .slice B m cB] (.slice B m cB) l Ai m ci xs gs2 gm2 p2 L2 W2 gs gm p L W) ∧ Aside0 (∀ j : Nat, k ≤ j → xs[j]? = l[j]?))
        case atStart => exact ⟨0, l, rfl, ⟨by omega, by omega⟩, HR, HX0⟩
        case round =>
          clear HR HX0
          obtain ⟨k, xs, rfl, HK, HR, HX⟩ := hrel
          cases gk with
          | zero =>
            have hk := HK.out
            have q109 : decide (k < (m : Int)) = false := decide_eq_false (by omega)
            have HTd : Aside0 (∀ w', Sheet w' gs2 gm2 L2 → RSheet w' p2 W2 → Sl w' (.slice A0 m0 c0) own → Calls Try.prog 36 #[.pointer (some ⟨gs2, 0, none⟩), .pointer (some ⟨p2, 0, none⟩), .string nm, .slice A0 m0 c0] w' fun e w'' => e = .returned (.bool true) ∧ Below w'.heap.size w' w'') := ⟨fun w' h1 h2 h3 => two_told HT.out.2 gs2 gm2 p2 nm _ own w' h1 h2 h3⟩
            have y1 := (blk_cell HR.out.bk 1).trans rfl
            have HZ0 := Aside0.mk HR.out.st.to0
            clear hk
            go_wp2_with (first | (go_at_call 36; with_reducible refine (HTd.out _ HZ0.out.s1 HZ0.out.r1 (HV.out.below HZ0.out.bel)).mono ?_; rintro x wz ⟨rfl, hb⟩; have HZ := Aside0.mk (HZ0.out.below hb); clear HZ0 hb; have HZ0 := HZ; clear HZ))
            go_roundg k1
            case measure => omega
            case rel => exact ⟨gs2, gm2, p2, L2, W2, gs, gm, p, L, W, i + 1, rfl, rfl, rfl, rfl, by rw [hadd], ⟨by have := HI.out; omega, by have := HI.out; omega⟩, ⟨⟨HT.out.2, HT.out.1⟩⟩, HZ0⟩
          | succ k2 =>
            have hk := HK.out
            have i0 : 0 ≤ k := hk.1
            have i1 : k < (m : Int) := by omega
            have cb1 : decide (k < (m : Int)) = true := decide_eq_true i1
            have haddk : wrap64 (k + 1) = k + 1 := by have := HM.out; unfold wrap64; omega
            obtain ⟨q, hq⟩ : ∃ q, l[k.toNat]? = some q := ⟨_, List.getElem?_eq_getElem (by have := HML.out; omega)⟩
            have hxq : xs[k.toNat]? = some q := by rw [HX.out k.toNat (by omega)]; exact hq
            obtain ⟨nx, rx1, rx2⟩ := Kd.R_reads' HR.out.own
            have rx3 : Kd.C k37 wr Ai m xs := by rw [nx]; exact rx2
            obtain ⟨adI, eI, x0, x1⟩ := at_S37 rx3 k.toNat q hxq nx.symm
            obtain ⟨adL, eL, z0, z1⟩ := at_Sl HR.out.sl k.toNat q hq
            subst eI eL
            have HAdI : Aside0 (adI = ⟨gI, 0, none⟩) := ⟨HR.out.ad _ rfl⟩
            have y3 := (blk_cell HR.out.bk 3).trans rfl
            have HX0' := Aside0.mk x0
            have HX1' := Aside0.mk x1
            have HY0 := Aside0.mk z0
            have HY1 := Aside0.mk z1
            have HY3 := Aside0.mk y3
            have p108 := eq_true i0
            have q108 := eq_true i1
            obtain ⟨f0, hf0⟩ : ∃ f0, Aside0 (f0 = q.f0) := ⟨_, ⟨rfl⟩⟩
            obtain ⟨f1, hf1⟩ : ∃ f1, Aside0 (f1 = q.f1) := ⟨_, ⟨rfl⟩⟩
            rw [← hf0.out] at HX0' HY0
            rw [← hf1.out] at HX1' HY1
            clear hk i0 i1 hq hxq nx rx1 rx2 rx3 x0 x1 z0 z1 y3
            go_upto_region 31 with fail
            refine start_ (n := 10) (S := fun w' => w'.cell? (adI.add (k.toNat * 2)) = some (.int .i64 f0) ∧ w'.cell? ⟨(adI.add (k.toNat * 2)).block, (adI.add (k.toNat * 2)).off + 1, none⟩ = some (.int .i64 f1) ∧ w'.cell? (adL.add (k.toNat * 2)) = some (.int .i64 f0) ∧ w'.cell? ⟨(adL.add (k.toNat * 2)).block, (adL.add (k.toNat * 2)).off + 1, none⟩ = some (.int .i64 f1) ∧ w'.cell? ⟨g, 3, none⟩ = some (.slice (some adL) m cB)) (ds := [9]) #[false, false, false, false, false, false, false, false, false, false] (by kernel_rfl) rfl rfl ⟨HX0'.out, HX1'.out, HY0.out, HY1.out, HY3.out⟩ (fun hHeld => ?_)
            refine pure_ (i := 0) (N := some 111) (v := ?_) (a' := ?_) #[true, false, false, false, false, false, false, false, false, false] rfl rfl (by kernel_rfl) (fun _ _ _ h => h) (Or.inl ⟨by rfl, ?_⟩) ?_ ?_
            rotate_left
            · intro w'
              go_simp
              with_reducible rfl
            rotate_left
            · simp only [Act.put, List.setIfInBounds_toArray, List.set_cons_zero, List.set_cons_succ, i64_w, i32_w]
              rfl
            refine pure_ (i := 1) (N := some 112) (v := ?_) (a' := ?_) #[true, true, false, false, false, false, false, false, false, false] rfl rfl (by kernel_rfl) (fun _ _ _ h => h) (Or.inl ⟨by rfl, ?_⟩) ?_ ?_
            rotate_left
            · intro w'
              go_simp
              with_reducible rfl
            rotate_left
            · simp only [Act.put, List.setIfInBounds_toArray, List.set_cons_zero, List.set_cons_succ, i64_w, i32_w]
              rfl
            refine pure_ (i := 2) (N := some 113) (v := ?_) (a' := ?_) #[true, true, true, false, false, false, false, false, false, false] rfl rfl (by kernel_rfl) (fun _ _ _ h => h) (Or.inl ⟨by rfl, ?_⟩) ?_ ?_
            rotate_left
            · intro w'
              go_simp
              with_reducible rfl
            rotate_left
            · simp only [Act.put, List.setIfInBounds_toArray, List.set_cons_zero, List.set_cons_succ, i64_w, i32_w]
              rfl
            refine pure_ (i := 4) (N := some 115) (v := ?_) (a' := ?_) #[true, true, true, false, true, false, false, false, false, false] rfl rfl (by kernel_rfl) (fun _ _ _ h => h) (Or.inl ⟨by rfl, ?_⟩) ?_ ?_
            rotate_left
            · intro w'
              go_simp
              with_reducible rfl
            rotate_left
            · simp only [Act.put, List.setIfInBounds_toArray, List.set_cons_zero, List.set_cons_succ, i64_w, i32_w]
              rfl
            refine pure_ (i := 6) (N := some 117) (v := ?_) (a' := ?_) #[true, true, true, false, true, false, true, false, false, false] rfl rfl (by kernel_rfl) (fun _ _ _ h => h) (Or.inl ⟨by rfl, ?_⟩) ?_ ?_
            rotate_left
            · intro w'
              go_simp
              with_reducible rfl
            rotate_left
            · simp only [Act.put, List.setIfInBounds_toArray, List.set_cons_zero, List.set_cons_succ, i64_w, i32_w]
              rfl
            refine take_ (i := 3) (N := some 114) (v := ?_) (a' := ?_) #[true, true, true, true, true, false, true, false, false, false] rfl rfl (by kernel_rfl) (fun _ _ _ h => h) (Or.inl ⟨by rfl, ?_⟩) hHeld ?_ ?_
            rotate_left
            · rintro w' ⟨s0, s1, s2, s3, s4⟩
              go_simp
              with_reducible rfl
            rotate_left
            · simp only [Act.put, List.setIfInBounds_toArray, List.set_cons_zero, List.set_cons_succ, i64_w, i32_w]
              rfl
            refine take_ (i := 5) (N := some 116) (v := ?_) (a' := ?_) #[true, true, true, true, true, true, true, false, false, false] rfl rfl (by kernel_rfl) (fun _ _ _ h => h) (Or.inl ⟨by rfl, ?_⟩) hHeld ?_ ?_
            rotate_left
            · rintro w' ⟨s0, s1, s2, s3, s4⟩
              go_simp
              with_reducible rfl
            rotate_left
            · simp only [Act.put, List.setIfInBounds_toArray, List.set_cons_zero, List.set_cons_succ, i64_w, i32_w]
              rfl
            refine pure_ (i := 7) (N := some 118) (v := ?_) (a' := ?_) #[true, true, true, true, true, true, true, true, false, false] rfl rfl (by kernel_rfl) (fun _ _ _ h => h) (Or.inl ⟨by rfl, ?_⟩) ?_ ?_
            rotate_left
            · intro w'
              go_simp
              with_reducible rfl
            rotate_left
            · simp only [Act.put, List.setIfInBounds_toArray, List.set_cons_zero, List.set_cons_succ, i64_w, i32_w]
              rfl
            refine take_ (i := 8) (N := some 119) (v := ?_) (a' := ?_) #[true, true, true, true, true, true, true, true, true, false] rfl rfl (by kernel_rfl) (fun _ _ _ h => h) (Or.inl ⟨by rfl, ?_⟩) hHeld ?_ ?_
            rotate_left
            · rintro w' ⟨s0, s1, s2, s3, s4⟩
              go_simp
              with_reducible rfl
            rotate_left
            · simp only [Act.put, List.setIfInBounds_toArray, List.set_cons_zero, List.set_cons_succ, i64_w, i32_w]
              rfl
            refine last_ (i := 9) (N := some 120) #[true, true, true, true, true, true, true, true, true, true] rfl rfl (by kernel_rfl) (by decide) (fun K hK => ?_)
            refine value_ (by rfl) rfl (v := .bool false) (w1 := wr.drew) (by first | (go_simp; done) | (go_simp; rfl)) ?_
            refine hK.out _ _ ?_
            clear hK K
            refine done_ (by kernel_rfl) ?_
            have HRd := Aside0.mk (HR.out.below (below_drew1 (Below.refl wr.heap.size wr)))
            go_wp2_with (first | (refine Kd.R_store k37 (w0 := wr.drew) base rfl rfl 37 (.tmp 124) (.tmp 123) rfl 37 (g := gI) (n := m) (cap := ci) (o' := k.toNat * 2) k 0 xs ⟨1, 1⟩ (.agg #[.int .i64 1, .int .i64 1]) [.int .i64 1, .int .i64 1] [.int .i64 f0, .int .i64 f1] (fun k => base ≤ k) (fun _ => False) (show Value.pointer (some (adI.add (k.toNat * 2))) = _ by rw [HAdI.out, add_plain]) rfl rfl rfl info37z (by decide) (by rw [← HAdI.out]; exact HRd.out.own) (by have := HK.out; omega) (by have := HK.out; omega) rfl (two_cells HAdI.out HX0'.out HX1'.out) (by decide) (k37_mkM _ _ _ ⟨1, 1⟩) (fun _ h => h.elim) (Below.refl _ _) ?_; intro w3 ho3 hb3 hg3; rw [← HAdI.out] at ho3; have HRw := Aside0.mk (HRd.out.write hg3 ho3); clear ho3 hb3 hg3))
            go_roundg k2
            case measure => omega
            case rel => exact ⟨k + 1, _, by first | rfl | rw [haddk], ⟨by have := HK.out; omega, by have := HK.out; omega⟩, HRw, ⟨fun j hj => by rw [List.getElem?_set_ne (by have := HK.out; omega)]; exact HX.out j (by omega)⟩⟩
      have y0 := (blk_cell HR.out.bk 0).trans rfl
      have n0 : (kd == 0) = false := beq_eq_false_iff_ne.2 k0
      have n1 : (kd == 1) = false := beq_eq_false_iff_ne.2 k1'
      have n2 : (kd == 2) = false := beq_eq_false_iff_ne.2 k2'
      have n3 : (kd == 3) = false := beq_eq_false_iff_ne.2 k3'
      have o0 : decide (kd = 0) = false := decide_eq_false k0
      have o1 : decide (kd = 1) = false := decide_eq_false k1'
      have o2 : decide (kd = 2) = false := decide_eq_false k2'
      have o3 : decide (kd = 3) = false := decide_eq_false k3'
      clear k0 k1' k2' k3'
      go_upto_region 28 with fail
      clear y0
      go_wp2
      skip
      have HX0 : Aside0 (∀ j : Nat, (0 : Int) ≤ j → l[j]? = l[j]?) := ⟨fun _ _ => rfl⟩
      go_loopg [12] m (fun kq v12 w' => ∃ (k : Int) (xs : List S37), v12 = .int .i64 k ∧ Aside0 (0 ≤ k ∧ k + kq = m) ∧ Aside0 (Rn w w' gI g base #[.int .i64 kd, .string nm, .string pn, .slice B m cB] (.slice B m cB) l Ai m ci xs gs gm p L W gs2 gm2 p2 L2 W2) ∧ Aside0 (∀ j : Nat, k ≤ j → xs[j]? = l[j]?))
      case atStart => exact ⟨0, l, rfl, ⟨by omega, by omega⟩, HR, HX0⟩
      case round =>
        clear HR HX0
        obtain ⟨k, xs, rfl, HK, HR, HX⟩ := hrel
        cases gk with
        | zero =>
          have hk := HK.out
          have q109 : decide (k < (m : Int)) = false := decide_eq_false (by omega)
          have HTd : Aside0 (∀ w', Sheet w' gs gm L → RSheet w' p W → Sl w' (.slice A0 m0 c0) own → Calls Try.prog 36 #[.pointer (some ⟨gs, 0, none⟩), .pointer (some ⟨p, 0, none⟩), .string nm, .slice A0 m0 c0] w' fun e w'' => e = .returned (.bool true) ∧ Below w'.heap.size w' w'') := ⟨fun w' h1 h2 h3 => two_told HT.out.1 gs gm p nm _ own w' h1 h2 h3⟩
          have y1 := (blk_cell HR.out.bk 1).trans rfl
          have HZ0 := Aside0.mk HR.out.st.to0
          clear hk
          go_wp2_with (first | (go_at_call 36; with_reducible refine (HTd.out _ HZ0.out.s1 HZ0.out.r1 (HV.out.below HZ0.out.bel)).mono ?_; rintro x wz ⟨rfl, hb⟩; have HZ := Aside0.mk (HZ0.out.below hb); clear HZ0 hb; have HZ0 := HZ; clear HZ))
          go_roundg k1
          case measure => omega
          case rel => exact ⟨gs, gm, p, L, W, gs2, gm2, p2, L2, W2, i + 1, rfl, rfl, rfl, rfl, by rw [hadd], ⟨by have := HI.out; omega, by have := HI.out; omega⟩, ⟨⟨HT.out.1, HT.out.2⟩⟩, HZ0⟩
        | succ k2 =>
          have hk := HK.out
          have i0 : 0 ≤ k := hk.1
          have i1 : k < (m : Int) := by omega
          have cb1 : decide (k < (m : Int)) = true := decide_eq_true i1
          have haddk : wrap64 (k + 1) = k + 1 := by have := HM.out; unfold wrap64; omega
          obtain ⟨q, hq⟩ : ∃ q, l[k.toNat]? = some q := ⟨_, List.getElem?_eq_getElem (by have := HML.out; omega)⟩
          have hxq : xs[k.toNat]? = some q := by rw [HX.out k.toNat (by omega)]; exact hq
          obtain ⟨nx, rx1, rx2⟩ := Kd.R_reads' HR.out.own
          have rx3 : Kd.C k37 wr Ai m xs := by rw [nx]; exact rx2
          obtain ⟨adI, eI, x0, x1⟩ := at_S37 rx3 k.toNat q hxq nx.symm
          obtain ⟨adL, eL, z0, z1⟩ := at_Sl HR.out.sl k.toNat q hq
          subst eI eL
          have HAdI : Aside0 (adI = ⟨gI, 0, none⟩) := ⟨HR.out.ad _ rfl⟩
          have y3 := (blk_cell HR.out.bk 3).trans rfl
          have HX0' := Aside0.mk x0
          have HX1' := Aside0.mk x1
          have HY0 := Aside0.mk z0
          have HY1 := Aside0.mk z1
          have HY3 := Aside0.mk y3
          have p108 := eq_true i0
          have q108 := eq_true i1
          obtain ⟨f0, hf0⟩ : ∃ f0, Aside0 (f0 = q.f0) := ⟨_, ⟨rfl⟩⟩
          obtain ⟨f1, hf1⟩ : ∃ f1, Aside0 (f1 = q.f1) := ⟨_, ⟨rfl⟩⟩
          rw [← hf0.out] at HX0' HY0
          rw [← hf1.out] at HX1' HY1
          clear hk i0 i1 hq hxq nx rx1 rx2 rx3 x0 x1 z0 z1 y3
          go_upto_region 31 with fail
          refine start_ (n := 10) (S := fun w' => w'.cell? (adI.add (k.toNat * 2)) = some (.int .i64 f0) ∧ w'.cell? ⟨(adI.add (k.toNat * 2)).block, (adI.add (k.toNat * 2)).off + 1, none⟩ = some (.int .i64 f1) ∧ w'.cell? (adL.add (k.toNat * 2)) = some (.int .i64 f0) ∧ w'.cell? ⟨(adL.add (k.toNat * 2)).block, (adL.add (k.toNat * 2)).off + 1, none⟩ = some (.int .i64 f1) ∧ w'.cell? ⟨g, 3, none⟩ = some (.slice (some adL) m cB)) (ds := [9]) #[false, false, false, false, false, false, false, false, false, false] (by kernel_rfl) rfl rfl ⟨HX0'.out, HX1'.out, HY0.out, HY1.out, HY3.out⟩ (fun hHeld => ?_)
          refine pure_ (i := 0) (N := some 111) (v := ?_) (a' := ?_) #[true, false, false, false, false, false, false, false, false, false] rfl rfl (by kernel_rfl) (fun _ _ _ h => h) (Or.inl ⟨by rfl, ?_⟩) ?_ ?_
          rotate_left
          · intro w'
            go_simp
            with_reducible rfl
          rotate_left
          · simp only [Act.put, List.setIfInBounds_toArray, List.set_cons_zero, List.set_cons_succ, i64_w, i32_w]
            rfl
          refine pure_ (i := 1) (N := some 112) (v := ?_) (a' := ?_) #[true, true, false, false, false, false, false, false, false, false] rfl rfl (by kernel_rfl) (fun _ _ _ h => h) (Or.inl ⟨by rfl, ?_⟩) ?_ ?_
          rotate_left
          · intro w'
            go_simp
            with_reducible rfl
          rotate_left
          · simp only [Act.put, List.setIfInBounds_toArray, List.set_cons_zero, List.set_cons_succ, i64_w, i32_w]
            rfl
          refine pure_ (i := 2) (N := some 113) (v := ?_) (a' := ?_) #[true, true, true, false, false, false, false, false, false, false] rfl rfl (by kernel_rfl) (fun _ _ _ h => h) (Or.inl ⟨by rfl, ?_⟩) ?_ ?_
          rotate_left
          · intro w'
            go_simp
            with_reducible rfl
          rotate_left
          · simp only [Act.put, List.setIfInBounds_toArray, List.set_cons_zero, List.set_cons_succ, i64_w, i32_w]
            rfl
          refine pure_ (i := 4) (N := some 115) (v := ?_) (a' := ?_) #[true, true, true, false, true, false, false, false, false, false] rfl rfl (by kernel_rfl) (fun _ _ _ h => h) (Or.inl ⟨by rfl, ?_⟩) ?_ ?_
          rotate_left
          · intro w'
            go_simp
            with_reducible rfl
          rotate_left
          · simp only [Act.put, List.setIfInBounds_toArray, List.set_cons_zero, List.set_cons_succ, i64_w, i32_w]
            rfl
          refine pure_ (i := 6) (N := some 117) (v := ?_) (a' := ?_) #[true, true, true, false, true, false, true, false, false, false] rfl rfl (by kernel_rfl) (fun _ _ _ h => h) (Or.inl ⟨by rfl, ?_⟩) ?_ ?_
          rotate_left
          · intro w'
            go_simp
            with_reducible rfl
          rotate_left
          · simp only [Act.put, List.setIfInBounds_toArray, List.set_cons_zero, List.set_cons_succ, i64_w, i32_w]
            rfl
          refine take_ (i := 3) (N := some 114) (v := ?_) (a' := ?_) #[true, true, true, true, true, false, true, false, false, false] rfl rfl (by kernel_rfl) (fun _ _ _ h => h) (Or.inl ⟨by rfl, ?_⟩) hHeld ?_ ?_
          rotate_left
          · rintro w' ⟨s0, s1, s2, s3, s4⟩
            go_simp
            with_reducible rfl
          rotate_left
          · simp only [Act.put, List.setIfInBounds_toArray, List.set_cons_zero, List.set_cons_succ, i64_w, i32_w]
            rfl
          refine take_ (i := 5) (N := some 116) (v := ?_) (a' := ?_) #[true, true, true, true, true, true, true, false, false, false] rfl rfl (by kernel_rfl) (fun _ _ _ h => h) (Or.inl ⟨by rfl, ?_⟩) hHeld ?_ ?_
          rotate_left
          · rintro w' ⟨s0, s1, s2, s3, s4⟩
            go_simp
            with_reducible rfl
          rotate_left
          · simp only [Act.put, List.setIfInBounds_toArray, List.set_cons_zero, List.set_cons_succ, i64_w, i32_w]
            rfl
          refine pure_ (i := 7) (N := some 118) (v := ?_) (a' := ?_) #[true, true, true, true, true, true, true, true, false, false] rfl rfl (by kernel_rfl) (fun _ _ _ h => h) (Or.inl ⟨by rfl, ?_⟩) ?_ ?_
          rotate_left
          · intro w'
            go_simp
            with_reducible rfl
          rotate_left
          · simp only [Act.put, List.setIfInBounds_toArray, List.set_cons_zero, List.set_cons_succ, i64_w, i32_w]
            rfl
          refine take_ (i := 8) (N := some 119) (v := ?_) (a' := ?_) #[true, true, true, true, true, true, true, true, true, false] rfl rfl (by kernel_rfl) (fun _ _ _ h => h) (Or.inl ⟨by rfl, ?_⟩) hHeld ?_ ?_
          rotate_left
          · rintro w' ⟨s0, s1, s2, s3, s4⟩
            go_simp
            with_reducible rfl
          rotate_left
          · simp only [Act.put, List.setIfInBounds_toArray, List.set_cons_zero, List.set_cons_succ, i64_w, i32_w]
            rfl
          refine last_ (i := 9) (N := some 120) #[true, true, true, true, true, true, true, true, true, true] rfl rfl (by kernel_rfl) (by decide) (fun K hK => ?_)
          refine value_ (by rfl) rfl (v := .bool false) (w1 := wr.drew) (by first | (go_simp; done) | (go_simp; rfl)) ?_
          refine hK.out _ _ ?_
          clear hK K
          refine done_ (by kernel_rfl) ?_
          have HRd := Aside0.mk (HR.out.below (below_drew1 (Below.refl wr.heap.size wr)))
          go_wp2_with (first | (refine Kd.R_store k37 (w0 := wr.drew) base rfl rfl 37 (.tmp 124) (.tmp 123) rfl 37 (g := gI) (n := m) (cap := ci) (o' := k.toNat * 2) k 0 xs ⟨1, 1⟩ (.agg #[.int .i64 1, .int .i64 1]) [.int .i64 1, .int .i64 1] [.int .i64 f0, .int .i64 f1] (fun k => base ≤ k) (fun _ => False) (show Value.pointer (some (adI.add (k.toNat * 2))) = _ by rw [HAdI.out, add_plain]) rfl rfl rfl info37z (by decide) (by rw [← HAdI.out]; exact HRd.out.own) (by have := HK.out; omega) (by have := HK.out; omega) rfl (two_cells HAdI.out HX0'.out HX1'.out) (by decide) (k37_mkM _ _ _ ⟨1, 1⟩) (fun _ h => h.elim) (Below.refl _ _) ?_; intro w3 ho3 hb3 hg3; rw [← HAdI.out] at ho3; have HRw := Aside0.mk (HRd.out.write hg3 ho3); clear ho3 hb3 hg3))
          go_roundg k2
          case measure => omega
          case rel => exact ⟨k + 1, _, by first | rfl | rw [haddk], ⟨by have := HK.out; omega, by have := HK.out; omega⟩, HRw, ⟨fun j hj => by rw [List.getElem?_set_ne (by have := HK.out; omega)]; exact HX.out j (by omega)⟩⟩
theorem script_law (A A0 : Option Addr) (n c m0 c0 : Nat) (own : List S37) (w : World) (ha : ActsS w A n) (hv : Sl w (.slice A0 m0 c0) own) : Calls Try.prog 8 #[.slice A n c, .slice A0 m0 c0] w fun e w' => e = .returned (.bool true) ∧ Below w.heap.size w w' := by
  by_cases h : 60 < n ∨ 70 < m0
  · exact script_long A A0 n c m0 c0 w h
  · exact script_main A A0 n c m0 c0 own w (by omega) (by omega) ha hv
end Go.Proofs.Ytpcpjlbfhbicaaa.Sh
