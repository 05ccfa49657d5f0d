/- Own walks for the law, joined from several texts: what the law reaches, and no more (joined by keeplive.py). -/
import Derived.Test.YtpcpjlbfhbicaaaS7
import Derived.Test.YtpcpjlbfhbicaaaS8
section
set_option linter.unusedVariables false
set_option linter.unusedSimpArgs false
namespace Go.Proofs.Ytpcpjlbfhbicaaa.Sh
open Go Go.RowKit Go.Proofs.YtpcpjlbfhbicaaaW.PrintWords Go.Proofs.YtpcpjlbfhbicaaaW.PrintLast Go.Proofs.YtpcpjlbfhbicaaaW.PrintMore Go.Proofs.Ytpcpjlbfhbicaaa.PStyleProps
open Go.Proofs.Ytpcpjlbfhbicaaa.PStyleNearest (S37 k37 z37 rd_T37 at_T37 k37_open k37_openM k37_mk k37_mkM info37)
set_option maxHeartbeats 16000000 in
set_option maxRecDepth 100000 in
theorem rdef_main0 (b0 : Nat) (p : Nat) (W : List Sty) (n pn : ByteArray) (v : Value) (l : List S37) (w : World) (hb0 : b0 < w.heap.size) (hs : RSheetO b0 w p W) (hI : RI W) (hri : Rises W) (hv : Sl w v l) (hnb : nameB n) (hsz : n.size ≤ 1000) (he : setE l = 0) (k : Nat) (ab : Bool) (hab : aboveG (upL W) n k pn = some ab) (hp : pn = ⟨#[]⟩) :
    Calls Try.prog 34 #[.pointer (some ⟨p, 0, none⟩), .string n, .string pn, v] w fun e w' => ∃ r, e = .returned (.int .i64 r) ∧ r = defE true 0 ab W n pn ∧ RSheetO b0 w' p (if r = 0 then insW n pn l false W else W) ∧ w.grownBy w' (some p) := by
  have hu71 := Try.underlying71
  have hu69 := Try.underlying69
  have hu99 := Try.underlying99
  have hu43 := Try.underlying43
  have hu37 := Try.underlying37
  have hW32 := hI.len
  have hl64 := (setE_zero he).2
  have HN : Aside0 (∀ w', Calls Try.prog 50 #[.string n] w' fun e w'' => e = .returned (.bool true) ∧ Below w'.heap.size w' w'') := ⟨fun w' => (rname_calls n w' hsz).mono (by rintro e w'' ⟨⟨b, rfl, hb⟩, h2⟩; rw [hb.2 hnb]; exact ⟨rfl, h2⟩)⟩
  have HAtAll : Aside0 (∀ m i, AtIs W m i → ∀ w', RSheet w' p W → Calls Try.prog 51 #[.pointer (some ⟨p, 0, none⟩), .string m] w' fun e w'' => e = .returned (.int .i64 i) ∧ w'' = w') := ⟨fun m i hi w' hw' => at_fix p W m i w' hw' (by omega) hi⟩
  have HPar := Aside0.mk hI.par
  have HRi := Aside0.mk hri
  obtain ⟨A0, c0, rfl, z2, z3⟩ := id hv
  have HOwn := Aside0.mk hv
  have HFt : Aside0 (∀ w', Sl w' (.slice A0 l.length c0) l → Calls Try.prog 52 #[.slice A0 l.length c0] w' fun x w'' => x = .returned (.int .i64 0) ∧ Below w'.heap.size w' w'') := ⟨fun w' h => by rw [← he]; exact rfits_calls _ l w' h⟩
  have HSO := Aside0.mk hs
  have HS := Aside0.mk hs.sheet
  obtain ⟨A, c, M, h1, hc, hC, hrd, hoff, _⟩ := id hs
  have HOff := Aside0.mk hoff
  have HB0 := Aside0.mk hb0
  clear hoff hb0
  obtain ⟨nl, hnl⟩ : ∃ nl, Aside0 (nl = M.length) := ⟨_, ⟨rfl⟩⟩
  have HWl : Aside0 (nl = W.length) := ⟨by rw [hnl.out, reads_len hrd]⟩
  rw [← hnl.out] at h1 hC
  have H1 := Aside0.mk h1
  have HC := Aside0.mk hC
  have HRd := Aside0.mk hrd
  have HLen : Aside0 (nl ≤ 32 ∧ l.length ≤ 64) := ⟨⟨by rw [HWl.out]; exact hW32, hl64⟩⟩
  have HD : Aside0 (defE true 0 ab W n pn = if ab = true then 10 else if fnd W n = none ∧ 32 ≤ W.length then 8 else 0) := ⟨by
    unfold defE
    rw [if_neg (by decide), if_neg (by intro h; exact h.1 hp), if_neg (by decide)]⟩
  have HAb := Aside0.mk hab
  have HPn : Aside0 (pn = ⟨#[]⟩ ∨ (fnd W pn).isSome = true) := ⟨.inl hp⟩
  clear hs hI hri hv he hab z2 z3 h1 hc hC hrd hW32 hl64 hnb hsz
  subst hp
  go_enter Try.func34, Try.ntmps34
  go_upto_region 8 with (first | (go_at_call 50; with_reducible refine (HN.out _).mono ?_; rintro x wz ⟨rfl, hb⟩; have HB := Aside0.mk hb; clear hb) | (go_at_call 52; with_reducible refine (HFt.out _ (HOwn.out.below HB.out)).mono ?_; rintro x wz ⟨rfl, hb⟩; have HBn := Aside0.mk (below_step HB.out hb); clear HB hb; have HB := HBn; clear HBn))
  go_wp2
  go_loopg [10] k (fun kq v10 w' => ∃ o, v10 = .string o ∧ Aside0 (aboveG (upL W) n kq o = some ab) ∧ Aside0 (o = ⟨#[]⟩ ∨ (fnd W o).isSome = true) ∧ Aside0 (Below w.heap.size w w'))
  case atStart => exact ⟨_, rfl, HAb, ⟨.inl rfl⟩, HB⟩
  case round =>
    clear HB HAb HPn
    obtain ⟨o, rfl, HA, HPo, HB⟩ := hrel
    cases gk with
    | zero => exact absurd HA.out (by simp [aboveG])
    | succ k1 =>
      have h := HA.out
      simp only [aboveG] at h
      by_cases c1 : o = ⟨#[]⟩
      · rw [if_pos c1] at h
        have hab2 : ab = false := (Option.some.inj h).symm
        subst hab2
        subst c1
        clear h
        obtain ⟨i, hi⟩ := AtIs.ex W n
        have HAtN : Aside0 (∀ w', RSheet w' p W → Calls Try.prog 51 #[.pointer (some ⟨p, 0, none⟩), .string n] w' fun e w'' => e = .returned (.int .i64 i) ∧ w'' = w') := ⟨HAtAll.out n i hi⟩
        have HI := Aside0.mk hi
        clear hi
        have HO0 : Aside0 (Kd.R k37 37 (wr.alloc (.cells #[] 37)) w.heap.size (fun _ => True) (.slice (some ⟨wr.heap.size, 0, none⟩) 0 0) []) := ⟨⟨fun _ _ => trivial, [], World.ownsRow_made wr #[] 0 (below_size HB.out) (Nat.zero_le _) rfl, Reps.none _ _⟩⟩
        go_upto_region 14 with (first | (at_builtin; refine Kd.R_append_rows k37 (w0 := w) (Rr := fun x cs => cs = [.int .i64 x.f0, .int .i64 x.f1]) w.heap.size rfl (.tmp 50) (.tmp 51) 43 37 (.agg #[(.int .i64 0), (.int .i64 0)]) 16 rfl Try.underlying43 info37 rfl (by decide) (by omega) (.slice (some ⟨wr.heap.size, 0, none⟩) 0 0) [] l A0 l.length c0 (fun _ => True) (fun _ => False) rfl rfl HO0.out ?aR ?aK (fun _ hk => hk.elim) (fun _ _ => trivial) (below_alloc HB.out _) ?aB ?aL ?_; (case aR => (obtain ⟨A9, c9, e9, _, r9⟩ := HOwn.out; injection e9 with e91 e92 e93; subst e91 e93; exact Kd.C_below r9 (below_alloc HB.out _) |>.imp_ (Below.refl _ _) (fun _ _ hp => k37_open hp))); (case aK => (intro x cs hx; subst hx; exact k37_mkM _ _ _ x)); (case aB => exact below_size (below_alloc HB.out _)); (case aL => (have := HLen.out; simp only [List.length_nil]; omega)); intro v1 w1 ho1 hb1 hg1 hat1; rw [List.nil_append] at ho1; have hfr := Fr.R ho1; obtain ⟨As, cs, ev1, q1, q2⟩ := Kd.R_reads ho1; subst ev1; have HFs : Aside0 (∀ m, OffV b0 (.slice As m cs)) := ⟨fun m ad n c e _ => by (injection e with e1 _ _; have := hfr ad _ _ (by rw [e1]); have := HB0.out; omega)⟩; clear hfr; have HSt := Aside0.mk (show Sl w1 (.slice As l.length cs) l from ⟨As, cs, rfl, q1, q2⟩); have HB1 := Aside0.mk hb1; clear ho1 hb1 hg1 hat1 q1 q2 HB; have HB := HB1; clear HB1))
        obtain ⟨ns, hns⟩ : ∃ ns, Aside0 (ns = l.length) := ⟨_, ⟨rfl⟩⟩
        rw [← hns.out] at HSt
        first
          | rw [← hns.out]
          | skip
        have HBq := Aside0.mk (below_alloc HB.out (.cells #[.string n, .string (⟨#[]⟩ : ByteArray), .slice As ns cs] 99))
        have BKq : Aside0 ((w1.alloc (.cells #[.string n, .string (⟨#[]⟩ : ByteArray), .slice As ns cs] 99)).heap[w1.heap.size]? = some (.cells #[.string n, .string (⟨#[]⟩ : ByteArray), .slice As ns cs] 99 (0, 0))) := ⟨blk_new _ _⟩
        have HStq : Aside0 (Sl (w1.alloc (.cells #[.string n, .string (⟨#[]⟩ : ByteArray), .slice As ns cs] 99)) (.slice As ns cs) l) := ⟨HSt.out.below (below_alloc (Below.refl _ _) _)⟩
        clear HB HSt HO0
        generalize w1.alloc (.cells #[.string n, .string (⟨#[]⟩ : ByteArray), .slice As ns cs] 99) = wb at HBq BKq HStq ⊢
        generalize w1.heap.size = g11 at BKq ⊢
        have HSb := Aside0.mk (HS.out.below HBq.out)
        have H1b := Aside0.mk (blk_below H1.out HBq.out)
        have HCb := Aside0.mk (Kd.C_below HC.out HBq.out)
        have HRdb := Aside0.mk (HRd.out.imp (fun _ _ h => h.below HBq.out))
        have e0 := (blk_cell H1b.out 0).trans rfl
        by_cases c8 : fnd W n = none ∧ 32 ≤ W.length
        · have hi1 : i = -1 := by
            rcases HI.out with h | ⟨_, ⟨s, _, _, h⟩, _⟩
            · exact h.1
            · rw [c8.1] at h; cases h
          have hnl32 : decide ((32 : Int) ≤ (nl : Int)) = true := decide_eq_true (by have := HWl.out; omega)
          have hnl32' : decide (32 ≤ nl) = true := decide_eq_true (by have := HWl.out; omega)
          have H8 : Aside0 (8 = defE true 0 false W n (⟨#[]⟩ : ByteArray)) := ⟨by rw [HD.out, if_neg (by decide), if_pos c8]⟩
          subst hi1
          clear c8
          go_wp2_with (first | (go_at_call 51; with_reducible refine (HAtN.out _ HSb.out).mono ?_; rintro x wz ⟨rfl, hw⟩; rw [hw]; clear hw))
          go_ret
          exact ⟨8, rfl, H8.out, HSO.out.below HBq.out, grown_of_below HBq.out _⟩
        · have H8 : Aside0 (0 = defE true 0 false W n (⟨#[]⟩ : ByteArray)) := ⟨by rw [HD.out, if_neg (by decide), if_neg c8]⟩
          have hcond : (i < 0 ∧ ¬ (32 : Int) ≤ (nl : Int)) ∨ ¬ i < 0 := by
            rcases HI.out with h | ⟨h0, _⟩
            · left
              refine ⟨by omega, fun hh => c8 ⟨h.2, by have := HWl.out; omega⟩⟩
            · right; omega
          clear c8
          rcases hcond with ⟨q1, q2⟩ | q1
          all_goals (have dn := (by first | exact decide_eq_true q1 | exact decide_eq_false q1 : decide (i < 0) = _))
          all_goals (try have d32 : decide ((32 : Int) ≤ (nl : Int)) = false := decide_eq_false q2)
          all_goals (try have d32' : decide (32 ≤ nl) = false := decide_eq_false (by omega))
          all_goals clear q1
          all_goals try clear q2
          all_goals go_upto_region 19 with (first | (go_at_call 51; with_reducible refine (HAtN.out _ HSb.out).mono ?_; rintro x wz ⟨rfl, hw⟩; rw [hw]; clear hw))
          all_goals go_wp2
          all_goals
            go_loopg [13, 14, 15] nl (fun kq v13 v14 v15 w' => ∃ (j : Int) (Ao : Option Addr) (no co : Nat) (inn : Bool) (Mo : List Ent) (Wo : List Sty), v13 = .slice Ao no co ∧ v14 = .bool inn ∧ v15 = .int .i64 j ∧ Aside0 (0 ≤ j ∧ j + kq = nl) ∧ Aside0 (Kd.R kSt 99 w' wb.heap.size (fun _ => True) (.slice Ao no co) Mo) ∧ Aside0 (Reads wb Mo Wo) ∧ Aside0 (OffM b0 Mo) ∧ Aside0 (Wo ++ insW n (⟨#[]⟩ : ByteArray) l inn (W.drop j.toNat) = insW n (⟨#[]⟩ : ByteArray) l false W) ∧ Aside0 (Mo.length ≤ j.toNat + inn.toNat) ∧ Aside0 (Below wb.heap.size wb w'))
            case atStart => exact ⟨0, none, 0, 0, false, [], [], rfl, rfl, rfl, ⟨by omega, by omega⟩, ⟨Kd.R_nil _ _ _ _ _⟩, ⟨trivial⟩, ⟨fun _ h => by cases h⟩, ⟨rfl⟩, ⟨Nat.zero_le _⟩, ⟨Below.refl _ _⟩⟩
            case round =>
              obtain ⟨j, Ao, no, co, inn, Mo, Wo, rfl, rfl, rfl, HJ, HO, HRo, HOo, HW, HMl, HBb⟩ := hrel
              have e0 := (blk_cell (blk_below H1b.out HBb.out) 0).trans rfl
              have y0 := (blk_cell (blk_below BKq.out HBb.out) 0).trans rfl
              have y1 := (blk_cell (blk_below BKq.out HBb.out) 1).trans rfl
              have y2 := (blk_cell (blk_below BKq.out HBb.out) 2).trans rfl
              cases gk with
              | zero =>
                have hj := HJ.out
                have q109 : decide (j < (nl : Int)) = false := decide_eq_false (by omega)
                have hd : W.drop j.toNat = [] := List.drop_eq_nil_of_le (by have := HWl.out; omega)
                have hW := HW.out
                rw [hd] at hW
                have HMl2 : Aside0 (Mo.length ≤ 34) := ⟨by have := HMl.out; have := HLen.out; have := Bool.toNat_le inn; omega⟩
                clear HMl
                have HMl := HMl2
                clear hj hd HMl2
                cases inn with
                | true =>
                  have hW2 : Wo = insW n (⟨#[]⟩ : ByteArray) l false W := by rw [← hW]; simp [insW]
                  have HW2 := Aside0.mk hW2
                  clear hW hW2 HW
                  go_wp2_with (first | (refine wpList_slot rfl rfl (.tmp 116) (.tmp 114) rfl p Ao no co rfl rfl _ (blk_below H1b.out HBb.out) ?_))
                  go_ret
                  refine ⟨0, rfl, H8.out, ?_, grown_slot (HBq.out.trans (HBb.out.mono (below_size HBq.out))) _⟩
                  rw [if_pos rfl]
                  obtain ⟨A4, c4, e4, r1, r2⟩ := kSt_R HO.out
                  obtain ⟨rfl, rfl, rfl⟩ : A4 = Ao ∧ no = Mo.length ∧ c4 = co := by injection e4 with q1 q2 q3; exact ⟨q1.symm, q2, q3.symm⟩
                  have hfin := RSheetO.set (b := b0) (blk_below H1b.out HBb.out) r1 r2 (fun ad' e he => by have h1 := R_off HO.out ad' e; have h2 := blk_lt H1b.out; rw [he] at h1; omega) (HRo.out.imp (fun _ _ h => h.below HBb.out)) (fun v l h => h.grown (slot_no (blk_below H1b.out HBb.out)) (grown_slot (Below.refl _ _) _)) (HOo.out) (fun ad' e => by have h1 := R_off HO.out ad' e; have h2 := HB0.out; have h3 := below_size HBq.out; omega)
                  rw [← HW2.out]
                  first
                    | exact hfin
                    | (simp only [List.length_append, List.length_cons, List.length_nil, Nat.zero_add] at hfin; exact hfin)
                | false =>
                  have hW2 : Wo ++ [(n, (⟨#[]⟩ : ByteArray), l)] = insW n (⟨#[]⟩ : ByteArray) l false W := by rw [← hW]; simp [insW]
                  have HW2 := Aside0.mk hW2
                  clear hW hW2 HW
                  go_wp2_with (first | (at_builtin; refine Kd.R_append kSt (w0 := wb) wb.heap.size rfl (.tmp 109) (.tmp 111) 69 99 (.agg #[.string ⟨#[]⟩, .string ⟨#[]⟩, .slice none 0 0]) 56 rfl Try.underlying69 info99 rfl (by decide) (by omega) _ Mo (n, (⟨#[]⟩ : ByteArray), (Value.slice As ns cs)) [.string n, .string (⟨#[]⟩ : ByteArray), (Value.slice As ns cs)] (fun _ => True) (fun _ => False) rfl rfl ⟨rfl, rfl⟩ (fun _ hk => hk.elim) (fun _ _ => trivial) HO.out HBb.out (below_size HBb.out) (by have := HMl.out; have := HLen.out; first | omega | (simp only [List.length_append, List.length_cons, List.length_nil]; omega)) ?_; intro v1 w1 ho1 hb1 hg1 hat1; obtain ⟨A3, c3, ev1, q1, q2⟩ := kSt_R ho1; obtain ⟨n3, hn3⟩ : ∃ n3, n3 = (Mo ++ [(n, (⟨#[]⟩ : ByteArray), (Value.slice As ns cs))]).length := ⟨_, rfl⟩; rw [← hn3] at ev1; subst ev1; clear hn3; have HO1 := Aside0.mk ho1; have HB1 := Aside0.mk hb1; clear ho1 hb1 hg1 hat1 q1 q2 HO HBb; have HO := HO1; have HBb := HB1; clear HO1 HB1) | (refine wpList_slot rfl rfl (.tmp 116) (.tmp 114) rfl p _ _ _ rfl rfl _ (blk_below H1b.out HBb.out) ?_))
                  go_ret
                  refine ⟨0, rfl, H8.out, ?_, grown_slot (HBq.out.trans (HBb.out.mono (below_size HBq.out))) _⟩
                  rw [if_pos rfl]
                  obtain ⟨A4, c4, e4, r1, r2⟩ := kSt_R HO.out
                  obtain ⟨rfl, rfl, rfl⟩ : A4 = A3 ∧ n3 = (Mo ++ [(n, (⟨#[]⟩ : ByteArray), Value.slice As ns cs)]).length ∧ c4 = c3 := by injection e4 with q1 q2 q3; exact ⟨q1.symm, q2, q3.symm⟩
                  have hfin := RSheetO.set (b := b0) (blk_below H1b.out HBb.out) r1 r2 (fun ad' e he => by have h1 := R_off HO.out ad' e; have h2 := blk_lt H1b.out; rw [he] at h1; omega) ((reads_app (M2 := [(n, (⟨#[]⟩ : ByteArray), .slice As ns cs)]) (W2 := [(n, (⟨#[]⟩ : ByteArray), l)]) HRo.out ⟨rfl, rfl, HStq.out, trivial⟩).imp (fun _ _ h => h.below HBb.out)) (fun v l h => h.grown (slot_no (blk_below H1b.out HBb.out)) (grown_slot (Below.refl _ _) _)) (HOo.out.app (OffM.one (m := (n, (⟨#[]⟩ : ByteArray), .slice As ns cs)) (HFs.out _))) (fun ad' e => by have h1 := R_off HO.out ad' e; have h2 := HB0.out; have h3 := below_size HBq.out; omega)
                  rw [← HW2.out]
                  first
                    | exact hfin
                    | (simp only [List.length_append, List.length_cons, List.length_nil, Nat.zero_add] at hfin; exact hfin)
              | succ k2 =>
                have hj := HJ.out
                have p108 : 0 ≤ j := hj.1
                have q108 : j < (nl : Int) := by omega
                have cb1 : decide (j < (nl : Int)) = true := decide_eq_true q108
                have hadd : wrap64 (j + 1) = j + 1 := by have := HLen.out; unfold wrap64; omega
                obtain ⟨m, hm⟩ : ∃ m, M[j.toNat]? = some m := ⟨_, List.getElem?_eq_getElem (by have := hnl.out; omega)⟩
                obtain ⟨ad, ea, ha, hb, hcc⟩ := at_St HCb.out j.toNat m hm hnl.out.symm
                obtain ⟨s, hs, g1, g2, g3⟩ := reads_get HRdb.out hm
                subst ea
                have hdrop : W.drop j.toNat = s :: W.drop (j.toNat + 1) := by
                  obtain ⟨hlt, he⟩ := List.getElem?_eq_some_iff.1 hs
                  rw [List.drop_eq_getElem_cons hlt, he]
                obtain ⟨Am, cm, em, _, _⟩ := id g3
                obtain ⟨nm, hnm⟩ : ∃ nm, nm = s.2.2.length := ⟨_, rfl⟩
                rw [← hnm] at em
                obtain ⟨a, ha'⟩ : ∃ a, a = m.1 := ⟨_, rfl⟩
                obtain ⟨b, hb'⟩ : ∃ b, b = m.2.1 := ⟨_, rfl⟩
                rw [← ha'] at ha g1
                rw [← hb'] at hb g2
                rw [em] at hcc g3
                have HOm : Aside0 (OffV b0 (.slice Am nm cm)) := ⟨by have h := HOff.out m (List.mem_of_getElem? hm); rw [em] at h; exact h⟩
                have HOs : Aside0 (OffM b0 (Mo ++ [(a, b, .slice Am nm cm)])) := ⟨HOo.out.app (OffM.one (m := (a, b, .slice Am nm cm)) HOm.out)⟩
                have HOst2 : Aside0 (OffM b0 ((Mo ++ [(n, (⟨#[]⟩ : ByteArray), .slice As ns cs)]) ++ [(a, b, .slice Am nm cm)])) := ⟨(HOo.out.app (OffM.one (m := (n, (⟨#[]⟩ : ByteArray), .slice As ns cs)) (HFs.out _))).app (OffM.one (m := (a, b, .slice Am nm cm)) HOm.out)⟩
                have HX0 := Aside0.mk ha
                have HX1 := Aside0.mk hb
                have HX2 := Aside0.mk hcc
                have ya := (HBb.out.cell (World.block_lt_of_cell? wb _ HX0.out)).trans HX0.out
                have yb := (HBb.out.cell (World.block_lt_of_cell? wb _ HX1.out)).trans HX1.out
                have yc := (HBb.out.cell (World.block_lt_of_cell? wb _ HX2.out)).trans HX2.out
                have HRs : Aside0 (Reads wb (Mo ++ [(a, b, .slice Am nm cm)]) (Wo ++ [s])) := ⟨reads_app HRo.out ⟨g1.symm, g2.symm, g3, trivial⟩⟩
                have HRst : Aside0 (Reads wb (Mo ++ [(n, (⟨#[]⟩ : ByteArray), .slice As ns cs)]) (Wo ++ [(n, (⟨#[]⟩ : ByteArray), l)])) := ⟨reads_app HRo.out ⟨rfl, rfl, HStq.out, trivial⟩⟩
                have HRst2 : Aside0 (Reads wb ((Mo ++ [(n, (⟨#[]⟩ : ByteArray), .slice As ns cs)]) ++ [(a, b, .slice Am nm cm)]) ((Wo ++ [(n, (⟨#[]⟩ : ByteArray), l)]) ++ [s])) := ⟨reads_app HRst.out ⟨g1.symm, g2.symm, g3, trivial⟩⟩
                have HMlo := HMl
                have HMl2 : Aside0 (Mo.length ≤ 34) := ⟨by have := HMl.out; have := HLen.out; have := Bool.toNat_le inn; omega⟩
                clear HMl
                have HMl := HMl2
                clear HMl2
                by_cases cn : n = s.1
                · have hji : j = i := by
                    rcases HI.out with ⟨_, h⟩ | ⟨h0, ⟨t, h1, h2, h3⟩, h4⟩
                    · exact absurd cn.symm ((fun h => by
                        unfold fnd at h
                        rw [List.find?_eq_none] at h
                        have := h s (List.mem_of_getElem? hs)
                        intro e
                        rw [e, ba_refl] at this
                        exact this rfl) h)
                    · rcases Nat.lt_or_ge j.toNat i.toNat with c | c
                      · exact absurd cn.symm (h4 _ c s hs)
                      · rcases Nat.lt_or_ge i.toNat j.toNat with c2 | c2
                        · obtain ⟨x1, x2⟩ := List.getElem?_eq_some_iff.1 h1
                          obtain ⟨z1, z2⟩ := List.getElem?_eq_some_iff.1 hs
                          have := List.pairwise_iff_getElem.1 HRi.out i.toNat j.toNat x1 z1 c2
                          rw [x2, z2, h2, ← cn] at this
                          exact absurd this (List.lt_irrefl _)
                        · omega
                  have HW2 : Aside0 (Wo ++ insW n (⟨#[]⟩ : ByteArray) l inn (W.drop (j + 1).toNat) = insW n (⟨#[]⟩ : ByteArray) l false W) := ⟨by
                    have := HW.out
                    rw [hdrop, insW, cn, ba_refl, if_pos rfl] at this
                    rw [show (j + 1).toNat = j.toNat + 1 by omega, cn]
                    exact this⟩
                  have ceq : (j == i) = true := beq_iff_eq.mpr hji
                  clear hj hm hs g1 g2 g3 hdrop em hnm ha' hb' ha hb hcc cn hji
                  go_wp2
                  go_roundg k2
                  case measure => omega
                  case rel => exact ⟨j + 1, Ao, no, co, inn, Mo, Wo, rfl, rfl, by first | rfl | rw [hadd], ⟨by have := HJ.out; omega, by have := HJ.out; omega⟩, HO, HRo, HOo, HW2, ⟨by have := HMlo.out; have := HJ.out; omega⟩, HBb⟩
                · have hji : j ≠ i := by
                    intro e
                    rcases HI.out with ⟨h, _⟩ | ⟨h0, ⟨t, h1, h2, h3⟩, h4⟩
                    · omega
                    · rw [← e, hs] at h1
                      cases h1
                      exact cn h2.symm
                  have ceq : (j == i) = false := beq_eq_false_iff_ne.mpr hji
                  have hins : insW n (⟨#[]⟩ : ByteArray) l inn (W.drop j.toNat) = if (!inn && ltB n s.1) then (n, (⟨#[]⟩ : ByteArray), l) :: s :: insW n (⟨#[]⟩ : ByteArray) l true (W.drop (j.toNat + 1)) else s :: insW n (⟨#[]⟩ : ByteArray) l inn (W.drop (j.toNat + 1)) := by
                    rw [hdrop, insW, ba_ne cn, if_neg (by decide)]
                  have hless : Op.bytesLess n.toList a.toList = ltB n s.1 := by rw [g1]; exact less_ltB n a
                  have hjt : (j + 1).toNat = j.toNat + 1 := by omega
                  have p108t := eq_true p108
                  have q108t := eq_true q108
                  cases inn with
                  | true =>
                    have HW2 : Aside0 ((Wo ++ [s]) ++ insW n (⟨#[]⟩ : ByteArray) l true (W.drop (j + 1).toNat) = insW n (⟨#[]⟩ : ByteArray) l false W) := ⟨by
                      have := HW.out
                      rw [hins] at this
                      rw [hjt, List.append_assoc]
                      exact this⟩
                    clear hj hm hs g1 g2 g3 hdrop em hnm ha' hb' ha hb hcc cn hji hins hless hjt p108 q108 HW
                    go_wp2_with (first | (at_builtin; refine Kd.R_append kSt (w0 := wb) wb.heap.size rfl (.tmp 97) (.tmp 105) 69 99 (.agg #[.string ⟨#[]⟩, .string ⟨#[]⟩, .slice none 0 0]) 56 rfl Try.underlying69 info99 rfl (by decide) (by omega) _ Mo (a, b, (Value.slice Am nm cm)) [.string a, .string b, (Value.slice Am nm cm)] (fun _ => True) (fun _ => False) rfl rfl ⟨rfl, rfl⟩ (fun _ hk => hk.elim) (fun _ _ => trivial) HO.out HBb.out (below_size HBb.out) (by have := HMl.out; have := HLen.out; first | omega | (simp only [List.length_append, List.length_cons, List.length_nil]; omega)) ?_; intro v1 w1 ho1 hb1 hg1 hat1; obtain ⟨A3, c3, ev1, q1, q2⟩ := kSt_R ho1; obtain ⟨n3, hn3⟩ : ∃ n3, n3 = (Mo ++ [(a, b, (Value.slice Am nm cm))]).length := ⟨_, rfl⟩; rw [← hn3] at ev1; subst ev1; clear hn3; have HO1 := Aside0.mk ho1; have HB1 := Aside0.mk hb1; clear ho1 hb1 hg1 hat1 q1 q2 HO HBb; have HO := HO1; have HBb := HB1; clear HO1 HB1))
                    go_roundg k2
                    case measure => omega
                    case rel => exact ⟨j + 1, _, _, _, true, _, Wo ++ [s], rfl, rfl, by first | rfl | rw [hadd], ⟨by have := HJ.out; omega, by have := HJ.out; omega⟩, HO, HRs, HOs, HW2, ⟨by have := HMlo.out; have := HJ.out; rw [List.length_append, List.length_cons, List.length_nil]; omega⟩, HBb⟩
                  | false =>
                    cases hl : ltB n s.1 with
                    | true =>
                      rw [hl] at hless
                      have HW2 : Aside0 (((Wo ++ [(n, (⟨#[]⟩ : ByteArray), l)]) ++ [s]) ++ insW n (⟨#[]⟩ : ByteArray) l true (W.drop (j + 1).toNat) = insW n (⟨#[]⟩ : ByteArray) l false W) := ⟨by
                        have := HW.out
                        rw [hins, hl] at this
                        rw [hjt, List.append_assoc, List.append_assoc]
                        exact this⟩
                      clear hj hm hs g1 g2 g3 hdrop em hnm ha' hb' ha hb hcc cn hji hins hjt p108 q108 HW hl
                      go_wp2_with (first | (at_builtin; refine Kd.R_append kSt (w0 := wb) wb.heap.size rfl (.tmp 93) (.tmp 95) 69 99 (.agg #[.string ⟨#[]⟩, .string ⟨#[]⟩, .slice none 0 0]) 56 rfl Try.underlying69 info99 rfl (by decide) (by omega) _ Mo (n, (⟨#[]⟩ : ByteArray), (Value.slice As ns cs)) [.string n, .string (⟨#[]⟩ : ByteArray), (Value.slice As ns cs)] (fun _ => True) (fun _ => False) rfl rfl ⟨rfl, rfl⟩ (fun _ hk => hk.elim) (fun _ _ => trivial) HO.out HBb.out (below_size HBb.out) (by have := HMl.out; have := HLen.out; first | omega | (simp only [List.length_append, List.length_cons, List.length_nil]; omega)) ?_; intro v1 w1 ho1 hb1 hg1 hat1; obtain ⟨A3, c3, ev1, q1, q2⟩ := kSt_R ho1; obtain ⟨n3, hn3⟩ : ∃ n3, n3 = (Mo ++ [(n, (⟨#[]⟩ : ByteArray), (Value.slice As ns cs))]).length := ⟨_, rfl⟩; rw [← hn3] at ev1; subst ev1; clear hn3; have HO1 := Aside0.mk ho1; have HB1 := Aside0.mk hb1; clear ho1 hb1 hg1 hat1 q1 q2 HO HBb; have HO := HO1; have HBb := HB1; clear HO1 HB1; clear e0 ya yb yc y0 y1 y2; have e0 := (blk_cell (blk_below H1b.out HBb.out) 0).trans rfl; have ya := (HBb.out.cell (World.block_lt_of_cell? wb _ HX0.out)).trans HX0.out; have yb := (HBb.out.cell (World.block_lt_of_cell? wb _ HX1.out)).trans HX1.out; have yc := (HBb.out.cell (World.block_lt_of_cell? wb _ HX2.out)).trans HX2.out) | (at_builtin; refine Kd.R_append kSt (w0 := wb) wb.heap.size rfl (.tmp 97) (.tmp 105) 69 99 (.agg #[.string ⟨#[]⟩, .string ⟨#[]⟩, .slice none 0 0]) 56 rfl Try.underlying69 info99 rfl (by decide) (by omega) _ (Mo ++ [(n, (⟨#[]⟩ : ByteArray), Value.slice As ns cs)]) (a, b, (Value.slice Am nm cm)) [.string a, .string b, (Value.slice Am nm cm)] (fun _ => True) (fun _ => False) rfl rfl ⟨rfl, rfl⟩ (fun _ hk => hk.elim) (fun _ _ => trivial) HO.out HBb.out (below_size HBb.out) (by have := HMl.out; have := HLen.out; first | omega | (simp only [List.length_append, List.length_cons, List.length_nil]; omega)) ?_; intro v1 w1 ho1 hb1 hg1 hat1; obtain ⟨A3, c3, ev1, q1, q2⟩ := kSt_R ho1; obtain ⟨n3, hn3⟩ : ∃ n3, n3 = ((Mo ++ [(n, (⟨#[]⟩ : ByteArray), Value.slice As ns cs)]) ++ [(a, b, (Value.slice Am nm cm))]).length := ⟨_, rfl⟩; rw [← hn3] at ev1; subst ev1; clear hn3; have HO1 := Aside0.mk ho1; have HB1 := Aside0.mk hb1; clear ho1 hb1 hg1 hat1 q1 q2 HO HBb; have HO := HO1; have HBb := HB1; clear HO1 HB1))
                      go_roundg k2
                      case measure => omega
                      case rel => exact ⟨j + 1, _, _, _, true, _, (Wo ++ [(n, (⟨#[]⟩ : ByteArray), l)]) ++ [s], rfl, rfl, by first | rfl | rw [hadd], ⟨by have := HJ.out; omega, by have := HJ.out; omega⟩, HO, HRst2, HOst2, HW2, ⟨by have h0 : Mo.length ≤ j.toNat + 0 := HMlo.out; have := HJ.out; show _ ≤ (j + 1).toNat + 1; simp only [List.length_append, List.length_cons, List.length_nil]; omega⟩, HBb⟩
                    | false =>
                      rw [hl] at hless
                      have HW2 : Aside0 ((Wo ++ [s]) ++ insW n (⟨#[]⟩ : ByteArray) l false (W.drop (j + 1).toNat) = insW n (⟨#[]⟩ : ByteArray) l false W) := ⟨by
                        have := HW.out
                        rw [hins, hl] at this
                        rw [hjt, List.append_assoc]
                        exact this⟩
                      clear hj hm hs g1 g2 g3 hdrop em hnm ha' hb' ha hb hcc cn hji hins hjt p108 q108 HW hl
                      go_wp2_with (first | (at_builtin; refine Kd.R_append kSt (w0 := wb) wb.heap.size rfl (.tmp 97) (.tmp 105) 69 99 (.agg #[.string ⟨#[]⟩, .string ⟨#[]⟩, .slice none 0 0]) 56 rfl Try.underlying69 info99 rfl (by decide) (by omega) _ Mo (a, b, (Value.slice Am nm cm)) [.string a, .string b, (Value.slice Am nm cm)] (fun _ => True) (fun _ => False) rfl rfl ⟨rfl, rfl⟩ (fun _ hk => hk.elim) (fun _ _ => trivial) HO.out HBb.out (below_size HBb.out) (by have := HMl.out; have := HLen.out; first | omega | (simp only [List.length_append, List.length_cons, List.length_nil]; omega)) ?_; intro v1 w1 ho1 hb1 hg1 hat1; obtain ⟨A3, c3, ev1, q1, q2⟩ := kSt_R ho1; obtain ⟨n3, hn3⟩ : ∃ n3, n3 = (Mo ++ [(a, b, (Value.slice Am nm cm))]).length := ⟨_, rfl⟩; rw [← hn3] at ev1; subst ev1; clear hn3; have HO1 := Aside0.mk ho1; have HB1 := Aside0.mk hb1; clear ho1 hb1 hg1 hat1 q1 q2 HO HBb; have HO := HO1; have HBb := HB1; clear HO1 HB1))
                      go_roundg k2
                      case measure => omega
                      case rel => exact ⟨j + 1, _, _, _, false, _, Wo ++ [s], rfl, rfl, by first | rfl | rw [hadd], ⟨by have := HJ.out; omega, by have := HJ.out; omega⟩, HO, HRs, HOs, HW2, ⟨by have := HMlo.out; have := HJ.out; rw [List.length_append, List.length_cons, List.length_nil]; omega⟩, HBb⟩
      · rw [if_neg c1] at h
        have c1' := list_ne c1
        have c1'' := ba_ne c1
        by_cases c2 : o = n
        · rw [if_pos c2] at h
          have hab2 : ab = true := (Option.some.inj h).symm
          subst hab2
          subst c2
          have c2' := ba_refl o
          have c2'' : (o.toList == o.toList) = true := beq_self_eq_true _
          have H10 : Aside0 (10 = defE true 0 true W o (⟨#[]⟩ : ByteArray)) := ⟨by rw [HD.out, if_pos rfl]⟩
          clear h c1
          go_wp2
          go_ret
          exact ⟨10, rfl, H10.out, HSO.out.below HB.out, grown_of_below HB.out _⟩
        · rw [if_neg c2] at h
          have c2' := ba_ne c2
          have c2'' := list_neq c2
          have H' := Aside0.mk h
          obtain ⟨i, hi⟩ := AtIs.ex W o
          have hsome : (fnd W o).isSome = true := by rcases HPo.out with e | e; exact absurd e c1; exact e
          obtain ⟨i0, s, hs1, hs2, hs3⟩ : 0 ≤ i ∧ ∃ s, W[i.toNat]? = some s ∧ s.1 = o ∧ fnd W o = some s := by
            rcases hi with ⟨_, h1⟩ | ⟨h0, h1, _⟩
            · rw [h1] at hsome; cases hsome
            · exact ⟨h0, h1⟩
          have hup : upL W o = s.2.1 := by unfold upL; rw [hs3]; rfl
          have HAtO : Aside0 (∀ w', RSheet w' p W → Calls Try.prog 51 #[.pointer (some ⟨p, 0, none⟩), .string o] w' fun e w'' => e = .returned (.int .i64 i) ∧ w'' = w') := ⟨HAtAll.out o i hi⟩
          obtain ⟨m, hm⟩ : ∃ m, M[i.toNat]? = some m := ⟨_, List.getElem?_eq_getElem (by have := (List.getElem?_eq_some_iff.1 hs1).1; have := HWl.out; have := hnl.out; omega)⟩
          obtain ⟨ad, ea, _, hx1, _⟩ := at_St HC.out i.toNat m hm hnl.out.symm
          obtain ⟨s', hs', _, g2, _⟩ := reads_get HRd.out hm
          obtain rfl : s = s' := by rw [hs1] at hs'; exact Option.some.inj hs'
          subst ea
          have HPs : Aside0 (upL W o = ⟨#[]⟩ ∨ (fnd W (upL W o)).isSome = true) := ⟨by rw [hup]; exact HPar.out s (List.mem_of_getElem? hs1)⟩
          have hlt : i < (nl : Int) := by have := (List.getElem?_eq_some_iff.1 hm).1; have := hnl.out; omega
          rw [← g2, ← hup] at hx1
          have HX1 := Aside0.mk hx1
          obtain ⟨u, hu⟩ : ∃ u, Aside0 (u = upL W o) := ⟨_, ⟨rfl⟩⟩
          rw [← hu.out] at HX1
          have p108 := eq_true i0
          have q108 := eq_true hlt
          clear h c1 c2 hi hsome i0 hs1 hs2 hs3 hup hm g2 hs' hlt hx1
          go_upto_region 10 with fail
          refine start_ (n := 11) (S := fun w' => w'.cell? ⟨p, 0, none⟩ = some (.slice (some ad) nl c) ∧ w'.cell? ⟨(ad.add (i.toNat * 3)).block, (ad.add (i.toNat * 3)).off + 1, none⟩ = some (.string u) ∧ Below w.heap.size w w' ∧ RSheet w' p W) (ds := [10]) #[false, false, false, false, false, false, false, false, false, false, false] (by kernel_rfl) rfl rfl ⟨(blk_cell (blk_below H1.out (below_drew1 HB.out)) 0).trans rfl, ((below_drew1 HB.out).cell (World.block_lt_of_cell? w _ HX1.out)).trans HX1.out, below_drew1 HB.out, HS.out.below (below_drew1 HB.out)⟩ (fun hHeld => ?_)
          refine pure_ (i := 0) (N := some 35) (v := ?_) (a' := ?_) #[true, false, false, false, false, false, false, false, false, false, false] rfl rfl (by kernel_rfl) (fun _ _ _ h => h) (Or.inl ⟨by rfl, ?_⟩) ?_ ?_
          rotate_left
          · intro w'
            go_simp
            with_reducible rfl
          rotate_left
          · simp only [Act.put, List.setIfInBounds_toArray, List.set_cons_zero, List.set_cons_succ, i64_w, i32_w]
            rfl
          refine pure_ (i := 1) (N := some 36) (v := ?_) (a' := ?_) #[true, true, false, false, false, false, false, false, false, false, false] rfl rfl (by kernel_rfl) (fun _ _ _ h => h) (Or.inl ⟨by rfl, ?_⟩) ?_ ?_
          rotate_left
          · intro w'
            go_simp
            with_reducible rfl
          rotate_left
          · simp only [Act.put, List.setIfInBounds_toArray, List.set_cons_zero, List.set_cons_succ, i64_w, i32_w]
            rfl
          refine pure_ (i := 2) (N := some 37) (v := ?_) (a' := ?_) #[true, true, true, false, false, false, false, false, false, false, false] rfl rfl (by kernel_rfl) (fun _ _ _ h => h) (Or.inl ⟨by rfl, ?_⟩) ?_ ?_
          rotate_left
          · intro w'
            go_simp
            with_reducible rfl
          rotate_left
          · simp only [Act.put, List.setIfInBounds_toArray, List.set_cons_zero, List.set_cons_succ, i64_w, i32_w]
            rfl
          refine take_ (i := 3) (N := some 38) (v := ?_) (a' := ?_) #[true, true, true, true, false, false, false, false, false, false, false] rfl rfl (by kernel_rfl) (fun _ _ _ h => h) (Or.inl ⟨by rfl, ?_⟩) hHeld ?_ ?_
          rotate_left
          · rintro w' ⟨s0, s1, s2, s3⟩
            go_simp
            with_reducible rfl
          rotate_left
          · simp only [Act.put, List.setIfInBounds_toArray, List.set_cons_zero, List.set_cons_succ, i64_w, i32_w]
            rfl
          refine pure_ (i := 4) (N := some 39) (v := ?_) (a' := ?_) #[true, true, true, true, true, false, false, false, false, false, false] rfl rfl (by kernel_rfl) (fun _ _ _ h => h) (Or.inl ⟨by rfl, ?_⟩) ?_ ?_
          rotate_left
          · intro w'
            go_simp
            with_reducible rfl
          rotate_left
          · simp only [Act.put, List.setIfInBounds_toArray, List.set_cons_zero, List.set_cons_succ, i64_w, i32_w]
            rfl
          refine pure_ (i := 5) (N := some 40) (v := ?_) (a' := ?_) #[true, true, true, true, true, true, false, false, false, false, false] rfl rfl (by kernel_rfl) (fun _ _ _ h => h) (Or.inl ⟨by rfl, ?_⟩) ?_ ?_
          rotate_left
          · intro w'
            go_simp
            with_reducible rfl
          rotate_left
          · simp only [Act.put, List.setIfInBounds_toArray, List.set_cons_zero, List.set_cons_succ, i64_w, i32_w]
            rfl
          refine one_ (i := 6) (N := some 41) #[true, true, true, true, true, true, true, false, false, false, false] rfl rfl (by kernel_rfl) (by decide) (fun K hK => ?_)
          refine goes_ Try.func51 (by kernel_rfl) rfl #[.pointer (some ⟨p, 0, none⟩), .string o] (by rfl) rfl rfl (by (simp only [List.map_toArray, List.map_cons, List.map_nil]); first | done | rfl) ?_
          with_reducible refine (HAtO.out _ hHeld.2.2.2).mono ?_
          rintro x wz ⟨rfl, hwz⟩
          rw [hwz]
          clear hwz
          refine ⟨_, rfl, ?_⟩
          refine hK.out _ _ hHeld (fun hHeld => ?_)
          clear hK K
          refine norm_ (a' := ?_) ?_ ?_
          rotate_left
          · show Act.put _ (some 41) _ = _
            simp only [Act.put, List.setIfInBounds_toArray, List.set_cons_zero, List.set_cons_succ, i64_w, i32_w]
            rfl
          refine pure_ (i := 7) (N := some 42) (v := ?_) (a' := ?_) #[true, true, true, true, true, true, true, true, false, false, false] rfl rfl (by kernel_rfl) (fun _ _ _ h => h) (Or.inl ⟨by rfl, ?_⟩) ?_ ?_
          rotate_left
          · intro w'
            go_simp
            with_reducible rfl
          rotate_left
          · simp only [Act.put, List.setIfInBounds_toArray, List.set_cons_zero, List.set_cons_succ, i64_w, i32_w]
            rfl
          refine pure_ (i := 8) (N := some 43) (v := ?_) (a' := ?_) #[true, true, true, true, true, true, true, true, true, false, false] rfl rfl (by kernel_rfl) (fun _ _ _ h => h) (Or.inl ⟨by rfl, ?_⟩) ?_ ?_
          rotate_left
          · intro w'
            go_simp
            with_reducible rfl
          rotate_left
          · simp only [Act.put, List.setIfInBounds_toArray, List.set_cons_zero, List.set_cons_succ, i64_w, i32_w]
            rfl
          refine take_ (i := 9) (N := some 44) (v := ?_) (a' := ?_) #[true, true, true, true, true, true, true, true, true, true, false] rfl rfl (by kernel_rfl) (fun _ _ _ h => h) (Or.inl ⟨by rfl, ?_⟩) hHeld ?_ ?_
          rotate_left
          · rintro w' ⟨s0, s1, s2, s3⟩
            go_simp
            with_reducible rfl
          rotate_left
          · simp only [Act.put, List.setIfInBounds_toArray, List.set_cons_zero, List.set_cons_succ, i64_w, i32_w]
            rfl
          refine last_ (i := 10) (N := some 10) #[true, true, true, true, true, true, true, true, true, true, true] rfl rfl (by kernel_rfl) (by decide) (fun K hK => ?_)
          refine value_ (by rfl) rfl (v := .string u) (w1 := wr.drew) (by first | (go_simp; done) | (go_simp; rfl)) ?_
          refine hK.out _ _ ?_
          clear hK K
          refine done_ (by kernel_rfl) ?_
          have HBn := Aside0.mk hHeld.2.2.1
          clear hHeld HB
          go_wp2
          go_roundg k1
          case measure => omega
          case rel => exact ⟨u, rfl, by rw [hu.out]; exact H', by rw [hu.out]; exact HPs, HBn⟩
end Go.Proofs.Ytpcpjlbfhbicaaa.Sh
end
section
set_option linter.unusedVariables false
set_option linter.unusedSimpArgs false
namespace Go.Proofs.Ytpcpjlbfhbicaaa.Sh
open Go Go.RowKit Go.Proofs.YtpcpjlbfhbicaaaW.PrintWords Go.Proofs.YtpcpjlbfhbicaaaW.PrintLast Go.Proofs.YtpcpjlbfhbicaaaW.PrintMore Go.Proofs.Ytpcpjlbfhbicaaa.PStyleProps
open Go.Proofs.Ytpcpjlbfhbicaaa.PStyleNearest (S37 k37 z37 rd_T37 at_T37 k37_open k37_openM k37_mk k37_mkM info37)
set_option maxHeartbeats 4000000 in
set_option maxRecDepth 100000 in
theorem rdef_name (p : Nat) (n pn : ByteArray) (A0 : Option Addr) (m0 c0 : Nat) (w : World) (hnb : ¬ nameB n) (hsz : n.size ≤ 1000) :
    Calls Try.prog 34 #[.pointer (some ⟨p, 0, none⟩), .string n, .string pn, .slice A0 m0 c0] w fun e w' => e = .returned (.int .i64 4) ∧ Below w.heap.size w w' := by
  have HN : Aside0 (∀ w', Calls Try.prog 50 #[.string n] w' fun e w'' => e = .returned (.bool false) ∧ Below w'.heap.size w' w'') := ⟨fun w' => (rname_calls n w' hsz).mono (by
    rintro e w'' ⟨⟨b, rfl, hb⟩, h2⟩
    cases b with
    | true => exact absurd (hb.1 rfl) hnb
    | false => exact ⟨rfl, h2⟩)⟩
  clear hnb hsz
  go_enter Try.func34, Try.ntmps34
  go_wp2_with (first | (go_at_call 50; with_reducible refine (HN.out _).mono ?_; rintro x wz ⟨rfl, hb⟩; have HB := Aside0.mk hb; clear hb))
  go_ret
  exact ⟨rfl, HB.out⟩
set_option maxHeartbeats 4000000 in
set_option maxRecDepth 100000 in
theorem rdef_miss (p : Nat) (W : List Sty) (n pn : ByteArray) (A0 : Option Addr) (m0 c0 : Nat) (w : World) (hs : RSheet w p W) (hl : W.length ≤ 1000) (hnb : nameB n) (hsz : n.size ≤ 1000) (hp : pn ≠ ⟨#[]⟩) (hf : fnd W pn = none) :
    Calls Try.prog 34 #[.pointer (some ⟨p, 0, none⟩), .string n, .string pn, .slice A0 m0 c0] w fun e w' => e = .returned (.int .i64 6) ∧ Below w.heap.size w w' := by
  have HN : Aside0 (∀ w', Calls Try.prog 50 #[.string n] w' fun e w'' => e = .returned (.bool true) ∧ Below w'.heap.size w' w'') := ⟨fun w' => (rname_calls n w' hsz).mono (by rintro e w'' ⟨⟨b, rfl, hb⟩, h2⟩; rw [hb.2 hnb]; exact ⟨rfl, h2⟩)⟩
  have HAtP : Aside0 (∀ w', RSheet w' p W → Calls Try.prog 51 #[.pointer (some ⟨p, 0, none⟩), .string pn] w' fun e w'' => e = .returned (.int .i64 (-1)) ∧ w'' = w') := ⟨fun w' hw' => at_fix p W pn (-1) w' hw' hl (.inl ⟨rfl, hf⟩)⟩
  have cp1 := list_ne hp
  have cp2 := ba_ne hp
  have HS := Aside0.mk hs
  clear hnb hsz hp hf hl hs
  go_enter Try.func34, Try.ntmps34
  go_wp2_with (first | (go_at_call 50; with_reducible refine (HN.out _).mono ?_; rintro x wz ⟨rfl, hb⟩; have HB := Aside0.mk hb; clear hb) | (go_at_call 51; with_reducible refine (HAtP.out _ (HS.out.below HB.out)).mono ?_; rintro x wz ⟨rfl, hw⟩; rw [hw]; clear hw))
  go_ret
  exact ⟨rfl, HB.out⟩
set_option maxHeartbeats 4000000 in
set_option maxRecDepth 100000 in
theorem rdef_set0 (p : Nat) (W : List Sty) (n pn : ByteArray) (v : Value) (l : List S37) (w : World) (hs : RSheet w p W) (hl : W.length ≤ 1000) (hv : Sl w v l) (hnb : nameB n) (hsz : n.size ≤ 1000) (e : Int) (he : setE l = e) (he0 : e ≠ 0) (hp : pn = ⟨#[]⟩) :
    Calls Try.prog 34 #[.pointer (some ⟨p, 0, none⟩), .string n, .string pn, v] w fun x w' => x = .returned (.int .i64 e) ∧ Below w.heap.size w w' := by
  have HN : Aside0 (∀ w', Calls Try.prog 50 #[.string n] w' fun e w'' => e = .returned (.bool true) ∧ Below w'.heap.size w' w'') := ⟨fun w' => (rname_calls n w' hsz).mono (by rintro e w'' ⟨⟨b, rfl, hb⟩, h2⟩; rw [hb.2 hnb]; exact ⟨rfl, h2⟩)⟩
  obtain ⟨A0, c0, rfl, z2, z3⟩ := id hv
  have HOwn := Aside0.mk hv
  have HFt : Aside0 (∀ w', Sl w' (.slice A0 l.length c0) l → Calls Try.prog 52 #[.slice A0 l.length c0] w' fun x w'' => x = .returned (.int .i64 e) ∧ Below w'.heap.size w' w'') := ⟨fun w' h => by rw [← he]; exact rfits_calls _ l w' h⟩
  have HS := Aside0.mk hs
  have ce0 : (e == 0) = false := beq_eq_false_iff_ne.mpr he0
  have ce1 : (e != 0) = true := bne_iff_ne.mpr he0
  clear hs hl hv hnb hsz he he0 z2 z3
  subst hp
  go_enter Try.func34, Try.ntmps34
  go_wp2_with (first | (go_at_call 50; with_reducible refine (HN.out _).mono ?_; rintro x wz ⟨rfl, hb⟩; have HB := Aside0.mk hb; clear hb) | (go_at_call 52; with_reducible refine (HFt.out _ (HOwn.out.below HB.out)).mono ?_; rintro x wz ⟨rfl, hb⟩; have HBn := Aside0.mk (below_step HB.out hb); clear HB hb; have HB := HBn; clear HBn))
  go_ret
  exact ⟨rfl, HB.out⟩
set_option maxHeartbeats 4000000 in
set_option maxRecDepth 100000 in
theorem rdef_set1 (p : Nat) (W : List Sty) (n pn : ByteArray) (v : Value) (l : List S37) (w : World) (hs : RSheet w p W) (hl : W.length ≤ 1000) (hv : Sl w v l) (hnb : nameB n) (hsz : n.size ≤ 1000) (e : Int) (he : setE l = e) (he0 : e ≠ 0) (hp : pn ≠ ⟨#[]⟩) (hf : (fnd W pn).isSome = true) :
    Calls Try.prog 34 #[.pointer (some ⟨p, 0, none⟩), .string n, .string pn, v] w fun x w' => x = .returned (.int .i64 e) ∧ Below w.heap.size w w' := by
  have HN : Aside0 (∀ w', Calls Try.prog 50 #[.string n] w' fun e w'' => e = .returned (.bool true) ∧ Below w'.heap.size w' w'') := ⟨fun w' => (rname_calls n w' hsz).mono (by rintro e w'' ⟨⟨b, rfl, hb⟩, h2⟩; rw [hb.2 hnb]; exact ⟨rfl, h2⟩)⟩
  obtain ⟨A0, c0, rfl, z2, z3⟩ := id hv
  have HOwn := Aside0.mk hv
  have HFt : Aside0 (∀ w', Sl w' (.slice A0 l.length c0) l → Calls Try.prog 52 #[.slice A0 l.length c0] w' fun x w'' => x = .returned (.int .i64 e) ∧ Below w'.heap.size w' w'') := ⟨fun w' h => by rw [← he]; exact rfits_calls _ l w' h⟩
  have HS := Aside0.mk hs
  have ce0 : (e == 0) = false := beq_eq_false_iff_ne.mpr he0
  have ce1 : (e != 0) = true := bne_iff_ne.mpr he0
  obtain ⟨ip, hip⟩ := AtIs.ex W pn
  have i0 : 0 ≤ ip := by
    rcases hip with ⟨_, h1⟩ | ⟨h0, _⟩
    · rw [h1] at hf; cases hf
    · exact h0
  have d0 : decide (ip < 0) = false := decide_eq_false (by omega)
  have HAtP : Aside0 (∀ w', RSheet w' p W → Calls Try.prog 51 #[.pointer (some ⟨p, 0, none⟩), .string pn] w' fun e w'' => e = .returned (.int .i64 ip) ∧ w'' = w') := ⟨fun w' hw' => at_fix p W pn ip w' hw' hl hip⟩
  have cp1 := list_ne hp
  have cp2 := ba_ne hp
  clear hip i0 hf hp
  clear hs hl hv hnb hsz he he0 z2 z3
  go_enter Try.func34, Try.ntmps34
  go_wp2_with (first | (go_at_call 50; with_reducible refine (HN.out _).mono ?_; rintro x wz ⟨rfl, hb⟩; have HB := Aside0.mk hb; clear hb) | (go_at_call 51; with_reducible refine (HAtP.out _ (HS.out.below HB.out)).mono ?_; rintro x wz ⟨rfl, hw⟩; rw [hw]; clear hw) | (go_at_call 52; with_reducible refine (HFt.out _ (HOwn.out.below HB.out)).mono ?_; rintro x wz ⟨rfl, hb⟩; have HBn := Aside0.mk (below_step HB.out hb); clear HB hb; have HB := HBn; clear HBn))
  go_ret
  exact ⟨rfl, HB.out⟩
theorem rdefine_callsO (b0 : Nat) (p : Nat) (W : List Sty) (n pn : ByteArray) (v : Value) (l : List S37) (w : World) (hb0 : b0 < w.heap.size) (hs : RSheetO b0 w p W) (hI : RI W) (hri : Rises W) (hv : Sl w v l) (hsz : n.size ≤ 1000) (nb : Bool) (hnb : nb = true ↔ nameB n) (k : Nat) (ab : Bool) (hab : aboveG (upL W) n k pn = some ab) :
    Calls Try.prog 34 #[.pointer (some ⟨p, 0, none⟩), .string n, .string pn, v] w fun e w' => e = .returned (.int .i64 (defE nb (setE l) ab W n pn)) ∧ RSheetO b0 w' p (if defE nb (setE l) ab W n pn = 0 then insW n pn l false W else W) ∧ w.grownBy w' (some p) := by
  have hl : W.length ≤ 1000 := Nat.le_trans hI.len (by decide)
  have no : ∀ (r : Int), r ≠ 0 → defE nb (setE l) ab W n pn = r → (Calls Try.prog 34 #[.pointer (some ⟨p, 0, none⟩), .string n, .string pn, v] w fun x w' => x = .returned (.int .i64 r) ∧ Below w.heap.size w w') →
      Calls Try.prog 34 #[.pointer (some ⟨p, 0, none⟩), .string n, .string pn, v] w fun e w' => e = .returned (.int .i64 (defE nb (setE l) ab W n pn)) ∧ RSheetO b0 w' p (if defE nb (setE l) ab W n pn = 0 then insW n pn l false W else W) ∧ w.grownBy w' (some p) := by
    intro r hr hd hc
    refine hc.mono ?_
    rintro x w' ⟨rfl, hb⟩
    exact ⟨by rw [hd], by rw [if_neg (by rw [hd]; exact hr)]; exact hs.below hb, grown_of_below hb _⟩
  by_cases c0 : nb = false
  · subst c0
    have h0 : ¬ nameB n := fun h => by have := hnb.2 h; cases this
    obtain ⟨A0, q0, rfl, _, _⟩ := id hv
    exact no 4 (by decide) (by unfold defE; rw [if_pos rfl]) (rdef_name p n pn A0 l.length q0 w h0 hsz)
  · have c0' : nb = true := by simpa using c0
    subst c0'
    have h0 : nameB n := hnb.1 rfl
    by_cases c1 : pn ≠ ⟨#[]⟩ ∧ fnd W pn = none
    · obtain ⟨A0, q0, rfl, _, _⟩ := id hv
      exact no 6 (by decide) (by unfold defE; rw [if_neg c0, if_pos c1]) (rdef_miss p W n pn A0 l.length q0 w hs.sheet hl h0 hsz c1.1 c1.2)
    · have hp : pn = ⟨#[]⟩ ∨ (pn ≠ ⟨#[]⟩ ∧ (fnd W pn).isSome = true) := by
        by_cases q : pn = ⟨#[]⟩
        · exact .inl q
        · refine .inr ⟨q, ?_⟩
          cases hf : fnd W pn with
          | none => exact absurd ⟨q, hf⟩ c1
          | some s => rfl
      by_cases c2 : setE l ≠ 0
      · refine no (setE l) c2 (by unfold defE; rw [if_neg c0, if_neg c1, if_pos c2]) ?_
        rcases hp with hp | ⟨hp, hf⟩
        · exact rdef_set0 p W n pn v l w hs.sheet hl hv h0 hsz (setE l) rfl c2 hp
        · exact rdef_set1 p W n pn v l w hs.sheet hl hv h0 hsz (setE l) rfl c2 hp hf
      · have c2' : setE l = 0 := by omega
        rw [c2']
        rcases hp with hp | ⟨hp, hf⟩
        · refine (rdef_main0 b0 p W n pn v l w hb0 hs hI hri hv h0 hsz c2' k ab hab hp).mono ?_
          rintro e w' ⟨r, rfl, rfl, h1, h2⟩
          exact ⟨rfl, h1, h2⟩
        · refine (rdef_main1 b0 p W n pn v l w hb0 hs hI hri hv h0 hsz c2' k ab hab hp hf).mono ?_
          rintro e w' ⟨r, rfl, rfl, h1, h2⟩
          exact ⟨rfl, h1, h2⟩
end Go.Proofs.Ytpcpjlbfhbicaaa.Sh
end
