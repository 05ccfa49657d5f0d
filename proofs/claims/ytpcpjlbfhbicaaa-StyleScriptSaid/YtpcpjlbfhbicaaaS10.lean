/- Own walks for the law, joined from several texts: what the law reaches, and no more (joined by keeplive.py). -/
import Derived.Test.YtpcpjlbfhbicaaaS7
set_option linter.unusedVariables false
set_option linter.unusedSimpArgs false
namespace Go.Proofs.Ytpcpjlbfhbicaaa.Sh
open Go Go.RowKit Go.Proofs.YtpcpjlbfhbicaaaW.PrintWords Go.Proofs.YtpcpjlbfhbicaaaW.PrintLast Go.Proofs.YtpcpjlbfhbicaaaW.PrintMore Go.Proofs.Ytpcpjlbfhbicaaa.PStyleProps
open Go.Proofs.Ytpcpjlbfhbicaaa.PStyleNearest (S37 k37 z37 rd_T37 at_T37 k37_open k37_openM k37_mk k37_mkM info37)
theorem mem_del {M : List Ent} {n : ByteArray} {m : Ent} (h : m ∈ Sh.del M n) : m ∈ M := List.mem_of_mem_eraseP h
theorem sheet_delO {b : Nat} {w : World} {gs gm : Nat} {M : List Ent} {L : List Sty} {n : ByteArray} {o : Obj} (h1 : w.heap[gs]? = some (.cells #[.map (some gm)] 77 (0, 0))) (h2 : MapAt w gm M) (h3 : Reads w M L)
    (h4 : MapAt { w with heap := w.heap.setIfInBounds gm o } gm (Sh.del M n)) (ho : OffM b M) : SheetO b { w with heap := w.heap.setIfInBounds gm o } gs gm (delL L n) := by
  have hne := gs_ne h1 h2
  obtain ⟨es, clock, hg, _⟩ := h2
  refine ⟨?_, _, h4, (h3.del n).imp (fun v l h => h.put hg o), ho.sub (fun m hm => mem_del hm)⟩
  rw [(MapKept.heap_set hg).2 gs (fun e => hne e.symm)]
  exact h1
set_option maxHeartbeats 8000000 in
set_option maxRecDepth 100000 in
theorem remove_thereO (b : Nat) (gs gm : Nat) (L : List Sty) (n : ByteArray) (w : World) (hs : SheetO b w gs gm L) (hn : ∀ s ∈ L, s.1.size ≤ 16) (hl : L.length ≤ 32) (hf : (fnd L n).isSome = true) :
    Calls Try.prog 29 #[.pointer (some ⟨gs, 0, none⟩), .string n] w fun x w' => x = .returned (.int .i64 (remE L n)) ∧ SheetO b w' gs gm (remL L n) ∧ w.grownBy w' (some gm) := by
  have hu := Try.underlying77
  have hu5 := Try.underlying75
  have hu8 := Try.underlying85
  have hgl : gm < w.heap.size := (sheet_lt hs.sheet).2
  have HS0 := Aside0.mk hs
  obtain ⟨h1, M, hm, hrd, hoff⟩ := hs
  have HOff := Aside0.mk hoff
  clear hoff
  obtain ⟨r1, r2, r3, r4⟩ := reads_all n hrd
  obtain ⟨p, hp⟩ : ∃ p, p = upL L n := ⟨_, rfl⟩
  rw [← hp] at r1
  obtain ⟨A, c, e1, e2, e3⟩ := r2
  generalize hm0 : (setsL L n).length = m at e1 e2 e3
  obtain ⟨D, hown, hd1, hd2⟩ := hm.data (fun m h => by obtain ⟨s, h2, e⟩ := reads_mem hrd h; rw [← e]; exact hn s h2) (by omega) hrd.slices
  have H1 := Aside0.mk h1
  have HM := Aside0.mk hm
  have HRd := Aside0.mk hrd
  have HD1 := Aside0.mk hd1
  have HD2 := Aside0.mk hd2
  have HO := Aside0.mk hown
  have GL := Aside0.mk hgl
  have HFn : Aside0 ((found M n).isSome = true) := ⟨by rw [r3]; exact hf⟩
  -- what the map's parents say
  have HAny : Aside0 ((L.any fun s => s.2.1 == n) = (M.any fun m => m.2.1 == n)) := ⟨by
    have : ∀ {M : List Ent} {L : List Sty}, Reads w M L → (L.any fun s => s.2.1 == n) = (M.any fun m => m.2.1 == n) := by
      intro M
      induction M with
      | nil => intro L h; cases L with
        | nil => rfl
        | cons s L => exact h.elim
      | cons m M ih => intro L h; cases L with
        | nil => exact h.elim
        | cons s L => obtain ⟨_, h2, _, h4⟩ := h; rw [List.any_cons, List.any_cons, ih h4, h2]
    exact this hrd⟩
  have HE : Aside0 (remE L n = if (M.any fun m => m.2.1 == n) = true then 9 else 0) := ⟨by
    unfold remE
    rw [if_neg (by intro h; rw [h] at hf; cases hf), HAny.out]⟩
  have K : Maps.Keyed Try.prog 9 := Maps.string_keyed Try.underlying9
  have hlk : (Instr.lookup 75 (.map (some gm)) (.string n) true).run Try.prog w = .ok (.tuple #[.agg #[.string p, .slice A m c], .bool true]) w := by rw [look2 hm, r1, e1, r3, hf]
  have e0 := (blk_cell h1 0).trans rfl
  clear h1 hm hrd r1 r3 r4 e1 e2 e3 hp hm0 hf hd1 hd2 hown hgl hn hl HAny
  go_enter Try.func29, Try.ntmps29
  go_upto_region 6 with (first | (go_at_call 40; refine (none_calls gs gm _ H1.out).mono ?_; rintro x w7 ⟨rfl, hw⟩; rw [hw]; clear hw))
  have HB1 : Aside0 (Below w.heap.size w (w.alloc (.cells #[.string p, .slice A m c] 85))) := ⟨below_alloc (Below.refl _ _) _⟩
  clear e0 hlk
  generalize w.alloc (.cells #[.string p, .slice A m c] 85) = w1 at HB1 ⊢
  generalize w.heap.size = gx
  have e0 := (blk_cell (blk_below H1.out HB1.out) 0).trans rfl
  have HO1 : Aside0 (w1.ownsMap Try.prog 9 RS gm 32 D) := ⟨HO.out.kept (grown_of_below HB1.out none) (by simp)⟩
  have hsz1 : w.heap.size ≤ w1.heap.size := below_size HB1.out
  have SZ1 := Aside0.mk hsz1
  clear hsz1
  go_wp2_with (first | (at_range; refine wpList_range_own _ rfl _ 75 rfl 9 85 K Try.underlying75 RS gm 32 D rfl HO1.out ?_; intro w0 hrg0 hg0 hs0))
  go_frame
  have HB0 : Aside0 (Below w.heap.size w w0) := ⟨pw_below_grown HB1.out none SZ1.out hg0 (fun k_ hk => by cases hk)⟩
  clear hg0 hs0 e0
  generalize w1.heap.size = r0 at SZ1 hrg0 ⊢
  have HR0 := Aside0.mk hrg0
  clear hrg0
  go_loopw [8] (fun _ wr => ∃ (left : Lit → Bool) (cnt : Nat), Aside0 (wr.ranges Try.prog 9 RS gm r0 32 D left cnt) ∧ Aside0 (Below w.heap.size w wr) ∧ Aside0 (∀ kl, left kl = false → Maps.has D kl = true → ∀ (q : ByteArray) (s : Value), (∀ zd, D.atKey kl zd = .held (.agg #[.string q, s])) → q ≠ n))
    (fun _ wr => wr.rangeLeft gm r0)
  case atStart => exact ⟨_, _, HR0, HB0, ⟨fun kl h1 h2 => absurd (h1.symm.trans h2) (by decide)⟩⟩
  case round =>
    clear HR0 HB0
    obtain ⟨left, cnt, HR, HB, HI⟩ := hrel
    have e0 := (blk_cell (blk_below H1.out HB.out) 0).trans rfl
    go_wp2_with (first | (at_next; refine wpList_next_ranges _ rfl _ rfl 9 K RS id (fun c : ByteArray × Option Addr × Nat × Nat => .agg #[.string c.1, .slice c.2.1 c.2.2.1 c.2.2.2]) (fun key _ _ => ⟨key, rfl⟩) (fun v y h => by obtain ⟨_, q, A, m, c, e⟩ := RS_inv h; exact ⟨(q, A, m, c), e⟩) gm r0 32 _ _ _ rfl HR.out ?_ ?_))
    · intro h0 hl0
      have hany : (M.any fun m => m.2.1 == n) = false := by
        rw [List.any_eq_false]
        intro m hm
        obtain ⟨a1, a2⟩ := HD1.out m hm
        have := HI.out _ (hl0 _) a2 m.2.1 m.2.2 a1
        simpa using ba_ne this
      have HE0 : Aside0 (remE L n = 0) := ⟨by rw [HE.out, hany]; rfl⟩
      clear hany hl0 h0
      go_wp2_with (first | (at_delete; refine wpList_delete_sh _ rfl _ _ rfl gm n M rfl rfl (HM.out.below HB.out) HFn.out ?_; intro o' hat'; have HAt := Aside0.mk hat'; clear hat'))
      go_ret
      refine ⟨by rw [HE0.out] <;> rfl, ?_, grown_put (gm := gm) HB.out o'⟩
      unfold remL
      rw [if_pos HE0.out]
      exact sheet_delO (blk_below H1.out HB.out) (HM.out.below HB.out) (HRd.out.imp (fun _ _ h => h.below HB.out)) HAt.out HOff.out
    · intro x q Aq mq cq kl y1 y2 w2 cnt2 hkey hlx hv hat hrg2 hlt hg2 hs2 hen
      have ey : y1 = .held (.agg #[.string q, .slice Aq mq cq]) := congrArg Prod.fst (RS_inv hv).1
      have HAt : Aside0 (∀ zd, D.atKey kl zd = .held (.agg #[.string q, .slice Aq mq cq])) := ⟨fun zd => by rw [hat zd, ey]⟩
      have HR2 := Aside0.mk hrg2
      have HB2 : Aside0 (Below w.heap.size w w2) := ⟨pw_below_grown HB.out (some r0) (below_size HB.out) hg2 (fun k_ hk => by cases hk; exact SZ1.out)⟩
      have LT := Aside0.mk hlt
      have HK := Aside0.mk (K.key hkey)
      clear hv hat hrg2 hlt hg2 hs2 hkey ey hlx
      by_cases cqn : q = n
      · have HE9 : Aside0 (remE L n = 9) := ⟨by
          rw [HE.out]
          obtain ⟨m, hm, e⟩ := HD2.out kl _ HAt.out
          have e1 : m.2.1 = q := by unfold Ent.val at e; simp at e; exact e.1.symm
          rw [if_pos (List.any_eq_true.2 ⟨m, hm, by rw [e1, cqn]; exact ba_refl n⟩)]⟩
        subst cqn
        have c2' := ba_refl q
        have c2'' : (q.toList == q.toList) = true := beq_self_eq_true _
        go_wp2
        go_ret
        have hbz : Below w.heap.size w (w2.alloc (.cells #[.string q, .slice Aq mq cq] 85)) := below_alloc HB2.out _
        refine ⟨by rw [HE9.out] <;> rfl, ?_, grown_of_below hbz _⟩
        unfold remL
        rw [if_neg (by rw [HE9.out]; decide)]
        exact HS0.out.below hbz
      · have c2' := ba_ne cqn
        have c2'' := list_neq cqn
        have CQ := Aside0.mk cqn
        clear cqn
        go_wp2
        have hrg3 := HR2.out.alloc (.cells #[.string q, .slice Aq mq cq] 85)
        go_roundw
        case rel => exact ⟨_, cnt2, ⟨hrg3⟩, ⟨below_alloc HB2.out _⟩, ⟨fun kl' h1 h2 q' s' h3 => by
          cases hl : left kl' with
          | false => exact HI.out kl' hl h2 q' s' h3
          | true =>
            rw [hl] at h1
            have hk : kl'.sameKey kl = true := by simpa using h1
            have e := WideAt.sameKey_eq hk
            subst e
            have e2 := (h3 .nil).symm.trans (HAt.out .nil)
            simp at e2
            rw [e2.1]; exact CQ.out⟩⟩
        case measure => rw [hrg3.left_eq, HR.out.left_eq]; exact LT.out
theorem remove_callsO (b : Nat) (gs gm : Nat) (L : List Sty) (n : ByteArray) (w : World) (hs : SheetO b w gs gm L) (hn : ∀ s ∈ L, s.1.size ≤ 16) (hl : L.length ≤ 32) :
    Calls Try.prog 29 #[.pointer (some ⟨gs, 0, none⟩), .string n] w fun x w' => x = .returned (.int .i64 (remE L n)) ∧ SheetO b w' gs gm (remL L n) ∧ w.grownBy w' (some gm) := by
  cases hf : fnd L n with
  | none =>
    have e : remE L n = 6 := by unfold remE; rw [if_pos hf]
    refine (remove_miss gs gm L n w hs.sheet hf).mono ?_
    rintro x w' ⟨rfl, hb⟩
    refine ⟨by rw [e], ?_, grown_of_below hb _⟩
    unfold remL
    rw [if_neg (by rw [e]; decide)]
    exact hs.below hb
  | some s => exact remove_thereO b gs gm L n w hs hn hl (by rw [hf]; rfl)
set_option maxHeartbeats 4000000 in
set_option maxRecDepth 100000 in
theorem clone_sheetO (b : Nat) (gs gm : Nat) (L : List Sty) (w : World) (hs : SheetO b w gs gm L) :
    Calls Try.prog 32 #[.pointer (some ⟨gs, 0, none⟩)] w fun x w' => ∃ gs' gm', x = .returned (.pointer (some ⟨gs', 0, none⟩)) ∧ w.heap.size ≤ gs' ∧ w.heap.size ≤ gm' ∧ SheetO b w' gs' gm' L ∧ Below w.heap.size w w' := by
  have hu := Try.underlying77
  have hu5 := Try.underlying75
  obtain ⟨h1, M, hm, hrd, hoff⟩ := hs
  have HOff := Aside0.mk hoff
  clear hoff
  obtain ⟨es, clock, hg, hh, hst⟩ := id hm
  have e0 := (blk_cell h1 0).trans rfl
  have H1 := Aside0.mk h1
  have HRd := Aside0.mk hrd
  have HC : Aside0 (Calls Try.prog 49 #[.map (some gm)] w fun e w' => e = .returned (.map (some w.heap.size)) ∧ w' = w.alloc (.map es clock)) := ⟨AnyW.maps_Clone Try.clone49 gm es clock w hg⟩
  have HH := Aside0.mk hh
  have HSt := Aside0.mk hst
  clear h1 hm hrd hg hh hst
  go_enter Try.func32, Try.ntmps32
  go_wp2_with (first | (go_at_call 40; refine (none_calls gs gm _ H1.out).mono ?_; rintro x w7 ⟨rfl, hw⟩; rw [hw]; clear hw) | (go_at_call 49; refine HC.out.mono ?_; rintro x w8 ⟨rfl, hw⟩; rw [hw]; clear hw))
  go_ret
  refine ⟨w.heap.size + 1, w.heap.size, rfl, by omega, Nat.le_refl _, ⟨?_, M, ⟨es, clock, ?_, HH.out, HSt.out⟩, HRd.out.imp (fun _ _ h => h.below ?_), HOff.out⟩, below_alloc (below_alloc (Below.refl _ _) _) _⟩
  · have := heap_alloc_new (w.alloc (.map es clock)) (Obj.cells #[Value.map (some w.heap.size)] 77)
    simpa using this
  · exact (Below.heap_alloc _ _ _ (by simp)).trans (heap_alloc_new w _)
  · exact below_alloc (below_alloc (Below.refl _ _) _) _
set_option maxHeartbeats 4000000 in
set_option maxRecDepth 100000 in
theorem rclone_callsO (b : Nat) (p : Nat) (W : List Sty) (w : World) (hb0 : b < w.heap.size) (hs : RSheetO b w p W) (hl : W.length ≤ 1000) :
    Calls Try.prog 33 #[.pointer (some ⟨p, 0, none⟩)] w fun e w' => ∃ p', e = .returned (.pointer (some ⟨p', 0, none⟩)) ∧ w.heap.size ≤ p' ∧ RSheetO b w' p' W ∧ Below w.heap.size w w' := by
  have hu71 := Try.underlying71
  have hu69 := Try.underlying69
  have hu99 := Try.underlying99
  obtain ⟨A, c, M, h1, hc, hC, hrd, hoff, _⟩ := hs
  have HOff := Aside0.mk hoff
  have HB0 := Aside0.mk hb0
  clear hoff hb0
  obtain ⟨nl, hnl⟩ : ∃ nl, Aside0 (nl = M.length) := ⟨_, ⟨rfl⟩⟩
  rw [← hnl.out] at h1 hC
  have e0 := (blk_cell (blk_below h1 (below_alloc (Below.refl _ _) (.cells #[] 99))) 0).trans rfl
  have HC := Aside0.mk hC
  have HRd := Aside0.mk hrd
  have HLn : Aside0 (nl ≤ 1000) := ⟨by rw [hnl.out, reads_len hrd]; exact hl⟩
  clear h1 hc hC hrd hl
  go_enter Try.func33, Try.ntmps33
  have HO0 : Aside0 (Kd.R kSt 99 (w.alloc (.cells #[] 99)) w.heap.size (fun _ => True) (.slice (some ⟨w.heap.size, 0, none⟩) 0 0) []) := ⟨⟨fun _ _ => trivial, [], World.ownsRow_made w #[] 0 (Nat.le_refl _) (Nat.zero_le _) rfl, Reps.none _ _⟩⟩
  go_wp2_with (first | (at_builtin; refine Kd.R_append_rows kSt (w0 := w) (Rr := fun x cs => cs = [.string x.1, .string x.2.1, x.2.2] ∧ x.2.2.oneCell' = true) w.heap.size rfl (.tmp 3) (.tmp 7) 69 99 (.agg #[.string ⟨#[]⟩, .string ⟨#[]⟩, .slice none 0 0]) 56 rfl Try.underlying69 info99 rfl (by decide) (by omega) (.slice (some ⟨w.heap.size, 0, none⟩) 0 0) [] M A nl c (fun _ => True) (fun _ => False) rfl rfl HO0.out ?aR ?aK (fun _ hk => hk.elim) (fun _ _ => trivial) (below_alloc (Below.refl _ _) _) ?aB ?aL ?_; (case aR => exact Kd.C_below HC.out (below_alloc (Below.refl _ _) _)); (case aK => (intro x cs hx; exact hx)); (case aB => simp); (case aL => (have := HLn.out; simp only [List.length_nil]; omega)); intro v1 w1 ho1 hb1 hg1 hat1; rw [List.nil_append] at ho1; obtain ⟨A3, c3, ev1, q1, q2⟩ := kSt_R ho1; subst ev1; have HRo := Aside0.mk (R_off ho1); have HB1 := Aside0.mk hb1; have HQ1 := Aside0.mk q1; have HQ2 := Aside0.mk q2; clear ho1 hb1 hg1 hat1 q1 q2))
  go_ret
  have hb2 : Below w.heap.size w (w1.alloc (.cells #[.slice A3 M.length c3] 71)) := below_alloc HB1.out _
  exact ⟨w1.heap.size, rfl, below_size HB1.out, ⟨A3, c3, M, blk_new _ _, HQ1.out, Kd.C_below HQ2.out (below_alloc (Below.refl _ _) _), HRd.out.imp (fun _ _ h => h.below hb2), HOff.out, fun ad e _ => by have h1 := HRo.out ad e; have h2 := HB0.out; omega⟩, hb2⟩
set_option maxHeartbeats 8000000 in
set_option maxRecDepth 100000 in
theorem rrem_thereO (b : Nat) (p : Nat) (W : List Sty) (n : ByteArray) (w : World) (hb0 : b < w.heap.size) (hs : RSheetO b w p W) (hl : W.length ≤ 1000) (hf : (fnd W n).isSome = true) :
    Calls Try.prog 35 #[.pointer (some ⟨p, 0, none⟩), .string n] w fun e w' => e = .returned (.int .i64 (remE W n)) ∧ RSheetO b w' p (remL W n) ∧ w.grownBy w' (some p) := by
  have hu71 := Try.underlying71
  have hu69 := Try.underlying69
  have hu99 := Try.underlying99
  obtain ⟨i, hi⟩ := AtIs.ex W n
  obtain ⟨i0, s, hs1, hs2, hs3, hs4⟩ : 0 ≤ i ∧ ∃ s, W[i.toNat]? = some s ∧ s.1 = n ∧ fnd W n = some s ∧ ∀ j, j < i.toNat → ∀ s, W[j]? = some s → s.1 ≠ n := by
    rcases hi with ⟨_, h1⟩ | ⟨h0, ⟨s, h1, h2, h3⟩, h4⟩
    · rw [h1] at hf; cases hf
    · exact ⟨h0, s, h1, h2, h3, h4⟩
  have HDel : Aside0 (delL W n = W.take i.toNat ++ W.drop (i.toNat + 1)) := ⟨eraseP_at hs1 hs2 hs4⟩
  have HE : Aside0 (remE W n = if (W.any fun s => s.2.1 == n) = true then 9 else 0) := ⟨by unfold remE; rw [if_neg (by rw [hs3]; simp)]⟩
  have HAt : Aside0 (∀ w', RSheet w' p W → Calls Try.prog 51 #[.pointer (some ⟨p, 0, none⟩), .string n] w' fun e w'' => e = .returned (.int .i64 i) ∧ w'' = w') := ⟨fun w' hw' => at_fix p W n i w' hw' hl hi⟩
  have HSO := Aside0.mk hs
  have HS := Aside0.mk hs.sheet
  obtain ⟨A, c, M, h1, hc, hC, hrd, hoff, _⟩ := id hs
  have HOff : Aside0 (OffM b (M.take (i.toNat) ++ M.drop (i + 1).toNat)) := ⟨hoff.sub (fun m hm => (List.mem_append.1 hm).elim List.mem_of_mem_take List.mem_of_mem_drop)⟩
  have HB0 := Aside0.mk hb0
  clear hoff hb0
  have hWM := reads_len hrd
  have hiW : i.toNat < W.length := (List.getElem?_eq_some_iff.1 hs1).1
  obtain ⟨m0, hm0⟩ : ∃ m, M[i.toNat]? = some m := ⟨_, List.getElem?_eq_getElem (by omega)⟩
  obtain ⟨ad, ea, _, _, _⟩ := at_St hC i.toNat m0 hm0 rfl
  subst ea
  obtain ⟨nl, hnl⟩ : ∃ nl, Aside0 (nl = M.length) := ⟨_, ⟨rfl⟩⟩
  have hinl : i < (nl : Int) := by have := hnl.out; omega
  have hcl : (nl : Int) ≤ (c : Int) := by have := hnl.out; omega
  obtain ⟨B, hB⟩ : ∃ B, Aside0 (B = if c = (i + 1).toNat then some ad else (some ad : Option Addr).map (·.add ((i + 1).toNat * 3))) := ⟨_, ⟨rfl⟩⟩
  have hS1 : ∀ W : World, (Instr.slice 69 (.slice (some ad) nl c) none (some (.int .i64 i)) none).run Try.prog W = .ok (.slice (some ad) i.toNat c) W := fun W => slice_to W (some ad) nl c i i0 (by omega) (by simp)
  have hS2 : ∀ W : World, (Instr.slice 69 (.slice (some ad) nl c) (some (.int .i64 (i + 1))) none none).run Try.prog W = .ok (.slice B (nl - (i + 1).toNat) (c - (i + 1).toNat)) W := fun W => by rw [hB.out]; exact slice_from W (some ad) nl c (i + 1) (by omega) (by omega) (by omega)
  have HC1 : Aside0 (Kd.C kSt w (some ad) i.toNat (M.take i.toNat)) := ⟨by
    have := Kd.C_take (m := i.toNat) hC (by omega)
    rwa [List.length_take, Nat.min_eq_left (by omega)] at this⟩
  have HC2 : Aside0 (Kd.C kSt w B (nl - (i + 1).toNat) (M.drop (i + 1).toNat)) := ⟨by
    have := Kd.C_drop (m := (i + 1).toNat) (c := c) hC (by omega) (by omega)
    rw [List.length_drop, ← hnl.out] at this
    rw [hB.out]
    exact this⟩
  have HRd : Aside0 (Reads w (M.take i.toNat ++ M.drop (i + 1).toNat) (W.take i.toNat ++ W.drop (i.toNat + 1))) := ⟨by
    rw [show (i + 1).toNat = i.toNat + 1 by omega]
    exact reads_app (reads_take _ hrd) (reads_drop _ hrd)⟩
  have HRd0 := Aside0.mk hrd
  have HC := Aside0.mk hC
  have HLen : Aside0 ((M.take i.toNat).length + (nl - (i + 1).toNat) ≤ 1000 ∧ i.toNat ≤ 1000 ∧ nl ≤ 1000) := ⟨by rw [List.length_take]; have := hnl.out; omega⟩
  have hadd : wrap64 (i + 1) = i + 1 := by have := HLen.out; unfold wrap64; omega
  rw [← hnl.out] at h1
  have H1 := Aside0.mk h1
  have e0 := (blk_cell h1 0).trans rfl
  have HWl : Aside0 (nl = W.length) := ⟨by rw [hnl.out, hWM]⟩
  have d0 : decide (i < 0) = false := decide_eq_false (by omega)
  clear hs hf hi hs1 hs2 hs3 hs4 h1 hc hC hrd hWM hiW hm0 hl i0 hinl hcl
  go_enter Try.func35, Try.ntmps35
  go_wp2_with (first | (go_at_call 51; with_reducible refine (HAt.out _ HS.out).mono ?_; rintro x wz ⟨rfl, hw⟩; rw [hw]; clear hw))
  go_loopg [6] nl (fun kq v6 w' => ∃ k : Int, v6 = .int .i64 k ∧ Aside0 (0 ≤ k ∧ k + kq = nl) ∧ Aside0 (∀ j, j < k.toNat → ∀ s, W[j]? = some s → s.2.1 ≠ n) ∧ Aside0 (w' = w))
  case atStart => exact ⟨0, rfl, ⟨by omega, by omega⟩, ⟨fun j hj => absurd hj (by simp)⟩, ⟨rfl⟩⟩
  case round =>
    obtain ⟨k, rfl, HI, HP, HW⟩ := hrel
    obtain rfl := HW.out
    cases gk with
    | zero =>
      have hi := HI.out
      have q109 : decide (k < (nl : Int)) = false := decide_eq_false (by omega)
      have H0 : Aside0 (remE W n = 0) := ⟨by
        rw [HE.out, if_neg]
        intro ha
        obtain ⟨s, hs, hp⟩ := List.any_eq_true.1 ha
        obtain ⟨j, hj, e⟩ := List.mem_iff_getElem.1 hs
        exact HP.out j (by have := HWl.out; omega) s (by rw [List.getElem?_eq_getElem hj, e]) (ba_eq hp)⟩
      clear hi
      go_upto_region 9 with fail
      refine start_ (n := 20) (S := fun w' => w'.heap[p]? = some (.cells #[.slice (some ad) nl c] 71 (0, 0)) ∧ w'.cell? ⟨p, 0, none⟩ = some (.slice (some ad) nl c) ∧ Below wr.heap.size wr w') (ds := [19]) #[false, false, false, false, false, false, false, false, false, false, false, false, false, false, false, false, false, false, false, false] (by kernel_rfl) rfl rfl ⟨blk_below H1.out (below_drew1 (Below.refl _ _)), (blk_cell (blk_below H1.out (below_drew1 (Below.refl _ _))) 0).trans rfl, (below_drew1 (Below.refl _ _))⟩ (fun hHeld => ?_)
      refine pure_ (i := 0) (N := some 31) (v := ?_) (a' := ?_) #[true, false, false, false, false, false, false, false, false, false, false, false, false, false, false, false, false, false, false, false] rfl rfl (by kernel_rfl) (fun _ _ _ h => h) (Or.inl ⟨by rfl, ?_⟩) ?_ ?_
      rotate_left
      · intro w'
        go_simp
        with_reducible rfl
      rotate_left
      · simp only [Act.put, List.setIfInBounds_toArray, List.set_cons_zero, List.set_cons_succ, i64_w, i32_w]
        rfl
      refine pure_ (i := 2) (N := some 33) (v := ?_) (a' := ?_) #[true, false, true, false, false, false, false, false, false, false, false, false, false, false, false, false, false, false, false, false] rfl rfl (by kernel_rfl) (fun _ _ _ h => h) (Or.inl ⟨by rfl, ?_⟩) ?_ ?_
      rotate_left
      · intro w'
        go_simp
        with_reducible rfl
      rotate_left
      · simp only [Act.put, List.setIfInBounds_toArray, List.set_cons_zero, List.set_cons_succ, i64_w, i32_w]
        rfl
      refine pure_ (i := 3) (N := some 34) (v := ?_) (a' := ?_) #[true, false, true, true, false, false, false, false, false, false, false, false, false, false, false, false, false, false, false, false] rfl rfl (by kernel_rfl) (fun _ _ _ h => h) (Or.inl ⟨by rfl, ?_⟩) ?_ ?_
      rotate_left
      · intro w'
        go_simp
        with_reducible rfl
      rotate_left
      · simp only [Act.put, List.setIfInBounds_toArray, List.set_cons_zero, List.set_cons_succ, i64_w, i32_w]
        rfl
      refine pure_ (i := 4) (N := some 35) (v := ?_) (a' := ?_) #[true, false, true, true, true, false, false, false, false, false, false, false, false, false, false, false, false, false, false, false] rfl rfl (by kernel_rfl) (fun _ _ _ h => h) (Or.inl ⟨by rfl, ?_⟩) ?_ ?_
      rotate_left
      · intro w'
        go_simp
        with_reducible rfl
      rotate_left
      · simp only [Act.put, List.setIfInBounds_toArray, List.set_cons_zero, List.set_cons_succ, i64_w, i32_w]
        rfl
      refine pure_ (i := 6) (N := some 37) (v := ?_) (a' := ?_) #[true, false, true, true, true, false, true, false, false, false, false, false, false, false, false, false, false, false, false, false] rfl rfl (by kernel_rfl) (fun _ _ _ h => h) (Or.inl ⟨by rfl, ?_⟩) ?_ ?_
      rotate_left
      · intro w'
        go_simp
        with_reducible rfl
      rotate_left
      · simp only [Act.put, List.setIfInBounds_toArray, List.set_cons_zero, List.set_cons_succ, i64_w, i32_w]
        rfl
      refine pure_ (i := 9) (N := some 40) (v := ?_) (a' := ?_) #[true, false, true, true, true, false, true, false, false, true, false, false, false, false, false, false, false, false, false, false] rfl rfl (by kernel_rfl) (fun _ _ _ h => h) (Or.inl ⟨by rfl, ?_⟩) ?_ ?_
      rotate_left
      · intro w'
        go_simp
        with_reducible rfl
      rotate_left
      · simp only [Act.put, List.setIfInBounds_toArray, List.set_cons_zero, List.set_cons_succ, i64_w, i32_w]
        rfl
      refine pure_ (i := 10) (N := some 41) (v := ?_) (a' := ?_) #[true, false, true, true, true, false, true, false, false, true, true, false, false, false, false, false, false, false, false, false] rfl rfl (by kernel_rfl) (fun _ _ _ h => h) (Or.inl ⟨by rfl, ?_⟩) ?_ ?_
      rotate_left
      · intro w'
        go_simp
        with_reducible rfl
      rotate_left
      · simp only [Act.put, List.setIfInBounds_toArray, List.set_cons_zero, List.set_cons_succ, i64_w, i32_w]
        rfl
      refine pure_ (i := 11) (N := some 42) (v := ?_) (a' := ?_) #[true, false, true, true, true, false, true, false, false, true, true, true, false, false, false, false, false, false, false, false] rfl rfl (by kernel_rfl) (fun _ _ _ h => h) (Or.inl ⟨by rfl, ?_⟩) ?_ ?_
      rotate_left
      · intro w'
        go_simp
        with_reducible rfl
      rotate_left
      · simp only [Act.put, List.setIfInBounds_toArray, List.set_cons_zero, List.set_cons_succ, i64_w, i32_w]
        rfl
      refine pure_ (i := 13) (N := some 44) (v := ?_) (a' := ?_) #[true, false, true, true, true, false, true, false, false, true, true, true, false, true, false, false, false, false, false, false] rfl rfl (by kernel_rfl) (fun _ _ _ h => h) (Or.inl ⟨by rfl, ?_⟩) ?_ ?_
      rotate_left
      · intro w'
        go_simp
        with_reducible rfl
      rotate_left
      · simp only [Act.put, List.setIfInBounds_toArray, List.set_cons_zero, List.set_cons_succ, i64_w, i32_w]
        rfl
      refine pure_ (i := 14) (N := some 45) (v := ?_) (a' := ?_) #[true, false, true, true, true, false, true, false, false, true, true, true, false, true, true, false, false, false, false, false] rfl rfl (by kernel_rfl) (fun _ _ _ h => h) (Or.inl ⟨by rfl, ?_⟩) ?_ ?_
      rotate_left
      · intro w'
        go_simp
        with_reducible rfl
      rotate_left
      · simp only [Act.put, List.setIfInBounds_toArray, List.set_cons_zero, List.set_cons_succ, i64_w, i32_w]
        rfl
      refine take_ (i := 5) (N := some 36) (v := ?_) (a' := ?_) #[true, false, true, true, true, true, true, false, false, true, true, true, false, true, true, false, false, false, false, false] rfl rfl (by kernel_rfl) (fun _ _ _ h => h) (Or.inl ⟨by rfl, ?_⟩) hHeld ?_ ?_
      rotate_left
      · rintro w' ⟨s0, s1, s2⟩
        go_simp
        with_reducible rfl
      rotate_left
      · simp only [Act.put, List.setIfInBounds_toArray, List.set_cons_zero, List.set_cons_succ, i64_w, i32_w]
        rfl
      refine take_ (i := 12) (N := some 43) (v := ?_) (a' := ?_) #[true, false, true, true, true, true, true, false, false, true, true, true, true, true, true, false, false, false, false, false] rfl rfl (by kernel_rfl) (fun _ _ _ h => h) (Or.inl ⟨by rfl, ?_⟩) hHeld ?_ ?_
      rotate_left
      · rintro w' ⟨s0, s1, s2⟩
        go_simp
        with_reducible rfl
      rotate_left
      · simp only [Act.put, List.setIfInBounds_toArray, List.set_cons_zero, List.set_cons_succ, i64_w, i32_w]
        rfl
      refine pure_ (i := 7) (N := some 38) (v := ?_) (a' := ?_) #[true, false, true, true, true, true, true, true, false, true, true, true, true, true, true, false, false, false, false, false] rfl rfl (by kernel_rfl) (fun _ _ _ h => h) (Or.inl ⟨by rfl, ?_⟩) ?_ ?_
      rotate_left
      · intro w'
        go_simp
        with_reducible rfl
      rotate_left
      · simp only [Act.put, List.setIfInBounds_toArray, List.set_cons_zero, List.set_cons_succ, i64_w, i32_w]
        rfl
      refine pure_ (i := 15) (N := some 46) (v := ?_) (a' := ?_) #[true, false, true, true, true, true, true, true, false, true, true, true, true, true, true, true, false, false, false, false] rfl rfl (by kernel_rfl) (fun _ _ _ h => h) (Or.inl ⟨by rfl, ?_⟩) ?_ ?_
      rotate_left
      · intro w'
        go_simp
        with_reducible rfl
      rotate_left
      · simp only [Act.put, List.setIfInBounds_toArray, List.set_cons_zero, List.set_cons_succ, i64_w, i32_w]
        rfl
      refine one_ (i := 1) (N := some 32) #[true, true, true, true, true, true, true, true, false, true, true, true, true, true, true, true, false, false, false, false] rfl rfl (by kernel_rfl) (by decide) (fun K hK => ?_)
      refine value_ (by rfl) rfl (v := .slice (some ⟨wr.drew.heap.size, 0, none⟩) 0 0) (w1 := wr.drew.alloc (.cells #[] 99)) (by first | (go_simp; done) | (go_simp; rfl) | (go_simp; exact ⟨rfl, rfl⟩)) ?_
      have HO0 : Aside0 (Kd.R kSt 99 (wr.drew.alloc (.cells #[] 99)) wr.heap.size (fun _ => True) (.slice (some ⟨wr.drew.heap.size, 0, none⟩) 0 0) []) := ⟨⟨fun _ _ => trivial, [], World.ownsRow_made wr.drew #[] 0 (Nat.le_refl _) (Nat.zero_le _) rfl, Reps.none _ _⟩⟩
      refine hK.out _ _ ⟨blk_below H1.out (below_alloc hHeld.2.2 _), (blk_cell (blk_below H1.out (below_alloc hHeld.2.2 _)) 0).trans rfl, (below_alloc hHeld.2.2 _)⟩ (fun hHeld => ?_)
      clear hK K
      refine norm_ (a' := ?_) ?_ ?_
      rotate_left
      · show Act.put _ (some 32) _ = _
        simp only [Act.put, List.setIfInBounds_toArray, List.set_cons_zero, List.set_cons_succ, i64_w, i32_w]
        rfl
      refine one_ (i := 8) (N := some 39) #[true, true, true, true, true, true, true, true, true, true, true, true, true, true, true, true, false, false, false, false] rfl rfl (by kernel_rfl) (by decide) (fun K hK => ?_)
      refine Kd.R_append_rows_step kSt (Rr := fun x cs => cs = [.string x.1, .string x.2.1, x.2.2] ∧ x.2.2.oneCell' = true) (w0 := wr) wr.heap.size (by rfl) (.tmp 32) (.tmp 38) 69 99 (.agg #[.string ⟨#[]⟩, .string ⟨#[]⟩, .slice none 0 0]) 56 rfl Try.underlying69 info99 rfl (by decide) (by omega) (.slice (some ⟨wr.drew.heap.size, 0, none⟩) 0 0) [] (M.take i.toNat) (some ad) i.toNat c (fun _ => True) (fun _ => False) rfl rfl HO0.out (Kd.C_below HC1.out hHeld.2.2) (fun x cs h => h) (fun _ h => h.elim) (fun _ _ => trivial) hHeld.2.2 (below_size hHeld.2.2) (by have := HLen.out; simp only [List.length_nil]; omega) ?_
      intro v1 w1 ho1 hb1 hg1 hat1
      rw [List.nil_append] at ho1
      obtain ⟨A3, c3, ev1, _, _⟩ := kSt_R ho1
      subst ev1
      have HO1 := Aside0.mk ho1
      refine hK.out _ _ ⟨blk_below H1.out hb1, (blk_cell (blk_below H1.out hb1) 0).trans rfl, hb1⟩ (fun hHeld => ?_)
      clear ho1 hb1 hg1 hat1 HO0
      clear hK K
      refine norm_ (a' := ?_) ?_ ?_
      rotate_left
      · show Act.put _ (some 39) _ = _
        simp only [Act.put, List.setIfInBounds_toArray, List.set_cons_zero, List.set_cons_succ, i64_w, i32_w]
        rfl
      refine one_ (i := 16) (N := some 47) #[true, true, true, true, true, true, true, true, true, true, true, true, true, true, true, true, true, false, false, false] rfl rfl (by kernel_rfl) (by decide) (fun K hK => ?_)
      refine Kd.R_append_rows_step kSt (Rr := fun x cs => cs = [.string x.1, .string x.2.1, x.2.2] ∧ x.2.2.oneCell' = true) (w0 := wr) wr.heap.size (by rfl) (.tmp 39) (.tmp 46) 69 99 (.agg #[.string ⟨#[]⟩, .string ⟨#[]⟩, .slice none 0 0]) 56 rfl Try.underlying69 info99 rfl (by decide) (by omega) (.slice A3 (M.take i.toNat).length c3) (M.take i.toNat) (M.drop (i + 1).toNat) B (nl - (i + 1).toNat) (c - (i + 1).toNat) (fun _ => True) (fun _ => False) rfl rfl HO1.out (Kd.C_below HC2.out hHeld.2.2) (fun x cs h => h) (fun _ h => h.elim) (fun _ _ => trivial) hHeld.2.2 (below_size hHeld.2.2) (by have := HLen.out; omega) ?_
      intro v2 w2 ho2 hb2 hg2 hat2
      obtain ⟨A4, c4, ev2, q1, q2⟩ := kSt_R ho2
      subst ev2
      have HO2 := Aside0.mk ho2
      have HQ1 := Aside0.mk q1
      have HQ2 := Aside0.mk q2
      refine hK.out _ _ ⟨blk_below H1.out hb2, (blk_cell (blk_below H1.out hb2) 0).trans rfl, hb2⟩ (fun hHeld => ?_)
      clear ho2 hb2 hg2 hat2 HO1 q1 q2
      clear hK K
      refine norm_ (a' := ?_) ?_ ?_
      rotate_left
      · show Act.put _ (some 47) _ = _
        simp only [Act.put, List.setIfInBounds_toArray, List.set_cons_zero, List.set_cons_succ, i64_w, i32_w]
        rfl
      refine pure_ (i := 17) (N := some 48) (v := ?_) (a' := ?_) #[true, true, true, true, true, true, true, true, true, true, true, true, true, true, true, true, true, true, false, false] rfl rfl (by kernel_rfl) (fun _ _ _ h => h) (Or.inl ⟨by rfl, ?_⟩) ?_ ?_
      rotate_left
      · intro w'
        go_simp
        with_reducible rfl
      rotate_left
      · simp only [Act.put, List.setIfInBounds_toArray, List.set_cons_zero, List.set_cons_succ, i64_w, i32_w]
        rfl
      refine pure_ (i := 18) (N := some 49) (v := ?_) (a' := ?_) #[true, true, true, true, true, true, true, true, true, true, true, true, true, true, true, true, true, true, true, false] rfl rfl (by kernel_rfl) (fun _ _ _ h => h) (Or.inl ⟨by rfl, ?_⟩) ?_ ?_
      rotate_left
      · intro w'
        go_simp
        with_reducible rfl
      rotate_left
      · simp only [Act.put, List.setIfInBounds_toArray, List.set_cons_zero, List.set_cons_succ, i64_w, i32_w]
        rfl
      refine last_ (i := 19) (N := none) #[true, true, true, true, true, true, true, true, true, true, true, true, true, true, true, true, true, true, true, true] rfl rfl (by kernel_rfl) (by decide) (fun K hK => ?_)
      refine slot_ (by rfl) rfl (.tmp 49) (.tmp 47) rfl p A4 (M.take i.toNat ++ M.drop (i + 1).toNat).length c4 rfl rfl _ hHeld.1 ?_
      have HG := Aside0.mk (grown_slot (p := p) hHeld.2.2 #[.slice A4 (M.take i.toNat ++ M.drop (i + 1).toNat).length c4])
      have HR2 : Aside0 (RSheetO b (w2.setRow p #[.slice A4 (M.take i.toNat ++ M.drop (i + 1).toNat).length c4]) p (W.take i.toNat ++ W.drop (i.toNat + 1))) := ⟨RSheetO.set hHeld.1 HQ1.out HQ2.out (fun ad' e he => by have h1 := R_off HO2.out ad' e; have h2 := blk_lt H1.out; rw [he] at h1; omega) (HRd.out.imp (fun _ _ h => h.below hHeld.2.2)) (fun v l h => h.grown (slot_no hHeld.1) (grown_slot (Below.refl _ _) _)) HOff.out (fun ad e => by have h1 := R_off HO2.out ad e; have h2 := HB0.out; omega)⟩
      refine hK.out _ _ ?_
      clear hK K
      refine done_ (by kernel_rfl) ?_
      clear hHeld HO2
      generalize World.setRow _ p _ = w9 at HG HR2 ⊢
      go_wp2
      go_ret
      refine ⟨by rw [H0.out] <;> rfl, ?_, HG.out⟩
      unfold remL
      rw [if_pos H0.out, HDel.out]
      exact HR2.out
    | succ k1 =>
      have hi := HI.out
      have p108 : 0 ≤ k := hi.1
      have q108 : k < (nl : Int) := by omega
      have cb1 : decide (k < (nl : Int)) = true := decide_eq_true q108
      have hadd2 : wrap64 (k + 1) = k + 1 := by have := HLen.out; unfold wrap64; omega
      obtain ⟨m, hm⟩ : ∃ m, M[k.toNat]? = some m := ⟨_, List.getElem?_eq_getElem (by have := hnl.out; omega)⟩
      obtain ⟨ad2, ea, _, ha, _⟩ := at_St HC.out k.toNat m hm rfl
      obtain ⟨s, hs, _, g1, _⟩ := reads_get HRd0.out hm
      cases ea
      have HS2 := Aside0.mk hs
      clear hi hm
      replace p108 := eq_true p108
      replace q108 := eq_true q108
      by_cases c1 : m.2.1 = n
      · have H9 : Aside0 (remE W n = 9) := ⟨by rw [HE.out, if_pos]; exact List.any_eq_true.2 ⟨s, List.mem_of_getElem? hs, by rw [g1, c1]; exact ba_refl n⟩⟩
        rw [c1] at ha
        have c' := ba_refl n
        have c'' : (n.toList == n.toList) = true := beq_self_eq_true _
        clear c1 hs g1
        go_wp2
        go_ret
        refine ⟨by rw [H9.out] <;> rfl, ?_, grown_of_below (Below.refl _ _) _⟩
        unfold remL
        rw [if_neg (by rw [H9.out]; decide)]
        exact HSO.out
      · obtain ⟨a, ha'⟩ : ∃ a, a = m.2.1 := ⟨_, rfl⟩
        rw [← ha'] at ha c1 g1
        have c' := ba_ne c1
        have c'' := list_neq c1
        have CN : Aside0 (s.2.1 ≠ n) := ⟨by rw [g1]; exact c1⟩
        clear ha' c1 hs g1
        go_wp2
        go_roundg k1
        case measure => omega
        case rel => exact ⟨k + 1, by first | rfl | rw [hadd2], ⟨by have := HI.out; omega, by have := HI.out; omega⟩, ⟨fun j hj t ht => by
          rcases Nat.lt_or_ge j k.toNat with h | h
          · exact HP.out j h t ht
          · obtain rfl : j = k.toNat := by have := HI.out; omega
            rw [HS2.out] at ht
            cases ht
            exact CN.out⟩, ⟨rfl⟩⟩
theorem rremove_callsO (b : Nat) (p : Nat) (W : List Sty) (n : ByteArray) (w : World) (hb0 : b < w.heap.size) (hs : RSheetO b w p W) (hl : W.length ≤ 1000) :
    Calls Try.prog 35 #[.pointer (some ⟨p, 0, none⟩), .string n] w fun e w' => e = .returned (.int .i64 (remE W n)) ∧ RSheetO b w' p (remL W n) ∧ w.grownBy w' (some p) := by
  cases hf : fnd W n with
  | none =>
    have e : remE W n = 6 := by unfold remE; rw [if_pos hf]
    refine (rrem_miss p W n w hs.sheet hl hf).mono ?_
    rintro x w' ⟨rfl, rfl⟩
    refine ⟨by rw [e], ?_, grown_of_below (Below.refl _ _) _⟩
    unfold remL
    rw [if_neg (by rw [e]; decide)]
    exact hs
  | some s => exact rrem_thereO b p W n w hb0 hs hl (by rw [hf]; rfl)
end Go.Proofs.Ytpcpjlbfhbicaaa.Sh
