/- Own walks for the law, joined from several texts: what the law reaches, and no more (joined by keeplive.py). -/
import Derived.Test.YtpcpjlbfhbicaaaS2
import Derived.Test.YtpcpjlbfhbicaaaWGuard
section
set_option linter.unusedVariables false
set_option linter.unusedSimpArgs false
namespace Go.Proofs.Ytpcpjlbfhbicaaa.Sh
open Go Go.RowKit Go.Proofs.YtpcpjlbfhbicaaaW.PrintWords Go.Proofs.YtpcpjlbfhbicaaaW.PrintLast Go.Proofs.YtpcpjlbfhbicaaaW.PrintMore Go.Proofs.Ytpcpjlbfhbicaaa.PStyleProps
open Go.Proofs.Ytpcpjlbfhbicaaa.PStyleNearest (S37 k37 z37 rd_T37 at_T37 k37_open k37_openM k37_mk k37_mkM info37)
theorem settings_len {ks : Nat} {l : List S37} (h : PStyleNearest.style_settings.f ks l = some 0) : l.length ≤ 64 := by
  unfold PStyleNearest.style_settings.f at h
  by_cases c : (l.length : Int) > 64
  · rw [if_pos c] at h; cases h
  · omega
set_option maxHeartbeats 4000000 in
set_option maxRecDepth 100000 in
theorem define_there0 (gs gm : Nat) (L : List Sty) (n p : ByteArray) (v : Value) (l : List S37) (w : World) (hs : Sheet w gs gm L) (hv : Sl w v l) (kn : Nat) (hn : PStyleNearest.style_name.f kn n = some true) (ks k : Nat) (he : PStyleNearest.style_settings.f ks l = some 0) (hab : aboveG (upL L) n k p = some false) (ht : (fnd L n).isSome = true) (hp : p = ⟨#[]⟩) :
    Calls Try.prog 23 #[.pointer (some ⟨gs, 0, none⟩), .string n, .string p, v] w fun x w' => x = .returned (.int .i64 0) ∧ Sheet w' gs gm (putL L n p l) ∧ w.grownBy w' (some gm) := by
  have hu := Try.underlying77
  have hu5 := Try.underlying75
  have hu8 := Try.underlying85
  have hu37 := Try.underlying37
  have HS := Aside0.mk hs
  obtain ⟨h1, M, hm, hrd⟩ := hs
  obtain ⟨r1, r2, r3, r4⟩ := reads_all p hrd
  obtain ⟨q1, q2, q3, _⟩ := reads_all n hrd
  obtain ⟨A, c, e1, e2, e3⟩ := r2
  generalize hm0 : (setsL L p).length = m at e1 e2 e3
  obtain ⟨An, cn, f1, f2, f3⟩ := q2
  generalize hm1 : (setsL L n).length = mn at f1 f2 f3
  obtain ⟨pp, hpp⟩ : ∃ pp, pp = upL L p := ⟨_, rfl⟩
  obtain ⟨pn, hpn⟩ : ∃ pn, pn = upL L n := ⟨_, rfl⟩
  rw [← hpp] at r1
  rw [← hpn] at q1
  have HM := Aside0.mk hm
  have H1 := Aside0.mk h1
  have HRd := Aside0.mk hrd
  obtain ⟨tp, htp⟩ : ∃ tp, tp = (fnd L p).isSome := ⟨_, rfl⟩
  obtain ⟨tn, htn⟩ : ∃ tn, tn = (fnd L n).isSome := ⟨_, rfl⟩
  rw [← htp] at r3
  rw [← htn] at q3
  have HLp : Aside0 (∀ w', MapAt w' gm M → (Instr.lookup 75 (.map (some gm)) (.string p) true).run Try.prog w' = .ok (.tuple #[.agg #[.string pp, .slice A m c], .bool tp]) w') := ⟨fun w' hw' => by rw [look2 hw', r1, e1, r3]⟩
  have HLn : Aside0 (∀ w', MapAt w' gm M → (Instr.lookup 75 (.map (some gm)) (.string n) true).run Try.prog w' = .ok (.tuple #[.agg #[.string pn, .slice An mn cn], .bool tn]) w') := ⟨fun w' hw' => by rw [look2 hw', q1, f1, q3]⟩
  have HLen : Aside0 (∀ w', MapAt w' gm M → (Builtin.len_ #[75] 3 #[.map (some gm)]).run Try.prog w' = .ok (.int .i64 L.length) w') := ⟨fun w' hw' => by rw [← r4]; exact run_len hw'⟩
  clear h1 hm hrd r1 r3 r4 q1 q3 e1 e2 e3 f1 f2 f3 hpp hpn hm0 hm1
  obtain ⟨A0, c0, rfl, z2, z3⟩ := id hv
  clear z2 z3
  have HOwn := Aside0.mk hv
  clear hv
  have hl64 : l.length ≤ 64 := settings_len he
  have HCl : Aside0 (∀ w', Sl w' (.slice A0 l.length c0) l → Calls Try.prog 44 #[.slice A0 l.length c0] w' fun x w'' => ∃ v', x = .returned v' ∧ Sl w'' v' l ∧ Below w'.heap.size w' w'') := ⟨fun w' h => clone_calls _ l w' h hl64⟩
  clear hl64
  have HSet : Aside0 (∀ w', Sl w' (.slice A0 l.length c0) l → Calls Try.prog 42 #[.slice A0 l.length c0] w' fun x w'' => x = .returned (.int .i64 0) ∧ Below w'.heap.size w' w'') := ⟨fun w' h => settings_calls ks _ l _ w' h he⟩
  have HAb : Aside0 (∀ w', Sheet w' gs gm L → Calls Try.prog 43 #[.pointer (some ⟨gs, 0, none⟩), .string n, .string p] w' fun x w'' => x = .returned (.bool false) ∧ w'' = w') := ⟨fun w' h => above_callsL gs gm L k n p false w' h hab⟩
  clear hab he
  rw [ht] at htn
  subst htn
  clear ht
  have HN : Aside0 (∀ w', Calls Try.prog 41 #[.string n] w' fun x w'' => x = .returned (.bool true) ∧ Below w'.heap.size w' w'') := ⟨fun w' => name_calls kn n true w' hn⟩
  clear hn
  clear htp
  subst hp
  go_enter Try.func23, Try.ntmps23
  go_upto_region 6 with (first | (go_at_call 40; refine (none_calls gs gm _ H1.out).mono ?_; rintro x w7 ⟨rfl, hw⟩; rw [hw]; clear hw) | (go_at_call 41; refine (HN.out _).mono ?_; rintro x w8 ⟨rfl, hb⟩; have HB := Aside0.mk hb; have e0 := (blk_cell (blk_below H1.out hb) 0).trans rfl; have hlk := HLp.out w8 (HM.out.below hb); clear hb))
  have HB2 : Aside0 (Below w.heap.size w (w8.alloc (.cells #[.string pp, .slice A m c] 85))) := ⟨below_alloc HB.out _⟩
  clear HB e0 hlk
  have HB := HB2
  clear HB2
  generalize w8.alloc (.cells #[.string pp, .slice A m c] 85) = w9 at HB ⊢
  generalize w8.heap.size = g9
  go_upto_region 14 with (first | (go_at_call 42; refine (HSet.out _ (HOwn.out.below HB.out)).mono ?_; rintro x w10 ⟨rfl, hb⟩; have HBn := Aside0.mk (below_step HB.out hb); clear HB hb; have HB := HBn; clear HBn) | (go_at_call 43; refine (HAb.out _ (HS.out.below HB.out)).mono ?_; rintro x w11 ⟨rfl, hw⟩; rw [hw]; clear hw; have e0 := (blk_cell (blk_below H1.out HB.out) 0).trans rfl; have hlk := HLn.out _ (HM.out.below HB.out)))
  have HB2 : Aside0 (Below w.heap.size w (w10.alloc (.cells #[.string pn, .slice An mn cn] 85))) := ⟨below_alloc HB.out _⟩
  clear HB e0 hlk
  have HB := HB2
  clear HB2
  generalize w10.alloc (.cells #[.string pn, .slice An mn cn] 85) = w12 at HB ⊢
  generalize w10.heap.size = g12
  have e0 := (blk_cell (blk_below H1.out HB.out) 0).trans rfl
  have hle := HLen.out _ (HM.out.below HB.out)
  go_upto_region 16 with fail
  clear hle
  go_wp2
  refine start_ (n := 10) (S := fun w' => w'.cell? ⟨gs, 0, none⟩ = some (.map (some gm)) ∧ Below w.heap.size w w') (ds := [9]) #[false, false, false, false, false, false, false, false, false, false] (by kernel_rfl) rfl rfl ⟨(blk_cell (blk_below H1.out (below_drew1 HB.out)) 0).trans rfl, below_drew1 HB.out⟩ (fun hHeld => ?_)
  refine pure_ (i := 0) (N := some 64) (v := ?_) (a' := ?_) #[true, false, false, false, false, false, false, false, false, false] rfl rfl (by kernel_rfl) (fun _ _ _ h => h) (Or.inl ⟨by rfl, ?_⟩) ?_ ?_
  rotate_left
  · intro w'
    go_simp
    with_reducible rfl
  rotate_left
  · simp only [Act.put, List.setIfInBounds_toArray, List.set_cons_zero, List.set_cons_succ, i64_w, i32_w]
    rfl
  refine pure_ (i := 1) (N := some 65) (v := ?_) (a' := ?_) #[true, true, false, false, false, false, false, false, false, false] rfl rfl (by kernel_rfl) (fun _ _ _ h => h) (Or.inl ⟨by rfl, ?_⟩) ?_ ?_
  rotate_left
  · intro w'
    go_simp
    with_reducible rfl
  rotate_left
  · simp only [Act.put, List.setIfInBounds_toArray, List.set_cons_zero, List.set_cons_succ, i64_w, i32_w]
    rfl
  refine pure_ (i := 2) (N := some 66) (v := ?_) (a' := ?_) #[true, true, true, false, false, false, false, false, false, false] rfl rfl (by kernel_rfl) (fun _ _ _ h => h) (Or.inl ⟨by rfl, ?_⟩) ?_ ?_
  rotate_left
  · intro w'
    go_simp
    with_reducible rfl
  rotate_left
  · simp only [Act.put, List.setIfInBounds_toArray, List.set_cons_zero, List.set_cons_succ, i64_w, i32_w]
    rfl
  refine pure_ (i := 4) (N := some 68) (v := ?_) (a' := ?_) #[true, true, true, false, true, false, false, false, false, false] rfl rfl (by kernel_rfl) (fun _ _ _ h => h) (Or.inl ⟨by rfl, ?_⟩) ?_ ?_
  rotate_left
  · intro w'
    go_simp
    with_reducible rfl
  rotate_left
  · simp only [Act.put, List.setIfInBounds_toArray, List.set_cons_zero, List.set_cons_succ, i64_w, i32_w]
    rfl
  refine pure_ (i := 5) (N := some 69) (v := ?_) (a' := ?_) #[true, true, true, false, true, true, false, false, false, false] rfl rfl (by kernel_rfl) (fun _ _ _ h => h) (Or.inl ⟨by rfl, ?_⟩) ?_ ?_
  rotate_left
  · intro w'
    go_simp
    with_reducible rfl
  rotate_left
  · simp only [Act.put, List.setIfInBounds_toArray, List.set_cons_zero, List.set_cons_succ, i64_w, i32_w]
    rfl
  refine pure_ (i := 6) (N := some 70) (v := ?_) (a' := ?_) #[true, true, true, false, true, true, true, false, false, false] rfl rfl (by kernel_rfl) (fun _ _ _ h => h) (Or.inl ⟨by rfl, ?_⟩) ?_ ?_
  rotate_left
  · intro w'
    go_simp
    with_reducible rfl
  rotate_left
  · simp only [Act.put, List.setIfInBounds_toArray, List.set_cons_zero, List.set_cons_succ, i64_w, i32_w]
    rfl
  refine take_ (i := 3) (N := some 67) (v := ?_) (a' := ?_) #[true, true, true, true, true, true, true, false, false, false] rfl rfl (by kernel_rfl) (fun _ _ _ h => h) (Or.inl ⟨by rfl, ?_⟩) hHeld ?_ ?_
  rotate_left
  · rintro w' ⟨s0, s1⟩
    go_simp
    with_reducible rfl
  rotate_left
  · simp only [Act.put, List.setIfInBounds_toArray, List.set_cons_zero, List.set_cons_succ, i64_w, i32_w]
    rfl
  refine one_ (i := 7) (N := some 71) #[true, true, true, true, true, true, true, true, false, false] rfl rfl (by kernel_rfl) (by decide) (fun K hK => ?_)
  refine goes_ Try.func44 (by kernel_rfl) rfl #[.slice A0 l.length c0] (by rfl) rfl rfl (by (simp only [List.map_toArray, List.map_cons, List.map_nil]); first | done | rfl) ?_
  with_reducible refine (HCl.out _ (HOwn.out.below hHeld.2)).mono ?_
  rintro x w13 ⟨v2, rfl, ⟨A2, c2, rfl, z2, z3⟩, hb13⟩
  refine ⟨_, rfl, ?_⟩
  refine hK.out _ _ ⟨(blk_cell (blk_below H1.out (below_step hHeld.2 hb13)) 0).trans rfl, below_step hHeld.2 hb13⟩ (fun hHeld => ?_)
  clear hK K
  refine norm_ (a' := ?_) ?_ ?_
  rotate_left
  · show Act.put _ (some 71) _ = _
    simp only [Act.put, List.setIfInBounds_toArray, List.set_cons_zero, List.set_cons_succ, i64_w, i32_w]
    rfl
  refine pure_ (i := 8) (N := some 72) (v := ?_) (a' := ?_) #[true, true, true, true, true, true, true, true, true, false] rfl rfl (by kernel_rfl) (fun _ _ _ h => h) (Or.inl ⟨by rfl, ?_⟩) ?_ ?_
  rotate_left
  · intro w'
    go_simp
    with_reducible rfl
  rotate_left
  · simp only [Act.put, List.setIfInBounds_toArray, List.set_cons_zero, List.set_cons_succ, i64_w, i32_w]
    rfl
  refine last_ (i := 9) (N := none) #[true, true, true, true, true, true, true, true, true, true] rfl rfl (by kernel_rfl) (by decide) (fun K hK => ?_)
  obtain ⟨o, hup, hat⟩ := run_update (HM.out.below hHeld.2) n ⟨#[]⟩ (.slice A2 l.length c2)
  have HAt := Aside0.mk hat
  have HBz := Aside0.mk hHeld.2
  have HSlz : Aside0 (Sl _ (.slice A2 l.length c2) l) := ⟨⟨A2, c2, rfl, z2, z3⟩⟩
  clear hat z2 z3
  refine skip_ (w1 := ?_) (by rfl) rfl ?_ ?_
  rotate_left
  · go_simp
    rfl
  refine hK.out _ _ ?_
  clear hK K
  refine done_ (by kernel_rfl) ?_
  clear hHeld
  have HG := Aside0.mk (grown_put (gm := gm) HBz.out o)
  have HSh := Aside0.mk (sheet_put (blk_below H1.out HBz.out) (HM.out.below HBz.out) (HRd.out.imp (fun _ _ h => h.below HBz.out)) HSlz.out HAt.out)
  go_wp2
  go_ret
  exact ⟨rfl, HSh.out, HG.out⟩
set_option maxHeartbeats 4000000 in
set_option maxRecDepth 100000 in
theorem define_there1 (gs gm : Nat) (L : List Sty) (n p : ByteArray) (v : Value) (l : List S37) (w : World) (hs : Sheet w gs gm L) (hv : Sl w v l) (kn : Nat) (hn : PStyleNearest.style_name.f kn n = some true) (ks k : Nat) (he : PStyleNearest.style_settings.f ks l = some 0) (hab : aboveG (upL L) n k p = some false) (ht : (fnd L n).isSome = true) (hp : p ≠ ⟨#[]⟩) (hf : (fnd L p).isSome = true) :
    Calls Try.prog 23 #[.pointer (some ⟨gs, 0, none⟩), .string n, .string p, v] w fun x w' => x = .returned (.int .i64 0) ∧ Sheet w' gs gm (putL L n p l) ∧ w.grownBy w' (some gm) := by
  have hu := Try.underlying77
  have hu5 := Try.underlying75
  have hu8 := Try.underlying85
  have hu37 := Try.underlying37
  have HS := Aside0.mk hs
  obtain ⟨h1, M, hm, hrd⟩ := hs
  obtain ⟨r1, r2, r3, r4⟩ := reads_all p hrd
  obtain ⟨q1, q2, q3, _⟩ := reads_all n hrd
  obtain ⟨A, c, e1, e2, e3⟩ := r2
  generalize hm0 : (setsL L p).length = m at e1 e2 e3
  obtain ⟨An, cn, f1, f2, f3⟩ := q2
  generalize hm1 : (setsL L n).length = mn at f1 f2 f3
  obtain ⟨pp, hpp⟩ : ∃ pp, pp = upL L p := ⟨_, rfl⟩
  obtain ⟨pn, hpn⟩ : ∃ pn, pn = upL L n := ⟨_, rfl⟩
  rw [← hpp] at r1
  rw [← hpn] at q1
  have HM := Aside0.mk hm
  have H1 := Aside0.mk h1
  have HRd := Aside0.mk hrd
  obtain ⟨tp, htp⟩ : ∃ tp, tp = (fnd L p).isSome := ⟨_, rfl⟩
  obtain ⟨tn, htn⟩ : ∃ tn, tn = (fnd L n).isSome := ⟨_, rfl⟩
  rw [← htp] at r3
  rw [← htn] at q3
  have HLp : Aside0 (∀ w', MapAt w' gm M → (Instr.lookup 75 (.map (some gm)) (.string p) true).run Try.prog w' = .ok (.tuple #[.agg #[.string pp, .slice A m c], .bool tp]) w') := ⟨fun w' hw' => by rw [look2 hw', r1, e1, r3]⟩
  have HLn : Aside0 (∀ w', MapAt w' gm M → (Instr.lookup 75 (.map (some gm)) (.string n) true).run Try.prog w' = .ok (.tuple #[.agg #[.string pn, .slice An mn cn], .bool tn]) w') := ⟨fun w' hw' => by rw [look2 hw', q1, f1, q3]⟩
  have HLen : Aside0 (∀ w', MapAt w' gm M → (Builtin.len_ #[75] 3 #[.map (some gm)]).run Try.prog w' = .ok (.int .i64 L.length) w') := ⟨fun w' hw' => by rw [← r4]; exact run_len hw'⟩
  clear h1 hm hrd r1 r3 r4 q1 q3 e1 e2 e3 f1 f2 f3 hpp hpn hm0 hm1
  obtain ⟨A0, c0, rfl, z2, z3⟩ := id hv
  clear z2 z3
  have HOwn := Aside0.mk hv
  clear hv
  have hl64 : l.length ≤ 64 := settings_len he
  have HCl : Aside0 (∀ w', Sl w' (.slice A0 l.length c0) l → Calls Try.prog 44 #[.slice A0 l.length c0] w' fun x w'' => ∃ v', x = .returned v' ∧ Sl w'' v' l ∧ Below w'.heap.size w' w'') := ⟨fun w' h => clone_calls _ l w' h hl64⟩
  clear hl64
  have HSet : Aside0 (∀ w', Sl w' (.slice A0 l.length c0) l → Calls Try.prog 42 #[.slice A0 l.length c0] w' fun x w'' => x = .returned (.int .i64 0) ∧ Below w'.heap.size w' w'') := ⟨fun w' h => settings_calls ks _ l _ w' h he⟩
  have HAb : Aside0 (∀ w', Sheet w' gs gm L → Calls Try.prog 43 #[.pointer (some ⟨gs, 0, none⟩), .string n, .string p] w' fun x w'' => x = .returned (.bool false) ∧ w'' = w') := ⟨fun w' h => above_callsL gs gm L k n p false w' h hab⟩
  clear hab he
  rw [ht] at htn
  subst htn
  clear ht
  have HN : Aside0 (∀ w', Calls Try.prog 41 #[.string n] w' fun x w'' => x = .returned (.bool true) ∧ Below w'.heap.size w' w'') := ⟨fun w' => name_calls kn n true w' hn⟩
  clear hn
  rw [hf] at htp
  subst htp
  clear hf
  have c1 := list_ne hp
  go_enter Try.func23, Try.ntmps23
  go_upto_region 6 with (first | (go_at_call 40; refine (none_calls gs gm _ H1.out).mono ?_; rintro x w7 ⟨rfl, hw⟩; rw [hw]; clear hw) | (go_at_call 41; refine (HN.out _).mono ?_; rintro x w8 ⟨rfl, hb⟩; have HB := Aside0.mk hb; have e0 := (blk_cell (blk_below H1.out hb) 0).trans rfl; have hlk := HLp.out w8 (HM.out.below hb); clear hb))
  have HB2 : Aside0 (Below w.heap.size w (w8.alloc (.cells #[.string pp, .slice A m c] 85))) := ⟨below_alloc HB.out _⟩
  clear HB e0 hlk
  have HB := HB2
  clear HB2
  generalize w8.alloc (.cells #[.string pp, .slice A m c] 85) = w9 at HB ⊢
  generalize w8.heap.size = g9
  go_upto_region 14 with (first | (go_at_call 42; refine (HSet.out _ (HOwn.out.below HB.out)).mono ?_; rintro x w10 ⟨rfl, hb⟩; have HBn := Aside0.mk (below_step HB.out hb); clear HB hb; have HB := HBn; clear HBn) | (go_at_call 43; refine (HAb.out _ (HS.out.below HB.out)).mono ?_; rintro x w11 ⟨rfl, hw⟩; rw [hw]; clear hw; have e0 := (blk_cell (blk_below H1.out HB.out) 0).trans rfl; have hlk := HLn.out _ (HM.out.below HB.out)))
  have HB2 : Aside0 (Below w.heap.size w (w10.alloc (.cells #[.string pn, .slice An mn cn] 85))) := ⟨below_alloc HB.out _⟩
  clear HB e0 hlk
  have HB := HB2
  clear HB2
  generalize w10.alloc (.cells #[.string pn, .slice An mn cn] 85) = w12 at HB ⊢
  generalize w10.heap.size = g12
  have e0 := (blk_cell (blk_below H1.out HB.out) 0).trans rfl
  have hle := HLen.out _ (HM.out.below HB.out)
  go_upto_region 16 with fail
  clear hle
  go_wp2
  refine start_ (n := 10) (S := fun w' => w'.cell? ⟨gs, 0, none⟩ = some (.map (some gm)) ∧ Below w.heap.size w w') (ds := [9]) #[false, false, false, false, false, false, false, false, false, false] (by kernel_rfl) rfl rfl ⟨(blk_cell (blk_below H1.out (below_drew1 HB.out)) 0).trans rfl, below_drew1 HB.out⟩ (fun hHeld => ?_)
  refine pure_ (i := 0) (N := some 64) (v := ?_) (a' := ?_) #[true, false, false, false, false, false, false, false, false, false] rfl rfl (by kernel_rfl) (fun _ _ _ h => h) (Or.inl ⟨by rfl, ?_⟩) ?_ ?_
  rotate_left
  · intro w'
    go_simp
    with_reducible rfl
  rotate_left
  · simp only [Act.put, List.setIfInBounds_toArray, List.set_cons_zero, List.set_cons_succ, i64_w, i32_w]
    rfl
  refine pure_ (i := 1) (N := some 65) (v := ?_) (a' := ?_) #[true, true, false, false, false, false, false, false, false, false] rfl rfl (by kernel_rfl) (fun _ _ _ h => h) (Or.inl ⟨by rfl, ?_⟩) ?_ ?_
  rotate_left
  · intro w'
    go_simp
    with_reducible rfl
  rotate_left
  · simp only [Act.put, List.setIfInBounds_toArray, List.set_cons_zero, List.set_cons_succ, i64_w, i32_w]
    rfl
  refine pure_ (i := 2) (N := some 66) (v := ?_) (a' := ?_) #[true, true, true, false, false, false, false, false, false, false] rfl rfl (by kernel_rfl) (fun _ _ _ h => h) (Or.inl ⟨by rfl, ?_⟩) ?_ ?_
  rotate_left
  · intro w'
    go_simp
    with_reducible rfl
  rotate_left
  · simp only [Act.put, List.setIfInBounds_toArray, List.set_cons_zero, List.set_cons_succ, i64_w, i32_w]
    rfl
  refine pure_ (i := 4) (N := some 68) (v := ?_) (a' := ?_) #[true, true, true, false, true, false, false, false, false, false] rfl rfl (by kernel_rfl) (fun _ _ _ h => h) (Or.inl ⟨by rfl, ?_⟩) ?_ ?_
  rotate_left
  · intro w'
    go_simp
    with_reducible rfl
  rotate_left
  · simp only [Act.put, List.setIfInBounds_toArray, List.set_cons_zero, List.set_cons_succ, i64_w, i32_w]
    rfl
  refine pure_ (i := 5) (N := some 69) (v := ?_) (a' := ?_) #[true, true, true, false, true, true, false, false, false, false] rfl rfl (by kernel_rfl) (fun _ _ _ h => h) (Or.inl ⟨by rfl, ?_⟩) ?_ ?_
  rotate_left
  · intro w'
    go_simp
    with_reducible rfl
  rotate_left
  · simp only [Act.put, List.setIfInBounds_toArray, List.set_cons_zero, List.set_cons_succ, i64_w, i32_w]
    rfl
  refine pure_ (i := 6) (N := some 70) (v := ?_) (a' := ?_) #[true, true, true, false, true, true, true, false, false, false] rfl rfl (by kernel_rfl) (fun _ _ _ h => h) (Or.inl ⟨by rfl, ?_⟩) ?_ ?_
  rotate_left
  · intro w'
    go_simp
    with_reducible rfl
  rotate_left
  · simp only [Act.put, List.setIfInBounds_toArray, List.set_cons_zero, List.set_cons_succ, i64_w, i32_w]
    rfl
  refine take_ (i := 3) (N := some 67) (v := ?_) (a' := ?_) #[true, true, true, true, true, true, true, false, false, false] rfl rfl (by kernel_rfl) (fun _ _ _ h => h) (Or.inl ⟨by rfl, ?_⟩) hHeld ?_ ?_
  rotate_left
  · rintro w' ⟨s0, s1⟩
    go_simp
    with_reducible rfl
  rotate_left
  · simp only [Act.put, List.setIfInBounds_toArray, List.set_cons_zero, List.set_cons_succ, i64_w, i32_w]
    rfl
  refine one_ (i := 7) (N := some 71) #[true, true, true, true, true, true, true, true, false, false] rfl rfl (by kernel_rfl) (by decide) (fun K hK => ?_)
  refine goes_ Try.func44 (by kernel_rfl) rfl #[.slice A0 l.length c0] (by rfl) rfl rfl (by (simp only [List.map_toArray, List.map_cons, List.map_nil]); first | done | rfl) ?_
  with_reducible refine (HCl.out _ (HOwn.out.below hHeld.2)).mono ?_
  rintro x w13 ⟨v2, rfl, ⟨A2, c2, rfl, z2, z3⟩, hb13⟩
  refine ⟨_, rfl, ?_⟩
  refine hK.out _ _ ⟨(blk_cell (blk_below H1.out (below_step hHeld.2 hb13)) 0).trans rfl, below_step hHeld.2 hb13⟩ (fun hHeld => ?_)
  clear hK K
  refine norm_ (a' := ?_) ?_ ?_
  rotate_left
  · show Act.put _ (some 71) _ = _
    simp only [Act.put, List.setIfInBounds_toArray, List.set_cons_zero, List.set_cons_succ, i64_w, i32_w]
    rfl
  refine pure_ (i := 8) (N := some 72) (v := ?_) (a' := ?_) #[true, true, true, true, true, true, true, true, true, false] rfl rfl (by kernel_rfl) (fun _ _ _ h => h) (Or.inl ⟨by rfl, ?_⟩) ?_ ?_
  rotate_left
  · intro w'
    go_simp
    with_reducible rfl
  rotate_left
  · simp only [Act.put, List.setIfInBounds_toArray, List.set_cons_zero, List.set_cons_succ, i64_w, i32_w]
    rfl
  refine last_ (i := 9) (N := none) #[true, true, true, true, true, true, true, true, true, true] rfl rfl (by kernel_rfl) (by decide) (fun K hK => ?_)
  obtain ⟨o, hup, hat⟩ := run_update (HM.out.below hHeld.2) n p (.slice A2 l.length c2)
  have HAt := Aside0.mk hat
  have HBz := Aside0.mk hHeld.2
  have HSlz : Aside0 (Sl _ (.slice A2 l.length c2) l) := ⟨⟨A2, c2, rfl, z2, z3⟩⟩
  clear hat z2 z3
  refine skip_ (w1 := ?_) (by rfl) rfl ?_ ?_
  rotate_left
  · go_simp
    rfl
  refine hK.out _ _ ?_
  clear hK K
  refine done_ (by kernel_rfl) ?_
  clear hHeld
  have HG := Aside0.mk (grown_put (gm := gm) HBz.out o)
  have HSh := Aside0.mk (sheet_put (blk_below H1.out HBz.out) (HM.out.below HBz.out) (HRd.out.imp (fun _ _ h => h.below HBz.out)) HSlz.out HAt.out)
  go_wp2
  go_ret
  exact ⟨rfl, HSh.out, HG.out⟩
set_option maxHeartbeats 4000000 in
set_option maxRecDepth 100000 in
theorem define_new0 (gs gm : Nat) (L : List Sty) (n p : ByteArray) (v : Value) (l : List S37) (w : World) (hs : Sheet w gs gm L) (hv : Sl w v l) (kn : Nat) (hn : PStyleNearest.style_name.f kn n = some true) (ks k : Nat) (he : PStyleNearest.style_settings.f ks l = some 0) (hab : aboveG (upL L) n k p = some false) (ht : fnd L n = none) (hlen : L.length < 32) (hp : p = ⟨#[]⟩) :
    Calls Try.prog 23 #[.pointer (some ⟨gs, 0, none⟩), .string n, .string p, v] w fun x w' => x = .returned (.int .i64 0) ∧ Sheet w' gs gm (putL L n p l) ∧ w.grownBy w' (some gm) := by
  have hu := Try.underlying77
  have hu5 := Try.underlying75
  have hu8 := Try.underlying85
  have hu37 := Try.underlying37
  have HS := Aside0.mk hs
  obtain ⟨h1, M, hm, hrd⟩ := hs
  obtain ⟨r1, r2, r3, r4⟩ := reads_all p hrd
  obtain ⟨q1, q2, q3, _⟩ := reads_all n hrd
  obtain ⟨A, c, e1, e2, e3⟩ := r2
  generalize hm0 : (setsL L p).length = m at e1 e2 e3
  obtain ⟨An, cn, f1, f2, f3⟩ := q2
  generalize hm1 : (setsL L n).length = mn at f1 f2 f3
  obtain ⟨pp, hpp⟩ : ∃ pp, pp = upL L p := ⟨_, rfl⟩
  obtain ⟨pn, hpn⟩ : ∃ pn, pn = upL L n := ⟨_, rfl⟩
  rw [← hpp] at r1
  rw [← hpn] at q1
  have HM := Aside0.mk hm
  have H1 := Aside0.mk h1
  have HRd := Aside0.mk hrd
  obtain ⟨tp, htp⟩ : ∃ tp, tp = (fnd L p).isSome := ⟨_, rfl⟩
  obtain ⟨tn, htn⟩ : ∃ tn, tn = (fnd L n).isSome := ⟨_, rfl⟩
  rw [← htp] at r3
  rw [← htn] at q3
  have HLp : Aside0 (∀ w', MapAt w' gm M → (Instr.lookup 75 (.map (some gm)) (.string p) true).run Try.prog w' = .ok (.tuple #[.agg #[.string pp, .slice A m c], .bool tp]) w') := ⟨fun w' hw' => by rw [look2 hw', r1, e1, r3]⟩
  have HLn : Aside0 (∀ w', MapAt w' gm M → (Instr.lookup 75 (.map (some gm)) (.string n) true).run Try.prog w' = .ok (.tuple #[.agg #[.string pn, .slice An mn cn], .bool tn]) w') := ⟨fun w' hw' => by rw [look2 hw', q1, f1, q3]⟩
  have HLen : Aside0 (∀ w', MapAt w' gm M → (Builtin.len_ #[75] 3 #[.map (some gm)]).run Try.prog w' = .ok (.int .i64 L.length) w') := ⟨fun w' hw' => by rw [← r4]; exact run_len hw'⟩
  clear h1 hm hrd r1 r3 r4 q1 q3 e1 e2 e3 f1 f2 f3 hpp hpn hm0 hm1
  obtain ⟨A0, c0, rfl, z2, z3⟩ := id hv
  clear z2 z3
  have HOwn := Aside0.mk hv
  clear hv
  have hl64 : l.length ≤ 64 := settings_len he
  have HCl : Aside0 (∀ w', Sl w' (.slice A0 l.length c0) l → Calls Try.prog 44 #[.slice A0 l.length c0] w' fun x w'' => ∃ v', x = .returned v' ∧ Sl w'' v' l ∧ Below w'.heap.size w' w'') := ⟨fun w' h => clone_calls _ l w' h hl64⟩
  clear hl64
  have HSet : Aside0 (∀ w', Sl w' (.slice A0 l.length c0) l → Calls Try.prog 42 #[.slice A0 l.length c0] w' fun x w'' => x = .returned (.int .i64 0) ∧ Below w'.heap.size w' w'') := ⟨fun w' h => settings_calls ks _ l _ w' h he⟩
  have HAb : Aside0 (∀ w', Sheet w' gs gm L → Calls Try.prog 43 #[.pointer (some ⟨gs, 0, none⟩), .string n, .string p] w' fun x w'' => x = .returned (.bool false) ∧ w'' = w') := ⟨fun w' h => above_callsL gs gm L k n p false w' h hab⟩
  clear hab he
  rw [ht] at htn
  simp only [Option.isSome_none] at htn
  subst htn
  clear ht
  have cl : decide ((32 : Int) ≤ (L.length : Int)) = false := decide_eq_false (by omega)
  have cl2 : decide (32 ≤ L.length) = false := decide_eq_false (by omega)
  clear hlen
  have HN : Aside0 (∀ w', Calls Try.prog 41 #[.string n] w' fun x w'' => x = .returned (.bool true) ∧ Below w'.heap.size w' w'') := ⟨fun w' => name_calls kn n true w' hn⟩
  clear hn
  clear htp
  subst hp
  go_enter Try.func23, Try.ntmps23
  go_upto_region 6 with (first | (go_at_call 40; refine (none_calls gs gm _ H1.out).mono ?_; rintro x w7 ⟨rfl, hw⟩; rw [hw]; clear hw) | (go_at_call 41; refine (HN.out _).mono ?_; rintro x w8 ⟨rfl, hb⟩; have HB := Aside0.mk hb; have e0 := (blk_cell (blk_below H1.out hb) 0).trans rfl; have hlk := HLp.out w8 (HM.out.below hb); clear hb))
  have HB2 : Aside0 (Below w.heap.size w (w8.alloc (.cells #[.string pp, .slice A m c] 85))) := ⟨below_alloc HB.out _⟩
  clear HB e0 hlk
  have HB := HB2
  clear HB2
  generalize w8.alloc (.cells #[.string pp, .slice A m c] 85) = w9 at HB ⊢
  generalize w8.heap.size = g9
  go_upto_region 14 with (first | (go_at_call 42; refine (HSet.out _ (HOwn.out.below HB.out)).mono ?_; rintro x w10 ⟨rfl, hb⟩; have HBn := Aside0.mk (below_step HB.out hb); clear HB hb; have HB := HBn; clear HBn) | (go_at_call 43; refine (HAb.out _ (HS.out.below HB.out)).mono ?_; rintro x w11 ⟨rfl, hw⟩; rw [hw]; clear hw; have e0 := (blk_cell (blk_below H1.out HB.out) 0).trans rfl; have hlk := HLn.out _ (HM.out.below HB.out)))
  have HB2 : Aside0 (Below w.heap.size w (w10.alloc (.cells #[.string pn, .slice An mn cn] 85))) := ⟨below_alloc HB.out _⟩
  clear HB e0 hlk
  have HB := HB2
  clear HB2
  generalize w10.alloc (.cells #[.string pn, .slice An mn cn] 85) = w12 at HB ⊢
  generalize w10.heap.size = g12
  have e0 := (blk_cell (blk_below H1.out HB.out) 0).trans rfl
  have hle := HLen.out _ (HM.out.below HB.out)
  go_upto_region 16 with fail
  clear hle
  go_wp2
  refine start_ (n := 10) (S := fun w' => w'.cell? ⟨gs, 0, none⟩ = some (.map (some gm)) ∧ Below w.heap.size w w') (ds := [9]) #[false, false, false, false, false, false, false, false, false, false] (by kernel_rfl) rfl rfl ⟨(blk_cell (blk_below H1.out (below_drew1 HB.out)) 0).trans rfl, below_drew1 HB.out⟩ (fun hHeld => ?_)
  refine pure_ (i := 0) (N := some 64) (v := ?_) (a' := ?_) #[true, false, false, false, false, false, false, false, false, false] rfl rfl (by kernel_rfl) (fun _ _ _ h => h) (Or.inl ⟨by rfl, ?_⟩) ?_ ?_
  rotate_left
  · intro w'
    go_simp
    with_reducible rfl
  rotate_left
  · simp only [Act.put, List.setIfInBounds_toArray, List.set_cons_zero, List.set_cons_succ, i64_w, i32_w]
    rfl
  refine pure_ (i := 1) (N := some 65) (v := ?_) (a' := ?_) #[true, true, false, false, false, false, false, false, false, false] rfl rfl (by kernel_rfl) (fun _ _ _ h => h) (Or.inl ⟨by rfl, ?_⟩) ?_ ?_
  rotate_left
  · intro w'
    go_simp
    with_reducible rfl
  rotate_left
  · simp only [Act.put, List.setIfInBounds_toArray, List.set_cons_zero, List.set_cons_succ, i64_w, i32_w]
    rfl
  refine pure_ (i := 2) (N := some 66) (v := ?_) (a' := ?_) #[true, true, true, false, false, false, false, false, false, false] rfl rfl (by kernel_rfl) (fun _ _ _ h => h) (Or.inl ⟨by rfl, ?_⟩) ?_ ?_
  rotate_left
  · intro w'
    go_simp
    with_reducible rfl
  rotate_left
  · simp only [Act.put, List.setIfInBounds_toArray, List.set_cons_zero, List.set_cons_succ, i64_w, i32_w]
    rfl
  refine pure_ (i := 4) (N := some 68) (v := ?_) (a' := ?_) #[true, true, true, false, true, false, false, false, false, false] rfl rfl (by kernel_rfl) (fun _ _ _ h => h) (Or.inl ⟨by rfl, ?_⟩) ?_ ?_
  rotate_left
  · intro w'
    go_simp
    with_reducible rfl
  rotate_left
  · simp only [Act.put, List.setIfInBounds_toArray, List.set_cons_zero, List.set_cons_succ, i64_w, i32_w]
    rfl
  refine pure_ (i := 5) (N := some 69) (v := ?_) (a' := ?_) #[true, true, true, false, true, true, false, false, false, false] rfl rfl (by kernel_rfl) (fun _ _ _ h => h) (Or.inl ⟨by rfl, ?_⟩) ?_ ?_
  rotate_left
  · intro w'
    go_simp
    with_reducible rfl
  rotate_left
  · simp only [Act.put, List.setIfInBounds_toArray, List.set_cons_zero, List.set_cons_succ, i64_w, i32_w]
    rfl
  refine pure_ (i := 6) (N := some 70) (v := ?_) (a' := ?_) #[true, true, true, false, true, true, true, false, false, false] rfl rfl (by kernel_rfl) (fun _ _ _ h => h) (Or.inl ⟨by rfl, ?_⟩) ?_ ?_
  rotate_left
  · intro w'
    go_simp
    with_reducible rfl
  rotate_left
  · simp only [Act.put, List.setIfInBounds_toArray, List.set_cons_zero, List.set_cons_succ, i64_w, i32_w]
    rfl
  refine take_ (i := 3) (N := some 67) (v := ?_) (a' := ?_) #[true, true, true, true, true, true, true, false, false, false] rfl rfl (by kernel_rfl) (fun _ _ _ h => h) (Or.inl ⟨by rfl, ?_⟩) hHeld ?_ ?_
  rotate_left
  · rintro w' ⟨s0, s1⟩
    go_simp
    with_reducible rfl
  rotate_left
  · simp only [Act.put, List.setIfInBounds_toArray, List.set_cons_zero, List.set_cons_succ, i64_w, i32_w]
    rfl
  refine one_ (i := 7) (N := some 71) #[true, true, true, true, true, true, true, true, false, false] rfl rfl (by kernel_rfl) (by decide) (fun K hK => ?_)
  refine goes_ Try.func44 (by kernel_rfl) rfl #[.slice A0 l.length c0] (by rfl) rfl rfl (by (simp only [List.map_toArray, List.map_cons, List.map_nil]); first | done | rfl) ?_
  with_reducible refine (HCl.out _ (HOwn.out.below hHeld.2)).mono ?_
  rintro x w13 ⟨v2, rfl, ⟨A2, c2, rfl, z2, z3⟩, hb13⟩
  refine ⟨_, rfl, ?_⟩
  refine hK.out _ _ ⟨(blk_cell (blk_below H1.out (below_step hHeld.2 hb13)) 0).trans rfl, below_step hHeld.2 hb13⟩ (fun hHeld => ?_)
  clear hK K
  refine norm_ (a' := ?_) ?_ ?_
  rotate_left
  · show Act.put _ (some 71) _ = _
    simp only [Act.put, List.setIfInBounds_toArray, List.set_cons_zero, List.set_cons_succ, i64_w, i32_w]
    rfl
  refine pure_ (i := 8) (N := some 72) (v := ?_) (a' := ?_) #[true, true, true, true, true, true, true, true, true, false] rfl rfl (by kernel_rfl) (fun _ _ _ h => h) (Or.inl ⟨by rfl, ?_⟩) ?_ ?_
  rotate_left
  · intro w'
    go_simp
    with_reducible rfl
  rotate_left
  · simp only [Act.put, List.setIfInBounds_toArray, List.set_cons_zero, List.set_cons_succ, i64_w, i32_w]
    rfl
  refine last_ (i := 9) (N := none) #[true, true, true, true, true, true, true, true, true, true] rfl rfl (by kernel_rfl) (by decide) (fun K hK => ?_)
  obtain ⟨o, hup, hat⟩ := run_update (HM.out.below hHeld.2) n ⟨#[]⟩ (.slice A2 l.length c2)
  have HAt := Aside0.mk hat
  have HBz := Aside0.mk hHeld.2
  have HSlz : Aside0 (Sl _ (.slice A2 l.length c2) l) := ⟨⟨A2, c2, rfl, z2, z3⟩⟩
  clear hat z2 z3
  refine skip_ (w1 := ?_) (by rfl) rfl ?_ ?_
  rotate_left
  · go_simp
    rfl
  refine hK.out _ _ ?_
  clear hK K
  refine done_ (by kernel_rfl) ?_
  clear hHeld
  have HG := Aside0.mk (grown_put (gm := gm) HBz.out o)
  have HSh := Aside0.mk (sheet_put (blk_below H1.out HBz.out) (HM.out.below HBz.out) (HRd.out.imp (fun _ _ h => h.below HBz.out)) HSlz.out HAt.out)
  go_wp2
  go_ret
  exact ⟨rfl, HSh.out, HG.out⟩
set_option maxHeartbeats 4000000 in
set_option maxRecDepth 100000 in
theorem define_new1 (gs gm : Nat) (L : List Sty) (n p : ByteArray) (v : Value) (l : List S37) (w : World) (hs : Sheet w gs gm L) (hv : Sl w v l) (kn : Nat) (hn : PStyleNearest.style_name.f kn n = some true) (ks k : Nat) (he : PStyleNearest.style_settings.f ks l = some 0) (hab : aboveG (upL L) n k p = some false) (ht : fnd L n = none) (hlen : L.length < 32) (hp : p ≠ ⟨#[]⟩) (hf : (fnd L p).isSome = true) :
    Calls Try.prog 23 #[.pointer (some ⟨gs, 0, none⟩), .string n, .string p, v] w fun x w' => x = .returned (.int .i64 0) ∧ Sheet w' gs gm (putL L n p l) ∧ w.grownBy w' (some gm) := by
  have hu := Try.underlying77
  have hu5 := Try.underlying75
  have hu8 := Try.underlying85
  have hu37 := Try.underlying37
  have HS := Aside0.mk hs
  obtain ⟨h1, M, hm, hrd⟩ := hs
  obtain ⟨r1, r2, r3, r4⟩ := reads_all p hrd
  obtain ⟨q1, q2, q3, _⟩ := reads_all n hrd
  obtain ⟨A, c, e1, e2, e3⟩ := r2
  generalize hm0 : (setsL L p).length = m at e1 e2 e3
  obtain ⟨An, cn, f1, f2, f3⟩ := q2
  generalize hm1 : (setsL L n).length = mn at f1 f2 f3
  obtain ⟨pp, hpp⟩ : ∃ pp, pp = upL L p := ⟨_, rfl⟩
  obtain ⟨pn, hpn⟩ : ∃ pn, pn = upL L n := ⟨_, rfl⟩
  rw [← hpp] at r1
  rw [← hpn] at q1
  have HM := Aside0.mk hm
  have H1 := Aside0.mk h1
  have HRd := Aside0.mk hrd
  obtain ⟨tp, htp⟩ : ∃ tp, tp = (fnd L p).isSome := ⟨_, rfl⟩
  obtain ⟨tn, htn⟩ : ∃ tn, tn = (fnd L n).isSome := ⟨_, rfl⟩
  rw [← htp] at r3
  rw [← htn] at q3
  have HLp : Aside0 (∀ w', MapAt w' gm M → (Instr.lookup 75 (.map (some gm)) (.string p) true).run Try.prog w' = .ok (.tuple #[.agg #[.string pp, .slice A m c], .bool tp]) w') := ⟨fun w' hw' => by rw [look2 hw', r1, e1, r3]⟩
  have HLn : Aside0 (∀ w', MapAt w' gm M → (Instr.lookup 75 (.map (some gm)) (.string n) true).run Try.prog w' = .ok (.tuple #[.agg #[.string pn, .slice An mn cn], .bool tn]) w') := ⟨fun w' hw' => by rw [look2 hw', q1, f1, q3]⟩
  have HLen : Aside0 (∀ w', MapAt w' gm M → (Builtin.len_ #[75] 3 #[.map (some gm)]).run Try.prog w' = .ok (.int .i64 L.length) w') := ⟨fun w' hw' => by rw [← r4]; exact run_len hw'⟩
  clear h1 hm hrd r1 r3 r4 q1 q3 e1 e2 e3 f1 f2 f3 hpp hpn hm0 hm1
  obtain ⟨A0, c0, rfl, z2, z3⟩ := id hv
  clear z2 z3
  have HOwn := Aside0.mk hv
  clear hv
  have hl64 : l.length ≤ 64 := settings_len he
  have HCl : Aside0 (∀ w', Sl w' (.slice A0 l.length c0) l → Calls Try.prog 44 #[.slice A0 l.length c0] w' fun x w'' => ∃ v', x = .returned v' ∧ Sl w'' v' l ∧ Below w'.heap.size w' w'') := ⟨fun w' h => clone_calls _ l w' h hl64⟩
  clear hl64
  have HSet : Aside0 (∀ w', Sl w' (.slice A0 l.length c0) l → Calls Try.prog 42 #[.slice A0 l.length c0] w' fun x w'' => x = .returned (.int .i64 0) ∧ Below w'.heap.size w' w'') := ⟨fun w' h => settings_calls ks _ l _ w' h he⟩
  have HAb : Aside0 (∀ w', Sheet w' gs gm L → Calls Try.prog 43 #[.pointer (some ⟨gs, 0, none⟩), .string n, .string p] w' fun x w'' => x = .returned (.bool false) ∧ w'' = w') := ⟨fun w' h => above_callsL gs gm L k n p false w' h hab⟩
  clear hab he
  rw [ht] at htn
  simp only [Option.isSome_none] at htn
  subst htn
  clear ht
  have cl : decide ((32 : Int) ≤ (L.length : Int)) = false := decide_eq_false (by omega)
  have cl2 : decide (32 ≤ L.length) = false := decide_eq_false (by omega)
  clear hlen
  have HN : Aside0 (∀ w', Calls Try.prog 41 #[.string n] w' fun x w'' => x = .returned (.bool true) ∧ Below w'.heap.size w' w'') := ⟨fun w' => name_calls kn n true w' hn⟩
  clear hn
  rw [hf] at htp
  subst htp
  clear hf
  have c1 := list_ne hp
  go_enter Try.func23, Try.ntmps23
  go_upto_region 6 with (first | (go_at_call 40; refine (none_calls gs gm _ H1.out).mono ?_; rintro x w7 ⟨rfl, hw⟩; rw [hw]; clear hw) | (go_at_call 41; refine (HN.out _).mono ?_; rintro x w8 ⟨rfl, hb⟩; have HB := Aside0.mk hb; have e0 := (blk_cell (blk_below H1.out hb) 0).trans rfl; have hlk := HLp.out w8 (HM.out.below hb); clear hb))
  have HB2 : Aside0 (Below w.heap.size w (w8.alloc (.cells #[.string pp, .slice A m c] 85))) := ⟨below_alloc HB.out _⟩
  clear HB e0 hlk
  have HB := HB2
  clear HB2
  generalize w8.alloc (.cells #[.string pp, .slice A m c] 85) = w9 at HB ⊢
  generalize w8.heap.size = g9
  go_upto_region 14 with (first | (go_at_call 42; refine (HSet.out _ (HOwn.out.below HB.out)).mono ?_; rintro x w10 ⟨rfl, hb⟩; have HBn := Aside0.mk (below_step HB.out hb); clear HB hb; have HB := HBn; clear HBn) | (go_at_call 43; refine (HAb.out _ (HS.out.below HB.out)).mono ?_; rintro x w11 ⟨rfl, hw⟩; rw [hw]; clear hw; have e0 := (blk_cell (blk_below H1.out HB.out) 0).trans rfl; have hlk := HLn.out _ (HM.out.below HB.out)))
  have HB2 : Aside0 (Below w.heap.size w (w10.alloc (.cells #[.string pn, .slice An mn cn] 85))) := ⟨below_alloc HB.out _⟩
  clear HB e0 hlk
  have HB := HB2
  clear HB2
  generalize w10.alloc (.cells #[.string pn, .slice An mn cn] 85) = w12 at HB ⊢
  generalize w10.heap.size = g12
  have e0 := (blk_cell (blk_below H1.out HB.out) 0).trans rfl
  have hle := HLen.out _ (HM.out.below HB.out)
  go_upto_region 16 with fail
  clear hle
  go_wp2
  refine start_ (n := 10) (S := fun w' => w'.cell? ⟨gs, 0, none⟩ = some (.map (some gm)) ∧ Below w.heap.size w w') (ds := [9]) #[false, false, false, false, false, false, false, false, false, false] (by kernel_rfl) rfl rfl ⟨(blk_cell (blk_below H1.out (below_drew1 HB.out)) 0).trans rfl, below_drew1 HB.out⟩ (fun hHeld => ?_)
  refine pure_ (i := 0) (N := some 64) (v := ?_) (a' := ?_) #[true, false, false, false, false, false, false, false, false, false] rfl rfl (by kernel_rfl) (fun _ _ _ h => h) (Or.inl ⟨by rfl, ?_⟩) ?_ ?_
  rotate_left
  · intro w'
    go_simp
    with_reducible rfl
  rotate_left
  · simp only [Act.put, List.setIfInBounds_toArray, List.set_cons_zero, List.set_cons_succ, i64_w, i32_w]
    rfl
  refine pure_ (i := 1) (N := some 65) (v := ?_) (a' := ?_) #[true, true, false, false, false, false, false, false, false, false] rfl rfl (by kernel_rfl) (fun _ _ _ h => h) (Or.inl ⟨by rfl, ?_⟩) ?_ ?_
  rotate_left
  · intro w'
    go_simp
    with_reducible rfl
  rotate_left
  · simp only [Act.put, List.setIfInBounds_toArray, List.set_cons_zero, List.set_cons_succ, i64_w, i32_w]
    rfl
  refine pure_ (i := 2) (N := some 66) (v := ?_) (a' := ?_) #[true, true, true, false, false, false, false, false, false, false] rfl rfl (by kernel_rfl) (fun _ _ _ h => h) (Or.inl ⟨by rfl, ?_⟩) ?_ ?_
  rotate_left
  · intro w'
    go_simp
    with_reducible rfl
  rotate_left
  · simp only [Act.put, List.setIfInBounds_toArray, List.set_cons_zero, List.set_cons_succ, i64_w, i32_w]
    rfl
  refine pure_ (i := 4) (N := some 68) (v := ?_) (a' := ?_) #[true, true, true, false, true, false, false, false, false, false] rfl rfl (by kernel_rfl) (fun _ _ _ h => h) (Or.inl ⟨by rfl, ?_⟩) ?_ ?_
  rotate_left
  · intro w'
    go_simp
    with_reducible rfl
  rotate_left
  · simp only [Act.put, List.setIfInBounds_toArray, List.set_cons_zero, List.set_cons_succ, i64_w, i32_w]
    rfl
  refine pure_ (i := 5) (N := some 69) (v := ?_) (a' := ?_) #[true, true, true, false, true, true, false, false, false, false] rfl rfl (by kernel_rfl) (fun _ _ _ h => h) (Or.inl ⟨by rfl, ?_⟩) ?_ ?_
  rotate_left
  · intro w'
    go_simp
    with_reducible rfl
  rotate_left
  · simp only [Act.put, List.setIfInBounds_toArray, List.set_cons_zero, List.set_cons_succ, i64_w, i32_w]
    rfl
  refine pure_ (i := 6) (N := some 70) (v := ?_) (a' := ?_) #[true, true, true, false, true, true, true, false, false, false] rfl rfl (by kernel_rfl) (fun _ _ _ h => h) (Or.inl ⟨by rfl, ?_⟩) ?_ ?_
  rotate_left
  · intro w'
    go_simp
    with_reducible rfl
  rotate_left
  · simp only [Act.put, List.setIfInBounds_toArray, List.set_cons_zero, List.set_cons_succ, i64_w, i32_w]
    rfl
  refine take_ (i := 3) (N := some 67) (v := ?_) (a' := ?_) #[true, true, true, true, true, true, true, false, false, false] rfl rfl (by kernel_rfl) (fun _ _ _ h => h) (Or.inl ⟨by rfl, ?_⟩) hHeld ?_ ?_
  rotate_left
  · rintro w' ⟨s0, s1⟩
    go_simp
    with_reducible rfl
  rotate_left
  · simp only [Act.put, List.setIfInBounds_toArray, List.set_cons_zero, List.set_cons_succ, i64_w, i32_w]
    rfl
  refine one_ (i := 7) (N := some 71) #[true, true, true, true, true, true, true, true, false, false] rfl rfl (by kernel_rfl) (by decide) (fun K hK => ?_)
  refine goes_ Try.func44 (by kernel_rfl) rfl #[.slice A0 l.length c0] (by rfl) rfl rfl (by (simp only [List.map_toArray, List.map_cons, List.map_nil]); first | done | rfl) ?_
  with_reducible refine (HCl.out _ (HOwn.out.below hHeld.2)).mono ?_
  rintro x w13 ⟨v2, rfl, ⟨A2, c2, rfl, z2, z3⟩, hb13⟩
  refine ⟨_, rfl, ?_⟩
  refine hK.out _ _ ⟨(blk_cell (blk_below H1.out (below_step hHeld.2 hb13)) 0).trans rfl, below_step hHeld.2 hb13⟩ (fun hHeld => ?_)
  clear hK K
  refine norm_ (a' := ?_) ?_ ?_
  rotate_left
  · show Act.put _ (some 71) _ = _
    simp only [Act.put, List.setIfInBounds_toArray, List.set_cons_zero, List.set_cons_succ, i64_w, i32_w]
    rfl
  refine pure_ (i := 8) (N := some 72) (v := ?_) (a' := ?_) #[true, true, true, true, true, true, true, true, true, false] rfl rfl (by kernel_rfl) (fun _ _ _ h => h) (Or.inl ⟨by rfl, ?_⟩) ?_ ?_
  rotate_left
  · intro w'
    go_simp
    with_reducible rfl
  rotate_left
  · simp only [Act.put, List.setIfInBounds_toArray, List.set_cons_zero, List.set_cons_succ, i64_w, i32_w]
    rfl
  refine last_ (i := 9) (N := none) #[true, true, true, true, true, true, true, true, true, true] rfl rfl (by kernel_rfl) (by decide) (fun K hK => ?_)
  obtain ⟨o, hup, hat⟩ := run_update (HM.out.below hHeld.2) n p (.slice A2 l.length c2)
  have HAt := Aside0.mk hat
  have HBz := Aside0.mk hHeld.2
  have HSlz : Aside0 (Sl _ (.slice A2 l.length c2) l) := ⟨⟨A2, c2, rfl, z2, z3⟩⟩
  clear hat z2 z3
  refine skip_ (w1 := ?_) (by rfl) rfl ?_ ?_
  rotate_left
  · go_simp
    rfl
  refine hK.out _ _ ?_
  clear hK K
  refine done_ (by kernel_rfl) ?_
  clear hHeld
  have HG := Aside0.mk (grown_put (gm := gm) HBz.out o)
  have HSh := Aside0.mk (sheet_put (blk_below H1.out HBz.out) (HM.out.below HBz.out) (HRd.out.imp (fun _ _ h => h.below HBz.out)) HSlz.out HAt.out)
  go_wp2
  go_ret
  exact ⟨rfl, HSh.out, HG.out⟩
end Go.Proofs.Ytpcpjlbfhbicaaa.Sh
end
section
set_option linter.unusedVariables false
set_option linter.unusedSimpArgs false
namespace Go.Proofs.Ytpcpjlbfhbicaaa.Sh
open Go Go.RowKit Go.Proofs.YtpcpjlbfhbicaaaW.PrintWords Go.Proofs.YtpcpjlbfhbicaaaW.PrintLast Go.Proofs.YtpcpjlbfhbicaaaW.PrintMore Go.Proofs.Ytpcpjlbfhbicaaa.PStyleProps
open Go.Proofs.Ytpcpjlbfhbicaaa.PStyleNearest (S37 k37 z37 rd_T37 at_T37 k37_open k37_openM k37_mk k37_mkM info37)
theorem fnd_put (n p : ByteArray) (l : List S37) (m : ByteArray) : ∀ L : List Sty, fnd (putL L n p l) m = if m = n then some (n, p, l) else fnd L m
  | [] => by
    by_cases c : m = n
    · rw [if_pos c]; simp only [putL, fnd, List.find?_cons, c, ba_refl]
    · rw [if_neg c]; simp only [putL, fnd, List.find?_cons, ba_ne c, List.find?_nil]
  | s :: L => by
    have ih := fnd_put n p l m L
    simp only [putL]
    cases h : (n == s.1) with
    | true =>
      have hn := ba_eq h
      simp only [if_true]
      by_cases c : m = n
      · rw [if_pos c]; simp only [fnd, List.find?_cons, c, ba_refl]
      · rw [if_neg c]; simp only [fnd, List.find?_cons, ba_ne c, ← hn]
    | false =>
      simp only [Bool.false_eq_true, if_false]
      by_cases c : m = n
      · rw [if_pos c] at ih ⊢
        subst c
        simp only [fnd, List.find?_cons, h] at ih ⊢
        exact ih
      · rw [if_neg c] at ih ⊢
        simp only [fnd, List.find?_cons] at ih ⊢
        cases m == s.1 with
        | true => rfl
        | false => exact ih
theorem upL_put (L : List Sty) (n p : ByteArray) (l : List S37) (m : ByteArray) : upL (putL L n p l) m = if m = n then p else upL L m := by
  unfold upL; rw [fnd_put]; split <;> rfl
theorem len_put_new (n p : ByteArray) (l : List S37) : ∀ L : List Sty, fnd L n = none → (putL L n p l).length = L.length + 1
  | [], _ => rfl
  | s :: L, h => by
    cases c : (n == s.1) with
    | true => simp only [fnd, List.find?_cons, c] at h; cases h
    | false =>
      simp only [fnd, List.find?_cons, c] at h
      simp only [putL, c, Bool.false_eq_true, if_false, List.length_cons]
      rw [len_put_new n p l L h]
theorem len_put_there (n p : ByteArray) (l : List S37) : ∀ L : List Sty, (fnd L n).isSome = true → (putL L n p l).length = L.length
  | [], h => by cases h
  | s :: L, h => by
    cases c : (n == s.1) with
    | true => simp only [putL, c, if_true, List.length_cons]
    | false =>
      simp only [fnd, List.find?_cons, c] at h
      simp only [putL, c, Bool.false_eq_true, if_false, List.length_cons]
      rw [len_put_there n p l L h]
theorem mem_put {n p : ByteArray} {l : List S37} {s : Sty} : ∀ {L : List Sty}, s ∈ putL L n p l → s = (n, p, l) ∨ s ∈ L
  | [], h => by simp only [putL, List.mem_singleton] at h; exact .inl h
  | t :: L, h => by
    simp only [putL] at h
    cases c : (n == t.1) with
    | true =>
      rw [c] at h
      rcases List.mem_cons.1 h with h | h
      · exact .inl h
      · exact .inr (List.mem_cons_of_mem _ h)
    | false =>
      rw [c] at h
      simp only [Bool.false_eq_true, if_false] at h
      rcases List.mem_cons.1 h with h | h
      · exact .inr (h ▸ List.mem_cons_self)
      · rcases mem_put h with h | h
        · exact .inl h
        · exact .inr (List.mem_cons_of_mem _ h)
theorem Fits.put {L : List Sty} (h : Fits L) {n p : ByteArray} {l : List S37} (hl : fitsAll l) : Fits (putL L n p l) := by
  intro s hs
  rcases mem_put hs with rfl | hs
  · exact hl
  · exact h s hs
def endsIn (u : ByteArray → ByteArray) : Nat → ByteArray → Prop
  | 0, n => n = ⟨#[]⟩
  | k + 1, n => n = ⟨#[]⟩ ∨ endsIn u k (u n)
def Ends (u : ByteArray → ByteArray) : Prop := ∀ n, ∃ k, endsIn u k n
theorem above_total (u : ByteArray → ByteArray) (who : ByteArray) : ∀ (k : Nat) (n : ByteArray), endsIn u k n → ∃ b, aboveG u who (k + 1) n = some b
  | 0, n, h => ⟨false, by simp only [aboveG]; rw [if_pos (show n = ⟨#[]⟩ from h)]⟩
  | k + 1, n, h => by
    by_cases c : n = ⟨#[]⟩
    · exact ⟨false, by rw [aboveG, if_pos c]⟩
    · rcases h with h | h
      · exact absurd h c
      · by_cases c2 : n = who
        · exact ⟨true, by rw [aboveG, if_neg c, if_pos c2]⟩
        · obtain ⟨b, hb⟩ := above_total u who k _ h
          exact ⟨b, by rw [aboveG, if_neg c, if_neg c2]; exact hb⟩
theorem Ends.above {u : ByteArray → ByteArray} (h : Ends u) (who n : ByteArray) : ∃ k b, aboveG u who k n = some b := by
  obtain ⟨k, hk⟩ := h n
  obtain ⟨b, hb⟩ := above_total u who k n hk
  exact ⟨_, b, hb⟩
theorem makes_total (L : List Sty) : ∀ (k : Nat) (n : ByteArray), endsIn (upL L) k n → ∃ f, makesF L (k + 1) n = some f
  | 0, n, h => ⟨base, by simp only [makesF]; rw [if_pos (show n = ⟨#[]⟩ from h)]⟩
  | k + 1, n, h => by
    by_cases c : n = ⟨#[]⟩
    · exact ⟨base, by rw [makesF, if_pos c]⟩
    · rcases h with h | h
      · exact absurd h c
      · obtain ⟨f, hf⟩ := makes_total L k _ h
        exact ⟨_, by rw [makesF, if_neg c, hf]; rfl⟩
theorem ends_above {u u' : ByteArray → ByteArray} {n : ByteArray} (hu : ∀ m, m ≠ n → u' m = u m) : ∀ (k : Nat) (p : ByteArray), aboveG u n k p = some false → endsIn u' k p
  | 0, _, h => by cases h
  | k + 1, p, h => by
    simp only [aboveG] at h
    by_cases c : p = ⟨#[]⟩
    · exact .inl c
    · rw [if_neg c] at h
      by_cases c2 : p = n
      · rw [if_pos c2] at h; cases h
      · rw [if_neg c2] at h
        exact .inr (by rw [hu p c2]; exact ends_above hu k _ h)
theorem Ends.put {L : List Sty} (h : Ends (upL L)) {n p : ByteArray} {l : List S37} {k : Nat} (ha : aboveG (upL L) n k p = some false) : Ends (upL (putL L n p l)) := by
  have hu : ∀ m, m ≠ n → upL (putL L n p l) m = upL L m := fun m hm => by rw [upL_put, if_neg hm]
  have hp := ends_above hu k p ha
  have key : ∀ (j : Nat) (m : ByteArray), endsIn (upL L) j m → ∃ i, endsIn (upL (putL L n p l)) i m := by
    intro j
    induction j with
    | zero => exact fun m hm => ⟨0, hm⟩
    | succ j ih =>
      intro m hm
      by_cases c : m = ⟨#[]⟩
      · exact ⟨0, c⟩
      · by_cases c2 : m = n
        · exact ⟨k + 1, .inr (by rw [upL_put, if_pos c2]; exact hp)⟩
        · rcases hm with hm | hm
          · exact absurd hm c
          · obtain ⟨i, hi⟩ := ih _ hm
            exact ⟨i + 1, .inr (by rw [hu m c2]; exact hi)⟩
  intro m
  obtain ⟨j, hj⟩ := h m
  exact key j m hj
theorem Ends.nil : Ends (upL []) := fun n => ⟨1, .inr rfl⟩
theorem Fits.nil : Fits [] := fun s hs => by cases hs
def defE (nb : Bool) (e : Int) (ab : Bool) (L : List Sty) (n p : ByteArray) : Int :=
  if nb = false then 4 else if p ≠ ⟨#[]⟩ ∧ fnd L p = none then 6 else if e ≠ 0 then e else if ab = true then 10 else if fnd L n = none ∧ 32 ≤ L.length then 8 else 0
def defL (nb : Bool) (e : Int) (ab : Bool) (L : List Sty) (n p : ByteArray) (l : List S37) : List Sty := if defE nb e ab L n p = 0 then putL L n p l else L
theorem define_calls (gs gm : Nat) (L : List Sty) (n p : ByteArray) (v : Value) (l : List S37) (w : World) (hs : Sheet w gs gm L) (hv : Sl w v l) (kn ks k : Nat) (nb : Bool) (e : Int) (ab : Bool)
    (hn : PStyleNearest.style_name.f kn n = some nb) (he : PStyleNearest.style_settings.f ks l = some e) (hab : aboveG (upL L) n k p = some ab) :
    Calls Try.prog 23 #[.pointer (some ⟨gs, 0, none⟩), .string n, .string p, v] w fun x w' => x = .returned (.int .i64 (defE nb e ab L n p)) ∧ Sheet w' gs gm (defL nb e ab L n p l) ∧ w.grownBy w' (some gm) := by
  have no : ∀ (r : Int), r ≠ 0 → defE nb e ab L n p = r → (Calls Try.prog 23 #[.pointer (some ⟨gs, 0, none⟩), .string n, .string p, v] w fun x w' => x = .returned (.int .i64 r) ∧ Below w.heap.size w w') →
      Calls Try.prog 23 #[.pointer (some ⟨gs, 0, none⟩), .string n, .string p, v] w fun x w' => x = .returned (.int .i64 (defE nb e ab L n p)) ∧ Sheet w' gs gm (defL nb e ab L n p l) ∧ w.grownBy w' (some gm) := by
    intro r hr hd hc
    refine hc.mono ?_
    rintro x w' ⟨rfl, hb⟩
    exact ⟨by rw [hd], by unfold defL; rw [if_neg (by rw [hd]; exact hr)]; exact hs.below hb, grown_of_below hb _⟩
  by_cases c0 : nb = false
  · subst c0
    exact no 4 (by decide) (by unfold defE; rw [if_pos rfl]) (define_name gs gm L n p v l w hs hv kn hn)
  · have c0' : nb = true := by simpa using c0
    subst c0'
    by_cases c1 : p ≠ ⟨#[]⟩ ∧ fnd L p = none
    · exact no 6 (by decide) (by unfold defE; rw [if_neg c0, if_pos c1]) (define_miss gs gm L n p v l w hs hv kn hn c1.1 c1.2)
    · have hp : p = ⟨#[]⟩ ∨ (p ≠ ⟨#[]⟩ ∧ (fnd L p).isSome = true) := by
        by_cases q : p = ⟨#[]⟩
        · exact .inl q
        · refine .inr ⟨q, ?_⟩
          cases hf : fnd L p with
          | none => exact absurd ⟨q, hf⟩ c1
          | some s => rfl
      by_cases c2 : e ≠ 0
      · refine no e c2 (by unfold defE; rw [if_neg c0, if_neg c1, if_pos c2]) ?_
        rcases hp with hp | ⟨hp, hf⟩
        · exact define_set0 gs gm L n p v l w hs hv kn hn ks e he c2 hp
        · exact define_set1 gs gm L n p v l w hs hv kn hn ks e he c2 hp hf
      · have c2' : e = 0 := by omega
        subst c2'
        by_cases c3 : ab = true
        · subst c3
          refine no 10 (by decide) (by unfold defE; rw [if_neg c0, if_neg c1, if_neg c2, if_pos rfl]) ?_
          rcases hp with hp | ⟨hp, hf⟩
          · exact define_loop0 gs gm L n p v l w hs hv kn hn ks k he hab hp
          · exact define_loop1 gs gm L n p v l w hs hv kn hn ks k he hab hp hf
        · have c3' : ab = false := by simpa using c3
          subst c3'
          by_cases c4 : fnd L n = none ∧ 32 ≤ L.length
          · refine no 8 (by decide) (by unfold defE; rw [if_neg c0, if_neg c1, if_neg c2, if_neg c3, if_pos c4]) ?_
            rcases hp with hp | ⟨hp, hf⟩
            · exact define_full0 gs gm L n p v l w hs hv kn hn ks k he hab c4.1 c4.2 hp
            · exact define_full1 gs gm L n p v l w hs hv kn hn ks k he hab c4.1 c4.2 hp hf
          · have hd : defE true 0 false L n p = 0 := by unfold defE; rw [if_neg c0, if_neg c1, if_neg c2, if_neg c3, if_neg c4]
            have hL : defL true 0 false L n p l = putL L n p l := by unfold defL; rw [if_pos hd]
            rw [hd, hL]
            cases ht : fnd L n with
            | none =>
              have hlen : L.length < 32 := by
                rcases Nat.lt_or_ge L.length 32 with h | h
                · exact h
                · exact absurd ⟨ht, h⟩ c4
              rcases hp with hp | ⟨hp, hf⟩
              · exact define_new0 gs gm L n p v l w hs hv kn hn ks k he hab ht hlen hp
              · exact define_new1 gs gm L n p v l w hs hv kn hn ks k he hab ht hlen hp hf
            | some s =>
              have ht' : (fnd L n).isSome = true := by rw [ht]; rfl
              rcases hp with hp | ⟨hp, hf⟩
              · exact define_there0 gs gm L n p v l w hs hv kn hn ks k he hab ht' hp
              · exact define_there1 gs gm L n p v l w hs hv kn hn ks k he hab ht' hp hf
/-- What Resolve answers: the 17 values, and the number. -/
def resE (e : Int) (L : List Sty) (n : ByteArray) : Int := if n ≠ ⟨#[]⟩ ∧ fnd L n = none then 6 else e
def resF (e : Int) (f : Int → Int) (L : List Sty) (n : ByteArray) (own : List S37) : Int → Int := if resE e L n = 0 then withF f own else zero
theorem resolve_calls (gs gm : Nat) (L : List Sty) (n : ByteArray) (v : Value) (own : List S37) (w : World) (hs : Sheet w gs gm L) (hv : Sl w v own) (ks k : Nat) (e : Int) (f : Int → Int) (hfit : Fits L)
    (he : PStyleNearest.style_settings.f ks own = some e) (hown : e = 0 → fitsAll own) (hmk : makesF L k n = some f) :
    Calls Try.prog 24 #[.pointer (some ⟨gs, 0, none⟩), .string n, v] w fun x w' => x = .returned (.tuple #[.agg (row (resF e f L n own)), .int .i64 (resE e L n)]) ∧ Below w.heap.size w w' := by
  by_cases c1 : n ≠ ⟨#[]⟩ ∧ fnd L n = none
  · have h1 : resE e L n = 6 := by unfold resE; rw [if_pos c1]
    have h2 : resF e f L n own = zero := by unfold resF; rw [if_neg (by rw [h1]; decide)]
    rw [h1, h2]
    exact resolve_miss gs gm L n v own w hs hv c1.1 c1.2
  · have h1 : resE e L n = e := by unfold resE; rw [if_neg c1]
    have hp : n = ⟨#[]⟩ ∨ (n ≠ ⟨#[]⟩ ∧ (fnd L n).isSome = true) := by
      by_cases q : n = ⟨#[]⟩
      · exact .inl q
      · refine .inr ⟨q, ?_⟩
        cases hf : fnd L n with
        | none => exact absurd ⟨q, hf⟩ c1
        | some s => rfl
    by_cases c2 : e ≠ 0
    · have h2 : resF e f L n own = zero := by unfold resF; rw [if_neg (by rw [h1]; exact c2)]
      rw [h1, h2]
      rcases hp with hp | ⟨hp, hf⟩
      · exact resolve_wrong0 gs gm L n v own w hs hv ks e he c2 hp
      · exact resolve_wrong1 gs gm L n v own w hs hv ks e he c2 hp hf
    · have c2' : e = 0 := by omega
      subst c2'
      have h2 : resF 0 f L n own = withF f own := by unfold resF; rw [if_pos h1]
      rw [h1, h2]
      rcases hp with hp | ⟨hp, hf⟩
      · exact resolve_fine0 gs gm L n v own w hs hv ks k f hfit he (hown rfl) hmk hp
      · exact resolve_fine1 gs gm L n v own w hs hv ks k f hfit he (hown rfl) hmk hp hf
end Go.Proofs.Ytpcpjlbfhbicaaa.Sh
end
section
set_option linter.unusedVariables false
set_option linter.unusedSimpArgs false
namespace Go.Proofs.Ytpcpjlbfhbicaaa.Sh
open Go Go.RowKit Go.Proofs.YtpcpjlbfhbicaaaW.PrintWords Go.Proofs.YtpcpjlbfhbicaaaW.PrintLast Go.Proofs.YtpcpjlbfhbicaaaW.PrintMore Go.Proofs.Ytpcpjlbfhbicaaa.PStyleProps
open Go.Proofs.Ytpcpjlbfhbicaaa.PStyleNearest (S37 k37 z37 rd_T37 at_T37 k37_open k37_openM k37_mk k37_mkM info37)
theorem fits_same : PStyleNearest.style_fits.f = PStyleProps.style_fits.f := rfl
def allFit (l : List S37) : Bool := l.all fun s => fitB s.f0 s.f1
theorem allFit_iff {l : List S37} : allFit l = true ↔ fitsAll l := by simp [allFit, fitsAll]
def setE (l : List S37) : Int := if l.length > 64 then 3 else if allFit l = true then 0 else 2
theorem fits_more (n v : Int) : ∀ j, PStyleNearest.style_fits.f (20 + j) n v = some (fitB n v)
  | 0 => by rw [fits_same]; exact fits_f n v
  | j + 1 => PStyleNearest.style_fits.mono n v (20 + j) _ (fits_more n v j)
theorem settings_loop (l : List S37) (hl : l.length ≤ 64) : ∀ (d i : Nat), i + d = l.length → PStyleNearest.style_settings.l0 (21 + d) l (l.length : Int) (i : Int) = some (if allFit (l.drop i) = true then 0 else 2)
  | 0, i, h => by
    have : l.drop i = [] := List.drop_eq_nil_of_le (by omega)
    rw [show 21 + 0 = 20 + 1 from rfl, PStyleNearest.style_settings.l0, if_neg (by omega), this]
    rfl
  | d + 1, i, h => by
    have hg : l[i]? = some (rd_T37 l i) := by
      unfold rd_T37
      rw [List.getD_eq_getElem?_getD, Int.toNat_natCast, List.getElem?_eq_getElem (by omega)]
      rfl
    have hdrop : l.drop i = rd_T37 l i :: l.drop (i + 1) := by
      rw [List.drop_eq_getElem_cons (by omega)]
      rw [List.getElem?_eq_getElem (by omega)] at hg
      injection hg with hg
      rw [hg]
    have ih := settings_loop l hl d (i + 1) (by omega)
    rw [show 21 + (d + 1) = (21 + d) + 1 from rfl, PStyleNearest.style_settings.l0, if_pos (by omega), if_pos (by omega), if_pos (by omega)]
    have e : allFit (l.drop i) = (fitB (rd_T37 l i).f0 (rd_T37 l i).f1 && allFit (l.drop (i + 1))) := by rw [hdrop]; rfl
    rw [show 21 + d = 20 + (d + 1) by omega, fits_more, e]
    rw [Option.bind_some, show wrap64 ((i : Int) + 1) = ((i + 1 : Nat) : Int) by (unfold wrap64; omega), show 20 + (d + 1) = 21 + d by omega, ih]
    generalize fitB (rd_T37 l i).f0 (rd_T37 l i).f1 = x
    cases x
    · rfl
    · rw [Bool.true_and, if_pos rfl]
theorem settings_total (l : List S37) : ∃ ks, PStyleNearest.style_settings.f ks l = some (setE l) := by
  refine ⟨21 + l.length, ?_⟩
  unfold PStyleNearest.style_settings.f setE
  by_cases c : l.length > 64
  · rw [if_pos (by omega), if_pos c]
  · rw [if_neg (by omega), if_neg c]
    have := settings_loop l (by omega) l.length 0 (by omega)
    simpa using this
theorem setE_zero {l : List S37} (h : setE l = 0) : fitsAll l ∧ l.length ≤ 64 := by
  unfold setE at h
  split at h
  · cases h
  · split at h
    · exact ⟨allFit_iff.1 (by assumption), by omega⟩
    · cases h
/-- The example's two styles. -/
def la : List S37 := [⟨1, 12⟩, ⟨1, 14⟩]
def lb : List S37 := [⟨5, 5⟩]
def L2 : List Sty := [(⟨#[97]⟩, ⟨#[]⟩, la), (⟨#[98]⟩, ⟨#[97]⟩, lb)]
theorem sheet_new {w : World} {gs gm : Nat} (h1 : w.heap[gs]? = some (.cells #[.map (some gm)] 77 (0, 0))) (h2 : w.heap[gm]? = some (.map #[] 0)) : Sheet w gs gm [] := ⟨h1, [], ⟨#[], 0, h2, rfl, MapKept.stamped_empty 0⟩, trivial⟩
theorem sheet_lt {w : World} {gs gm : Nat} {L : List Sty} (h : Sheet w gs gm L) : gs < w.heap.size ∧ gm < w.heap.size := by
  obtain ⟨h1, M, h2, h3⟩ := h
  exact ⟨blk_lt h1, h2.lt⟩
end Go.Proofs.Ytpcpjlbfhbicaaa.Sh
end
section
set_option linter.unusedVariables false
set_option linter.unusedSimpArgs false
namespace Go.Proofs.Ytpcpjlbfhbicaaa.Sh
open Go Go.RowKit Go.Proofs.YtpcpjlbfhbicaaaW.PrintWords Go.Proofs.YtpcpjlbfhbicaaaW.PrintLast Go.Proofs.YtpcpjlbfhbicaaaW.PrintMore Go.Proofs.Ytpcpjlbfhbicaaa.PStyleProps
open Go.Proofs.Ytpcpjlbfhbicaaa.PStyleNearest (S37 k37 z37 rd_T37 at_T37 k37_open k37_openM k37_mk k37_mkM info37)
theorem name_loop (n : ByteArray) (hs : n.size ≤ 16) : ∀ (d i : Nat), i + d = n.size → ∃ b, PStyleNearest.style_name.l0 (d + 1) n (n.size : Int) (i : Int) = some b
  | 0, i, h => ⟨true, by rw [PStyleNearest.style_name.l0, if_neg (by omega)]⟩
  | d + 1, i, h => by
    obtain ⟨b, ih⟩ := name_loop n hs d (i + 1) (by omega)
    rw [PStyleNearest.style_name.l0, if_pos (by omega), if_pos (by omega), if_pos (by omega), show wrap64 ((i : Int) + 1) = ((i + 1 : Nat) : Int) by (unfold wrap64; omega), ih]
    repeat' split
    all_goals exact ⟨_, rfl⟩
theorem name_total (n : ByteArray) : ∃ kn nb, PStyleNearest.style_name.f kn n = some nb := by
  by_cases c : (n.size : Int) < 1
  · exact ⟨1, false, by unfold PStyleNearest.style_name.f; rw [if_pos c]; rfl⟩
  · by_cases c2 : (n.size : Int) > 16
    · exact ⟨1, false, by unfold PStyleNearest.style_name.f; rw [if_neg c, decide_eq_true c2]; rfl⟩
    · obtain ⟨b, hb⟩ := name_loop n (by omega) n.size 0 (by omega)
      exact ⟨n.size + 1 + 1, b, by unfold PStyleNearest.style_name.f; rw [if_neg c, decide_eq_false c2, PStyleNearest.style_name.j0, if_neg (by decide)]; exact hb⟩
theorem name_fine {kn : Nat} {n : ByteArray} (h : PStyleNearest.style_name.f kn n = some true) : n ≠ ⟨#[]⟩ ∧ n.size ≤ 16 := by
  unfold PStyleNearest.style_name.f at h
  have no : PStyleNearest.style_name.j0 kn n true ≠ some true := by
    cases kn with
    | zero => simp [PStyleNearest.style_name.j0]
    | succ k => rw [PStyleNearest.style_name.j0, if_pos rfl]; decide
  by_cases c : (n.size : Int) < 1
  · rw [if_pos c] at h; exact absurd h no
  · rw [if_neg c] at h
    by_cases c2 : (n.size : Int) > 16
    · rw [decide_eq_true c2] at h; exact absurd h no
    · refine ⟨fun e => ?_, by omega⟩
      subst e
      exact c (by decide)
/-- What a sheet's styles keep, whatever is defined. -/
structure LI (L : List Sty) : Prop where
  fits : Fits L
  ends : Ends (upL L)
  len : L.length ≤ 32
  names : ∀ s ∈ L, s.1 ≠ ⟨#[]⟩ ∧ s.1.size ≤ 16
  par : ∀ s ∈ L, s.2.1 = ⟨#[]⟩ ∨ (fnd L s.2.1).isSome = true
theorem LI.nil : LI [] := ⟨Fits.nil, Ends.nil, Nat.zero_le _, fun s hs => (by cases hs), fun s hs => (by cases hs)⟩
theorem defE_none {nb : Bool} {e : Int} {ab : Bool} {L : List Sty} {n p : ByteArray} (h : defE nb e ab L n p = 0) : nb = true ∧ (p = ⟨#[]⟩ ∨ (fnd L p).isSome = true) ∧ e = 0 ∧ ab = false ∧ ((fnd L n).isSome = true ∨ L.length < 32) := by
  unfold defE at h
  by_cases c0 : nb = false
  · rw [if_pos c0] at h; cases h
  rw [if_neg c0] at h
  by_cases c1 : p ≠ ⟨#[]⟩ ∧ fnd L p = none
  · rw [if_pos c1] at h; cases h
  rw [if_neg c1] at h
  by_cases c2 : e ≠ 0
  · rw [if_pos c2] at h; exact absurd h c2
  rw [if_neg c2] at h
  by_cases c3 : ab = true
  · rw [if_pos c3] at h; cases h
  rw [if_neg c3] at h
  by_cases c4 : fnd L n = none ∧ 32 ≤ L.length
  · rw [if_pos c4] at h; cases h
  refine ⟨by simpa using c0, ?_, by omega, by simpa using c3, ?_⟩
  · by_cases q : p = ⟨#[]⟩
    · exact .inl q
    · right
      cases hf : fnd L p with
      | none => exact absurd ⟨q, hf⟩ c1
      | some s => rfl
  · cases hf : fnd L n with
    | some s => exact .inl rfl
    | none => exact .inr (by rcases Nat.lt_or_ge L.length 32 with q | q; exact q; exact absurd ⟨hf, q⟩ c4)
theorem fnd_put_some {L : List Sty} {n p m : ByteArray} {l : List S37} (h : (fnd L m).isSome = true) : (fnd (putL L n p l) m).isSome = true := by
  rw [fnd_put]; split
  · rfl
  · exact h
theorem LI.put {L : List Sty} (h : LI L) {n p : ByteArray} {l : List S37} {k : Nat} (hn : n ≠ ⟨#[]⟩ ∧ n.size ≤ 16) (hl : fitsAll l) (ha : aboveG (upL L) n k p = some false) (hp : p = ⟨#[]⟩ ∨ (fnd L p).isSome = true) (hr : (fnd L n).isSome = true ∨ L.length < 32) : LI (putL L n p l) where
  fits := h.fits.put hl
  ends := h.ends.put ha
  len := by
    cases hf : fnd L n with
    | none =>
      rw [len_put_new n p l L hf]
      rcases hr with q | q
      · rw [hf] at q; cases q
      · omega
    | some s => rw [len_put_there n p l L (by rw [hf]; rfl)]; exact h.len
  names := fun s hs => by
    rcases mem_put hs with rfl | hs
    · exact hn
    · exact h.names s hs
  par := fun s hs => by
    rcases mem_put hs with rfl | hs
    · exact hp.imp id fnd_put_some
    · exact (h.par s hs).imp id fnd_put_some
theorem LI.def {L : List Sty} (h : LI L) {kn k : Nat} {nb ab : Bool} {n p : ByteArray} {l : List S37} (hn : PStyleNearest.style_name.f kn n = some nb) (ha : aboveG (upL L) n k p = some ab) : LI (defL nb (setE l) ab L n p l) := by
  unfold defL
  by_cases c : defE nb (setE l) ab L n p = 0
  · rw [if_pos c]
    obtain ⟨rfl, hp, he, rfl, hr⟩ := defE_none c
    exact h.put (name_fine hn) (setE_zero he).1 ha hp hr
  · rw [if_neg c]; exact h
theorem fnd_mem {L : List Sty} {n : ByteArray} (h : (fnd L n).isSome = true) : n ∈ L.map (·.1) := by
  cases hf : fnd L n with
  | none => rw [hf] at h; cases h
  | some s =>
    have h1 := List.mem_of_find?_eq_some hf
    have h2 := List.find?_some hf
    exact List.mem_map.2 ⟨s, h1, (ba_eq h2).symm⟩
theorem mem_fnd {L : List Sty} {n : ByteArray} (h : n ∈ L.map (·.1)) : (fnd L n).isSome = true := by
  obtain ⟨s, hs, rfl⟩ := List.mem_map.1 h
  unfold fnd
  rw [List.find?_isSome]
  exact ⟨s, hs, ba_refl _⟩
theorem LI.up {L : List Sty} (h : LI L) {n : ByteArray} (hn : (fnd L n).isSome = true) : upL L n = ⟨#[]⟩ ∨ (fnd L (upL L n)).isSome = true := by
  unfold upL
  cases hf : fnd L n with
  | none => rw [hf] at hn; cases hn
  | some s => exact h.par s (List.mem_of_find?_eq_some hf)
def iter (u : ByteArray → ByteArray) : Nat → ByteArray → ByteArray
  | 0, n => n
  | k + 1, n => iter u k (u n)
theorem iter_succ (u : ByteArray → ByteArray) : ∀ (k : Nat) (n : ByteArray), iter u (k + 1) n = u (iter u k n)
  | 0, _ => rfl
  | k + 1, n => iter_succ u k (u n)
theorem iter_add (u : ByteArray → ByteArray) : ∀ (i j : Nat) (n : ByteArray), iter u (i + j) n = iter u i (iter u j n)
  | i, 0, n => rfl
  | i, j + 1, n => iter_add u i j (u n)
theorem ends_iter {u : ByteArray → ByteArray} : ∀ (k : Nat) (n : ByteArray), endsIn u k n → ∃ j, j ≤ k ∧ iter u j n = ⟨#[]⟩
  | 0, n, h => ⟨0, Nat.le_refl _, h⟩
  | k + 1, n, h => by
    rcases h with h | h
    · exact ⟨0, Nat.zero_le _, h⟩
    · obtain ⟨j, h1, h2⟩ := ends_iter k _ h
      exact ⟨j + 1, by omega, h2⟩
theorem iter_round {u : ByteArray → ByteArray} {p : Nat} {n : ByteArray} (h : iter u (p + 1) n = n) (h0 : ∀ i, i ≤ p → iter u i n ≠ ⟨#[]⟩) : ∀ (b j : Nat), j ≤ b → iter u j n ≠ ⟨#[]⟩
  | 0, j, hj => h0 j (by omega)
  | b + 1, j, hj => by
    rcases Nat.lt_or_ge p j with c | c
    · obtain ⟨i, rfl⟩ : ∃ i, j = i + (p + 1) := ⟨j - (p + 1), by omega⟩
      rw [iter_add, h]
      exact iter_round h h0 b i (by omega)
    · exact h0 j c
def chain (u : ByteArray → ByteArray) : Nat → ByteArray → List ByteArray
  | 0, _ => []
  | k + 1, n => n :: chain u k (u n)
theorem chain_len (u : ByteArray → ByteArray) : ∀ (k : Nat) (n : ByteArray), (chain u k n).length = k
  | 0, _ => rfl
  | k + 1, n => by rw [chain, List.length_cons, chain_len u k]
theorem mem_chain {u : ByteArray → ByteArray} {x : ByteArray} : ∀ (k : Nat) (n : ByteArray), x ∈ chain u k n → ∃ j, j < k ∧ x = iter u j n
  | 0, _, h => by cases h
  | k + 1, n, h => by
    rcases List.mem_cons.1 h with rfl | h
    · exact ⟨0, Nat.succ_pos _, rfl⟩
    · obtain ⟨j, h1, h2⟩ := mem_chain k _ h
      exact ⟨j + 1, by omega, h2⟩
theorem chain_nodup {u : ByteArray → ByteArray} (he : Ends u) : ∀ (k : Nat) (n : ByteArray), (∀ j, j < k → iter u j n ≠ ⟨#[]⟩) → (chain u k n).Nodup
  | 0, _, _ => List.nodup_nil
  | k + 1, n, h => by
    refine List.nodup_cons.2 ⟨fun hm => ?_, chain_nodup he k (u n) (fun j hj => h (j + 1) (by omega))⟩
    obtain ⟨j, h1, h2⟩ := mem_chain k _ hm
    obtain ⟨m, hm'⟩ := he n
    obtain ⟨i, h3, h4⟩ := ends_iter m n hm'
    exact iter_round (p := j) (n := n) h2.symm (fun i hi => h i (by omega)) i i (Nat.le_refl _) h4
theorem nodup_len {α : Type} [DecidableEq α] : ∀ (l m : List α), l.Nodup → (∀ x, x ∈ l → x ∈ m) → l.length ≤ m.length
  | [], _, _, _ => Nat.zero_le _
  | a :: l, m, hn, hs => by
    obtain ⟨h1, h2⟩ := List.nodup_cons.1 hn
    have ha := hs a List.mem_cons_self
    have ih := nodup_len l (m.erase a) h2 (fun x hx => (List.mem_erase_of_ne (fun (e : x = a) => h1 (e ▸ hx))).2 (hs x (List.mem_cons_of_mem _ hx)))
    have hl := List.length_erase_of_mem ha
    have hp : 0 < m.length := List.length_pos_of_mem ha
    rw [List.length_cons]
    omega
theorem LI.in {L : List Sty} (h : LI L) {n : ByteArray} (hn : (fnd L n).isSome = true) : ∀ (s : Nat), (∀ j, j ≤ s → iter (upL L) j n ≠ ⟨#[]⟩) → (fnd L (iter (upL L) s n)).isSome = true
  | 0, _ => hn
  | s + 1, hj => by
    rw [iter_succ]
    have ih := h.in hn s (fun j hj' => hj j (by omega))
    rcases h.up ih with c | c
    · exact absurd (by rw [iter_succ]; exact c) (hj (s + 1) (Nat.le_refl _))
    · exact c
theorem LI.short {L : List Sty} (h : LI L) {n : ByteArray} (hn : (fnd L n).isSome = true) (s : Nat) (hs : ∀ j, j ≤ s → iter (upL L) j n ≠ ⟨#[]⟩) : s < L.length := by
  have h1 := chain_nodup h.ends (s + 1) n (fun j hj => hs j (by omega))
  have h2 := @nodup_len ByteArray (fun a b => Classical.propDecidable (a = b)) (chain (upL L) (s + 1) n) (L.map (·.1)) h1 (fun x hx => by
    obtain ⟨j, hj, rfl⟩ := mem_chain _ _ hx
    exact fnd_mem (h.in hn j (fun i hi => hs i (by omega))))
  rw [chain_len, List.length_map] at h2
  omega
/-- One definition: what it answers is let go; the sheet keeps what it keeps. -/
theorem LI.define (gs gm : Nat) (L : List Sty) (h : LI L) (n p : ByteArray) (v : Value) (l : List S37) (w : World) (hs : Sheet w gs gm L) (hv : Sl w v l) :
    Calls Try.prog 23 #[.pointer (some ⟨gs, 0, none⟩), .string n, .string p, v] w fun x w' => ∃ (e : Int) (L' : List Sty), x = .returned (.int .i64 e) ∧ LI L' ∧ Sheet w' gs gm L' ∧ w.grownBy w' (some gm) := by
  obtain ⟨kn, nb, hn⟩ := name_total n
  obtain ⟨ks, he⟩ := settings_total l
  obtain ⟨k, ab, hab⟩ := h.ends.above n p
  refine (define_calls gs gm L n p v l w hs hv kn ks k nb (setE l) ab hn he hab).mono ?_
  rintro x w' ⟨rfl, h1, h2⟩
  exact ⟨_, _, rfl, h.def hn hab, h1, h2⟩
end Go.Proofs.Ytpcpjlbfhbicaaa.Sh
end
