/- (*style.Sheet).Define over this program: its contracts, case by case. Conditions: the Sheet stands in memory, the settings' row reads, the chain of parents ends. -/
import Derived.Test.YtpcpjlbfhbicaaaShF
set_option linter.unusedVariables false
set_option linter.unusedSimpArgs false
namespace Go.Proofs.Ytpcpjlbfhbicaaa.Sh
open Go Go.RowKit Go.Proofs.YtpcpjlbfhbicaaaW.PrintWords Go.Proofs.YtpcpjlbfhbicaaaW.PrintLast Go.Proofs.YtpcpjlbfhbicaaaW.PrintMore Go.Proofs.Ytpcpjlbfhbicaaa.PStyleProps
open Go.Proofs.Ytpcpjlbfhbicaaa.PStyleNearest (S37 k37 z37 rd_T37 at_T37 k37_open k37_openM k37_mk k37_mkM info37)
theorem settings_len {ks : Nat} {l : List S37} (h : PStyleNearest.style_settings.f ks l = some 0) : l.length ≤ 64 := by
  unfold PStyleNearest.style_settings.f at h
  by_cases c : (l.length : Int) > 64
  · rw [if_pos c] at h; cases h
  · omega
set_option maxHeartbeats 4000000 in
set_option maxRecDepth 100000 in
theorem define_there0 (gs gm : Nat) (L : List Sty) (n p : ByteArray) (v : Value) (l : List S37) (w : World) (hs : Sheet w gs gm L) (hv : Sl w v l) (kn : Nat) (hn : PStyleNearest.style_name.f kn n = some true) (ks k : Nat) (he : PStyleNearest.style_settings.f ks l = some 0) (hab : aboveG (upL L) n k p = some false) (ht : (fnd L n).isSome = true) (hp : p = ⟨#[]⟩) :
    Calls Try.prog 23 #[.pointer (some ⟨gs, 0, none⟩), .string n, .string p, v] w fun x w' => x = .returned (.int .i64 0) ∧ Sheet w' gs gm (putL L n p l) ∧ w.grownBy w' (some gm) := by
  have hu := Try.underlying77
  have hu5 := Try.underlying75
  have hu8 := Try.underlying85
  have hu37 := Try.underlying37
  have HS := Aside0.mk hs
  obtain ⟨h1, M, hm, hrd⟩ := hs
  obtain ⟨r1, r2, r3, r4⟩ := reads_all p hrd
  obtain ⟨q1, q2, q3, _⟩ := reads_all n hrd
  obtain ⟨A, c, e1, e2, e3⟩ := r2
  generalize hm0 : (setsL L p).length = m at e1 e2 e3
  obtain ⟨An, cn, f1, f2, f3⟩ := q2
  generalize hm1 : (setsL L n).length = mn at f1 f2 f3
  obtain ⟨pp, hpp⟩ : ∃ pp, pp = upL L p := ⟨_, rfl⟩
  obtain ⟨pn, hpn⟩ : ∃ pn, pn = upL L n := ⟨_, rfl⟩
  rw [← hpp] at r1
  rw [← hpn] at q1
  have HM := Aside0.mk hm
  have H1 := Aside0.mk h1
  have HRd := Aside0.mk hrd
  obtain ⟨tp, htp⟩ : ∃ tp, tp = (fnd L p).isSome := ⟨_, rfl⟩
  obtain ⟨tn, htn⟩ : ∃ tn, tn = (fnd L n).isSome := ⟨_, rfl⟩
  rw [← htp] at r3
  rw [← htn] at q3
  have HLp : Aside0 (∀ w', MapAt w' gm M → (Instr.lookup 75 (.map (some gm)) (.string p) true).run Try.prog w' = .ok (.tuple #[.agg #[.string pp, .slice A m c], .bool tp]) w') := ⟨fun w' hw' => by rw [look2 hw', r1, e1, r3]⟩
  have HLn : Aside0 (∀ w', MapAt w' gm M → (Instr.lookup 75 (.map (some gm)) (.string n) true).run Try.prog w' = .ok (.tuple #[.agg #[.string pn, .slice An mn cn], .bool tn]) w') := ⟨fun w' hw' => by rw [look2 hw', q1, f1, q3]⟩
  have HLen : Aside0 (∀ w', MapAt w' gm M → (Builtin.len_ #[75] 3 #[.map (some gm)]).run Try.prog w' = .ok (.int .i64 L.length) w') := ⟨fun w' hw' => by rw [← r4]; exact run_len hw'⟩
  clear h1 hm hrd r1 r3 r4 q1 q3 e1 e2 e3 f1 f2 f3 hpp hpn hm0 hm1
  obtain ⟨A0, c0, rfl, z2, z3⟩ := id hv
  clear z2 z3
  have HOwn := Aside0.mk hv
  clear hv
  have hl64 : l.length ≤ 64 := settings_len he
  have HCl : Aside0 (∀ w', Sl w' (.slice A0 l.length c0) l → Calls Try.prog 44 #[.slice A0 l.length c0] w' fun x w'' => ∃ v', x = .returned v' ∧ Sl w'' v' l ∧ Below w'.heap.size w' w'') := ⟨fun w' h => clone_calls _ l w' h hl64⟩
  clear hl64
  have HSet : Aside0 (∀ w', Sl w' (.slice A0 l.length c0) l → Calls Try.prog 42 #[.slice A0 l.length c0] w' fun x w'' => x = .returned (.int .i64 0) ∧ Below w'.heap.size w' w'') := ⟨fun w' h => settings_calls ks _ l _ w' h he⟩
  have HAb : Aside0 (∀ w', Sheet w' gs gm L → Calls Try.prog 43 #[.pointer (some ⟨gs, 0, none⟩), .string n, .string p] w' fun x w'' => x = .returned (.bool false) ∧ w'' = w') := ⟨fun w' h => above_callsL gs gm L k n p false w' h hab⟩
  clear hab he
  rw [ht] at htn
  subst htn
  clear ht
  have HN : Aside0 (∀ w', Calls Try.prog 41 #[.string n] w' fun x w'' => x = .returned (.bool true) ∧ Below w'.heap.size w' w'') := ⟨fun w' => name_calls kn n true w' hn⟩
  clear hn
  clear htp
  subst hp
  go_enter Try.func23, Try.ntmps23
  go_upto_region 6 with (first | (go_at_call 40; refine (none_calls gs gm _ H1.out).mono ?_; rintro x w7 ⟨rfl, hw⟩; rw [hw]; clear hw) | (go_at_call 41; refine (HN.out _).mono ?_; rintro x w8 ⟨rfl, hb⟩; have HB := Aside0.mk hb; have e0 := (blk_cell (blk_below H1.out hb) 0).trans rfl; have hlk := HLp.out w8 (HM.out.below hb); clear hb))
  have HB2 : Aside0 (Below w.heap.size w (w8.alloc (.cells #[.string pp, .slice A m c] 85))) := ⟨below_alloc HB.out _⟩
  clear HB e0 hlk
  have HB := HB2
  clear HB2
  generalize w8.alloc (.cells #[.string pp, .slice A m c] 85) = w9 at HB ⊢
  generalize w8.heap.size = g9
  go_upto_region 14 with (first | (go_at_call 42; refine (HSet.out _ (HOwn.out.below HB.out)).mono ?_; rintro x w10 ⟨rfl, hb⟩; have HBn := Aside0.mk (below_step HB.out hb); clear HB hb; have HB := HBn; clear HBn) | (go_at_call 43; refine (HAb.out _ (HS.out.below HB.out)).mono ?_; rintro x w11 ⟨rfl, hw⟩; rw [hw]; clear hw; have e0 := (blk_cell (blk_below H1.out HB.out) 0).trans rfl; have hlk := HLn.out _ (HM.out.below HB.out)))
  have HB2 : Aside0 (Below w.heap.size w (w10.alloc (.cells #[.string pn, .slice An mn cn] 85))) := ⟨below_alloc HB.out _⟩
  clear HB e0 hlk
  have HB := HB2
  clear HB2
  generalize w10.alloc (.cells #[.string pn, .slice An mn cn] 85) = w12 at HB ⊢
  generalize w10.heap.size = g12
  have e0 := (blk_cell (blk_below H1.out HB.out) 0).trans rfl
  have hle := HLen.out _ (HM.out.below HB.out)
  go_upto_region 16 with fail
  clear hle
  go_wp2
  refine start_ (n := 10) (S := fun w' => w'.cell? ⟨gs, 0, none⟩ = some (.map (some gm)) ∧ Below w.heap.size w w') (ds := [9]) #[false, false, false, false, false, false, false, false, false, false] (by kernel_rfl) rfl rfl ⟨(blk_cell (blk_below H1.out (below_drew1 HB.out)) 0).trans rfl, below_drew1 HB.out⟩ (fun hHeld => ?_)
  refine pure_ (i := 0) (N := some 64) (v := ?_) (a' := ?_) #[true, false, false, false, false, false, false, false, false, false] rfl rfl (by kernel_rfl) (fun _ _ _ h => h) (Or.inl ⟨by rfl, ?_⟩) ?_ ?_
  rotate_left
  · intro w'
    go_simp
    with_reducible rfl
  rotate_left
  · simp only [Act.put, List.setIfInBounds_toArray, List.set_cons_zero, List.set_cons_succ, i64_w, i32_w]
    rfl
  refine pure_ (i := 1) (N := some 65) (v := ?_) (a' := ?_) #[true, true, false, false, false, false, false, false, false, false] rfl rfl (by kernel_rfl) (fun _ _ _ h => h) (Or.inl ⟨by rfl, ?_⟩) ?_ ?_
  rotate_left
  · intro w'
    go_simp
    with_reducible rfl
  rotate_left
  · simp only [Act.put, List.setIfInBounds_toArray, List.set_cons_zero, List.set_cons_succ, i64_w, i32_w]
    rfl
  refine pure_ (i := 2) (N := some 66) (v := ?_) (a' := ?_) #[true, true, true, false, false, false, false, false, false, false] rfl rfl (by kernel_rfl) (fun _ _ _ h => h) (Or.inl ⟨by rfl, ?_⟩) ?_ ?_
  rotate_left
  · intro w'
    go_simp
    with_reducible rfl
  rotate_left
  · simp only [Act.put, List.setIfInBounds_toArray, List.set_cons_zero, List.set_cons_succ, i64_w, i32_w]
    rfl
  refine pure_ (i := 4) (N := some 68) (v := ?_) (a' := ?_) #[true, true, true, false, true, false, false, false, false, false] rfl rfl (by kernel_rfl) (fun _ _ _ h => h) (Or.inl ⟨by rfl, ?_⟩) ?_ ?_
  rotate_left
  · intro w'
    go_simp
    with_reducible rfl
  rotate_left
  · simp only [Act.put, List.setIfInBounds_toArray, List.set_cons_zero, List.set_cons_succ, i64_w, i32_w]
    rfl
  refine pure_ (i := 5) (N := some 69) (v := ?_) (a' := ?_) #[true, true, true, false, true, true, false, false, false, false] rfl rfl (by kernel_rfl) (fun _ _ _ h => h) (Or.inl ⟨by rfl, ?_⟩) ?_ ?_
  rotate_left
  · intro w'
    go_simp
    with_reducible rfl
  rotate_left
  · simp only [Act.put, List.setIfInBounds_toArray, List.set_cons_zero, List.set_cons_succ, i64_w, i32_w]
    rfl
  refine pure_ (i := 6) (N := some 70) (v := ?_) (a' := ?_) #[true, true, true, false, true, true, true, false, false, false] rfl rfl (by kernel_rfl) (fun _ _ _ h => h) (Or.inl ⟨by rfl, ?_⟩) ?_ ?_
  rotate_left
  · intro w'
    go_simp
    with_reducible rfl
  rotate_left
  · simp only [Act.put, List.setIfInBounds_toArray, List.set_cons_zero, List.set_cons_succ, i64_w, i32_w]
    rfl
  refine take_ (i := 3) (N := some 67) (v := ?_) (a' := ?_) #[true, true, true, true, true, true, true, false, false, false] rfl rfl (by kernel_rfl) (fun _ _ _ h => h) (Or.inl ⟨by rfl, ?_⟩) hHeld ?_ ?_
  rotate_left
  · rintro w' ⟨s0, s1⟩
    go_simp
    with_reducible rfl
  rotate_left
  · simp only [Act.put, List.setIfInBounds_toArray, List.set_cons_zero, List.set_cons_succ, i64_w, i32_w]
    rfl
  refine one_ (i := 7) (N := some 71) #[true, true, true, true, true, true, true, true, false, false] rfl rfl (by kernel_rfl) (by decide) (fun K hK => ?_)
  refine goes_ Try.func44 (by kernel_rfl) rfl #[.slice A0 l.length c0] (by rfl) rfl rfl (by (simp only [List.map_toArray, List.map_cons, List.map_nil]); first | done | rfl) ?_
  with_reducible refine (HCl.out _ (HOwn.out.below hHeld.2)).mono ?_
  rintro x w13 ⟨v2, rfl, ⟨A2, c2, rfl, z2, z3⟩, hb13⟩
  refine ⟨_, rfl, ?_⟩
  refine hK.out _ _ ⟨(blk_cell (blk_below H1.out (below_step hHeld.2 hb13)) 0).trans rfl, below_step hHeld.2 hb13⟩ (fun hHeld => ?_)
  clear hK K
  refine norm_ (a' := ?_) ?_ ?_
  rotate_left
  · show Act.put _ (some 71) _ = _
    simp only [Act.put, List.setIfInBounds_toArray, List.set_cons_zero, List.set_cons_succ, i64_w, i32_w]
    rfl
  refine pure_ (i := 8) (N := some 72) (v := ?_) (a' := ?_) #[true, true, true, true, true, true, true, true, true, false] rfl rfl (by kernel_rfl) (fun _ _ _ h => h) (Or.inl ⟨by rfl, ?_⟩) ?_ ?_
  rotate_left
  · intro w'
    go_simp
    with_reducible rfl
  rotate_left
  · simp only [Act.put, List.setIfInBounds_toArray, List.set_cons_zero, List.set_cons_succ, i64_w, i32_w]
    rfl
  refine last_ (i := 9) (N := none) #[true, true, true, true, true, true, true, true, true, true] rfl rfl (by kernel_rfl) (by decide) (fun K hK => ?_)
  obtain ⟨o, hup, hat⟩ := run_update (HM.out.below hHeld.2) n ⟨#[]⟩ (.slice A2 l.length c2)
  have HAt := Aside0.mk hat
  have HBz := Aside0.mk hHeld.2
  have HSlz : Aside0 (Sl _ (.slice A2 l.length c2) l) := ⟨⟨A2, c2, rfl, z2, z3⟩⟩
  clear hat z2 z3
  refine skip_ (w1 := ?_) (by rfl) rfl ?_ ?_
  rotate_left
  · go_simp
    rfl
  refine hK.out _ _ ?_
  clear hK K
  refine done_ (by kernel_rfl) ?_
  clear hHeld
  have HG := Aside0.mk (grown_put (gm := gm) HBz.out o)
  have HSh := Aside0.mk (sheet_put (blk_below H1.out HBz.out) (HM.out.below HBz.out) (HRd.out.imp (fun _ _ h => h.below HBz.out)) HSlz.out HAt.out)
  go_wp2
  go_ret
  exact ⟨rfl, HSh.out, HG.out⟩
set_option maxHeartbeats 4000000 in
set_option maxRecDepth 100000 in
theorem define_there1 (gs gm : Nat) (L : List Sty) (n p : ByteArray) (v : Value) (l : List S37) (w : World) (hs : Sheet w gs gm L) (hv : Sl w v l) (kn : Nat) (hn : PStyleNearest.style_name.f kn n = some true) (ks k : Nat) (he : PStyleNearest.style_settings.f ks l = some 0) (hab : aboveG (upL L) n k p = some false) (ht : (fnd L n).isSome = true) (hp : p ≠ ⟨#[]⟩) (hf : (fnd L p).isSome = true) :
    Calls Try.prog 23 #[.pointer (some ⟨gs, 0, none⟩), .string n, .string p, v] w fun x w' => x = .returned (.int .i64 0) ∧ Sheet w' gs gm (putL L n p l) ∧ w.grownBy w' (some gm) := by
  have hu := Try.underlying77
  have hu5 := Try.underlying75
  have hu8 := Try.underlying85
  have hu37 := Try.underlying37
  have HS := Aside0.mk hs
  obtain ⟨h1, M, hm, hrd⟩ := hs
  obtain ⟨r1, r2, r3, r4⟩ := reads_all p hrd
  obtain ⟨q1, q2, q3, _⟩ := reads_all n hrd
  obtain ⟨A, c, e1, e2, e3⟩ := r2
  generalize hm0 : (setsL L p).length = m at e1 e2 e3
  obtain ⟨An, cn, f1, f2, f3⟩ := q2
  generalize hm1 : (setsL L n).length = mn at f1 f2 f3
  obtain ⟨pp, hpp⟩ : ∃ pp, pp = upL L p := ⟨_, rfl⟩
  obtain ⟨pn, hpn⟩ : ∃ pn, pn = upL L n := ⟨_, rfl⟩
  rw [← hpp] at r1
  rw [← hpn] at q1
  have HM := Aside0.mk hm
  have H1 := Aside0.mk h1
  have HRd := Aside0.mk hrd
  obtain ⟨tp, htp⟩ : ∃ tp, tp = (fnd L p).isSome := ⟨_, rfl⟩
  obtain ⟨tn, htn⟩ : ∃ tn, tn = (fnd L n).isSome := ⟨_, rfl⟩
  rw [← htp] at r3
  rw [← htn] at q3
  have HLp : Aside0 (∀ w', MapAt w' gm M → (Instr.lookup 75 (.map (some gm)) (.string p) true).run Try.prog w' = .ok (.tuple #[.agg #[.string pp, .slice A m c], .bool tp]) w') := ⟨fun w' hw' => by rw [look2 hw', r1, e1, r3]⟩
  have HLn : Aside0 (∀ w', MapAt w' gm M → (Instr.lookup 75 (.map (some gm)) (.string n) true).run Try.prog w' = .ok (.tuple #[.agg #[.string pn, .slice An mn cn], .bool tn]) w') := ⟨fun w' hw' => by rw [look2 hw', q1, f1, q3]⟩
  have HLen : Aside0 (∀ w', MapAt w' gm M → (Builtin.len_ #[75] 3 #[.map (some gm)]).run Try.prog w' = .ok (.int .i64 L.length) w') := ⟨fun w' hw' => by rw [← r4]; exact run_len hw'⟩
  clear h1 hm hrd r1 r3 r4 q1 q3 e1 e2 e3 f1 f2 f3 hpp hpn hm0 hm1
  obtain ⟨A0, c0, rfl, z2, z3⟩ := id hv
  clear z2 z3
  have HOwn := Aside0.mk hv
  clear hv
  have hl64 : l.length ≤ 64 := settings_len he
  have HCl : Aside0 (∀ w', Sl w' (.slice A0 l.length c0) l → Calls Try.prog 44 #[.slice A0 l.length c0] w' fun x w'' => ∃ v', x = .returned v' ∧ Sl w'' v' l ∧ Below w'.heap.size w' w'') := ⟨fun w' h => clone_calls _ l w' h hl64⟩
  clear hl64
  have HSet : Aside0 (∀ w', Sl w' (.slice A0 l.length c0) l → Calls Try.prog 42 #[.slice A0 l.length c0] w' fun x w'' => x = .returned (.int .i64 0) ∧ Below w'.heap.size w' w'') := ⟨fun w' h => settings_calls ks _ l _ w' h he⟩
  have HAb : Aside0 (∀ w', Sheet w' gs gm L → Calls Try.prog 43 #[.pointer (some ⟨gs, 0, none⟩), .string n, .string p] w' fun x w'' => x = .returned (.bool false) ∧ w'' = w') := ⟨fun w' h => above_callsL gs gm L k n p false w' h hab⟩
  clear hab he
  rw [ht] at htn
  subst htn
  clear ht
  have HN : Aside0 (∀ w', Calls Try.prog 41 #[.string n] w' fun x w'' => x = .returned (.bool true) ∧ Below w'.heap.size w' w'') := ⟨fun w' => name_calls kn n true w' hn⟩
  clear hn
  rw [hf] at htp
  subst htp
  clear hf
  have c1 := list_ne hp
  go_enter Try.func23, Try.ntmps23
  go_upto_region 6 with (first | (go_at_call 40; refine (none_calls gs gm _ H1.out).mono ?_; rintro x w7 ⟨rfl, hw⟩; rw [hw]; clear hw) | (go_at_call 41; refine (HN.out _).mono ?_; rintro x w8 ⟨rfl, hb⟩; have HB := Aside0.mk hb; have e0 := (blk_cell (blk_below H1.out hb) 0).trans rfl; have hlk := HLp.out w8 (HM.out.below hb); clear hb))
  have HB2 : Aside0 (Below w.heap.size w (w8.alloc (.cells #[.string pp, .slice A m c] 85))) := ⟨below_alloc HB.out _⟩
  clear HB e0 hlk
  have HB := HB2
  clear HB2
  generalize w8.alloc (.cells #[.string pp, .slice A m c] 85) = w9 at HB ⊢
  generalize w8.heap.size = g9
  go_upto_region 14 with (first | (go_at_call 42; refine (HSet.out _ (HOwn.out.below HB.out)).mono ?_; rintro x w10 ⟨rfl, hb⟩; have HBn := Aside0.mk (below_step HB.out hb); clear HB hb; have HB := HBn; clear HBn) | (go_at_call 43; refine (HAb.out _ (HS.out.below HB.out)).mono ?_; rintro x w11 ⟨rfl, hw⟩; rw [hw]; clear hw; have e0 := (blk_cell (blk_below H1.out HB.out) 0).trans rfl; have hlk := HLn.out _ (HM.out.below HB.out)))
  have HB2 : Aside0 (Below w.heap.size w (w10.alloc (.cells #[.string pn, .slice An mn cn] 85))) := ⟨below_alloc HB.out _⟩
  clear HB e0 hlk
  have HB := HB2
  clear HB2
  generalize w10.alloc (.cells #[.string pn, .slice An mn cn] 85) = w12 at HB ⊢
  generalize w10.heap.size = g12
  have e0 := (blk_cell (blk_below H1.out HB.out) 0).trans rfl
  have hle := HLen.out _ (HM.out.below HB.out)
  go_upto_region 16 with fail
  clear hle
  go_wp2
  refine start_ (n := 10) (S := fun w' => w'.cell? ⟨gs, 0, none⟩ = some (.map (some gm)) ∧ Below w.heap.size w w') (ds := [9]) #[false, false, false, false, false, false, false, false, false, false] (by kernel_rfl) rfl rfl ⟨(blk_cell (blk_below H1.out (below_drew1 HB.out)) 0).trans rfl, below_drew1 HB.out⟩ (fun hHeld => ?_)
  refine pure_ (i := 0) (N := some 64) (v := ?_) (a' := ?_) #[true, false, false, false, false, false, false, false, false, false] rfl rfl (by kernel_rfl) (fun _ _ _ h => h) (Or.inl ⟨by rfl, ?_⟩) ?_ ?_
  rotate_left
  · intro w'
    go_simp
    with_reducible rfl
  rotate_left
  · simp only [Act.put, List.setIfInBounds_toArray, List.set_cons_zero, List.set_cons_succ, i64_w, i32_w]
    rfl
  refine pure_ (i := 1) (N := some 65) (v := ?_) (a' := ?_) #[true, true, false, false, false, false, false, false, false, false] rfl rfl (by kernel_rfl) (fun _ _ _ h => h) (Or.inl ⟨by rfl, ?_⟩) ?_ ?_
  rotate_left
  · intro w'
    go_simp
    with_reducible rfl
  rotate_left
  · simp only [Act.put, List.setIfInBounds_toArray, List.set_cons_zero, List.set_cons_succ, i64_w, i32_w]
    rfl
  refine pure_ (i := 2) (N := some 66) (v := ?_) (a' := ?_) #[true, true, true, false, false, false, false, false, false, false] rfl rfl (by kernel_rfl) (fun _ _ _ h => h) (Or.inl ⟨by rfl, ?_⟩) ?_ ?_
  rotate_left
  · intro w'
    go_simp
    with_reducible rfl
  rotate_left
  · simp only [Act.put, List.setIfInBounds_toArray, List.set_cons_zero, List.set_cons_succ, i64_w, i32_w]
    rfl
  refine pure_ (i := 4) (N := some 68) (v := ?_) (a' := ?_) #[true, true, true, false, true, false, false, false, false, false] rfl rfl (by kernel_rfl) (fun _ _ _ h => h) (Or.inl ⟨by rfl, ?_⟩) ?_ ?_
  rotate_left
  · intro w'
    go_simp
    with_reducible rfl
  rotate_left
  · simp only [Act.put, List.setIfInBounds_toArray, List.set_cons_zero, List.set_cons_succ, i64_w, i32_w]
    rfl
  refine pure_ (i := 5) (N := some 69) (v := ?_) (a' := ?_) #[true, true, true, false, true, true, false, false, false, false] rfl rfl (by kernel_rfl) (fun _ _ _ h => h) (Or.inl ⟨by rfl, ?_⟩) ?_ ?_
  rotate_left
  · intro w'
    go_simp
    with_reducible rfl
  rotate_left
  · simp only [Act.put, List.setIfInBounds_toArray, List.set_cons_zero, List.set_cons_succ, i64_w, i32_w]
    rfl
  refine pure_ (i := 6) (N := some 70) (v := ?_) (a' := ?_) #[true, true, true, false, true, true, true, false, false, false] rfl rfl (by kernel_rfl) (fun _ _ _ h => h) (Or.inl ⟨by rfl, ?_⟩) ?_ ?_
  rotate_left
  · intro w'
    go_simp
    with_reducible rfl
  rotate_left
  · simp only [Act.put, List.setIfInBounds_toArray, List.set_cons_zero, List.set_cons_succ, i64_w, i32_w]
    rfl
  refine take_ (i := 3) (N := some 67) (v := ?_) (a' := ?_) #[true, true, true, true, true, true, true, false, false, false] rfl rfl (by kernel_rfl) (fun _ _ _ h => h) (Or.inl ⟨by rfl, ?_⟩) hHeld ?_ ?_
  rotate_left
  · rintro w' ⟨s0, s1⟩
    go_simp
    with_reducible rfl
  rotate_left
  · simp only [Act.put, List.setIfInBounds_toArray, List.set_cons_zero, List.set_cons_succ, i64_w, i32_w]
    rfl
  refine one_ (i := 7) (N := some 71) #[true, true, true, true, true, true, true, true, false, false] rfl rfl (by kernel_rfl) (by decide) (fun K hK => ?_)
  refine goes_ Try.func44 (by kernel_rfl) rfl #[.slice A0 l.length c0] (by rfl) rfl rfl (by (simp only [List.map_toArray, List.map_cons, List.map_nil]); first | done | rfl) ?_
  with_reducible refine (HCl.out _ (HOwn.out.below hHeld.2)).mono ?_
  rintro x w13 ⟨v2, rfl, ⟨A2, c2, rfl, z2, z3⟩, hb13⟩
  refine ⟨_, rfl, ?_⟩
  refine hK.out _ _ ⟨(blk_cell (blk_below H1.out (below_step hHeld.2 hb13)) 0).trans rfl, below_step hHeld.2 hb13⟩ (fun hHeld => ?_)
  clear hK K
  refine norm_ (a' := ?_) ?_ ?_
  rotate_left
  · show Act.put _ (some 71) _ = _
    simp only [Act.put, List.setIfInBounds_toArray, List.set_cons_zero, List.set_cons_succ, i64_w, i32_w]
    rfl
  refine pure_ (i := 8) (N := some 72) (v := ?_) (a' := ?_) #[true, true, true, true, true, true, true, true, true, false] rfl rfl (by kernel_rfl) (fun _ _ _ h => h) (Or.inl ⟨by rfl, ?_⟩) ?_ ?_
  rotate_left
  · intro w'
    go_simp
    with_reducible rfl
  rotate_left
  · simp only [Act.put, List.setIfInBounds_toArray, List.set_cons_zero, List.set_cons_succ, i64_w, i32_w]
    rfl
  refine last_ (i := 9) (N := none) #[true, true, true, true, true, true, true, true, true, true] rfl rfl (by kernel_rfl) (by decide) (fun K hK => ?_)
  obtain ⟨o, hup, hat⟩ := run_update (HM.out.below hHeld.2) n p (.slice A2 l.length c2)
  have HAt := Aside0.mk hat
  have HBz := Aside0.mk hHeld.2
  have HSlz : Aside0 (Sl _ (.slice A2 l.length c2) l) := ⟨⟨A2, c2, rfl, z2, z3⟩⟩
  clear hat z2 z3
  refine skip_ (w1 := ?_) (by rfl) rfl ?_ ?_
  rotate_left
  · go_simp
    rfl
  refine hK.out _ _ ?_
  clear hK K
  refine done_ (by kernel_rfl) ?_
  clear hHeld
  have HG := Aside0.mk (grown_put (gm := gm) HBz.out o)
  have HSh := Aside0.mk (sheet_put (blk_below H1.out HBz.out) (HM.out.below HBz.out) (HRd.out.imp (fun _ _ h => h.below HBz.out)) HSlz.out HAt.out)
  go_wp2
  go_ret
  exact ⟨rfl, HSh.out, HG.out⟩
set_option maxHeartbeats 4000000 in
set_option maxRecDepth 100000 in
theorem define_new0 (gs gm : Nat) (L : List Sty) (n p : ByteArray) (v : Value) (l : List S37) (w : World) (hs : Sheet w gs gm L) (hv : Sl w v l) (kn : Nat) (hn : PStyleNearest.style_name.f kn n = some true) (ks k : Nat) (he : PStyleNearest.style_settings.f ks l = some 0) (hab : aboveG (upL L) n k p = some false) (ht : fnd L n = none) (hlen : L.length < 32) (hp : p = ⟨#[]⟩) :
    Calls Try.prog 23 #[.pointer (some ⟨gs, 0, none⟩), .string n, .string p, v] w fun x w' => x = .returned (.int .i64 0) ∧ Sheet w' gs gm (putL L n p l) ∧ w.grownBy w' (some gm) := by
  have hu := Try.underlying77
  have hu5 := Try.underlying75
  have hu8 := Try.underlying85
  have hu37 := Try.underlying37
  have HS := Aside0.mk hs
  obtain ⟨h1, M, hm, hrd⟩ := hs
  obtain ⟨r1, r2, r3, r4⟩ := reads_all p hrd
  obtain ⟨q1, q2, q3, _⟩ := reads_all n hrd
  obtain ⟨A, c, e1, e2, e3⟩ := r2
  generalize hm0 : (setsL L p).length = m at e1 e2 e3
  obtain ⟨An, cn, f1, f2, f3⟩ := q2
  generalize hm1 : (setsL L n).length = mn at f1 f2 f3
  obtain ⟨pp, hpp⟩ : ∃ pp, pp = upL L p := ⟨_, rfl⟩
  obtain ⟨pn, hpn⟩ : ∃ pn, pn = upL L n := ⟨_, rfl⟩
  rw [← hpp] at r1
  rw [← hpn] at q1
  have HM := Aside0.mk hm
  have H1 := Aside0.mk h1
  have HRd := Aside0.mk hrd
  obtain ⟨tp, htp⟩ : ∃ tp, tp = (fnd L p).isSome := ⟨_, rfl⟩
  obtain ⟨tn, htn⟩ : ∃ tn, tn = (fnd L n).isSome := ⟨_, rfl⟩
  rw [← htp] at r3
  rw [← htn] at q3
  have HLp : Aside0 (∀ w', MapAt w' gm M → (Instr.lookup 75 (.map (some gm)) (.string p) true).run Try.prog w' = .ok (.tuple #[.agg #[.string pp, .slice A m c], .bool tp]) w') := ⟨fun w' hw' => by rw [look2 hw', r1, e1, r3]⟩
  have HLn : Aside0 (∀ w', MapAt w' gm M → (Instr.lookup 75 (.map (some gm)) (.string n) true).run Try.prog w' = .ok (.tuple #[.agg #[.string pn, .slice An mn cn], .bool tn]) w') := ⟨fun w' hw' => by rw [look2 hw', q1, f1, q3]⟩
  have HLen : Aside0 (∀ w', MapAt w' gm M → (Builtin.len_ #[75] 3 #[.map (some gm)]).run Try.prog w' = .ok (.int .i64 L.length) w') := ⟨fun w' hw' => by rw [← r4]; exact run_len hw'⟩
  clear h1 hm hrd r1 r3 r4 q1 q3 e1 e2 e3 f1 f2 f3 hpp hpn hm0 hm1
  obtain ⟨A0, c0, rfl, z2, z3⟩ := id hv
  clear z2 z3
  have HOwn := Aside0.mk hv
  clear hv
  have hl64 : l.length ≤ 64 := settings_len he
  have HCl : Aside0 (∀ w', Sl w' (.slice A0 l.length c0) l → Calls Try.prog 44 #[.slice A0 l.length c0] w' fun x w'' => ∃ v', x = .returned v' ∧ Sl w'' v' l ∧ Below w'.heap.size w' w'') := ⟨fun w' h => clone_calls _ l w' h hl64⟩
  clear hl64
  have HSet : Aside0 (∀ w', Sl w' (.slice A0 l.length c0) l → Calls Try.prog 42 #[.slice A0 l.length c0] w' fun x w'' => x = .returned (.int .i64 0) ∧ Below w'.heap.size w' w'') := ⟨fun w' h => settings_calls ks _ l _ w' h he⟩
  have HAb : Aside0 (∀ w', Sheet w' gs gm L → Calls Try.prog 43 #[.pointer (some ⟨gs, 0, none⟩), .string n, .string p] w' fun x w'' => x = .returned (.bool false) ∧ w'' = w') := ⟨fun w' h => above_callsL gs gm L k n p false w' h hab⟩
  clear hab he
  rw [ht] at htn
  simp only [Option.isSome_none] at htn
  subst htn
  clear ht
  have cl : decide ((32 : Int) ≤ (L.length : Int)) = false := decide_eq_false (by omega)
  have cl2 : decide (32 ≤ L.length) = false := decide_eq_false (by omega)
  clear hlen
  have HN : Aside0 (∀ w', Calls Try.prog 41 #[.string n] w' fun x w'' => x = .returned (.bool true) ∧ Below w'.heap.size w' w'') := ⟨fun w' => name_calls kn n true w' hn⟩
  clear hn
  clear htp
  subst hp
  go_enter Try.func23, Try.ntmps23
  go_upto_region 6 with (first | (go_at_call 40; refine (none_calls gs gm _ H1.out).mono ?_; rintro x w7 ⟨rfl, hw⟩; rw [hw]; clear hw) | (go_at_call 41; refine (HN.out _).mono ?_; rintro x w8 ⟨rfl, hb⟩; have HB := Aside0.mk hb; have e0 := (blk_cell (blk_below H1.out hb) 0).trans rfl; have hlk := HLp.out w8 (HM.out.below hb); clear hb))
  have HB2 : Aside0 (Below w.heap.size w (w8.alloc (.cells #[.string pp, .slice A m c] 85))) := ⟨below_alloc HB.out _⟩
  clear HB e0 hlk
  have HB := HB2
  clear HB2
  generalize w8.alloc (.cells #[.string pp, .slice A m c] 85) = w9 at HB ⊢
  generalize w8.heap.size = g9
  go_upto_region 14 with (first | (go_at_call 42; refine (HSet.out _ (HOwn.out.below HB.out)).mono ?_; rintro x w10 ⟨rfl, hb⟩; have HBn := Aside0.mk (below_step HB.out hb); clear HB hb; have HB := HBn; clear HBn) | (go_at_call 43; refine (HAb.out _ (HS.out.below HB.out)).mono ?_; rintro x w11 ⟨rfl, hw⟩; rw [hw]; clear hw; have e0 := (blk_cell (blk_below H1.out HB.out) 0).trans rfl; have hlk := HLn.out _ (HM.out.below HB.out)))
  have HB2 : Aside0 (Below w.heap.size w (w10.alloc (.cells #[.string pn, .slice An mn cn] 85))) := ⟨below_alloc HB.out _⟩
  clear HB e0 hlk
  have HB := HB2
  clear HB2
  generalize w10.alloc (.cells #[.string pn, .slice An mn cn] 85) = w12 at HB ⊢
  generalize w10.heap.size = g12
  have e0 := (blk_cell (blk_below H1.out HB.out) 0).trans rfl
  have hle := HLen.out _ (HM.out.below HB.out)
  go_upto_region 16 with fail
  clear hle
  go_wp2
  refine start_ (n := 10) (S := fun w' => w'.cell? ⟨gs, 0, none⟩ = some (.map (some gm)) ∧ Below w.heap.size w w') (ds := [9]) #[false, false, false, false, false, false, false, false, false, false] (by kernel_rfl) rfl rfl ⟨(blk_cell (blk_below H1.out (below_drew1 HB.out)) 0).trans rfl, below_drew1 HB.out⟩ (fun hHeld => ?_)
  refine pure_ (i := 0) (N := some 64) (v := ?_) (a' := ?_) #[true, false, false, false, false, false, false, false, false, false] rfl rfl (by kernel_rfl) (fun _ _ _ h => h) (Or.inl ⟨by rfl, ?_⟩) ?_ ?_
  rotate_left
  · intro w'
    go_simp
    with_reducible rfl
  rotate_left
  · simp only [Act.put, List.setIfInBounds_toArray, List.set_cons_zero, List.set_cons_succ, i64_w, i32_w]
    rfl
  refine pure_ (i := 1) (N := some 65) (v := ?_) (a' := ?_) #[true, true, false, false, false, false, false, false, false, false] rfl rfl (by kernel_rfl) (fun _ _ _ h => h) (Or.inl ⟨by rfl, ?_⟩) ?_ ?_
  rotate_left
  · intro w'
    go_simp
    with_reducible rfl
  rotate_left
  · simp only [Act.put, List.setIfInBounds_toArray, List.set_cons_zero, List.set_cons_succ, i64_w, i32_w]
    rfl
  refine pure_ (i := 2) (N := some 66) (v := ?_) (a' := ?_) #[true, true, true, false, false, false, false, false, false, false] rfl rfl (by kernel_rfl) (fun _ _ _ h => h) (Or.inl ⟨by rfl, ?_⟩) ?_ ?_
  rotate_left
  · intro w'
    go_simp
    with_reducible rfl
  rotate_left
  · simp only [Act.put, List.setIfInBounds_toArray, List.set_cons_zero, List.set_cons_succ, i64_w, i32_w]
    rfl
  refine pure_ (i := 4) (N := some 68) (v := ?_) (a' := ?_) #[true, true, true, false, true, false, false, false, false, false] rfl rfl (by kernel_rfl) (fun _ _ _ h => h) (Or.inl ⟨by rfl, ?_⟩) ?_ ?_
  rotate_left
  · intro w'
    go_simp
    with_reducible rfl
  rotate_left
  · simp only [Act.put, List.setIfInBounds_toArray, List.set_cons_zero, List.set_cons_succ, i64_w, i32_w]
    rfl
  refine pure_ (i := 5) (N := some 69) (v := ?_) (a' := ?_) #[true, true, true, false, true, true, false, false, false, false] rfl rfl (by kernel_rfl) (fun _ _ _ h => h) (Or.inl ⟨by rfl, ?_⟩) ?_ ?_
  rotate_left
  · intro w'
    go_simp
    with_reducible rfl
  rotate_left
  · simp only [Act.put, List.setIfInBounds_toArray, List.set_cons_zero, List.set_cons_succ, i64_w, i32_w]
    rfl
  refine pure_ (i := 6) (N := some 70) (v := ?_) (a' := ?_) #[true, true, true, false, true, true, true, false, false, false] rfl rfl (by kernel_rfl) (fun _ _ _ h => h) (Or.inl ⟨by rfl, ?_⟩) ?_ ?_
  rotate_left
  · intro w'
    go_simp
    with_reducible rfl
  rotate_left
  · simp only [Act.put, List.setIfInBounds_toArray, List.set_cons_zero, List.set_cons_succ, i64_w, i32_w]
    rfl
  refine take_ (i := 3) (N := some 67) (v := ?_) (a' := ?_) #[true, true, true, true, true, true, true, false, false, false] rfl rfl (by kernel_rfl) (fun _ _ _ h => h) (Or.inl ⟨by rfl, ?_⟩) hHeld ?_ ?_
  rotate_left
  · rintro w' ⟨s0, s1⟩
    go_simp
    with_reducible rfl
  rotate_left
  · simp only [Act.put, List.setIfInBounds_toArray, List.set_cons_zero, List.set_cons_succ, i64_w, i32_w]
    rfl
  refine one_ (i := 7) (N := some 71) #[true, true, true, true, true, true, true, true, false, false] rfl rfl (by kernel_rfl) (by decide) (fun K hK => ?_)
  refine goes_ Try.func44 (by kernel_rfl) rfl #[.slice A0 l.length c0] (by rfl) rfl rfl (by (simp only [List.map_toArray, List.map_cons, List.map_nil]); first | done | rfl) ?_
  with_reducible refine (HCl.out _ (HOwn.out.below hHeld.2)).mono ?_
  rintro x w13 ⟨v2, rfl, ⟨A2, c2, rfl, z2, z3⟩, hb13⟩
  refine ⟨_, rfl, ?_⟩
  refine hK.out _ _ ⟨(blk_cell (blk_below H1.out (below_step hHeld.2 hb13)) 0).trans rfl, below_step hHeld.2 hb13⟩ (fun hHeld => ?_)
  clear hK K
  refine norm_ (a' := ?_) ?_ ?_
  rotate_left
  · show Act.put _ (some 71) _ = _
    simp only [Act.put, List.setIfInBounds_toArray, List.set_cons_zero, List.set_cons_succ, i64_w, i32_w]
    rfl
  refine pure_ (i := 8) (N := some 72) (v := ?_) (a' := ?_) #[true, true, true, true, true, true, true, true, true, false] rfl rfl (by kernel_rfl) (fun _ _ _ h => h) (Or.inl ⟨by rfl, ?_⟩) ?_ ?_
  rotate_left
  · intro w'
    go_simp
    with_reducible rfl
  rotate_left
  · simp only [Act.put, List.setIfInBounds_toArray, List.set_cons_zero, List.set_cons_succ, i64_w, i32_w]
    rfl
  refine last_ (i := 9) (N := none) #[true, true, true, true, true, true, true, true, true, true] rfl rfl (by kernel_rfl) (by decide) (fun K hK => ?_)
  obtain ⟨o, hup, hat⟩ := run_update (HM.out.below hHeld.2) n ⟨#[]⟩ (.slice A2 l.length c2)
  have HAt := Aside0.mk hat
  have HBz := Aside0.mk hHeld.2
  have HSlz : Aside0 (Sl _ (.slice A2 l.length c2) l) := ⟨⟨A2, c2, rfl, z2, z3⟩⟩
  clear hat z2 z3
  refine skip_ (w1 := ?_) (by rfl) rfl ?_ ?_
  rotate_left
  · go_simp
    rfl
  refine hK.out _ _ ?_
  clear hK K
  refine done_ (by kernel_rfl) ?_
  clear hHeld
  have HG := Aside0.mk (grown_put (gm := gm) HBz.out o)
  have HSh := Aside0.mk (sheet_put (blk_below H1.out HBz.out) (HM.out.below HBz.out) (HRd.out.imp (fun _ _ h => h.below HBz.out)) HSlz.out HAt.out)
  go_wp2
  go_ret
  exact ⟨rfl, HSh.out, HG.out⟩
set_option maxHeartbeats 4000000 in
set_option maxRecDepth 100000 in
theorem define_new1 (gs gm : Nat) (L : List Sty) (n p : ByteArray) (v : Value) (l : List S37) (w : World) (hs : Sheet w gs gm L) (hv : Sl w v l) (kn : Nat) (hn : PStyleNearest.style_name.f kn n = some true) (ks k : Nat) (he : PStyleNearest.style_settings.f ks l = some 0) (hab : aboveG (upL L) n k p = some false) (ht : fnd L n = none) (hlen : L.length < 32) (hp : p ≠ ⟨#[]⟩) (hf : (fnd L p).isSome = true) :
    Calls Try.prog 23 #[.pointer (some ⟨gs, 0, none⟩), .string n, .string p, v] w fun x w' => x = .returned (.int .i64 0) ∧ Sheet w' gs gm (putL L n p l) ∧ w.grownBy w' (some gm) := by
  have hu := Try.underlying77
  have hu5 := Try.underlying75
  have hu8 := Try.underlying85
  have hu37 := Try.underlying37
  have HS := Aside0.mk hs
  obtain ⟨h1, M, hm, hrd⟩ := hs
  obtain ⟨r1, r2, r3, r4⟩ := reads_all p hrd
  obtain ⟨q1, q2, q3, _⟩ := reads_all n hrd
  obtain ⟨A, c, e1, e2, e3⟩ := r2
  generalize hm0 : (setsL L p).length = m at e1 e2 e3
  obtain ⟨An, cn, f1, f2, f3⟩ := q2
  generalize hm1 : (setsL L n).length = mn at f1 f2 f3
  obtain ⟨pp, hpp⟩ : ∃ pp, pp = upL L p := ⟨_, rfl⟩
  obtain ⟨pn, hpn⟩ : ∃ pn, pn = upL L n := ⟨_, rfl⟩
  rw [← hpp] at r1
  rw [← hpn] at q1
  have HM := Aside0.mk hm
  have H1 := Aside0.mk h1
  have HRd := Aside0.mk hrd
  obtain ⟨tp, htp⟩ : ∃ tp, tp = (fnd L p).isSome := ⟨_, rfl⟩
  obtain ⟨tn, htn⟩ : ∃ tn, tn = (fnd L n).isSome := ⟨_, rfl⟩
  rw [← htp] at r3
  rw [← htn] at q3
  have HLp : Aside0 (∀ w', MapAt w' gm M → (Instr.lookup 75 (.map (some gm)) (.string p) true).run Try.prog w' = .ok (.tuple #[.agg #[.string pp, .slice A m c], .bool tp]) w') := ⟨fun w' hw' => by rw [look2 hw', r1, e1, r3]⟩
  have HLn : Aside0 (∀ w', MapAt w' gm M → (Instr.lookup 75 (.map (some gm)) (.string n) true).run Try.prog w' = .ok (.tuple #[.agg #[.string pn, .slice An mn cn], .bool tn]) w') := ⟨fun w' hw' => by rw [look2 hw', q1, f1, q3]⟩
  have HLen : Aside0 (∀ w', MapAt w' gm M → (Builtin.len_ #[75] 3 #[.map (some gm)]).run Try.prog w' = .ok (.int .i64 L.length) w') := ⟨fun w' hw' => by rw [← r4]; exact run_len hw'⟩
  clear h1 hm hrd r1 r3 r4 q1 q3 e1 e2 e3 f1 f2 f3 hpp hpn hm0 hm1
  obtain ⟨A0, c0, rfl, z2, z3⟩ := id hv
  clear z2 z3
  have HOwn := Aside0.mk hv
  clear hv
  have hl64 : l.length ≤ 64 := settings_len he
  have HCl : Aside0 (∀ w', Sl w' (.slice A0 l.length c0) l → Calls Try.prog 44 #[.slice A0 l.length c0] w' fun x w'' => ∃ v', x = .returned v' ∧ Sl w'' v' l ∧ Below w'.heap.size w' w'') := ⟨fun w' h => clone_calls _ l w' h hl64⟩
  clear hl64
  have HSet : Aside0 (∀ w', Sl w' (.slice A0 l.length c0) l → Calls Try.prog 42 #[.slice A0 l.length c0] w' fun x w'' => x = .returned (.int .i64 0) ∧ Below w'.heap.size w' w'') := ⟨fun w' h => settings_calls ks _ l _ w' h he⟩
  have HAb : Aside0 (∀ w', Sheet w' gs gm L → Calls Try.prog 43 #[.pointer (some ⟨gs, 0, none⟩), .string n, .string p] w' fun x w'' => x = .returned (.bool false) ∧ w'' = w') := ⟨fun w' h => above_callsL gs gm L k n p false w' h hab⟩
  clear hab he
  rw [ht] at htn
  simp only [Option.isSome_none] at htn
  subst htn
  clear ht
  have cl : decide ((32 : Int) ≤ (L.length : Int)) = false := decide_eq_false (by omega)
  have cl2 : decide (32 ≤ L.length) = false := decide_eq_false (by omega)
  clear hlen
  have HN : Aside0 (∀ w', Calls Try.prog 41 #[.string n] w' fun x w'' => x = .returned (.bool true) ∧ Below w'.heap.size w' w'') := ⟨fun w' => name_calls kn n true w' hn⟩
  clear hn
  rw [hf] at htp
  subst htp
  clear hf
  have c1 := list_ne hp
  go_enter Try.func23, Try.ntmps23
  go_upto_region 6 with (first | (go_at_call 40; refine (none_calls gs gm _ H1.out).mono ?_; rintro x w7 ⟨rfl, hw⟩; rw [hw]; clear hw) | (go_at_call 41; refine (HN.out _).mono ?_; rintro x w8 ⟨rfl, hb⟩; have HB := Aside0.mk hb; have e0 := (blk_cell (blk_below H1.out hb) 0).trans rfl; have hlk := HLp.out w8 (HM.out.below hb); clear hb))
  have HB2 : Aside0 (Below w.heap.size w (w8.alloc (.cells #[.string pp, .slice A m c] 85))) := ⟨below_alloc HB.out _⟩
  clear HB e0 hlk
  have HB := HB2
  clear HB2
  generalize w8.alloc (.cells #[.string pp, .slice A m c] 85) = w9 at HB ⊢
  generalize w8.heap.size = g9
  go_upto_region 14 with (first | (go_at_call 42; refine (HSet.out _ (HOwn.out.below HB.out)).mono ?_; rintro x w10 ⟨rfl, hb⟩; have HBn := Aside0.mk (below_step HB.out hb); clear HB hb; have HB := HBn; clear HBn) | (go_at_call 43; refine (HAb.out _ (HS.out.below HB.out)).mono ?_; rintro x w11 ⟨rfl, hw⟩; rw [hw]; clear hw; have e0 := (blk_cell (blk_below H1.out HB.out) 0).trans rfl; have hlk := HLn.out _ (HM.out.below HB.out)))
  have HB2 : Aside0 (Below w.heap.size w (w10.alloc (.cells #[.string pn, .slice An mn cn] 85))) := ⟨below_alloc HB.out _⟩
  clear HB e0 hlk
  have HB := HB2
  clear HB2
  generalize w10.alloc (.cells #[.string pn, .slice An mn cn] 85) = w12 at HB ⊢
  generalize w10.heap.size = g12
  have e0 := (blk_cell (blk_below H1.out HB.out) 0).trans rfl
  have hle := HLen.out _ (HM.out.below HB.out)
  go_upto_region 16 with fail
  clear hle
  go_wp2
  refine start_ (n := 10) (S := fun w' => w'.cell? ⟨gs, 0, none⟩ = some (.map (some gm)) ∧ Below w.heap.size w w') (ds := [9]) #[false, false, false, false, false, false, false, false, false, false] (by kernel_rfl) rfl rfl ⟨(blk_cell (blk_below H1.out (below_drew1 HB.out)) 0).trans rfl, below_drew1 HB.out⟩ (fun hHeld => ?_)
  refine pure_ (i := 0) (N := some 64) (v := ?_) (a' := ?_) #[true, false, false, false, false, false, false, false, false, false] rfl rfl (by kernel_rfl) (fun _ _ _ h => h) (Or.inl ⟨by rfl, ?_⟩) ?_ ?_
  rotate_left
  · intro w'
    go_simp
    with_reducible rfl
  rotate_left
  · simp only [Act.put, List.setIfInBounds_toArray, List.set_cons_zero, List.set_cons_succ, i64_w, i32_w]
    rfl
  refine pure_ (i := 1) (N := some 65) (v := ?_) (a' := ?_) #[true, true, false, false, false, false, false, false, false, false] rfl rfl (by kernel_rfl) (fun _ _ _ h => h) (Or.inl ⟨by rfl, ?_⟩) ?_ ?_
  rotate_left
  · intro w'
    go_simp
    with_reducible rfl
  rotate_left
  · simp only [Act.put, List.setIfInBounds_toArray, List.set_cons_zero, List.set_cons_succ, i64_w, i32_w]
    rfl
  refine pure_ (i := 2) (N := some 66) (v := ?_) (a' := ?_) #[true, true, true, false, false, false, false, false, false, false] rfl rfl (by kernel_rfl) (fun _ _ _ h => h) (Or.inl ⟨by rfl, ?_⟩) ?_ ?_
  rotate_left
  · intro w'
    go_simp
    with_reducible rfl
  rotate_left
  · simp only [Act.put, List.setIfInBounds_toArray, List.set_cons_zero, List.set_cons_succ, i64_w, i32_w]
    rfl
  refine pure_ (i := 4) (N := some 68) (v := ?_) (a' := ?_) #[true, true, true, false, true, false, false, false, false, false] rfl rfl (by kernel_rfl) (fun _ _ _ h => h) (Or.inl ⟨by rfl, ?_⟩) ?_ ?_
  rotate_left
  · intro w'
    go_simp
    with_reducible rfl
  rotate_left
  · simp only [Act.put, List.setIfInBounds_toArray, List.set_cons_zero, List.set_cons_succ, i64_w, i32_w]
    rfl
  refine pure_ (i := 5) (N := some 69) (v := ?_) (a' := ?_) #[true, true, true, false, true, true, false, false, false, false] rfl rfl (by kernel_rfl) (fun _ _ _ h => h) (Or.inl ⟨by rfl, ?_⟩) ?_ ?_
  rotate_left
  · intro w'
    go_simp
    with_reducible rfl
  rotate_left
  · simp only [Act.put, List.setIfInBounds_toArray, List.set_cons_zero, List.set_cons_succ, i64_w, i32_w]
    rfl
  refine pure_ (i := 6) (N := some 70) (v := ?_) (a' := ?_) #[true, true, true, false, true, true, true, false, false, false] rfl rfl (by kernel_rfl) (fun _ _ _ h => h) (Or.inl ⟨by rfl, ?_⟩) ?_ ?_
  rotate_left
  · intro w'
    go_simp
    with_reducible rfl
  rotate_left
  · simp only [Act.put, List.setIfInBounds_toArray, List.set_cons_zero, List.set_cons_succ, i64_w, i32_w]
    rfl
  refine take_ (i := 3) (N := some 67) (v := ?_) (a' := ?_) #[true, true, true, true, true, true, true, false, false, false] rfl rfl (by kernel_rfl) (fun _ _ _ h => h) (Or.inl ⟨by rfl, ?_⟩) hHeld ?_ ?_
  rotate_left
  · rintro w' ⟨s0, s1⟩
    go_simp
    with_reducible rfl
  rotate_left
  · simp only [Act.put, List.setIfInBounds_toArray, List.set_cons_zero, List.set_cons_succ, i64_w, i32_w]
    rfl
  refine one_ (i := 7) (N := some 71) #[true, true, true, true, true, true, true, true, false, false] rfl rfl (by kernel_rfl) (by decide) (fun K hK => ?_)
  refine goes_ Try.func44 (by kernel_rfl) rfl #[.slice A0 l.length c0] (by rfl) rfl rfl (by (simp only [List.map_toArray, List.map_cons, List.map_nil]); first | done | rfl) ?_
  with_reducible refine (HCl.out _ (HOwn.out.below hHeld.2)).mono ?_
  rintro x w13 ⟨v2, rfl, ⟨A2, c2, rfl, z2, z3⟩, hb13⟩
  refine ⟨_, rfl, ?_⟩
  refine hK.out _ _ ⟨(blk_cell (blk_below H1.out (below_step hHeld.2 hb13)) 0).trans rfl, below_step hHeld.2 hb13⟩ (fun hHeld => ?_)
  clear hK K
  refine norm_ (a' := ?_) ?_ ?_
  rotate_left
  · show Act.put _ (some 71) _ = _
    simp only [Act.put, List.setIfInBounds_toArray, List.set_cons_zero, List.set_cons_succ, i64_w, i32_w]
    rfl
  refine pure_ (i := 8) (N := some 72) (v := ?_) (a' := ?_) #[true, true, true, true, true, true, true, true, true, false] rfl rfl (by kernel_rfl) (fun _ _ _ h => h) (Or.inl ⟨by rfl, ?_⟩) ?_ ?_
  rotate_left
  · intro w'
    go_simp
    with_reducible rfl
  rotate_left
  · simp only [Act.put, List.setIfInBounds_toArray, List.set_cons_zero, List.set_cons_succ, i64_w, i32_w]
    rfl
  refine last_ (i := 9) (N := none) #[true, true, true, true, true, true, true, true, true, true] rfl rfl (by kernel_rfl) (by decide) (fun K hK => ?_)
  obtain ⟨o, hup, hat⟩ := run_update (HM.out.below hHeld.2) n p (.slice A2 l.length c2)
  have HAt := Aside0.mk hat
  have HBz := Aside0.mk hHeld.2
  have HSlz : Aside0 (Sl _ (.slice A2 l.length c2) l) := ⟨⟨A2, c2, rfl, z2, z3⟩⟩
  clear hat z2 z3
  refine skip_ (w1 := ?_) (by rfl) rfl ?_ ?_
  rotate_left
  · go_simp
    rfl
  refine hK.out _ _ ?_
  clear hK K
  refine done_ (by kernel_rfl) ?_
  clear hHeld
  have HG := Aside0.mk (grown_put (gm := gm) HBz.out o)
  have HSh := Aside0.mk (sheet_put (blk_below H1.out HBz.out) (HM.out.below HBz.out) (HRd.out.imp (fun _ _ h => h.below HBz.out)) HSlz.out HAt.out)
  go_wp2
  go_ret
  exact ⟨rfl, HSh.out, HG.out⟩
end Go.Proofs.Ytpcpjlbfhbicaaa.Sh
