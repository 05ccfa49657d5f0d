/- Own walks for the law, joined from several texts: what the law reaches, and no more (joined by keeplive.py). -/
import Derived.Test.YtpcpjlbfhbicaaaS11
import Derived.Test.YtpcpjlbfhbicaaaS9
section
set_option linter.unusedVariables false
set_option linter.unusedSimpArgs false
namespace Go.Proofs.Ytpcpjlbfhbicaaa.Sh
open Go Go.RowKit Go.Proofs.YtpcpjlbfhbicaaaW.PrintWords Go.Proofs.YtpcpjlbfhbicaaaW.PrintLast Go.Proofs.YtpcpjlbfhbicaaaW.PrintMore Go.Proofs.Ytpcpjlbfhbicaaa.PStyleProps
open Go.Proofs.Ytpcpjlbfhbicaaa.PStyleNearest (S37 k37 z37 rd_T37 at_T37 k37_open k37_openM k37_mk k37_mkM info37)
theorem info9s : (Try.prog.info? 9).map (·.size) = some 1 := by kernel_rfl
theorem slice58 (W : World) (A : Option Addr) (n c : Nat) : (Instr.slice 58 (.slice A n c) none (some (.int .i64 (c : Int))) none).run Try.prog W = .ok (.slice A c c) W := by
  have hu : Try.prog.underlying 58 = some (.slice (Try.prog.elem 58)) := by kernel_rfl
  have he : Try.prog.elem 58 = 9 := by kernel_rfl
  obtain ⟨i0, hi, hs⟩ := Option.map_eq_some_iff.1 info9s
  rw [run_slice_h W 58 A n c hu .i64 (c : Int) (by omega) (by omega), he]
  simp [sizeOf, typeInfo, hi, hs, sliced, Result.andThen]
  intro _
  cases A with
  | none => rfl
  | some ad => simp [Addr.add]
/-- A store of one cell into a block that is known. -/
theorem wpList_put {ops : Array Oper} {rest : List Oper} {o : Oper} {a : Act} {Q : Exit → Act → World → Prop} (W : World) (hgd : o.guard = none) (hN : o.dst = none) (t : TypeId) (p x : Operand) (ho : o.op = .store t p x) (g k : Nat) (u : Value) (e : TypeId) (cur : Array Value)
    (haddr : a.eval p = .pointer (some ⟨g, k, none⟩)) (hx : a.eval x = u) (hu : u.cells.toList = [u]) (ht : (Try.prog.info? t).map (·.size) = some 1) (hh : W.heap[g]? = some (.cells cur e (0, 0))) (hfit : k + 1 ≤ cur.size) (h1 : u.oneCell' = true)
    (h : wpList Try.prog ops Q rest a (W.setCell ⟨g, k, none⟩ u)) : wpList Try.prog ops Q (o :: rest) a W := by
  refine wpList_plain hgd fun K hK => ?_
  have hrun : (Instr.storeAt t (.pointer (some ⟨g, k, none⟩)) u).run Try.prog W = .ok () (W.setCell ⟨g, k, none⟩ u) := run_store_run t u [u] hh hu ht hfit (fun q hq => by rw [List.mem_singleton.1 hq]; exact h1)
  unfold Oper.wp execOp
  simp only [ho, haddr, hx, Sem.run_bind, Sem.run_pure, Result.andThen_ok, hrun]
  show K (a.put o.dst undef) _
  rw [hN]
  exact hK a _ h
set_option maxHeartbeats 4000000 in
set_option maxRecDepth 100000 in
theorem over_none (w : World) : Calls Try.prog 55 #[.slice none 0 0] w fun e w' => e = .returned (.tuple #[]) ∧ Below w.heap.size w w' := by
  have hu58 := Try.underlying58
  have hS : ∀ W : World, (Instr.slice 58 (.slice none 0 0) none (some (.int .i64 0)) none).run Try.prog W = .ok (.slice none 0 0) W := fun W => slice58 W none 0 0
  go_enter Try.func55, Try.ntmps55
  go_wp2
  go_loopg [3] 0 (fun kq v3 w' => v3 = .int .i64 0 ∧ Aside0 (Below w.heap.size w w'))
  case atStart => exact ⟨rfl, ⟨Below.refl _ _⟩⟩
  case round =>
    obtain ⟨rfl, HB⟩ := hrel
    go_wp2
    first | go_ret | go_end0
    exact ⟨rfl, HB.out⟩
set_option maxHeartbeats 4000000 in
set_option maxRecDepth 100000 in
theorem over_some (base g n cap : Nat) (cur : Array Value) (w : World) (hbase : base ≤ g) (hm : cap ≤ maxLen) (hg : w.heap[g]? = some (.cells cur 9 (0, 0))) (hsz : cur.size = cap) (hstr : ∀ u ∈ cur.toList, ∃ s : ByteArray, u = Value.string s ∧ s.size ≤ 1000) :
    Calls Try.prog 55 #[.slice (some ⟨g, 0, none⟩) n cap] w fun e w' => e = .returned (.tuple #[]) ∧ Below base w w' := by
  have hu58 := Try.underlying58
  obtain ⟨ad, had⟩ : ∃ ad, Aside0 (ad = (⟨g, 0, none⟩ : Addr)) := ⟨_, ⟨rfl⟩⟩
  rw [← had.out]
  have hS : ∀ W : World, (Instr.slice 58 (.slice (some ad) n cap) none (some (.int .i64 (cap : Int))) none).run Try.prog W = .ok (.slice (some ad) cap cap) W := fun W => slice58 W (some ad) n cap
  have HM : Aside0 (cap ≤ 9223372036854775807) := ⟨by simp only [maxLen] at hm; omega⟩
  have HG := Aside0.mk hbase
  have H0 : Aside0 (∃ cur : Array Value, w.heap[g]? = some (.cells cur 9 (0, 0)) ∧ cur.size = cap ∧ ∀ j : Nat, (0 : Int) ≤ j → ∀ u, cur[j]? = some u → ∃ s : ByteArray, u = Value.string s ∧ s.size ≤ 1000) := ⟨⟨cur, hg, hsz, fun j _ u hu => hstr u (by rw [← Array.getElem?_toList] at hu; exact List.mem_of_getElem? hu)⟩⟩
  clear hbase hm hg hsz hstr
  go_enter Try.func55, Try.ntmps55
  go_wp2
  go_loopg [3] cap (fun kq v3 w' => ∃ i : Int, v3 = .int .i64 i ∧ Aside0 (0 ≤ i ∧ i + kq = cap) ∧ Aside0 (∃ cur : Array Value, w'.heap[g]? = some (.cells cur 9 (0, 0)) ∧ cur.size = cap ∧ ∀ j : Nat, i ≤ (j : Int) → ∀ u, cur[j]? = some u → ∃ s : ByteArray, u = Value.string s ∧ s.size ≤ 1000) ∧ Aside0 (Below base w w'))
  case atStart => exact ⟨0, rfl, ⟨by omega, by omega⟩, H0, ⟨Below.refl _ _⟩⟩
  case round =>
    clear H0
    obtain ⟨i, rfl, HI, HC, HB⟩ := hrel
    cases gk with
    | zero =>
      have hi := HI.out
      have q109 : decide (i < (cap : Int)) = false := decide_eq_false (by omega)
      clear hi
      go_wp2
      first | go_ret | go_end0
      exact ⟨rfl, HB.out⟩
    | succ k1 =>
      have hi := HI.out
      have p108 : 0 ≤ i := hi.1
      have q108 : i < (cap : Int) := by omega
      have cb1 : decide (i < (cap : Int)) = true := decide_eq_true q108
      have hadd : wrap64 (i + 1) = i + 1 := by have := HM.out; unfold wrap64; omega
      obtain ⟨cur, h1, h2, h3⟩ := HC.out
      obtain ⟨u, hu⟩ : ∃ u, cur[i.toNat]? = some u := ⟨_, Array.getElem?_eq_getElem (by omega)⟩
      obtain ⟨s, rfl, hsb⟩ := h3 i.toNat (by omega) u hu
      have hcat1 : (9223372036854775807 < s.size + 1) = False := eq_false (by omega)
      have hcat2 : (s.size + (⟨#[33]⟩ : ByteArray).size > 9223372036854775807) = False := eq_false (show ¬ (s.size + 1 > 9223372036854775807) by omega)
      have hcat3 : (9223372036854775807 < s.size + (⟨#[33]⟩ : ByteArray).size) = False := hcat2
      have hc : wr.cell? (ad.add i.toNat) = some (.string s) := by rw [had.out, add_at]; exact (blk_cell h1 i.toNat).trans hu
      have HG1 := Aside0.mk h1
      have HSz := Aside0.mk h2
      have HStr := Aside0.mk h3
      have HIl : Aside0 (i.toNat < cap) := ⟨by omega⟩
      replace p108 := eq_true p108
      replace q108 := eq_true q108
      clear hi h1 h2 h3 hu HC hsb
      obtain ⟨s2, hs2⟩ : ∃ s2, Aside0 (s2 = s ++ (⟨#[33]⟩ : ByteArray)) := ⟨_, ⟨rfl⟩⟩
      go_wp2_with (first | (refine wpList_put _ rfl rfl 9 (.tmp 21) (.tmp 20) rfl g i.toNat (.string (s ++ ⟨#[33]⟩)) 9 cur (show Value.pointer (some (ad.add i.toNat)) = _ by rw [had.out, add_at]) rfl rfl info9s HG1.out (by have := HSz.out; have := HIl.out; omega) rfl ?_))
      have HBn : Aside0 (Below base w (wr.setCell ⟨g, i.toNat, none⟩ (.string (s ++ ⟨#[33]⟩)))) := ⟨HB.out.setCell HG.out _⟩
      have HCn : Aside0 (∃ cur : Array Value, (wr.setCell ⟨g, i.toNat, none⟩ (.string (s ++ ⟨#[33]⟩))).heap[g]? = some (.cells cur 9 (0, 0)) ∧ cur.size = cap ∧ ∀ j : Nat, i + 1 ≤ (j : Int) → ∀ u, cur[j]? = some u → ∃ s : ByteArray, u = Value.string s ∧ s.size ≤ 1000) := ⟨⟨_, blk_set HG1.out _ _, by rw [Array.size_setIfInBounds]; exact HSz.out, fun j hj u hu => by
        rw [Array.getElem?_setIfInBounds, if_neg (by have := HI.out; omega)] at hu
        exact HStr.out j (by omega) u hu⟩⟩
      go_roundg k1
      case measure => omega
      case rel => exact ⟨i + 1, by rw [hadd], ⟨by have := HI.out; omega, by have := HI.out; omega⟩, HCn, HBn⟩
theorem over_calls (base n cap : Nat) (A : Option Addr) (w : World) (h : OwnStr w base A n cap) (hb : base ≤ w.heap.size) : Calls Try.prog 55 #[.slice A n cap] w fun e w' => e = .returned (.tuple #[]) ∧ Below base w w' := by
  rcases h with ⟨rfl, rfl, rfl⟩ | ⟨g, cur, rfl, h1, h2, h3, h4, h5, h6⟩
  · exact (over_none w).mono (fun e w' h => ⟨h.1, h.2.mono hb⟩)
  · exact over_some base g n cap cur w h1 h3 h4 h5 h6
theorem makes_alike {L W : List Sty} (h : Alike L W) : ∀ (k : Nat) (n : ByteArray), makesF L k n = makesF W k n
  | 0, _ => rfl
  | k + 1, n => by
    simp only [makesF]
    rw [h.upL, h.setsL, makes_alike h k]
theorem alike_none {L W : List Sty} (h : Alike L W) (n : ByteArray) : fnd L n = none ↔ fnd W n = none := by
  rw [h.same]
theorem perm_of_len {α : Type} [DecidableEq α] : ∀ (l m : List α), l.Nodup → (∀ x, x ∈ l → x ∈ m) → m.length = l.length → m.Perm l
  | [], m, _, _, h => by rw [List.eq_nil_of_length_eq_zero h]
  | a :: l, m, hn, hs, h => by
    obtain ⟨h1, h2⟩ := List.nodup_cons.1 hn
    have ha := hs a List.mem_cons_self
    refine (List.perm_cons_erase ha).trans (List.Perm.cons a (perm_of_len l (m.erase a) h2 (fun x hx => (List.mem_erase_of_ne (fun (e : x = a) => h1 (e ▸ hx))).2 (hs x (List.mem_cons_of_mem _ hx))) ?_))
    rw [List.length_erase_of_mem ha, h, List.length_cons]
    rfl
theorem names_same {L W : List Sty} (h : Alike L W) {ns : List ByteArray} (hl : ns.length = L.length) (hm : ∀ a, a ∈ ns ↔ a ∈ L.map (·.1)) (hp : (ns.map (·.data.toList)).Pairwise (fun a b => a ≤ b)) : ns = W.map (·.1) := by
  refine h.sorted (perm_of_len (nms L) (ns.map bs) h.nodup (fun x hx => ?_) ?_) hp
  · obtain ⟨s, hs, rfl⟩ := List.mem_map.1 hx
    exact List.mem_map.2 ⟨s.1, (hm s.1).2 (List.mem_map.2 ⟨s, hs, rfl⟩), rfl⟩
  · unfold nms
    rw [List.length_map, List.length_map, hl]
theorem res_alike {L W : List Sty} (h : Alike L W) (e : Int) (n : ByteArray) : resE e W n = resE e L n := by
  unfold resE
  by_cases c : n ≠ ⟨#[]⟩ ∧ fnd L n = none
  · rw [if_pos c, if_pos ⟨c.1, (alike_none h n).1 c.2⟩]
  · rw [if_neg c, if_neg (fun c2 => c ⟨c2.1, (alike_none h n).2 c2.2⟩)]
theorem resF_alike {L W : List Sty} (h : Alike L W) (e : Int) (f : Int → Int) (n : ByteArray) (own : List S37) : resF e f W n own = resF e f L n own := by
  unfold resF
  rw [res_alike h]
theorem eq_row (f : Int → Int) (w : World) : (Op.equalIn 10000 23 (.agg (row f)) (.agg (row f))).run Try.prog w = .ok true w := by
  unfold row
  rw [eqA23]
  simp
theorem OwnStr.lower {w : World} {base base2 n cap : Nat} {A : Option Addr} (h : OwnStr w base2 A n cap) (hb : base ≤ base2) : OwnStr w base A n cap := by
  rcases h with h | ⟨g, cur, e1, h1, h2⟩
  · exact .inl h
  · exact .inr ⟨g, cur, e1, Nat.le_trans hb h1, h2⟩
set_option maxHeartbeats 8000000 in
set_option maxRecDepth 100000 in
theorem told_miss (gs gm p : Nat) (L W : List Sty) (n : ByteArray) (v : Value) (own : List S37) (w : World) (hs : Sheet w gs gm L) (hr : RSheet w p W) (hL : LI L) (hR : RI W) (ha : Alike L W) (hv : Sl w v own) (hf : fnd L n = none) :
    Calls Try.prog 36 #[.pointer (some ⟨gs, 0, none⟩), .pointer (some ⟨p, 0, none⟩), .string n, v] w fun e w' => e = .returned (.bool true) ∧ Below w.heap.size w w' := by
  have hu23 := Try.underlying23
  have hu71 := Try.underlying71
  have hu69 := Try.underlying69
  have hu99 := Try.underlying99
  obtain ⟨ks, hks⟩ := settings_total own
  obtain ⟨kf, hkf⟩ := hL.ends n
  obtain ⟨f, hmk⟩ := makes_total L kf n hkf
  have hmk2 := (makes_alike ha (kf + 1) n).symm.trans hmk
  have HS := Aside0.mk hs
  have HRs := Aside0.mk hr
  obtain ⟨A0, c0, rfl, z2, z3⟩ := id hv
  obtain ⟨no, hno⟩ : ∃ no, no = own.length := ⟨_, rfl⟩
  rw [← hno]
  have HV : Aside0 (Sl w (.slice A0 no c0) own) := ⟨by rw [hno]; exact hv⟩
  have HR1 : Aside0 (∀ w', Sheet w' gs gm L → Sl w' (.slice A0 no c0) own → Calls Try.prog 24 #[.pointer (some ⟨gs, 0, none⟩), .string n, .slice A0 no c0] w' fun x w'' => x = .returned (.tuple #[.agg (row (resF (setE own) f L n own)), .int .i64 (resE (setE own) L n)]) ∧ Below w'.heap.size w' w'') := ⟨fun w' h1 h2 => resolve_calls gs gm L n _ own w' h1 h2 ks (kf + 1) (setE own) f hL.fits hks (fun h => (setE_zero h).1) hmk⟩
  have HR2 : Aside0 (∀ w', RSheet w' p W → Sl w' (.slice A0 no c0) own → Calls Try.prog 53 #[.pointer (some ⟨p, 0, none⟩), .string n, .slice A0 no c0] w' fun x w'' => x = .returned (.tuple #[.agg (row (resF (setE own) f L n own)), .int .i64 (resE (setE own) L n)]) ∧ Below w'.heap.size w' w'') := ⟨fun w' h1 h2 => by
    have := rresolve_calls p W n _ own w' h1 hR h2 (kf + 1) f hmk2
    rw [resF_alike ha, res_alike ha] at this
    exact this⟩
  have HNm : Aside0 (∀ w', Sheet w' gs gm L → Calls Try.prog 26 #[.pointer (some ⟨gs, 0, none⟩)] w' fun x w'' => ∃ (B : Option Addr) (cap nn : Nat), x = .returned (.slice B nn cap) ∧ nn = (W.map (·.1)).length ∧ TX w'' B (W.map (·.1)) ∧ OwnStr w'' w'.heap.size B nn cap ∧ Below w'.heap.size w' w'') := ⟨fun w' h1 => (names_callsS gs gm L w' h1 (fun s hs => (hL.names s hs).2) hL.len).mono (by
    rintro x w'' ⟨B, cap, ns, rfl, h2, h3, h4, h5, h6, h7⟩
    obtain rfl := names_same ha h2 h3 h4
    exact ⟨B, cap, _, rfl, rfl, h5, h6, h7⟩)⟩
  have HRn : Aside0 (∀ w', RSheet w' p W → Calls Try.prog 54 #[.pointer (some ⟨p, 0, none⟩)] w' fun x w'' => ∃ (B : Option Addr) (cap nn : Nat), x = .returned (.slice B nn cap) ∧ nn = (W.map (·.1)).length ∧ TX w'' B (W.map (·.1)) ∧ Below w'.heap.size w' w'') := ⟨fun w' h1 => (rnames_calls p W w' h1 (Nat.le_trans hR.len (by decide))).mono (by
    rintro x w'' ⟨B, cap, rfl, h2, h3⟩
    exact ⟨B, cap, _, rfl, (List.length_map _).symm, h2, h3⟩)⟩
  have HSame : Aside0 (∀ (B1 B2 : Option Addr) (n1 n2 c1 c2 : Nat) w', n1 = (W.map (·.1)).length → n2 = (W.map (·.1)).length → TX w' B1 (W.map (·.1)) → TX w' B2 (W.map (·.1)) → Calls Try.prog 30 #[.slice B1 n1 c1, .slice B2 n2 c2] w' fun x w'' => x = .returned (.bool true) ∧ Below w'.heap.size w' w'') := ⟨fun B1 B2 n1 n2 c1 c2 w' e1 e2 h1 h2 => by
    subst e1 e2
    refine (same_calls B1 B2 c1 c2 _ _ w' (by rw [List.length_map]; exact Nat.le_trans hR.len (by decide)) h1 h2).mono ?_
    rintro x w'' ⟨⟨b, rfl, hb⟩, h3⟩
    exact ⟨by rw [hb.2 rfl], h3⟩⟩
  have HPa : Aside0 (∀ w', Sheet w' gs gm L → Calls Try.prog 27 #[.pointer (some ⟨gs, 0, none⟩), .string n] w' fun x w'' => x = .returned (.tuple #[.string ⟨#[]⟩, .int .i64 6]) ∧ Below w'.heap.size w' w'') := ⟨fun w' h1 => parent_miss gs gm L n w' h1 hf⟩
  have HAt : Aside0 (∀ w', RSheet w' p W → Calls Try.prog 51 #[.pointer (some ⟨p, 0, none⟩), .string n] w' fun e w'' => e = .returned (.int .i64 (-1)) ∧ w'' = w') := ⟨fun w' h1 => at_fix p W n (-1) w' h1 (Nat.le_trans hR.len (by decide)) (.inl ⟨rfl, (alike_none ha n).1 hf⟩)⟩
  have Z1 : Aside0 ((row (resF (setE own) f L n own)).size = 17) := ⟨rfl⟩
  have O1 : Aside0 ((row (resF (setE own) f L n own)).all (·.oneCell') = true) := ⟨row_all _⟩
  have E1 := eq_row (resF (setE own) f L n own)
  generalize row (resF (setE own) f L n own) = R1 at HR1 HR2 Z1 O1 E1
  generalize resE (setE own) L n = er at HR1 HR2
  have ce : (er == er) = true := beq_self_eq_true er
  have ce2 : decide (er = er) = true := decide_eq_true rfl
  clear hs hr hL hR ha hv hf hks hkf hmk hmk2 z2 z3 hno
  have HB : Aside0 (Below w.heap.size w w) := ⟨Below.refl _ _⟩
  go_enter Try.func36, Try.ntmps36
  go_upto_region 11 with (first | (go_at_call 24; with_reducible refine (HR1.out _ (HS.out.below HB.out) (HV.out.below HB.out)).mono ?_; rintro x wz ⟨rfl, hb⟩; have HBn := Aside0.mk (below_step HB.out hb); clear HB hb; have HB := HBn; clear HBn) | (go_at_call 53; with_reducible refine (HR2.out _ (HRs.out.below HB.out) (HV.out.below HB.out)).mono ?_; rintro x wz ⟨rfl, hb⟩; have HBn := Aside0.mk (below_step HB.out hb); have BKn9 := Aside0.mk (blk_below BK9.out hb); clear HB hb BK9; have HB := HBn; clear HBn; have BK9 := BKn9; clear BKn9) | (go_at_call 26; with_reducible refine (HNm.out _ (HS.out.below HB.out)).mono ?_; rintro x wz ⟨B1, cap1, n1, rfl, hn1, ht1, ho1, hb⟩; have HBn := Aside0.mk (below_step HB.out hb); have BKn9 := Aside0.mk (blk_below BK9.out hb); have BKn11 := Aside0.mk (blk_below BK11.out hb); have HN1 := Aside0.mk hn1; have HT1 := Aside0.mk ht1; have HO1 : Aside0 (OwnStr wz w.heap.size B1 n1 cap1) := ⟨ho1.lower (below_size HB.out)⟩; clear hn1 ht1 ho1; clear HB hb BK9 BK11; have HB := HBn; clear HBn; have BK9 := BKn9; clear BKn9; have BK11 := BKn11; clear BKn11) | (go_at_call 27; with_reducible refine (HPa.out _ (HS.out.below HB.out)).mono ?_; rintro x wz ⟨rfl, hb⟩; have HBn := Aside0.mk (below_step HB.out hb); have BKn9 := Aside0.mk (blk_below BK9.out hb); have BKn11 := Aside0.mk (blk_below BK11.out hb); have HTn := Aside0.mk (HT1.out.below hb); have HOn := Aside0.mk (HO1.out.below hb); clear HT1 HO1; have HT1 := HTn; have HO1 := HOn; clear HTn HOn; clear HB hb BK9 BK11; have HB := HBn; clear HBn; have BK9 := BKn9; clear BKn9; have BK11 := BKn11; clear BKn11) | (go_at_call 51; with_reducible refine (HAt.out _ (HRs.out.below HB.out)).mono ?_; rintro x wz ⟨rfl, hw⟩; rw [hw]; clear hw) | ((with_reducible refine gate_dst (N := 9) rfl ?_); refine box_event ?hg (N := 9) ?hd (cs := #[.int .i64 0, .int .i64 0, .int .i64 0, .int .i64 0, .int .i64 0, .int .i64 0, .int .i64 0, .int .i64 0, .int .i64 0, .int .i64 0, .int .i64 0, .int .i64 0, .int .i64 0, .int .i64 0, .int .i64 0, .int .i64 0, .int .i64 0]) (t := 23) ?hr ?_; (case hd => rfl); (case hg => rfl); (case hr => first | (go_simp; done) | (go_simp; rfl)); intro g9 hg wb hbox hb; have GE9 : Aside0 (w.heap.size ≤ g9) := ⟨by rw [hg]; exact below_size HB.out⟩; have HBn := Aside0.mk (below_step HB.out hb); have BK9 := Aside0.mk hbox; have NE9 : Aside0 (∀ k, k < w.heap.size → k ≠ g9) := ⟨fun k hk e => by have := GE9.out; omega⟩; have GN9 := Aside0.mk hg; clear HB; have HB := HBn; clear HBn hb hbox hg) | ((with_reducible refine gate_store (t := 23) (p := 9) rfl ?_); refine wpList_store_row rfl 23 (.tmp 9) (.tmp 23) rfl g9 R1 rfl rfl 23 #[.int .i64 0, .int .i64 0, .int .i64 0, .int .i64 0, .int .i64 0, .int .i64 0, .int .i64 0, .int .i64 0, .int .i64 0, .int .i64 0, .int .i64 0, .int .i64 0, .int .i64 0, .int .i64 0, .int .i64 0, .int .i64 0, .int .i64 0] BK9.out (by rw [Z1.out]; exact info23) (by rw [Z1.out]; rfl) O1.out ?_; have HBn := Aside0.mk (below_setRow HB.out GE9.out R1); have BKn := Aside0.mk (setRow_heap _ g9 _ R1 23 (0, 0) BK9.out); clear HB BK9; have HB := HBn; have BK9 := BKn; clear HBn BKn; generalize World.setRow _ g9 R1 = wq at HB BK9 ⊢) | ((with_reducible refine gate_dst (N := 11) rfl ?_); refine box_event ?hg (N := 11) ?hd (cs := #[.int .i64 0, .int .i64 0, .int .i64 0, .int .i64 0, .int .i64 0, .int .i64 0, .int .i64 0, .int .i64 0, .int .i64 0, .int .i64 0, .int .i64 0, .int .i64 0, .int .i64 0, .int .i64 0, .int .i64 0, .int .i64 0, .int .i64 0]) (t := 23) ?hr ?_; (case hd => rfl); (case hg => rfl); (case hr => first | (go_simp; done) | (go_simp; rfl)); intro g11 hg wb hbox hb; have GE11 : Aside0 (w.heap.size ≤ g11) := ⟨by rw [hg]; exact below_size HB.out⟩; have HBn := Aside0.mk (below_step HB.out hb); have BK11 := Aside0.mk hbox; have OLD9 : Aside0 (g9 ≠ g11) := ⟨by rw [hg]; exact Nat.ne_of_lt (blk_lt BK9.out)⟩; have BKn := Aside0.mk (blk_below BK9.out hb); clear BK9; have BK9 := BKn; clear BKn; have NE11 : Aside0 (∀ k, k < w.heap.size → k ≠ g11) := ⟨fun k hk e => by have := GE11.out; omega⟩; have GN11 := Aside0.mk hg; clear HB; have HB := HBn; clear HBn hb hbox hg) | ((with_reducible refine gate_store (t := 23) (p := 11) rfl ?_); refine wpList_store_row rfl 23 (.tmp 11) (.tmp 30) rfl g11 R1 rfl rfl 23 #[.int .i64 0, .int .i64 0, .int .i64 0, .int .i64 0, .int .i64 0, .int .i64 0, .int .i64 0, .int .i64 0, .int .i64 0, .int .i64 0, .int .i64 0, .int .i64 0, .int .i64 0, .int .i64 0, .int .i64 0, .int .i64 0, .int .i64 0] BK11.out (by rw [Z1.out]; exact info23) (by rw [Z1.out]; rfl) O1.out ?_; have HBn := Aside0.mk (below_setRow HB.out GE11.out R1); have BKn := Aside0.mk (setRow_heap _ g11 _ R1 23 (0, 0) BK11.out); clear HB BK11; have HB := HBn; have BK11 := BKn; clear HBn BKn; have BKn := Aside0.mk ((setRow_other _ g11 g9 R1 OLD9.out).trans BK9.out); clear BK9; have BK9 := BKn; clear BKn; generalize World.setRow _ g11 R1 = wq at HB BK11 BK9 ⊢))
  go_wp2_with (first | ((with_reducible refine gate_dst (N := 65) rfl ?_); refine wpList_load_row rfl 23 (.tmp 9) rfl g9 rfl 23 R1 (0, 0) _ BK9.out Try.underlying23 rfl (by rw [Z1.out]; exact info23) ?_) | ((with_reducible refine gate_dst (N := 66) rfl ?_); refine wpList_load_row rfl 23 (.tmp 11) rfl g11 rfl 23 R1 (0, 0) _ BK11.out Try.underlying23 rfl (by rw [Z1.out]; exact info23) ?_) | (go_at_call 54; with_reducible refine (HRn.out _ (HRs.out.below HB.out)).mono ?_; rintro x wz ⟨B2, cap2, n2, rfl, hn2, ht2, hb⟩; have HBn := Aside0.mk (below_step HB.out hb); have HN2 := Aside0.mk hn2; have HT2 := Aside0.mk ht2; have HTn := Aside0.mk (HT1.out.below hb); have HOn := Aside0.mk (HO1.out.below hb); clear HT1 HO1 hn2 ht2; have HT1 := HTn; have HO1 := HOn; clear HTn HOn; clear HB hb; have HB := HBn; clear HBn) | (go_at_call 30; with_reducible refine (HSame.out _ _ _ _ _ _ _ HN1.out HN2.out HT1.out HT2.out).mono ?_; rintro x wz ⟨rfl, hb⟩; have HBn := Aside0.mk (below_step HB.out hb); have HOn := Aside0.mk (HO1.out.below hb); clear HO1; have HO1 := HOn; clear HOn; clear HB hb; have HB := HBn; clear HBn) | (go_at_call 55; with_reducible refine (over_calls w.heap.size _ _ _ _ HO1.out (below_size HB.out)).mono ?_; rintro x wz ⟨rfl, hb⟩; have HBn := Aside0.mk (HB.out.trans hb); clear HB hb; have HB := HBn; clear HBn))
  go_ret
  exact ⟨rfl, HB.out⟩
set_option maxHeartbeats 8000000 in
set_option maxRecDepth 100000 in
theorem told_there (gs gm p : Nat) (L W : List Sty) (n : ByteArray) (v : Value) (own : List S37) (w : World) (hs : Sheet w gs gm L) (hr : RSheet w p W) (hL : LI L) (hR : RI W) (ha : Alike L W) (hv : Sl w v own) (hf : (fnd L n).isSome = true) :
    Calls Try.prog 36 #[.pointer (some ⟨gs, 0, none⟩), .pointer (some ⟨p, 0, none⟩), .string n, v] w fun e w' => e = .returned (.bool true) ∧ Below w.heap.size w w' := by
  have hu23 := Try.underlying23
  have hu71 := Try.underlying71
  have hu69 := Try.underlying69
  have hu99 := Try.underlying99
  obtain ⟨ks, hks⟩ := settings_total own
  obtain ⟨kf, hkf⟩ := hL.ends n
  obtain ⟨f, hmk⟩ := makes_total L kf n hkf
  have hmk2 := (makes_alike ha (kf + 1) n).symm.trans hmk
  have HS := Aside0.mk hs
  have HRs := Aside0.mk hr
  obtain ⟨A0, c0, rfl, z2, z3⟩ := id hv
  obtain ⟨no, hno⟩ : ∃ no, no = own.length := ⟨_, rfl⟩
  rw [← hno]
  have HV : Aside0 (Sl w (.slice A0 no c0) own) := ⟨by rw [hno]; exact hv⟩
  have HR1 : Aside0 (∀ w', Sheet w' gs gm L → Sl w' (.slice A0 no c0) own → Calls Try.prog 24 #[.pointer (some ⟨gs, 0, none⟩), .string n, .slice A0 no c0] w' fun x w'' => x = .returned (.tuple #[.agg (row (resF (setE own) f L n own)), .int .i64 (resE (setE own) L n)]) ∧ Below w'.heap.size w' w'') := ⟨fun w' h1 h2 => resolve_calls gs gm L n _ own w' h1 h2 ks (kf + 1) (setE own) f hL.fits hks (fun h => (setE_zero h).1) hmk⟩
  have HR2 : Aside0 (∀ w', RSheet w' p W → Sl w' (.slice A0 no c0) own → Calls Try.prog 53 #[.pointer (some ⟨p, 0, none⟩), .string n, .slice A0 no c0] w' fun x w'' => x = .returned (.tuple #[.agg (row (resF (setE own) f L n own)), .int .i64 (resE (setE own) L n)]) ∧ Below w'.heap.size w' w'') := ⟨fun w' h1 h2 => by
    have := rresolve_calls p W n _ own w' h1 hR h2 (kf + 1) f hmk2
    rw [resF_alike ha, res_alike ha] at this
    exact this⟩
  have HNm : Aside0 (∀ w', Sheet w' gs gm L → Calls Try.prog 26 #[.pointer (some ⟨gs, 0, none⟩)] w' fun x w'' => ∃ (B : Option Addr) (cap nn : Nat), x = .returned (.slice B nn cap) ∧ nn = (W.map (·.1)).length ∧ TX w'' B (W.map (·.1)) ∧ OwnStr w'' w'.heap.size B nn cap ∧ Below w'.heap.size w' w'') := ⟨fun w' h1 => (names_callsS gs gm L w' h1 (fun s hs => (hL.names s hs).2) hL.len).mono (by
    rintro x w'' ⟨B, cap, ns, rfl, h2, h3, h4, h5, h6, h7⟩
    obtain rfl := names_same ha h2 h3 h4
    exact ⟨B, cap, _, rfl, rfl, h5, h6, h7⟩)⟩
  have HRn : Aside0 (∀ w', RSheet w' p W → Calls Try.prog 54 #[.pointer (some ⟨p, 0, none⟩)] w' fun x w'' => ∃ (B : Option Addr) (cap nn : Nat), x = .returned (.slice B nn cap) ∧ nn = (W.map (·.1)).length ∧ TX w'' B (W.map (·.1)) ∧ Below w'.heap.size w' w'') := ⟨fun w' h1 => (rnames_calls p W w' h1 (Nat.le_trans hR.len (by decide))).mono (by
    rintro x w'' ⟨B, cap, rfl, h2, h3⟩
    exact ⟨B, cap, _, rfl, (List.length_map _).symm, h2, h3⟩)⟩
  have HSame : Aside0 (∀ (B1 B2 : Option Addr) (n1 n2 c1 c2 : Nat) w', n1 = (W.map (·.1)).length → n2 = (W.map (·.1)).length → TX w' B1 (W.map (·.1)) → TX w' B2 (W.map (·.1)) → Calls Try.prog 30 #[.slice B1 n1 c1, .slice B2 n2 c2] w' fun x w'' => x = .returned (.bool true) ∧ Below w'.heap.size w' w'') := ⟨fun B1 B2 n1 n2 c1 c2 w' e1 e2 h1 h2 => by
    subst e1 e2
    refine (same_calls B1 B2 c1 c2 _ _ w' (by rw [List.length_map]; exact Nat.le_trans hR.len (by decide)) h1 h2).mono ?_
    rintro x w'' ⟨⟨b, rfl, hb⟩, h3⟩
    exact ⟨by rw [hb.2 rfl], h3⟩⟩
  obtain ⟨u, hu⟩ : ∃ u, u = upL L n := ⟨_, rfl⟩
  have HPa : Aside0 (∀ w', Sheet w' gs gm L → Calls Try.prog 27 #[.pointer (some ⟨gs, 0, none⟩), .string n] w' fun x w'' => x = .returned (.tuple #[.string u, .int .i64 0]) ∧ Below w'.heap.size w' w'') := ⟨fun w' h1 => by rw [hu]; exact parent_there gs gm L n w' h1 hf⟩
  obtain ⟨i, hi⟩ := AtIs.ex W n
  have hfW : (fnd W n).isSome = true := by rw [← ha.same]; exact hf
  obtain ⟨i0, s, hs1, hs2, hs3⟩ : 0 ≤ i ∧ ∃ s, W[i.toNat]? = some s ∧ s.1 = n ∧ fnd W n = some s := by
    rcases hi with ⟨_, h1⟩ | ⟨h0, h1, _⟩
    · rw [h1] at hfW; cases hfW
    · exact ⟨h0, h1⟩
  have HAt : Aside0 (∀ w', RSheet w' p W → Calls Try.prog 51 #[.pointer (some ⟨p, 0, none⟩), .string n] w' fun e w'' => e = .returned (.int .i64 i) ∧ w'' = w') := ⟨fun w' h1 => at_fix p W n i w' h1 (Nat.le_trans hR.len (by decide)) hi⟩
  have hup : u = s.2.1 := by rw [hu, ha.upL]; unfold upL; rw [hs3]; rfl
  obtain ⟨A, c, M, h1, hc, hC, hrd⟩ := id hr
  have hMl := reads_len hrd
  obtain ⟨m, hm⟩ : ∃ m, M[i.toNat]? = some m := ⟨_, List.getElem?_eq_getElem (by have := (List.getElem?_eq_some_iff.1 hs1).1; omega)⟩
  obtain ⟨ad, ea, _, hx1, _⟩ := at_St hC i.toNat m hm rfl
  obtain ⟨s', hs', _, g2, _⟩ := reads_get hrd hm
  obtain rfl : s = s' := by rw [hs1] at hs'; exact Option.some.inj hs'
  subst ea
  rw [← g2, ← hup] at hx1
  obtain ⟨nl, hnl⟩ : ∃ nl, nl = M.length := ⟨_, rfl⟩
  have hlt : i < (nl : Int) := by have := (List.getElem?_eq_some_iff.1 hm).1; omega
  rw [← hnl] at h1
  have HX1 := Aside0.mk hx1
  have H1 := Aside0.mk h1
  have d0 : decide (i < 0) = false := decide_eq_false (by omega)
  have p108 := eq_true i0
  have q108 := eq_true hlt
  have c' := ba_refl u
  have c'' : (u.toList == u.toList) = true := beq_self_eq_true _
  clear hfW hi i0 hs1 hs2 hs3 hup hc hC hrd hMl hm g2 hs' hlt hx1 h1 hnl hu
  have Z1 : Aside0 ((row (resF (setE own) f L n own)).size = 17) := ⟨rfl⟩
  have O1 : Aside0 ((row (resF (setE own) f L n own)).all (·.oneCell') = true) := ⟨row_all _⟩
  have E1 := eq_row (resF (setE own) f L n own)
  generalize row (resF (setE own) f L n own) = R1 at HR1 HR2 Z1 O1 E1
  generalize resE (setE own) L n = er at HR1 HR2
  have ce : (er == er) = true := beq_self_eq_true er
  have ce2 : decide (er = er) = true := decide_eq_true rfl
  clear hs hr hL hR ha hv hf hks hkf hmk hmk2 z2 z3 hno
  have HB : Aside0 (Below w.heap.size w w) := ⟨Below.refl _ _⟩
  go_enter Try.func36, Try.ntmps36
  go_upto_region 11 with (first | (go_at_call 24; with_reducible refine (HR1.out _ (HS.out.below HB.out) (HV.out.below HB.out)).mono ?_; rintro x wz ⟨rfl, hb⟩; have HBn := Aside0.mk (below_step HB.out hb); clear HB hb; have HB := HBn; clear HBn) | (go_at_call 53; with_reducible refine (HR2.out _ (HRs.out.below HB.out) (HV.out.below HB.out)).mono ?_; rintro x wz ⟨rfl, hb⟩; have HBn := Aside0.mk (below_step HB.out hb); have BKn9 := Aside0.mk (blk_below BK9.out hb); clear HB hb BK9; have HB := HBn; clear HBn; have BK9 := BKn9; clear BKn9) | (go_at_call 26; with_reducible refine (HNm.out _ (HS.out.below HB.out)).mono ?_; rintro x wz ⟨B1, cap1, n1, rfl, hn1, ht1, ho1, hb⟩; have HBn := Aside0.mk (below_step HB.out hb); have BKn9 := Aside0.mk (blk_below BK9.out hb); have BKn11 := Aside0.mk (blk_below BK11.out hb); have HN1 := Aside0.mk hn1; have HT1 := Aside0.mk ht1; have HO1 : Aside0 (OwnStr wz w.heap.size B1 n1 cap1) := ⟨ho1.lower (below_size HB.out)⟩; clear hn1 ht1 ho1; clear HB hb BK9 BK11; have HB := HBn; clear HBn; have BK9 := BKn9; clear BKn9; have BK11 := BKn11; clear BKn11) | (go_at_call 27; with_reducible refine (HPa.out _ (HS.out.below HB.out)).mono ?_; rintro x wz ⟨rfl, hb⟩; have HBn := Aside0.mk (below_step HB.out hb); have BKn9 := Aside0.mk (blk_below BK9.out hb); have BKn11 := Aside0.mk (blk_below BK11.out hb); have HTn := Aside0.mk (HT1.out.below hb); have HOn := Aside0.mk (HO1.out.below hb); clear HT1 HO1; have HT1 := HTn; have HO1 := HOn; clear HTn HOn; clear HB hb BK9 BK11; have HB := HBn; clear HBn; have BK9 := BKn9; clear BKn9; have BK11 := BKn11; clear BKn11) | (go_at_call 51; with_reducible refine (HAt.out _ (HRs.out.below HB.out)).mono ?_; rintro x wz ⟨rfl, hw⟩; rw [hw]; clear hw; have e0 := (blk_cell (blk_below H1.out HB.out) 0).trans rfl; have e1 := (HB.out.cell (World.block_lt_of_cell? w _ HX1.out)).trans HX1.out) | ((with_reducible refine gate_dst (N := 9) rfl ?_); refine box_event ?hg (N := 9) ?hd (cs := #[.int .i64 0, .int .i64 0, .int .i64 0, .int .i64 0, .int .i64 0, .int .i64 0, .int .i64 0, .int .i64 0, .int .i64 0, .int .i64 0, .int .i64 0, .int .i64 0, .int .i64 0, .int .i64 0, .int .i64 0, .int .i64 0, .int .i64 0]) (t := 23) ?hr ?_; (case hd => rfl); (case hg => rfl); (case hr => first | (go_simp; done) | (go_simp; rfl)); intro g9 hg wb hbox hb; have GE9 : Aside0 (w.heap.size ≤ g9) := ⟨by rw [hg]; exact below_size HB.out⟩; have HBn := Aside0.mk (below_step HB.out hb); have BK9 := Aside0.mk hbox; have NE9 : Aside0 (∀ k, k < w.heap.size → k ≠ g9) := ⟨fun k hk e => by have := GE9.out; omega⟩; have GN9 := Aside0.mk hg; clear HB; have HB := HBn; clear HBn hb hbox hg) | ((with_reducible refine gate_store (t := 23) (p := 9) rfl ?_); refine wpList_store_row rfl 23 (.tmp 9) (.tmp 23) rfl g9 R1 rfl rfl 23 #[.int .i64 0, .int .i64 0, .int .i64 0, .int .i64 0, .int .i64 0, .int .i64 0, .int .i64 0, .int .i64 0, .int .i64 0, .int .i64 0, .int .i64 0, .int .i64 0, .int .i64 0, .int .i64 0, .int .i64 0, .int .i64 0, .int .i64 0] BK9.out (by rw [Z1.out]; exact info23) (by rw [Z1.out]; rfl) O1.out ?_; have HBn := Aside0.mk (below_setRow HB.out GE9.out R1); have BKn := Aside0.mk (setRow_heap _ g9 _ R1 23 (0, 0) BK9.out); clear HB BK9; have HB := HBn; have BK9 := BKn; clear HBn BKn; generalize World.setRow _ g9 R1 = wq at HB BK9 ⊢) | ((with_reducible refine gate_dst (N := 11) rfl ?_); refine box_event ?hg (N := 11) ?hd (cs := #[.int .i64 0, .int .i64 0, .int .i64 0, .int .i64 0, .int .i64 0, .int .i64 0, .int .i64 0, .int .i64 0, .int .i64 0, .int .i64 0, .int .i64 0, .int .i64 0, .int .i64 0, .int .i64 0, .int .i64 0, .int .i64 0, .int .i64 0]) (t := 23) ?hr ?_; (case hd => rfl); (case hg => rfl); (case hr => first | (go_simp; done) | (go_simp; rfl)); intro g11 hg wb hbox hb; have GE11 : Aside0 (w.heap.size ≤ g11) := ⟨by rw [hg]; exact below_size HB.out⟩; have HBn := Aside0.mk (below_step HB.out hb); have BK11 := Aside0.mk hbox; have OLD9 : Aside0 (g9 ≠ g11) := ⟨by rw [hg]; exact Nat.ne_of_lt (blk_lt BK9.out)⟩; have BKn := Aside0.mk (blk_below BK9.out hb); clear BK9; have BK9 := BKn; clear BKn; have NE11 : Aside0 (∀ k, k < w.heap.size → k ≠ g11) := ⟨fun k hk e => by have := GE11.out; omega⟩; have GN11 := Aside0.mk hg; clear HB; have HB := HBn; clear HBn hb hbox hg) | ((with_reducible refine gate_store (t := 23) (p := 11) rfl ?_); refine wpList_store_row rfl 23 (.tmp 11) (.tmp 30) rfl g11 R1 rfl rfl 23 #[.int .i64 0, .int .i64 0, .int .i64 0, .int .i64 0, .int .i64 0, .int .i64 0, .int .i64 0, .int .i64 0, .int .i64 0, .int .i64 0, .int .i64 0, .int .i64 0, .int .i64 0, .int .i64 0, .int .i64 0, .int .i64 0, .int .i64 0] BK11.out (by rw [Z1.out]; exact info23) (by rw [Z1.out]; rfl) O1.out ?_; have HBn := Aside0.mk (below_setRow HB.out GE11.out R1); have BKn := Aside0.mk (setRow_heap _ g11 _ R1 23 (0, 0) BK11.out); clear HB BK11; have HB := HBn; have BK11 := BKn; clear HBn BKn; have BKn := Aside0.mk ((setRow_other _ g11 g9 R1 OLD9.out).trans BK9.out); clear BK9; have BK9 := BKn; clear BKn; generalize World.setRow _ g11 R1 = wq at HB BK11 BK9 ⊢))
  clear e0 e1
  go_wp2_with (first | ((with_reducible refine gate_dst (N := 65) rfl ?_); refine wpList_load_row rfl 23 (.tmp 9) rfl g9 rfl 23 R1 (0, 0) _ BK9.out Try.underlying23 rfl (by rw [Z1.out]; exact info23) ?_) | ((with_reducible refine gate_dst (N := 66) rfl ?_); refine wpList_load_row rfl 23 (.tmp 11) rfl g11 rfl 23 R1 (0, 0) _ BK11.out Try.underlying23 rfl (by rw [Z1.out]; exact info23) ?_) | (go_at_call 54; with_reducible refine (HRn.out _ (HRs.out.below HB.out)).mono ?_; rintro x wz ⟨B2, cap2, n2, rfl, hn2, ht2, hb⟩; have HBn := Aside0.mk (below_step HB.out hb); have HN2 := Aside0.mk hn2; have HT2 := Aside0.mk ht2; have HTn := Aside0.mk (HT1.out.below hb); have HOn := Aside0.mk (HO1.out.below hb); clear HT1 HO1 hn2 ht2; have HT1 := HTn; have HO1 := HOn; clear HTn HOn; clear HB hb; have HB := HBn; clear HBn) | (go_at_call 30; with_reducible refine (HSame.out _ _ _ _ _ _ _ HN1.out HN2.out HT1.out HT2.out).mono ?_; rintro x wz ⟨rfl, hb⟩; have HBn := Aside0.mk (below_step HB.out hb); have HOn := Aside0.mk (HO1.out.below hb); clear HO1; have HO1 := HOn; clear HOn; clear HB hb; have HB := HBn; clear HBn) | (go_at_call 55; with_reducible refine (over_calls w.heap.size _ _ _ _ HO1.out (below_size HB.out)).mono ?_; rintro x wz ⟨rfl, hb⟩; have HBn := Aside0.mk (HB.out.trans hb); clear HB hb; have HB := HBn; clear HBn))
  go_ret
  exact ⟨rfl, HB.out⟩
theorem told_calls (gs gm p : Nat) (L W : List Sty) (n : ByteArray) (v : Value) (own : List S37) (w : World) (hs : Sheet w gs gm L) (hr : RSheet w p W) (hL : LI L) (hR : RI W) (ha : Alike L W) (hv : Sl w v own) :
    Calls Try.prog 36 #[.pointer (some ⟨gs, 0, none⟩), .pointer (some ⟨p, 0, none⟩), .string n, v] w fun e w' => e = .returned (.bool true) ∧ Below w.heap.size w w' := by
  cases hf : fnd L n with
  | none => exact told_miss gs gm p L W n v own w hs hr hL hR ha hv hf
  | some s => exact told_there gs gm p L W n v own w hs hr hL hR ha hv (by rw [hf]; rfl)
end Go.Proofs.Ytpcpjlbfhbicaaa.Sh
end
section
set_option linter.unusedVariables false
set_option linter.unusedSimpArgs false
namespace Go.Proofs.Ytpcpjlbfhbicaaa.Sh
open Go Go.RowKit Go.Proofs.YtpcpjlbfhbicaaaW.PrintWords Go.Proofs.YtpcpjlbfhbicaaaW.PrintLast Go.Proofs.YtpcpjlbfhbicaaaW.PrintMore Go.Proofs.Ytpcpjlbfhbicaaa.PStyleProps
open Go.Proofs.Ytpcpjlbfhbicaaa.PStyleNearest (S37 k37 z37 rd_T37 at_T37 k37_open k37_openM k37_mk k37_mkM info37)
theorem fnd_self {s : Sty} : ∀ {L : List Sty}, (nms L).Nodup → s ∈ L → fnd L s.1 = some s
  | [], _, h => by cases h
  | t :: L, hn, hm => by
    obtain ⟨h1, h2⟩ := List.nodup_cons.1 (show (bs t.1 :: nms L).Nodup from hn)
    rw [fnd_cons]
    rcases List.mem_cons.1 hm with rfl | hm
    · rw [if_pos rfl]
    · rw [if_neg (fun e => h1 (List.mem_map.2 ⟨s, hm, by rw [e]⟩))]
      exact fnd_self h2 hm
theorem Alike.mem {L W : List Sty} (h : Alike L W) {s : Sty} (hs : s ∈ W) : s ∈ L := by
  have := fnd_self (rises_nodup h.rises) hs
  rw [← h.same] at this
  exact List.mem_of_find?_eq_some this
def Short (L : List Sty) : Prop := ∀ s ∈ L, s.2.2.length ≤ 64
structure Two (L W : List Sty) : Prop where
  li : LI L
  alike : Alike L W
  short : Short L
theorem Two.nil : Two [] [] := ⟨LI.nil, Alike.nil, fun s hs => by cases hs⟩
theorem Two.ri {L W : List Sty} (h : Two L W) : RI W where
  fits := fun s hs => h.li.fits s (h.alike.mem hs)
  short := fun s hs => h.short s (h.alike.mem hs)
  par := fun s hs => (h.li.par s (h.alike.mem hs)).imp id (fun q => by rw [← h.alike.same]; exact q)
  len := by rw [← h.alike.len]; exact h.li.len
theorem Two.small {L W : List Sty} (h : Two L W) : W.length ≤ 1000 := Nat.le_trans h.ri.len (by decide)
theorem Two.upW {L W : List Sty} (h : Two L W) : Sh.upL W = Sh.upL L := funext fun n => (h.alike.upL n).symm
theorem defE_alike {L W : List Sty} (h : Alike L W) (nb : Bool) (e : Int) (ab : Bool) (n p : ByteArray) : defE nb e ab W n p = defE nb e ab L n p := by
  unfold defE
  simp only [h.same, h.len]
theorem Two.define {L W : List Sty} (h : Two L W) {kn k : Nat} {nb ab : Bool} {n p : ByteArray} {l : List S37} (hn : PStyleNearest.style_name.f kn n = some nb) (ha : aboveG (Sh.upL L) n k p = some ab) :
    Two (defL nb (setE l) ab L n p l) (if defE nb (setE l) ab W n p = 0 then insW n p l false W else W) where
  li := h.li.def hn ha
  alike := by
    unfold defL
    rw [defE_alike h.alike]
    split
    · exact h.alike.put n p l
    · exact h.alike
  short := by
    unfold defL
    split
    · rename_i c
      intro s hs
      rcases mem_put hs with rfl | hs
      · exact (setE_zero (defE_none c).2.2.1).2
      · exact h.short s hs
    · exact h.short
theorem remE_alike {L W : List Sty} (h : Alike L W) (n : ByteArray) : remE W n = remE L n := by
  unfold remE
  rw [h.same, h.any]
theorem upL_del {L : List Sty} (hn : (nms L).Nodup) (n m : ByteArray) : Sh.upL (delL L n) m = if m = n then ⟨#[]⟩ else Sh.upL L m := by
  unfold Sh.upL
  rw [fnd_del n m hn]
  split <;> rfl
theorem Ends.del {L : List Sty} (h : Ends (Sh.upL L)) (hn : (nms L).Nodup) (n : ByteArray) : Ends (Sh.upL (delL L n)) := by
  have key : ∀ (j : Nat) (m : ByteArray), endsIn (Sh.upL L) j m → ∃ i, endsIn (Sh.upL (delL L n)) i m := by
    intro j
    induction j with
    | zero => exact fun m hm => ⟨0, hm⟩
    | succ j ih =>
      intro m hm
      by_cases c : m = n
      · refine ⟨1, .inr ?_⟩
        show Sh.upL (delL L n) m = ⟨#[]⟩
        rw [upL_del hn, if_pos c]
      · rcases hm with hm | hm
        · exact ⟨0, hm⟩
        · obtain ⟨i, hi⟩ := ih _ hm
          exact ⟨i + 1, .inr (by rw [upL_del hn, if_neg c]; exact hi)⟩
  intro m
  obtain ⟨j, hj⟩ := h m
  exact key j m hj
theorem mem_delL {L : List Sty} {n : ByteArray} {s : Sty} (h : s ∈ delL L n) : s ∈ L := List.mem_of_mem_eraseP h
theorem LI.del {L : List Sty} (h : LI L) (hn : (nms L).Nodup) (n : ByteArray) (hp : (L.any fun s => s.2.1 == n) = false) : LI (delL L n) where
  fits := fun s hs => h.fits s (mem_delL hs)
  ends := h.ends.del hn n
  len := Nat.le_trans (List.Sublist.length_le List.eraseP_sublist) h.len
  names := fun s hs => h.names s (mem_delL hs)
  par := fun s hs => by
    have hs2 := mem_delL hs
    refine (h.par s hs2).imp id (fun q => ?_)
    rw [fnd_del n _ hn, if_neg]
    · exact q
    · intro e
      have := List.any_eq_false.1 hp s hs2
      rw [e] at this
      exact this (ba_refl n)
theorem Two.remove {L W : List Sty} (h : Two L W) (n : ByteArray) : Two (remL L n) (remL W n) := by
  unfold remL
  rw [remE_alike h.alike]
  split
  · rename_i c
    have hany : (L.any fun s => s.2.1 == n) = false := by
      cases ha : (L.any fun s => s.2.1 == n) with
      | false => rfl
      | true =>
        exfalso
        unfold remE at c
        rw [ha] at c
        split at c
        · exact absurd c (by decide)
        · simp at c
    exact ⟨h.li.del h.alike.nodup n hany, h.alike.del n, fun s hs => h.short s (mem_delL hs)⟩
  · exact h
/-- The two calls that define, side by side: what both answer, and what becomes of both sheets. -/
theorem two_define {L W : List Sty} (h : Two L W) (n p : ByteArray) (l : List S37) (hsz : n.size ≤ 1000) : ∃ (e : Int) (L' W' : List Sty), Two L' W' ∧
    (∀ (b gs gm : Nat) (v : Value) (w : World), b < w.heap.size → SheetO b w gs gm L → Sl w v l → Calls Try.prog 23 #[.pointer (some ⟨gs, 0, none⟩), .string n, .string p, v] w fun x w' => x = .returned (.int .i64 e) ∧ SheetO b w' gs gm L' ∧ w.grownBy w' (some gm)) ∧
    (∀ (b q : Nat) (v : Value) (w : World), b < w.heap.size → RSheetO b w q W → Sl w v l → Calls Try.prog 34 #[.pointer (some ⟨q, 0, none⟩), .string n, .string p, v] w fun x w' => x = .returned (.int .i64 e) ∧ RSheetO b w' q W' ∧ w.grownBy w' (some q)) := by
  obtain ⟨kn, nb, hn⟩ := name_total n
  obtain ⟨ks, he⟩ := settings_total l
  obtain ⟨k, ab, hab⟩ := h.li.ends.above n p
  refine ⟨defE nb (setE l) ab L n p, _, _, h.define hn hab, fun b gs gm v w hb hs hv => define_callsO b gs gm L n p v l w hb hs hv kn ks k nb (setE l) ab hn he hab, fun b q v w hb hs hv => ?_⟩
  rw [← defE_alike h.alike]
  exact rdefine_callsO b q W n p v l w hb hs h.ri h.alike.rises hv hsz nb (name_nameB hn) k ab (by rw [h.upW]; exact hab)
theorem two_remove {L W : List Sty} (h : Two L W) (n : ByteArray) : ∃ (e : Int) (L' W' : List Sty), Two L' W' ∧
    (∀ (b gs gm : Nat) (w : World), SheetO b w gs gm L → Calls Try.prog 29 #[.pointer (some ⟨gs, 0, none⟩), .string n] w fun x w' => x = .returned (.int .i64 e) ∧ SheetO b w' gs gm L' ∧ w.grownBy w' (some gm)) ∧
    (∀ (b q : Nat) (w : World), b < w.heap.size → RSheetO b w q W → Calls Try.prog 35 #[.pointer (some ⟨q, 0, none⟩), .string n] w fun x w' => x = .returned (.int .i64 e) ∧ RSheetO b w' q W' ∧ w.grownBy w' (some q)) :=
  ⟨remE L n, _, _, h.remove n, fun b gs gm w hs => remove_callsO b gs gm L n w hs (fun s hs => (h.li.names s hs).2) h.li.len, fun b q w hb hs => by rw [← remE_alike h.alike]; exact rremove_callsO b q W n w hb hs h.small⟩
theorem two_told {L W : List Sty} (h : Two L W) (gs gm q : Nat) (n : ByteArray) (v : Value) (own : List S37) (w : World) (hs : Sheet w gs gm L) (hr : RSheet w q W) (hv : Sl w v own) :
    Calls Try.prog 36 #[.pointer (some ⟨gs, 0, none⟩), .pointer (some ⟨q, 0, none⟩), .string n, v] w fun e w' => e = .returned (.bool true) ∧ Below w.heap.size w w' :=
  told_calls gs gm q L W n v own w hs hr h.li h.ri h.alike hv
theorem rsheet_new (w : World) : RSheet (w.alloc (.cells #[.slice none 0 0] 71)) w.heap.size [] := ⟨none, 0, [], blk_new _ _, Nat.le_refl _, Kd.C_nil _ _, trivial⟩
end Go.Proofs.Ytpcpjlbfhbicaaa.Sh
end
section
set_option linter.unusedVariables false
set_option linter.unusedSimpArgs false
namespace Go.Proofs.Ytpcpjlbfhbicaaa.Sh
open Go Go.RowKit Go.Proofs.YtpcpjlbfhbicaaaW.PrintWords Go.Proofs.YtpcpjlbfhbicaaaW.PrintLast Go.Proofs.YtpcpjlbfhbicaaaW.PrintMore Go.Proofs.Ytpcpjlbfhbicaaa.PStyleProps
open Go.Proofs.Ytpcpjlbfhbicaaa.PStyleNearest (S37 k37 z37 rd_T37 at_T37 k37_open k37_openM k37_mk k37_mkM info37)
/-- Two sheets of each side, apart from one another, in memory of the call's own. -/
structure St0 (w0 w : World) (gs gm p : Nat) (L W : List Sty) (gs2 gm2 p2 : Nat) (L2 W2 : List Sty) : Prop where
  s1 : Sheet w gs gm L
  r1 : RSheet w p W
  s2 : Sheet w gs2 gm2 L2
  r2 : RSheet w p2 W2
  nm : gm ≠ gm2
  np : p ≠ p2
  bel : Below w0.heap.size w0 w
  new : w0.heap.size ≤ gm ∧ w0.heap.size ≤ p ∧ w0.heap.size ≤ gm2 ∧ w0.heap.size ≤ p2
theorem St0.below {w0 w w' : World} {gs gm p : Nat} {L W : List Sty} {gs2 gm2 p2 : Nat} {L2 W2 : List Sty} (h : St0 w0 w gs gm p L W gs2 gm2 p2 L2 W2) (hb : Below w.heap.size w w') : St0 w0 w' gs gm p L W gs2 gm2 p2 L2 W2 :=
  ⟨h.s1.below hb, h.r1.below hb, h.s2.below hb, h.r2.below hb, h.nm, h.np, below_step h.bel hb, h.new⟩
theorem St0.start {w w2 w3 w4 : World} {gs gm gs2 gm2 p2 : Nat} (h1 : Sheet w2 gs gm []) (hg : w.heap.size ≤ gm) (hb : Below w.heap.size w w2) (h2 : Sheet w3 gs2 gm2 []) (hg2 : (w2.alloc (.cells #[.slice none 0 0] 71)).heap.size ≤ gm2)
    (hb3 : Below (w2.alloc (.cells #[.slice none 0 0] 71)).heap.size (w2.alloc (.cells #[.slice none 0 0] 71)) w3) (h4 : RSheet w4 p2 []) (hp2 : w3.heap.size ≤ p2) (hb4 : Below w3.heap.size w3 w4) : St0 w w4 gs gm w2.heap.size [] [] gs2 gm2 p2 [] [] := by
  have s0 : (w2.alloc (.cells #[.slice none 0 0] 71)).heap.size = w2.heap.size + 1 := by simp
  have s1 := (sheet_lt h1).2
  have s2 := hb3.size
  have s3 := hb.size
  exact ⟨((h1.below (below_alloc (Below.refl _ _) _)).below hb3).below hb4, ((rsheet_new w2).below hb3).below hb4, h2.below hb4, h4, by omega, by omega, below_step (below_step (below_alloc hb _) hb3) hb4, hg, by omega, by omega, by omega⟩
/-- The same, off block b. -/
structure St (b : Nat) (w0 w : World) (gs gm p : Nat) (L W : List Sty) (gs2 gm2 p2 : Nat) (L2 W2 : List Sty) : Prop where
  s1 : SheetO b w gs gm L
  r1 : RSheetO b w p W
  s2 : SheetO b w gs2 gm2 L2
  r2 : RSheetO b w p2 W2
  nm : gm ≠ gm2
  np : p ≠ p2
  bel : Below w0.heap.size w0 w
  new : w0.heap.size ≤ gm ∧ w0.heap.size ≤ p ∧ w0.heap.size ≤ gm2 ∧ w0.heap.size ≤ p2
  far : gs ≠ b ∧ gm ≠ b ∧ p ≠ b ∧ gs2 ≠ b ∧ gm2 ≠ b ∧ p2 ≠ b
  lt : b < w.heap.size
  le : w0.heap.size ≤ b
theorem St.to0 {b : Nat} {w0 w : World} {gs gm p : Nat} {L W : List Sty} {gs2 gm2 p2 : Nat} {L2 W2 : List Sty} (h : St b w0 w gs gm p L W gs2 gm2 p2 L2 W2) : St0 w0 w gs gm p L W gs2 gm2 p2 L2 W2 := ⟨h.s1.sheet, h.r1.sheet, h.s2.sheet, h.r2.sheet, h.nm, h.np, h.bel, h.new⟩
theorem St0.o {b : Nat} {w0 w w' : World} {gs gm p : Nat} {L W : List Sty} {gs2 gm2 p2 : Nat} {L2 W2 : List Sty} (h : St0 w0 w gs gm p L W gs2 gm2 p2 L2 W2) (hb : w.heap.size ≤ b) (hlt : b < w'.heap.size) (hw : Below w.heap.size w w') : St b w0 w' gs gm p L W gs2 gm2 p2 L2 W2 := by
  have a1 := sheet_lt h.s1
  have a2 := sheet_lt h.s2
  have a3 := h.r1.lt
  have a4 := h.r2.lt
  have a5 := h.bel.size
  exact ⟨(h.s1.o hb).below hw, (h.r1.o hb).below hw, (h.s2.o hb).below hw, (h.r2.o hb).below hw, h.nm, h.np, below_step h.bel hw, h.new, ⟨by omega, by omega, by omega, by omega, by omega, by omega⟩, hlt, by omega⟩
theorem St.below {b : Nat} {w0 w w' : World} {gs gm p : Nat} {L W : List Sty} {gs2 gm2 p2 : Nat} {L2 W2 : List Sty} (h : St b w0 w gs gm p L W gs2 gm2 p2 L2 W2) (hb : Below w.heap.size w w') : St b w0 w' gs gm p L W gs2 gm2 p2 L2 W2 :=
  ⟨h.s1.below hb, h.r1.below hb, h.s2.below hb, h.r2.below hb, h.nm, h.np, below_step h.bel hb, h.new, h.far, Nat.lt_of_lt_of_le h.lt hb.size, h.le⟩
theorem St.swap {b : Nat} {w0 w : World} {gs gm p : Nat} {L W : List Sty} {gs2 gm2 p2 : Nat} {L2 W2 : List Sty} (h : St b w0 w gs gm p L W gs2 gm2 p2 L2 W2) : St b w0 w gs2 gm2 p2 L2 W2 gs gm p L W :=
  ⟨h.s2, h.r2, h.s1, h.r1, h.nm.symm, h.np.symm, h.bel, ⟨h.new.2.2.1, h.new.2.2.2, h.new.1, h.new.2.1⟩, ⟨h.far.2.2.2.1, h.far.2.2.2.2.1, h.far.2.2.2.2.2, h.far.1, h.far.2.1, h.far.2.2.1⟩, h.lt, h.le⟩
theorem St.def1 {b : Nat} {w0 w w' : World} {gs gm p : Nat} {L W : List Sty} {gs2 gm2 p2 : Nat} {L2 W2 : List Sty} {L' : List Sty} (h : St b w0 w gs gm p L W gs2 gm2 p2 L2 W2) (hs : SheetO b w' gs gm L') (hg : w.grownBy w' (some gm)) : St b w0 w' gs gm p L' W gs2 gm2 p2 L2 W2 :=
  ⟨hs, h.r1.mapS h.s1.sheet hg, h.s2.otherS h.s1.sheet h.nm.symm hg, h.r2.mapS h.s1.sheet hg, h.nm, h.np, pw_below_grown h.bel (some gm) h.bel.size hg (fun k e => by cases e; exact h.new.1), h.new, h.far, Nat.lt_of_lt_of_le h.lt hg.size, h.le⟩
theorem St.ref1 {b : Nat} {w0 w w' : World} {gs gm p : Nat} {L W : List Sty} {gs2 gm2 p2 : Nat} {L2 W2 : List Sty} {W' : List Sty} (h : St b w0 w gs gm p L W gs2 gm2 p2 L2 W2) (hs : RSheetO b w' p W') (hg : w.grownBy w' (some p)) : St b w0 w' gs gm p L W' gs2 gm2 p2 L2 W2 :=
  ⟨h.s1.slotR h.r1.sheet hg, hs, h.s2.slotR h.r1.sheet hg, h.r2.otherR h.r1.sheet h.np.symm hg, h.nm, h.np, pw_below_grown h.bel (some p) h.bel.size hg (fun k e => by cases e; exact h.new.2.1), h.new, h.far, Nat.lt_of_lt_of_le h.lt hg.size, h.le⟩
theorem St.write {b : Nat} {w0 w w' : World} {gs gm p : Nat} {L W : List Sty} {gs2 gm2 p2 : Nat} {L2 W2 : List Sty} (h : St b w0 w gs gm p L W gs2 gm2 p2 L2 W2) (hg : w.grownBy w' (some b)) : St b w0 w' gs gm p L W gs2 gm2 p2 L2 W2 :=
  ⟨h.s1.free h.far.1 h.far.2.1 hg, h.r1.free h.far.2.2.1 hg, h.s2.free h.far.2.2.2.1 h.far.2.2.2.2.1 hg, h.r2.free h.far.2.2.2.2.2 hg, h.nm, h.np, pw_below_grown h.bel (some b) h.bel.size hg (fun k e => by cases e; exact h.le), h.new, h.far, Nat.lt_of_lt_of_le h.lt hg.size, h.le⟩
theorem St.clone {b : Nat} {w0 w w' w'' : World} {gs gm p : Nat} {L W : List Sty} {gs2 gm2 p2 : Nat} {L2 W2 : List Sty} {gs3 gm3 p3 : Nat} (h : St b w0 w gs gm p L W gs2 gm2 p2 L2 W2) (hs : SheetO b w' gs3 gm3 L) (h1 : w.heap.size ≤ gs3) (h2 : w.heap.size ≤ gm3) (hb : Below w.heap.size w w') (hr : RSheetO b w'' p3 W) (h3 : w'.heap.size ≤ p3) (hb2 : Below w'.heap.size w' w'') : St b w0 w'' gs3 gm3 p3 L W gs gm p L W := by
  have hA := (h.below hb).below hb2
  have a1 := sheet_lt h.s1.sheet
  have a3 := h.r1.sheet.lt
  have a5 := h.bel.size
  have a6 := hb.size
  have a7 := h.lt
  exact ⟨hs.below hb2, hr, hA.s1, hA.r1, by omega, by omega, hA.bel, ⟨by omega, by omega, h.new.1, h.new.2.1⟩, ⟨by omega, by omega, by omega, h.far.1, h.far.2.1, h.far.2.2.1⟩, hA.lt, h.le⟩
/-- What of the argument is read: each call's kind, names and settings. -/
def ActsS (w : World) (A : Option Addr) (n : Nat) : Prop := ∀ i : Nat, i < n → ∃ (ad : Addr) (k : Int) (nm p : ByteArray) (B : Option Addr) (m c : Nat) (l : List S37), A = some ad ∧ w.cell? (ad.add (i * 4)) = some (.int .i64 k) ∧
  w.cell? ⟨(ad.add (i * 4)).block, (ad.add (i * 4)).off + 1, none⟩ = some (.string nm) ∧ w.cell? ⟨(ad.add (i * 4)).block, (ad.add (i * 4)).off + 2, none⟩ = some (.string p) ∧ w.cell? ⟨(ad.add (i * 4)).block, (ad.add (i * 4)).off + 3, none⟩ = some (.slice B m c) ∧ m = l.length ∧ Sl w (.slice B m c) l
/-- The block in which a slice that the call has made itself lies. -/
theorem R_block {w : World} {base : Nat} {ok : Nat → Prop} {A : Option Addr} {n c : Nat} {l : List S37} (h : Kd.R k37 37 w base ok (.slice A n c) l) (hb : base < w.heap.size) : ∃ g, base ≤ g ∧ g < w.heap.size ∧ ∀ ad, A = some ad → ad = ⟨g, 0, none⟩ := by
  obtain ⟨h0, inner, hown, hr⟩ := h
  rcases hown.2 with ⟨e, _⟩ | ⟨g, cap, cur, e, hg, hh, _⟩
  · injection e with e1 e2 e3
    exact ⟨base, Nat.le_refl _, hb, fun ad e => by rw [e1] at e; cases e⟩
  · injection e with e1 e2 e3
    exact ⟨g, hg, blk_lt hh, fun ad e => by rw [e1] at e; exact (Option.some.inj e).symm⟩
structure Rn (w0 w : World) (b g base : Nat) (ac : Array Value) (v : Value) (l : List S37) (A : Option Addr) (m c : Nat) (xs : List S37) (gs gm p : Nat) (L W : List Sty) (gs2 gm2 p2 : Nat) (L2 W2 : List Sty) : Prop where
  st : St b w0 w gs gm p L W gs2 gm2 p2 L2 W2
  bk : w.heap[g]? = some (.cells ac 57 (0, 0))
  sl : Sl w v l
  own : Kd.R k37 37 w base (fun k => base ≤ k) (.slice A m c) xs
  off : OffV b v
  ne : g < base
  le : base ≤ b
  ad : ∀ ad, A = some ad → ad = ⟨b, 0, none⟩
theorem Rn.below {w0 w w' : World} {b g base : Nat} {ac : Array Value} {v : Value} {l : List S37} {A : Option Addr} {m c : Nat} {xs : List S37} {gs gm p : Nat} {L W : List Sty} {gs2 gm2 p2 : Nat} {L2 W2 : List Sty} (h : Rn w0 w b g base ac v l A m c xs gs gm p L W gs2 gm2 p2 L2 W2) (hb : Below w.heap.size w w') : Rn w0 w' b g base ac v l A m c xs gs gm p L W gs2 gm2 p2 L2 W2 :=
  ⟨h.st.below hb, blk_below h.bk hb, h.sl.below hb, Kd.R_below h.own hb, h.off, h.ne, h.le, h.ad⟩
theorem Rn.swap {w0 w : World} {b g base : Nat} {ac : Array Value} {v : Value} {l : List S37} {A : Option Addr} {m c : Nat} {xs : List S37} {gs gm p : Nat} {L W : List Sty} {gs2 gm2 p2 : Nat} {L2 W2 : List Sty} (h : Rn w0 w b g base ac v l A m c xs gs gm p L W gs2 gm2 p2 L2 W2) : Rn w0 w b g base ac v l A m c xs gs2 gm2 p2 L2 W2 gs gm p L W :=
  ⟨h.st.swap, h.bk, h.sl, h.own, h.off, h.ne, h.le, h.ad⟩
theorem Rn.def1 {w0 w w' : World} {b g base : Nat} {ac : Array Value} {v : Value} {l : List S37} {A : Option Addr} {m c : Nat} {xs : List S37} {gs gm p : Nat} {L W : List Sty} {gs2 gm2 p2 : Nat} {L2 W2 : List Sty} {L' : List Sty} (h : Rn w0 w b g base ac v l A m c xs gs gm p L W gs2 gm2 p2 L2 W2) (hlt : gm < g) (hs : SheetO b w' gs gm L') (hg : w.grownBy w' (some gm)) : Rn w0 w' b g base ac v l A m c xs gs gm p L' W gs2 gm2 p2 L2 W2 := by
  have hne := h.ne
  obtain ⟨_, M, ⟨es, cl, hm, _⟩, _⟩ := h.st.s1.sheet
  exact ⟨h.st.def1 hs hg, blk_grown h.bk hg (fun e => by injection e; omega), h.sl.grown (fun a k x hc => map_no hm a _ hc) hg, Kd.R_grown h.own hg (fun k hk e => by injection e; omega), h.off, h.ne, h.le, h.ad⟩
theorem Rn.ref1 {w0 w w' : World} {b g base : Nat} {ac : Array Value} {v : Value} {l : List S37} {A : Option Addr} {m c : Nat} {xs : List S37} {gs gm p : Nat} {L W : List Sty} {gs2 gm2 p2 : Nat} {L2 W2 : List Sty} {W' : List Sty} (h : Rn w0 w b g base ac v l A m c xs gs gm p L W gs2 gm2 p2 L2 W2) (hlt : p < g) (hs : RSheetO b w' p W') (hg : w.grownBy w' (some p)) : Rn w0 w' b g base ac v l A m c xs gs gm p L W' gs2 gm2 p2 L2 W2 := by
  have hne := h.ne
  obtain ⟨A1, c1, M, h1, _⟩ := h.st.r1.sheet
  exact ⟨h.st.ref1 hs hg, blk_grown h.bk hg (fun e => by injection e; omega), h.sl.grown (slot_no h1) hg, Kd.R_grown h.own hg (fun k hk e => by injection e; omega), h.off, h.ne, h.le, h.ad⟩
theorem Rn.write {w0 w w' : World} {b g base : Nat} {ac : Array Value} {v : Value} {l : List S37} {A : Option Addr} {m c : Nat} {xs xs' : List S37} {gs gm p : Nat} {L W : List Sty} {gs2 gm2 p2 : Nat} {L2 W2 : List Sty} (h : Rn w0 w b g base ac v l A m c xs gs gm p L W gs2 gm2 p2 L2 W2) (hg : w.grownBy w' (some b)) (ho : Kd.R k37 37 w' base (fun k => base ≤ k) (.slice A m c) xs') : Rn w0 w' b g base ac v l A m c xs' gs gm p L W gs2 gm2 p2 L2 W2 := by
  have h1 := h.ne
  have h2 := h.le
  exact ⟨h.st.write hg, blk_grown h.bk hg (fun e => by injection e; omega), h.sl.free h.off hg, ho, h.off, h.ne, h.le, h.ad⟩
theorem Rn.clone {w0 w w' w'' : World} {b g base : Nat} {ac : Array Value} {v : Value} {l : List S37} {A : Option Addr} {m c : Nat} {xs : List S37} {gs gm p : Nat} {L W : List Sty} {gs2 gm2 p2 : Nat} {L2 W2 : List Sty} {gs3 gm3 p3 : Nat} (h : Rn w0 w b g base ac v l A m c xs gs gm p L W gs2 gm2 p2 L2 W2) (hs : SheetO b w' gs3 gm3 L) (h1 : w.heap.size ≤ gs3) (h2 : w.heap.size ≤ gm3) (hb : Below w.heap.size w w') (hr : RSheetO b w'' p3 W) (h3 : w'.heap.size ≤ p3) (hb2 : Below w'.heap.size w' w'') : Rn w0 w'' b g base ac v l A m c xs gs3 gm3 p3 L W gs gm p L W := by
  have hA := (h.below hb).below hb2
  exact ⟨h.st.clone hs h1 h2 hb hr h3 hb2, hA.bk, hA.sl, hA.own, h.off, h.ne, h.le, h.ad⟩
end Go.Proofs.Ytpcpjlbfhbicaaa.Sh
end
