/- quirelaw03.StyleLoops over this program: for every input it returns true. Condition: the argument's rows read. -/
import Derived.Test.YtpcpjlbfhbicaaaShJ
import Derived.Test.YtpcpjlbfhbicaaaShO
set_option linter.unusedVariables false
set_option linter.unusedSimpArgs false
namespace Go.Proofs.Ytpcpjlbfhbicaaa.Sh
open Go Go.RowKit Go.Proofs.YtpcpjlbfhbicaaaW.PrintWords Go.Proofs.YtpcpjlbfhbicaaaW.PrintLast Go.Proofs.YtpcpjlbfhbicaaaW.PrintMore Go.Proofs.Ytpcpjlbfhbicaaa.PStyleProps
open Go.Proofs.Ytpcpjlbfhbicaaa.PStyleNearest (S37 k37 z37 rd_T37 at_T37 k37_open k37_openM k37_mk k37_mkM info37)
/-- What of the argument is read: each act's name and parent. -/
def Acts (w : World) (A : Option Addr) (n : Nat) : Prop := ∀ i : Nat, i < n → ∃ (ad : Addr) (nm p : ByteArray), A = some ad ∧ w.cell? ⟨(ad.add (i * 4)).block, (ad.add (i * 4)).off + 1, none⟩ = some (.string nm) ∧ w.cell? ⟨(ad.add (i * 4)).block, (ad.add (i * 4)).off + 2, none⟩ = some (.string p)
theorem sheet_below {w w' : World} {gs gm : Nat} {L : List Sty} (h : Sheet w gs gm L) (hb : Below w.heap.size w w') : Sheet w' gs gm L := h.below hb
set_option maxHeartbeats 4000000 in
set_option maxRecDepth 100000 in
theorem loops_long (A : Option Addr) (n c : Nat) (w : World) (h0 : 60 < n) : Calls Try.prog 6 #[.slice A n c] w fun e w' => e = .returned (.bool true) ∧ Below w.heap.size w w' := by
  have hu55 := Try.underlying55
  have da : decide ((60 : Int) < (n : Int)) = true := decide_eq_true (by omega)
  have db : decide (60 < n) = true := decide_eq_true h0
  clear h0
  go_enter Try.func6, Try.ntmps6
  go_wp2_with (first | (go_at_call 21; refine (awake_calls _).mono ?_; rintro e w1 ⟨rfl, hb⟩; have HB := Aside0.mk hb; clear hb) | (go_at_call 22; refine (new_calls _).mono ?_; rintro e w2 ⟨gs, gm, rfl, hgs, hgm, hne, h1, h2, hb⟩; have HBn := Aside0.mk (below_step HB.out hb); clear HB hgs hgm hne h1 h2 hb; have HB := HBn; clear HBn))
  go_ret
  exact ⟨rfl, HB.out⟩
set_option maxHeartbeats 8000000 in
set_option maxRecDepth 100000 in
theorem loops_main (A : Option Addr) (n c : Nat) (w : World) (h0 : n ≤ 60) (ha : Acts w A n) : Calls Try.prog 6 #[.slice A n c] w fun e w' => e = .returned (.bool true) ∧ Below w.heap.size w w' := by
  have hu55 := Try.underlying55
  have hu57 := Try.underlying57
  have hu58 := Try.underlying58
  have da : decide ((60 : Int) < (n : Int)) = false := decide_eq_false (by omega)
  have db : decide (60 < n) = false := decide_eq_false (by omega)
  have H0 := Aside0.mk h0
  have HA := Aside0.mk ha
  clear h0 ha
  go_enter Try.func6, Try.ntmps6
  go_wp2_with (first | (go_at_call 21; refine (awake_calls _).mono ?_; rintro e w1 ⟨rfl, hb⟩; have HB := Aside0.mk hb; clear hb) | (go_at_call 22; refine (new_calls _).mono ?_; rintro e w2 ⟨gs, gm, rfl, hgs, hgm, hne, h1, h2, hb⟩; have HS := Aside0.mk (sheet_new h1 h2); have GM : Aside0 (w.heap.size ≤ gm) := ⟨Nat.le_trans (below_size HB.out) hgm⟩; have HBn := Aside0.mk (below_step HB.out hb); clear HB hgs hgm hne h1 h2 hb; have HB := HBn; clear HBn))
  go_loopg [5] n (fun kq v5 w' => ∃ (i : Int) (L : List Sty), v5 = .int .i64 i ∧ Aside0 (0 ≤ i ∧ i + kq = n) ∧ Aside0 (LI L) ∧ Aside0 (Sheet w' gs gm L) ∧ Aside0 (Below w.heap.size w w'))
  case atStart => exact ⟨0, [], rfl, ⟨by omega, by omega⟩, ⟨LI.nil⟩, HS, HB⟩
  case round =>
    clear HS HB
    obtain ⟨i, L, rfl, HK, HL, HS, HB⟩ := hrel
    cases gk with
    | zero =>
      have hk := HK.out
      have q109 : decide (i < (n : Int)) = false := decide_eq_false (by omega)
      have HNm : Aside0 (∀ w', Sheet w' gs gm L → Calls Try.prog 26 #[.pointer (some ⟨gs, 0, none⟩)] w' fun x w'' => ∃ (B : Option Addr) (cap : Nat) (ns : List ByteArray), x = .returned (.slice B ns.length cap) ∧ ns.length = L.length ∧ (∀ a, a ∈ ns ↔ a ∈ L.map (·.1)) ∧ (∀ (i : Nat) (s : ByteArray), ns[i]? = some s → ∃ ad, B = some ad ∧ w''.cell? (ad.add i) = some (.string s)) ∧ Below w'.heap.size w' w'') :=
        ⟨fun w' hs => (names_calls gs gm L w' hs (fun s h => (HL.out.names s h).2) HL.out.len).mono (by rintro x w'' ⟨B, cap, ns, h1, h2, h3, _, h5, h6⟩; exact ⟨B, cap, ns, h1, h2, h3, h5, h6⟩)⟩
      clear hk HK
      go_wp2_with (first | (go_at_call 26; refine (HNm.out _ HS.out).mono ?_; rintro x wz ⟨B, cap, ns, rfl, hlen, hmem, hcell, hb⟩; have HSn := Aside0.mk (sheet_below HS.out hb); have HBn := Aside0.mk (below_step HB.out hb); have HC := Aside0.mk hcell; have HLen := Aside0.mk hlen; have HMem := Aside0.mk hmem; clear HS HB hb hcell hlen hmem; have HS := HSn; have HB := HBn; clear HSn HBn))
      obtain ⟨nl, hnl⟩ : ∃ nl, Aside0 (nl = ns.length) := ⟨_, ⟨rfl⟩⟩
      rw [← hnl.out]
      have NL : Aside0 (nl = L.length) := ⟨hnl.out.trans HLen.out⟩
      have n32 : (nl : Int) ≤ 32 := by have := HL.out.len; have := NL.out; omega
      have d32 : decide ((nl : Int) ≤ 32) = true := decide_eq_true n32
      have d32' : decide (nl ≤ 32) = true := decide_eq_true (by omega)
      have HCb : Aside0 (∀ (i : Nat) (s : ByteArray), ns[i]? = some s → ∃ ad, B = some ad ∧ wz.cell? (ad.add i) = some (.string s)) := HC
      have HB0 : Aside0 (Below wz.heap.size wz wz) := ⟨Below.refl _ _⟩
      clear n32 HNm HC q109
      go_loopg [7] nl (fun kq v7 w' => ∃ i : Int, v7 = .int .i64 i ∧ Aside0 (0 ≤ i ∧ i + kq = nl) ∧ Aside0 (Sheet w' gs gm L) ∧ Aside0 (Below wz.heap.size wz w'))
      case atStart => exact ⟨0, rfl, ⟨by omega, by omega⟩, HS, HB0⟩
      case round =>
        clear HS HB0
        obtain ⟨i, rfl, HI, HS, HB0⟩ := hrel
        cases gk with
        | zero =>
          have hi := HI.out
          have q109 : decide (i < (nl : Int)) = false := decide_eq_false (by omega)
          clear hi
          go_wp2
          go_ret
          exact ⟨rfl, HB.out.trans (HB0.out.mono (below_size HB.out))⟩
        | succ k1 =>
          have hi := HI.out
          have p108 : 0 ≤ i := hi.1
          have q108 : i < (nl : Int) := by omega
          have cb1 : decide (i < (nl : Int)) = true := decide_eq_true q108
          have hadd : wrap64 (i + 1) = i + 1 := by have := NL.out; have := HL.out.len; unfold wrap64; omega
          obtain ⟨s, hs⟩ : ∃ s, ns[i.toNat]? = some s := ⟨_, List.getElem?_eq_getElem (by have := hnl.out; omega)⟩
          obtain ⟨ad, e108, hx⟩ := HCb.out _ _ hs
          subst e108
          replace hx := (HB0.out.cell (World.block_lt_of_cell? wz _ hx)).trans hx
          have HF : Aside0 ((fnd L s).isSome = true) := ⟨mem_fnd ((HMem.out s).1 (List.mem_of_getElem? hs))⟩
          clear hi hs
          replace p108 := eq_true p108
          replace q108 := eq_true q108
          go_upto_region 14 with fail
          go_loopg [8, 9] (nl + 1) (fun kq v8 v9 w' => ∃ (t : Nat), v8 = .string (iter (upL L) t s) ∧ v9 = .int .i64 t ∧ Aside0 (t + kq = nl + 1) ∧ Aside0 (∀ j, j < t → iter (upL L) j s ≠ ⟨#[]⟩) ∧ Aside0 (Sheet w' gs gm L) ∧ Aside0 (Below wz.heap.size wz w'))
          case atStart => exact ⟨0, rfl, rfl, ⟨by omega⟩, ⟨fun j hj => absurd hj (by omega)⟩, HS, HB0⟩
          case round =>
            clear HS HB0 hx
            obtain ⟨t, rfl, rfl, HT, HJ, HS, HB0⟩ := hrel
            obtain ⟨u, hu⟩ : ∃ u, Aside0 (u = iter (upL L) t s) := ⟨_, ⟨rfl⟩⟩
            rw [← hu.out]
            by_cases c0 : u = ⟨#[]⟩
            · subst c0
              go_wp2
              go_roundg k1
              case measure => omega
              case rel => exact ⟨i + 1, by rw [hadd], ⟨by have := HI.out; omega, by have := HI.out; omega⟩, HS, HB0⟩
            · have HJ2 : Aside0 (∀ j, j ≤ t → iter (upL L) j s ≠ ⟨#[]⟩) := ⟨fun j hj => by
                rcases Nat.lt_or_ge j t with h | h
                · exact HJ.out j h
                · obtain rfl : j = t := by omega
                  rw [← hu.out]; exact c0⟩
              have hsh := HL.out.short HF.out t HJ2.out
              have hin : (fnd L u).isSome = true := by rw [hu.out]; exact HL.out.in HF.out t HJ2.out
              have hnt : ¬ ((nl : Int) < (t : Int)) := by have := NL.out; omega
              have d1 : decide ((nl : Int) < (t : Int)) = false := decide_eq_false hnt
              have d2 : decide (nl < t) = false := decide_eq_false (by omega)
              have hwt : wrap64 ((t : Int) + 1) = ((t + 1 : Nat) : Int) := by have := HL.out.len; unfold wrap64; omega
              have c0' := list_ne c0
              have c0'' := ba_ne c0
              have HPar : Aside0 (∀ w', Sheet w' gs gm L → Calls Try.prog 27 #[.pointer (some ⟨gs, 0, none⟩), .string u] w' fun x w'' => x = .returned (.tuple #[.string (upL L u), .int .i64 0]) ∧ Below w'.heap.size w' w'') := ⟨fun w' h => parent_there gs gm L u w' h hin⟩
              obtain ⟨u2, hu2⟩ : ∃ u2, Aside0 (u2 = upL L u) := ⟨_, ⟨rfl⟩⟩
              rw [← hu2.out] at HPar
              cases gk with
              | zero => exact absurd hsh (by have := HT.out; have := NL.out; omega)
              | succ k2 =>
                clear hsh hin hnt
                go_wp2_with (first | (go_at_call 27; refine (HPar.out _ HS.out).mono ?_; rintro x wy ⟨rfl, hb⟩; have HSn := Aside0.mk (sheet_below HS.out hb); have HBn := Aside0.mk (below_step HB0.out hb); clear HS HB0 hb; have HS := HSn; have HB0 := HBn; clear HSn HBn))
                go_roundg k2
                case measure => omega
                case rel => exact ⟨t + 1, by rw [iter_succ, ← hu.out, hu2.out], by rw [hwt], ⟨by have := HT.out; omega⟩, ⟨fun j hj => HJ2.out j (by omega)⟩, HS, HB0⟩
    | succ k1 =>
      have hk := HK.out
      have p108 : 0 ≤ i := hk.1
      have q108 : i < (n : Int) := by omega
      have cb1 : decide (i < (n : Int)) = true := decide_eq_true q108
      have hadd : wrap64 (i + 1) = i + 1 := by have := H0.out; unfold wrap64; omega
      obtain ⟨ad, nm, p, e108, hx, hy⟩ := HA.out i.toNat (by omega)
      subst e108
      replace hx := (HB.out.cell (World.block_lt_of_cell? w _ hx)).trans hx
      replace hy := (HB.out.cell (World.block_lt_of_cell? w _ hy)).trans hy
      have HDef : Aside0 (∀ w', Sheet w' gs gm L → Calls Try.prog 23 #[.pointer (some ⟨gs, 0, none⟩), .string nm, .string p, .slice none 0 0] w' fun x w'' => ∃ (e : Int) (L' : List Sty), x = .returned (.int .i64 e) ∧ LI L' ∧ Sheet w'' gs gm L' ∧ w'.grownBy w'' (some gm)) := ⟨fun w' hs => HL.out.define gs gm L nm p _ [] w' hs (Sl.nil w')⟩
      clear hk
      replace p108 := eq_true p108
      replace q108 := eq_true q108
      go_upto_region 8 with fail
      refine start_ (n := 12) (S := fun w' => w'.cell? ⟨(ad.add (i.toNat * 4)).block, (ad.add (i.toNat * 4)).off + 1, none⟩ = some (.string nm) ∧ w'.cell? ⟨(ad.add (i.toNat * 4)).block, (ad.add (i.toNat * 4)).off + 2, none⟩ = some (.string p) ∧ Below w.heap.size w w' ∧ Sheet w' gs gm L) (ds := [11]) #[false, false, false, false, false, false, false, false, false, false, false, false] (by kernel_rfl) rfl rfl ⟨((below_drew1 (Below.refl wr.heap.size wr)).cell (World.block_lt_of_cell? wr _ hx)).trans hx, ((below_drew1 (Below.refl wr.heap.size wr)).cell (World.block_lt_of_cell? wr _ hy)).trans hy, below_drew1 HB.out, HS.out.below (below_drew1 (Below.refl _ _))⟩ (fun hHeld => ?_)
      refine pure_ (i := 0) (N := some 32) (v := ?_) (a' := ?_) #[true, false, false, false, false, false, false, false, false, false, false, false] rfl rfl (by kernel_rfl) (fun _ _ _ h => h) (Or.inl ⟨by rfl, ?_⟩) ?_ ?_
      rotate_left
      · intro w'
        go_simp
        with_reducible rfl
      rotate_left
      · simp only [Act.put, List.setIfInBounds_toArray, List.set_cons_zero, List.set_cons_succ, i64_w, i32_w]
        rfl
      refine pure_ (i := 1) (N := some 33) (v := ?_) (a' := ?_) #[true, true, false, false, false, false, false, false, false, false, false, false] rfl rfl (by kernel_rfl) (fun _ _ _ h => h) (Or.inl ⟨by rfl, ?_⟩) ?_ ?_
      rotate_left
      · intro w'
        go_simp
        with_reducible rfl
      rotate_left
      · simp only [Act.put, List.setIfInBounds_toArray, List.set_cons_zero, List.set_cons_succ, i64_w, i32_w]
        rfl
      refine pure_ (i := 2) (N := some 34) (v := ?_) (a' := ?_) #[true, true, true, false, false, false, false, false, false, false, false, false] rfl rfl (by kernel_rfl) (fun _ _ _ h => h) (Or.inl ⟨by rfl, ?_⟩) ?_ ?_
      rotate_left
      · intro w'
        go_simp
        with_reducible rfl
      rotate_left
      · simp only [Act.put, List.setIfInBounds_toArray, List.set_cons_zero, List.set_cons_succ, i64_w, i32_w]
        rfl
      refine pure_ (i := 3) (N := some 35) (v := ?_) (a' := ?_) #[true, true, true, true, false, false, false, false, false, false, false, false] rfl rfl (by kernel_rfl) (fun _ _ _ h => h) (Or.inl ⟨by rfl, ?_⟩) ?_ ?_
      rotate_left
      · intro w'
        go_simp
        with_reducible rfl
      rotate_left
      · simp only [Act.put, List.setIfInBounds_toArray, List.set_cons_zero, List.set_cons_succ, i64_w, i32_w]
        rfl
      refine pure_ (i := 4) (N := some 36) (v := ?_) (a' := ?_) #[true, true, true, true, true, false, false, false, false, false, false, false] rfl rfl (by kernel_rfl) (fun _ _ _ h => h) (Or.inl ⟨by rfl, ?_⟩) ?_ ?_
      rotate_left
      · intro w'
        go_simp
        with_reducible rfl
      rotate_left
      · simp only [Act.put, List.setIfInBounds_toArray, List.set_cons_zero, List.set_cons_succ, i64_w, i32_w]
        rfl
      refine pure_ (i := 6) (N := some 38) (v := ?_) (a' := ?_) #[true, true, true, true, true, false, true, false, false, false, false, false] rfl rfl (by kernel_rfl) (fun _ _ _ h => h) (Or.inl ⟨by rfl, ?_⟩) ?_ ?_
      rotate_left
      · intro w'
        go_simp
        with_reducible rfl
      rotate_left
      · simp only [Act.put, List.setIfInBounds_toArray, List.set_cons_zero, List.set_cons_succ, i64_w, i32_w]
        rfl
      refine pure_ (i := 7) (N := some 39) (v := ?_) (a' := ?_) #[true, true, true, true, true, false, true, true, false, false, false, false] rfl rfl (by kernel_rfl) (fun _ _ _ h => h) (Or.inl ⟨by rfl, ?_⟩) ?_ ?_
      rotate_left
      · intro w'
        go_simp
        with_reducible rfl
      rotate_left
      · simp only [Act.put, List.setIfInBounds_toArray, List.set_cons_zero, List.set_cons_succ, i64_w, i32_w]
        rfl
      refine pure_ (i := 8) (N := some 40) (v := ?_) (a' := ?_) #[true, true, true, true, true, false, true, true, true, false, false, false] rfl rfl (by kernel_rfl) (fun _ _ _ h => h) (Or.inl ⟨by rfl, ?_⟩) ?_ ?_
      rotate_left
      · intro w'
        go_simp
        with_reducible rfl
      rotate_left
      · simp only [Act.put, List.setIfInBounds_toArray, List.set_cons_zero, List.set_cons_succ, i64_w, i32_w]
        rfl
      refine pure_ (i := 9) (N := some 41) (v := ?_) (a' := ?_) #[true, true, true, true, true, false, true, true, true, true, false, false] rfl rfl (by kernel_rfl) (fun _ _ _ h => h) (Or.inl ⟨by rfl, ?_⟩) ?_ ?_
      rotate_left
      · intro w'
        go_simp
        with_reducible rfl
      rotate_left
      · simp only [Act.put, List.setIfInBounds_toArray, List.set_cons_zero, List.set_cons_succ, i64_w, i32_w]
        rfl
      refine take_ (i := 5) (N := some 37) (v := ?_) (a' := ?_) #[true, true, true, true, true, true, true, true, true, true, false, false] rfl rfl (by kernel_rfl) (fun _ _ _ h => h) (Or.inl ⟨by rfl, ?_⟩) hHeld ?_ ?_
      rotate_left
      · rintro w' ⟨s0, s1, s2, s3⟩
        go_simp
        with_reducible rfl
      rotate_left
      · simp only [Act.put, List.setIfInBounds_toArray, List.set_cons_zero, List.set_cons_succ, i64_w, i32_w]
        rfl
      refine take_ (i := 10) (N := some 42) (v := ?_) (a' := ?_) #[true, true, true, true, true, true, true, true, true, true, true, false] rfl rfl (by kernel_rfl) (fun _ _ _ h => h) (Or.inl ⟨by rfl, ?_⟩) hHeld ?_ ?_
      rotate_left
      · rintro w' ⟨s0, s1, s2, s3⟩
        go_simp
        with_reducible rfl
      rotate_left
      · simp only [Act.put, List.setIfInBounds_toArray, List.set_cons_zero, List.set_cons_succ, i64_w, i32_w]
        rfl
      refine last_ (i := 11) (N := some 43) #[true, true, true, true, true, true, true, true, true, true, true, true] rfl rfl (by kernel_rfl) (by decide) (fun K hK => ?_)
      refine goes_ Try.func23 (by kernel_rfl) rfl #[.pointer (some ⟨gs, 0, none⟩), .string nm, .string p, .slice none 0 0] (by rfl) rfl rfl (by (simp only [List.map_toArray, List.map_cons, List.map_nil]); first | done | rfl) ?_
      with_reducible refine (HDef.out _ hHeld.2.2.2).mono ?_
      rintro x wz ⟨e, L', rfl, hl, hs, hg⟩
      have HBn := Aside0.mk (pw_below_grown hHeld.2.2.1 (some gm) (below_size hHeld.2.2.1) hg (fun k_ hk => by cases hk; exact GM.out))
      have HS2 := Aside0.mk hs
      have HL2 := Aside0.mk hl
      clear hs hl hg hHeld
      refine ⟨_, rfl, ?_⟩
      refine hK.out _ _ ?_
      clear hK K
      refine done_ (by kernel_rfl) ?_
      have HB3 := HBn
      clear HB HS hx hy
      go_wp2
      go_roundg k1
      case measure => omega
      case rel => exact ⟨i + 1, L', by rw [hadd], ⟨by have := HK.out; omega, by have := HK.out; omega⟩, HL2, HS2, HB3⟩
theorem loops_law (A : Option Addr) (n c : Nat) (w : World) (ha : Acts w A n) : Calls Try.prog 6 #[.slice A n c] w fun e w' => e = .returned (.bool true) ∧ Below w.heap.size w w' := by
  rcases Nat.lt_or_ge 60 n with h | h
  · exact loops_long A n c w h
  · exact loops_main A n c w h ha
end Go.Proofs.Ytpcpjlbfhbicaaa.Sh
