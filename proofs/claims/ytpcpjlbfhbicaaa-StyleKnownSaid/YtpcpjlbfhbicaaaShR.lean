/- quirelaw03.StyleKnown over this program: it returns true. No condition. -/
import Derived.Test.YtpcpjlbfhbicaaaShQ
import Derived.Test.YtpcpjlbfhbicaaaShJ
import Derived.StillTailTactics
set_option linter.unusedVariables false
set_option linter.unusedSimpArgs false
namespace Go.Proofs.Ytpcpjlbfhbicaaa.Sh
open Go Go.RowKit Go.Proofs.YtpcpjlbfhbicaaaW.PrintWords Go.Proofs.YtpcpjlbfhbicaaaW.PrintLast Go.Proofs.YtpcpjlbfhbicaaaW.PrintMore Go.Proofs.Ytpcpjlbfhbicaaa.PStyleProps
open Go.Proofs.Ytpcpjlbfhbicaaa.PStyleNearest (S37 k37 z37 rd_T37 at_T37 k37_open k37_openM k37_mk k37_mkM info37)
/-- A slice of texts, as far as it is read. -/
def TX (w : World) (A : Option Addr) (xs : List ByteArray) : Prop := ∀ (i : Nat) (s : ByteArray), xs[i]? = some s → ∃ ad, A = some ad ∧ w.cell? (ad.add i) = some (.string s)
theorem TX.below {w w' : World} {A : Option Addr} {xs : List ByteArray} (h : TX w A xs) (hb : Below w.heap.size w w') : TX w' A xs := fun i s hi => by
  obtain ⟨ad, e, hc⟩ := h i s hi
  exact ⟨ad, e, (hb.cell (World.block_lt_of_cell? w _ hc)).trans hc⟩
theorem add_at (g i : Nat) : (⟨g, 0, none⟩ : Addr).add i = ⟨g, i, none⟩ := by
  simp only [Addr.add]
  split
  · rename_i h0; subst h0; rfl
  · simp
theorem tx_one (w : World) (s : ByteArray) : TX (w.alloc (.cells #[.string s] 9)) (some ⟨w.heap.size, 0, none⟩) [s] := fun i t hi => by
  cases i with
  | zero =>
    cases hi
    exact ⟨_, rfl, by rw [add_at]; exact (blk_cell (blk_new w (.cells #[.string s] 9)) 0).trans rfl⟩
  | succ i => simp at hi
set_option maxHeartbeats 4000000 in
set_option maxRecDepth 100000 in
theorem same_calls (A B : Option Addr) (ca cb : Nat) (xs ys : List ByteArray) (w : World) (hl : xs.length ≤ 1000000) (hx : TX w A xs) (hy : TX w B ys) : Calls Try.prog 30 #[.slice A xs.length ca, .slice B ys.length cb] w fun e w' => (∃ b, e = .returned (.bool b) ∧ (b = true ↔ xs = ys)) ∧ Below w.heap.size w w' := by
  have hu58 := Try.underlying58
  by_cases cl : xs.length = ys.length
  · have HX := Aside0.mk hx
    have HY := Aside0.mk hy
    have HL := Aside0.mk hl
    obtain ⟨n, hn⟩ : ∃ n, Aside0 (n = xs.length) := ⟨_, ⟨rfl⟩⟩
    have hm : Aside0 (n = ys.length) := ⟨hn.out.trans cl⟩
    rw [← cl, ← hn.out]
    clear hx hy hl cl
    go_enter Try.func30, Try.ntmps30
    go_wp2
    go_loopg [5] n (fun kq v5 w' => ∃ i : Int, v5 = .int .i64 i ∧ Aside0 (0 ≤ i ∧ i + kq = n) ∧ Aside0 (∀ j, j < i.toNat → xs[j]? = ys[j]?) ∧ Aside0 (Below w.heap.size w w'))
    case atStart => exact ⟨0, rfl, ⟨by omega, by omega⟩, ⟨fun j hj => absurd hj (by simp)⟩, ⟨Below.refl _ _⟩⟩
    case round =>
      obtain ⟨i, rfl, HI, HE, HB⟩ := hrel
      cases gk with
      | zero =>
        have hi := HI.out
        have q109 : decide (i < (n : Int)) = false := decide_eq_false (by omega)
        have hs : xs = ys := by
          apply List.ext_getElem?
          intro j
          by_cases hj : j < i.toNat
          · exact HE.out j hj
          · rw [List.getElem?_eq_none (by have := hn.out; omega), List.getElem?_eq_none (by have := hm.out; omega)]
        have HSm := Aside0.mk hs
        clear hi hs
        go_wp2
        go_ret
        exact ⟨⟨true, rfl, ⟨fun _ => HSm.out, fun _ => rfl⟩⟩, HB.out⟩
      | succ k1 =>
        have hi := HI.out
        have p108 : 0 ≤ i := hi.1
        have q108 : i < (n : Int) := by omega
        have cb1 : decide (i < (n : Int)) = true := decide_eq_true q108
        have hadd : wrap64 (i + 1) = i + 1 := by have := HL.out; have := hn.out; unfold wrap64; omega
        obtain ⟨x, hx⟩ : ∃ x, xs[i.toNat]? = some x := ⟨_, List.getElem?_eq_getElem (by have := hn.out; omega)⟩
        obtain ⟨y, hy⟩ : ∃ y, ys[i.toNat]? = some y := ⟨_, List.getElem?_eq_getElem (by have := hm.out; omega)⟩
        obtain ⟨ad, ea, ha⟩ := HX.out _ _ hx
        obtain ⟨bd, eb, hb⟩ := HY.out _ _ hy
        subst ea eb
        replace ha := (HB.out.cell (World.block_lt_of_cell? w _ ha)).trans ha
        replace hb := (HB.out.cell (World.block_lt_of_cell? w _ hb)).trans hb
        have HXi := Aside0.mk hx
        have HYi := Aside0.mk hy
        clear hi hx hy
        replace p108 := eq_true p108
        replace q108 := eq_true q108
        by_cases c : x = y
        · subst c
          have c' := ba_refl x
          have c'' : (x.toList == x.toList) = true := beq_self_eq_true _
          go_upto_region 6 with fail
          go_still (by kernel_rfl)
          have HBn := Aside0.mk (below_drew1 HB.out)
          go_wp2
          go_roundg k1
          case measure => omega
          case rel => exact ⟨i + 1, by rw [hadd], ⟨by have := HI.out; omega, by have := HI.out; omega⟩, ⟨fun j hj => by
            rcases Nat.lt_or_ge j i.toNat with h | h
            · exact HE.out j h
            · obtain rfl : j = i.toNat := by have := HI.out; omega
              rw [HXi.out, HYi.out]⟩, HBn⟩
        · have c' := ba_ne c
          have c'' := list_neq c
          have hs : xs ≠ ys := fun e => c (by have h1 := HXi.out; rw [e, HYi.out] at h1; exact (Option.some.inj h1).symm)
          have HSm := Aside0.mk hs
          clear hs c
          go_upto_region 6 with fail
          go_still (by kernel_rfl)
          have HBn := Aside0.mk (below_drew1 HB.out)
          go_wp2
          go_ret
          exact ⟨⟨false, rfl, ⟨fun h => absurd h (by decide), fun h => absurd h HSm.out⟩⟩, HBn.out⟩
  · have hne : ¬ ((xs.length : Int) = (ys.length : Int)) := by omega
    have c1 : ((xs.length : Int) == (ys.length : Int)) = false := beq_eq_false_iff_ne.mpr hne
    have c2 : ((xs.length : Int) != (ys.length : Int)) = true := bne_iff_ne.mpr hne
    have c3 : decide ((xs.length : Int) = (ys.length : Int)) = false := decide_eq_false hne
    have c4 : (xs.length == ys.length) = false := beq_eq_false_iff_ne.mpr cl
    have hs : xs ≠ ys := fun e => cl (by rw [e])
    have HSm := Aside0.mk hs
    clear hs hne hx hy
    go_enter Try.func30, Try.ntmps30
    go_wp2
    go_ret
    exact ⟨⟨false, rfl, ⟨fun h => absurd h (by decide), fun h => absurd h HSm.out⟩⟩, Below.refl _ _⟩
set_option maxHeartbeats 4000000 in
set_option maxRecDepth 100000 in
theorem two_calls2 (w : World) : Calls Try.prog 28 #[] w fun e w' => ∃ gs gm, e = .returned (.tuple #[.pointer (some ⟨gs, 0, none⟩), .bool true]) ∧ Sheet w' gs gm L2 ∧ Below w.heap.size w w' ∧ w.heap.size ≤ gm := by
  have hu43 := Try.underlying43
  have hu37 := Try.underlying37
  go_enter Try.func28, Try.ntmps28
  go_wp2_with (first | (go_at_call 22; refine (new_calls _).mono ?_; rintro e w1 ⟨gs, gm, rfl, hgs, hgm, hne, h1, h2, hb⟩; have HS := Aside0.mk (sheet_new h1 h2); have HB := Aside0.mk hb; have GM := Aside0.mk hgm; clear hgs hgm hne h1 h2 hb) | (go_at_call 31; refine (set_calls 1 12 _).mono ?_; rintro e w2 ⟨A1, c1, rfl, hr, hb⟩; have HR1 : Aside0 (Kd.R k37 37 w2 w.heap.size (fun k_ => k_ ≠ gm ∧ k_ ≠ gs) (.slice A1 1 c1) [⟨1, 12⟩]) := ⟨Kd.R_mono (Kd.R_lower (Kd.R_bound hr) (below_size HB.out)) (fun k_ hk => by have := (sheet_lt HS.out); have := hk.2.1; omega)⟩; have HS2 := Aside0.mk (HS.out.below hb); have HB2 := Aside0.mk (below_step HB.out hb); clear HS HB hr hb) | (go_at_call 31; refine (set_calls 1 14 _).mono ?_; rintro e w3 ⟨A2, c2, rfl, hr, hb⟩; have HS3 := Aside0.mk (HS2.out.below hb); have HC2 : Aside0 (Kd.C k37 w3 A2 1 [⟨1, 14⟩]) := ⟨r_reads hr⟩; have HR1b := Aside0.mk (Kd.R_below HR1.out hb); have GM2 : Aside0 (gm < w3.heap.size ∧ gs < w3.heap.size) := ⟨(sheet_lt HS3.out).2, (sheet_lt HS3.out).1⟩;  have HB3 := Aside0.mk (below_step HB2.out hb); clear HS2 HB2 hr hb HR1) | ((with_reducible refine gate_builtin (b := .append) (xs := #[.tmp 8, .tmp 9]) rfl ?_); at_builtin; refine gate_guard (by first | rfl | kernel_rfl) ?_; dsimp only; refine Kd.R_append_rows k37 (w0 := w) (Rr := fun x cs => cs = [.int .i64 x.f0, .int .i64 x.f1]) w.heap.size rfl (.tmp 8) (.tmp 9) 43 37 (.agg #[(.int .i64 0), (.int .i64 0)]) 16 rfl Try.underlying43 info37 rfl (by decide) (by omega) (.slice A1 1 c1) [⟨1, 12⟩] [⟨1, 14⟩] A2 1 c2 (fun k_ => k_ ≠ gm ∧ k_ ≠ gs) (fun _ => False) rfl rfl HR1b.out ?aR ?aK (fun _ hk => hk.elim) (fun k_ hk => by have := GM2.out; omega) HB3.out ?aB ?aL ?_; (case aR => exact HC2.out.imp_ (Below.refl _ _) (fun _ _ hp => k37_open hp)); (case aK => (intro x cs hx; subst hx; exact k37_mkM _ _ _ x)); (case aB => exact below_size HB3.out); (case aL => decide); intro v1 w4 ho1 hb1 hg1 hat1; have HS4 := Aside0.mk (sheet_grown (ok := fun _ => True) HS3.out hg1 HR1b.out.1); have HSl4 := Aside0.mk (sl_of_R ho1); have HB4 := Aside0.mk hb1; obtain ⟨A3, c3, ev1, q1, q2⟩ := Kd.R_reads ho1; subst ev1; clear ho1 hb1 hg1 hat1 q1 q2 HS3 HB3 HR1b HC2) | (go_at_call 23; refine (def_a gs gm _ _ HS4.out HSl4.out).mono ?_; rintro x w5 ⟨rfl, hs, hg⟩; have HS5 := Aside0.mk hs; have HB5 := Aside0.mk (pw_below_grown HB4.out (some gm) (below_size HB4.out) hg (fun k_ hk => by cases hk; exact GM.out)); clear hs hg HS4 HSl4 HB4) | (go_at_call 31; refine (set_calls 5 5 _).mono ?_; rintro e w6 ⟨A4, c4, rfl, hr, hb⟩; have HSl6 := Aside0.mk (sl_of_R hr); have HS6 := Aside0.mk (HS5.out.below hb); have HB6 := Aside0.mk (below_step HB5.out hb); clear HS5 HB5 hr hb) | (go_at_call 23; refine (def_b gs gm _ _ HS6.out HSl6.out).mono ?_; rintro x w7 ⟨rfl, hs, hg⟩; have HS := Aside0.mk hs; have HB := Aside0.mk (pw_below_grown HB6.out (some gm) (below_size HB6.out) hg (fun k_ hk => by cases hk; exact GM.out)); clear hs hg HS6 HSl6 HB6))
  go_ret2
  exact ⟨gs, gm, rfl, HS.out, HB.out, GM.out⟩

abbrev ma : ByteArray := ⟨#[97]⟩
abbrev mb : ByteArray := ⟨#[98]⟩
def L1 : List Sty := [(⟨#[97]⟩, ⟨#[]⟩, la)]
theorem L2_short : ∀ s ∈ L2, s.1.size ≤ 16 := by
  intro s hs
  rcases List.mem_cons.1 hs with rfl | hs
  · decide
  · rcases List.mem_cons.1 hs with rfl | hs
    · decide
    · cases hs
theorem L1_short : ∀ s ∈ L1, s.1.size ≤ 16 := by
  intro s hs
  rcases List.mem_cons.1 hs with rfl | hs
  · decide
  · cases hs
theorem fits_L1 : Fits L1 := by
  intro s hs
  rcases List.mem_cons.1 hs with rfl | hs
  · exact allFit_iff.1 (by decide +kernel)
  · cases hs
theorem def_nil (gs gm : Nat) (L : List Sty) (n p : ByteArray) (nb ab : Bool) (r : Int) (w : World) (hs : Sheet w gs gm L) (hn : PStyleNearest.style_name.f 20 n = some nb) (ha : aboveG (upL L) n 5 p = some ab) (hr : defE nb 0 ab L n p = r) (h0 : r ≠ 0) :
    Calls Try.prog 23 #[.pointer (some ⟨gs, 0, none⟩), .string n, .string p, .slice none 0 0] w fun x w' => x = .returned (.int .i64 r) ∧ Sheet w' gs gm L ∧ w.grownBy w' (some gm) := by
  obtain ⟨ks, he⟩ := settings_total []
  refine (define_calls gs gm L n p _ [] w hs (Sl.nil w) 20 ks 5 nb 0 ab hn (he.trans rfl) ha).mono ?_
  rintro x w' ⟨rfl, h1, h2⟩
  refine ⟨by rw [hr], ?_, h2⟩
  unfold defL at h1
  rw [if_neg (by rw [hr]; exact h0)] at h1
  exact h1
theorem def_d (gs gm : Nat) (v : Value) (w : World) (hs : Sheet w gs gm L1) (hv : Sl w v [⟨1, 65⟩]) :
    Calls Try.prog 23 #[.pointer (some ⟨gs, 0, none⟩), .string ⟨#[100]⟩, .string ⟨#[]⟩, v] w fun x w' => x = .returned (.int .i64 2) ∧ Sheet w' gs gm L1 ∧ w.grownBy w' (some gm) := by
  obtain ⟨ks, he⟩ := settings_total [⟨1, 65⟩]
  refine (define_calls gs gm L1 ⟨#[100]⟩ ⟨#[]⟩ _ [⟨1, 65⟩] w hs hv 20 ks 5 true 2 false (by decide +kernel) (he.trans rfl) rfl).mono ?_
  rintro x w' ⟨rfl, h1, h2⟩
  exact ⟨rfl, h1, h2⟩
theorem known_names (gs gm : Nat) (w : World) (hs : Sheet w gs gm L1) : Calls Try.prog 26 #[.pointer (some ⟨gs, 0, none⟩)] w fun x w' => ∃ (B : Option Addr) (cap : Nat), x = .returned (.slice B 1 cap) ∧ TX w' B [ma] ∧ Below w.heap.size w w' := by
  refine (names_calls gs gm L1 w hs L1_short (by decide)).mono ?_
  rintro x w' ⟨B, cap, ns, rfl, hl, hm, _, hc, hb⟩
  have hl1 : ns.length = 1 := hl
  obtain ⟨a, rfl⟩ := List.length_eq_one_iff.1 hl1
  have ha : a = ma := by
    have := (hm a).1 List.mem_cons_self
    simpa [L1] using this
  subst ha
  exact ⟨B, cap, rfl, hc, hb⟩
theorem known_same (A B : Option Addr) (ca cb : Nat) (w : World) (hx : TX w A [ma]) (hy : TX w B [ma]) : Calls Try.prog 30 #[.slice A 1 ca, .slice B 1 cb] w fun e w' => e = .returned (.bool true) ∧ Below w.heap.size w w' := by
  refine (same_calls A B ca cb [ma] [ma] w (by decide) hx hy).mono ?_
  rintro x w' ⟨⟨b, rfl, hb⟩, h2⟩
  rw [hb.2 rfl]
  exact ⟨rfl, h2⟩
theorem known_rem (gs gm : Nat) (L L' : List Sty) (n : ByteArray) (r : Int) (w : World) (hs : Sheet w gs gm L) (hn : ∀ s ∈ L, s.1.size ≤ 16) (hl : L.length ≤ 32) (hr : remE L n = r) (hL : remL L n = L') :
    Calls Try.prog 29 #[.pointer (some ⟨gs, 0, none⟩), .string n] w fun x w' => x = .returned (.int .i64 r) ∧ Sheet w' gs gm L' ∧ w.grownBy w' (some gm) := by
  subst hr hL
  exact remove_calls gs gm L n w hs hn hl
theorem pv_row' (f : Int → Int) (n : Int) (h0 : 1 ≤ n) (h1 : n ≤ 17) : pv (f 1) (f 2) (f 3) (f 4) (f 5) (f 6) (f 7) (f 8) (f 9) (f 10) (f 11) (f 12) (f 13) (f 14) (f 15) (f 16) (f 17) n = f n := by
  rcases range17 n h0 h1 with rfl | rfl | rfl | rfl | rfl | rfl | rfl | rfl | rfl | rfl | rfl | rfl | rfl | rfl | rfl | rfl | rfl <;> rfl
theorem get_orphan (w : World) : Calls Try.prog 16 #[.agg (row base), .int .i64 11] w fun e w' => e = .returned (.tuple #[.int .i64 1, .int .i64 0]) ∧ Below w.heap.size w w' := by
  have := get_in (base 1) (base 2) (base 3) (base 4) (base 5) (base 6) (base 7) (base 8) (base 9) (base 10) (base 11) (base 12) (base 13) (base 14) (base 15) (base 16) (base 17) 11 w (by decide) (by decide)
  rw [pv_row' base 11 (by decide) (by decide)] at this
  exact this
theorem bounds_18 (w : World) : Calls Try.prog 10 #[.int .i64 18] w fun e w' => e = .returned (.tuple #[.int .i64 0, .int .i64 0, .int .i64 2]) ∧ Below w.heap.size w w' :=
  (PStyleNearest.style_Bounds.calls 20 18 0 0 2 w (by decide +kernel)).mono (fun e w' hh => ⟨hh.1, hh.2.below⟩)
theorem res_none (gs gm : Nat) (w : World) (hs : Sheet w gs gm L1) : Calls Try.prog 24 #[.pointer (some ⟨gs, 0, none⟩), .string ⟨#[]⟩, .slice none 0 0] w fun x w' => x = .returned (.tuple #[.agg (row (withF base [])), .int .i64 0]) ∧ Below w.heap.size w w' := by
  obtain ⟨ks, hks⟩ := settings_total []
  exact resolve_calls gs gm L1 ⟨#[]⟩ _ [] w hs (Sl.nil w) ks 4 0 base fits_L1 (hks.trans rfl) (fun _ => (setE_zero rfl).1) rfl
set_option maxHeartbeats 8000000 in
set_option maxRecDepth 100000 in
theorem known_law (w : World) : Calls Try.prog 7 #[] w fun e w' => e = .returned (.bool true) ∧ Below w.heap.size w w' := by
  have hu43 := Try.underlying43
  have hu23 := Try.underlying23
  have hu58 := Try.underlying58
  have HD1 : Aside0 (∀ gs gm w', Sheet w' gs gm L2 → Calls Try.prog 23 #[.pointer (some ⟨gs, 0, none⟩), .string ⟨#[97]⟩, .string ⟨#[98]⟩, .slice none 0 0] w' fun x w'' => x = .returned (.int .i64 10) ∧ Sheet w'' gs gm L2 ∧ w'.grownBy w'' (some gm)) := ⟨fun gs gm w' hs => def_nil gs gm L2 _ _ true true 10 w' hs (by decide +kernel) (by decide +kernel) rfl (by decide)⟩
  have HD2 : Aside0 (∀ gs gm w', Sheet w' gs gm L2 → Calls Try.prog 23 #[.pointer (some ⟨gs, 0, none⟩), .string ⟨#[99]⟩, .string ⟨#[120]⟩, .slice none 0 0] w' fun x w'' => x = .returned (.int .i64 6) ∧ Sheet w'' gs gm L2 ∧ w'.grownBy w'' (some gm)) := ⟨fun gs gm w' hs => def_nil gs gm L2 _ _ true false 6 w' hs (by decide +kernel) (by decide +kernel) rfl (by decide)⟩
  have HD3 : Aside0 (∀ gs gm w', Sheet w' gs gm L2 → Calls Try.prog 23 #[.pointer (some ⟨gs, 0, none⟩), .string ⟨#[65]⟩, .string ⟨#[]⟩, .slice none 0 0] w' fun x w'' => x = .returned (.int .i64 4) ∧ Sheet w'' gs gm L2 ∧ w'.grownBy w'' (some gm)) := ⟨fun gs gm w' hs => def_nil gs gm L2 _ _ false false 4 w' hs (by decide +kernel) (by decide +kernel) rfl (by decide)⟩
  have HD5 : Aside0 (∀ gs gm w', Sheet w' gs gm L1 → Calls Try.prog 23 #[.pointer (some ⟨gs, 0, none⟩), .string ⟨#[97]⟩, .string ⟨#[97]⟩, .slice none 0 0] w' fun x w'' => x = .returned (.int .i64 10) ∧ Sheet w'' gs gm L1 ∧ w'.grownBy w'' (some gm)) := ⟨fun gs gm w' hs => def_nil gs gm L1 _ _ true true 10 w' hs (by decide +kernel) (by decide +kernel) rfl (by decide)⟩
  have HR1 : Aside0 (∀ gs gm w', Sheet w' gs gm L2 → Calls Try.prog 29 #[.pointer (some ⟨gs, 0, none⟩), .string ⟨#[97]⟩] w' fun x w'' => x = .returned (.int .i64 9) ∧ Sheet w'' gs gm L2 ∧ w'.grownBy w'' (some gm)) := ⟨fun gs gm w' hs => known_rem gs gm L2 L2 _ 9 w' hs L2_short (by decide) rfl rfl⟩
  have HR2 : Aside0 (∀ gs gm w', Sheet w' gs gm L2 → Calls Try.prog 29 #[.pointer (some ⟨gs, 0, none⟩), .string ⟨#[98]⟩] w' fun x w'' => x = .returned (.int .i64 0) ∧ Sheet w'' gs gm L1 ∧ w'.grownBy w'' (some gm)) := ⟨fun gs gm w' hs => known_rem gs gm L2 L1 _ 0 w' hs L2_short (by decide) rfl rfl⟩
  have HV1 : Aside0 (∀ gs gm w', Sheet w' gs gm L1 → Calls Try.prog 24 #[.pointer (some ⟨gs, 0, none⟩), .string ⟨#[98]⟩, .slice none 0 0] w' fun x w'' => x = .returned (.tuple #[.agg (row zero), .int .i64 6]) ∧ Below w'.heap.size w' w'') := ⟨fun gs gm w' hs => resolve_miss gs gm L1 _ _ [] w' hs (Sl.nil w') (by decide) rfl⟩
  have HV2 : Aside0 (∀ gs gm w', Sheet w' gs gm L1 → Calls Try.prog 24 #[.pointer (some ⟨gs, 0, none⟩), .string ⟨#[]⟩, .slice none 0 0] w' fun x w'' => x = .returned (.tuple #[.agg (row (withF base [])), .int .i64 0]) ∧ Below w'.heap.size w' w'') := ⟨res_none⟩
  have HBs : Aside0 (∀ w', Calls Try.prog 14 #[] w' fun e w'' => e = .returned (.agg (row base)) ∧ Below w'.heap.size w' w'') := ⟨base_calls⟩
  have HGt : Aside0 (∀ w', Calls Try.prog 16 #[.agg (row base), .int .i64 11] w' fun e w'' => e = .returned (.tuple #[.int .i64 1, .int .i64 0]) ∧ Below w'.heap.size w' w'') := ⟨get_orphan⟩
  have Z1 : Aside0 ((row zero).size = 17) := ⟨rfl⟩
  have O1 : Aside0 ((row zero).all (·.oneCell') = true) := ⟨row_all _⟩
  have Z2 : Aside0 ((row (withF base [])).size = 17) := ⟨rfl⟩
  have O2 : Aside0 ((row (withF base [])).all (·.oneCell') = true) := ⟨row_all _⟩
  have V2 : Aside0 ((row (withF base []))[0]? = some (.int .i64 10)) := ⟨rfl⟩
  generalize row zero = R1 at HV1 Z1 O1
  generalize row (withF base []) = R2 at HV2 Z2 O2 V2
  generalize row base = Rb at HBs HGt
  go_enter Try.func7, Try.ntmps7
  go_upto_region 6 with (first | (go_at_call 28; with_reducible refine (two_calls2 _).mono ?_; rintro x wz ⟨gs, gm, rfl, hs, hb, hgm⟩; have HS := Aside0.mk hs; have HB := Aside0.mk hb; have GM := Aside0.mk hgm; clear hs hb hgm) | (go_at_call 23; with_reducible refine (HD1.out gs gm _ HS.out).mono ?_; rintro x wz ⟨rfl, hs, hg⟩; have HBn := Aside0.mk (pw_below_grown HB.out (some gm) (below_size HB.out) hg (fun k_ hk => by cases hk; exact GM.out)); have HSn := Aside0.mk hs; clear HB HS hs hg; have HB := HBn; have HS := HSn; clear HBn HSn) | (go_at_call 23; with_reducible refine (HD2.out gs gm _ HS.out).mono ?_; rintro x wz ⟨rfl, hs, hg⟩; have HBn := Aside0.mk (pw_below_grown HB.out (some gm) (below_size HB.out) hg (fun k_ hk => by cases hk; exact GM.out)); have HSn := Aside0.mk hs; clear HB HS hs hg; have HB := HBn; have HS := HSn; clear HBn HSn) | (go_at_call 23; with_reducible refine (HD3.out gs gm _ HS.out).mono ?_; rintro x wz ⟨rfl, hs, hg⟩; have HBn := Aside0.mk (pw_below_grown HB.out (some gm) (below_size HB.out) hg (fun k_ hk => by cases hk; exact GM.out)); have HSn := Aside0.mk hs; clear HB HS hs hg; have HB := HBn; have HS := HSn; clear HBn HSn) | (go_at_call 29; with_reducible refine (HR1.out gs gm _ HS.out).mono ?_; rintro x wz ⟨rfl, hs, hg⟩; have HBn := Aside0.mk (pw_below_grown HB.out (some gm) (below_size HB.out) hg (fun k_ hk => by cases hk; exact GM.out)); have HSn := Aside0.mk hs; clear HB HS hs hg; have HB := HBn; have HS := HSn; clear HBn HSn) | (go_at_call 29; with_reducible refine (HR2.out gs gm _ HS.out).mono ?_; rintro x wz ⟨rfl, hs, hg⟩; have HBn := Aside0.mk (pw_below_grown HB.out (some gm) (below_size HB.out) hg (fun k_ hk => by cases hk; exact GM.out)); have HSn := Aside0.mk hs; clear HB HS hs hg; have HB := HBn; have HS := HSn; clear HBn HSn) | (go_at_call 26; with_reducible refine (known_names gs gm _ HS.out).mono ?_; rintro x wz ⟨B, cap, rfl, htx, hb⟩; have HBn := Aside0.mk (below_step HB.out hb); have HSn := Aside0.mk (HS.out.below hb); clear HB HS hb; have HB := HBn; have HS := HSn; clear HBn HSn; have HT := Aside0.mk htx; clear htx) | (go_at_call 30; with_reducible refine (known_same B _ cap _ _ (HT.out.below (below_alloc (Below.refl _ _) _)) (tx_one _ _)).mono ?_; rintro x wz ⟨rfl, hb⟩; have HBn := Aside0.mk (below_step (below_alloc HB.out _) hb); have HSn := Aside0.mk ((HS.out.below (below_alloc (Below.refl _ _) _)).below hb); clear HB HS HT hb; have HB := HBn; have HS := HSn; clear HBn HSn))
  go_upto_region 7 with (first | (go_at_call 24; with_reducible refine (HV1.out gs gm _ HS.out).mono ?_; rintro x wz ⟨rfl, hb⟩; have HBn := Aside0.mk (below_step HB.out hb); have HSn := Aside0.mk (HS.out.below hb); clear HB HS hb; have HB := HBn; have HS := HSn; clear HBn HSn) | ((with_reducible refine gate_dst (N := 5) rfl ?_); refine box_event ?hg (N := 5) ?hd (cs := #[.int .i64 0, .int .i64 0, .int .i64 0, .int .i64 0, .int .i64 0, .int .i64 0, .int .i64 0, .int .i64 0, .int .i64 0, .int .i64 0, .int .i64 0, .int .i64 0, .int .i64 0, .int .i64 0, .int .i64 0, .int .i64 0, .int .i64 0]) (t := 23) ?hr ?_; (case hd => rfl); (case hg => rfl); (case hr => first | (go_simp; done) | (go_simp; rfl)); intro g5 hg wb hbox hb; have GE5 : Aside0 (w.heap.size ≤ g5) := ⟨by rw [hg]; exact below_size HB.out⟩; have HBn := Aside0.mk (below_step HB.out hb); have BK5 := Aside0.mk hbox; have HX5 := Aside0.mk hb; have GX5 := Aside0.mk (Nat.le_of_eq hg.symm); clear HB; have HB := HBn; clear HBn hb hbox hg) | ((with_reducible refine gate_store (t := 23) (p := 5) rfl ?_); refine wpList_store_row rfl 23 (.tmp 5) (.tmp 50) rfl g5 R1 rfl rfl 23 #[.int .i64 0, .int .i64 0, .int .i64 0, .int .i64 0, .int .i64 0, .int .i64 0, .int .i64 0, .int .i64 0, .int .i64 0, .int .i64 0, .int .i64 0, .int .i64 0, .int .i64 0, .int .i64 0, .int .i64 0, .int .i64 0, .int .i64 0] BK5.out (by rw [Z1.out]; exact info23) (by rw [Z1.out]; rfl) O1.out ?_; have HBn := Aside0.mk (below_setRow HB.out GE5.out R1); have BKn := Aside0.mk (setRow_heap _ g5 _ R1 23 (0, 0) BK5.out); have HSn := Aside0.mk (HS.out.below (below_setRow HX5.out GX5.out R1)); clear HB BK5 HS HX5 GX5; have HB := HBn; have BK5 := BKn; have HS := HSn; clear HBn BKn HSn; generalize World.setRow _ g5 R1 = wq at HB BK5 HS ⊢))
  clear BK5 GE5
  go_upto_region 8 with (first | (go_at_call 24; with_reducible refine (HV2.out gs gm _ HS.out).mono ?_; rintro x wz ⟨rfl, hb⟩; have HBn := Aside0.mk (below_step HB.out hb); have HSn := Aside0.mk (HS.out.below hb); clear HB HS hb; have HB := HBn; have HS := HSn; clear HBn HSn) | ((with_reducible refine gate_dst (N := 7) rfl ?_); refine box_event ?hg (N := 7) ?hd (cs := #[.int .i64 0, .int .i64 0, .int .i64 0, .int .i64 0, .int .i64 0, .int .i64 0, .int .i64 0, .int .i64 0, .int .i64 0, .int .i64 0, .int .i64 0, .int .i64 0, .int .i64 0, .int .i64 0, .int .i64 0, .int .i64 0, .int .i64 0]) (t := 23) ?hr ?_; (case hd => rfl); (case hg => rfl); (case hr => first | (go_simp; done) | (go_simp; rfl)); intro g7 hg wb hbox hb; have GE7 : Aside0 (w.heap.size ≤ g7) := ⟨by rw [hg]; exact below_size HB.out⟩; have HBn := Aside0.mk (below_step HB.out hb); have BK7 := Aside0.mk hbox; have HX7 := Aside0.mk hb; have GX7 := Aside0.mk (Nat.le_of_eq hg.symm); clear HB; have HB := HBn; clear HBn hb hbox hg) | ((with_reducible refine gate_store (t := 23) (p := 7) rfl ?_); refine wpList_store_row rfl 23 (.tmp 7) (.tmp 55) rfl g7 R2 rfl rfl 23 #[.int .i64 0, .int .i64 0, .int .i64 0, .int .i64 0, .int .i64 0, .int .i64 0, .int .i64 0, .int .i64 0, .int .i64 0, .int .i64 0, .int .i64 0, .int .i64 0, .int .i64 0, .int .i64 0, .int .i64 0, .int .i64 0, .int .i64 0] BK7.out (by rw [Z2.out]; exact info23) (by rw [Z2.out]; rfl) O2.out ?_; have HBn := Aside0.mk (below_setRow HB.out GE7.out R2); have BKn := Aside0.mk (setRow_heap _ g7 _ R2 23 (0, 0) BK7.out); have HSn := Aside0.mk (HS.out.below (below_setRow HX7.out GX7.out R2)); clear HB BK7 HS HX7 GX7; have HB := HBn; have BK7 := BKn; have HS := HSn; clear HBn BKn HSn; generalize World.setRow _ g7 R2 = wq at HB BK7 HS ⊢))
  go_upto_region 10 with (first | (go_at_call 10; with_reducible refine (bounds_18 _).mono ?_; rintro x wz ⟨rfl, hb⟩; have HBn := Aside0.mk (below_step HB.out hb); have HSn := Aside0.mk (HS.out.below hb); have BKn := Aside0.mk (blk_below BK7.out hb); clear HB HS BK7 hb; have HB := HBn; have HS := HSn; have BK7 := BKn; clear HBn HSn BKn) | (go_at_call 14; with_reducible refine (HBs.out _).mono ?_; rintro x wz ⟨rfl, hb⟩; have HBn := Aside0.mk (below_step HB.out hb); have HSn := Aside0.mk (HS.out.below hb); have BKn := Aside0.mk (blk_below BK7.out hb); clear HB HS BK7 hb; have HB := HBn; have HS := HSn; have BK7 := BKn; clear HBn HSn BKn) | (go_at_call 16; with_reducible refine (HGt.out _).mono ?_; rintro x wz ⟨rfl, hb⟩; have HBn := Aside0.mk (below_step HB.out hb); have HSn := Aside0.mk (HS.out.below hb); have BKn := Aside0.mk (blk_below BK7.out hb); clear HB HS BK7 hb; have HB := HBn; have HS := HSn; have BK7 := BKn; clear HBn HSn BKn))
  go_wp2_with (first | (go_at_call 21; with_reducible refine (awake_calls _).mono ?_; rintro x wz ⟨rfl, hb⟩; have HBn := Aside0.mk (below_step HB.out hb); have HSn := Aside0.mk (HS.out.below hb); have BKn := Aside0.mk (blk_below BK7.out hb); clear HB HS BK7 hb; have HB := HBn; have HS := HSn; have BK7 := BKn; clear HBn HSn BKn; have y0 := (blk_cell BK7.out 0).trans V2.out) | (go_at_call 31; with_reducible refine (set_calls 1 65 _).mono ?_; rintro x wz ⟨A, c, rfl, hr, hb⟩; have HBn := Aside0.mk (below_step HB.out hb); have HSn := Aside0.mk (HS.out.below hb); clear HB HS hb; have HB := HBn; have HS := HSn; clear HBn HSn; have HSl := Aside0.mk (sl_of_R hr); clear hr y0) | (go_at_call 23; with_reducible refine (def_d gs gm _ _ HS.out HSl.out).mono ?_; rintro x wz ⟨rfl, hs, hg⟩; have HBn := Aside0.mk (pw_below_grown HB.out (some gm) (below_size HB.out) hg (fun k_ hk => by cases hk; exact GM.out)); have HSn := Aside0.mk hs; clear HB HS hs hg; have HB := HBn; have HS := HSn; clear HBn HSn) | (go_at_call 23; with_reducible refine (HD5.out gs gm _ HS.out).mono ?_; rintro x wz ⟨rfl, hs, hg⟩; have HBn := Aside0.mk (pw_below_grown HB.out (some gm) (below_size HB.out) hg (fun k_ hk => by cases hk; exact GM.out)); have HSn := Aside0.mk hs; clear HB HS hs hg; have HB := HBn; have HS := HSn; clear HBn HSn))
  go_ret
  exact ⟨rfl, HB.out⟩
end Go.Proofs.Ytpcpjlbfhbicaaa.Sh
