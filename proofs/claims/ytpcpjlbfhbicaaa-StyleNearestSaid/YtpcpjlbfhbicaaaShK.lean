/- quirelaw03.StyleApart over this program: for every input it returns true. Conditions: the four arguments' rows read. -/
import Derived.Test.YtpcpjlbfhbicaaaShJ
import Derived.Test.YtpcpjlbfhbicaaaTryB
set_option linter.unusedVariables false
set_option linter.unusedSimpArgs false
namespace Go.Proofs.Ytpcpjlbfhbicaaa.Sh
open Go Go.RowKit Go.Proofs.YtpcpjlbfhbicaaaW.PrintWords Go.Proofs.YtpcpjlbfhbicaaaW.PrintLast Go.Proofs.YtpcpjlbfhbicaaaW.PrintMore Go.Proofs.Ytpcpjlbfhbicaaa.PStyleProps
open Go.Proofs.Ytpcpjlbfhbicaaa.PStyleNearest (S37 k37 z37 rd_T37 at_T37 k37_open k37_openM k37_mk k37_mkM info37)
abbrev na : ByteArray := ⟨#[97]⟩
abbrev nb : ByteArray := ⟨#[98]⟩
/-- A sheet in which the styles a and b are as they were defined. -/
structure AB (L : List Sty) (a b : List S37) : Prop where
  sa : (fnd L na).isSome = true
  sb : (fnd L nb).isSome = true
  ua : upL L na = ⟨#[]⟩
  ub : upL L nb = na
  la : setsL L na = a
  lb : setsL L nb = b
  ends : Ends (upL L)
  fits : Fits L
theorem AB.put {L : List Sty} {a b : List S37} (h : AB L a b) {n p : ByteArray} {l : List S37} (hna : na ≠ n) (hnb : nb ≠ n) (hl : fitsAll l) {k : Nat} (ha : aboveG (upL L) n k p = some false) : AB (putL L n p l) a b where
  sa := by rw [fnd_put, if_neg hna]; exact h.sa
  sb := by rw [fnd_put, if_neg hnb]; exact h.sb
  ua := by rw [upL_put, if_neg hna]; exact h.ua
  ub := by rw [upL_put, if_neg hnb]; exact h.ub
  la := by rw [setsL_put, if_neg hna]; exact h.la
  lb := by rw [setsL_put, if_neg hnb]; exact h.lb
  ends := h.ends.put ha
  fits := h.fits.put hl
theorem defE_zero {nb : Bool} {e : Int} {ab : Bool} {L : List Sty} {n p : ByteArray} (h : defE nb e ab L n p = 0) : e = 0 ∧ ab = false := by
  unfold defE at h
  split at h
  · cases h
  · split at h
    · cases h
    · split at h
      · rename_i h1 h2 h3
        exact absurd h h3
      · split at h
        · cases h
        · rename_i h1 h2 h3 h4
          exact ⟨by omega, by simpa using h4⟩
theorem AB.def {L : List Sty} {a b : List S37} (h : AB L a b) {n p : ByteArray} {l : List S37} (hna : na ≠ n) (hnb : nb ≠ n) {k : Nat} {nbb ab : Bool} (ha : aboveG (upL L) n k p = some ab) : AB (defL nbb (setE l) ab L n p l) a b := by
  unfold defL
  by_cases c : defE nbb (setE l) ab L n p = 0
  · rw [if_pos c]
    obtain ⟨h1, h2⟩ := defE_zero c
    subst h2
    exact h.put hna hnb (setE_zero h1).1 ha
  · rw [if_neg c]; exact h
def ABs (w : World) (gs gm : Nat) (a b : List S37) : Prop := ∃ L, Sheet w gs gm L ∧ AB L a b
theorem ABs.below {w w' : World} {gs gm : Nat} {a b : List S37} (h : ABs w gs gm a b) (hb : Below w.heap.size w w') : ABs w' gs gm a b := by
  obtain ⟨L, h1, h2⟩ := h
  exact ⟨L, h1.below hb, h2⟩
theorem ABs.lt {w : World} {gs gm : Nat} {a b : List S37} (h : ABs w gs gm a b) : gs < w.heap.size ∧ gm < w.heap.size := by
  obtain ⟨L, h1, h2⟩ := h
  exact sheet_lt h1
theorem ABs.define (gs gm : Nat) (n p : ByteArray) (v : Value) (l a b : List S37) (w : World) (h : ABs w gs gm a b) (hv : Sl w v l) (hn : PStyleNearest.style_name.f 20 n = some true) (hna : na ≠ n) (hnb : nb ≠ n) :
    Calls Try.prog 23 #[.pointer (some ⟨gs, 0, none⟩), .string n, .string p, v] w fun x w' => ∃ r, x = .returned (.int .i64 r) ∧ ABs w' gs gm a b ∧ w.grownBy w' (some gm) := by
  obtain ⟨L, h1, h2⟩ := h
  obtain ⟨ks, hks⟩ := settings_total l
  obtain ⟨k, ab, hk⟩ := h2.ends.above n p
  refine (define_calls gs gm L n p v l w h1 hv 20 ks k true (setE l) ab hn hks hk).mono ?_
  rintro x w' ⟨rfl, hs, hg⟩
  exact ⟨_, rfl, ⟨_, hs, h2.def hna hnb hk⟩, hg⟩
theorem ABs.resolve_b (gs gm : Nat) (a b : List S37) (w : World) (h : ABs w gs gm a b) :
    Calls Try.prog 24 #[.pointer (some ⟨gs, 0, none⟩), .string nb, .slice none 0 0] w fun x w' => x = .returned (.tuple #[.agg (row (withF (withF base a) b)), .int .i64 0]) ∧ Below w.heap.size w w' := by
  obtain ⟨L, h1, h2⟩ := h
  have hm : makesF L 3 nb = some (withF (withF base a) b) := by
    rw [makesF, if_neg (by decide), h2.ub, makesF, if_neg (by decide), h2.ua, makesF, if_pos rfl, h2.la, h2.lb]; rfl
  have hf : ¬ (nb ≠ ⟨#[]⟩ ∧ fnd L nb = none) := by rintro ⟨_, h⟩; have := h2.sb; rw [h] at this; cases this
  have := resolve_calls gs gm L nb _ [] w h1 (Sl.nil w) 30 3 0 _ h2.fits (by decide +kernel) (fun _ s hs => by cases hs) hm
  unfold resF resE at this
  rw [if_neg hf, if_pos rfl] at this
  exact this
theorem ABs.resolve_a (gs gm : Nat) (a b : List S37) (w : World) (h : ABs w gs gm a b) :
    Calls Try.prog 24 #[.pointer (some ⟨gs, 0, none⟩), .string na, .slice none 0 0] w fun x w' => x = .returned (.tuple #[.agg (row (withF base a)), .int .i64 0]) ∧ Below w.heap.size w w' := by
  obtain ⟨L, h1, h2⟩ := h
  have hm : makesF L 3 na = some (withF base a) := by
    rw [makesF, if_neg (by decide), h2.ua, makesF, if_pos rfl, h2.la]; rfl
  have hf : ¬ (na ≠ ⟨#[]⟩ ∧ fnd L na = none) := by rintro ⟨_, h⟩; have := h2.sa; rw [h] at this; cases this
  have := resolve_calls gs gm L na _ [] w h1 (Sl.nil w) 30 3 0 _ h2.fits (by decide +kernel) (fun _ s hs => by cases hs) hm
  unfold resF resE at this
  rw [if_neg hf, if_pos rfl] at this
  exact this
theorem def_first (gs gm : Nat) (v : Value) (l : List S37) (w : World) (hs : Sheet w gs gm []) (hv : Sl w v l) :
    Calls Try.prog 23 #[.pointer (some ⟨gs, 0, none⟩), .string na, .string ⟨#[]⟩, v] w fun x w' => x = .returned (.int .i64 (setE l)) ∧ (setE l = 0 → Sheet w' gs gm [(na, ⟨#[]⟩, l)]) ∧ w.grownBy w' (some gm) := by
  obtain ⟨ks, hks⟩ := settings_total l
  have hd : defE true (setE l) false [] na ⟨#[]⟩ = setE l := by
    by_cases c : setE l = 0
    · rw [c]; decide
    · unfold defE; rw [if_neg (by decide), if_neg (by decide), if_pos c]
  refine (define_calls gs gm [] na ⟨#[]⟩ v l w hs hv 20 ks 5 true (setE l) false name_a hks rfl).mono ?_
  rintro x w' ⟨rfl, hs', hg⟩
  refine ⟨by rw [hd], fun h0 => ?_, hg⟩
  unfold defL at hs'
  rw [if_pos (by rw [hd]; exact h0)] at hs'
  exact hs'
theorem def_second (gs gm : Nat) (v : Value) (a l : List S37) (w : World) (hs : Sheet w gs gm [(na, ⟨#[]⟩, a)]) (ha : fitsAll a) (hv : Sl w v l) :
    Calls Try.prog 23 #[.pointer (some ⟨gs, 0, none⟩), .string nb, .string na, v] w fun x w' => x = .returned (.int .i64 (setE l)) ∧ (setE l = 0 → ABs w' gs gm a l) ∧ w.grownBy w' (some gm) := by
  obtain ⟨ks, hks⟩ := settings_total l
  have hd : defE true (setE l) false [(na, ⟨#[]⟩, a)] nb na = setE l := by
    have h1 : ¬ (na ≠ ⟨#[]⟩ ∧ fnd [(na, ⟨#[]⟩, a)] na = none) := by rintro ⟨_, h⟩; cases h
    by_cases c : setE l = 0
    · unfold defE; rw [c, if_neg (by decide), if_neg h1, if_neg (by decide), if_neg (by decide), if_neg]
      rintro ⟨_, h⟩
      simp at h
    · unfold defE; rw [if_neg (by decide), if_neg h1, if_pos c]
  refine (define_calls gs gm [(na, ⟨#[]⟩, a)] nb na v l w hs hv 20 ks 5 true (setE l) false name_b hks rfl).mono ?_
  rintro x w' ⟨rfl, hs', hg⟩
  refine ⟨by rw [hd], fun h0 => ?_, hg⟩
  unfold defL at hs'
  rw [if_pos (by rw [hd]; exact h0)] at hs'
  have hf : Fits [(na, ⟨#[]⟩, a)] := fun s hs => by
    rcases List.mem_cons.1 hs with rfl | hs
    · exact ha
    · cases hs
  have he : Ends (upL [(na, ⟨#[]⟩, a)]) := Ends.put (L := []) (n := na) (p := ⟨#[]⟩) (l := a) Ends.nil (k := 5) rfl
  refine ⟨_, hs', rfl, rfl, rfl, rfl, rfl, rfl, he.put (k := 5) rfl, hf.put (setE_zero h0).1⟩
theorem eq_row (f : Int → Int) (w : World) : (Op.equalIn 10000 23 (.agg (row f)) (.agg (row f))).run Try.prog w = .ok true w := by
  unfold row
  rw [eqA23]
  simp
theorem name_c : PStyleNearest.style_name.f 20 ⟨#[99]⟩ = some true := by decide +kernel
theorem name_d : PStyleNearest.style_name.f 20 ⟨#[100]⟩ = some true := by decide +kernel
set_option maxHeartbeats 4000000 in
set_option maxRecDepth 100000 in
theorem apart_long0 (A0 A1 A2 A3 : Option Addr) (c0 c1 c2 c3 : Nat) (l0 l1 l2 l3 : List S37) (w : World) (v0 : Sl w (.slice A0 l0.length c0) l0) (v1 : Sl w (.slice A1 l1.length c1) l1) (v2 : Sl w (.slice A2 l2.length c2) l2) (v3 : Sl w (.slice A3 l3.length c3) l3)  (h0 : 20 < l0.length) : Calls Try.prog 4 #[.slice A0 l0.length c0, .slice A1 l1.length c1, .slice A2 l2.length c2, .slice A3 l3.length c3] w fun e w' => e = .returned (.bool true) ∧ Below w.heap.size w w' := by
  have hu43 := Try.underlying43
  have hu23 := Try.underlying23
  have V0 := Aside0.mk v0
  have V1 := Aside0.mk v1
  have V2 := Aside0.mk v2
  have V3 := Aside0.mk v3
  clear v0 v1 v2 v3
  have d0 : decide ((20 : Int) < (l0.length : Int)) = true := decide_eq_true (by omega)
  have e0 : decide (20 < l0.length) = true := decide_eq_true (by omega)
  clear h0
  go_enter Try.func4, Try.ntmps4
  go_wp2_with (first | (go_at_call 21; refine (awake_calls _).mono ?_; rintro e w1 ⟨rfl, hb⟩; have HB := Aside0.mk hb; clear hb) | (go_at_call 22; refine (new_calls _).mono ?_; rintro e w2 ⟨gs, gm, rfl, hgs, hgm, hne, h1, h2, hb⟩; have HS := Aside0.mk (sheet_new h1 h2); have GM : Aside0 (w.heap.size ≤ gm) := ⟨Nat.le_trans (below_size HB.out) hgm⟩; have HBn := Aside0.mk (below_step HB.out hb); clear HB hgs hgm hne h1 h2 hb; have HB := HBn; clear HBn))
  go_ret
  exact ⟨rfl, HB.out⟩
set_option maxHeartbeats 4000000 in
set_option maxRecDepth 100000 in
theorem apart_long1 (A0 A1 A2 A3 : Option Addr) (c0 c1 c2 c3 : Nat) (l0 l1 l2 l3 : List S37) (w : World) (v0 : Sl w (.slice A0 l0.length c0) l0) (v1 : Sl w (.slice A1 l1.length c1) l1) (v2 : Sl w (.slice A2 l2.length c2) l2) (v3 : Sl w (.slice A3 l3.length c3) l3) (h0 : l0.length ≤ 20) (h1 : 20 < l1.length) : Calls Try.prog 4 #[.slice A0 l0.length c0, .slice A1 l1.length c1, .slice A2 l2.length c2, .slice A3 l3.length c3] w fun e w' => e = .returned (.bool true) ∧ Below w.heap.size w w' := by
  have hu43 := Try.underlying43
  have hu23 := Try.underlying23
  have V0 := Aside0.mk v0
  have V1 := Aside0.mk v1
  have V2 := Aside0.mk v2
  have V3 := Aside0.mk v3
  clear v0 v1 v2 v3
  have d0 : decide ((20 : Int) < (l0.length : Int)) = false := decide_eq_false (by omega)
  have e0 : decide (20 < l0.length) = false := decide_eq_false (by omega)
  have d1 : decide ((20 : Int) < (l1.length : Int)) = true := decide_eq_true (by omega)
  have e1 : decide (20 < l1.length) = true := decide_eq_true (by omega)
  clear h0 h1
  go_enter Try.func4, Try.ntmps4
  go_wp2_with (first | (go_at_call 21; refine (awake_calls _).mono ?_; rintro e w1 ⟨rfl, hb⟩; have HB := Aside0.mk hb; clear hb) | (go_at_call 22; refine (new_calls _).mono ?_; rintro e w2 ⟨gs, gm, rfl, hgs, hgm, hne, h1, h2, hb⟩; have HS := Aside0.mk (sheet_new h1 h2); have GM : Aside0 (w.heap.size ≤ gm) := ⟨Nat.le_trans (below_size HB.out) hgm⟩; have HBn := Aside0.mk (below_step HB.out hb); clear HB hgs hgm hne h1 h2 hb; have HB := HBn; clear HBn))
  go_ret
  exact ⟨rfl, HB.out⟩
set_option maxHeartbeats 4000000 in
set_option maxRecDepth 100000 in
theorem apart_long2 (A0 A1 A2 A3 : Option Addr) (c0 c1 c2 c3 : Nat) (l0 l1 l2 l3 : List S37) (w : World) (v0 : Sl w (.slice A0 l0.length c0) l0) (v1 : Sl w (.slice A1 l1.length c1) l1) (v2 : Sl w (.slice A2 l2.length c2) l2) (v3 : Sl w (.slice A3 l3.length c3) l3) (h0 : l0.length ≤ 20) (h1 : l1.length ≤ 20) (h2 : 20 < l2.length) : Calls Try.prog 4 #[.slice A0 l0.length c0, .slice A1 l1.length c1, .slice A2 l2.length c2, .slice A3 l3.length c3] w fun e w' => e = .returned (.bool true) ∧ Below w.heap.size w w' := by
  have hu43 := Try.underlying43
  have hu23 := Try.underlying23
  have V0 := Aside0.mk v0
  have V1 := Aside0.mk v1
  have V2 := Aside0.mk v2
  have V3 := Aside0.mk v3
  clear v0 v1 v2 v3
  have d0 : decide ((20 : Int) < (l0.length : Int)) = false := decide_eq_false (by omega)
  have e0 : decide (20 < l0.length) = false := decide_eq_false (by omega)
  have d1 : decide ((20 : Int) < (l1.length : Int)) = false := decide_eq_false (by omega)
  have e1 : decide (20 < l1.length) = false := decide_eq_false (by omega)
  have d2 : decide ((20 : Int) < (l2.length : Int)) = true := decide_eq_true (by omega)
  have e2 : decide (20 < l2.length) = true := decide_eq_true (by omega)
  clear h0 h1 h2
  go_enter Try.func4, Try.ntmps4
  go_wp2_with (first | (go_at_call 21; refine (awake_calls _).mono ?_; rintro e w1 ⟨rfl, hb⟩; have HB := Aside0.mk hb; clear hb) | (go_at_call 22; refine (new_calls _).mono ?_; rintro e w2 ⟨gs, gm, rfl, hgs, hgm, hne, h1, h2, hb⟩; have HS := Aside0.mk (sheet_new h1 h2); have GM : Aside0 (w.heap.size ≤ gm) := ⟨Nat.le_trans (below_size HB.out) hgm⟩; have HBn := Aside0.mk (below_step HB.out hb); clear HB hgs hgm hne h1 h2 hb; have HB := HBn; clear HBn))
  go_ret
  exact ⟨rfl, HB.out⟩
set_option maxHeartbeats 4000000 in
set_option maxRecDepth 100000 in
theorem apart_long3 (A0 A1 A2 A3 : Option Addr) (c0 c1 c2 c3 : Nat) (l0 l1 l2 l3 : List S37) (w : World) (v0 : Sl w (.slice A0 l0.length c0) l0) (v1 : Sl w (.slice A1 l1.length c1) l1) (v2 : Sl w (.slice A2 l2.length c2) l2) (v3 : Sl w (.slice A3 l3.length c3) l3) (h0 : l0.length ≤ 20) (h1 : l1.length ≤ 20) (h2 : l2.length ≤ 20) (h3 : 20 < l3.length) : Calls Try.prog 4 #[.slice A0 l0.length c0, .slice A1 l1.length c1, .slice A2 l2.length c2, .slice A3 l3.length c3] w fun e w' => e = .returned (.bool true) ∧ Below w.heap.size w w' := by
  have hu43 := Try.underlying43
  have hu23 := Try.underlying23
  have V0 := Aside0.mk v0
  have V1 := Aside0.mk v1
  have V2 := Aside0.mk v2
  have V3 := Aside0.mk v3
  clear v0 v1 v2 v3
  have d0 : decide ((20 : Int) < (l0.length : Int)) = false := decide_eq_false (by omega)
  have e0 : decide (20 < l0.length) = false := decide_eq_false (by omega)
  have d1 : decide ((20 : Int) < (l1.length : Int)) = false := decide_eq_false (by omega)
  have e1 : decide (20 < l1.length) = false := decide_eq_false (by omega)
  have d2 : decide ((20 : Int) < (l2.length : Int)) = false := decide_eq_false (by omega)
  have e2 : decide (20 < l2.length) = false := decide_eq_false (by omega)
  have d3 : decide ((20 : Int) < (l3.length : Int)) = true := decide_eq_true (by omega)
  have e3 : decide (20 < l3.length) = true := decide_eq_true (by omega)
  clear h0 h1 h2 h3
  go_enter Try.func4, Try.ntmps4
  go_wp2_with (first | (go_at_call 21; refine (awake_calls _).mono ?_; rintro e w1 ⟨rfl, hb⟩; have HB := Aside0.mk hb; clear hb) | (go_at_call 22; refine (new_calls _).mono ?_; rintro e w2 ⟨gs, gm, rfl, hgs, hgm, hne, h1, h2, hb⟩; have HS := Aside0.mk (sheet_new h1 h2); have GM : Aside0 (w.heap.size ≤ gm) := ⟨Nat.le_trans (below_size HB.out) hgm⟩; have HBn := Aside0.mk (below_step HB.out hb); clear HB hgs hgm hne h1 h2 hb; have HB := HBn; clear HBn))
  go_ret
  exact ⟨rfl, HB.out⟩
set_option maxHeartbeats 4000000 in
set_option maxRecDepth 100000 in
theorem apart_wrong0 (A0 A1 A2 A3 : Option Addr) (c0 c1 c2 c3 : Nat) (l0 l1 l2 l3 : List S37) (w : World) (v0 : Sl w (.slice A0 l0.length c0) l0) (v1 : Sl w (.slice A1 l1.length c1) l1) (v2 : Sl w (.slice A2 l2.length c2) l2) (v3 : Sl w (.slice A3 l3.length c3) l3) (h0 : l0.length ≤ 20) (h1 : l1.length ≤ 20) (h2 : l2.length ≤ 20) (h3 : l3.length ≤ 20) (q : setE l0 ≠ 0) : Calls Try.prog 4 #[.slice A0 l0.length c0, .slice A1 l1.length c1, .slice A2 l2.length c2, .slice A3 l3.length c3] w fun e w' => e = .returned (.bool true) ∧ Below w.heap.size w w' := by
  have hu43 := Try.underlying43
  have hu23 := Try.underlying23
  have V0 := Aside0.mk v0
  have V1 := Aside0.mk v1
  have V2 := Aside0.mk v2
  have V3 := Aside0.mk v3
  clear v0 v1 v2 v3
  have d0 : decide ((20 : Int) < (l0.length : Int)) = false := decide_eq_false (by omega)
  have e0 : decide (20 < l0.length) = false := decide_eq_false (by omega)
  have d1 : decide ((20 : Int) < (l1.length : Int)) = false := decide_eq_false (by omega)
  have e1 : decide (20 < l1.length) = false := decide_eq_false (by omega)
  have d2 : decide ((20 : Int) < (l2.length : Int)) = false := decide_eq_false (by omega)
  have e2 : decide (20 < l2.length) = false := decide_eq_false (by omega)
  have d3 : decide ((20 : Int) < (l3.length : Int)) = false := decide_eq_false (by omega)
  have e3 : decide (20 < l3.length) = false := decide_eq_false (by omega)
  clear h0 h1 h2 h3
  have q0 : (setE l0 == 0) = false := beq_eq_false_iff_ne.mpr q
  have q1 : (setE l0 != 0) = true := bne_iff_ne.mpr q
  clear q
  go_enter Try.func4, Try.ntmps4
  go_wp2_with (first | (go_at_call 21; refine (awake_calls _).mono ?_; rintro e w1 ⟨rfl, hb⟩; have HB := Aside0.mk hb; clear hb) | (go_at_call 22; refine (new_calls _).mono ?_; rintro e w2 ⟨gs, gm, rfl, hgs, hgm, hne, h1, h2, hb⟩; have HS := Aside0.mk (sheet_new h1 h2); have GM : Aside0 (w.heap.size ≤ gm) := ⟨Nat.le_trans (below_size HB.out) hgm⟩; have HBn := Aside0.mk (below_step HB.out hb); clear HB hgs hgm hne h1 h2 hb; have HB := HBn; clear HBn) | (go_at_call 23; with_reducible refine (def_first gs gm _ l0 _ HS.out (V0.out.below HB.out)).mono ?_; rintro x w5 ⟨rfl, hs, hg⟩; have HBn := Aside0.mk (pw_below_grown HB.out (some gm) (below_size HB.out) hg (fun k_ hk => by cases hk; exact GM.out)); clear HB; have HB := HBn; clear HBn; skip; clear hs hg HS))
  go_ret
  exact ⟨rfl, HB.out⟩
set_option maxHeartbeats 4000000 in
set_option maxRecDepth 100000 in
theorem apart_wrong1 (A0 A1 A2 A3 : Option Addr) (c0 c1 c2 c3 : Nat) (l0 l1 l2 l3 : List S37) (w : World) (v0 : Sl w (.slice A0 l0.length c0) l0) (v1 : Sl w (.slice A1 l1.length c1) l1) (v2 : Sl w (.slice A2 l2.length c2) l2) (v3 : Sl w (.slice A3 l3.length c3) l3) (h0 : l0.length ≤ 20) (h1 : l1.length ≤ 20) (h2 : l2.length ≤ 20) (h3 : l3.length ≤ 20) (q : setE l0 = 0) (r : setE l1 ≠ 0) : Calls Try.prog 4 #[.slice A0 l0.length c0, .slice A1 l1.length c1, .slice A2 l2.length c2, .slice A3 l3.length c3] w fun e w' => e = .returned (.bool true) ∧ Below w.heap.size w w' := by
  have hu43 := Try.underlying43
  have hu23 := Try.underlying23
  have V0 := Aside0.mk v0
  have V1 := Aside0.mk v1
  have V2 := Aside0.mk v2
  have V3 := Aside0.mk v3
  clear v0 v1 v2 v3
  have d0 : decide ((20 : Int) < (l0.length : Int)) = false := decide_eq_false (by omega)
  have e0 : decide (20 < l0.length) = false := decide_eq_false (by omega)
  have d1 : decide ((20 : Int) < (l1.length : Int)) = false := decide_eq_false (by omega)
  have e1 : decide (20 < l1.length) = false := decide_eq_false (by omega)
  have d2 : decide ((20 : Int) < (l2.length : Int)) = false := decide_eq_false (by omega)
  have e2 : decide (20 < l2.length) = false := decide_eq_false (by omega)
  have d3 : decide ((20 : Int) < (l3.length : Int)) = false := decide_eq_false (by omega)
  have e3 : decide (20 < l3.length) = false := decide_eq_false (by omega)
  clear h0 h1 h2 h3
  have F0 : Aside0 (fitsAll l0) := ⟨(setE_zero q).1⟩
  have def0 : Aside0 (∀ gs gm v w, Sheet w gs gm [] → Sl w v l0 → Calls Try.prog 23 #[.pointer (some ⟨gs, 0, none⟩), .string na, .string ⟨#[]⟩, v] w fun x w' => x = .returned (.int .i64 0) ∧ (0 = (0 : Int) → Sheet w' gs gm [(na, ⟨#[]⟩, l0)]) ∧ w.grownBy w' (some gm)) := ⟨fun gs gm v w hs hv => by have := def_first gs gm v l0 w hs hv; rw [q] at this; exact this⟩
  have Q : Aside0 ((0 : Int) = 0) := ⟨rfl⟩
  clear q
  have r0 : (setE l1 == 0) = false := beq_eq_false_iff_ne.mpr r
  have r1 : (setE l1 != 0) = true := bne_iff_ne.mpr r
  have def1 : Aside0 (∀ gs gm v w, Sheet w gs gm [(na, ⟨#[]⟩, l0)] → fitsAll l0 → Sl w v l1 → Calls Try.prog 23 #[.pointer (some ⟨gs, 0, none⟩), .string nb, .string na, v] w fun x w' => x = .returned (.int .i64 (setE l1)) ∧ (setE l1 = 0 → ABs w' gs gm l0 l1) ∧ w.grownBy w' (some gm)) := ⟨fun gs gm v w hs hf hv => def_second gs gm v l0 l1 w hs hf hv⟩
  clear r
  go_enter Try.func4, Try.ntmps4
  go_wp2_with (first | (go_at_call 21; refine (awake_calls _).mono ?_; rintro e w1 ⟨rfl, hb⟩; have HB := Aside0.mk hb; clear hb) | (go_at_call 22; refine (new_calls _).mono ?_; rintro e w2 ⟨gs, gm, rfl, hgs, hgm, hne, h1, h2, hb⟩; have HS := Aside0.mk (sheet_new h1 h2); have GM : Aside0 (w.heap.size ≤ gm) := ⟨Nat.le_trans (below_size HB.out) hgm⟩; have HBn := Aside0.mk (below_step HB.out hb); clear HB hgs hgm hne h1 h2 hb; have HB := HBn; clear HBn) | (go_at_call 23; with_reducible refine (def0.out gs gm _ _ HS.out (V0.out.below HB.out)).mono ?_; rintro x w5 ⟨rfl, hs, hg⟩; have HBn := Aside0.mk (pw_below_grown HB.out (some gm) (below_size HB.out) hg (fun k_ hk => by cases hk; exact GM.out)); clear HB; have HB := HBn; clear HBn; have HS1 := Aside0.mk (hs Q.out); clear hs hg HS) | (go_at_call 23; with_reducible refine (def1.out gs gm _ _ HS1.out F0.out (V1.out.below HB.out)).mono ?_; rintro x w6 ⟨rfl, hs, hg⟩; have HBn := Aside0.mk (pw_below_grown HB.out (some gm) (below_size HB.out) hg (fun k_ hk => by cases hk; exact GM.out)); clear HB; have HB := HBn; clear HBn; skip; clear hs hg HS1))
  go_ret
  exact ⟨rfl, HB.out⟩
set_option maxHeartbeats 4000000 in
set_option maxRecDepth 100000 in
theorem apart_main (A0 A1 A2 A3 : Option Addr) (c0 c1 c2 c3 : Nat) (l0 l1 l2 l3 : List S37) (w : World) (v0 : Sl w (.slice A0 l0.length c0) l0) (v1 : Sl w (.slice A1 l1.length c1) l1) (v2 : Sl w (.slice A2 l2.length c2) l2) (v3 : Sl w (.slice A3 l3.length c3) l3) (h0 : l0.length ≤ 20) (h1 : l1.length ≤ 20) (h2 : l2.length ≤ 20) (h3 : l3.length ≤ 20) (q : setE l0 = 0) (r : setE l1 = 0) : Calls Try.prog 4 #[.slice A0 l0.length c0, .slice A1 l1.length c1, .slice A2 l2.length c2, .slice A3 l3.length c3] w fun e w' => e = .returned (.bool true) ∧ Below w.heap.size w w' := by
  have hu43 := Try.underlying43
  have hu23 := Try.underlying23
  have V0 := Aside0.mk v0
  have V1 := Aside0.mk v1
  have V2 := Aside0.mk v2
  have V3 := Aside0.mk v3
  clear v0 v1 v2 v3
  have d0 : decide ((20 : Int) < (l0.length : Int)) = false := decide_eq_false (by omega)
  have e0 : decide (20 < l0.length) = false := decide_eq_false (by omega)
  have d1 : decide ((20 : Int) < (l1.length : Int)) = false := decide_eq_false (by omega)
  have e1 : decide (20 < l1.length) = false := decide_eq_false (by omega)
  have d2 : decide ((20 : Int) < (l2.length : Int)) = false := decide_eq_false (by omega)
  have e2 : decide (20 < l2.length) = false := decide_eq_false (by omega)
  have d3 : decide ((20 : Int) < (l3.length : Int)) = false := decide_eq_false (by omega)
  have e3 : decide (20 < l3.length) = false := decide_eq_false (by omega)
  clear h0 h1 h2 h3
  have F0 : Aside0 (fitsAll l0) := ⟨(setE_zero q).1⟩
  have def0 : Aside0 (∀ gs gm v w, Sheet w gs gm [] → Sl w v l0 → Calls Try.prog 23 #[.pointer (some ⟨gs, 0, none⟩), .string na, .string ⟨#[]⟩, v] w fun x w' => x = .returned (.int .i64 0) ∧ (0 = (0 : Int) → Sheet w' gs gm [(na, ⟨#[]⟩, l0)]) ∧ w.grownBy w' (some gm)) := ⟨fun gs gm v w hs hv => by have := def_first gs gm v l0 w hs hv; rw [q] at this; exact this⟩
  have Q : Aside0 ((0 : Int) = 0) := ⟨rfl⟩
  clear q
  have def1 : Aside0 (∀ gs gm v w, Sheet w gs gm [(na, ⟨#[]⟩, l0)] → fitsAll l0 → Sl w v l1 → Calls Try.prog 23 #[.pointer (some ⟨gs, 0, none⟩), .string nb, .string na, v] w fun x w' => x = .returned (.int .i64 0) ∧ (0 = (0 : Int) → ABs w' gs gm l0 l1) ∧ w.grownBy w' (some gm)) := ⟨fun gs gm v w hs hf hv => by have := def_second gs gm v l0 l1 w hs hf hv; rw [r] at this; exact this⟩
  clear r
  have HRb : Aside0 (∀ gs gm w, ABs w gs gm l0 l1 → Calls Try.prog 24 #[.pointer (some ⟨gs, 0, none⟩), .string nb, .slice none 0 0] w fun x w' => x = .returned (.tuple #[.agg (row (withF (withF base l0) l1)), .int .i64 0]) ∧ Below w.heap.size w w') := ⟨fun gs gm w h => h.resolve_b⟩
  have HRa : Aside0 (∀ gs gm w, ABs w gs gm l0 l1 → Calls Try.prog 24 #[.pointer (some ⟨gs, 0, none⟩), .string na, .slice none 0 0] w fun x w' => x = .returned (.tuple #[.agg (row (withF base l0)), .int .i64 0]) ∧ Below w.heap.size w w') := ⟨fun gs gm w h => h.resolve_a⟩
  have HDc : Aside0 (∀ gs gm v w, ABs w gs gm l0 l1 → Sl w v l2 → Calls Try.prog 23 #[.pointer (some ⟨gs, 0, none⟩), .string ⟨#[99]⟩, .string nb, v] w fun x w' => ∃ r, x = .returned (.int .i64 r) ∧ ABs w' gs gm l0 l1 ∧ w.grownBy w' (some gm)) := ⟨fun gs gm v w h hv => ABs.define gs gm _ _ v l2 l0 l1 w h hv name_c (by decide) (by decide)⟩
  have HDd : Aside0 (∀ gs gm v w, ABs w gs gm l0 l1 → Sl w v l3 → Calls Try.prog 23 #[.pointer (some ⟨gs, 0, none⟩), .string ⟨#[100]⟩, .string ⟨#[]⟩, v] w fun x w' => ∃ r, x = .returned (.int .i64 r) ∧ ABs w' gs gm l0 l1 ∧ w.grownBy w' (some gm)) := ⟨fun gs gm v w h hv => ABs.define gs gm _ _ v l3 l0 l1 w h hv name_d (by decide) (by decide)⟩
  have HDe : Aside0 (∀ gs gm v w, ABs w gs gm l0 l1 → Sl w v l3 → Calls Try.prog 23 #[.pointer (some ⟨gs, 0, none⟩), .string ⟨#[99]⟩, .string na, v] w fun x w' => ∃ r, x = .returned (.int .i64 r) ∧ ABs w' gs gm l0 l1 ∧ w.grownBy w' (some gm)) := ⟨fun gs gm v w h hv => ABs.define gs gm _ _ v l3 l0 l1 w h hv name_c (by decide) (by decide)⟩
  have Z1 : Aside0 ((row (withF (withF base l0) l1)).size = 17) := ⟨rfl⟩
  have O1 : Aside0 ((row (withF (withF base l0) l1)).all (·.oneCell') = true) := ⟨row_all _⟩
  have E1 := eq_row (withF (withF base l0) l1)
  have Z2 : Aside0 ((row (withF base l0)).size = 17) := ⟨rfl⟩
  have O2 : Aside0 ((row (withF base l0)).all (·.oneCell') = true) := ⟨row_all _⟩
  have E2 := eq_row (withF base l0)
  generalize row (withF (withF base l0) l1) = R1 at HRb Z1 O1 E1
  generalize row (withF base l0) = R2 at HRa Z2 O2 E2
  go_enter Try.func4, Try.ntmps4
  go_wp2_with (first | (go_at_call 21; refine (awake_calls _).mono ?_; rintro e w1 ⟨rfl, hb⟩; have HB := Aside0.mk hb; clear hb) | (go_at_call 22; refine (new_calls _).mono ?_; rintro e w2 ⟨gs, gm, rfl, hgs, hgm, hne, h1, h2, hb⟩; have HS := Aside0.mk (sheet_new h1 h2); have GM : Aside0 (w.heap.size ≤ gm) := ⟨Nat.le_trans (below_size HB.out) hgm⟩; have HBn := Aside0.mk (below_step HB.out hb); clear HB hgs hgm hne h1 h2 hb; have HB := HBn; clear HBn) | (go_at_call 23; with_reducible refine (def0.out gs gm _ _ HS.out (V0.out.below HB.out)).mono ?_; rintro x w5 ⟨rfl, hs, hg⟩; have HBn := Aside0.mk (pw_below_grown HB.out (some gm) (below_size HB.out) hg (fun k_ hk => by cases hk; exact GM.out)); clear HB; have HB := HBn; clear HBn; have HS1 := Aside0.mk (hs Q.out); clear hs hg HS) | (go_at_call 23; with_reducible refine (def1.out gs gm _ _ HS1.out F0.out (V1.out.below HB.out)).mono ?_; rintro x w6 ⟨rfl, hs, hg⟩; have HBn := Aside0.mk (pw_below_grown HB.out (some gm) (below_size HB.out) hg (fun k_ hk => by cases hk; exact GM.out)); clear HB; have HB := HBn; clear HBn; have HS := Aside0.mk (hs Q.out); clear hs hg HS1) | (go_at_call 24; (first | with_reducible refine (HRb.out gs gm _ HS.out).mono ?_ | with_reducible refine (HRa.out gs gm _ HS.out).mono ?_); rintro x wz ⟨rfl, hb⟩; have HBn := Aside0.mk (below_step HB.out hb); have HSn := Aside0.mk (HS.out.below hb); clear HB HS; have HB := HBn; have HS := HSn; clear HBn HSn; (try (have BK11n := Aside0.mk (blk_below BK11.out hb); clear BK11; have BK11 := BK11n; clear BK11n)); (try (have BK13n := Aside0.mk (blk_below BK13.out hb); clear BK13; have BK13 := BK13n; clear BK13n)); (try (have BK15n := Aside0.mk (blk_below BK15.out hb); clear BK15; have BK15 := BK15n; clear BK15n)); (try (have BK17n := Aside0.mk (blk_below BK17.out hb); clear BK17; have BK17 := BK17n; clear BK17n)); clear hb) | ((with_reducible refine gate_dst (N := 11) rfl ?_); refine box_event ?hg (N := 11) ?hd (cs := #[.int .i64 0, .int .i64 0, .int .i64 0, .int .i64 0, .int .i64 0, .int .i64 0, .int .i64 0, .int .i64 0, .int .i64 0, .int .i64 0, .int .i64 0, .int .i64 0, .int .i64 0, .int .i64 0, .int .i64 0, .int .i64 0, .int .i64 0]) (t := 23) ?hr ?_; (case hd => rfl); (case hg => rfl); (case hr => first | (go_simp; done) | (go_simp; rfl)); intro g11 hg wb11 hbox hb; have HBn := Aside0.mk (below_step HB.out hb); have BK11 := Aside0.mk hbox; have GE11 : Aside0 (w.heap.size ≤ g11) := ⟨by rw [hg]; exact below_size HB.out⟩; have N11 : Aside0 (g11 ≠ gm) := ⟨by rw [hg]; exact Nat.ne_of_gt HS.out.lt.2⟩; have HBx := Aside0.mk hb; have GX : Aside0 (_ ≤ g11) := ⟨Nat.le_of_eq hg.symm⟩; skip; clear HB; have HB := HBn; clear HBn; clear hb hbox hg) | ((with_reducible refine gate_store (t := 23) (p := 11) rfl ?_); refine wpList_store_row rfl 23 (.tmp 11) (.tmp 62) rfl g11 R1 rfl rfl 23 #[.int .i64 0, .int .i64 0, .int .i64 0, .int .i64 0, .int .i64 0, .int .i64 0, .int .i64 0, .int .i64 0, .int .i64 0, .int .i64 0, .int .i64 0, .int .i64 0, .int .i64 0, .int .i64 0, .int .i64 0, .int .i64 0, .int .i64 0] BK11.out (by rw [Z1.out]; exact info23) (by rw [Z1.out]; rfl) O1.out ?_; have HBn := Aside0.mk (below_setRow HB.out GE11.out R1); have HSn := Aside0.mk (HS.out.below (below_setRow HBx.out GX.out R1)); have BK11n := Aside0.mk (setRow_heap _ g11 _ R1 23 (0, 0) BK11.out); skip; clear HB HS HBx GX BK11; have HB := HBn; have HS := HSn; have BK11 := BK11n; clear HBn HSn BK11n; generalize World.setRow _ g11 R1 = wy at *) | ((with_reducible refine gate_dst (N := 13) rfl ?_); refine box_event ?hg (N := 13) ?hd (cs := #[.int .i64 0, .int .i64 0, .int .i64 0, .int .i64 0, .int .i64 0, .int .i64 0, .int .i64 0, .int .i64 0, .int .i64 0, .int .i64 0, .int .i64 0, .int .i64 0, .int .i64 0, .int .i64 0, .int .i64 0, .int .i64 0, .int .i64 0]) (t := 23) ?hr ?_; (case hd => rfl); (case hg => rfl); (case hr => first | (go_simp; done) | (go_simp; rfl)); intro g13 hg wb13 hbox hb; have HBn := Aside0.mk (below_step HB.out hb); have BK13 := Aside0.mk hbox; have GE13 : Aside0 (w.heap.size ≤ g13) := ⟨by rw [hg]; exact below_size HB.out⟩; have N13 : Aside0 (g13 ≠ gm) := ⟨by rw [hg]; exact Nat.ne_of_gt HS.out.lt.2⟩; have HBx := Aside0.mk hb; have GX : Aside0 (_ ≤ g13) := ⟨Nat.le_of_eq hg.symm⟩; (try (have M11_13 : Aside0 (g11 ≠ g13) := ⟨by rw [hg]; exact Nat.ne_of_lt (blk_lt BK11.out)⟩; have BK11n := Aside0.mk (blk_below BK11.out hb); clear BK11; have BK11 := BK11n; clear BK11n)); clear HB; have HB := HBn; clear HBn; clear hb hbox hg) | ((with_reducible refine gate_store (t := 23) (p := 13) rfl ?_); refine wpList_store_row rfl 23 (.tmp 13) (.tmp 67) rfl g13 R2 rfl rfl 23 #[.int .i64 0, .int .i64 0, .int .i64 0, .int .i64 0, .int .i64 0, .int .i64 0, .int .i64 0, .int .i64 0, .int .i64 0, .int .i64 0, .int .i64 0, .int .i64 0, .int .i64 0, .int .i64 0, .int .i64 0, .int .i64 0, .int .i64 0] BK13.out (by rw [Z2.out]; exact info23) (by rw [Z2.out]; rfl) O2.out ?_; have HBn := Aside0.mk (below_setRow HB.out GE13.out R2); have HSn := Aside0.mk (HS.out.below (below_setRow HBx.out GX.out R2)); have BK13n := Aside0.mk (setRow_heap _ g13 _ R2 23 (0, 0) BK13.out); (try (have BK11n := Aside0.mk ((setRow_other _ g13 g11 R2 M11_13.out).trans BK11.out); clear BK11; have BK11 := BK11n; clear BK11n)); clear HB HS HBx GX BK13; have HB := HBn; have HS := HSn; have BK13 := BK13n; clear HBn HSn BK13n; generalize World.setRow _ g13 R2 = wy at *) | (go_at_call 23; with_reducible refine (HDc.out gs gm _ _ HS.out (V2.out.below HB.out)).mono ?_; rintro x wz ⟨r_, rfl, hs, hg⟩; have HSn := Aside0.mk hs; clear HS; have HS := HSn; clear HSn; have HBn := Aside0.mk (pw_below_grown HB.out (some gm) (below_size HB.out) hg (fun k_ hk => by cases hk; exact GM.out)); clear HB; have HB := HBn; clear HBn; (try (have BK11n := Aside0.mk (blk_grown BK11.out hg (fun h_ => absurd (Option.some.inj h_) N11.out)); clear BK11; have BK11 := BK11n; clear BK11n)); (try (have BK13n := Aside0.mk (blk_grown BK13.out hg (fun h_ => absurd (Option.some.inj h_) N13.out)); clear BK13; have BK13 := BK13n; clear BK13n)); (try (have BK15n := Aside0.mk (blk_grown BK15.out hg (fun h_ => absurd (Option.some.inj h_) N15.out)); clear BK15; have BK15 := BK15n; clear BK15n)); (try (have BK17n := Aside0.mk (blk_grown BK17.out hg (fun h_ => absurd (Option.some.inj h_) N17.out)); clear BK17; have BK17 := BK17n; clear BK17n)); clear hs hg) | (go_at_call 23; with_reducible refine (HDd.out gs gm _ _ HS.out (V3.out.below HB.out)).mono ?_; rintro x wz ⟨r_, rfl, hs, hg⟩; have HSn := Aside0.mk hs; clear HS; have HS := HSn; clear HSn; have HBn := Aside0.mk (pw_below_grown HB.out (some gm) (below_size HB.out) hg (fun k_ hk => by cases hk; exact GM.out)); clear HB; have HB := HBn; clear HBn; (try (have BK11n := Aside0.mk (blk_grown BK11.out hg (fun h_ => absurd (Option.some.inj h_) N11.out)); clear BK11; have BK11 := BK11n; clear BK11n)); (try (have BK13n := Aside0.mk (blk_grown BK13.out hg (fun h_ => absurd (Option.some.inj h_) N13.out)); clear BK13; have BK13 := BK13n; clear BK13n)); (try (have BK15n := Aside0.mk (blk_grown BK15.out hg (fun h_ => absurd (Option.some.inj h_) N15.out)); clear BK15; have BK15 := BK15n; clear BK15n)); (try (have BK17n := Aside0.mk (blk_grown BK17.out hg (fun h_ => absurd (Option.some.inj h_) N17.out)); clear BK17; have BK17 := BK17n; clear BK17n)); clear hs hg) | (go_at_call 23; with_reducible refine (HDe.out gs gm _ _ HS.out (V3.out.below HB.out)).mono ?_; rintro x wz ⟨r_, rfl, hs, hg⟩; have HSn := Aside0.mk hs; clear HS; have HS := HSn; clear HSn; have HBn := Aside0.mk (pw_below_grown HB.out (some gm) (below_size HB.out) hg (fun k_ hk => by cases hk; exact GM.out)); clear HB; have HB := HBn; clear HBn; (try (have BK11n := Aside0.mk (blk_grown BK11.out hg (fun h_ => absurd (Option.some.inj h_) N11.out)); clear BK11; have BK11 := BK11n; clear BK11n)); (try (have BK13n := Aside0.mk (blk_grown BK13.out hg (fun h_ => absurd (Option.some.inj h_) N13.out)); clear BK13; have BK13 := BK13n; clear BK13n)); (try (have BK15n := Aside0.mk (blk_grown BK15.out hg (fun h_ => absurd (Option.some.inj h_) N15.out)); clear BK15; have BK15 := BK15n; clear BK15n)); (try (have BK17n := Aside0.mk (blk_grown BK17.out hg (fun h_ => absurd (Option.some.inj h_) N17.out)); clear BK17; have BK17 := BK17n; clear BK17n)); clear hs hg) | ((with_reducible refine gate_dst (N := 15) rfl ?_); refine box_event ?hg (N := 15) ?hd (cs := #[.int .i64 0, .int .i64 0, .int .i64 0, .int .i64 0, .int .i64 0, .int .i64 0, .int .i64 0, .int .i64 0, .int .i64 0, .int .i64 0, .int .i64 0, .int .i64 0, .int .i64 0, .int .i64 0, .int .i64 0, .int .i64 0, .int .i64 0]) (t := 23) ?hr ?_; (case hd => rfl); (case hg => rfl); (case hr => first | (go_simp; done) | (go_simp; rfl)); intro g15 hg wb15 hbox hb; have HBn := Aside0.mk (below_step HB.out hb); have BK15 := Aside0.mk hbox; have GE15 : Aside0 (w.heap.size ≤ g15) := ⟨by rw [hg]; exact below_size HB.out⟩; have N15 : Aside0 (g15 ≠ gm) := ⟨by rw [hg]; exact Nat.ne_of_gt HS.out.lt.2⟩; have HBx := Aside0.mk hb; have GX : Aside0 (_ ≤ g15) := ⟨Nat.le_of_eq hg.symm⟩; (try (have M11_15 : Aside0 (g11 ≠ g15) := ⟨by rw [hg]; exact Nat.ne_of_lt (blk_lt BK11.out)⟩; have BK11n := Aside0.mk (blk_below BK11.out hb); clear BK11; have BK11 := BK11n; clear BK11n)); (try (have M13_15 : Aside0 (g13 ≠ g15) := ⟨by rw [hg]; exact Nat.ne_of_lt (blk_lt BK13.out)⟩; have BK13n := Aside0.mk (blk_below BK13.out hb); clear BK13; have BK13 := BK13n; clear BK13n)); clear HB; have HB := HBn; clear HBn; clear hb hbox hg) | ((with_reducible refine gate_store (t := 23) (p := 15) rfl ?_); refine wpList_store_row rfl 23 (.tmp 15) (.tmp 81) rfl g15 R1 rfl rfl 23 #[.int .i64 0, .int .i64 0, .int .i64 0, .int .i64 0, .int .i64 0, .int .i64 0, .int .i64 0, .int .i64 0, .int .i64 0, .int .i64 0, .int .i64 0, .int .i64 0, .int .i64 0, .int .i64 0, .int .i64 0, .int .i64 0, .int .i64 0] BK15.out (by rw [Z1.out]; exact info23) (by rw [Z1.out]; rfl) O1.out ?_; have HBn := Aside0.mk (below_setRow HB.out GE15.out R1); have HSn := Aside0.mk (HS.out.below (below_setRow HBx.out GX.out R1)); have BK15n := Aside0.mk (setRow_heap _ g15 _ R1 23 (0, 0) BK15.out); (try (have BK11n := Aside0.mk ((setRow_other _ g15 g11 R1 M11_15.out).trans BK11.out); clear BK11; have BK11 := BK11n; clear BK11n)); (try (have BK13n := Aside0.mk ((setRow_other _ g15 g13 R1 M13_15.out).trans BK13.out); clear BK13; have BK13 := BK13n; clear BK13n)); clear HB HS HBx GX BK15; have HB := HBn; have HS := HSn; have BK15 := BK15n; clear HBn HSn BK15n; generalize World.setRow _ g15 R1 = wy at *) | ((with_reducible refine gate_dst (N := 17) rfl ?_); refine box_event ?hg (N := 17) ?hd (cs := #[.int .i64 0, .int .i64 0, .int .i64 0, .int .i64 0, .int .i64 0, .int .i64 0, .int .i64 0, .int .i64 0, .int .i64 0, .int .i64 0, .int .i64 0, .int .i64 0, .int .i64 0, .int .i64 0, .int .i64 0, .int .i64 0, .int .i64 0]) (t := 23) ?hr ?_; (case hd => rfl); (case hg => rfl); (case hr => first | (go_simp; done) | (go_simp; rfl)); intro g17 hg wb17 hbox hb; have HBn := Aside0.mk (below_step HB.out hb); have BK17 := Aside0.mk hbox; have GE17 : Aside0 (w.heap.size ≤ g17) := ⟨by rw [hg]; exact below_size HB.out⟩; have N17 : Aside0 (g17 ≠ gm) := ⟨by rw [hg]; exact Nat.ne_of_gt HS.out.lt.2⟩; have HBx := Aside0.mk hb; have GX : Aside0 (_ ≤ g17) := ⟨Nat.le_of_eq hg.symm⟩; (try (have M11_17 : Aside0 (g11 ≠ g17) := ⟨by rw [hg]; exact Nat.ne_of_lt (blk_lt BK11.out)⟩; have BK11n := Aside0.mk (blk_below BK11.out hb); clear BK11; have BK11 := BK11n; clear BK11n)); (try (have M13_17 : Aside0 (g13 ≠ g17) := ⟨by rw [hg]; exact Nat.ne_of_lt (blk_lt BK13.out)⟩; have BK13n := Aside0.mk (blk_below BK13.out hb); clear BK13; have BK13 := BK13n; clear BK13n)); (try (have M15_17 : Aside0 (g15 ≠ g17) := ⟨by rw [hg]; exact Nat.ne_of_lt (blk_lt BK15.out)⟩; have BK15n := Aside0.mk (blk_below BK15.out hb); clear BK15; have BK15 := BK15n; clear BK15n)); clear HB; have HB := HBn; clear HBn; clear hb hbox hg) | ((with_reducible refine gate_store (t := 23) (p := 17) rfl ?_); refine wpList_store_row rfl 23 (.tmp 17) (.tmp 86) rfl g17 R2 rfl rfl 23 #[.int .i64 0, .int .i64 0, .int .i64 0, .int .i64 0, .int .i64 0, .int .i64 0, .int .i64 0, .int .i64 0, .int .i64 0, .int .i64 0, .int .i64 0, .int .i64 0, .int .i64 0, .int .i64 0, .int .i64 0, .int .i64 0, .int .i64 0] BK17.out (by rw [Z2.out]; exact info23) (by rw [Z2.out]; rfl) O2.out ?_; have HBn := Aside0.mk (below_setRow HB.out GE17.out R2); have HSn := Aside0.mk (HS.out.below (below_setRow HBx.out GX.out R2)); have BK17n := Aside0.mk (setRow_heap _ g17 _ R2 23 (0, 0) BK17.out); (try (have BK11n := Aside0.mk ((setRow_other _ g17 g11 R2 M11_17.out).trans BK11.out); clear BK11; have BK11 := BK11n; clear BK11n)); (try (have BK13n := Aside0.mk ((setRow_other _ g17 g13 R2 M13_17.out).trans BK13.out); clear BK13; have BK13 := BK13n; clear BK13n)); (try (have BK15n := Aside0.mk ((setRow_other _ g17 g15 R2 M15_17.out).trans BK15.out); clear BK15; have BK15 := BK15n; clear BK15n)); clear HB HS HBx GX BK17; have HB := HBn; have HS := HSn; have BK17 := BK17n; clear HBn HSn BK17n; generalize World.setRow _ g17 R2 = wy at *) | ((with_reducible refine gate_dst (N := 90) rfl ?_); refine gate_guard (by first | rfl | kernel_rfl) ?_; dsimp only; refine wpList_load_row rfl 23 (.tmp 11) rfl g11 rfl 23 R1 (0, 0) _ BK11.out hu23 rfl (by rw [Z1.out]; exact info23) ?_) | ((with_reducible refine gate_dst (N := 91) rfl ?_); refine gate_guard (by first | rfl | kernel_rfl) ?_; dsimp only; refine wpList_load_row rfl 23 (.tmp 15) rfl g15 rfl 23 R1 (0, 0) _ BK15.out hu23 rfl (by rw [Z1.out]; exact info23) ?_) | ((with_reducible refine gate_dst (N := 95) rfl ?_); refine gate_guard (by first | rfl | kernel_rfl) ?_; dsimp only; refine wpList_load_row rfl 23 (.tmp 13) rfl g13 rfl 23 R2 (0, 0) _ BK13.out hu23 rfl (by rw [Z2.out]; exact info23) ?_) | ((with_reducible refine gate_dst (N := 96) rfl ?_); refine gate_guard (by first | rfl | kernel_rfl) ?_; dsimp only; refine wpList_load_row rfl 23 (.tmp 17) rfl g17 rfl 23 R2 (0, 0) _ BK17.out hu23 rfl (by rw [Z2.out]; exact info23) ?_))
  go_ret
  exact ⟨rfl, HB.out⟩
theorem apart_law (A0 A1 A2 A3 : Option Addr) (c0 c1 c2 c3 : Nat) (l0 l1 l2 l3 : List S37) (w : World) (v0 : Sl w (.slice A0 l0.length c0) l0) (v1 : Sl w (.slice A1 l1.length c1) l1) (v2 : Sl w (.slice A2 l2.length c2) l2) (v3 : Sl w (.slice A3 l3.length c3) l3) : Calls Try.prog 4 #[.slice A0 l0.length c0, .slice A1 l1.length c1, .slice A2 l2.length c2, .slice A3 l3.length c3] w fun e w' => e = .returned (.bool true) ∧ Below w.heap.size w w' := by
  rcases Nat.lt_or_ge 20 l0.length with h0 | h0
  · exact apart_long0 A0 A1 A2 A3 c0 c1 c2 c3 l0 l1 l2 l3 w v0 v1 v2 v3 h0
  rcases Nat.lt_or_ge 20 l1.length with h1 | h1
  · exact apart_long1 A0 A1 A2 A3 c0 c1 c2 c3 l0 l1 l2 l3 w v0 v1 v2 v3 h0 h1
  rcases Nat.lt_or_ge 20 l2.length with h2 | h2
  · exact apart_long2 A0 A1 A2 A3 c0 c1 c2 c3 l0 l1 l2 l3 w v0 v1 v2 v3 h0 h1 h2
  rcases Nat.lt_or_ge 20 l3.length with h3 | h3
  · exact apart_long3 A0 A1 A2 A3 c0 c1 c2 c3 l0 l1 l2 l3 w v0 v1 v2 v3 h0 h1 h2 h3
  by_cases q : setE l0 = 0
  · by_cases r : setE l1 = 0
    · exact apart_main A0 A1 A2 A3 c0 c1 c2 c3 l0 l1 l2 l3 w v0 v1 v2 v3 h0 h1 h2 h3 q r
    · exact apart_wrong1 A0 A1 A2 A3 c0 c1 c2 c3 l0 l1 l2 l3 w v0 v1 v2 v3 h0 h1 h2 h3 q r
  · exact apart_wrong0 A0 A1 A2 A3 c0 c1 c2 c3 l0 l1 l2 l3 w v0 v1 v2 v3 h0 h1 h2 h3 q
end Go.Proofs.Ytpcpjlbfhbicaaa.Sh
