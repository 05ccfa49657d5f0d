/- quirelaw03.two and awake over this program: their contracts; which error a list of settings has. No condition. -/
import Derived.Test.YtpcpjlbfhbicaaaShH
import Derived.Test.YtpcpjlbfhbicaaaWGuard
set_option linter.unusedVariables false
set_option linter.unusedSimpArgs false
namespace Go.Proofs.Ytpcpjlbfhbicaaa.Sh
open Go Go.RowKit Go.Proofs.YtpcpjlbfhbicaaaW.PrintWords Go.Proofs.YtpcpjlbfhbicaaaW.PrintLast Go.Proofs.YtpcpjlbfhbicaaaW.PrintMore Go.Proofs.Ytpcpjlbfhbicaaa.PStyleProps
open Go.Proofs.Ytpcpjlbfhbicaaa.PStyleNearest (S37 k37 z37 rd_T37 at_T37 k37_open k37_openM k37_mk k37_mkM info37)
theorem fits_same : PStyleNearest.style_fits.f = PStyleProps.style_fits.f := rfl
def allFit (l : List S37) : Bool := l.all fun s => fitB s.f0 s.f1
theorem allFit_iff {l : List S37} : allFit l = true ↔ fitsAll l := by simp [allFit, fitsAll]
def setE (l : List S37) : Int := if l.length > 64 then 3 else if allFit l = true then 0 else 2
theorem fits_more (n v : Int) : ∀ j, PStyleNearest.style_fits.f (20 + j) n v = some (fitB n v)
  | 0 => by rw [fits_same]; exact fits_f n v
  | j + 1 => PStyleNearest.style_fits.mono n v (20 + j) _ (fits_more n v j)
theorem settings_loop (l : List S37) (hl : l.length ≤ 64) : ∀ (d i : Nat), i + d = l.length → PStyleNearest.style_settings.l0 (21 + d) l (l.length : Int) (i : Int) = some (if allFit (l.drop i) = true then 0 else 2)
  | 0, i, h => by
    have : l.drop i = [] := List.drop_eq_nil_of_le (by omega)
    rw [show 21 + 0 = 20 + 1 from rfl, PStyleNearest.style_settings.l0, if_neg (by omega), this]
    rfl
  | d + 1, i, h => by
    have hg : l[i]? = some (rd_T37 l i) := by
      unfold rd_T37
      rw [List.getD_eq_getElem?_getD, Int.toNat_natCast, List.getElem?_eq_getElem (by omega)]
      rfl
    have hdrop : l.drop i = rd_T37 l i :: l.drop (i + 1) := by
      rw [List.drop_eq_getElem_cons (by omega)]
      rw [List.getElem?_eq_getElem (by omega)] at hg
      injection hg with hg
      rw [hg]
    have ih := settings_loop l hl d (i + 1) (by omega)
    rw [show 21 + (d + 1) = (21 + d) + 1 from rfl, PStyleNearest.style_settings.l0, if_pos (by omega), if_pos (by omega), if_pos (by omega)]
    have e : allFit (l.drop i) = (fitB (rd_T37 l i).f0 (rd_T37 l i).f1 && allFit (l.drop (i + 1))) := by rw [hdrop]; rfl
    rw [show 21 + d = 20 + (d + 1) by omega, fits_more, e]
    rw [Option.bind_some, show wrap64 ((i : Int) + 1) = ((i + 1 : Nat) : Int) by (unfold wrap64; omega), show 20 + (d + 1) = 21 + d by omega, ih]
    generalize fitB (rd_T37 l i).f0 (rd_T37 l i).f1 = x
    cases x
    · rfl
    · rw [Bool.true_and, if_pos rfl]
theorem settings_total (l : List S37) : ∃ ks, PStyleNearest.style_settings.f ks l = some (setE l) := by
  refine ⟨21 + l.length, ?_⟩
  unfold PStyleNearest.style_settings.f setE
  by_cases c : l.length > 64
  · rw [if_pos (by omega), if_pos c]
  · rw [if_neg (by omega), if_neg c]
    have := settings_loop l (by omega) l.length 0 (by omega)
    simpa using this
theorem setE_zero {l : List S37} (h : setE l = 0) : fitsAll l ∧ l.length ≤ 64 := by
  unfold setE at h
  split at h
  · cases h
  · split at h
    · exact ⟨allFit_iff.1 (by assumption), by omega⟩
    · cases h
/-- The example's two styles. -/
def la : List S37 := [⟨1, 12⟩, ⟨1, 14⟩]
def lb : List S37 := [⟨5, 5⟩]
def L2 : List Sty := [(⟨#[97]⟩, ⟨#[]⟩, la), (⟨#[98]⟩, ⟨#[97]⟩, lb)]
theorem name_a : PStyleNearest.style_name.f 20 ⟨#[97]⟩ = some true := by decide +kernel
theorem name_b : PStyleNearest.style_name.f 20 ⟨#[98]⟩ = some true := by decide +kernel
theorem sl_of_R {w : World} {b : Nat} {ok : Nat → Prop} {v : Value} {l : List S37} (h : Kd.R k37 37 w b ok v l) : Sl w v l := by
  obtain ⟨A, c, e, hc, hr⟩ := Kd.R_reads h
  exact ⟨A, c, e, hc, hr⟩
theorem set_calls (a b : Int) (w : World) : Calls Try.prog 31 #[.int .i64 a, .int .i64 b] w fun e w' => ∃ A c, e = .returned (.slice A 1 c) ∧ Kd.R k37 37 w' w.heap.size (fun _ => True) (.slice A 1 c) [⟨a, b⟩] ∧ Below w.heap.size w w' := by
  refine (PStyleNearest.quirelaw03_set.calls a b [⟨a, b⟩] w rfl).mono ?_
  rintro e w' ⟨v, rfl, hr, hb⟩
  obtain ⟨A, c, rfl, hc, hr'⟩ := Kd.R_reads hr
  exact ⟨A, c, rfl, hr, hb⟩
theorem sheet_new {w : World} {gs gm : Nat} (h1 : w.heap[gs]? = some (.cells #[.map (some gm)] 77 (0, 0))) (h2 : w.heap[gm]? = some (.map #[] 0)) : Sheet w gs gm [] := ⟨h1, [], ⟨#[], 0, h2, rfl, MapKept.stamped_empty 0⟩, trivial⟩
theorem def_a (gs gm : Nat) (v : Value) (w : World) (hs : Sheet w gs gm []) (hv : Sl w v la) : Calls Try.prog 23 #[.pointer (some ⟨gs, 0, none⟩), .string ⟨#[97]⟩, .string ⟨#[]⟩, v] w fun x w' => x = .returned (.int .i64 0) ∧ Sheet w' gs gm [(⟨#[97]⟩, ⟨#[]⟩, la)] ∧ w.grownBy w' (some gm) :=
  define_calls gs gm [] ⟨#[97]⟩ ⟨#[]⟩ v la w hs hv 20 30 5 true 0 false name_a (by decide +kernel) (by decide +kernel)
theorem def_b (gs gm : Nat) (v : Value) (w : World) (hs : Sheet w gs gm [(⟨#[97]⟩, ⟨#[]⟩, la)]) (hv : Sl w v lb) : Calls Try.prog 23 #[.pointer (some ⟨gs, 0, none⟩), .string ⟨#[98]⟩, .string ⟨#[97]⟩, v] w fun x w' => x = .returned (.int .i64 0) ∧ Sheet w' gs gm L2 ∧ w.grownBy w' (some gm) :=
  define_calls gs gm [(⟨#[97]⟩, ⟨#[]⟩, la)] ⟨#[98]⟩ ⟨#[97]⟩ v lb w hs hv 20 30 5 true 0 false name_b (by decide +kernel) (by decide +kernel)
theorem r_reads {w : World} {b n c : Nat} {ok : Nat → Prop} {A : Option Addr} {l : List S37} (h : Kd.R k37 37 w b ok (.slice A n c) l) : Kd.C k37 w A n l := by
  obtain ⟨A', c', e, hc, hr⟩ := Kd.R_reads h
  injection e with e1 e2 e3
  subst e1 e2 e3
  exact hr
theorem sheet_lt {w : World} {gs gm : Nat} {L : List Sty} (h : Sheet w gs gm L) : gs < w.heap.size ∧ gm < w.heap.size := by
  obtain ⟨h1, M, h2, h3⟩ := h
  exact ⟨blk_lt h1, h2.lt⟩
theorem sheet_grown {w w' : World} {gs gm : Nat} {v : Value} {ok : Nat → Prop} (h : Sheet w gs gm []) (hg : w.grownBy w' v.ownBlock) (hok : ∀ k, v.ownBlock = some k → k ≠ gm ∧ k ≠ gs) : Sheet w' gs gm [] := by
  have hl := sheet_lt h
  obtain ⟨h1, M, ⟨es, cl, h2, h2'⟩, h3⟩ := h
  refine ⟨(hg.block gs hl.1 (fun e => (hok gs e.symm).2 rfl)).trans h1, M, ⟨es, cl, (hg.block gm hl.2 (fun e => (hok gm e.symm).1 rfl)).trans h2, h2'⟩, ?_⟩
  cases M with
  | nil => trivial
  | cons m M => exact h3.elim
set_option maxHeartbeats 4000000 in
set_option maxRecDepth 100000 in
theorem two_calls (w : World) : Calls Try.prog 28 #[] w fun e w' => ∃ gs gm, e = .returned (.tuple #[.pointer (some ⟨gs, 0, none⟩), .bool true]) ∧ Sheet w' gs gm L2 ∧ Below w.heap.size w w' := by
  have hu43 := Try.underlying43
  have hu37 := Try.underlying37
  go_enter Try.func28, Try.ntmps28
  go_wp2_with (first | (go_at_call 22; refine (new_calls _).mono ?_; rintro e w1 ⟨gs, gm, rfl, hgs, hgm, hne, h1, h2, hb⟩; have HS := Aside0.mk (sheet_new h1 h2); have HB := Aside0.mk hb; have GM := Aside0.mk hgm; clear hgs hgm hne h1 h2 hb) | (go_at_call 31; refine (set_calls 1 12 _).mono ?_; rintro e w2 ⟨A1, c1, rfl, hr, hb⟩; have HR1 : Aside0 (Kd.R k37 37 w2 w.heap.size (fun k_ => k_ ≠ gm ∧ k_ ≠ gs) (.slice A1 1 c1) [⟨1, 12⟩]) := ⟨Kd.R_mono (Kd.R_lower (Kd.R_bound hr) (below_size HB.out)) (fun k_ hk => by have := (sheet_lt HS.out); have := hk.2.1; omega)⟩; have HS2 := Aside0.mk (HS.out.below hb); have HB2 := Aside0.mk (below_step HB.out hb); clear HS HB hr hb) | (go_at_call 31; refine (set_calls 1 14 _).mono ?_; rintro e w3 ⟨A2, c2, rfl, hr, hb⟩; have HS3 := Aside0.mk (HS2.out.below hb); have HC2 : Aside0 (Kd.C k37 w3 A2 1 [⟨1, 14⟩]) := ⟨r_reads hr⟩; have HR1b := Aside0.mk (Kd.R_below HR1.out hb); have GM2 : Aside0 (gm < w3.heap.size ∧ gs < w3.heap.size) := ⟨(sheet_lt HS3.out).2, (sheet_lt HS3.out).1⟩;  have HB3 := Aside0.mk (below_step HB2.out hb); clear HS2 HB2 hr hb HR1) | ((with_reducible refine gate_builtin (b := .append) (xs := #[.tmp 8, .tmp 9]) rfl ?_); at_builtin; refine gate_guard (by first | rfl | kernel_rfl) ?_; dsimp only; refine Kd.R_append_rows k37 (w0 := w) (Rr := fun x cs => cs = [.int .i64 x.f0, .int .i64 x.f1]) w.heap.size rfl (.tmp 8) (.tmp 9) 43 37 (.agg #[(.int .i64 0), (.int .i64 0)]) 16 rfl Try.underlying43 info37 rfl (by decide) (by omega) (.slice A1 1 c1) [⟨1, 12⟩] [⟨1, 14⟩] A2 1 c2 (fun k_ => k_ ≠ gm ∧ k_ ≠ gs) (fun _ => False) rfl rfl HR1b.out ?aR ?aK (fun _ hk => hk.elim) (fun k_ hk => by have := GM2.out; omega) HB3.out ?aB ?aL ?_; (case aR => exact HC2.out.imp_ (Below.refl _ _) (fun _ _ hp => k37_open hp)); (case aK => (intro x cs hx; subst hx; exact k37_mkM _ _ _ x)); (case aB => exact below_size HB3.out); (case aL => decide); intro v1 w4 ho1 hb1 hg1 hat1; have HS4 := Aside0.mk (sheet_grown (ok := fun _ => True) HS3.out hg1 HR1b.out.1); have HSl4 := Aside0.mk (sl_of_R ho1); have HB4 := Aside0.mk hb1; obtain ⟨A3, c3, ev1, q1, q2⟩ := Kd.R_reads ho1; subst ev1; clear ho1 hb1 hg1 hat1 q1 q2 HS3 HB3 HR1b HC2) | (go_at_call 23; refine (def_a gs gm _ _ HS4.out HSl4.out).mono ?_; rintro x w5 ⟨rfl, hs, hg⟩; have HS5 := Aside0.mk hs; have HB5 := Aside0.mk (pw_below_grown HB4.out (some gm) (below_size HB4.out) hg (fun k_ hk => by cases hk; exact GM.out)); clear hs hg HS4 HSl4 HB4) | (go_at_call 31; refine (set_calls 5 5 _).mono ?_; rintro e w6 ⟨A4, c4, rfl, hr, hb⟩; have HSl6 := Aside0.mk (sl_of_R hr); have HS6 := Aside0.mk (HS5.out.below hb); have HB6 := Aside0.mk (below_step HB5.out hb); clear HS5 HB5 hr hb) | (go_at_call 23; refine (def_b gs gm _ _ HS6.out HSl6.out).mono ?_; rintro x w7 ⟨rfl, hs, hg⟩; have HS := Aside0.mk hs; have HB := Aside0.mk (pw_below_grown HB6.out (some gm) (below_size HB6.out) hg (fun k_ hk => by cases hk; exact GM.out)); clear hs hg HS6 HSl6 HB6))
  go_ret2
  exact ⟨gs, gm, rfl, HS.out, HB.out⟩
end Go.Proofs.Ytpcpjlbfhbicaaa.Sh
