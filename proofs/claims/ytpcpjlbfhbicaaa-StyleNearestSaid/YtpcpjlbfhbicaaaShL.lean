/- What the law StyleNearest's loop makes of a sheet: a chain of styles, each the parent of the next; which values are the last ones. Conditions: at most 16 styles. -/
import Derived.Test.YtpcpjlbfhbicaaaShK
set_option linter.unusedVariables false
set_option linter.unusedSimpArgs false
namespace Go.Proofs.Ytpcpjlbfhbicaaa.Sh
open Go Go.RowKit Go.Proofs.YtpcpjlbfhbicaaaW.PrintWords Go.Proofs.YtpcpjlbfhbicaaaW.PrintLast Go.Proofs.YtpcpjlbfhbicaaaW.PrintMore Go.Proofs.Ytpcpjlbfhbicaaa.PStyleProps
open Go.Proofs.Ytpcpjlbfhbicaaa.PStyleNearest (S37 k37 z37 rd_T37 at_T37 k37_open k37_openM k37_mk k37_mkM info37)
/-- The names: none, then sa, sb, .. -/
def nm : Nat → ByteArray
  | 0 => ⟨#[]⟩
  | j + 1 => ⟨#[115, UInt8.ofNat (97 + j)]⟩
theorem nm_inj {i j : Nat} (hi : i ≤ 16) (hj : j ≤ 16) (h : nm i = nm j) : i = j := by
  have key : ∀ a : Fin 17, ∀ b : Fin 17, nm a.1 = nm b.1 → a.1 = b.1 := by decide +kernel
  exact key ⟨i, by omega⟩ ⟨j, by omega⟩ h
theorem name_nm {j : Nat} (hj : j < 16) : PStyleNearest.style_name.f 20 (nm (j + 1)) = some true := by
  have key : ∀ a : Fin 16, PStyleNearest.style_name.f 20 (nm (a.1 + 1)) = some true := by decide +kernel
  exact key ⟨j, hj⟩
theorem nm_ne {j : Nat} : nm (j + 1) ≠ ⟨#[]⟩ := by
  intro h
  have := congrArg ByteArray.size h
  simp [nm, ByteArray.size] at this
structure NI (ls : List (List S37)) (L : List Sty) (i : Nat) : Prop where
  fd : ∀ j, j < i → (fnd L (nm (j + 1))).isSome = true
  nf : ∀ j, i ≤ j → j < 16 → fnd L (nm (j + 1)) = none
  up : ∀ j, j < i → upL L (nm (j + 1)) = nm j
  st : ∀ j, j < i → setsL L (nm (j + 1)) = ls.getD j []
  ends : Ends (upL L)
  fits : Fits L
  len : L.length = i
theorem NI.nil (ls : List (List S37)) : NI ls [] 0 where
  fd := fun j h => by omega
  nf := fun j _ _ => rfl
  up := fun j h => by omega
  st := fun j h => by omega
  ends := Ends.nil
  fits := Fits.nil
  len := rfl
theorem NI.above {ls : List (List S37)} {L : List Sty} {i : Nat} (h : NI ls L i) (hi : i < 16) : ∀ j, j ≤ i → aboveG (upL L) (nm (i + 1)) (j + 1) (nm j) = some false
  | 0, _ => by rw [aboveG]; rw [if_pos (show nm 0 = ⟨#[]⟩ from rfl)]
  | j + 1, hj => by
    rw [aboveG, if_neg nm_ne, if_neg (fun e => by have := nm_inj (by omega) (by omega) e; omega), h.up j (by omega)]
    exact NI.above h hi j (by omega)
theorem NI.put {ls : List (List S37)} {L : List Sty} {i : Nat} (h : NI ls L i) (hi : i < 16) (hl : fitsAll (ls.getD i [])) : NI ls (putL L (nm (i + 1)) (nm i) (ls.getD i [])) (i + 1) where
  fd := fun j hj => by
    rw [fnd_put]
    by_cases c : nm (j + 1) = nm (i + 1)
    · rw [if_pos c]; rfl
    · rw [if_neg c]
      refine h.fd j ?_
      rcases Nat.lt_or_ge j i with hlt | hge
      · exact hlt
      · exact absurd (by rw [show j = i by omega]) c
  nf := fun j hj hj2 => by
    rw [fnd_put, if_neg (fun e => by have := nm_inj (by omega) (by omega) e; omega)]
    exact h.nf j (by omega) hj2
  up := fun j hj => by
    rw [upL_put]
    by_cases c : nm (j + 1) = nm (i + 1)
    · have : j = i := by have := nm_inj (by omega) (by omega) c; omega
      rw [if_pos c, this]
    · rw [if_neg c]
      refine h.up j ?_
      rcases Nat.lt_or_ge j i with hlt | hge
      · exact hlt
      · exact absurd (by rw [show j = i by omega]) c
  st := fun j hj => by
    rw [setsL_put]
    by_cases c : nm (j + 1) = nm (i + 1)
    · have : j = i := by have := nm_inj (by omega) (by omega) c; omega
      rw [if_pos c, this]
    · rw [if_neg c]
      refine h.st j ?_
      rcases Nat.lt_or_ge j i with hlt | hge
      · exact hlt
      · exact absurd (by rw [show j = i by omega]) c
  ends := h.ends.put (h.above hi i (Nat.le_refl _))
  fits := h.fits.put hl
  len := by rw [len_put_new _ _ _ _ (h.nf i (Nat.le_refl _) hi), h.len]
def FN (ls : List (List S37)) : Nat → Int → Int
  | 0 => base
  | j + 1 => withF (FN ls j) (ls.getD j [])
theorem NI.makes {ls : List (List S37)} {L : List Sty} {i : Nat} (h : NI ls L i) : ∀ j, j ≤ i → makesF L (j + 1) (nm j) = some (FN ls j)
  | 0, _ => by rw [makesF]; rw [if_pos (show nm 0 = ⟨#[]⟩ from rfl)]; rfl
  | j + 1, hj => by
    rw [makesF, if_neg nm_ne, h.up j (by omega), NI.makes h j (by omega), h.st j (by omega)]
    rfl
theorem NI.define {ls : List (List S37)} {i : Nat} {L : List Sty} (h : NI ls L i) (hi : i < 16) (gs gm : Nat) (v : Value) (l : List S37) (w : World) (hs : Sheet w gs gm L) (hv : Sl w v l) :
    Calls Try.prog 23 #[.pointer (some ⟨gs, 0, none⟩), .string (nm (i + 1)), .string (nm i), v] w fun x w' => x = .returned (.int .i64 (setE l)) ∧ (setE l = 0 → Sheet w' gs gm (putL L (nm (i + 1)) (nm i) l)) ∧ (setE l ≠ 0 → Sheet w' gs gm L) ∧ w.grownBy w' (some gm) := by
  obtain ⟨ks, hks⟩ := settings_total l
  have hp : ¬ (nm i ≠ ⟨#[]⟩ ∧ fnd L (nm i) = none) := by
    rintro ⟨h1, h2⟩
    cases i with
    | zero => exact h1 rfl
    | succ i =>
      have := h.fd i (by omega)
      rw [h2] at this
      cases this
  have hd : defE true (setE l) false L (nm (i + 1)) (nm i) = setE l := by
    unfold defE
    rw [if_neg (by decide), if_neg hp]
    by_cases c : setE l = 0
    · rw [if_neg (by rw [c]; decide), if_neg (by decide), if_neg (by rw [h.len]; omega), c]
    · rw [if_pos c]
  refine (define_calls gs gm L (nm (i + 1)) (nm i) v l w hs hv 20 ks (i + 1) true (setE l) false (name_nm hi) hks (h.above hi i (Nat.le_refl _))).mono ?_
  rintro x w' ⟨rfl, hs', hg⟩
  unfold defL at hs'
  rw [hd] at hs'
  refine ⟨by rw [hd], fun h0 => ?_, fun h0 => ?_, hg⟩
  · rw [if_pos h0] at hs'; exact hs'
  · rw [if_neg h0] at hs'; exact hs'
theorem NI.resolve {ls : List (List S37)} {i : Nat} {L : List Sty} (h : NI ls L i) (gs gm : Nat) (v : Value) (own : List S37) (w : World) (hs : Sheet w gs gm L) (hv : Sl w v own) :
    Calls Try.prog 24 #[.pointer (some ⟨gs, 0, none⟩), .string (nm i), v] w fun x w' => x = .returned (.tuple #[.agg (row (if setE own = 0 then withF (FN ls i) own else zero)), .int .i64 (setE own)]) ∧ Below w.heap.size w w' := by
  obtain ⟨ks, hks⟩ := settings_total own
  have hp : ¬ (nm i ≠ ⟨#[]⟩ ∧ fnd L (nm i) = none) := by
    rintro ⟨h1, h2⟩
    cases i with
    | zero => exact h1 rfl
    | succ i =>
      have := h.fd i (by omega)
      rw [h2] at this
      cases this
  have := resolve_calls gs gm L (nm i) v own w hs hv ks (i + 1) (setE own) _ h.fits hks (fun h => (setE_zero h).1) (h.makes i (Nat.le_refl _))
  unfold resF resE at this
  rw [if_neg hp] at this
  exact this
/-! ### The last setting of a property -/
def lastV : List S37 → Int → Option Int
  | [], _ => none
  | s :: l, k => match lastV l k with
    | some v => some v
    | none => if s.f0 = k then some s.f1 else none
theorem lastV_append (k : Int) (s : S37) : ∀ l : List S37, lastV (l ++ [s]) k = if s.f0 = k then some s.f1 else lastV l k
  | [] => by simp only [List.nil_append, lastV]
  | t :: l => by
    simp only [List.cons_append, lastV, lastV_append k s l]
    by_cases c : s.f0 = k
    · rw [if_pos c, if_pos c]
    · rw [if_neg c, if_neg c]
theorem withF_last (k : Int) : ∀ (l : List S37) (f : Int → Int), withF f l k = (lastV l k).getD (f k)
  | [], f => rfl
  | s :: l, f => by
    show withF (upd f s.f0 s.f1) l k = _
    rw [withF_last k l]
    simp only [lastV]
    cases lastV l k with
    | some v => rfl
    | none =>
      simp only [upd, Option.getD_none]
      by_cases c : s.f0 = k
      · rw [if_pos c, if_pos c.symm]; rfl
      · rw [if_neg c, if_neg (fun h => c h.symm)]; rfl
theorem last_loop (l : List S37) (k : Int) (hl : l.length ≤ 100) : ∀ (d : Nat), d ≤ l.length → PStyleNearest.quirelaw03_last.l0 (d + 1) l k ((d : Int) - 1) = some ((lastV (l.take d) k).getD 0, (lastV (l.take d) k).isSome)
  | 0, _ => by
    rw [PStyleNearest.quirelaw03_last.l0, if_neg (by omega)]
    rfl
  | d + 1, h => by
    have hg : l[d]? = some (rd_T37 l (((d + 1 : Nat) : Int) - 1)) := by
      unfold rd_T37
      rw [List.getD_eq_getElem?_getD, show (((d + 1 : Nat) : Int) - 1).toNat = d by omega, List.getElem?_eq_getElem (by omega)]
      rfl
    have ht : l.take (d + 1) = l.take d ++ [rd_T37 l (((d + 1 : Nat) : Int) - 1)] := by
      rw [List.take_add_one, hg]; rfl
    rw [PStyleNearest.quirelaw03_last.l0, if_pos (by omega), if_pos (by omega), if_pos (by omega), ht, lastV_append]
    by_cases c : (rd_T37 l (((d + 1 : Nat) : Int) - 1)).f0 = k
    · rw [if_pos c, if_pos c]; rfl
    · rw [if_neg c, if_neg c]
      have e : wrap64 (((d + 1 : Nat) : Int) - 1 - 1) = (d : Int) - 1 := by unfold wrap64; omega
      rw [e]
      exact last_loop l k hl d (by omega)
theorem last_calls (v : Value) (l : List S37) (k : Int) (w : World) (hv : Sl w v l) (hl : l.length ≤ 100) :
    Calls Try.prog 25 #[v, .int .i64 k] w fun e w' => e = .returned (.tuple #[.int .i64 ((lastV l k).getD 0), .bool (lastV l k).isSome]) ∧ Below w.heap.size w w' := by
  obtain ⟨A, c, rfl, hc, hr⟩ := hv
  have h : PStyleNearest.quirelaw03_last.f (l.length + 1) l k = some ((lastV l k).getD 0, (lastV l k).isSome) := by
    unfold PStyleNearest.quirelaw03_last.f
    rw [show wrap64 ((l.length : Int) - 1) = (l.length : Int) - 1 by (unfold wrap64; omega)]
    have := last_loop l k hl l.length (Nat.le_refl _)
    rwa [List.take_length] at this
  exact (PStyleNearest.quirelaw03_last.calls _ A c l k _ _ w hr hc h).mono (fun e w' hh => ⟨hh.1, hh.2.below⟩)
/-! ### The values may be -/
def Okay (f : Int → Int) : Prop := ∀ j, 1 ≤ j → j ≤ 17 → fitB j (f j) = true
theorem Okay.base : Okay base := by
  intro j h0 h1
  rcases range17 j h0 h1 with rfl | rfl | rfl | rfl | rfl | rfl | rfl | rfl | rfl | rfl | rfl | rfl | rfl | rfl | rfl | rfl | rfl <;> decide +kernel
theorem Okay.with {f : Int → Int} (h : Okay f) : ∀ {l : List S37}, fitsAll l → Okay (withF f l) := by
  intro l
  induction l generalizing f with
  | nil => exact fun _ => h
  | cons s l ih =>
    intro hl
    refine ih (f := upd f s.f0 s.f1) ?_ (fun t ht => hl t (List.mem_cons_of_mem _ ht))
    intro j h0 h1
    simp only [upd]
    by_cases c : j = s.f0
    · rw [if_pos c, c]; exact hl s List.mem_cons_self
    · rw [if_neg c]; exact h j h0 h1
theorem pv_row (f : Int → Int) (n : Int) (h0 : 1 ≤ n) (h1 : n ≤ 17) : pv (f 1) (f 2) (f 3) (f 4) (f 5) (f 6) (f 7) (f 8) (f 9) (f 10) (f 11) (f 12) (f 13) (f 14) (f 15) (f 16) (f 17) n = f n := by
  rcases range17 n h0 h1 with rfl | rfl | rfl | rfl | rfl | rfl | rfl | rfl | rfl | rfl | rfl | rfl | rfl | rfl | rfl | rfl | rfl <;> rfl
theorem get_calls (f : Int → Int) (n : Int) (w : World) (h0 : 1 ≤ n) (h1 : n ≤ 17) : Calls Try.prog 16 #[.agg (row f), .int .i64 n] w fun e w' => e = .returned (.tuple #[.int .i64 (f n), .int .i64 0]) ∧ Below w.heap.size w w' := by
  have := get_in (f 1) (f 2) (f 3) (f 4) (f 5) (f 6) (f 7) (f 8) (f 9) (f 10) (f 11) (f 12) (f 13) (f 14) (f 15) (f 16) (f 17) n w h0 h1
  rw [pv_row f n h0 h1] at this
  exact this
theorem mayF_true {g : Int → Bool} : ∀ (d : Nat) (n : Int), (∀ j, n ≤ j → j < n + d → g j = true) → mayF g d n = true
  | 0, _, _ => rfl
  | d + 1, n, h => by
    simp only [mayF]
    rw [h n (by omega) (by omega), mayF_true d (n + 1) (fun j h0 h1 => h j (by omega) (by omega))]
    rfl
theorem may_calls (f : Int → Int) (w : World) (h : Okay f) : Calls Try.prog 12 #[.agg (row f)] w fun e w' => e = .returned (.bool true) ∧ Below w.heap.size w w' := by
  have := may_any (f 1) (f 2) (f 3) (f 4) (f 5) (f 6) (f 7) (f 8) (f 9) (f 10) (f 11) (f 12) (f 13) (f 14) (f 15) (f 16) (f 17) w
  rw [mayF_true 17 1 (fun j h0 h1 => by rw [pv_row f j h0 (by omega)]; exact h j h0 (by omega))] at this
  exact this
/-- A list of lists of settings is read: its element's slice. -/
theorem at_lists {w : World} {A : Option Addr} {n : Nat} {ls : List (List S37)} (h : Kd.C (Kd.slice 37 k37) w A n ls) (i : Int) (h0 : 0 ≤ i) (h1 : i < n) :
    ∃ ad v, A = some ad ∧ w.cell? (ad.add (i.toNat * 1)) = some v ∧ Sl w v (ls.getD i.toNat []) := by
  obtain ⟨ad, c, e, _, hK, hc⟩ := Kd.C_get h [] i h0 h1
  obtain ⟨A', c', rfl, hl, hr⟩ := hK
  exact ⟨ad, _, e, hc 0 _ rfl, A', c', rfl, hl, hr⟩
end Go.Proofs.Ytpcpjlbfhbicaaa.Sh
