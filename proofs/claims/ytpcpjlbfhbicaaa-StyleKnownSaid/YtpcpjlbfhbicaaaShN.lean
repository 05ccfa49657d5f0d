/- Sheets of styles as StyleLoops makes them: which names may be, what a definition keeps, and that no chain of parents is longer than there are styles. No condition. -/
import Derived.Test.YtpcpjlbfhbicaaaShI
set_option linter.unusedVariables false
set_option linter.unusedSimpArgs false
namespace Go.Proofs.Ytpcpjlbfhbicaaa.Sh
open Go Go.RowKit Go.Proofs.YtpcpjlbfhbicaaaW.PrintWords Go.Proofs.YtpcpjlbfhbicaaaW.PrintLast Go.Proofs.YtpcpjlbfhbicaaaW.PrintMore Go.Proofs.Ytpcpjlbfhbicaaa.PStyleProps
open Go.Proofs.Ytpcpjlbfhbicaaa.PStyleNearest (S37 k37 z37 rd_T37 at_T37 k37_open k37_openM k37_mk k37_mkM info37)
theorem name_loop (n : ByteArray) (hs : n.size ≤ 16) : ∀ (d i : Nat), i + d = n.size → ∃ b, PStyleNearest.style_name.l0 (d + 1) n (n.size : Int) (i : Int) = some b
  | 0, i, h => ⟨true, by rw [PStyleNearest.style_name.l0, if_neg (by omega)]⟩
  | d + 1, i, h => by
    obtain ⟨b, ih⟩ := name_loop n hs d (i + 1) (by omega)
    rw [PStyleNearest.style_name.l0, if_pos (by omega), if_pos (by omega), if_pos (by omega), show wrap64 ((i : Int) + 1) = ((i + 1 : Nat) : Int) by (unfold wrap64; omega), ih]
    repeat' split
    all_goals exact ⟨_, rfl⟩
theorem name_total (n : ByteArray) : ∃ kn nb, PStyleNearest.style_name.f kn n = some nb := by
  by_cases c : (n.size : Int) < 1
  · exact ⟨1, false, by unfold PStyleNearest.style_name.f; rw [if_pos c]; rfl⟩
  · by_cases c2 : (n.size : Int) > 16
    · exact ⟨1, false, by unfold PStyleNearest.style_name.f; rw [if_neg c, decide_eq_true c2]; rfl⟩
    · obtain ⟨b, hb⟩ := name_loop n (by omega) n.size 0 (by omega)
      exact ⟨n.size + 1 + 1, b, by unfold PStyleNearest.style_name.f; rw [if_neg c, decide_eq_false c2, PStyleNearest.style_name.j0, if_neg (by decide)]; exact hb⟩
theorem name_fine {kn : Nat} {n : ByteArray} (h : PStyleNearest.style_name.f kn n = some true) : n ≠ ⟨#[]⟩ ∧ n.size ≤ 16 := by
  unfold PStyleNearest.style_name.f at h
  have no : PStyleNearest.style_name.j0 kn n true ≠ some true := by
    cases kn with
    | zero => simp [PStyleNearest.style_name.j0]
    | succ k => rw [PStyleNearest.style_name.j0, if_pos rfl]; decide
  by_cases c : (n.size : Int) < 1
  · rw [if_pos c] at h; exact absurd h no
  · rw [if_neg c] at h
    by_cases c2 : (n.size : Int) > 16
    · rw [decide_eq_true c2] at h; exact absurd h no
    · refine ⟨fun e => ?_, by omega⟩
      subst e
      exact c (by decide)
/-- What a sheet's styles keep, whatever is defined. -/
structure LI (L : List Sty) : Prop where
  fits : Fits L
  ends : Ends (upL L)
  len : L.length ≤ 32
  names : ∀ s ∈ L, s.1 ≠ ⟨#[]⟩ ∧ s.1.size ≤ 16
  par : ∀ s ∈ L, s.2.1 = ⟨#[]⟩ ∨ (fnd L s.2.1).isSome = true
theorem LI.nil : LI [] := ⟨Fits.nil, Ends.nil, Nat.zero_le _, fun s hs => (by cases hs), fun s hs => (by cases hs)⟩
theorem defE_none {nb : Bool} {e : Int} {ab : Bool} {L : List Sty} {n p : ByteArray} (h : defE nb e ab L n p = 0) : nb = true ∧ (p = ⟨#[]⟩ ∨ (fnd L p).isSome = true) ∧ e = 0 ∧ ab = false ∧ ((fnd L n).isSome = true ∨ L.length < 32) := by
  unfold defE at h
  by_cases c0 : nb = false
  · rw [if_pos c0] at h; cases h
  rw [if_neg c0] at h
  by_cases c1 : p ≠ ⟨#[]⟩ ∧ fnd L p = none
  · rw [if_pos c1] at h; cases h
  rw [if_neg c1] at h
  by_cases c2 : e ≠ 0
  · rw [if_pos c2] at h; exact absurd h c2
  rw [if_neg c2] at h
  by_cases c3 : ab = true
  · rw [if_pos c3] at h; cases h
  rw [if_neg c3] at h
  by_cases c4 : fnd L n = none ∧ 32 ≤ L.length
  · rw [if_pos c4] at h; cases h
  refine ⟨by simpa using c0, ?_, by omega, by simpa using c3, ?_⟩
  · by_cases q : p = ⟨#[]⟩
    · exact .inl q
    · right
      cases hf : fnd L p with
      | none => exact absurd ⟨q, hf⟩ c1
      | some s => rfl
  · cases hf : fnd L n with
    | some s => exact .inl rfl
    | none => exact .inr (by rcases Nat.lt_or_ge L.length 32 with q | q; exact q; exact absurd ⟨hf, q⟩ c4)
theorem fnd_put_some {L : List Sty} {n p m : ByteArray} {l : List S37} (h : (fnd L m).isSome = true) : (fnd (putL L n p l) m).isSome = true := by
  rw [fnd_put]; split
  · rfl
  · exact h
theorem LI.put {L : List Sty} (h : LI L) {n p : ByteArray} {l : List S37} {k : Nat} (hn : n ≠ ⟨#[]⟩ ∧ n.size ≤ 16) (hl : fitsAll l) (ha : aboveG (upL L) n k p = some false) (hp : p = ⟨#[]⟩ ∨ (fnd L p).isSome = true) (hr : (fnd L n).isSome = true ∨ L.length < 32) : LI (putL L n p l) where
  fits := h.fits.put hl
  ends := h.ends.put ha
  len := by
    cases hf : fnd L n with
    | none =>
      rw [len_put_new n p l L hf]
      rcases hr with q | q
      · rw [hf] at q; cases q
      · omega
    | some s => rw [len_put_there n p l L (by rw [hf]; rfl)]; exact h.len
  names := fun s hs => by
    rcases mem_put hs with rfl | hs
    · exact hn
    · exact h.names s hs
  par := fun s hs => by
    rcases mem_put hs with rfl | hs
    · exact hp.imp id fnd_put_some
    · exact (h.par s hs).imp id fnd_put_some
theorem LI.def {L : List Sty} (h : LI L) {kn k : Nat} {nb ab : Bool} {n p : ByteArray} {l : List S37} (hn : PStyleNearest.style_name.f kn n = some nb) (ha : aboveG (upL L) n k p = some ab) : LI (defL nb (setE l) ab L n p l) := by
  unfold defL
  by_cases c : defE nb (setE l) ab L n p = 0
  · rw [if_pos c]
    obtain ⟨rfl, hp, he, rfl, hr⟩ := defE_none c
    exact h.put (name_fine hn) (setE_zero he).1 ha hp hr
  · rw [if_neg c]; exact h
theorem fnd_mem {L : List Sty} {n : ByteArray} (h : (fnd L n).isSome = true) : n ∈ L.map (·.1) := by
  cases hf : fnd L n with
  | none => rw [hf] at h; cases h
  | some s =>
    have h1 := List.mem_of_find?_eq_some hf
    have h2 := List.find?_some hf
    exact List.mem_map.2 ⟨s, h1, (ba_eq h2).symm⟩
theorem mem_fnd {L : List Sty} {n : ByteArray} (h : n ∈ L.map (·.1)) : (fnd L n).isSome = true := by
  obtain ⟨s, hs, rfl⟩ := List.mem_map.1 h
  unfold fnd
  rw [List.find?_isSome]
  exact ⟨s, hs, ba_refl _⟩
theorem LI.up {L : List Sty} (h : LI L) {n : ByteArray} (hn : (fnd L n).isSome = true) : upL L n = ⟨#[]⟩ ∨ (fnd L (upL L n)).isSome = true := by
  unfold upL
  cases hf : fnd L n with
  | none => rw [hf] at hn; cases hn
  | some s => exact h.par s (List.mem_of_find?_eq_some hf)
/-! ### Chains -/
def iter (u : ByteArray → ByteArray) : Nat → ByteArray → ByteArray
  | 0, n => n
  | k + 1, n => iter u k (u n)
theorem iter_succ (u : ByteArray → ByteArray) : ∀ (k : Nat) (n : ByteArray), iter u (k + 1) n = u (iter u k n)
  | 0, _ => rfl
  | k + 1, n => iter_succ u k (u n)
theorem iter_add (u : ByteArray → ByteArray) : ∀ (i j : Nat) (n : ByteArray), iter u (i + j) n = iter u i (iter u j n)
  | i, 0, n => rfl
  | i, j + 1, n => iter_add u i j (u n)
theorem ends_iter {u : ByteArray → ByteArray} : ∀ (k : Nat) (n : ByteArray), endsIn u k n → ∃ j, j ≤ k ∧ iter u j n = ⟨#[]⟩
  | 0, n, h => ⟨0, Nat.le_refl _, h⟩
  | k + 1, n, h => by
    rcases h with h | h
    · exact ⟨0, Nat.zero_le _, h⟩
    · obtain ⟨j, h1, h2⟩ := ends_iter k _ h
      exact ⟨j + 1, by omega, h2⟩
theorem iter_round {u : ByteArray → ByteArray} {p : Nat} {n : ByteArray} (h : iter u (p + 1) n = n) (h0 : ∀ i, i ≤ p → iter u i n ≠ ⟨#[]⟩) : ∀ (b j : Nat), j ≤ b → iter u j n ≠ ⟨#[]⟩
  | 0, j, hj => h0 j (by omega)
  | b + 1, j, hj => by
    rcases Nat.lt_or_ge p j with c | c
    · obtain ⟨i, rfl⟩ : ∃ i, j = i + (p + 1) := ⟨j - (p + 1), by omega⟩
      rw [iter_add, h]
      exact iter_round h h0 b i (by omega)
    · exact h0 j c
def chain (u : ByteArray → ByteArray) : Nat → ByteArray → List ByteArray
  | 0, _ => []
  | k + 1, n => n :: chain u k (u n)
theorem chain_len (u : ByteArray → ByteArray) : ∀ (k : Nat) (n : ByteArray), (chain u k n).length = k
  | 0, _ => rfl
  | k + 1, n => by rw [chain, List.length_cons, chain_len u k]
theorem mem_chain {u : ByteArray → ByteArray} {x : ByteArray} : ∀ (k : Nat) (n : ByteArray), x ∈ chain u k n → ∃ j, j < k ∧ x = iter u j n
  | 0, _, h => by cases h
  | k + 1, n, h => by
    rcases List.mem_cons.1 h with rfl | h
    · exact ⟨0, Nat.succ_pos _, rfl⟩
    · obtain ⟨j, h1, h2⟩ := mem_chain k _ h
      exact ⟨j + 1, by omega, h2⟩
theorem chain_nodup {u : ByteArray → ByteArray} (he : Ends u) : ∀ (k : Nat) (n : ByteArray), (∀ j, j < k → iter u j n ≠ ⟨#[]⟩) → (chain u k n).Nodup
  | 0, _, _ => List.nodup_nil
  | k + 1, n, h => by
    refine List.nodup_cons.2 ⟨fun hm => ?_, chain_nodup he k (u n) (fun j hj => h (j + 1) (by omega))⟩
    obtain ⟨j, h1, h2⟩ := mem_chain k _ hm
    obtain ⟨m, hm'⟩ := he n
    obtain ⟨i, h3, h4⟩ := ends_iter m n hm'
    exact iter_round (p := j) (n := n) h2.symm (fun i hi => h i (by omega)) i i (Nat.le_refl _) h4
theorem nodup_len {α : Type} [DecidableEq α] : ∀ (l m : List α), l.Nodup → (∀ x, x ∈ l → x ∈ m) → l.length ≤ m.length
  | [], _, _, _ => Nat.zero_le _
  | a :: l, m, hn, hs => by
    obtain ⟨h1, h2⟩ := List.nodup_cons.1 hn
    have ha := hs a List.mem_cons_self
    have ih := nodup_len l (m.erase a) h2 (fun x hx => (List.mem_erase_of_ne (fun (e : x = a) => h1 (e ▸ hx))).2 (hs x (List.mem_cons_of_mem _ hx)))
    have hl := List.length_erase_of_mem ha
    have hp : 0 < m.length := List.length_pos_of_mem ha
    rw [List.length_cons]
    omega
theorem LI.in {L : List Sty} (h : LI L) {n : ByteArray} (hn : (fnd L n).isSome = true) : ∀ (s : Nat), (∀ j, j ≤ s → iter (upL L) j n ≠ ⟨#[]⟩) → (fnd L (iter (upL L) s n)).isSome = true
  | 0, _ => hn
  | s + 1, hj => by
    rw [iter_succ]
    have ih := h.in hn s (fun j hj' => hj j (by omega))
    rcases h.up ih with c | c
    · exact absurd (by rw [iter_succ]; exact c) (hj (s + 1) (Nat.le_refl _))
    · exact c
theorem LI.short {L : List Sty} (h : LI L) {n : ByteArray} (hn : (fnd L n).isSome = true) (s : Nat) (hs : ∀ j, j ≤ s → iter (upL L) j n ≠ ⟨#[]⟩) : s < L.length := by
  have h1 := chain_nodup h.ends (s + 1) n (fun j hj => hs j (by omega))
  have h2 := @nodup_len ByteArray (fun a b => Classical.propDecidable (a = b)) (chain (upL L) (s + 1) n) (L.map (·.1)) h1 (fun x hx => by
    obtain ⟨j, hj, rfl⟩ := mem_chain _ _ hx
    exact fnd_mem (h.in hn j (fun i hi => hs i (by omega))))
  rw [chain_len, List.length_map] at h2
  omega
/-- One definition: what it answers is let go; the sheet keeps what it keeps. -/
theorem LI.define (gs gm : Nat) (L : List Sty) (h : LI L) (n p : ByteArray) (v : Value) (l : List S37) (w : World) (hs : Sheet w gs gm L) (hv : Sl w v l) :
    Calls Try.prog 23 #[.pointer (some ⟨gs, 0, none⟩), .string n, .string p, v] w fun x w' => ∃ (e : Int) (L' : List Sty), x = .returned (.int .i64 e) ∧ LI L' ∧ Sheet w' gs gm L' ∧ w.grownBy w' (some gm) := by
  obtain ⟨kn, nb, hn⟩ := name_total n
  obtain ⟨ks, he⟩ := settings_total l
  obtain ⟨k, ab, hab⟩ := h.ends.above n p
  refine (define_calls gs gm L n p v l w hs hv kn ks k nb (setE l) ab hn he hab).mono ?_
  rintro x w' ⟨rfl, h1, h2⟩
  exact ⟨_, _, rfl, h.def hn hab, h1, h2⟩
end Go.Proofs.Ytpcpjlbfhbicaaa.Sh
