/- Sheets of styles as lists: what a definition makes of parents and settings, that chains of parents end, and (*style.Sheet).Define's and Resolve's contracts in one. Conditions: as each theorem says. -/
import Derived.Test.YtpcpjlbfhbicaaaShG
set_option linter.unusedVariables false
set_option linter.unusedSimpArgs false
namespace Go.Proofs.Ytpcpjlbfhbicaaa.Sh
open Go Go.RowKit Go.Proofs.YtpcpjlbfhbicaaaW.PrintWords Go.Proofs.YtpcpjlbfhbicaaaW.PrintLast Go.Proofs.YtpcpjlbfhbicaaaW.PrintMore Go.Proofs.Ytpcpjlbfhbicaaa.PStyleProps
open Go.Proofs.Ytpcpjlbfhbicaaa.PStyleNearest (S37 k37 z37 rd_T37 at_T37 k37_open k37_openM k37_mk k37_mkM info37)
theorem ba_iff {a b : ByteArray} : (a == b) = true ↔ a = b := ⟨ba_eq, fun h => h ▸ ba_refl a⟩
/-! ### What a definition makes -/
theorem fnd_put (n p : ByteArray) (l : List S37) (m : ByteArray) : ∀ L : List Sty, fnd (putL L n p l) m = if m = n then some (n, p, l) else fnd L m
  | [] => by
    by_cases c : m = n
    · rw [if_pos c]; simp only [putL, fnd, List.find?_cons, c, ba_refl]
    · rw [if_neg c]; simp only [putL, fnd, List.find?_cons, ba_ne c, List.find?_nil]
  | s :: L => by
    have ih := fnd_put n p l m L
    simp only [putL]
    cases h : (n == s.1) with
    | true =>
      have hn := ba_eq h
      simp only [if_true]
      by_cases c : m = n
      · rw [if_pos c]; simp only [fnd, List.find?_cons, c, ba_refl]
      · rw [if_neg c]; simp only [fnd, List.find?_cons, ba_ne c, ← hn]
    | false =>
      simp only [Bool.false_eq_true, if_false]
      by_cases c : m = n
      · rw [if_pos c] at ih ⊢
        subst c
        simp only [fnd, List.find?_cons, h] at ih ⊢
        exact ih
      · rw [if_neg c] at ih ⊢
        simp only [fnd, List.find?_cons] at ih ⊢
        cases m == s.1 with
        | true => rfl
        | false => exact ih
theorem upL_put (L : List Sty) (n p : ByteArray) (l : List S37) (m : ByteArray) : upL (putL L n p l) m = if m = n then p else upL L m := by
  unfold upL; rw [fnd_put]; split <;> rfl
theorem setsL_put (L : List Sty) (n p : ByteArray) (l : List S37) (m : ByteArray) : setsL (putL L n p l) m = if m = n then l else setsL L m := by
  unfold setsL; rw [fnd_put]; split <;> rfl
theorem len_put_new (n p : ByteArray) (l : List S37) : ∀ L : List Sty, fnd L n = none → (putL L n p l).length = L.length + 1
  | [], _ => rfl
  | s :: L, h => by
    cases c : (n == s.1) with
    | true => simp only [fnd, List.find?_cons, c] at h; cases h
    | false =>
      simp only [fnd, List.find?_cons, c] at h
      simp only [putL, c, Bool.false_eq_true, if_false, List.length_cons]
      rw [len_put_new n p l L h]
theorem len_put_there (n p : ByteArray) (l : List S37) : ∀ L : List Sty, (fnd L n).isSome = true → (putL L n p l).length = L.length
  | [], h => by cases h
  | s :: L, h => by
    cases c : (n == s.1) with
    | true => simp only [putL, c, if_true, List.length_cons]
    | false =>
      simp only [fnd, List.find?_cons, c] at h
      simp only [putL, c, Bool.false_eq_true, if_false, List.length_cons]
      rw [len_put_there n p l L h]
theorem mem_put {n p : ByteArray} {l : List S37} {s : Sty} : ∀ {L : List Sty}, s ∈ putL L n p l → s = (n, p, l) ∨ s ∈ L
  | [], h => by simp only [putL, List.mem_singleton] at h; exact .inl h
  | t :: L, h => by
    simp only [putL] at h
    cases c : (n == t.1) with
    | true =>
      rw [c] at h
      rcases List.mem_cons.1 h with h | h
      · exact .inl h
      · exact .inr (List.mem_cons_of_mem _ h)
    | false =>
      rw [c] at h
      simp only [Bool.false_eq_true, if_false] at h
      rcases List.mem_cons.1 h with h | h
      · exact .inr (h ▸ List.mem_cons_self)
      · rcases mem_put h with h | h
        · exact .inl h
        · exact .inr (List.mem_cons_of_mem _ h)
theorem Fits.put {L : List Sty} (h : Fits L) {n p : ByteArray} {l : List S37} (hl : fitsAll l) : Fits (putL L n p l) := by
  intro s hs
  rcases mem_put hs with rfl | hs
  · exact hl
  · exact h s hs
/-! ### Chains of parents end -/
def endsIn (u : ByteArray → ByteArray) : Nat → ByteArray → Prop
  | 0, n => n = ⟨#[]⟩
  | k + 1, n => n = ⟨#[]⟩ ∨ endsIn u k (u n)
def Ends (u : ByteArray → ByteArray) : Prop := ∀ n, ∃ k, endsIn u k n
theorem above_total (u : ByteArray → ByteArray) (who : ByteArray) : ∀ (k : Nat) (n : ByteArray), endsIn u k n → ∃ b, aboveG u who (k + 1) n = some b
  | 0, n, h => ⟨false, by simp only [aboveG]; rw [if_pos (show n = ⟨#[]⟩ from h)]⟩
  | k + 1, n, h => by
    by_cases c : n = ⟨#[]⟩
    · exact ⟨false, by rw [aboveG, if_pos c]⟩
    · rcases h with h | h
      · exact absurd h c
      · by_cases c2 : n = who
        · exact ⟨true, by rw [aboveG, if_neg c, if_pos c2]⟩
        · obtain ⟨b, hb⟩ := above_total u who k _ h
          exact ⟨b, by rw [aboveG, if_neg c, if_neg c2]; exact hb⟩
theorem Ends.above {u : ByteArray → ByteArray} (h : Ends u) (who n : ByteArray) : ∃ k b, aboveG u who k n = some b := by
  obtain ⟨k, hk⟩ := h n
  obtain ⟨b, hb⟩ := above_total u who k n hk
  exact ⟨_, b, hb⟩
theorem makes_total (L : List Sty) : ∀ (k : Nat) (n : ByteArray), endsIn (upL L) k n → ∃ f, makesF L (k + 1) n = some f
  | 0, n, h => ⟨base, by simp only [makesF]; rw [if_pos (show n = ⟨#[]⟩ from h)]⟩
  | k + 1, n, h => by
    by_cases c : n = ⟨#[]⟩
    · exact ⟨base, by rw [makesF, if_pos c]⟩
    · rcases h with h | h
      · exact absurd h c
      · obtain ⟨f, hf⟩ := makes_total L k _ h
        exact ⟨_, by rw [makesF, if_neg c, hf]; rfl⟩
theorem ends_above {u u' : ByteArray → ByteArray} {n : ByteArray} (hu : ∀ m, m ≠ n → u' m = u m) : ∀ (k : Nat) (p : ByteArray), aboveG u n k p = some false → endsIn u' k p
  | 0, _, h => by cases h
  | k + 1, p, h => by
    simp only [aboveG] at h
    by_cases c : p = ⟨#[]⟩
    · exact .inl c
    · rw [if_neg c] at h
      by_cases c2 : p = n
      · rw [if_pos c2] at h; cases h
      · rw [if_neg c2] at h
        exact .inr (by rw [hu p c2]; exact ends_above hu k _ h)
theorem Ends.put {L : List Sty} (h : Ends (upL L)) {n p : ByteArray} {l : List S37} {k : Nat} (ha : aboveG (upL L) n k p = some false) : Ends (upL (putL L n p l)) := by
  have hu : ∀ m, m ≠ n → upL (putL L n p l) m = upL L m := fun m hm => by rw [upL_put, if_neg hm]
  have hp := ends_above hu k p ha
  have key : ∀ (j : Nat) (m : ByteArray), endsIn (upL L) j m → ∃ i, endsIn (upL (putL L n p l)) i m := by
    intro j
    induction j with
    | zero => exact fun m hm => ⟨0, hm⟩
    | succ j ih =>
      intro m hm
      by_cases c : m = ⟨#[]⟩
      · exact ⟨0, c⟩
      · by_cases c2 : m = n
        · exact ⟨k + 1, .inr (by rw [upL_put, if_pos c2]; exact hp)⟩
        · rcases hm with hm | hm
          · exact absurd hm c
          · obtain ⟨i, hi⟩ := ih _ hm
            exact ⟨i + 1, .inr (by rw [hu m c2]; exact hi)⟩
  intro m
  obtain ⟨j, hj⟩ := h m
  exact key j m hj
theorem Ends.nil : Ends (upL []) := fun n => ⟨1, .inr rfl⟩
theorem Fits.nil : Fits [] := fun s hs => by cases hs
/-! ### The contracts in one -/
def defE (nb : Bool) (e : Int) (ab : Bool) (L : List Sty) (n p : ByteArray) : Int :=
  if nb = false then 4 else if p ≠ ⟨#[]⟩ ∧ fnd L p = none then 6 else if e ≠ 0 then e else if ab = true then 10 else if fnd L n = none ∧ 32 ≤ L.length then 8 else 0
def defL (nb : Bool) (e : Int) (ab : Bool) (L : List Sty) (n p : ByteArray) (l : List S37) : List Sty := if defE nb e ab L n p = 0 then putL L n p l else L
theorem define_calls (gs gm : Nat) (L : List Sty) (n p : ByteArray) (v : Value) (l : List S37) (w : World) (hs : Sheet w gs gm L) (hv : Sl w v l) (kn ks k : Nat) (nb : Bool) (e : Int) (ab : Bool)
    (hn : PStyleNearest.style_name.f kn n = some nb) (he : PStyleNearest.style_settings.f ks l = some e) (hab : aboveG (upL L) n k p = some ab) :
    Calls Try.prog 23 #[.pointer (some ⟨gs, 0, none⟩), .string n, .string p, v] w fun x w' => x = .returned (.int .i64 (defE nb e ab L n p)) ∧ Sheet w' gs gm (defL nb e ab L n p l) ∧ w.grownBy w' (some gm) := by
  have no : ∀ (r : Int), r ≠ 0 → defE nb e ab L n p = r → (Calls Try.prog 23 #[.pointer (some ⟨gs, 0, none⟩), .string n, .string p, v] w fun x w' => x = .returned (.int .i64 r) ∧ Below w.heap.size w w') →
      Calls Try.prog 23 #[.pointer (some ⟨gs, 0, none⟩), .string n, .string p, v] w fun x w' => x = .returned (.int .i64 (defE nb e ab L n p)) ∧ Sheet w' gs gm (defL nb e ab L n p l) ∧ w.grownBy w' (some gm) := by
    intro r hr hd hc
    refine hc.mono ?_
    rintro x w' ⟨rfl, hb⟩
    exact ⟨by rw [hd], by unfold defL; rw [if_neg (by rw [hd]; exact hr)]; exact hs.below hb, grown_of_below hb _⟩
  by_cases c0 : nb = false
  · subst c0
    exact no 4 (by decide) (by unfold defE; rw [if_pos rfl]) (define_name gs gm L n p v l w hs hv kn hn)
  · have c0' : nb = true := by simpa using c0
    subst c0'
    by_cases c1 : p ≠ ⟨#[]⟩ ∧ fnd L p = none
    · exact no 6 (by decide) (by unfold defE; rw [if_neg c0, if_pos c1]) (define_miss gs gm L n p v l w hs hv kn hn c1.1 c1.2)
    · have hp : p = ⟨#[]⟩ ∨ (p ≠ ⟨#[]⟩ ∧ (fnd L p).isSome = true) := by
        by_cases q : p = ⟨#[]⟩
        · exact .inl q
        · refine .inr ⟨q, ?_⟩
          cases hf : fnd L p with
          | none => exact absurd ⟨q, hf⟩ c1
          | some s => rfl
      by_cases c2 : e ≠ 0
      · refine no e c2 (by unfold defE; rw [if_neg c0, if_neg c1, if_pos c2]) ?_
        rcases hp with hp | ⟨hp, hf⟩
        · exact define_set0 gs gm L n p v l w hs hv kn hn ks e he c2 hp
        · exact define_set1 gs gm L n p v l w hs hv kn hn ks e he c2 hp hf
      · have c2' : e = 0 := by omega
        subst c2'
        by_cases c3 : ab = true
        · subst c3
          refine no 10 (by decide) (by unfold defE; rw [if_neg c0, if_neg c1, if_neg c2, if_pos rfl]) ?_
          rcases hp with hp | ⟨hp, hf⟩
          · exact define_loop0 gs gm L n p v l w hs hv kn hn ks k he hab hp
          · exact define_loop1 gs gm L n p v l w hs hv kn hn ks k he hab hp hf
        · have c3' : ab = false := by simpa using c3
          subst c3'
          by_cases c4 : fnd L n = none ∧ 32 ≤ L.length
          · refine no 8 (by decide) (by unfold defE; rw [if_neg c0, if_neg c1, if_neg c2, if_neg c3, if_pos c4]) ?_
            rcases hp with hp | ⟨hp, hf⟩
            · exact define_full0 gs gm L n p v l w hs hv kn hn ks k he hab c4.1 c4.2 hp
            · exact define_full1 gs gm L n p v l w hs hv kn hn ks k he hab c4.1 c4.2 hp hf
          · have hd : defE true 0 false L n p = 0 := by unfold defE; rw [if_neg c0, if_neg c1, if_neg c2, if_neg c3, if_neg c4]
            have hL : defL true 0 false L n p l = putL L n p l := by unfold defL; rw [if_pos hd]
            rw [hd, hL]
            cases ht : fnd L n with
            | none =>
              have hlen : L.length < 32 := by
                rcases Nat.lt_or_ge L.length 32 with h | h
                · exact h
                · exact absurd ⟨ht, h⟩ c4
              rcases hp with hp | ⟨hp, hf⟩
              · exact define_new0 gs gm L n p v l w hs hv kn hn ks k he hab ht hlen hp
              · exact define_new1 gs gm L n p v l w hs hv kn hn ks k he hab ht hlen hp hf
            | some s =>
              have ht' : (fnd L n).isSome = true := by rw [ht]; rfl
              rcases hp with hp | ⟨hp, hf⟩
              · exact define_there0 gs gm L n p v l w hs hv kn hn ks k he hab ht' hp
              · exact define_there1 gs gm L n p v l w hs hv kn hn ks k he hab ht' hp hf
/-- What Resolve answers: the 17 values, and the number. -/
def resE (e : Int) (L : List Sty) (n : ByteArray) : Int := if n ≠ ⟨#[]⟩ ∧ fnd L n = none then 6 else e
def resF (e : Int) (f : Int → Int) (L : List Sty) (n : ByteArray) (own : List S37) : Int → Int := if resE e L n = 0 then withF f own else zero
theorem resolve_calls (gs gm : Nat) (L : List Sty) (n : ByteArray) (v : Value) (own : List S37) (w : World) (hs : Sheet w gs gm L) (hv : Sl w v own) (ks k : Nat) (e : Int) (f : Int → Int) (hfit : Fits L)
    (he : PStyleNearest.style_settings.f ks own = some e) (hown : e = 0 → fitsAll own) (hmk : makesF L k n = some f) :
    Calls Try.prog 24 #[.pointer (some ⟨gs, 0, none⟩), .string n, v] w fun x w' => x = .returned (.tuple #[.agg (row (resF e f L n own)), .int .i64 (resE e L n)]) ∧ Below w.heap.size w w' := by
  by_cases c1 : n ≠ ⟨#[]⟩ ∧ fnd L n = none
  · have h1 : resE e L n = 6 := by unfold resE; rw [if_pos c1]
    have h2 : resF e f L n own = zero := by unfold resF; rw [if_neg (by rw [h1]; decide)]
    rw [h1, h2]
    exact resolve_miss gs gm L n v own w hs hv c1.1 c1.2
  · have h1 : resE e L n = e := by unfold resE; rw [if_neg c1]
    have hp : n = ⟨#[]⟩ ∨ (n ≠ ⟨#[]⟩ ∧ (fnd L n).isSome = true) := by
      by_cases q : n = ⟨#[]⟩
      · exact .inl q
      · refine .inr ⟨q, ?_⟩
        cases hf : fnd L n with
        | none => exact absurd ⟨q, hf⟩ c1
        | some s => rfl
    by_cases c2 : e ≠ 0
    · have h2 : resF e f L n own = zero := by unfold resF; rw [if_neg (by rw [h1]; exact c2)]
      rw [h1, h2]
      rcases hp with hp | ⟨hp, hf⟩
      · exact resolve_wrong0 gs gm L n v own w hs hv ks e he c2 hp
      · exact resolve_wrong1 gs gm L n v own w hs hv ks e he c2 hp hf
    · have c2' : e = 0 := by omega
      subst c2'
      have h2 : resF 0 f L n own = withF f own := by unfold resF; rw [if_pos h1]
      rw [h1, h2]
      rcases hp with hp | ⟨hp, hf⟩
      · exact resolve_fine0 gs gm L n v own w hs hv ks k f hfit he (hown rfl) hmk hp
      · exact resolve_fine1 gs gm L n v own w hs hv ks k f hfit he (hown rfl) hmk hp hf
end Go.Proofs.Ytpcpjlbfhbicaaa.Sh
