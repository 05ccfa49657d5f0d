/- The plain law of NumberLabels: the labels of any paragraphs, and the counts behind them, are the document's, or just their error is told. No condition. -/
import Derived.Test.YtkemkpmcgeeieaaDoorPureCntE
namespace Go.Proofs.YtkemkpmcgeeieaaDoor.Pure
open Go Go.RowKit Go.Proofs.YtkemkpmcgeeieaaDoor.PNumberLabels Go.Proofs.YtkemkpmcgeeieaaDoorW.PrintWords Go.Proofs.YtkemkpmcgeeieaaDoorW.PrintLast Go.Proofs.YtkemkpmcgeeieaaDoor Go.Proofs.YtkemkpmcgeeieaaDoor.PureLabel Go.Proofs.YtkemkpmcgeeieaaDoor.PureCnt
set_option linter.unusedVariables false
set_option linter.unusedSimpArgs false
theorem Counts_l : ∀ (r : List S36) (l : List S36) (i : Int) (c : List Int) (k : Nat), 0 ≤ i → c.length = 36 → l.drop i.toNat = r → (∀ e ∈ r, Ok e) → r.length < k → number_Counts.l0 k l i c = some (r.foldl stepC c)
  | [], l, i, c, k, h0, hc, h, _, hk => by
    obtain ⟨k, rfl⟩ : ∃ m, k = m + 1 := ⟨k - 1, by omega⟩
    simp only [number_Counts.l0]
    rw [if_neg (rd_end h0 h)]
    rfl
  | e :: r, l, i, c, k, h0, hc, h, he, hk => by
    obtain ⟨k, rfl⟩ : ∃ m, k = m + 1 := ⟨k - 1, by omega⟩
    obtain ⟨h1, h2, h3⟩ := rd_at h0 h
    have hoe := he e (List.mem_cons_self ..)
    obtain ⟨a, b, cc, d⟩ := hoe
    simp only [List.length_cons] at hk
    simp only [number_Counts.l0]
    rw [if_pos h1, if_pos h0, h2]
    have hr := fun x hx => he x (List.mem_cons_of_mem _ hx)
    by_cases hp : e.f0 > 0
    · rw [if_pos hp, if_pos b, if_pos cc, if_pos d]
      obtain ⟨c2, g1, g2, _⟩ := addL_some c e.f0 e.f1 hc a b cc d
      have hs : stepC c e = c2 := by unfold stepC; rw [if_pos hp, g1]; rfl
      rw [g1]
      simp only [Option.bind_some]
      rw [Counts_l r l (i + 1) c2 k (by omega) g2 h3 hr (by omega)]
      simp [hs]
    · rw [if_neg hp, Counts_l r l (i + 1) c k (by omega) hc h3 hr (by omega)]
      have hs : stepC c e = c := by unfold stepC; rw [if_neg hp]
      simp [hs]
def segL (c : List Int) (li : Int) : List Int := (c.drop (li.toNat * 4)).take 4
theorem segL_len {c : List Int} (hc : c.length = 36) {li : Int} (h0 : 0 ≤ li) (h8 : li ≤ 8) : (segL c li).length = 4 := by
  unfold segL; rw [List.length_take, List.length_drop]; omega
theorem segL_rd {c : List Int} {li : Int} (j : Int) (j0 : 0 ≤ j) (j3 : j ≤ 3) : rd (segL c li) j = seg c li j := by
  unfold segL rd seg
  have hj : j.toNat < 4 := by omega
  simp [List.getD, List.getElem?_take, hj]
theorem Counts_ok (l : List S36) (hl : l.length ≤ 3999) (he : ∀ e ∈ l, Ok e) (li : Int) (l1 : 1 ≤ li) (l8 : li ≤ 8) (k : Nat) (hk : 4100 ≤ k) : number_Counts.f k l li = some (segL (l.foldl stepC cs0) li, 0) := by
  unfold number_Counts.f
  rw [wrong_ok l hl he k hk]
  simp only [Option.bind_some, if_true]
  rw [if_neg (by omega), if_neg (by omega)]
  have := Counts_l l l 0 cs0 k (by omega) rfl rfl he (by omega)
  unfold cs0 at this
  rw [this]
  rfl

theorem wrong_none (l : List S36) (e : Int) (he : e ≠ 0) (k : Nat) (h : number_wrong.f k l = some e) (a : Int) : number_Labels.f k l = some ([], e) ∧ number_Counts.f k l a = some ([], e) := by
  unfold number_Labels.f number_Counts.f
  rw [h]
  simp only [Option.bind_some]
  rw [if_neg he, if_neg he]
  exact ⟨rfl, rfl⟩
theorem both_l : ∀ (r : List S36) (l : List S36) (i : Int) (k : Nat), 0 ≤ i → l.length ≤ 4100 → l.drop i.toNat = r → r.length < k → ∃ e, number_wrong.l0 k l (l.length : Int) i = some e ∧ quireref04_Check.l0 k l i = some e ∧ (e = 0 → ∀ x ∈ r, Ok x)
  | [], l, i, k, h0, hl, h, hk => by
    obtain ⟨k, rfl⟩ : ∃ m, k = m + 1 := ⟨k - 1, by omega⟩
    simp only [number_wrong.l0, quireref04_Check.l0]
    rw [if_neg (rd_end h0 h), if_neg (rd_end h0 h)]
    exact ⟨0, rfl, rfl, fun _ e he => by cases he⟩
  | e :: r, l, i, k, h0, hl, h, hk => by
    obtain ⟨k, rfl⟩ : ∃ m, k = m + 1 := ⟨k - 1, by omega⟩
    obtain ⟨h1, h2, h3⟩ := rd_at h0 h
    simp only [List.length_cons] at hk
    have hw : wrap64 (i + 1) = i + 1 := by unfold wrap64; omega
    simp only [number_wrong.l0, quireref04_Check.l0]
    rw [if_pos h1, if_pos h0, if_pos h1, h2, if_pos h1, if_pos h0]
    by_cases a : e.f0 < 0
    · rw [if_pos a, if_pos a]; exact ⟨2, rfl, rfl, fun h => by cases h⟩
    · rw [if_neg a, if_neg a]
      by_cases b : e.f0 > 8
      · rw [if_pos b, if_pos b]; exact ⟨2, rfl, rfl, fun h => by cases h⟩
      · rw [if_neg b, if_neg b]
        by_cases c : e.f1 < 0
        · rw [if_pos c, if_pos c]; exact ⟨2, rfl, rfl, fun h => by cases h⟩
        · rw [if_neg c, if_neg c]
          by_cases d : e.f1 > 3
          · rw [if_pos d, if_pos d]; exact ⟨2, rfl, rfl, fun h => by cases h⟩
          · rw [if_neg d, if_neg d, hw]
            obtain ⟨q, g1, g2, g3⟩ := both_l r l (i + 1) k (by omega) hl h3 (by omega)
            refine ⟨q, g1, g2, fun hb x hx => ?_⟩
            rcases List.mem_cons.1 hx with rfl | hx
            · exact ⟨by omega, by omega, by omega, by omega⟩
            · exact g3 hb x hx
theorem both (l : List S36) (hl : l.length ≤ 4100) (k : Nat) (hk : 4200 ≤ k) : ∃ e, number_wrong.f k l = some e ∧ quireref04_Check.f k l = some e ∧ (e = 0 → l.length ≤ 3999 ∧ ∀ x ∈ l, Ok x) := by
  unfold number_wrong.f quireref04_Check.f
  by_cases h : (l.length : Int) > 3999
  · rw [if_pos h, if_pos h]; exact ⟨3, rfl, rfl, fun h => by cases h⟩
  · rw [if_neg h, if_neg h]
    obtain ⟨e, g1, g2, g3⟩ := both_l l l 0 k (by omega) hl rfl (by omega)
    exact ⟨e, g1, g2, fun h0 => ⟨by omega, g3 h0⟩⟩
theorem rLabels_l : ∀ (r : List S36) (l : List S36) (i : Int) (c : List Int) (B : Int) (out : List ByteArray) (k : Nat), 0 ≤ i → Bd B c → 0 ≤ B → B + r.length ≤ 3999 → l.drop i.toNat = r → (∀ e ∈ r, Ok e) → out.length + r.length ≤ 3999 → r.length + 4200 < k → quireref04_Labels.l0 k l i c out = some (out ++ labs c r)
  | [], l, i, c, B, out, k, h0, hc, hB, hBr, h, _, ho, hk => by
    obtain ⟨k, rfl⟩ : ∃ m, k = m + 1 := ⟨k - 1, by omega⟩
    simp only [quireref04_Labels.l0]
    rw [if_neg (rd_end h0 h)]
    simp [labs]
  | e :: r, l, i, c, B, out, k, h0, hc, hB, hBr, h, he, ho, hk => by
    obtain ⟨k, rfl⟩ : ∃ m, k = m + 1 := ⟨k - 1, by omega⟩
    obtain ⟨h1, h2, h3⟩ := rd_at h0 h
    have hoe := he e (List.mem_cons_self ..)
    obtain ⟨a, b, cc, d⟩ := hoe
    simp only [List.length_cons] at ho hk hBr
    simp only [quireref04_Labels.l0]
    rw [if_pos h1, if_pos h0, if_pos (by omega), h2]
    have hr := fun x hx => he x (List.mem_cons_of_mem _ hx)
    have hst := hc.step ⟨hB, by omega⟩ ⟨a, b, cc, d⟩
    by_cases hz : e.f0 = 0
    · have hp : ¬ e.f0 > 0 := by omega
      have hs : stepC c e = c := by unfold stepC; rw [if_neg hp]
      rw [if_pos hz, rLabels_l r l (i + 1) c B _ k (by omega) hc hB (by omega) h3 hr (by simp; omega) (by omega)]
      simp [labs, hp, hs]
    · have hp : e.f0 > 0 := by omega
      rw [if_neg hz, if_pos a, if_pos b, if_pos cc, if_pos d]
      obtain ⟨c2, g1, g2, _⟩ := addL_some c e.f0 e.f1 hc.1 a b cc d
      have hs : stepC c e = c2 := by unfold stepC; rw [if_pos hp, g1]; rfl
      have hv : c2.getD (Cnt.place e.f0 e.f1) 0 = seg (stepC c e) e.f0 e.f1 := by rw [hs]; rfl
      have hn := stepC_same ⟨a, b, cc, d⟩ hc.1 hp e.f1 cc d
      rw [if_pos rfl] at hn
      have hb := hc.2 (e.f0.toNat * 4 + e.f1.toNat)
      have hw : wrap64 (seg c e.f0 e.f1 + 1) = seg c e.f0 e.f1 + 1 := by unfold wrap64 seg; omega
      rw [hw] at hn
      obtain ⟨lb, x1, x2, _⟩ := label_in e.f1 (seg (stepC c e) e.f0 e.f1) cc d (by rw [hn]; unfold seg; omega) (by rw [hn]; unfold seg; omega)
      have hlb : lb = labelOf e.f1 (seg (stepC c e) e.f0 e.f1) := by unfold labelOf; rw [x1 1 (Nat.le_refl _)]; rfl
      rw [g1]
      simp only [Option.bind_some]
      rw [hv, x2 k (by omega), hlb]
      simp only [Option.bind_some]
      rw [hs] at hst
      rw [rLabels_l r l (i + 1) c2 (B + 1) _ k (by omega) hst (by omega) (by omega) h3 hr (by simp; omega) (by omega)]
      simp [labs, hp, hs]
theorem rLabels_ok (l : List S36) (hl : l.length ≤ 3999) (he : ∀ e ∈ l, Ok e) (k : Nat) (hk : 9000 ≤ k) : quireref04_Labels.f k l = some (labs cs0 l) := by
  unfold quireref04_Labels.f
  rw [if_pos (by omega)]
  have := rLabels_l l l 0 cs0 0 [] k (by omega) Bd.zero (by omega) (by omega) rfl he (by simpa using hl) (by omega)
  unfold cs0 at this ⊢
  rw [this]
  rfl

/-! counts -/
theorem list4 {x y : List Int} (hx : x.length = 4) (hy : y.length = 4) (h : ∀ p, p < 4 → x.getD p 0 = y.getD p 0) : x = y := by
  apply List.ext_getElem (by omega)
  intro p h1 h2
  have := h p (by omega)
  simpa [List.getD, h1, h2] using this
theorem l1_go (l : List S36) (a i : Int) : ∀ (d : Nat) (m : Int) (s : List Int) (k : Nat), (4 - m).toNat = d → 0 ≤ m → m ≤ 4 → s.length = 4 → ∃ s2 : List Int, quireref04_Counts.l1 (k + d + 1) l a s i m = quireref04_Counts.l0 k l a s2 (wrap64 (i + 1)) ∧ s2.length = 4 ∧ ∀ p, p < 4 → s2.getD p 0 = if m.toNat ≤ p then 0 else s.getD p 0 := by
  intro d
  induction d with
  | zero =>
    intro m s k hd h0 h4 hs
    refine ⟨s, ?_, hs, fun p hp => by rw [if_neg (by omega)]⟩
    simp only [Nat.add_zero, quireref04_Counts.l1]
    rw [if_neg (by omega)]
  | succ d ih =>
    intro m s k hd h0 h4 hs
    have hw : wrap64 (m + 1) = m + 1 := by unfold wrap64; omega
    obtain ⟨s2, g1, g2, g3⟩ := ih (m + 1) (s.set m.toNat 0) k (by omega) (by omega) (by omega) (by simpa using hs)
    refine ⟨s2, ?_, g2, fun p hp => ?_⟩
    · show quireref04_Counts.l1 ((k + (d + 1)) + 1) l a s i m = _
      simp only [quireref04_Counts.l1]
      rw [if_pos (by omega), if_pos h0, if_pos (by omega), hw]
      rw [← g1]
      rfl
    · rw [g3 p hp, getD_set _ _ _ _ (by omega)]
      by_cases h : (m + 1).toNat ≤ p
      · rw [if_pos h, if_pos (by omega)]
      · rw [if_neg h]
        by_cases h2 : p = m.toNat
        · rw [if_pos h2, if_pos (by omega)]
        · rw [if_neg h2, if_neg (by omega)]
theorem rCounts_l (a : Int) (a1 : 1 ≤ a) (a8 : a ≤ 8) : ∀ (r : List S36) (l : List S36) (i : Int) (c : List Int) (k : Nat), 0 ≤ i → l.length ≤ 4000 → c.length = 36 → l.drop i.toNat = r → (∀ e ∈ r, Ok e) → r.length * 8 + 8 < k → quireref04_Counts.l0 k l a (segL c a) i = some (segL (r.foldl stepC c) a)
  | [], l, i, c, k, h0, hl, hc, h, _, hk => by
    obtain ⟨k, rfl⟩ : ∃ m, k = m + 1 := ⟨k - 1, by omega⟩
    simp only [quireref04_Counts.l0]
    rw [if_neg (rd_end h0 h)]
    rfl
  | e :: r, l, i, c, k, h0, hl, hc, h, he, hk => by
    obtain ⟨k, rfl⟩ : ∃ m, k = m + 1 := ⟨k - 1, by omega⟩
    obtain ⟨h1, h2, h3⟩ := rd_at h0 h
    have hoe := he e (List.mem_cons_self ..)
    obtain ⟨q1, q2, q3, q4⟩ := hoe
    simp only [List.length_cons] at hk
    have hw : wrap64 (i + 1) = i + 1 := by unfold wrap64; omega
    have hr := fun x hx => he x (List.mem_cons_of_mem _ hx)
    have hs4 := segL_len hc (by omega : 0 ≤ a) a8
    simp only [quireref04_Counts.l0]
    rw [if_pos h1, if_pos h0, h2]
    by_cases hp : e.f0 = a
    · rw [if_pos hp, if_pos q3, if_pos (by omega)]
      have hwf : wrap64 (e.f1 + 1) = e.f1 + 1 := by unfold wrap64; omega
      rw [hwf]
      obtain ⟨k2, hk2⟩ : ∃ k2, k = k2 + (4 - (e.f1 + 1)).toNat + 1 := ⟨k - (4 - (e.f1 + 1)).toNat - 1, by omega⟩
      obtain ⟨s2, g1, g2, g3⟩ := l1_go l a i (4 - (e.f1 + 1)).toNat (e.f1 + 1) ((segL c a).set e.f1.toNat (wrap64 (rd (segL c a) e.f1 + 1))) k2 rfl (by omega) (by omega) (by simpa using hs4)
      rw [hk2, g1, hw]
      have hs2 : s2 = segL (stepC c e) a := by
        have hl2 := segL_len (stepC_len ⟨q1, q2, q3, q4⟩ hc) (by omega : 0 ≤ a) a8
        refine list4 g2 hl2 (fun p hp4 => ?_)
        have hj0 : (0 : Int) ≤ (p : Int) := by omega
        have hj3 : (p : Int) ≤ 3 := by omega
        have e1 : (segL (stepC c e) a).getD p 0 = seg (stepC c e) a (p : Int) := segL_rd (p : Int) hj0 hj3
        have e2 : (segL c a).getD p 0 = seg c a (p : Int) := segL_rd (p : Int) hj0 hj3
        have e3 : rd (segL c a) e.f1 = seg c a e.f1 := segL_rd e.f1 q3 q4
        have e4 := stepC_same ⟨q1, q2, q3, q4⟩ hc (by omega) (p : Int) hj0 hj3
        rw [hp] at e4
        rw [e1, e4, g3 p hp4, getD_set _ _ _ _ (by omega), e2, e3]
        by_cases u : (p : Int) = e.f1
        · rw [if_neg (by omega), if_pos (by omega), if_pos u, u]
        · rw [if_neg u]
          by_cases v : (p : Int) > e.f1
          · rw [if_pos (by omega), if_pos v]
          · rw [if_neg (by omega), if_neg (by omega), if_neg v]
      rw [hs2]
      exact rCounts_l a a1 a8 r l (i + 1) (stepC c e) k2 (by omega) hl (stepC_len ⟨q1, q2, q3, q4⟩ hc) h3 hr (by omega)
    · rw [if_neg hp, hw]
      have hs2 : segL (stepC c e) a = segL c a := by
        have hl2 := segL_len (stepC_len ⟨q1, q2, q3, q4⟩ hc) (by omega : 0 ≤ a) a8
        refine list4 hl2 hs4 (fun p hp4 => ?_)
        have hj0 : (0 : Int) ≤ (p : Int) := by omega
        have hj3 : (p : Int) ≤ 3 := by omega
        have e1 : (segL (stepC c e) a).getD p 0 = seg (stepC c e) a (p : Int) := segL_rd (p : Int) hj0 hj3
        have e2 : (segL c a).getD p 0 = seg c a (p : Int) := segL_rd (p : Int) hj0 hj3
        rw [e1, e2, stepC_other ⟨q1, q2, q3, q4⟩ hc a (by omega) hp (p : Int) hj0 hj3]
      rw [← hs2]
      exact rCounts_l a a1 a8 r l (i + 1) (stepC c e) k (by omega) hl (stepC_len ⟨q1, q2, q3, q4⟩ hc) h3 hr (by omega)
theorem rCounts_ok (l : List S36) (hl : l.length ≤ 3999) (he : ∀ e ∈ l, Ok e) (a : Int) (a1 : 1 ≤ a) (a8 : a ≤ 8) (k : Nat) (hk : 33000 ≤ k) : quireref04_Counts.f k l a = some (segL (l.foldl stepC cs0) a) := by
  unfold quireref04_Counts.f
  have h0 : segL cs0 a = ([0, 0, 0, 0] : List Int) := by
    refine list4 (segL_len rfl (by omega) a8) rfl (fun p hp => ?_)
    have e1 : (segL cs0 a).getD p 0 = seg cs0 a (p : Int) := segL_rd (p : Int) (by omega) (by omega)
    rw [e1]
    have : seg cs0 a (p : Int) = 0 := rep0 36 _
    rw [this]
    have hq : p = 0 ∨ p = 1 ∨ p = 2 ∨ p = 3 := by omega
    rcases hq with rfl | rfl | rfl | rfl <;> rfl
  rw [← h0]
  exact rCounts_l a a1 a8 l l 0 cs0 k (by omega) (by omega) rfl rfl he (by omega)

theorem sameTexts (X : List ByteArray) (hX : X.length ≤ 100000) : ∀ (d : Nat) (i : Int) (k : Nat), ((X.length : Int) - i).toNat = d → 0 ≤ i → d < k → quirekit_SameTexts.l0 k X X i = some true := by
  intro d
  induction d with
  | zero =>
    intro i k hd h0 hk
    obtain ⟨k, rfl⟩ : ∃ m, k = m + 1 := ⟨k - 1, by omega⟩
    simp only [quirekit_SameTexts.l0]
    rw [if_neg (by omega)]
  | succ d ih =>
    intro i k hd h0 hk
    obtain ⟨k, rfl⟩ : ∃ m, k = m + 1 := ⟨k - 1, by omega⟩
    have hw : wrap64 (i + 1) = i + 1 := by unfold wrap64; omega
    simp only [quirekit_SameTexts.l0]
    rw [if_pos (by omega), if_pos h0, if_pos (by omega), if_pos trivial, hw]
    exact ih (i + 1) k (by omega) (by omega) (by omega)
theorem sameTexts_ok (X : List ByteArray) (hX : X.length ≤ 4000) (k : Nat) (hk : 5000 ≤ k) : quirekit_SameTexts.f k X X = some true := by
  unfold quirekit_SameTexts.f
  rw [if_pos rfl]
  exact sameTexts X (by omega) X.length 0 k (by omega) (by omega) (by omega)
theorem sameInts (X : List Int) (hX : X.length ≤ 100000) : ∀ (d : Nat) (i : Int) (k : Nat), ((X.length : Int) - i).toNat = d → 0 ≤ i → d < k → quirekit_SameInts.l0 k X X i = some true := by
  intro d
  induction d with
  | zero =>
    intro i k hd h0 hk
    obtain ⟨k, rfl⟩ : ∃ m, k = m + 1 := ⟨k - 1, by omega⟩
    simp only [quirekit_SameInts.l0]
    rw [if_neg (by omega)]
  | succ d ih =>
    intro i k hd h0 hk
    obtain ⟨k, rfl⟩ : ∃ m, k = m + 1 := ⟨k - 1, by omega⟩
    have hw : wrap64 (i + 1) = i + 1 := by unfold wrap64; omega
    simp only [quirekit_SameInts.l0]
    rw [if_pos (by omega), if_pos h0, if_pos (by omega), if_pos trivial, hw]
    exact ih (i + 1) k (by omega) (by omega) (by omega)
theorem sameInts_ok (X : List Int) (hX : X.length ≤ 4000) (k : Nat) (hk : 5000 ≤ k) : quirekit_SameInts.f k X X = some true := by
  unfold quirekit_SameInts.f
  rw [if_pos rfl]
  exact sameInts X (by omega) X.length 0 k (by omega) (by omega) (by omega)
/-- What is handed in reads as before: on to the end. -/
theorem same_loop (l : List S36) (hl : l.length ≤ 4100) (a : Int) (X : List ByteArray) (e : Int) (Y : List Int) (f g : Int) (R : Bool)
    (hfin : ∀ k, 40000 ≤ k → ∀ i : Int, ¬ i < (l.length : Int) → quirelaw04_NumberLabels.l0 k l a l X e Y f g i = some R) :
    ∀ (d : Nat) (i : Int) (k : Nat), ((l.length : Int) - i).toNat = d → 0 ≤ i → 40000 + d ≤ k → quirelaw04_NumberLabels.l0 k l a l X e Y f g i = some R := by
  intro d
  induction d with
  | zero =>
    intro i k hd h0 hk
    exact hfin k (by omega) i (by omega)
  | succ d ih =>
    intro i k hd h0 hk
    obtain ⟨k, rfl⟩ : ∃ m, k = m + 1 := ⟨k - 1, by omega⟩
    have hw : wrap64 (i + 1) = i + 1 := by unfold wrap64; omega
    simp only [quirelaw04_NumberLabels.l0]
    rw [if_pos (by omega), if_pos h0, if_pos (by omega), if_neg (by simp), hw]
    exact ih (i + 1) k (by omega) (by omega) (by omega)
theorem fin_err (l : List S36) (a e : Int) (he : e ≠ 0) (k : Nat) (hk : 1 ≤ k) (i : Int) (hi : ¬ i < (l.length : Int)) : quirelaw04_NumberLabels.l0 k l a l [] e [] e e i = some true := by
  obtain ⟨k, rfl⟩ : ∃ m, k = m + 1 := ⟨k - 1, by omega⟩
  simp only [quirelaw04_NumberLabels.l0]
  rw [if_neg hi, if_neg he]
  simp
theorem fin_good (l : List S36) (a : Int) (hl : l.length ≤ 3999) (ho : ∀ e ∈ l, Ok e) (Y : List Int) (f : Int) (hC : ∀ k, 4200 ≤ k → number_Counts.f k l a = some (Y, f)) (k : Nat) (hk : 40000 ≤ k) (i : Int) (hi : ¬ i < (l.length : Int)) : quirelaw04_NumberLabels.l0 k l a l (labs cs0 l) 0 Y f 0 i = some true := by
  obtain ⟨k, rfl⟩ : ∃ m, k = m + 3 := ⟨k - 3, by omega⟩
  show quirelaw04_NumberLabels.l0 ((k + 2) + 1) l a l (labs cs0 l) 0 Y f 0 i = some true
  simp only [quirelaw04_NumberLabels.l0]
  rw [if_neg hi, if_pos trivial, rLabels_ok l hl ho (k + 2) (by omega)]
  simp only [Option.bind_some]
  rw [sameTexts_ok (labs cs0 l) (by rw [labs_len]; omega) (k + 2) (by omega)]
  simp only [Option.bind_some, if_true]
  rw [show ((0 : Int) != 0) = false from rfl]
  show quirelaw04_NumberLabels.j2 ((k + 1) + 1) l a Y f false = some true
  simp only [quirelaw04_NumberLabels.j2]
  rw [if_neg Bool.false_ne_true]
  have hc := hC 5000 (by omega)
  have hwr := wrong_ok l hl ho 5000 (by omega)
  by_cases d1 : a < 1
  · rw [if_pos d1]
    unfold number_Counts.f at hc
    rw [hwr] at hc
    simp only [Option.bind_some, if_true] at hc
    rw [if_pos d1] at hc
    cases hc
    simp only [quirelaw04_NumberLabels.j3]
    simp
  · rw [if_neg d1]
    by_cases d8 : a > 8
    · rw [decide_eq_true d8]
      unfold number_Counts.f at hc
      rw [hwr] at hc
      simp only [Option.bind_some, if_true] at hc
      rw [if_neg d1, if_pos d8] at hc
      cases hc
      simp only [quirelaw04_NumberLabels.j3]
      simp
    · rw [decide_eq_false d8]
      rw [Counts_ok l hl ho a (by omega) (by omega) 5000 (by omega)] at hc
      cases hc
      simp only [quirelaw04_NumberLabels.j3]
      rw [if_neg Bool.false_ne_true, rCounts_ok l hl ho a (by omega) (by omega) k (by omega)]
      simp only [Option.bind_some]
      rw [sameInts_ok _ (by rw [segL_len (fold_len l cs0 rfl ho) (by omega) (by omega)]; omega) k (by omega)]
      rfl
theorem j0_trueL (k : Nat) (l : List S36) (a : Int) (hk : 1 ≤ k) : quirelaw04_NumberLabels.j0 k l a true = some true := by
  obtain ⟨k, rfl⟩ : ∃ m, k = m + 1 := ⟨k - 1, by omega⟩
  simp only [quirelaw04_NumberLabels.j0]
  rfl
theorem counts_some (l : List S36) (hl : l.length ≤ 3999) (ho : ∀ e ∈ l, Ok e) (a : Int) : ∃ Y f, ∀ k, 4200 ≤ k → number_Counts.f k l a = some (Y, f) := by
  by_cases d : 1 ≤ a ∧ a ≤ 8
  · exact ⟨_, _, fun k hk => Counts_ok l hl ho a d.1 d.2 k (by omega)⟩
  · refine ⟨[], 2, fun k hk => ?_⟩
    unfold number_Counts.f
    rw [wrong_ok l hl ho k (by omega)]
    simp only [Option.bind_some, if_true]
    by_cases d1 : a < 1
    · rw [if_pos d1]
    · rw [if_neg d1, if_pos (by omega)]
theorem j0_goL (k : Nat) (hk : 50000 ≤ k) (l : List S36) (hl : l.length ≤ 4100) (a : Int) : quirelaw04_NumberLabels.j0 k l a false = some true := by
  obtain ⟨k, rfl⟩ : ∃ m, k = m + 1 := ⟨k - 1, by omega⟩
  obtain ⟨e, g1, g2, g3⟩ := both l hl k (by omega)
  simp only [quirelaw04_NumberLabels.j0]
  rw [if_neg Bool.false_ne_true]
  simp only [Option.bind_some, List.nil_append]
  rw [if_pos (by simp; omega)]
  try simp only [Option.bind_some]
  by_cases h0 : e = 0
  · subst h0
    obtain ⟨hl2, ho⟩ := g3 rfl
    obtain ⟨Y, f, hC⟩ := counts_some l hl2 ho a
    rw [Labels_ok l hl2 ho k (by omega), hC k (by omega), g2]
    simp only [Option.bind_some]
    exact same_loop l hl a (labs cs0 l) 0 Y f 0 true (fun k hk i hi => fin_good l a hl2 ho Y f hC k hk i hi) l.length 0 k (by omega) (by omega) (by omega)
  · obtain ⟨w1, w2⟩ := wrong_none l e h0 k g1 a
    rw [w1, w2, g2]
    simp only [Option.bind_some]
    exact same_loop l hl a [] e [] e e true (fun k hk i hi => fin_err l a e h0 k (by omega) i hi) l.length 0 k (by omega) (by omega) (by omega)
theorem law_at (k : Nat) (hk : 50000 ≤ k) (l : List S36) (a : Int) : quirelaw04_NumberLabels.f k l a = some true := by
  unfold quirelaw04_NumberLabels.f
  by_cases h2 : (l.length : Int) > 200
  · rw [if_pos h2]
    by_cases h3 : (l.length : Int) < 3990
    · rw [if_pos h3]; exact j0_trueL k l a (by omega)
    · rw [if_neg h3]
      by_cases h4 : (l.length : Int) > 4010
      · rw [decide_eq_true h4]; exact j0_trueL k l a (by omega)
      · rw [decide_eq_false h4]; exact j0_goL k hk l (by omega) a
  · rw [if_neg h2, decide_eq_false (by omega : ¬ (l.length : Int) > 4010)]
    exact j0_goL k hk l (by omega) a
theorem NumberLabels (l : List S36) (a : Int) : ∃ k, quirelaw04_NumberLabels.f k l a = some true := ⟨50000, law_at 50000 (Nat.le_refl _) l a⟩
end Go.Proofs.YtkemkpmcgeeieaaDoor.Pure
