/- Plain facts on counts of lists and on lists of labels: what number.Counts and number.Labels come to over entries that may be, and how one entry more changes the counts. -/
import Derived.Test.YtkemkpmcgeeieaaDoorPureLabelE
namespace Go.Proofs.YtkemkpmcgeeieaaDoor.PureCnt
open Go Go.RowKit Go.Proofs.YtkemkpmcgeeieaaDoor.PNumberLabels Go.Proofs.YtkemkpmcgeeieaaDoorW.PrintWords Go.Proofs.YtkemkpmcgeeieaaDoorW.PrintLast Go.Proofs.YtkemkpmcgeeieaaDoor Go.Proofs.YtkemkpmcgeeieaaDoor.PureLabel
set_option linter.unusedVariables false
set_option linter.unusedSimpArgs false

theorem getD_set (c : List Int) (q p : Nat) (x : Int) (hq : q < c.length) : (c.set q x).getD p 0 = if p = q then x else c.getD p 0 := by
  simp only [List.getD, List.getElem?_set]
  by_cases h : q = p
  · subst h; simp [hq]
  · rw [if_neg h, if_neg (fun e => h e.symm)]
theorem zeroL_some : ∀ (n : Nat) (c : List Int) (b : Nat) (k : Int), 0 ≤ k → k ≤ 4 → (4 - k).toNat < n → b + 4 ≤ c.length → ∃ c2, Cnt.zeroL n c b k = some c2 ∧ c2.length = c.length ∧ ∀ p, c2.getD p 0 = if b + k.toNat ≤ p ∧ p < b + 4 then 0 else c.getD p 0
  | 0, _, _, _, _, _, h, _ => absurd h (by omega)
  | n + 1, c, b, k, h0, h4, hn, hb => by
    simp only [Cnt.zeroL]
    by_cases hk : k < 4
    · rw [if_pos hk]
      obtain ⟨c2, e, hl, hp⟩ := zeroL_some n (c.set (b + k.toNat) 0) b (k + 1) (by omega) (by omega) (by omega) (by simpa using hb)
      refine ⟨c2, e, by simpa using hl, fun p => ?_⟩
      rw [hp p, getD_set _ _ _ _ (by omega)]
      by_cases hpq : p = b + k.toNat
      · rw [if_pos hpq, if_pos (by omega : b + k.toNat ≤ p ∧ p < b + 4)]
        split <;> rfl
      · rw [if_neg hpq]
        by_cases hr : b + (k + 1).toNat ≤ p ∧ p < b + 4
        · rw [if_pos hr, if_pos (by omega)]
        · rw [if_neg hr, if_neg (by omega)]
    · rw [if_neg hk]
      exact ⟨c, rfl, rfl, fun p => by rw [if_neg (by omega)]⟩
theorem addL_some (c : List Int) (li lv : Int) (hl : c.length = 36) (h0 : 0 ≤ li) (h8 : li ≤ 8) (v0 : 0 ≤ lv) (v3 : lv ≤ 3) :
    ∃ c2, Cnt.addL c li lv = some c2 ∧ c2.length = 36 ∧ ∀ p, c2.getD p 0 = if p = li.toNat * 4 + lv.toNat then wrap64 (c.getD (li.toNat * 4 + lv.toNat) 0 + 1) else if li.toNat * 4 + lv.toNat < p ∧ p < li.toNat * 4 + 4 then 0 else c.getD p 0 := by
  obtain ⟨c2, e, hl2, hp⟩ := zeroL_some 5 (c.set (Cnt.place li lv) (Cnt.valL c li lv)) (li.toNat * 4) (lv + 1) (by omega) (by omega) (by omega) (by simp; omega)
  refine ⟨c2, e, by simpa [hl] using hl2, fun p => ?_⟩
  rw [hp p, getD_set _ _ _ _ (by unfold Cnt.place; omega)]
  unfold Cnt.place Cnt.valL Cnt.place
  by_cases h1 : p = li.toNat * 4 + lv.toNat
  · rw [if_pos h1, if_pos h1, if_neg (by omega)]
  · rw [if_neg h1, if_neg h1]
    by_cases h2 : li.toNat * 4 + lv.toNat < p ∧ p < li.toNat * 4 + 4
    · rw [if_pos h2, if_pos (by omega)]
    · rw [if_neg h2, if_neg (by omega)]

def Ok (e : S36) : Prop := 0 ≤ e.f0 ∧ e.f0 ≤ 8 ∧ 0 ≤ e.f1 ∧ e.f1 ≤ 3
def cs0 : List Int := List.replicate 36 0
def seg (c : List Int) (li j : Int) : Int := c.getD (li.toNat * 4 + j.toNat) 0
def stepC (c : List Int) (e : S36) : List Int := if e.f0 > 0 then (Cnt.addL c e.f0 e.f1).getD c else c
theorem stepC_len {c : List Int} {e : S36} (he : Ok e) (hl : c.length = 36) : (stepC c e).length = 36 := by
  unfold stepC
  split
  · obtain ⟨c2, h, h2, _⟩ := addL_some c e.f0 e.f1 hl he.1 he.2.1 he.2.2.1 he.2.2.2
    rw [h]; exact h2
  · exact hl
theorem stepC_same {c : List Int} {e : S36} (he : Ok e) (hl : c.length = 36) (hp : e.f0 > 0) (j : Int) (j0 : 0 ≤ j) (j3 : j ≤ 3) :
    seg (stepC c e) e.f0 j = if j = e.f1 then wrap64 (seg c e.f0 j + 1) else if j > e.f1 then 0 else seg c e.f0 j := by
  obtain ⟨c2, h, _, hq⟩ := addL_some c e.f0 e.f1 hl he.1 he.2.1 he.2.2.1 he.2.2.2
  obtain ⟨h1, h2, h3, h4⟩ := he
  unfold stepC seg
  rw [if_pos hp, h]
  show c2.getD _ 0 = _
  rw [hq]
  by_cases ej : j = e.f1
  · subst ej; rw [if_pos rfl, if_pos rfl]
  · rw [if_neg (by omega), if_neg ej]
    by_cases gj : j > e.f1
    · rw [if_pos gj, if_pos (by omega)]
    · rw [if_neg gj, if_neg (by omega)]
theorem stepC_other {c : List Int} {e : S36} (he : Ok e) (hl : c.length = 36) (li : Int) (l0 : 0 ≤ li) (hne : e.f0 ≠ li) (j : Int) (j0 : 0 ≤ j) (j3 : j ≤ 3) :
    seg (stepC c e) li j = seg c li j := by
  unfold stepC
  split
  · obtain ⟨c2, h, _, hq⟩ := addL_some c e.f0 e.f1 hl he.1 he.2.1 he.2.2.1 he.2.2.2
    obtain ⟨h1, h2, h3, h4⟩ := he
    unfold seg
    rw [h]
    show c2.getD _ 0 = _
    rw [hq, if_neg (by omega), if_neg (by omega)]
  · rfl
def Bd (B : Int) (c : List Int) : Prop := c.length = 36 ∧ ∀ p, 0 ≤ c.getD p 0 ∧ c.getD p 0 ≤ B
theorem rep0 (n p : Nat) : (List.replicate n (0 : Int)).getD p 0 = 0 := by
  simp only [List.getD, List.getElem?_replicate]
  split <;> rfl
theorem Bd.zero : Bd 0 cs0 := ⟨rfl, fun p => by
  have : cs0.getD p 0 = 0 := rep0 36 p
  rw [this]; omega⟩
theorem Bd.step {B : Int} {c : List Int} (h : Bd B c) (hB : 0 ≤ B ∧ B ≤ 100000) {e : S36} (he : Ok e) : Bd (B + 1) (stepC c e) := by
  refine ⟨stepC_len he h.1, fun p => ?_⟩
  unfold stepC
  split
  · obtain ⟨c2, h1, _, hq⟩ := addL_some c e.f0 e.f1 h.1 he.1 he.2.1 he.2.2.1 he.2.2.2
    rw [h1]
    show 0 ≤ c2.getD p 0 ∧ c2.getD p 0 ≤ B + 1
    rw [hq p]
    have a := h.2 p
    have b := h.2 (e.f0.toNat * 4 + e.f1.toNat)
    have hw : wrap64 (c.getD (e.f0.toNat * 4 + e.f1.toNat) 0 + 1) = c.getD (e.f0.toNat * 4 + e.f1.toNat) 0 + 1 := by unfold wrap64; omega
    rw [hw]
    split
    · omega
    · split <;> omega
  · have a := h.2 p
    omega
theorem Bd.all : ∀ (l : List S36) (B : Int) (c : List Int), Bd B c → 0 ≤ B → B + l.length ≤ 100000 → (∀ e ∈ l, Ok e) → Bd (B + l.length) (l.foldl stepC c)
  | [], B, c, h, _, _, _ => by simpa using h
  | e :: r, B, c, h, h0, h1, he => by
    simp only [List.length_cons] at h1
    have := Bd.all r (B + 1) (stepC c e) (h.step ⟨h0, by omega⟩ (he e (List.mem_cons_self ..))) (by omega) (by omega) (fun x hx => he x (List.mem_cons_of_mem _ hx))
    simp only [List.foldl_cons, List.length_cons]
    have e1 : B + ((r.length + 1 : Nat) : Int) = B + 1 + (r.length : Int) := by omega
    rw [e1]; exact this
theorem fold_len : ∀ (l : List S36) (c : List Int), c.length = 36 → (∀ e ∈ l, Ok e) → (l.foldl stepC c).length = 36
  | [], c, h, _ => h
  | e :: r, c, h, he => fold_len r (stepC c e) (stepC_len (he e (List.mem_cons_self ..)) h) (fun x hx => he x (List.mem_cons_of_mem _ hx))

/-! labels of a list -/
def labelOf (lv n : Int) : ByteArray := ((number_Label.f 1 lv n).getD ((⟨#[]⟩ : ByteArray), 0)).1
theorem label_any (lv n : Int) (v0 : 0 ≤ lv) (v3 : lv ≤ 3) (k : Nat) (hk : 1 ≤ k) : ∃ e, number_Label.f k lv n = some (labelOf lv n, e) := by
  by_cases hn : 1 ≤ n ∧ n ≤ 3999
  · obtain ⟨b, h, _⟩ := label_in lv n v0 v3 hn.1 hn.2
    refine ⟨0, ?_⟩
    unfold labelOf
    rw [h 1 (Nat.le_refl _)]
    exact h k hk
  · refine ⟨5, ?_⟩
    unfold labelOf
    rw [(label_range lv n v0 v3 (by omega) 1 (Nat.le_refl _)).1]
    exact (label_range lv n v0 v3 (by omega) k hk).1
theorem label_good (lv n : Int) (v0 : 0 ≤ lv) (v3 : lv ≤ 3) (n1 : 1 ≤ n) (n2 : n ≤ 3999) (k : Nat) (hk : 1 ≤ k) : number_Label.f k lv n = some (labelOf lv n, 0) := by
  obtain ⟨b, h, _⟩ := label_in lv n v0 v3 n1 n2
  unfold labelOf
  rw [h 1 (Nat.le_refl _)]
  exact h k hk
def labs : List Int → List S36 → List ByteArray
  | _, [] => []
  | c, e :: r => (if e.f0 > 0 then labelOf e.f1 (seg (stepC c e) e.f0 e.f1) else (⟨#[]⟩ : ByteArray)) :: labs (stepC c e) r
theorem labs_len : ∀ (l : List S36) (c : List Int), (labs c l).length = l.length
  | [], _ => rfl
  | e :: r, c => by simp [labs, labs_len r]
theorem labs_app : ∀ (l : List S36) (c : List Int) (r : List S36), labs c (l ++ r) = labs c l ++ labs (l.foldl stepC c) r
  | [], _, _ => rfl
  | e :: l, c, r => by simp [labs, labs_app l]
theorem rd_at {l r : List S36} {e : S36} {i : Int} (h0 : 0 ≤ i) (h : l.drop i.toNat = e :: r) : i < (l.length : Int) ∧ rd_T36 l i = e ∧ l.drop (i + 1).toNat = r := by
  have hlt : i.toNat < l.length := by
    rcases Nat.lt_or_ge i.toNat l.length with c | c
    · exact c
    · rw [List.drop_of_length_le c] at h; cases h
  have hg : l[i.toNat] :: l.drop (i.toNat + 1) = e :: r := by rw [← h]; exact List.getElem_cons_drop ..
  injection hg with h1 h2
  refine ⟨by omega, ?_, ?_⟩
  · unfold rd_T36; simp [List.getD, hlt, h1]
  · rw [show (i + 1).toNat = i.toNat + 1 by omega]; exact h2
theorem rd_end {l : List S36} {i : Int} (h0 : 0 ≤ i) (h : l.drop i.toNat = []) : ¬ i < (l.length : Int) := by
  have := List.drop_eq_nil_iff.1 h
  omega
theorem wrong_l : ∀ (r : List S36) (l : List S36) (i : Int) (k : Nat), 0 ≤ i → l.length ≤ 4000 → l.drop i.toNat = r → (∀ e ∈ r, Ok e) → r.length < k → number_wrong.l0 k l (l.length : Int) i = some 0
  | [], l, i, k, h0, hl, h, _, hk => by
    obtain ⟨k, rfl⟩ : ∃ m, k = m + 1 := ⟨k - 1, by omega⟩
    simp only [number_wrong.l0]
    rw [if_neg (rd_end h0 h)]
  | e :: r, l, i, k, h0, hl, h, he, hk => by
    obtain ⟨k, rfl⟩ : ∃ m, k = m + 1 := ⟨k - 1, by omega⟩
    obtain ⟨h1, h2, h3⟩ := rd_at h0 h
    obtain ⟨a, b, c, d⟩ := he e (List.mem_cons_self ..)
    have hw : wrap64 (i + 1) = i + 1 := by unfold wrap64; omega
    simp only [number_wrong.l0]
    rw [if_pos h1, if_pos h0, if_pos h1, h2, if_neg (by omega), if_neg (by omega), if_neg (by omega), if_neg (by omega), hw]
    exact wrong_l r l (i + 1) k (by omega) hl h3 (fun x hx => he x (List.mem_cons_of_mem _ hx)) (by simp only [List.length_cons] at hk; omega)
theorem wrong_ok (l : List S36) (hl : l.length ≤ 3999) (he : ∀ e ∈ l, Ok e) (k : Nat) (hk : 4100 ≤ k) : number_wrong.f k l = some 0 := by
  unfold number_wrong.f
  rw [if_neg (by omega)]
  exact wrong_l l l 0 k (by omega) (by omega) rfl he (by omega)
theorem Labels_l : ∀ (r : List S36) (l : List S36) (i : Int) (c : List Int) (out : List ByteArray) (k : Nat), 0 ≤ i → c.length = 36 → l.drop i.toNat = r → (∀ e ∈ r, Ok e) → out.length + r.length ≤ 3999 → r.length + 1 < k → number_Labels.l0 k l i c out = some (out ++ labs c r)
  | [], l, i, c, out, k, h0, hc, h, _, ho, hk => by
    obtain ⟨k, rfl⟩ : ∃ m, k = m + 1 := ⟨k - 1, by omega⟩
    simp only [number_Labels.l0]
    rw [if_neg (rd_end h0 h)]
    simp [labs]
  | e :: r, l, i, c, out, k, h0, hc, h, he, ho, hk => by
    obtain ⟨k, rfl⟩ : ∃ m, k = m + 1 := ⟨k - 1, by omega⟩
    obtain ⟨h1, h2, h3⟩ := rd_at h0 h
    have hoe := he e (List.mem_cons_self ..)
    obtain ⟨a, b, cc, d⟩ := hoe
    simp only [List.length_cons] at ho hk
    simp only [number_Labels.l0]
    rw [if_pos h1, if_pos h0, if_pos (by omega), h2]
    have hr := fun x hx => he x (List.mem_cons_of_mem _ hx)
    by_cases hp : e.f0 > 0
    · rw [if_pos hp, if_pos b, if_pos cc, if_pos d]
      obtain ⟨c2, g1, g2, _⟩ := addL_some c e.f0 e.f1 hc a b cc d
      have hs : stepC c e = c2 := by unfold stepC; rw [if_pos hp, g1]; rfl
      obtain ⟨er, g3⟩ := label_any e.f1 (seg (stepC c e) e.f0 e.f1) cc d k (by omega)
      have hv : c2.getD (Cnt.place e.f0 e.f1) 0 = seg (stepC c e) e.f0 e.f1 := by rw [hs]; rfl
      rw [g1]
      simp only [Option.bind_some]
      rw [hv, g3]
      simp only [Option.bind_some]
      rw [Labels_l r l (i + 1) c2 _ k (by omega) g2 h3 hr (by simp; omega) (by omega)]
      simp [labs, hp, hs]
    · rw [if_neg hp, Labels_l r l (i + 1) c _ k (by omega) hc h3 hr (by simp; omega) (by omega)]
      have hs : stepC c e = c := by unfold stepC; rw [if_neg hp]
      simp [labs, hp, hs]
theorem Labels_ok (l : List S36) (hl : l.length ≤ 3999) (he : ∀ e ∈ l, Ok e) (k : Nat) (hk : 4100 ≤ k) : number_Labels.f k l = some (labs cs0 l, 0) := by
  unfold number_Labels.f
  rw [wrong_ok l hl he k hk]
  simp only [Option.bind_some, if_true]
  have := Labels_l l l 0 cs0 [] k (by omega) rfl rfl he (by simpa using hl) (by omega)
  unfold cs0 at this
  rw [this]
  simp [cs0]
end Go.Proofs.YtkemkpmcgeeieaaDoor.PureCnt
