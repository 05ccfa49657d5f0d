/- The plain law of NumberCounts: behind one paragraph more of a list its level's count is one more, lesser levels are as they were, higher ones 0; and its label is that count's. No condition. -/
import Derived.Test.YtkemkpmcgeeieaaDoorPureCntC
namespace Go.Proofs.YtkemkpmcgeeieaaDoor.Pure
open Go Go.RowKit Go.Proofs.YtkemkpmcgeeieaaDoor.PNumberCounts Go.Proofs.YtkemkpmcgeeieaaDoorW.PrintWords Go.Proofs.YtkemkpmcgeeieaaDoorW.PrintLast Go.Proofs.YtkemkpmcgeeieaaDoor Go.Proofs.YtkemkpmcgeeieaaDoor.PureLabel Go.Proofs.YtkemkpmcgeeieaaDoor.PureCnt
set_option linter.unusedVariables false
set_option linter.unusedSimpArgs false
set_option maxRecDepth 1000000 in
theorem awake300C : quirelaw04_awake.f 300 = some true := by decide +kernel
theorem awake_atC (k : Nat) (hk : 300 ≤ k) : quirelaw04_awake.f k = some true := leO_le (f := fun k => quirelaw04_awake.f k) (fun k => quirelaw04_awake.mono k) awake300C hk
theorem Counts_l : ∀ (r : List S36) (l : List S36) (i : Int) (c : List Int) (k : Nat), 0 ≤ i → c.length = 36 → l.drop i.toNat = r → (∀ e ∈ r, Ok e) → r.length < k → number_Counts.l0 k l i c = some (r.foldl stepC c)
  | [], l, i, c, k, h0, hc, h, _, hk => by
    obtain ⟨k, rfl⟩ : ∃ m, k = m + 1 := ⟨k - 1, by omega⟩
    simp only [number_Counts.l0]
    rw [if_neg (rd_end h0 h)]
    rfl
  | e :: r, l, i, c, k, h0, hc, h, he, hk => by
    obtain ⟨k, rfl⟩ : ∃ m, k = m + 1 := ⟨k - 1, by omega⟩
    obtain ⟨h1, h2, h3⟩ := rd_at h0 h
    have hoe := he e (List.mem_cons_self ..)
    obtain ⟨a, b, cc, d⟩ := hoe
    simp only [List.length_cons] at hk
    simp only [number_Counts.l0]
    rw [if_pos h1, if_pos h0, h2]
    have hr := fun x hx => he x (List.mem_cons_of_mem _ hx)
    by_cases hp : e.f0 > 0
    · rw [if_pos hp, if_pos b, if_pos cc, if_pos d]
      obtain ⟨c2, g1, g2, _⟩ := addL_some c e.f0 e.f1 hc a b cc d
      have hs : stepC c e = c2 := by unfold stepC; rw [if_pos hp, g1]; rfl
      rw [g1]
      simp only [Option.bind_some]
      rw [Counts_l r l (i + 1) c2 k (by omega) g2 h3 hr (by omega)]
      simp [hs]
    · rw [if_neg hp, Counts_l r l (i + 1) c k (by omega) hc h3 hr (by omega)]
      have hs : stepC c e = c := by unfold stepC; rw [if_neg hp]
      simp [hs]
def segL (c : List Int) (li : Int) : List Int := (c.drop (li.toNat * 4)).take 4
theorem segL_len {c : List Int} (hc : c.length = 36) {li : Int} (h0 : 0 ≤ li) (h8 : li ≤ 8) : (segL c li).length = 4 := by
  unfold segL; rw [List.length_take, List.length_drop]; omega
theorem segL_rd {c : List Int} {li : Int} (j : Int) (j0 : 0 ≤ j) (j3 : j ≤ 3) : rd (segL c li) j = seg c li j := by
  unfold segL rd seg
  have hj : j.toNat < 4 := by omega
  simp [List.getD, List.getElem?_take, hj]
theorem Counts_ok (l : List S36) (hl : l.length ≤ 3999) (he : ∀ e ∈ l, Ok e) (li : Int) (l1 : 1 ≤ li) (l8 : li ≤ 8) (k : Nat) (hk : 4100 ≤ k) : number_Counts.f k l li = some (segL (l.foldl stepC cs0) li, 0) := by
  unfold number_Counts.f
  rw [wrong_ok l hl he k hk]
  simp only [Option.bind_some, if_true]
  rw [if_neg (by omega), if_neg (by omega)]
  have := Counts_l l l 0 cs0 k (by omega) rfl rfl he (by omega)
  unfold cs0 at this
  rw [this]
  rfl
theorem may_l : ∀ (r : List S36) (l : List S36) (i : Int) (k : Nat), 0 ≤ i → l.length ≤ 4000 → l.drop i.toNat = r → r.length < k → ∃ b, quirelaw04_may.l0 k l i = some b ∧ (b = true → ∀ e ∈ r, Ok e)
  | [], l, i, k, h0, hl, h, hk => by
    obtain ⟨k, rfl⟩ : ∃ m, k = m + 1 := ⟨k - 1, by omega⟩
    simp only [quirelaw04_may.l0]
    rw [if_neg (rd_end h0 h)]
    exact ⟨true, rfl, fun _ e he => by cases he⟩
  | e :: r, l, i, k, h0, hl, h, hk => by
    obtain ⟨k, rfl⟩ : ∃ m, k = m + 1 := ⟨k - 1, by omega⟩
    obtain ⟨h1, h2, h3⟩ := rd_at h0 h
    simp only [List.length_cons] at hk
    have hw : wrap64 (i + 1) = i + 1 := by unfold wrap64; omega
    simp only [quirelaw04_may.l0]
    rw [if_pos h1, if_pos h0, h2]
    by_cases a : e.f0 < 0
    · rw [if_pos a]; exact ⟨false, rfl, fun h => by cases h⟩
    · rw [if_neg a]
      by_cases b : e.f0 > 8
      · rw [if_pos b]; exact ⟨false, rfl, fun h => by cases h⟩
      · rw [if_neg b]
        by_cases c : e.f1 < 0
        · rw [if_pos c]; exact ⟨false, rfl, fun h => by cases h⟩
        · rw [if_neg c]
          by_cases d : e.f1 > 3
          · rw [if_pos d]; exact ⟨false, rfl, fun h => by cases h⟩
          · rw [if_neg d, hw]
            obtain ⟨q, hq, hq2⟩ := may_l r l (i + 1) k (by omega) hl h3 (by omega)
            refine ⟨q, hq, fun hb x hx => ?_⟩
            rcases List.mem_cons.1 hx with rfl | hx
            · exact ⟨by omega, by omega, by omega, by omega⟩
            · exact hq2 hb x hx
theorem loop_ok (l : List S36) (A B : List Int) (X : List ByteArray) (li lv : Int) (v0 : 0 ≤ lv) (v3 : lv ≤ 3) (hA : A.length = 4) (hB : B.length = 4) (hX : l.length < X.length)
    (hAB : ∀ j, 0 ≤ j → j ≤ 3 → rd B j = if j = lv then wrap64 (rd A j + 1) else if j > lv then 0 else rd A j)
    (hn1 : 1 ≤ rd B lv) (hn2 : rd B lv ≤ 3999) (hlab : rdOf ByteArray.empty X (l.length : Int) = labelOf lv (rd B lv)) :
    ∀ (d : Nat) (j : Int) (k : Nat), (4 - j).toNat = d → 0 ≤ j → j ≤ 4 → 2 * d + 2 ≤ k → quirelaw04_NumberCounts.l0 k l true A B X j li lv = some true := by
  intro d
  induction d with
  | zero =>
    intro j k hd h0 h4 hk
    obtain ⟨k, rfl⟩ : ∃ m, k = m + 1 := ⟨k - 1, by omega⟩
    simp only [quirelaw04_NumberCounts.l0]
    rw [if_neg (by omega), if_pos v0, if_pos (by omega), label_good lv (rd B lv) v0 v3 hn1 hn2 k (by omega)]
    simp only [Option.bind_some, if_true]
    rw [if_pos (by omega), if_pos (by omega), hlab]
    simp
  | succ d ih =>
    intro j k hd h0 h4 hk
    obtain ⟨k, rfl⟩ : ∃ m, k = m + 2 := ⟨k - 2, by omega⟩
    have hj3 : j ≤ 3 := by omega
    have hab := hAB j h0 hj3
    have hw : wrap64 (j + 1) = j + 1 := by unfold wrap64; omega
    have hnext := ih (j + 1) k (by omega) (by omega) (by omega) (by omega)
    show quirelaw04_NumberCounts.l0 ((k + 1) + 1) l true A B X j li lv = some true
    simp only [quirelaw04_NumberCounts.l0]
    rw [if_pos (by omega), if_pos h0, if_pos (by omega)]
    by_cases e : j = lv
    · rw [if_pos e]
      rw [if_pos e] at hab
      simp only [quirelaw04_NumberCounts.j3]
      rw [if_neg (by omega), if_pos h0, if_pos (by omega), if_pos hab, hw]
      exact hnext
    · rw [if_neg e]
      rw [if_neg e] at hab
      simp only [quirelaw04_NumberCounts.j3]
      by_cases g : j > lv
      · rw [if_pos g] at hab
        rw [if_pos g, if_pos h0, if_pos (by omega), if_pos hab, hw]
        exact hnext
      · rw [if_neg g] at hab
        rw [if_neg g, if_pos h0, if_pos (by omega), if_pos hab, hw]
        exact hnext
theorem j0_true (k : Nat) (l : List S36) (a b : Int) (hk : 1 ≤ k) : quirelaw04_NumberCounts.j0 k l true true a b = some true := by
  obtain ⟨k, rfl⟩ : ∃ m, k = m + 1 := ⟨k - 1, by omega⟩
  simp only [quirelaw04_NumberCounts.j0]
  rfl
theorem j0_go (l : List S36) (li lv : Int) (hl : l.length ≤ 100) (he : ∀ e ∈ l, Ok e) (hne : Ok ⟨li, lv⟩) (h0 : li ≠ 0) : quirelaw04_NumberCounts.j0 6000 l true false li lv = some true := by
  obtain ⟨a1, a2, a3, a4⟩ := hne
  simp only at a1 a2 a3 a4
  have hpos : 1 ≤ li := by omega
  have hok : ∀ e ∈ l ++ [(⟨li, lv⟩ : S36)], Ok e := by
    intro e h
    rcases List.mem_append.1 h with h | h
    · exact he e h
    · rw [List.mem_singleton.1 h]; exact ⟨a1, a2, a3, a4⟩
  have hlen : (l ++ [(⟨li, lv⟩ : S36)]).length = l.length + 1 := by simp
  have hC : (l.foldl stepC cs0).length = 36 := fold_len l cs0 rfl he
  have hB := Bd.all l 0 cs0 Bd.zero (by omega) (by omega) he
  have hfold : (l ++ [(⟨li, lv⟩ : S36)]).foldl stepC cs0 = stepC (l.foldl stepC cs0) ⟨li, lv⟩ := by rw [List.foldl_append]; rfl
  have c1 := Counts_ok l (by omega) he li hpos a2 5999 (by omega)
  have c2 := Counts_ok (l ++ [(⟨li, lv⟩ : S36)]) (by omega) hok li hpos a2 5999 (by omega)
  have c3 := Labels_ok (l ++ [(⟨li, lv⟩ : S36)]) (by omega) hok 5999 (by omega)
  rw [hfold] at c2
  have hC2 : (stepC (l.foldl stepC cs0) ⟨li, lv⟩).length = 36 := stepC_len ⟨a1, a2, a3, a4⟩ hC
  have s1 := segL_len hC a1 a2
  have s2 := segL_len hC2 a1 a2
  have hAB : ∀ j, 0 ≤ j → j ≤ 3 → rd (segL (stepC (l.foldl stepC cs0) ⟨li, lv⟩) li) j = if j = lv then wrap64 (rd (segL (l.foldl stepC cs0) li) j + 1) else if j > lv then 0 else rd (segL (l.foldl stepC cs0) li) j := by
    intro j j0 j3
    rw [segL_rd j j0 j3, segL_rd j j0 j3]
    exact stepC_same (e := ⟨li, lv⟩) ⟨a1, a2, a3, a4⟩ hC (by simp; omega) j j0 j3
  have hb := hB.2 (li.toNat * 4 + lv.toNat)
  have hv := hAB lv a3 a4
  rw [if_pos rfl, segL_rd lv a3 a4 (c := l.foldl stepC cs0)] at hv
  have hw : wrap64 (seg (l.foldl stepC cs0) li lv + 1) = seg (l.foldl stepC cs0) li lv + 1 := by unfold wrap64 seg; omega
  rw [hw] at hv
  have hlab : rdOf ByteArray.empty (labs cs0 (l ++ [(⟨li, lv⟩ : S36)])) (l.length : Int) = labelOf lv (rd (segL (stepC (l.foldl stepC cs0) ⟨li, lv⟩) li) lv) := by
    rw [labs_app, segL_rd lv a3 a4]
    unfold rdOf
    have hp : ((⟨li, lv⟩ : S36).f0 > 0) := by simp; omega
    have hll := labs_len l cs0
    simp only [List.getD, Int.toNat_natCast]
    rw [List.getElem?_append_right (by omega), hll, Nat.sub_self]
    simp only [labs, if_pos hp, List.getElem?_cons_zero, Option.getD_some]
  have hloop := loop_ok l (segL (l.foldl stepC cs0) li) (segL (stepC (l.foldl stepC cs0) ⟨li, lv⟩) li) (labs cs0 (l ++ [(⟨li, lv⟩ : S36)])) li lv a3 a4 s1 s2 (by rw [labs_len]; simp) hAB
    (by rw [hv]; unfold seg; omega) (by rw [hv]; unfold seg; omega) hlab 4 0 5997 (by omega) (by omega) (by omega) (by omega)
  show quirelaw04_NumberCounts.j0 (5999 + 1) l true false li lv = some true
  simp only [quirelaw04_NumberCounts.j0]
  rw [if_neg Bool.false_ne_true]
  simp only [Option.bind_some, List.nil_append]
  rw [if_pos (by simp; omega)]
  try simp only [Option.bind_some]
  rw [if_pos (by simp; omega)]
  try simp only [Option.bind_some]
  rw [c1, c2, c3]
  simp only [Option.bind_some, if_true]
  rw [if_pos (by omega), if_pos (by omega), labs_len]
  have hq : ((((l ++ [(⟨li, lv⟩ : S36)]).length : Nat) : Int) != (((l ++ [(⟨li, lv⟩ : S36)]).length : Nat) : Int)) = false := by simp
  rw [hq]
  show quirelaw04_NumberCounts.j1 (5998 + 1) l true _ _ _ false li lv = some true
  simp only [quirelaw04_NumberCounts.j1]
  rw [if_neg Bool.false_ne_true]
  exact (loop_ok l (segL (l.foldl stepC cs0) li) (segL (stepC (l.foldl stepC cs0) ⟨li, lv⟩) li) (labs cs0 (l ++ [(⟨li, lv⟩ : S36)])) li lv a3 a4 s1 s2 (by rw [labs_len]; simp) hAB
    (by rw [hv]; unfold seg; omega) (by rw [hv]; unfold seg; omega) hlab 4 0 5998 (by omega) (by omega) (by omega) (by omega))
theorem NumberCounts (l : List S36) (a b : Int) : ∃ k, quirelaw04_NumberCounts.f k l a b = some true := by
  refine ⟨6000, ?_⟩
  unfold quirelaw04_NumberCounts.f
  rw [awake_atC 6000 (by omega)]
  simp only [Option.bind_some]
  by_cases hl : (l.length : Int) > 100
  · rw [if_pos hl]; exact j0_true _ _ _ _ (by omega)
  · rw [if_neg hl]
    obtain ⟨m, hm, hm2⟩ := may_l l l 0 6000 (by omega) (by omega) rfl (by omega)
    unfold quirelaw04_may.f
    rw [hm]
    simp only [Option.bind_some]
    cases m with
    | false => rw [if_neg Bool.false_ne_true]; exact j0_true _ _ _ _ (by omega)
    | true =>
      rw [if_pos rfl]
      obtain ⟨q, hq, hq2⟩ := may_l [(⟨a, b⟩ : S36)] [(⟨a, b⟩ : S36)] 0 6000 (by omega) (by simp) rfl (by simp)
      rw [hq]
      simp only [Option.bind_some]
      cases q with
      | false => rw [if_neg Bool.false_ne_true]; exact j0_true _ _ _ _ (by omega)
      | true =>
        rw [if_pos rfl]
        have hx := hq2 rfl _ (List.mem_singleton.2 rfl)
        by_cases h0 : a = 0
        · rw [show (a == 0) = true from beq_iff_eq.mpr h0]; exact j0_true _ _ _ _ (by omega)
        · rw [show (a == 0) = false from beq_eq_false_iff_ne.mpr h0]
          exact j0_go l a b (by omega) (hm2 rfl) hx h0
end Go.Proofs.YtkemkpmcgeeieaaDoor.Pure
