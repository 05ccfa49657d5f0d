/- The plain law of NumberAhead: a paragraph's label hangs on those ahead of it alone, and of these on those of its list alone. No condition. -/
import Derived.Test.YtkemkpmcgeeieaaDoorPureCntD
namespace Go.Proofs.YtkemkpmcgeeieaaDoor.Pure
open Go Go.RowKit Go.Proofs.YtkemkpmcgeeieaaDoor.PNumberAhead Go.Proofs.YtkemkpmcgeeieaaDoorW.PrintWords Go.Proofs.YtkemkpmcgeeieaaDoorW.PrintLast Go.Proofs.YtkemkpmcgeeieaaDoor Go.Proofs.YtkemkpmcgeeieaaDoor.PureLabel Go.Proofs.YtkemkpmcgeeieaaDoor.PureCnt
set_option linter.unusedVariables false
set_option linter.unusedSimpArgs false
set_option maxRecDepth 1000000 in
theorem awake300A : quirelaw04_awake.f 300 = some true := by decide +kernel
theorem awake_atA (k : Nat) (hk : 300 ≤ k) : quirelaw04_awake.f k = some true := leO_le (f := fun k => quirelaw04_awake.f k) (fun k => quirelaw04_awake.mono k) awake300A hk
theorem may_lA : ∀ (r : List S36) (l : List S36) (i : Int) (k : Nat), 0 ≤ i → l.length ≤ 4000 → l.drop i.toNat = r → r.length < k → ∃ b, quirelaw04_may.l0 k l i = some b ∧ (b = true → ∀ e ∈ r, Ok e)
  | [], l, i, k, h0, hl, h, hk => by
    obtain ⟨k, rfl⟩ : ∃ m, k = m + 1 := ⟨k - 1, by omega⟩
    simp only [quirelaw04_may.l0]
    rw [if_neg (rd_end h0 h)]
    exact ⟨true, rfl, fun _ e he => by cases he⟩
  | e :: r, l, i, k, h0, hl, h, hk => by
    obtain ⟨k, rfl⟩ : ∃ m, k = m + 1 := ⟨k - 1, by omega⟩
    obtain ⟨h1, h2, h3⟩ := rd_at h0 h
    simp only [List.length_cons] at hk
    have hw : wrap64 (i + 1) = i + 1 := by unfold wrap64; omega
    simp only [quirelaw04_may.l0]
    rw [if_pos h1, if_pos h0, h2]
    by_cases a : e.f0 < 0
    · rw [if_pos a]; exact ⟨false, rfl, fun h => by cases h⟩
    · rw [if_neg a]
      by_cases b : e.f0 > 8
      · rw [if_pos b]; exact ⟨false, rfl, fun h => by cases h⟩
      · rw [if_neg b]
        by_cases c : e.f1 < 0
        · rw [if_pos c]; exact ⟨false, rfl, fun h => by cases h⟩
        · rw [if_neg c]
          by_cases d : e.f1 > 3
          · rw [if_pos d]; exact ⟨false, rfl, fun h => by cases h⟩
          · rw [if_neg d, hw]
            obtain ⟨q, hq, hq2⟩ := may_lA r l (i + 1) k (by omega) hl h3 (by omega)
            refine ⟨q, hq, fun hb x hx => ?_⟩
            rcases List.mem_cons.1 hx with rfl | hx
            · exact ⟨by omega, by omega, by omega, by omega⟩
            · exact hq2 hb x hx
theorem pick_inA (x n : Int) (h0 : 0 < n) (h1 : n ≤ 4000) : ∃ p, quirekit_Pick.f x n = some p ∧ 0 ≤ p ∧ p < n := by
  unfold quirekit_Pick.f
  rw [if_neg (by omega), if_neg (by omega)]
  have b1 : Int.tmod x n < n := Int.tmod_lt_of_pos x h0
  have b2 : -n < Int.tmod x n := by
    have := Int.tmod_lt_of_pos (-x) h0
    rw [Int.neg_tmod] at this
    omega
  by_cases h : Int.tmod x n < 0
  · rw [if_pos h]
    have hw : wrap64 (Int.tmod x n + n) = Int.tmod x n + n := by unfold wrap64; omega
    exact ⟨_, rfl, by omega, by omega⟩
  · rw [if_neg h]
    exact ⟨_, rfl, by omega, by omega⟩

/-- Those of one list. -/
def ofList (li : Int) (l : List S36) : List S36 := l.filter fun e => decide (e.f0 = li)
/-- What a list's own entries do to its counts is all that is done to them. -/
theorem seg_own (li : Int) (l0 : 0 < li) : ∀ (l : List S36) (c d : List Int), c.length = 36 → d.length = 36 → (∀ e ∈ l, Ok e) → (∀ j, 0 ≤ j → j ≤ 3 → seg c li j = seg d li j) →
    ∀ j, 0 ≤ j → j ≤ 3 → seg (l.foldl stepC c) li j = seg ((ofList li l).foldl stepC d) li j
  | [], c, d, _, _, _, h => h
  | e :: r, c, d, hc, hd, he, h => by
    have hoe := he e (List.mem_cons_self ..)
    have hr := fun x hx => he x (List.mem_cons_of_mem _ hx)
    by_cases hp : e.f0 = li
    · have hf : ofList li (e :: r) = e :: ofList li r := by unfold ofList; rw [List.filter_cons_of_pos (by simpa using hp)]
      rw [hf]
      subst hp
      exact seg_own _ l0 r (stepC c e) (stepC d e) (stepC_len hoe hc) (stepC_len hoe hd) hr (fun j j0 j3 => by
        rw [stepC_same hoe hc l0 j j0 j3, stepC_same hoe hd l0 j j0 j3, h j j0 j3])
    · have hf : ofList li (e :: r) = ofList li r := by unfold ofList; rw [List.filter_cons_of_neg (by simpa using hp)]
      rw [hf]
      exact seg_own li l0 r (stepC c e) d (stepC_len hoe hc) hd hr (fun j j0 j3 => by
        rw [stepC_other hoe hc li (by omega) hp j j0 j3, h j j0 j3])
/-- The label of the last of some entries. -/
theorem last_lab (l : List S36) (e : S36) : rdOf ByteArray.empty (labs cs0 (l ++ [e])) (l.length : Int) = if e.f0 > 0 then labelOf e.f1 (seg (stepC (l.foldl stepC cs0) e) e.f0 e.f1) else (⟨#[]⟩ : ByteArray) := by
  rw [labs_app]
  unfold rdOf
  have hll := labs_len l cs0
  simp only [List.getD, Int.toNat_natCast]
  rw [List.getElem?_append_right (by omega), hll, Nat.sub_self]
  simp only [labs, List.getElem?_cons_zero, Option.getD_some]
theorem rdOf_app (x y : List ByteArray) (i : Int) (h0 : 0 ≤ i) (h : i < (x.length : Int)) : rdOf ByteArray.empty (x ++ y) i = rdOf ByteArray.empty x i := by
  unfold rdOf
  simp only [List.getD]
  rw [List.getElem?_append_left (by omega)]
/-- Its last byte is a sign. -/
theorem label_some (lv n : Int) (v0 : 0 ≤ lv) (v3 : lv ≤ 3) (n1 : 1 ≤ n) (n2 : n ≤ 3999) : labelOf lv n ≠ (⟨#[]⟩ : ByteArray) := by
  intro h
  have g := label_good lv n v0 v3 n1 n2 1 (Nat.le_refl _)
  rw [h] at g
  unfold number_Label.f at g
  rw [if_neg (by omega), decide_eq_false (by omega : ¬ lv > 3)] at g
  simp only [number_Label.j0] at g
  rw [if_neg Bool.false_ne_true, if_neg (by omega), if_neg (by omega)] at g
  have key : ∀ (x : Option ByteArray) (c : UInt8), (x.bind fun t => if t.size + 1 ≤ 9223372036854775807 then some (t ++ (⟨#[c]⟩ : ByteArray), (0 : Int)) else none) ≠ some ((⟨#[]⟩ : ByteArray), 0) := by
    intro x c e
    cases x with
    | none => cases e
    | some t =>
      simp only [Option.bind_some] at e
      split at e
      · have e1 := congrArg (fun q : Option (ByteArray × Int) => (q.map fun z => z.1.size)) e
        have s1 : (⟨#[c]⟩ : ByteArray).size = 1 := rfl
        have s0 : (⟨#[]⟩ : ByteArray).size = 0 := rfl
        simp at e1
        rw [s1, s0] at e1
        omega
      · cases e
  by_cases c0 : lv = 0
  · rw [if_pos c0] at g; exact key _ _ g
  · rw [if_neg c0] at g
    by_cases c1 : lv = 1
    · rw [if_pos c1] at g; exact key _ _ g
    · rw [if_neg c1] at g
      by_cases c2 : lv = 2
      · rw [if_pos c2] at g; exact key _ _ g
      · rw [if_neg c2] at g
        have t : (⟨#[45]⟩ : ByteArray).size = (⟨#[]⟩ : ByteArray).size := congrArg (fun z : ByteArray × Int => z.1.size) (Option.some.inj g)
        exact absurd t (by decide)
theorem own_loop (l : List S36) (at_ : Int) (W Bg : List ByteArray) (hl : l.length ≤ 100) (a0 : 0 ≤ at_) (a1 : at_ < (l.length : Int)) (R : Bool)
    (hfin : ∀ k, 5000 ≤ k → ∀ i : Int, i > at_ → quirelaw04_NumberAhead.l0 k l at_ true W 0 Bg 0 (ofList (rd_T36 l at_).f0 (l.take (at_ + 1).toNat)) i = some R) :
    ∀ (d : Nat) (i : Int) (own : List S36) (k : Nat), (at_ + 1 - i).toNat = d → 0 ≤ i → i ≤ at_ + 1 → own = ofList (rd_T36 l at_).f0 (l.take i.toNat) → 5000 + d ≤ k → quirelaw04_NumberAhead.l0 k l at_ true W 0 Bg 0 own i = some R := by
  intro d
  induction d with
  | zero =>
    intro i own k hd h0 h1 ho hk
    have e : i = at_ + 1 := by omega
    subst e
    rw [ho]
    exact hfin k (by omega) _ (by omega)
  | succ d ih =>
    intro i own k hd h0 h1 ho hk
    obtain ⟨k, rfl⟩ : ∃ m, k = m + 1 := ⟨k - 1, by omega⟩
    have hw : wrap64 (i + 1) = i + 1 := by unfold wrap64; omega
    have hil : i.toNat < l.length := by omega
    have htake : l.take (i + 1).toNat = l.take i.toNat ++ [rd_T36 l i] := by
      rw [show (i + 1).toNat = i.toNat + 1 by omega, List.take_add_one]
      unfold rd_T36
      simp [List.getD, hil]
    have holen : own.length ≤ 100 := by
      rw [ho]
      unfold ofList
      have := List.length_filter_le (fun e : S36 => decide (e.f0 = (rd_T36 l at_).f0)) (l.take i.toNat)
      have h2 : (l.take i.toNat).length ≤ l.length := by simp; omega
      omega
    simp only [quirelaw04_NumberAhead.l0]
    rw [if_pos (by omega), if_pos h0, if_pos (by omega), if_pos a0, if_pos a1]
    by_cases hp : (rd_T36 l i).f0 = (rd_T36 l at_).f0
    · rw [if_pos hp, if_pos (by omega), hw]
      refine ih (i + 1) _ k (by omega) (by omega) (by omega) ?_ (by omega)
      rw [htake, ho]
      unfold ofList
      rw [List.filter_append, List.filter_cons_of_pos (by simpa using hp)]
      rfl
    · rw [if_neg hp, hw]
      refine ih (i + 1) _ k (by omega) (by omega) (by omega) ?_ (by omega)
      rw [htake, ho]
      unfold ofList
      rw [List.filter_append, List.filter_cons_of_neg (by simpa using hp)]
      simp
theorem toList_nil {b : ByteArray} (h : b.toList = []) : b = (⟨#[]⟩ : ByteArray) := by
  rw [Go.ByteArray.toList_eq] at h
  apply ByteArray.ext
  simpa using h
theorem fin_ok (l : List S36) (at_ : Int) (hl : l.length ≤ 100) (he : ∀ e ∈ l, Ok e) (a0 : 0 ≤ at_) (a1 : at_ < (l.length : Int)) (k : Nat) (hk : 5000 ≤ k) (i : Int) (hi : i > at_) :
    quirelaw04_NumberAhead.l0 k l at_ true (labs cs0 l) 0 (labs cs0 (l.take (at_ + 1).toNat)) 0 (ofList (rd_T36 l at_).f0 (l.take (at_ + 1).toNat)) i = some true := by
  obtain ⟨k, rfl⟩ : ∃ m, k = m + 1 := ⟨k - 1, by omega⟩
  have hat : at_.toNat < l.length := by omega
  obtain ⟨e, hee⟩ : ∃ e, e = rd_T36 l at_ := ⟨_, rfl⟩
  obtain ⟨T, hT⟩ : ∃ T, T = l.take at_.toNat := ⟨_, rfl⟩
  have hTl : T.length = at_.toNat := by rw [hT]; simp; omega
  have htake : l.take (at_ + 1).toNat = T ++ [e] := by
    rw [show (at_ + 1).toNat = at_.toNat + 1 by omega, List.take_add_one, hT, hee]
    unfold rd_T36
    simp [List.getD, hat]
  have hTm : ∀ x ∈ T, Ok x := fun x hx => he x (by rw [hT] at hx; exact List.mem_of_mem_take hx)
  have hem : e ∈ l := by
    have : e ∈ l.take (at_ + 1).toNat := by rw [htake]; simp
    exact List.mem_of_mem_take this
  have hoe := he e hem
  have hown : ofList e.f0 (T ++ [e]) = ofList e.f0 T ++ [e] := by unfold ofList; rw [List.filter_append, List.filter_cons_of_pos (by simp)]; rfl
  have hOm : ∀ x ∈ ofList e.f0 T ++ [e], Ok x := by
    intro x hx
    rcases List.mem_append.1 hx with hx | hx
    · exact hTm x ((List.mem_filter.1 hx).1)
    · rw [List.mem_singleton.1 hx]; exact hoe
  have hOl : (ofList e.f0 T).length ≤ T.length := List.length_filter_le _ _
  have hol : (ofList e.f0 T ++ [e]).length = (ofList e.f0 T).length + 1 := by simp
  have hsplit : labs cs0 l = labs cs0 (T ++ [e]) ++ labs ((T ++ [e]).foldl stepC cs0) (l.drop (at_ + 1).toNat) := by
    rw [← labs_app, ← htake, List.take_append_drop]
  have hwb : rdOf ByteArray.empty (labs cs0 l) at_ = rdOf ByteArray.empty (labs cs0 (T ++ [e])) at_ := by
    rw [hsplit]
    exact rdOf_app _ _ _ a0 (by rw [labs_len]; simp; omega)
  have hatT : at_ = (T.length : Int) := by omega
  have hB := last_lab T e
  rw [← hatT] at hB
  have hA := last_lab (ofList e.f0 T) e
  have hc1 := fold_len T cs0 rfl hTm
  have hc2 := fold_len (ofList e.f0 T) cs0 rfl (fun x hx => hTm x ((List.mem_filter.1 hx).1))
  have hsame : (if e.f0 > 0 then labelOf e.f1 (seg (stepC (T.foldl stepC cs0) e) e.f0 e.f1) else (⟨#[]⟩ : ByteArray)) = (if e.f0 > 0 then labelOf e.f1 (seg (stepC ((ofList e.f0 T).foldl stepC cs0) e) e.f0 e.f1) else (⟨#[]⟩ : ByteArray)) := by
    by_cases hp : e.f0 > 0
    · rw [if_pos hp, if_pos hp]
      obtain ⟨q1, q2, q3, q4⟩ := hoe
      rw [stepC_same ⟨q1, q2, q3, q4⟩ hc1 hp e.f1 q3 q4, stepC_same ⟨q1, q2, q3, q4⟩ hc2 hp e.f1 q3 q4, seg_own e.f0 hp T cs0 cs0 rfl rfl hTm (fun _ _ _ => rfl) e.f1 q3 q4]
    · rw [if_neg hp, if_neg hp]
  have hwa : rdOf ByteArray.empty (labs cs0 l) at_ = rdOf ByteArray.empty (labs cs0 (ofList e.f0 T ++ [e])) ((ofList e.f0 T).length : Int) := by rw [hwb, hB, hA, hsame]
  have hw1 : wrap64 (at_ + 1) = at_ + 1 := by unfold wrap64; omega
  have hw2 : wrap64 (((ofList e.f0 T ++ [e]).length : Int) - 1) = ((ofList e.f0 T).length : Int) := by rw [hol]; unfold wrap64; omega
  have hL := Labels_ok (ofList e.f0 T ++ [e]) (by rw [hol]; omega) hOm k (by omega)
  simp only [quirelaw04_NumberAhead.l0]
  rw [if_neg (by omega), ← hee, htake, hown, hL]
  simp only [Option.bind_some, if_true]
  rw [labs_len, labs_len, labs_len, hw1, hw2]
  rw [if_pos rfl, if_pos (by simp; omega), if_pos rfl, if_pos a0, if_pos a1, if_pos (by simp; omega), if_pos (by rw [hwb]), if_pos (by omega), if_pos (by rw [hol]; omega), if_pos (by rw [hwa]), if_pos a1]
  congr 1
  rw [hwb, hB]
  by_cases hp : e.f0 > 0
  · rw [if_pos hp]
    have hBd := Bd.all T 0 cs0 Bd.zero (by omega) (by omega) hTm
    have hb := hBd.2 (e.f0.toNat * 4 + e.f1.toNat)
    obtain ⟨q1, q2, q3, q4⟩ := hoe
    have hv := stepC_same ⟨q1, q2, q3, q4⟩ hc1 hp e.f1 q3 q4
    rw [if_pos rfl] at hv
    have hwv : wrap64 (seg (T.foldl stepC cs0) e.f0 e.f1 + 1) = seg (T.foldl stepC cs0) e.f0 e.f1 + 1 := by unfold wrap64 seg; omega
    rw [hwv] at hv
    have hne := label_some e.f1 (seg (stepC (T.foldl stepC cs0) e) e.f0 e.f1) q3 q4 (by rw [hv]; unfold seg; omega) (by rw [hv]; unfold seg; omega)
    have q : ((labelOf e.f1 (seg (stepC (T.foldl stepC cs0) e) e.f0 e.f1)).toList == ([] : List UInt8)) = false := beq_eq_false_iff_ne.mpr (fun h => hne (toList_nil h))
    have z : (e.f0 == 0) = false := beq_eq_false_iff_ne.mpr (by omega)
    rw [q, z]
    rfl
  · rw [if_neg hp]
    have z : e.f0 = 0 := by have := hoe.1; omega
    have q : ((⟨#[]⟩ : ByteArray).toList == ([] : List UInt8)) = true := by decide +kernel
    rw [q, z]
    rfl
theorem j0_trueA (k : Nat) (l : List S36) (a : Int) (hk : 1 ≤ k) : quirelaw04_NumberAhead.j0 k l a true true = some true := by
  obtain ⟨k, rfl⟩ : ∃ m, k = m + 1 := ⟨k - 1, by omega⟩
  simp only [quirelaw04_NumberAhead.j0]
  rfl
theorem j0_goA (k : Nat) (hk : 5200 ≤ k) (l : List S36) (a : Int) (hl : l.length ≤ 100) (h1 : 1 ≤ l.length) (he : ∀ e ∈ l, Ok e) : quirelaw04_NumberAhead.j0 k l a true false = some true := by
  obtain ⟨k, rfl⟩ : ∃ m, k = m + 1 := ⟨k - 1, by omega⟩
  obtain ⟨p, e0, p0, p1⟩ := pick_inA a (l.length : Int) (by omega) (by omega)
  have hw1 : wrap64 (p + 1) = p + 1 := by unfold wrap64; omega
  have c1 := Labels_ok l (by omega) he k (by omega)
  have c2 := Labels_ok (l.take (p + 1).toNat) (by simp; omega) (fun x hx => he x (List.mem_of_mem_take hx)) k (by omega)
  simp only [quirelaw04_NumberAhead.j0]
  rw [if_neg Bool.false_ne_true, e0]
  simp only [Option.bind_some]
  rw [c1]
  simp only [Option.bind_some]
  rw [hw1, if_pos (by omega), if_pos (by omega), c2]
  simp only [Option.bind_some]
  exact own_loop l p (labs cs0 l) (labs cs0 (l.take (p + 1).toNat)) hl p0 p1 true (fun k hk i hi => fin_ok l p hl he p0 p1 k hk i hi) (p + 1).toNat 0 [] k (by omega) (by omega) (by omega) (by simp [ofList]) (by omega)
theorem NumberAhead (l : List S36) (a : Int) : ∃ k, quirelaw04_NumberAhead.f k l a = some true := by
  refine ⟨8000, ?_⟩
  unfold quirelaw04_NumberAhead.f
  rw [awake_atA 8000 (by omega)]
  simp only [Option.bind_some]
  by_cases hl : (l.length : Int) > 100
  · rw [if_pos hl]; exact j0_trueA _ _ _ (by omega)
  · rw [if_neg hl]
    by_cases h0 : (l.length : Int) = 0
    · rw [if_pos h0]; exact j0_trueA _ _ _ (by omega)
    · rw [if_neg h0]
      obtain ⟨m, hm, hm2⟩ := may_lA l l 0 8000 (by omega) (by omega) rfl (by omega)
      unfold quirelaw04_may.f
      rw [hm]
      simp only [Option.bind_some]
      cases m with
      | false => exact j0_trueA _ _ _ (by omega)
      | true => exact j0_goA 8000 (by omega) l a (by omega) (by omega) (hm2 rfl)
end Go.Proofs.YtkemkpmcgeeieaaDoor.Pure
