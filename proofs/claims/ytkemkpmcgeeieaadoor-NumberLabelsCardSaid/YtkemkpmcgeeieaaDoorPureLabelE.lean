/- Plain facts on labels: letters, decimal and Roman numbers from 0 to 3,999 are told alike by the program's and the document's functions. No condition beyond the range. -/
import Derived.Test.YtkemkpmcgeeieaaDoorPNumberLabelsx
namespace Go.Proofs.YtkemkpmcgeeieaaDoor.PureLabel
open Go.RowKit Go.Proofs.YtkemkpmcgeeieaaDoor.PNumberLabels Go.Proofs.YtkemkpmcgeeieaaDoorW.PrintWords Go.Proofs.YtkemkpmcgeeieaaDoorW.PrintLast Go.Proofs.YtkemkpmcgeeieaaDoor
set_option linter.unusedVariables false
set_option linter.unusedSimpArgs false

theorem leO_add {α : Type} {f : Nat → Option α} (hm : ∀ k, LeO (f k) (f (k + 1))) {k : Nat} {r : α} (h : f k = some r) : ∀ j, f (k + j) = some r
  | 0 => h
  | j + 1 => hm (k + j) r (leO_add hm h j)
theorem leO_le {α : Type} {f : Nat → Option α} (hm : ∀ k, LeO (f k) (f (k + 1))) {k j : Nat} {r : α} (h : f k = some r) (hj : k ≤ j) : f j = some r := by
  have := leO_add hm h (j - k)
  rwa [Nat.add_sub_cancel' hj] at this

/-! letters -/
def dec26 (l : List UInt8) : Int := l.foldl (fun a c => a * 26 + ((c.toNat : Int) - 96)) 0
def chk : Nat → Int → List Int → Bool
  | 0, _, _ => true
  | c + 1, i, W => decide (Let.lettersL 50 i [] = some W) && decide (W.length ≤ 50) && decide (dec26 (W.map fun n => UInt8.ofNat n.toNat) = i) && (match quireref04_behind.f 10 W with | some W' => chk c (i + 1) W' | none => false)
theorem chk_sound : ∀ (c : Nat) (i : Int) (W : List Int), 0 ≤ i → i + c ≤ 5000 → chk c i W = true → ∀ j : Nat, j < c → ∃ V, Let.lettersL 50 (i + j) [] = some V ∧ V.length ≤ 50 ∧ dec26 (V.map fun n => UInt8.ofNat n.toNat) = i + j ∧ ∀ k, j + 11 ≤ k → quireref04_letters.l0 k (i + j) W i = some (strOfNums V)
  | 0, _, _, _, _, _, _, hj => absurd hj (by omega)
  | c + 1, i, W, h0, h5, h, j, hj => by
    simp only [chk, Bool.and_eq_true, decide_eq_true_eq] at h
    obtain ⟨⟨⟨h1, hl⟩, hd⟩, h2⟩ := h
    cases hb : quireref04_behind.f 10 W with
    | none => rw [hb] at h2; cases h2
    | some W' =>
      rw [hb] at h2
      cases j with
      | zero =>
        refine ⟨W, by simpa using h1, hl, by simpa using hd, fun k hk => ?_⟩
        obtain ⟨k, rfl⟩ : ∃ m, k = m + 1 := ⟨k - 1, by omega⟩
        simp [quireref04_letters.l0]
      | succ j =>
        obtain ⟨V, e1, e2, e4, e3⟩ := chk_sound c (i + 1) W' (by omega) (by omega) h2 j (by omega)
        have ei : i + ((j + 1 : Nat) : Int) = i + 1 + (j : Int) := by omega
        rw [ei]
        refine ⟨V, e1, e2, e4, fun k hk => ?_⟩
        obtain ⟨k, rfl⟩ : ∃ m, k = m + 1 := ⟨k - 1, by omega⟩
        have hlt : i < i + 1 + (j : Int) := by omega
        have hw : wrap64 (i + 1) = i + 1 := by unfold wrap64; omega
        have hbk : quireref04_behind.f k W = some W' := leO_le (f := fun k => quireref04_behind.f k W) (fun k => quireref04_behind.mono W k) hb (by omega)
        simp only [quireref04_letters.l0]
        rw [if_pos hlt, hbk]
        simp only [Option.bind_some]
        rw [hw]
        exact e3 k (by omega)
set_option maxRecDepth 1000000 in
theorem chk_all : chk 4000 0 [] = true := by decide +kernel
theorem letters_same (n : Int) (h0 : 0 ≤ n) (h1 : n ≤ 3999) : ∃ r, number_letters.f n = some (strOfNums r) ∧ Let.lettersL 50 n [] = some r ∧ r.length ≤ 50 ∧ dec26 (r.map fun n => UInt8.ofNat n.toNat) = n ∧ ∀ k, 4100 ≤ k → quireref04_letters.f k n = some (strOfNums r) := by
  obtain ⟨V, e1, e2, e4, e3⟩ := chk_sound 4000 0 [] (by omega) (by omega) chk_all n.toNat (by omega)
  have en : (0 : Int) + (n.toNat : Int) = n := by omega
  rw [en] at e1 e3 e4
  refine ⟨V, ?_, e1, e2, e4, fun k hk => e3 k (by omega)⟩
  unfold number_letters.f
  rw [if_pos h0, e1]
  rfl

theorem strOfNums_size (xs : List Int) : (strOfNums xs).size = xs.length := by simp [strOfNums, ByteArray.size]
/-! Roman numbers -/
mutual
def r0 : Nat → Int → List UInt8 → Int → Option (List UInt8)
  | 0, _, _, _ => none
  | k + 1, n, s, i => if i < 13 then r1 k n s i else some s
def r1 : Nat → Int → List UInt8 → Int → Option (List UInt8)
  | 0, _, _, _ => none
  | k + 1, n, s, i => if n ≥ rd Rom.vs i then (if s.length < 100 then r1 k (n - rd Rom.vs i) (s ++ (rdOf ByteArray.empty Rom.ws i).data.toList) i else none) else r0 k n s (i + 1)
end
theorem ba_append (s : List UInt8) (b : ByteArray) : (⟨s.toArray⟩ : ByteArray) ++ b = ⟨(s ++ b.data.toList).toArray⟩ := by
  apply ByteArray.ext
  simp
theorem rd_bound (i : Int) (h0 : 0 ≤ i) (h1 : i < 13) : 1 ≤ rd Rom.vs i ∧ rd Rom.vs i ≤ 1000 ∧ (rdOf ByteArray.empty Rom.ws i).size ≤ 2 := by
  rcases Rom.range13 i h0 h1 with rfl | rfl | rfl | rfl | rfl | rfl | rfl | rfl | rfl | rfl | rfl | rfl | rfl <;> decide +kernel
theorem r_sound : ∀ k, (∀ n s i m, 0 ≤ n → n ≤ 4000 → 0 ≤ i → r0 k n s i = some m → Rom.l0 k n ⟨s.toArray⟩ i = some ⟨m.toArray⟩) ∧ (∀ n s i m, 0 ≤ n → n ≤ 4000 → 0 ≤ i → i < 13 → r1 k n s i = some m → Rom.l1 k n ⟨s.toArray⟩ i = some ⟨m.toArray⟩)
  | 0 => ⟨fun _ _ _ _ _ _ _ h => by simp [r0] at h, fun _ _ _ _ _ _ _ _ h => by simp [r1] at h⟩
  | k + 1 => by
    obtain ⟨ih0, ih1⟩ := r_sound k
    refine ⟨fun n s i m hn hn4 hi h => ?_, fun n s i m hn hn4 hi hi3 h => ?_⟩
    · simp only [r0] at h
      simp only [Rom.l0]
      split at h
      · rename_i hc
        rw [if_pos hc]
        exact ih1 _ _ _ _ hn hn4 hi hc h
      · rename_i hc
        rw [if_neg hc]
        cases h
        rfl
    · obtain ⟨b1, b2, b3⟩ := rd_bound i hi hi3
      simp only [r1] at h
      simp only [Rom.l1]
      rw [if_pos hi, if_pos hi3]
      split at h
      · rename_i hc
        rw [if_pos hc]
        split at h
        · rename_i hl
          have hsz : (⟨s.toArray⟩ : ByteArray).size = s.length := by simp [ByteArray.size]
          rw [if_pos (by rw [hsz]; omega), ba_append]
          have hw : wrap64 (n - rd Rom.vs i) = n - rd Rom.vs i := by unfold wrap64; omega
          rw [hw]
          exact ih1 _ _ _ _ (by omega) (by omega) hi hi3 h
        · cases h
      · rename_i hc
        rw [if_neg hc]
        have hw : wrap64 (i + 1) = i + 1 := by unfold wrap64; omega
        rw [hw]
        exact ih0 _ _ _ _ hn hn4 (by omega) h
def rval (c : UInt8) : Int := if c = 109 then 1000 else if c = 100 then 500 else if c = 99 then 100 else if c = 108 then 50 else if c = 120 then 10 else if c = 118 then 5 else if c = 105 then 1 else 0
def rdec : List UInt8 → Int
  | [] => 0
  | c :: r => (match r with | d :: _ => if rval c < rval d then - rval c else rval c | [] => rval c) + rdec r
def rchk : Nat → Int → Bool
  | 0, _ => true
  | c + 1, n => (match r0 200 n [] 0 with | some m => decide (m.length ≤ 100) && decide (rdec m = n) | none => false) && rchk c (n + 1)
theorem rchk_sound : ∀ (c : Nat) (n : Int), rchk c n = true → ∀ j : Nat, j < c → ∃ m, r0 200 (n + j) [] 0 = some m ∧ m.length ≤ 100 ∧ rdec m = n + j
  | 0, _, _, _, hj => absurd hj (by omega)
  | c + 1, n, h, j, hj => by
    simp only [rchk, Bool.and_eq_true] at h
    cases j with
    | zero =>
      cases hr : r0 200 n [] 0 with
      | none => rw [hr] at h; cases h.1
      | some m => rw [hr] at h; simp only [Bool.and_eq_true, decide_eq_true_eq] at h; exact ⟨m, by simpa using hr, h.1.1, by simpa using h.1.2⟩
    | succ j =>
      obtain ⟨m, e⟩ := rchk_sound c (n + 1) h.2 j (by omega)
      exact ⟨m, by rw [show n + ((j + 1 : Nat) : Int) = n + 1 + (j : Int) by omega]; exact e⟩
set_option maxRecDepth 1000000 in
theorem rchk_all : rchk 4000 0 = true := by decide +kernel
theorem rom_same : ∀ k, (∀ n s i, Rom.l0 k n s i = quireref04_roman.l0 k n Rom.ws Rom.vs s i) ∧ (∀ n s i, Rom.l1 k n s i = quireref04_roman.l1 k n Rom.ws Rom.vs s i)
  | 0 => ⟨fun _ _ _ => rfl, fun _ _ _ => rfl⟩
  | k + 1 => by
    obtain ⟨ih0, ih1⟩ := rom_same k
    refine ⟨fun n s i => ?_, fun n s i => ?_⟩
    · simp only [Rom.l0, quireref04_roman.l0, ih1]
      rfl
    · simp only [Rom.l1, quireref04_roman.l1, ih1, ih0]
      have e1 : ((Rom.vs.length : Nat) : Int) = 13 := rfl
      have e2 : ((Rom.ws.length : Nat) : Int) = 13 := rfl
      rw [e1, e2]
      by_cases h : i < 13
      · simp [h]
      · simp [h]
theorem roman_same (n : Int) (h0 : 0 ≤ n) (h1 : n ≤ 3999) : ∃ m : List UInt8, r0 200 n [] 0 = some m ∧ m.length ≤ 100 ∧ rdec m = n ∧ number_roman.f n = some ⟨m.toArray⟩ ∧ ∀ k, 200 ≤ k → quireref04_roman.f k n = some ⟨m.toArray⟩ := by
  obtain ⟨m, e, el, ed⟩ := rchk_sound 4000 0 rchk_all n.toNat (by omega)
  rw [show (0 : Int) + (n.toNat : Int) = n by omega] at e ed
  have e' := (r_sound 200).1 n [] 0 m h0 (by omega) (by omega) e
  refine ⟨m, e, el, ed, e', fun k hk => ?_⟩
  have : quireref04_roman.f 200 n = some ⟨m.toArray⟩ := ((rom_same 200).1 n _ 0).symm.trans e'
  exact leO_le (f := fun k => quireref04_roman.f k n) (fun k => quireref04_roman.mono n k) this hk

/-! decimal numbers -/
theorem digit (d : Nat) (h : d < 10) (k : Nat) : quireref04_dec.f (k + 1) (d : Int) = some ⟨(Go.Lib.decDigits d).toArray⟩ := by
  have hd : d = 0 ∨ d = 1 ∨ d = 2 ∨ d = 3 ∨ d = 4 ∨ d = 5 ∨ d = 6 ∨ d = 7 ∨ d = 8 ∨ d = 9 := by omega
  have e : Go.Lib.decDigits d = [UInt8.ofNat (48 + d)] := by rw [Go.Lib.decDigits, dif_pos h]
  rw [e]
  rcases hd with rfl | rfl | rfl | rfl | rfl | rfl | rfl | rfl | rfl | rfl <;> (simp only [quireref04_dec.f]; rw [if_pos (by decide +kernel), if_pos (by decide +kernel), if_pos (by decide +kernel), if_pos (by decide +kernel)]; decide +kernel)
theorem len10 (u : Nat) (h : u < 10) : (Go.Lib.decDigits u).length = 1 := by rw [Go.Lib.decDigits, dif_pos h]; rfl
theorem dec_same : ∀ (k u : Nat), u < 10 ^ (k + 1) → k ≤ 15 → (Go.Lib.decDigits u).length ≤ k + 1 ∧ quireref04_dec.f (k + 1) (u : Int) = some ⟨(Go.Lib.decDigits u).toArray⟩
  | 0, u, h, _ => ⟨by rw [len10 u (by simpa using h)]; exact Nat.le_refl _, digit u (by simpa using h) 0⟩
  | k + 1, u, h, hk => by
    by_cases hu : u < 10
    · exact ⟨by rw [len10 u hu]; omega, digit u hu (k + 1)⟩
    · have hp : 10 ^ (k + 1 + 1) = 10 ^ (k + 1) * 10 := Nat.pow_succ ..
      have hq : 10 ^ (k + 1 + 1) ≤ 10 ^ 17 := Nat.pow_le_pow_right (by omega) (by omega)
      obtain ⟨l1, e1⟩ := dec_same k (u / 10) (by omega) (by omega)
      have e2 := digit (u % 10) (by omega) k
      have l2 := len10 (u % 10) (by omega)
      have ed : Go.Lib.decDigits u = Go.Lib.decDigits (u / 10) ++ [UInt8.ofNat (48 + u % 10)] := by rw [Go.Lib.decDigits, dif_neg hu]
      have ee : Go.Lib.decDigits (u % 10) = [UInt8.ofNat (48 + u % 10)] := by rw [Go.Lib.decDigits, dif_pos (by omega)]
      refine ⟨by rw [ed]; simp; omega, ?_⟩
      have w1 : wrap64 (Int.tdiv (u : Int) 10) = ((u / 10 : Nat) : Int) := by rw [Int.tdiv_eq_ediv_of_nonneg (by omega)]; unfold wrap64; omega
      have w2 : Int.tmod (u : Int) 10 = ((u % 10 : Nat) : Int) := by rw [Int.tmod_eq_emod_of_nonneg (by omega)]; omega
      have s1 : (⟨(Go.Lib.decDigits (u / 10)).toArray⟩ : ByteArray).size = (Go.Lib.decDigits (u / 10)).length := by simp [ByteArray.size]
      have s2 : (⟨(Go.Lib.decDigits (u % 10)).toArray⟩ : ByteArray).size = (Go.Lib.decDigits (u % 10)).length := by simp [ByteArray.size]
      show quireref04_dec.f ((k + 1) + 1) (u : Int) = _
      rw [quireref04_dec.f, if_neg (by omega), w1, w2, e1]
      simp only [Option.bind_some]
      rw [e2]
      simp only [Option.bind_some]
      rw [if_pos (by rw [s1, s2]; omega), ba_append, ed, ee]
theorem dec_label (n : Int) (h0 : 0 ≤ n) (h1 : n ≤ 3999) : ∃ r : List UInt8, r = Go.Lib.decDigits n.toNat ∧ r.length ≤ 4 ∧ strconv_Itoa_22.f n = some ⟨r.toArray⟩ ∧ ∀ k, 4 ≤ k → quireref04_dec.f k n = some ⟨r.toArray⟩ := by
  obtain ⟨l, e⟩ := dec_same 3 n.toNat (by omega) (by omega)
  rw [show ((n.toNat : Nat) : Int) = n by omega] at e
  refine ⟨_, rfl, l, ?_, fun k hk => leO_le (f := fun k => quireref04_dec.f k n) (fun k => quireref04_dec.mono n k) e hk⟩
  unfold strconv_Itoa_22.f Go.Lib.itoa
  rw [if_pos ⟨h0, h1⟩, if_neg (by omega)]

def val10 (l : List UInt8) : Int := l.foldl (fun a c => a * 10 + ((c.toNat : Int) - 48)) 0
theorem val10_snoc (l : List UInt8) (c : UInt8) : val10 (l ++ [c]) = val10 l * 10 + ((c.toNat : Int) - 48) := by simp [val10, List.foldl_append]
theorem val10_dec (u : Nat) : val10 (Go.Lib.decDigits u) = u := by
  induction u using Nat.strongRecOn with
  | _ u ih =>
    have hd : ∀ d : Nat, d < 10 → (((UInt8.ofNat (48 + d)).toNat : Int) - 48) = d := by
      intro d hd
      have : (UInt8.ofNat (48 + d)).toNat = 48 + d := by simp [UInt8.toNat_ofNat]; omega
      rw [this]; omega
    by_cases h : u < 10
    · rw [Go.Lib.decDigits, dif_pos h]
      have := hd u h
      show (0 : Int) * 10 + _ = _
      rw [this]; omega
    · rw [Go.Lib.decDigits, dif_neg h, val10_snoc, ih (u / 10) (by omega), hd (u % 10) (by omega)]
      omega
/-! labels -/
/-- The number that a label tells, on the levels 0 to 2. -/
def lab (level : Int) (l : List UInt8) : Int := if level = 0 then val10 l.dropLast else if level = 1 then dec26 l.dropLast else rdec l.dropLast
theorem toList_app (l : List UInt8) (c : UInt8) : ((⟨l.toArray⟩ : ByteArray) ++ (⟨#[c]⟩ : ByteArray)).toList.dropLast = l := by
  rw [ba_append, Go.ByteArray.toList_mk]
  simp
/-- A label that may be: the program's. -/
theorem label_in (level n : Int) (h0 : 0 ≤ level) (h1 : level ≤ 3) (h2 : 1 ≤ n) (h3 : n ≤ 3999) : ∃ b : ByteArray, (∀ k, 1 ≤ k → number_Label.f k level n = some (b, 0)) ∧ (∀ k, 4100 ≤ k → quireref04_Label.f k level n = some b) ∧ (level ≤ 2 → lab level b.toList = n) := by
  obtain ⟨rd_, dq, dl, d1, d2⟩ := dec_label n (by omega) h3
  obtain ⟨rl, l1, _, ll, lq, l2⟩ := letters_same n (by omega) h3
  obtain ⟨rr, _, rl', mq, m1, m2⟩ := roman_same n (by omega) h3
  have hsz : ∀ l : List UInt8, (⟨l.toArray⟩ : ByteArray).size = l.length := fun l => by simp [ByteArray.size]
  have key : ∀ b : ByteArray, ((if n < 1 then some ((⟨#[]⟩ : ByteArray), (5 : Int)) else if n > 3999 then some ((⟨#[]⟩ : ByteArray), 5) else (if level = 0 then ((strconv_Itoa_22.f n).bind fun t101 => (if t101.size + 1 ≤ 9223372036854775807 then (some (t101 ++ (⟨#[46]⟩ : ByteArray), 0)) else (none))) else (if level = 1 then ((number_letters.f n).bind fun t102 => (if t102.size + 1 ≤ 9223372036854775807 then (some (t102 ++ (⟨#[41]⟩ : ByteArray), 0)) else (none))) else (if level = 2 then ((number_roman.f n).bind fun t103 => (if t103.size + 1 ≤ 9223372036854775807 then (some (t103 ++ (⟨#[46]⟩ : ByteArray), 0)) else (none))) else (some ((⟨#[45]⟩ : ByteArray), 0)))))) = some (b, 0)) → ∀ k, 1 ≤ k → number_Label.f k level n = some (b, 0) := by
    intro b hb k hk
    obtain ⟨k, rfl⟩ : ∃ m, k = m + 1 := ⟨k - 1, by omega⟩
    unfold number_Label.f
    rw [if_neg (by omega)]
    have hd : decide (level > 3) = false := decide_eq_false (by omega)
    rw [hd]
    simp only [number_Label.j0]
    rw [if_neg Bool.false_ne_true]
    exact hb
  have hl : level = 0 ∨ level = 1 ∨ level = 2 ∨ level = 3 := by omega
  have n1 : ¬ n < 1 := by omega
  have n2 : ¬ n > 3999 := by omega
  rcases hl with rfl | rfl | rfl | rfl
  · refine ⟨(⟨rd_.toArray⟩ : ByteArray) ++ (⟨#[46]⟩ : ByteArray), key _ ?_, fun k hk => ?_, fun hle => ?_⟩
    · rw [if_neg n1, if_neg n2, if_pos rfl, d1]
      simp only [Option.bind_some]
      rw [if_pos (by rw [hsz]; omega)]
    · unfold quireref04_Label.f
      rw [if_pos rfl, d2 k (by omega)]
      simp only [Option.bind_some]
      rw [if_pos (by rw [hsz]; omega)]
    · rw [lab, if_pos rfl, toList_app, dq, val10_dec]
      omega
  · have hs : (strOfNums rl).size ≤ 50 := by rw [strOfNums_size]; exact ll
    refine ⟨strOfNums rl ++ (⟨#[41]⟩ : ByteArray), key _ ?_, fun k hk => ?_, fun hle => ?_⟩
    · rw [if_neg n1, if_neg n2, if_neg (by omega), if_pos rfl, l1]
      simp only [Option.bind_some]
      rw [if_pos (by omega)]
    · unfold quireref04_Label.f
      rw [if_neg (by omega), if_pos rfl, l2 k hk]
      simp only [Option.bind_some]
      rw [if_pos (by omega)]
    · rw [lab, if_neg (by omega), if_pos rfl]
      exact (congrArg dec26 (toList_app _ _)).trans lq
  · refine ⟨(⟨rr.toArray⟩ : ByteArray) ++ (⟨#[46]⟩ : ByteArray), key _ ?_, fun k hk => ?_, fun hle => ?_⟩
    · rw [if_neg n1, if_neg n2, if_neg (by omega), if_neg (by omega), if_pos rfl, m1]
      simp only [Option.bind_some]
      rw [if_pos (by rw [hsz]; omega)]
    · unfold quireref04_Label.f
      rw [if_neg (by omega), if_neg (by omega), if_pos rfl, m2 k (by omega)]
      simp only [Option.bind_some]
      rw [if_pos (by rw [hsz]; omega)]
    · rw [lab, if_neg (by omega), if_neg (by omega), toList_app, mq]
  · refine ⟨(⟨#[45]⟩ : ByteArray), key _ ?_, fun k hk => ?_, fun hle => ?_⟩
    · rw [if_neg n1, if_neg n2, if_neg (by omega), if_neg (by omega), if_neg (by omega)]
    · unfold quireref04_Label.f
      rw [if_neg (by omega), if_neg (by omega), if_neg (by omega)]
    · omega
theorem label_level (level n : Int) (h : level < 0 ∨ 3 < level) (k : Nat) (hk : 1 ≤ k) : number_Label.f k level n = some (⟨#[]⟩, 2) ∧ quireref04_Fits.f k level n = some 2 := by
  obtain ⟨k, rfl⟩ : ∃ m, k = m + 1 := ⟨k - 1, by omega⟩
  unfold number_Label.f quireref04_Fits.f
  rcases h with h | h
  · rw [if_pos h, if_pos h]
    exact ⟨rfl, rfl⟩
  · rw [if_neg (by omega), if_neg (by omega), decide_eq_true (by omega : level > 3)]
    exact ⟨rfl, rfl⟩
theorem label_range (level n : Int) (h0 : 0 ≤ level) (h1 : level ≤ 3) (h : n < 1 ∨ 3999 < n) (k : Nat) (hk : 1 ≤ k) : number_Label.f k level n = some (⟨#[]⟩, 5) ∧ quireref04_Fits.f k level n = some 5 := by
  obtain ⟨k, rfl⟩ : ∃ m, k = m + 1 := ⟨k - 1, by omega⟩
  unfold number_Label.f quireref04_Fits.f
  rw [if_neg (by omega), if_neg (by omega), decide_eq_false (by omega : ¬ level > 3)]
  simp only [number_Label.j0, quireref04_Fits.j0]
  rw [if_neg Bool.false_ne_true, if_neg Bool.false_ne_true]
  rcases h with h | h
  · rw [if_pos h, if_pos h]
    exact ⟨rfl, rfl⟩
  · rw [if_neg (by omega), if_pos (by omega), if_neg (by omega), if_pos (by omega)]
    exact ⟨rfl, rfl⟩
theorem fits_in (level n : Int) (h0 : 0 ≤ level) (h1 : level ≤ 3) (h2 : 1 ≤ n) (h3 : n ≤ 3999) (k : Nat) (hk : 1 ≤ k) : quireref04_Fits.f k level n = some 0 := by
  obtain ⟨k, rfl⟩ : ∃ m, k = m + 1 := ⟨k - 1, by omega⟩
  unfold quireref04_Fits.f
  rw [if_neg (by omega), decide_eq_false (by omega : ¬ level > 3)]
  simp only [quireref04_Fits.j0]
  rw [if_neg Bool.false_ne_true, if_neg (by omega), if_neg (by omega)]
end Go.Proofs.YtkemkpmcgeeieaaDoor.PureLabel
