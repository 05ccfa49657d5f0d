/- Proved: for every list of stops, every place and every width, the law TabGoes returns true. No condition but the row's own (each argument reads as data of its type, within the form's reach). -/
import Derived.Test.YtgodjkbccepfoaaPTabGoesx
namespace Go.Proofs.Ytgodjkbccepfoaa.Pure
open Go.RowKit Go.Proofs.Ytgodjkbccepfoaa.PTabGoes Go.Proofs.YtgodjkbccepfoaaW.PrintWords Go.Proofs.YtgodjkbccepfoaaW.PrintLast Go.Proofs.YtgodjkbccepfoaaW.PrintMore

def ok24 (b : S24) : Prop := (fun n : Int => (Lit.int .i64 n).wf = true) b.f0 ∧ (fun n : Int => (Lit.int .i64 n).wf = true) b.f1

/-- A stop may be, behind a place. -/
def ck : Int → List S24 → Int
  | _, [] => 0
  | last, s :: r => if s.f0 ≤ last ∨ 4095 < s.f0 ∨ ¬ (s.f1 = 0 ∨ s.f1 = 2 ∨ s.f1 = 3) then 2 else ck s.f0 r

theorem rd_drop (l : List S24) (i : Nat) (h : i < l.length) : l.drop i = rd_T24 l (i : Int) :: l.drop (i + 1) := by
  rw [List.drop_eq_getElem_cons h]
  unfold rd_T24
  simp [List.getD, List.getElem?_eq_getElem h]

theorem w64 (i : Nat) (n : Nat) (h : i ≤ n) (hn : n ≤ 1000000) : wrap64 ((i : Int) + 1) = ((i + 1 : Nat) : Int) := by unfold wrap64; omega

theorem check_l0 (l : List S24) (hn : l.length ≤ 1000000) (d : Nat) : ∀ (k i : Nat) (last : Int), i + d = l.length → d < k → tab_Check.l0 k last l (l.length : Int) (i : Int) = some (ck last (l.drop i)) := by
  induction d with
  | zero =>
    intro k i last hi hk
    obtain ⟨k, rfl⟩ : ∃ m, k = m + 1 := ⟨k - 1, by omega⟩
    simp only [tab_Check.l0]
    rw [if_neg (by omega), List.drop_of_length_le (by omega)]; rfl
  | succ d ih =>
    intro k i last hi hk
    obtain ⟨k, rfl⟩ : ∃ m, k = m + 1 := ⟨k - 1, by omega⟩
    simp only [tab_Check.l0]
    rw [if_pos (by omega), if_pos (by omega), if_pos (by omega), rd_drop l i (by omega), w64 i l.length (by omega) hn]
    simp only [ck]
    have hI := ih k (i + 1) (rd_T24 l i).f0 (by omega) (by omega)
    rw [hI]
    by_cases c1 : (rd_T24 l i).f0 ≤ last
    · simp only [c1, if_true, true_or]
    · by_cases c2 : 4095 < (rd_T24 l i).f0
      · simp only [c1, c2, if_true, if_false, true_or, false_or]
      · by_cases c4 : (rd_T24 l i).f1 = 0
        · simp [c1, c2, c4]
        · by_cases c5 : (rd_T24 l i).f1 = 2
          · simp [c1, c2, c5]
          · by_cases c6 : (rd_T24 l i).f1 = 3
            · simp [c1, c2, c6]
            · simp [c1, c2, c4, c5, c6]

def chk (l : List S24) : Int := if l.length > 16 then 2 else ck 0 l
theorem check_f (l : List S24) (k : Nat) (hk : 20 ≤ k) : tab_Check.f k l = some (chk l) := by
  unfold tab_Check.f chk
  by_cases c : l.length > 16
  · rw [if_pos (by omega), if_pos c]
  · rw [if_neg (by omega), if_neg c]
    have := check_l0 l (by omega) l.length k 0 0 (by omega) (by omega)
    simpa using this
/-- The stop behind a place. -/
def aft : List S24 → Int → Int × Int
  | [], x => (wrap64 ((wrap64 ((wrap64 (Int.tdiv x 48)) + 1)) * 48), 0)
  | s :: r, x => if s.f0 > x then (s.f0, s.f1) else aft r x

theorem ck_sorted : ∀ (l : List S24) (last : Int), ck last l = 0 → (∀ s ∈ l, last < s.f0 ∧ s.f0 ≤ 4095 ∧ (s.f1 = 0 ∨ s.f1 = 2 ∨ s.f1 = 3)) ∧ l.Pairwise (fun a b => a.f0 < b.f0)
  | [], _, _ => ⟨by simp, List.Pairwise.nil⟩
  | s :: r, last, h => by
    simp only [ck] at h
    split at h
    · cases h
    · rename_i c
      have c3 : s.f1 = 0 ∨ s.f1 = 2 ∨ s.f1 = 3 := by omega
      obtain ⟨h1, h2⟩ := ck_sorted r s.f0 h
      refine ⟨?_, List.Pairwise.cons (fun b hb => (h1 b hb).1) h2⟩
      intro t ht
      rcases List.mem_cons.1 ht with rfl | ht
      · exact ⟨by omega, by omega, c3⟩
      · obtain ⟨a, b, c'⟩ := h1 t ht
        exact ⟨by omega, b, c'⟩

theorem aft_at (l : List S24) (x : Int) : ∀ (i : Nat), i ≤ l.length → (∀ j, j < i → (rd_T24 l (j : Int)).f0 ≤ x) → (i < l.length → (rd_T24 l (i : Int)).f0 > x) →
    aft l x = if i < l.length then ((rd_T24 l (i : Int)).f0, (rd_T24 l (i : Int)).f1) else (wrap64 ((wrap64 ((wrap64 (Int.tdiv x 48)) + 1)) * 48), 0) := by
  induction l with
  | nil => intro i hi _ _; simp [aft]
  | cons s r ih =>
    intro i hi h1 h2
    have hs : ∀ j : Nat, rd_T24 (s :: r) ((j + 1 : Nat) : Int) = rd_T24 r (j : Int) := by
      intro j; unfold rd_T24; simp [List.getD]
    cases i with
    | zero =>
      have := h2 (by simp)
      have e : rd_T24 (s :: r) ((0 : Nat) : Int) = s := rfl
      rw [e] at this ⊢
      simp only [aft]
      rw [if_pos this, if_pos (by simp)]
    | succ i =>
      have h0 := h1 0 (by omega)
      have e : rd_T24 (s :: r) ((0 : Nat) : Int) = s := rfl
      rw [e] at h0
      simp only [aft]
      rw [if_neg (by omega), ih i (by simpa using hi) (fun j hj => by have := h1 (j + 1) (by omega); rwa [hs] at this) (fun hl => by have := h2 (by simpa using hl); rwa [hs] at this), hs]
      simp

theorem behind_l0 (l : List S24) (x : Int) (hl : l.length ≤ 1000) (hs : ∀ i j : Nat, i < j → j < l.length → (rd_T24 l (i : Int)).f0 < (rd_T24 l (j : Int)).f0) (d : Nat) : ∀ (k a b : Nat), a ≤ b → b ≤ l.length → b - a ≤ d → d < k →
    (∀ j, j < a → (rd_T24 l (j : Int)).f0 < x) → (∀ j, b ≤ j → j < l.length → ¬ (rd_T24 l (j : Int)).f0 < x) →
    ∃ i : Nat, tab_behind.l0 k l x (a : Int) (b : Int) = some (i : Int) ∧ i ≤ l.length ∧ (∀ j, j < i → (rd_T24 l (j : Int)).f0 < x) ∧ (i < l.length → ¬ (rd_T24 l (i : Int)).f0 < x) := by
  induction d with
  | zero =>
    intro k a b hab hb hd hk h1 h2
    obtain ⟨k, rfl⟩ : ∃ m, k = m + 1 := ⟨k - 1, by omega⟩
    refine ⟨a, ?_, by omega, h1, fun h => h2 a (by omega) h⟩
    simp only [tab_behind.l0]; rw [if_neg (by omega)]
  | succ d ih =>
    intro k a b hab hb hd hk h1 h2
    obtain ⟨k, rfl⟩ : ∃ m, k = m + 1 := ⟨k - 1, by omega⟩
    by_cases c : a < b
    · have e : ((a : Int) + b) / 2 = (((a + b) / 2 : Nat) : Int) := by omega
      simp only [tab_behind.l0]; rw [if_pos (by omega), e]
      by_cases c1 : (rd_T24 l (((a + b) / 2 : Nat) : Int)).f0 < x
      · rw [if_pos c1]
        have e2 : (((a + b) / 2 : Nat) : Int) + 1 = (((a + b) / 2 + 1 : Nat) : Int) := by omega
        rw [e2]
        refine ih k ((a + b) / 2 + 1) b (by omega) hb (by omega) (by omega) (fun j hj => ?_) h2
        by_cases c2 : j = (a + b) / 2
        · rw [c2]; exact c1
        · have := hs j ((a + b) / 2) (by omega) (by omega); omega
      · rw [if_neg c1]
        refine ih k a ((a + b) / 2) (by omega) (by omega) (by omega) (by omega) h1 (fun j hj hjl => ?_)
        by_cases c2 : j = (a + b) / 2
        · rw [c2]; exact c1
        · have := hs ((a + b) / 2) j (by omega) (by omega); omega
    · refine ⟨a, ?_, by omega, h1, fun h => h2 a (by omega) h⟩
      simp only [tab_behind.l0]; rw [if_neg (by omega)]

theorem chk_ok (l : List S24) (h : chk l = 0) : l.length ≤ 16 ∧ ck 0 l = 0 := by
  unfold chk at h
  split at h
  · cases h
  · exact ⟨by omega, h⟩

theorem rd_sorted (l : List S24) (h : l.Pairwise (fun a b => a.f0 < b.f0)) (i j : Nat) (hij : i < j) (hj : j < l.length) : (rd_T24 l (i : Int)).f0 < (rd_T24 l (j : Int)).f0 := by
  have := List.pairwise_iff_getElem.1 h i j (by omega) hj hij
  unfold rd_T24
  simp only [Int.toNat_natCast, List.getD_eq_getElem?_getD, List.getElem?_eq_getElem hj, List.getElem?_eq_getElem (show i < l.length by omega), Option.getD_some]
  exact this

theorem behind_f (l : List S24) (x : Int) (k : Nat) (hk : 20 ≤ k) (hc : chk l = 0) (h0 : 0 ≤ x) (h1 : x ≤ 8190) : tab_behind.f k l x = some (aft l x) := by
  obtain ⟨hl, hck⟩ := chk_ok l hc
  obtain ⟨_, hs⟩ := ck_sorted l 0 hck
  unfold tab_behind.f
  rw [if_pos (by omega)]
  have e : wrap64 (x + 1) = x + 1 := by unfold wrap64; omega
  rw [e]
  obtain ⟨i, hi, hil, hlo, hhi⟩ := behind_l0 l (x + 1) (by omega) (fun i j => rd_sorted l hs i j) 16 k 0 l.length (by omega) (by omega) (by omega) (by omega) (fun j hj => by omega) (fun j hj hjl => by omega)
  have hi' : tab_behind.l0 k l (x + 1) 0 (l.length : Int) = some (i : Int) := hi
  rw [hi', Option.bind_some, aft_at l x i hil (fun j hj => by have := hlo j hj; omega) (fun h => by have := hhi h; omega)]
  by_cases c : i < l.length
  · rw [if_pos (by omega), if_pos (by omega), if_pos c]
  · rw [if_neg (by omega), if_neg c]

def nxt (l : List S24) (x : Int) : Int × Int × Int :=
  if chk l = 0 then (if x < 0 ∨ x > 8190 then (0, 0, 5) else ((aft l x).1, (aft l x).2, 0)) else (0, 0, chk l)
theorem next_f (l : List S24) (x : Int) (k : Nat) (hk : 20 ≤ k) : tab_Next.f k l x = some (nxt l x) := by
  unfold tab_Next.f nxt
  rw [check_f l k hk, Option.bind_some]
  by_cases c : chk l = 0
  · rw [if_pos c, if_pos c]
    by_cases c1 : x < 0
    · rw [if_pos c1, if_pos (.inl c1)]
    · rw [if_neg c1]
      by_cases c2 : x > 8190
      · rw [if_pos c2, if_pos (.inr c2)]
      · rw [if_neg c2, if_neg (by omega), behind_f l x k hk c (by omega) (by omega)]; rfl
  · rw [if_neg c, if_neg c]
theorem aft_pos : ∀ (l : List S24) (x : Int), 0 ≤ x → x ≤ 8190 → (aft l x).1 > x
  | [], x, h0, h1 => by
    have e : Int.tdiv x 48 = x / 48 := Int.tdiv_eq_ediv_of_nonneg h0
    simp only [aft]; rw [e]; unfold wrap64; omega
  | s :: r, x, h0, h1 => by
    simp only [aft]
    split
    · assumption
    · exact aft_pos r x h0 h1

def lnd (l : List S24) (x w : Int) : Int × Int :=
  if (nxt l x).2.2 = 0 then (if w < 0 ∨ w > 8190 then (0, 5) else
    (if (nxt l x).2.1 = 2 then (mx (wrap64 ((nxt l x).1 - w)) x, 0) else if (nxt l x).2.1 = 3 then (mx (wrap64 ((nxt l x).1 - (wrap64 (Int.tdiv w 2)))) x, 0) else ((nxt l x).1, 0))) else (0, (nxt l x).2.2)
theorem nxt_ok (l : List S24) (x : Int) (h : (nxt l x).2.2 = 0) : chk l = 0 ∧ 0 ≤ x ∧ x ≤ 8190 ∧ nxt l x = ((aft l x).1, (aft l x).2, 0) := by
  unfold nxt at h ⊢
  split at h
  · rename_i c
    split at h
    · cases h
    · rename_i c1
      rw [if_pos c, if_neg c1]
      exact ⟨c, by omega, by omega, rfl⟩
  · rename_i c
    exact absurd h c
theorem mx_self (a b : Int) (h : a > b) : mx a b = a := by unfold mx; rw [if_neg (by omega)]
theorem land_f (l : List S24) (x w : Int) (k : Nat) (hk : 20 ≤ k) : tab_Land.f k l x w = some (lnd l x w) := by
  unfold tab_Land.f lnd
  rw [next_f l x k hk, Option.bind_some]
  obtain ⟨k, rfl⟩ : ∃ m, k = m + 1 := ⟨k - 1, by omega⟩
  by_cases c : (nxt l x).2.2 = 0
  · rw [if_pos c, if_pos c]
    by_cases c1 : w < 0
    · rw [if_pos c1, if_pos (.inl c1)]; rfl
    · rw [if_neg c1]
      by_cases c2 : w > 8190
      · rw [decide_eq_true c2, if_pos (.inr c2)]; rfl
      · rw [decide_eq_false c2, if_neg (by omega)]
        simp only [tab_Land.j0]
        rw [if_neg (by decide)]
        split
        · rfl
        · split <;> rfl
  · rw [if_neg c, if_neg c]

theorem known_f : quirelaw08_TabKnown.f 60 = some true := by decide +kernel
theorem up (k d : Nat) : ∀ r, quirelaw08_TabKnown.f k = some r → quirelaw08_TabKnown.f (k + d) = some r := by
  induction d with
  | zero => exact fun r h => h
  | succ d ih => exact fun r h => quirelaw08_TabKnown.mono _ r (ih r h)
theorem known_any (k : Nat) (hk : 60 ≤ k) : quirelaw08_TabKnown.f k = some true := by
  have := up 60 (k - 60) true known_f
  rwa [show 60 + (k - 60) = k by omega] at this

theorem wr (a : Int) (h0 : -1000000 ≤ a) (h1 : a ≤ 1000000) : wrap64 a = a := by unfold wrap64; omega
theorem step48 (x : Int) (h0 : 0 ≤ x) (h1 : x ≤ 8190) : wrap64 ((wrap64 ((wrap64 (Int.tdiv x 48)) + 1)) * 48) = (x / 48 + 1) * 48 := by
  have e : Int.tdiv x 48 = x / 48 := Int.tdiv_eq_ediv_of_nonneg h0
  rw [e, wr (x / 48) (by omega) (by omega), wr (x / 48 + 1) (by omega) (by omega), wr _ (by omega) (by omega)]
theorem aft_le : ∀ (l : List S24) (x : Int), 0 ≤ x → x ≤ 8190 → (∀ s ∈ l, s.f0 ≤ 4095) → (aft l x).1 ≤ 8238
  | [], x, h0, h1, _ => by
    simp only [aft]; rw [step48 x h0 h1]; omega
  | s :: r, x, h0, h1, h => by
    have := h s (by simp)
    simp only [aft]
    split
    · show s.f0 ≤ 8238; omega
    · exact aft_le r x h0 h1 (fun t ht => h t (by simp [ht]))

theorem bare (x w : Int) (h0 : 0 ≤ x) (h1 : x ≤ 8190) (h2 : 0 ≤ w) (h3 : w ≤ 8190) : lnd [] x w = ((x / 48 + 1) * 48, 0) := by
  have hc : chk [] = 0 := rfl
  have hn : nxt [] x = ((x / 48 + 1) * 48, 0, 0) := by
    unfold nxt
    rw [if_pos hc, if_neg (by omega)]
    simp only [aft]
    rw [step48 x h0 h1]
  unfold lnd
  rw [hn]
  simp only [if_true]
  rw [if_neg (by omega)]
  rfl

theorem j2_f (l : List S24) (x w at_ al : Int) (k : Nat) (hk : 30 ≤ k) (hc : chk l = 0) (h0 : 0 ≤ x) (h1 : x ≤ 8190) (h2 : 0 ≤ w) (h3 : w ≤ 8190) (h4 : 0 ≤ at_) (h5 : at_ ≤ 8238) :
    quirelaw08_TabGoes.j2 k l x w true false at_ al = some true := by
  obtain ⟨k, rfl⟩ : ∃ m, k = m + 1 := ⟨k - 1, by omega⟩
  simp only [quirelaw08_TabGoes.j2]
  rw [if_neg (by decide), land_f _ _ _ _ (by omega), bare x w h0 h1 h2 h3, Option.bind_some]
  simp only
  have e : Int.tmod ((x / 48 + 1) * 48) 48 = 0 := Int.mul_tmod_left _ _
  have e2 : wrap64 (x + 48) = x + 48 := by unfold wrap64; omega
  rw [if_pos trivial, e, if_pos rfl, if_neg (by omega), e2, if_neg (by omega), next_f _ _ _ (by omega), Option.bind_some, if_pos trivial]
  unfold nxt
  rw [if_pos hc]
  by_cases c : at_ < 0 ∨ at_ > 8190
  · rw [if_pos c, if_pos rfl]
  · rw [if_neg c]
    have := aft_pos l at_ (by omega) (by omega)
    simp [this]

theorem TabGoes : ∀ (l0 : (List S24)) (a1 : Int) (a2 : Int), (fun l : List S24 => l.length * 16 ≤ 140737488351232 ∧ ∀ x ∈ l, ok24 x) l0 → (fun n : Int => (Lit.int .i64 n).wf = true) a1 → (fun n : Int => (Lit.int .i64 n).wf = true) a2 → ∃ k, quirelaw08_TabGoes.f k l0 a1 a2 = some true := by
  intro l x w _ _ _
  refine ⟨102, ?_⟩
  unfold quirelaw08_TabGoes.f
  rw [known_any _ (by omega), Option.bind_some, next_f _ _ _ (by omega), Option.bind_some, land_f _ _ _ _ (by omega), Option.bind_some]
  by_cases c : (nxt l x).2.2 = 0
  · rw [if_pos c]
    obtain ⟨hc, h0, h1, he⟩ := nxt_ok l x c
    have hp : (nxt l x).1 > x := by rw [he]; exact aft_pos l x h0 h1
    have hq : (nxt l x).1 ≤ 8238 := by
      rw [he]
      exact aft_le l x h0 h1 (fun s hs => ((ck_sorted l 0 (chk_ok l hc).2).1 s hs).2.1)
    unfold lnd
    rw [if_pos c]
    simp only [quirelaw08_TabGoes.j0]
    clear he
    generalize (nxt l x).1 = at_ at hp hq ⊢
    generalize (nxt l x).2.1 = al_
    by_cases c1 : w < 0 ∨ w > 8190
    · rw [if_pos c1]; simp
    · rw [if_neg c1]
      have hl : ∀ a b : Int, mx a b = if a < b then b else a := fun _ _ => rfl
      have J2 := fun (al : Int) (k : Nat) (hk : 30 ≤ k) => j2_f l x w at_ al k hk hc h0 h1 (by omega) (by omega) (by omega) hq
      by_cases c2 : al_ = 2
      · subst c2
        simp only [if_true]
        rw [if_neg (by decide)]
        simp only [quirelaw08_TabGoes.j1]
        rw [wr (at_ - w) (by omega) (by omega), if_neg (by omega), hl]
        by_cases c3 : at_ - w < x
        · rw [if_pos c3, if_neg (by omega), if_neg (by omega), if_pos rfl, decide_eq_false (by omega)]
          exact J2 _ _ (by omega)
        · rw [if_neg c3, if_neg c3]
          by_cases c4 : at_ - w = x
          · rw [if_neg (by omega), if_pos c4, decide_eq_false (by omega)]
            exact J2 _ _ (by omega)
          · rw [if_pos (by omega), if_pos rfl, if_neg c4]
            exact J2 _ _ (by omega)
      · by_cases c5 : al_ = 3
        · have e : Int.tdiv w 2 = w / 2 := Int.tdiv_eq_ediv_of_nonneg (by omega)
          subst c5
          simp only [show ¬ (3 : Int) = 2 by decide, if_true, if_false]
          rw [if_neg (by decide)]
          simp only [quirelaw08_TabGoes.j1]
          rw [e, wr (w / 2) (by omega) (by omega), wr (at_ - w / 2) (by omega) (by omega), if_neg (by omega), hl]
          by_cases c3 : at_ - w / 2 < x
          · rw [if_pos c3, if_neg (by omega), if_neg (by omega), if_pos rfl, decide_eq_false (by omega)]
            exact J2 _ _ (by omega)
          · rw [if_neg c3, if_neg c3]
            by_cases c4 : at_ - w / 2 = x
            · rw [if_neg (by omega), if_pos c4, decide_eq_false (by omega)]
              exact J2 _ _ (by omega)
            · rw [if_pos (by omega), if_pos rfl, if_neg c4]
              exact J2 _ _ (by omega)
        · simp only [c2, c5, if_false]
          rw [if_neg (by decide)]
          simp only [quirelaw08_TabGoes.j1]
          rw [if_neg (by omega), if_neg (by omega), if_pos hp, if_pos trivial, if_neg (by omega)]
          exact J2 _ _ (by omega)
  · rw [if_neg c]; rfl

end Go.Proofs.Ytgodjkbccepfoaa.Pure
