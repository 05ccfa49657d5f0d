/- Own walks for the law, joined from several texts: what the law reaches, and no more (joined by keeplive.py). -/
import Derived.Test.YtpcpjlbfhbicaaaS4
import Derived.Sort.Walk0
import Derived.Test.YtpcpjlbfhbicaaaT2
section
set_option linter.unusedVariables false
set_option linter.unusedSimpArgs false
namespace Go.Proofs.Ytpcpjlbfhbicaaa.Sh
open Go Go.RowKit Go.Proofs.YtpcpjlbfhbicaaaW.PrintWords Go.Proofs.YtpcpjlbfhbicaaaW.PrintLast Go.Proofs.YtpcpjlbfhbicaaaW.PrintMore Go.Proofs.Ytpcpjlbfhbicaaa.PStyleProps
open Go.Proofs.Ytpcpjlbfhbicaaa.PStyleNearest (S37 k37 z37 rd_T37 at_T37 k37_open k37_openM k37_mk k37_mkM info37)
/-- A name's bytes. -/
def bs (n : ByteArray) : List UInt8 := n.data.toList
theorem bs_inj {a b : ByteArray} (h : bs a = bs b) : a = b := by
  apply ByteArray.ext
  exact Array.toList_inj.1 h
theorem toList_bs (n : ByteArray) : n.toList = bs n := Go.ByteArray.toList_eq n
def ltB (a b : ByteArray) : Bool := decide (bs a < bs b)
theorem less_ltB (a b : ByteArray) : Op.bytesLess a.toList b.toList = ltB a b := by rw [bytesLess_eq, toList_bs, toList_bs]; rfl
def Rises (W : List Sty) : Prop := W.Pairwise fun a b => bs a.1 < bs b.1
def nms (L : List Sty) : List (List UInt8) := L.map fun s => bs s.1
theorem lt_ne {a b : List UInt8} (h : a < b) : a ≠ b := fun e => by subst e; exact List.lt_irrefl _ h
theorem ge_lt {a b : List UInt8} (h : ¬ a < b) (hne : a ≠ b) : b < a := by
  have h1 : b ≤ a := List.not_lt.1 h
  rcases List.le_iff_lt_or_eq.1 h1 with h2 | h2
  · exact h2
  · exact absurd h2.symm hne
/-- What the reference's loop makes: the style in its place, that of the same name left out. -/
def insW (n p : ByteArray) (l : List S37) : Bool → List Sty → List Sty
  | inn, [] => if inn then [] else [(n, p, l)]
  | inn, s :: r => if n == s.1 then insW n p l inn r else if (!inn && ltB n s.1) then (n, p, l) :: s :: insW n p l true r else s :: insW n p l inn r
theorem fnd_cons (s : Sty) (L : List Sty) (m : ByteArray) : fnd (s :: L) m = if m = s.1 then some s else fnd L m := by
  by_cases c : m = s.1
  · rw [if_pos c, c]; simp only [fnd, List.find?_cons, ba_refl]
  · rw [if_neg c]; simp only [fnd, List.find?_cons, ba_ne c]
theorem insW_true (n p : ByteArray) (l : List S37) : ∀ W : List Sty, insW n p l true W = W.filter fun s => !(n == s.1)
  | [] => rfl
  | s :: r => by
    rw [insW, insW_true n p l r, List.filter_cons]
    cases n == s.1 with
    | true => rfl
    | false => rfl
theorem fnd_filter (n m : ByteArray) : ∀ W : List Sty, fnd (W.filter fun s => !(n == s.1)) m = if m = n then none else fnd W m
  | [] => by split <;> rfl
  | s :: r => by
    have ih := fnd_filter n m r
    rw [List.filter_cons, fnd_cons]
    cases c : n == s.1 with
    | true =>
      have e := ba_eq c
      simp only [Bool.not_true, Bool.false_eq_true, if_false]
      rw [ih]
      by_cases h : m = n
      · rw [if_pos h, if_pos h]
      · rw [if_neg h, if_neg h, if_neg (by rw [← e]; exact h)]
    | false =>
      have e : n ≠ s.1 := fun e => by rw [e, ba_refl] at c; cases c
      simp only [Bool.not_false, if_true]
      rw [fnd_cons, ih]
      by_cases h : m = n
      · rw [if_pos h, if_neg (by rw [h]; exact e), if_pos h]
      · rw [if_neg h, if_neg h]
theorem fnd_insW (n p : ByteArray) (l : List S37) (m : ByteArray) : ∀ W : List Sty, fnd (insW n p l false W) m = if m = n then some (n, p, l) else fnd W m
  | [] => by
    show fnd [(n, p, l)] m = _
    rw [fnd_cons]
  | s :: r => by
    have ih := fnd_insW n p l m r
    rw [insW]
    cases c : n == s.1 with
    | true =>
      have e := ba_eq c
      simp only [if_true]
      rw [ih, fnd_cons]
      by_cases h : m = n
      · rw [if_pos h, if_pos h]
      · rw [if_neg h, if_neg h, if_neg (by rw [← e]; exact h)]
    | false =>
      have e : n ≠ s.1 := fun e => by rw [e, ba_refl] at c; cases c
      simp only [Bool.false_eq_true, if_false, Bool.not_false, Bool.true_and]
      cases ltB n s.1 with
      | true =>
        simp only [if_true]
        rw [fnd_cons, fnd_cons, insW_true, fnd_filter, fnd_cons]
        by_cases h : m = n
        · rw [if_pos h, if_pos h]
        · rw [if_neg h, if_neg h, if_neg h]
      | false =>
        simp only [Bool.false_eq_true, if_false]
        rw [fnd_cons, ih, fnd_cons]
        by_cases h : m = n
        · rw [if_pos h, if_neg (by rw [h]; exact e), if_pos h]
        · rw [if_neg h, if_neg h]
theorem mem_insW {n p : ByteArray} {l : List S37} {x : Sty} : ∀ {W : List Sty} {inn : Bool}, x ∈ insW n p l inn W → (x = (n, p, l) ∧ inn = false) ∨ (x ∈ W ∧ n ≠ x.1)
  | [], inn, h => by
    rw [insW] at h
    cases inn with
    | true => cases h
    | false => exact .inl ⟨List.mem_singleton.1 h, rfl⟩
  | s :: r, inn, h => by
    rw [insW] at h
    cases c : n == s.1 with
    | true =>
      rw [c, if_pos rfl] at h
      rcases mem_insW h with h | h
      · exact .inl h
      · exact .inr ⟨List.mem_cons_of_mem _ h.1, h.2⟩
    | false =>
      have e : n ≠ s.1 := fun e => by rw [e, ba_refl] at c; cases c
      rw [c, if_neg (by decide)] at h
      cases d : (!inn && ltB n s.1) with
      | true =>
        rw [d, if_pos rfl] at h
        have hi : inn = false := by cases inn with | true => cases d | false => rfl
        rcases List.mem_cons.1 h with h | h
        · exact .inl ⟨h, hi⟩
        · rcases List.mem_cons.1 h with rfl | h
          · exact .inr ⟨List.mem_cons_self, e⟩
          · rcases mem_insW h with h | h
            · cases h.2
            · exact .inr ⟨List.mem_cons_of_mem _ h.1, h.2⟩
      | false =>
        rw [d, if_neg (by decide)] at h
        rcases List.mem_cons.1 h with rfl | h
        · exact .inr ⟨List.mem_cons_self, e⟩
        · rcases mem_insW h with h | h
          · exact .inl h
          · exact .inr ⟨List.mem_cons_of_mem _ h.1, h.2⟩
theorem rises_insW (n p : ByteArray) (l : List S37) : ∀ {W : List Sty}, Rises W → Rises (insW n p l false W)
  | [], _ => List.pairwise_singleton _ _
  | s :: r, h => by
    obtain ⟨h1, h2⟩ := List.pairwise_cons.1 h
    rw [insW]
    cases c : n == s.1 with
    | true =>
      rw [if_pos rfl]
      exact rises_insW n p l h2
    | false =>
      have e : n ≠ s.1 := fun e => by rw [e, ba_refl] at c; cases c
      rw [if_neg (by decide)]
      cases d : ltB n s.1 with
      | true =>
        have hlt : bs n < bs s.1 := of_decide_eq_true d
        simp only [Bool.not_false, Bool.true_and, if_true]
        refine List.pairwise_cons.2 ⟨fun x hx => ?_, List.pairwise_cons.2 ⟨fun x hx => ?_, ?_⟩⟩
        · rcases List.mem_cons.1 hx with rfl | hx
          · exact hlt
          · rcases mem_insW hx with hx | hx
            · cases hx.2
            · exact List.lt_trans hlt (h1 x hx.1)
        · rcases mem_insW hx with hx | hx
          · cases hx.2
          · exact h1 x hx.1
        · rw [insW_true]; exact h2.filter _
      | false =>
        have hge : bs s.1 < bs n := ge_lt (of_decide_eq_false d) (fun h => e (bs_inj h))
        simp only [Bool.not_false, Bool.true_and, Bool.false_eq_true, if_false]
        refine List.pairwise_cons.2 ⟨fun x hx => ?_, rises_insW n p l h2⟩
        rcases mem_insW hx with ⟨rfl, _⟩ | hx
        · exact hge
        · exact h1 x hx.1
theorem nms_true (n p : ByteArray) (l : List S37) (W : List Sty) : nms (insW n p l true W) = (nms W).filter fun a => !(a == bs n) := by
  rw [insW_true, nms, nms, List.filter_map]
  congr 1
  refine List.filter_congr fun s _ => ?_
  show (!(n == s.1)) = !(bs s.1 == bs n)
  congr 1
  cases c : n == s.1 with
  | true => rw [ba_eq c]; exact (beq_self_eq_true _).symm
  | false =>
    symm
    rw [beq_eq_false_iff_ne]
    intro e
    rw [bs_inj e, ba_refl] at c; cases c
theorem perm_insW (n p : ByteArray) (l : List S37) : ∀ W : List Sty, (nms (insW n p l false W)).Perm (bs n :: (nms W).filter fun a => !(a == bs n))
  | [] => List.Perm.refl _
  | s :: r => by
    have ih := perm_insW n p l r
    rw [insW]
    have hs : nms (s :: r) = bs s.1 :: nms r := rfl
    rw [hs, List.filter_cons]
    cases c : n == s.1 with
    | true =>
      have e := ba_eq c
      have e2 : (bs s.1 == bs n) = true := by rw [e]; exact beq_self_eq_true _
      rw [if_pos rfl, e2]
      simpa using ih
    | false =>
      have e : n ≠ s.1 := fun e => by rw [e, ba_refl] at c; cases c
      have e2 : (bs s.1 == bs n) = false := beq_eq_false_iff_ne.2 (fun h => e (bs_inj h.symm))
      rw [if_neg (by decide), e2]
      simp only [Bool.not_false, Bool.true_and, if_true]
      cases d : ltB n s.1 with
      | true =>
        simp only [if_true]
        show (bs n :: bs s.1 :: nms (insW n p l true r)).Perm _
        rw [nms_true]
      | false =>
        simp only [Bool.false_eq_true, if_false]
        show (bs s.1 :: nms (insW n p l false r)).Perm _
        exact (ih.cons _).trans (List.Perm.swap _ _ _)
/-- The program's sheet and the reference's are alike. -/
structure Alike (L W : List Sty) : Prop where
  same : ∀ n, fnd L n = fnd W n
  names : (nms L).Perm (nms W)
  rises : Rises W
theorem Alike.nil : Alike [] [] := ⟨fun _ => rfl, List.Perm.refl _, List.Pairwise.nil⟩
theorem rises_nodup {W : List Sty} (h : Rises W) : (nms W).Nodup := List.pairwise_map.2 (h.imp fun h => lt_ne h)
theorem nms_mem {L : List Sty} {n : ByteArray} : bs n ∈ nms L ↔ (fnd L n).isSome = true := by
  constructor
  · intro h
    obtain ⟨s, hs, e⟩ := List.mem_map.1 h
    exact mem_fnd (List.mem_map.2 ⟨s, hs, bs_inj e⟩)
  · intro h
    obtain ⟨s, hs, e⟩ := List.mem_map.1 (fnd_mem h)
    exact List.mem_map.2 ⟨s, hs, by rw [e]⟩
theorem nms_put_there (n p : ByteArray) (l : List S37) : ∀ L : List Sty, (fnd L n).isSome = true → nms (putL L n p l) = nms L
  | [], h => by cases h
  | s :: L, h => by
    rw [putL]
    cases c : n == s.1 with
    | true => rw [if_pos rfl]; show bs n :: nms L = bs s.1 :: nms L; rw [ba_eq c]
    | false =>
      rw [if_neg (by decide)]
      rw [fnd_cons, if_neg (fun e => by rw [e, ba_refl] at c; cases c)] at h
      show bs s.1 :: nms (putL L n p l) = bs s.1 :: nms L
      rw [nms_put_there n p l L h]
theorem nms_put_new (n p : ByteArray) (l : List S37) : ∀ L : List Sty, fnd L n = none → nms (putL L n p l) = nms L ++ [bs n]
  | [], _ => rfl
  | s :: L, h => by
    rw [putL]
    cases c : n == s.1 with
    | true => rw [fnd_cons, if_pos (ba_eq c)] at h; cases h
    | false =>
      rw [if_neg (by decide)]
      rw [fnd_cons, if_neg (fun e => by rw [e, ba_refl] at c; cases c)] at h
      show bs s.1 :: nms (putL L n p l) = bs s.1 :: (nms L ++ [bs n])
      rw [nms_put_new n p l L h]
theorem filter_perm {a : List UInt8} : ∀ {l : List (List UInt8)}, l.Nodup → a ∈ l → (a :: l.filter fun b => !(b == a)).Perm l
  | [], _, h => by cases h
  | b :: l, hn, h => by
    obtain ⟨h1, h2⟩ := List.nodup_cons.1 hn
    rw [List.filter_cons]
    by_cases c : b = a
    · subst c
      rw [beq_self_eq_true]
      simp only [Bool.not_true, Bool.false_eq_true, if_false]
      rw [List.filter_eq_self.2 (fun x hx => by rw [Bool.not_eq_true', beq_eq_false_iff_ne]; exact fun e => h1 (e ▸ hx))]
    · rw [beq_eq_false_iff_ne.2 c]
      simp only [Bool.not_false, if_true]
      have hm : a ∈ l := by rcases List.mem_cons.1 h with e | h; exact absurd e.symm c; exact h
      exact (List.Perm.swap _ _ _).trans ((filter_perm h2 hm).cons _)
theorem filter_none {a : List UInt8} {l : List (List UInt8)} (h : a ∉ l) : (l.filter fun b => !(b == a)) = l :=
  List.filter_eq_self.2 (fun x hx => by rw [Bool.not_eq_true', beq_eq_false_iff_ne]; exact fun e => h (e ▸ hx))
theorem Alike.put {L W : List Sty} (h : Alike L W) (n p : ByteArray) (l : List S37) : Alike (putL L n p l) (insW n p l false W) where
  same := fun m => by rw [fnd_put, fnd_insW, h.same]
  rises := rises_insW n p l h.rises
  names := by
    refine List.Perm.trans ?_ (perm_insW n p l W).symm
    cases hf : fnd L n with
    | some s =>
      have hs : (fnd L n).isSome = true := by rw [hf]; rfl
      rw [nms_put_there n p l L hs]
      exact h.names.trans (filter_perm (rises_nodup h.rises) (h.names.mem_iff.1 (nms_mem.2 hs))).symm
    | none =>
      rw [nms_put_new n p l L hf]
      have hno : bs n ∉ nms W := fun hm => by
        have := nms_mem.1 (h.names.mem_iff.2 hm)
        rw [hf] at this; cases this
      rw [filter_none hno]
      exact (List.perm_append_comm).trans (h.names.cons _)
theorem nms_del (n : ByteArray) : ∀ L : List Sty, nms (delL L n) = (nms L).erase (bs n)
  | [] => rfl
  | s :: L => by
    have ih := nms_del n L
    unfold delL at ih ⊢
    rw [List.eraseP_cons]
    show _ = (bs s.1 :: nms L).erase (bs n)
    rw [List.erase_cons]
    cases c : n == s.1 with
    | true =>
      have e2 : (bs s.1 == bs n) = true := by rw [ba_eq c]; exact beq_self_eq_true _
      rw [e2]; rfl
    | false =>
      have e2 : (bs s.1 == bs n) = false := beq_eq_false_iff_ne.2 (fun h => by rw [bs_inj h, ba_refl] at c; cases c)
      rw [e2]
      show bs s.1 :: nms (L.eraseP fun s => n == s.1) = bs s.1 :: (nms L).erase (bs n)
      rw [ih]
theorem fnd_del {W : List Sty} (n m : ByteArray) (hn : (nms W).Nodup) : fnd (delL W n) m = if m = n then none else fnd W m := by
  induction W with
  | nil => split <;> rfl
  | cons s r ih =>
    obtain ⟨h1, h2⟩ := List.nodup_cons.1 (show (bs s.1 :: nms r).Nodup from hn)
    have ih := ih h2
    unfold delL at ih ⊢
    rw [List.eraseP_cons]
    cases c : n == s.1 with
    | true =>
      have e := ba_eq c
      show fnd r m = _
      rw [fnd_cons]
      by_cases h : m = n
      · rw [if_pos h]
        cases hf : fnd r m with
        | none => rfl
        | some x => exact absurd (by rw [← e, ← h]; exact nms_mem.2 (by rw [hf]; rfl)) h1
      · rw [if_neg h, if_neg (by rw [← e]; exact h)]
    | false =>
      have e : n ≠ s.1 := fun e => by rw [e, ba_refl] at c; cases c
      show fnd (s :: r.eraseP fun s => n == s.1) m = _
      rw [fnd_cons, ih, fnd_cons]
      by_cases h : m = n
      · rw [if_pos h, if_neg (by rw [h]; exact e), if_pos h]
      · rw [if_neg h, if_neg h]
theorem Alike.nodup {L W : List Sty} (h : Alike L W) : (nms L).Nodup := h.names.nodup_iff.2 (rises_nodup h.rises)
theorem Alike.del {L W : List Sty} (h : Alike L W) (n : ByteArray) : Alike (delL L n) (delL W n) where
  same := fun m => by rw [fnd_del n m h.nodup, fnd_del n m (rises_nodup h.rises), h.same]
  rises := List.Pairwise.sublist List.eraseP_sublist h.rises
  names := by rw [nms_del, nms_del]; exact h.names.erase _
theorem Alike.len {L W : List Sty} (h : Alike L W) : L.length = W.length := by
  have := h.names.length_eq
  simpa [nms] using this
theorem Alike.upL {L W : List Sty} (h : Alike L W) (n : ByteArray) : upL L n = upL W n := by unfold Sh.upL; rw [h.same]
theorem Alike.setsL {L W : List Sty} (h : Alike L W) (n : ByteArray) : setsL L n = setsL W n := by unfold Sh.setsL; rw [h.same]
/-- Whether a style has this one as its parent. -/
theorem Alike.any {L W : List Sty} (h : Alike L W) (n : ByteArray) : (L.any fun s => s.2.1 == n) = (W.any fun s => s.2.1 == n) := by
  have key : ∀ {L W : List Sty}, (∀ m, fnd L m = fnd W m) → (nms L).Nodup → (L.any fun s => s.2.1 == n) = true → (W.any fun s => s.2.1 == n) = true := by
    intro L W hs hn ha
    obtain ⟨s, hm, hp⟩ := List.any_eq_true.1 ha
    have hf : fnd L s.1 = some s := by
      have : ∀ {L : List Sty}, (nms L).Nodup → s ∈ L → fnd L s.1 = some s := by
        intro L
        induction L with
        | nil => intro _ h; cases h
        | cons t L ih =>
          intro hn hm
          obtain ⟨h1, h2⟩ := List.nodup_cons.1 (show (bs t.1 :: nms L).Nodup from hn)
          rw [fnd_cons]
          rcases List.mem_cons.1 hm with rfl | hm
          · rw [if_pos rfl]
          · rw [if_neg (fun e => h1 (List.mem_map.2 ⟨s, hm, by rw [e]⟩))]
            exact ih h2 hm
      exact this hn hm
    rw [hs] at hf
    exact List.any_eq_true.2 ⟨s, List.mem_of_find?_eq_some hf, hp⟩
  cases h1 : (L.any fun s => s.2.1 == n) with
  | true => exact (key h.same h.nodup h1).symm
  | false =>
    cases h2 : (W.any fun s => s.2.1 == n) with
    | false => rfl
    | true =>
      have := key (fun m => (h.same m).symm) (rises_nodup h.rises) h2
      rw [h1] at this; cases this
/-- The sorted names of the one are the names of the other. -/
theorem Alike.sorted {L W : List Sty} (h : Alike L W) {ns : List ByteArray} (hp : (ns.map bs).Perm (nms L)) (hs : (ns.map bs).Pairwise fun a b => a ≤ b) : ns = W.map (·.1) := by
  have h1 : ns.map bs = nms W := by
    refine List.Perm.eq_of_pairwise (le := fun a b => a ≤ b) (fun a b _ _ h1 h2 => List.le_antisymm h1 h2) hs ?_ (hp.trans h.names)
    exact List.pairwise_map.2 (h.rises.imp fun h => List.le_of_lt h)
  have h2 : nms W = (W.map (·.1)).map bs := by rw [List.map_map]; rfl
  rw [h2] at h1
  exact List.map_inj_right (fun a b e => bs_inj e) |>.1 h1
end Go.Proofs.Ytpcpjlbfhbicaaa.Sh
end
section
set_option linter.unusedVariables false
set_option linter.unusedSimpArgs false
namespace Go.Proofs.Ytpcpjlbfhbicaaa.Sh
open Go Go.RowKit Go.Proofs.YtpcpjlbfhbicaaaW.PrintWords Go.Proofs.YtpcpjlbfhbicaaaW.PrintLast Go.Proofs.YtpcpjlbfhbicaaaW.PrintMore Go.Proofs.Ytpcpjlbfhbicaaa.PStyleProps
open Go.Proofs.Ytpcpjlbfhbicaaa.PStyleNearest (S37 k37 z37 rd_T37 at_T37 k37_open k37_openM k37_mk k37_mkM info37)
/-- A style's row: three cells. -/
def kSt : Kd Ent where
  sz := 3
  E := []
  K := fun _ x cs => cs = [.string x.1, .string x.2.1, x.2.2] ∧ x.2.2.oneCell' = true
  M := fun _ _ _ x cs => cs = [.string x.1, .string x.2.1, x.2.2] ∧ x.2.2.oneCell' = true
  K_len := by rintro w x cs ⟨rfl, _⟩; rfl
  K_one := by
    rintro w x cs ⟨rfl, h⟩ u hu
    simp only [List.mem_cons, List.not_mem_nil, or_false] at hu
    rcases hu with rfl | rfl | rfl
    · rfl
    · rfl
    · exact h
  K_below := fun _ h => h
  K_of_M := fun h => h
  M_mono := fun _ h => h
  M_bound := fun h => h
  M_move := fun _ h => h
  M_lower := fun _ h => h
def zE : Ent := (⟨#[]⟩, ⟨#[]⟩, .slice none 0 0)
theorem at_St {w : World} {A : Option Addr} {n : Nat} {M : List Ent} (h : Kd.C kSt w A n M) (i : Nat) (m : Ent) (hm : M[i]? = some m) (hn : M.length = n) :
    ∃ ad, A = some ad ∧ w.cell? (ad.add (i * 3)) = some (.string m.1) ∧ w.cell? ⟨(ad.add (i * 3)).block, (ad.add (i * 3)).off + 1, none⟩ = some (.string m.2.1) ∧ w.cell? ⟨(ad.add (i * 3)).block, (ad.add (i * 3)).off + 2, none⟩ = some m.2.2 := by
  have hlt : i < M.length := (List.getElem?_eq_some_iff.1 hm).1
  obtain ⟨ad, c, e, _, hK, hc0⟩ := Kd.C_get h zE (i : Int) (by omega) (by omega)
  have hc : ∀ j u, c[j]? = some u → w.cell? (ad.add (i * 3 + j)) = some u := by
    intro j u hj
    have := hc0 j u hj
    rw [Int.toNat_natCast] at this
    exact this
  have hg : M.getD i zE = m := by rw [List.getD_eq_getElem?_getD, hm]; rfl
  have hK' : c = [.string m.1, .string m.2.1, m.2.2] := by
    have := hK.1
    rw [Int.toNat_natCast, hg] at this
    exact this
  subst hK'
  exact ⟨ad, e, hc 0 _ rfl, by rw [← add_field _ _ 1 (by omega)]; exact hc 1 _ rfl, by rw [← add_field _ _ 2 (by omega)]; exact hc 2 _ rfl⟩
/-- The reference's Sheet at p holds the styles W. -/
def RSheet (w : World) (p : Nat) (W : List Sty) : Prop := ∃ (A : Option Addr) (c : Nat) (M : List Ent), w.heap[p]? = some (.cells #[.slice A M.length c] 71 (0, 0)) ∧ M.length ≤ c ∧ Kd.C kSt w A M.length M ∧ Reads w M W
theorem RSheet.below {w w' : World} {p : Nat} {W : List Sty} (h : RSheet w p W) (hb : Below w.heap.size w w') : RSheet w' p W := by
  obtain ⟨A, c, M, h1, h2, h3, h4⟩ := h
  exact ⟨A, c, M, blk_below h1 hb, h2, Kd.C_below h3 hb, h4.imp (fun _ _ h => h.below hb)⟩
theorem RSheet.lt {w : World} {p : Nat} {W : List Sty} (h : RSheet w p W) : p < w.heap.size := by
  obtain ⟨A, c, M, h1, _⟩ := h
  exact blk_lt h1
theorem reads_get {w : World} : ∀ {M : List Ent} {W : List Sty}, Reads w M W → ∀ {i : Nat} {m : Ent}, M[i]? = some m → ∃ s, W[i]? = some s ∧ s.1 = m.1 ∧ s.2.1 = m.2.1 ∧ Sl w m.2.2 s.2.2
  | [], [], _, i, m, h => by simp at h
  | m :: M, s :: W, ⟨h1, h2, h3, h4⟩, 0, x, h => by cases h; exact ⟨s, rfl, h1.symm, h2.symm, h3⟩
  | m :: M, s :: W, ⟨h1, h2, h3, h4⟩, i + 1, x, h => by
    obtain ⟨t, ht, r⟩ := reads_get h4 (i := i) (m := x) (by simpa using h)
    exact ⟨t, by simpa using ht, r⟩
  | [], _ :: _, h, _, _, _ => h.elim
  | _ :: _, [], h, _, _, _ => h.elim
theorem reads_len {w : World} {M : List Ent} {W : List Sty} (h : Reads w M W) : M.length = W.length := by have := congrArg List.length (reads_names h); simpa using this
/-- What At tells. -/
def AtIs (W : List Sty) (n : ByteArray) (i : Int) : Prop := (i = -1 ∧ fnd W n = none) ∨ (0 ≤ i ∧ (∃ s, W[i.toNat]? = some s ∧ s.1 = n ∧ fnd W n = some s) ∧ ∀ j, j < i.toNat → ∀ s, W[j]? = some s → s.1 ≠ n)
theorem fnd_none {W : List Sty} {n : ByteArray} (h : ∀ (j : Nat) (s : Sty), W[j]? = some s → s.1 ≠ n) : fnd W n = none := by
  unfold fnd
  rw [List.find?_eq_none]
  intro s hs
  obtain ⟨j, hj, e⟩ := List.mem_iff_getElem.1 hs
  have := h j s (by rw [List.getElem?_eq_getElem hj, e])
  simpa using ba_ne (fun e => this e.symm)
theorem fnd_first {W : List Sty} {n : ByteArray} {i : Nat} {s : Sty} (hs : W[i]? = some s) (e : s.1 = n) (h : ∀ j, j < i → ∀ s, W[j]? = some s → s.1 ≠ n) : fnd W n = some s := by
  obtain ⟨hi, he⟩ := List.getElem?_eq_some_iff.1 hs
  unfold fnd
  rw [List.find?_eq_some_iff_getElem]
  refine ⟨by rw [e]; exact ba_refl n, i, hi, he, fun j hj => ?_⟩
  have := h j hj _ (List.getElem?_eq_getElem (by omega))
  rw [ba_ne (fun e => this e.symm)]; rfl
set_option maxHeartbeats 4000000 in
set_option maxRecDepth 100000 in
theorem at_calls (p : Nat) (W : List Sty) (n : ByteArray) (w : World) (hs : RSheet w p W) (hl : W.length ≤ 1000) :
    Calls Try.prog 51 #[.pointer (some ⟨p, 0, none⟩), .string n] w fun e w' => (∃ i : Int, e = .returned (.int .i64 i) ∧ AtIs W n i) ∧ w' = w := by
  have hu71 := Try.underlying71
  have hu69 := Try.underlying69
  have hu99 := Try.underlying99
  obtain ⟨A, c, M, h1, hc, hC, hrd⟩ := hs
  obtain ⟨nl, hnl⟩ : ∃ nl, Aside0 (nl = M.length) := ⟨_, ⟨rfl⟩⟩
  rw [← hnl.out] at h1 hC
  have e0 := (blk_cell h1 0).trans rfl
  have HC := Aside0.mk hC
  have HRd := Aside0.mk hrd
  have HLn : Aside0 (nl ≤ 1000) := ⟨by rw [hnl.out, reads_len hrd]; exact hl⟩
  clear h1 hc hC hrd hl
  go_enter Try.func51, Try.ntmps51
  go_wp2
  go_loopg [5] nl (fun kq v5 w' => ∃ i : Int, v5 = .int .i64 i ∧ Aside0 (0 ≤ i ∧ i + kq = nl) ∧ Aside0 (∀ j, j < i.toNat → ∀ s, W[j]? = some s → s.1 ≠ n) ∧ Aside0 (w' = w))
  case atStart => exact ⟨0, rfl, ⟨by omega, by omega⟩, ⟨fun j hj => absurd hj (by simp)⟩, ⟨rfl⟩⟩
  case round =>
    obtain ⟨i, rfl, HI, HE, HW⟩ := hrel
    obtain rfl := HW.out
    cases gk with
    | zero =>
      have hi := HI.out
      have q109 : decide (i < (nl : Int)) = false := decide_eq_false (by omega)
      have HF : Aside0 (fnd W n = none) := ⟨fnd_none fun j s hs => HE.out j (by have := (List.getElem?_eq_some_iff.1 hs).1; have := reads_len HRd.out; have := hnl.out; omega) s hs⟩
      clear hi
      go_wp2
      go_ret
      exact ⟨⟨-1, rfl, .inl ⟨rfl, HF.out⟩⟩, rfl⟩
    | succ k1 =>
      have hi := HI.out
      have p108 : 0 ≤ i := hi.1
      have q108 : i < (nl : Int) := by omega
      have cb1 : decide (i < (nl : Int)) = true := decide_eq_true q108
      have hadd : wrap64 (i + 1) = i + 1 := by have := HLn.out; unfold wrap64; omega
      obtain ⟨m, hm⟩ : ∃ m, M[i.toNat]? = some m := ⟨_, List.getElem?_eq_getElem (by have := hnl.out; omega)⟩
      obtain ⟨ad, ea, ha, _, _⟩ := at_St HC.out i.toNat m hm hnl.out.symm
      obtain ⟨s, hs, g1, _, _⟩ := reads_get HRd.out hm
      subst ea
      have HS := Aside0.mk hs
      have G1 := Aside0.mk g1
      clear hi hm hs g1
      replace p108 := eq_true p108
      replace q108 := eq_true q108
      by_cases c : m.1 = n
      · obtain ⟨a, ha'⟩ : ∃ a, a = m.1 := ⟨_, rfl⟩
        rw [← ha'] at ha c G1
        subst c
        have c' := ba_refl a
        have c'' : (a.toList == a.toList) = true := beq_self_eq_true _
        clear ha'
        go_wp2
        go_ret
        exact ⟨⟨i, rfl, .inr ⟨by have := HI.out; omega, ⟨s, HS.out, G1.out, fnd_first HS.out G1.out HE.out⟩, HE.out⟩⟩, rfl⟩
      · obtain ⟨a, ha'⟩ : ∃ a, a = m.1 := ⟨_, rfl⟩
        rw [← ha'] at ha c G1
        have c' := ba_ne c
        have c'' := list_neq c
        have CN := Aside0.mk c
        clear ha' c
        go_wp2
        go_roundg k1
        case measure => omega
        case rel => exact ⟨i + 1, by first | rfl | rw [hadd], ⟨by have := HI.out; omega, by have := HI.out; omega⟩, ⟨fun j hj t ht => by
          rcases Nat.lt_or_ge j i.toNat with h | h
          · exact HE.out j h t ht
          · obtain rfl : j = i.toNat := by have := HI.out; omega
            rw [HS.out] at ht
            cases ht
            rw [G1.out]; exact CN.out⟩, ⟨rfl⟩⟩
theorem info99 : (Try.prog.info? 99).map (fun i => (i.zero, i.size, i.bytes)) = some (some (.agg #[.string ⟨#[]⟩, .string ⟨#[]⟩, .slice none 0 0]), 3, 56) := by kernel_rfl
theorem kSt_R {w : World} {base : Nat} {ok : Nat → Prop} {v : Value} {M : List Ent} (h : Kd.R kSt 99 w base ok v M) : ∃ A c, v = .slice A M.length c ∧ M.length ≤ c ∧ Kd.C kSt w A M.length M := Kd.R_reads h
set_option maxHeartbeats 4000000 in
set_option maxRecDepth 100000 in
theorem rclone_calls (p : Nat) (W : List Sty) (w : World) (hs : RSheet w p W) (hl : W.length ≤ 1000) :
    Calls Try.prog 33 #[.pointer (some ⟨p, 0, none⟩)] w fun e w' => ∃ p', e = .returned (.pointer (some ⟨p', 0, none⟩)) ∧ w.heap.size ≤ p' ∧ RSheet w' p' W ∧ Below w.heap.size w w' := by
  have hu71 := Try.underlying71
  have hu69 := Try.underlying69
  have hu99 := Try.underlying99
  obtain ⟨A, c, M, h1, hc, hC, hrd⟩ := hs
  obtain ⟨nl, hnl⟩ : ∃ nl, Aside0 (nl = M.length) := ⟨_, ⟨rfl⟩⟩
  rw [← hnl.out] at h1 hC
  have e0 := (blk_cell (blk_below h1 (below_alloc (Below.refl _ _) (.cells #[] 99))) 0).trans rfl
  have HC := Aside0.mk hC
  have HRd := Aside0.mk hrd
  have HLn : Aside0 (nl ≤ 1000) := ⟨by rw [hnl.out, reads_len hrd]; exact hl⟩
  clear h1 hc hC hrd hl
  go_enter Try.func33, Try.ntmps33
  have HO0 : Aside0 (Kd.R kSt 99 (w.alloc (.cells #[] 99)) w.heap.size (fun _ => True) (.slice (some ⟨w.heap.size, 0, none⟩) 0 0) []) := ⟨⟨fun _ _ => trivial, [], World.ownsRow_made w #[] 0 (Nat.le_refl _) (Nat.zero_le _) rfl, Reps.none _ _⟩⟩
  go_wp2_with (first | (at_builtin; refine Kd.R_append_rows kSt (w0 := w) (Rr := fun x cs => cs = [.string x.1, .string x.2.1, x.2.2] ∧ x.2.2.oneCell' = true) w.heap.size rfl (.tmp 3) (.tmp 7) 69 99 (.agg #[.string ⟨#[]⟩, .string ⟨#[]⟩, .slice none 0 0]) 56 rfl Try.underlying69 info99 rfl (by decide) (by omega) (.slice (some ⟨w.heap.size, 0, none⟩) 0 0) [] M A nl c (fun _ => True) (fun _ => False) rfl rfl HO0.out ?aR ?aK (fun _ hk => hk.elim) (fun _ _ => trivial) (below_alloc (Below.refl _ _) _) ?aB ?aL ?_; (case aR => exact Kd.C_below HC.out (below_alloc (Below.refl _ _) _)); (case aK => (intro x cs hx; exact hx)); (case aB => simp); (case aL => (have := HLn.out; simp only [List.length_nil]; omega)); intro v1 w1 ho1 hb1 hg1 hat1; rw [List.nil_append] at ho1; obtain ⟨A3, c3, ev1, q1, q2⟩ := kSt_R ho1; subst ev1; have HB1 := Aside0.mk hb1; have HQ1 := Aside0.mk q1; have HQ2 := Aside0.mk q2; clear ho1 hb1 hg1 hat1 q1 q2))
  go_ret
  have hb2 : Below w.heap.size w (w1.alloc (.cells #[.slice A3 M.length c3] 71)) := below_alloc HB1.out _
  exact ⟨w1.heap.size, rfl, below_size HB1.out, ⟨A3, c3, M, blk_new _ _, HQ1.out, Kd.C_below HQ2.out (below_alloc (Below.refl _ _) _), HRd.out.imp (fun _ _ h => h.below hb2)⟩, hb2⟩
def kStr : Kd ByteArray where
  sz := 1
  E := []
  K := fun _ x cs => cs = [.string x]
  M := fun _ _ _ x cs => cs = [.string x]
  K_len := by rintro w x cs rfl; rfl
  K_one := by rintro w x cs rfl u hu; rw [List.mem_singleton.1 hu]; rfl
  K_below := fun _ h => h
  K_of_M := fun h => h
  M_mono := fun _ h => h
  M_bound := fun h => h
  M_move := fun _ h => h
  M_lower := fun _ h => h
theorem info9 : (Try.prog.info? 9).map (fun i => (i.zero, i.size, i.bytes)) = some (some (.string ⟨#[]⟩), 1, 16) := by kernel_rfl
theorem kStr_TX {w : World} {A : Option Addr} {n : Nat} {xs : List ByteArray} (h : Kd.C kStr w A n xs) (hn : xs.length = n) (i : Nat) (s : ByteArray) (hi : xs[i]? = some s) : ∃ ad, A = some ad ∧ w.cell? (ad.add i) = some (.string s) := by
  have hlt : i < xs.length := (List.getElem?_eq_some_iff.1 hi).1
  obtain ⟨ad, c, e, _, hK, hc0⟩ := Kd.C_get h ⟨#[]⟩ (i : Int) (by omega) (by omega)
  have hg : xs.getD i ⟨#[]⟩ = s := by rw [List.getD_eq_getElem?_getD, hi]; rfl
  have hK' : c = [.string s] := by
    have : c = [.string (xs.getD (i : Int).toNat ⟨#[]⟩)] := hK
    rw [Int.toNat_natCast, hg] at this
    exact this
  subst hK'
  have := hc0 0 _ rfl
  exact ⟨ad, e, by simpa [kStr] using this⟩
end Go.Proofs.Ytpcpjlbfhbicaaa.Sh
end
section
set_option linter.unusedVariables false
set_option linter.unusedSimpArgs false
namespace Go.Proofs.Ytpcpjlbfhbicaaa.Sh
open Go Go.RowKit Go.Proofs.YtpcpjlbfhbicaaaW.PrintWords Go.Proofs.YtpcpjlbfhbicaaaW.PrintLast Go.Proofs.YtpcpjlbfhbicaaaW.PrintMore Go.Proofs.Ytpcpjlbfhbicaaa.PStyleProps
open Go.Proofs.Ytpcpjlbfhbicaaa.PStyleNearest (S37 k37 z37 rd_T37 at_T37 k37_open k37_openM k37_mk k37_mkM info37)
theorem rfit1 (n v : Int) (w : World) : Calls Try.prog 19 #[.agg #[.int .i64 n, .int .i64 v]] w fun e w' => e = .returned (.bool (fitB n v)) ∧ Below w.heap.size w w' := PStyleProps.quireref03_Fits.calls 20 n v _ w (rfits_f n v)
theorem rbase_calls (w : World) : Calls Try.prog 15 #[] w fun e w' => e = .returned (.agg (row base)) ∧ Below w.heap.size w w' := PStyleProps.quireref03_Base.calls 10 12 0 0 0 0 0 0 0 0 1 1 0 0 0 0 0 w rfl
theorem rwith1 (f : Int → Int) (n v : Int) (w : World) (h : fitB n v = true) : Calls Try.prog 20 #[.agg (row f), .agg #[.int .i64 n, .int .i64 v]] w fun e w' => e = .returned (.agg (row (upd f n v))) ∧ Below w.heap.size w w' :=
  rwith_in (f 1) (f 2) (f 3) (f 4) (f 5) (f 6) (f 7) (f 8) (f 9) (f 10) (f 11) (f 12) (f 13) (f 14) (f 15) (f 16) (f 17) n v w (fit_range h).1 (fit_range h).2
set_option maxHeartbeats 4000000 in
set_option maxRecDepth 100000 in
theorem rfits_calls (v : Value) (l : List S37) (w : World) (hv : Sl w v l) : Calls Try.prog 52 #[v] w fun e w' => e = .returned (.int .i64 (setE l)) ∧ Below w.heap.size w w' := by
  obtain ⟨A, c, rfl, hc, hr⟩ := hv
  have hu43 := Try.underlying43
  have hu37 := Try.underlying37
  have HR := Aside0.mk hr
  clear hr hc
  obtain ⟨r, hr0⟩ : ∃ r, Aside0 (setE l = r) := ⟨_, ⟨rfl⟩⟩
  rw [hr0.out]
  by_cases hl : 64 < l.length
  · have d1 : decide ((64 : Int) < (l.length : Int)) = true := decide_eq_true (by omega)
    have d2 : decide (64 < l.length) = true := decide_eq_true hl
    have HE3 : Aside0 (r = 3) := ⟨by rw [← hr0.out]; unfold setE; rw [if_pos hl]⟩
    clear hl hr0
    go_enter Try.func52, Try.ntmps52
    go_wp2
    go_ret
    exact ⟨by rw [HE3.out] <;> rfl, Below.refl _ _⟩
  · have d1 : decide ((64 : Int) < (l.length : Int)) = false := decide_eq_false (by omega)
    have d2 : decide (64 < l.length) = false := decide_eq_false hl
    have HL : Aside0 (l.length ≤ 64) := ⟨by omega⟩
    have HE : Aside0 (r = if allFit l = true then 0 else 2) := ⟨by rw [← hr0.out]; unfold setE; rw [if_neg hl]⟩
    clear hl hr0
    go_enter Try.func52, Try.ntmps52
    go_wp2
    go_loopg [3] l.length (fun kq v3 w' => ∃ i : Int, v3 = .int .i64 i ∧ Aside0 (0 ≤ i ∧ i + kq = l.length) ∧ Aside0 (∀ s ∈ l.take i.toNat, fitB s.f0 s.f1 = true) ∧ Aside0 (Below w.heap.size w w'))
    case atStart => exact ⟨0, rfl, ⟨by omega, by omega⟩, ⟨fun s hs => by simp at hs⟩, ⟨Below.refl _ _⟩⟩
    case round =>
      obtain ⟨i, rfl, HI, HF, HB⟩ := hrel
      cases gk with
      | zero =>
        have hi := HI.out
        have q109 : decide (i < (l.length : Int)) = false := decide_eq_false (by omega)
        have H0 : Aside0 (r = 0) := ⟨by
          rw [HE.out, if_pos]
          have := HF.out
          rw [List.take_of_length_le (by omega)] at this
          exact allFit_iff.2 this⟩
        clear hi
        go_wp2
        go_ret
        exact ⟨by rw [H0.out] <;> rfl, HB.out⟩
      | succ k1 =>
        have hi := HI.out
        have p108 : 0 ≤ i := hi.1
        have q108 : i < (l.length : Int) := by omega
        have cb1 : decide (i < (l.length : Int)) = true := decide_eq_true q108
        have hadd : wrap64 (i + 1) = i + 1 := by have := HL.out; unfold wrap64; omega
        have hg : l[i.toNat]? = some (rd_T37 l i) := by
          unfold rd_T37
          rw [List.getD_eq_getElem?_getD, List.getElem?_eq_getElem (by omega)]
          rfl
        obtain ⟨ad, e108, hx0, hx1⟩ := at_T37 HR.out i p108 q108
        cases e108
        replace hx0 := (HB.out.cell (World.block_lt_of_cell? w _ hx0)).trans hx0
        replace hx1 := (HB.out.cell (World.block_lt_of_cell? w _ hx1)).trans hx1
        have HG := Aside0.mk hg
        have HFit : Aside0 (∀ w', Calls Try.prog 19 #[.agg #[.int .i64 (rd_T37 l i).f0, .int .i64 (rd_T37 l i).f1]] w' fun e w'' => e = .returned (.bool (fitB (rd_T37 l i).f0 (rd_T37 l i).f1)) ∧ Below w'.heap.size w' w'') := ⟨rfit1 _ _⟩
        clear hi hg
        replace p108 := eq_true p108
        replace q108 := eq_true q108
        cases hb : fitB (rd_T37 l i).f0 (rd_T37 l i).f1 with
        | true =>
          rw [hb] at HFit
          have HBb := Aside0.mk hb
          clear hb
          obtain ⟨y0, hy0⟩ : ∃ y0, Aside0 (y0 = (rd_T37 l i).f0) := ⟨_, ⟨rfl⟩⟩
          obtain ⟨y1, hy1⟩ : ∃ y1, Aside0 (y1 = (rd_T37 l i).f1) := ⟨_, ⟨rfl⟩⟩
          rw [← hy0.out] at hx0 HFit
          rw [← hy1.out] at hx1 HFit
          go_wp2_with (first | (go_at_call 19; refine (HFit.out _).mono ?_; rintro x wz ⟨rfl, hb⟩; have HBn := Aside0.mk (below_step HB.out hb); clear HB hb; have HB := HBn; clear HBn))
          go_roundg k1
          case measure => omega
          case rel => exact ⟨i + 1, by first | rfl | rw [hadd], ⟨by have := HI.out; omega, by have := HI.out; omega⟩, ⟨fun s hs => by
            rw [show (i + 1).toNat = i.toNat + 1 by have := HI.out; omega, List.take_add_one, HG.out] at hs
            rcases List.mem_append.1 hs with h | h
            · exact HF.out s h
            · simp at h; subst h; exact HBb.out⟩, HB⟩
        | false =>
          rw [hb] at HFit
          have H2 : Aside0 (r = 2) := ⟨by
            rw [HE.out, if_neg]
            intro ha
            have := allFit_iff.1 ha _ (List.mem_of_getElem? HG.out)
            rw [hb] at this; cases this⟩
          clear hb
          obtain ⟨y0, hy0⟩ : ∃ y0, Aside0 (y0 = (rd_T37 l i).f0) := ⟨_, ⟨rfl⟩⟩
          obtain ⟨y1, hy1⟩ : ∃ y1, Aside0 (y1 = (rd_T37 l i).f1) := ⟨_, ⟨rfl⟩⟩
          rw [← hy0.out] at hx0 HFit
          rw [← hy1.out] at hx1 HFit
          go_wp2_with (first | (go_at_call 19; refine (HFit.out _).mono ?_; rintro x wz ⟨rfl, hb⟩; have HBn := Aside0.mk (below_step HB.out hb); clear HB hb; have HB := HBn; clear HBn))
          go_ret
          exact ⟨by rw [H2.out] <;> rfl, HB.out⟩
def goodB (x : Int) : Bool := decide (97 ≤ x ∧ x ≤ 122) || decide (48 ≤ x ∧ x ≤ 57) || decide (x = 45)
theorem name_loop_good (n : ByteArray) (hs : n.size ≤ 16) : ∀ (kn i : Nat) (b : Bool), i ≤ n.size → PStyleNearest.style_name.l0 kn n (n.size : Int) (i : Int) = some b → (b = true ↔ ∀ j : Nat, i ≤ j → j < n.size → goodB (bt n (j : Int)) = true)
  | 0, i, b, hi, h => by cases h
  | kn + 1, i, b, hi, h => by
    rw [PStyleNearest.style_name.l0] at h
    by_cases c : (i : Int) < (n.size : Int)
    · rw [if_pos c, if_pos (by omega), if_pos c, show wrap64 ((i : Int) + 1) = ((i + 1 : Nat) : Int) by (unfold wrap64; omega)] at h
      have ih := name_loop_good n hs kn (i + 1)
      have step : ∀ b', PStyleNearest.style_name.l0 kn n (n.size : Int) ((i + 1 : Nat) : Int) = some b' → goodB (bt n (i : Int)) = true → (b' = true ↔ ∀ j : Nat, i ≤ j → j < n.size → goodB (bt n (j : Int)) = true) := fun b' hb hg => by
        rw [ih b' (by omega) hb]
        constructor
        · intro H j h1 h2
          rcases Nat.eq_or_lt_of_le h1 with rfl | h3
          · exact hg
          · exact H j h3 h2
        · intro H j h1 h2
          exact H j (by omega) h2
      have stop : goodB (bt n (i : Int)) = false → (false = true ↔ ∀ j : Nat, i ≤ j → j < n.size → goodB (bt n (j : Int)) = true) := fun hg => by
        constructor
        · intro h; cases h
        · intro H
          have := H i (Nat.le_refl _) (by omega)
          rw [hg] at this; exact this
      generalize bt n (i : Int) = x at h step stop
      by_cases hg : goodB x = true
      · refine step b ?_ hg
        unfold goodB at hg
        simp only [Bool.or_eq_true, decide_eq_true_eq] at hg
        repeat' split at h
        all_goals first | exact h | (exfalso; omega)
      · have hg' : goodB x = false := by simpa using hg
        have hb : b = false := by
          unfold goodB at hg'
          simp only [Bool.or_eq_false_iff, decide_eq_false_iff_not] at hg'
          repeat' split at h
          all_goals first | exact (Option.some.inj h).symm | (exfalso; omega)
        subst hb
        exact stop hg'
    · rw [if_neg c] at h
      cases h
      exact ⟨fun _ j h1 h2 => by omega, fun _ => rfl⟩
def nameB (n : ByteArray) : Prop := 1 ≤ n.size ∧ n.size ≤ 16 ∧ ∀ j : Nat, j < n.size → goodB (bt n (j : Int)) = true
theorem name_nameB {kn : Nat} {n : ByteArray} {b : Bool} (h : PStyleNearest.style_name.f kn n = some b) : b = true ↔ nameB n := by
  unfold PStyleNearest.style_name.f at h
  have no : ∀ b, PStyleNearest.style_name.j0 kn n true = some b → b = false := fun b hb => by
    cases kn with
    | zero => cases hb
    | succ k => rw [PStyleNearest.style_name.j0, if_pos rfl] at hb; exact (Option.some.inj hb).symm
  by_cases c : (n.size : Int) < 1
  · rw [if_pos c] at h
    rw [no b h]
    exact ⟨fun h => absurd h (by decide), fun h => absurd h.1 (by omega)⟩
  · rw [if_neg c] at h
    by_cases c2 : (n.size : Int) > 16
    · rw [decide_eq_true c2] at h
      rw [no b h]
      exact ⟨fun h => absurd h (by decide), fun h => absurd h.2.1 (by omega)⟩
    · rw [decide_eq_false c2] at h
      cases kn with
      | zero => cases h
      | succ k =>
        rw [PStyleNearest.style_name.j0, if_neg (by decide)] at h
        rw [name_loop_good n (by omega) k 0 b (Nat.zero_le _) h]
        exact ⟨fun H => ⟨by omega, by omega, fun j hj => H j (Nat.zero_le _) hj⟩, fun H j _ hj => H.2.2 j hj⟩
set_option maxHeartbeats 4000000 in
set_option maxRecDepth 100000 in
theorem rname_calls (n : ByteArray) (w : World) (hl : n.size ≤ 1000) : Calls Try.prog 50 #[.string n] w fun e w' => (∃ b, e = .returned (.bool b) ∧ (b = true ↔ nameB n)) ∧ Below w.heap.size w w' := by
  have HL := Aside0.mk hl
  clear hl
  go_enter Try.func50, Try.ntmps50
  go_wp2
  go_loopg [3] n.size (fun kq v3 w' => ∃ i : Int, v3 = .int .i64 i ∧ Aside0 (0 ≤ i ∧ i + kq = n.size) ∧ Aside0 (∀ j : Nat, j < i.toNat → goodB (bt n (j : Int)) = true) ∧ Aside0 (Below w.heap.size w w'))
  case atStart => exact ⟨0, rfl, ⟨by omega, by omega⟩, ⟨fun j hj => absurd hj (by simp)⟩, ⟨Below.refl _ _⟩⟩
  case round =>
    obtain ⟨i, rfl, HI, HG, HB⟩ := hrel
    cases gk with
    | zero =>
      have hi := HI.out
      have q109 : decide (i < (n.size : Int)) = false := decide_eq_false (by omega)
      have hin : i.toNat = n.size := by omega
      rw [hin] at HG
      clear hi hin HI
      by_cases c1 : 1 ≤ n.size
      · have e1 : decide ((1 : Int) ≤ (n.size : Int)) = true := decide_eq_true (by omega)
        have e2 : decide (1 ≤ n.size) = true := decide_eq_true c1
        by_cases c2 : n.size ≤ 16
        · have e3 : decide ((n.size : Int) ≤ 16) = true := decide_eq_true (by omega)
          have e4 : decide (n.size ≤ 16) = true := decide_eq_true c2
          have HN : Aside0 (nameB n) := ⟨c1, c2, HG.out⟩
          clear c1 c2
          go_wp2
          go_ret
          exact ⟨⟨true, rfl, ⟨fun _ => HN.out, fun _ => rfl⟩⟩, HB.out⟩
        · have e3 : decide ((n.size : Int) ≤ 16) = false := decide_eq_false (by omega)
          have e4 : decide (n.size ≤ 16) = false := decide_eq_false c2
          have HN : Aside0 (¬ nameB n) := ⟨fun h => c2 h.2.1⟩
          clear c1 c2
          go_wp2
          go_ret
          exact ⟨⟨false, rfl, ⟨fun h => absurd h (by decide), fun h => absurd h HN.out⟩⟩, HB.out⟩
      · have e1 : decide ((1 : Int) ≤ (n.size : Int)) = false := decide_eq_false (by omega)
        have e2 : decide (1 ≤ n.size) = false := decide_eq_false c1
        have HN : Aside0 (¬ nameB n) := ⟨fun h => c1 h.1⟩
        clear c1
        go_wp2
        go_ret
        exact ⟨⟨false, rfl, ⟨fun h => absurd h (by decide), fun h => absurd h HN.out⟩⟩, HB.out⟩
    | succ k1 =>
      have hi := HI.out
      have cb1 : decide (i < (n.size : Int)) = true := decide_eq_true (by omega)
      have p8 : 0 ≤ i := hi.1
      have q8 : i < (n.size : Int) := by omega
      have hadd : wrap64 (i + 1) = i + 1 := by have := HL.out; unfold wrap64; omega
      have hx8 := bt_at n i
      obtain ⟨x, hx⟩ : ∃ x, Aside0 (x = bt n i) := ⟨_, ⟨rfl⟩⟩
      rw [← hx.out] at hx8
      have HII : Aside0 (((i.toNat : Nat) : Int) = i) := ⟨by omega⟩
      clear hi
      replace p8 := eq_true p8
      replace q8 := eq_true q8
      by_cases g1 : 97 ≤ x
      all_goals by_cases g2 : x ≤ 122
      all_goals by_cases g3 : 48 ≤ x
      all_goals by_cases g4 : x ≤ 57
      all_goals by_cases g5 : x = 45
      all_goals first
        | (exfalso; omega)
        | have GB : Aside0 (goodB x = true) := ⟨by unfold goodB; simp only [Bool.or_eq_true, decide_eq_true_eq]; omega⟩
        | have GB : Aside0 (goodB x = false) := ⟨by unfold goodB; simp only [Bool.or_eq_false_iff, decide_eq_false_iff_not]; omega⟩
      all_goals
        first
          | have f1 : decide (97 ≤ x) = true := decide_eq_true g1
          | have f1 : decide (97 ≤ x) = false := decide_eq_false g1
      all_goals
        first
          | have f2 : decide (x ≤ 122) = true := decide_eq_true g2
          | have f2 : decide (x ≤ 122) = false := decide_eq_false g2
      all_goals
        first
          | have f3 : decide (48 ≤ x) = true := decide_eq_true g3
          | have f3 : decide (48 ≤ x) = false := decide_eq_false g3
      all_goals
        first
          | have f4 : decide (x ≤ 57) = true := decide_eq_true g4
          | have f4 : decide (x ≤ 57) = false := decide_eq_false g4
      all_goals
        first
          | have f5 : (x == 45) = true := beq_iff_eq.mpr g5
          | have f5 : (x == 45) = false := beq_eq_false_iff_ne.mpr g5
      all_goals clear g1 g2 g3 g4 g5
      all_goals go_wp2
      all_goals first
        | (go_roundg k1
           case measure => omega
           case rel => exact ⟨i + 1, by first | rfl | rw [hadd], ⟨by have := HI.out; omega, by have := HI.out; omega⟩, ⟨fun j hj => by
             rcases Nat.lt_or_ge j i.toNat with h | h
             · exact HG.out j h
             · obtain rfl : j = i.toNat := by have := HI.out; omega
               rw [HII.out, ← hx.out]; exact GB.out⟩, HB⟩)
        | (go_ret
           refine ⟨⟨false, rfl, ⟨fun h => absurd h (by decide), fun h => ?_⟩⟩, HB.out⟩
           have := h.2.2 i.toNat (by have := HI.out; omega)
           rw [HII.out, ← hx.out, GB.out] at this
           cases this)
set_option maxHeartbeats 4000000 in
set_option maxRecDepth 100000 in
theorem rnames_calls (p : Nat) (W : List Sty) (w : World) (hs : RSheet w p W) (hl : W.length ≤ 1000) :
    Calls Try.prog 54 #[.pointer (some ⟨p, 0, none⟩)] w fun e w' => ∃ (B : Option Addr) (cap : Nat), e = .returned (.slice B W.length cap) ∧ TX w' B (W.map (·.1)) ∧ Below w.heap.size w w' := by
  have hu71 := Try.underlying71
  have hu69 := Try.underlying69
  have hu99 := Try.underlying99
  have hu58 := Try.underlying58
  obtain ⟨A, c, M, h1, hc, hC, hrd⟩ := hs
  obtain ⟨nl, hnl⟩ : ∃ nl, Aside0 (nl = M.length) := ⟨_, ⟨rfl⟩⟩
  rw [← hnl.out] at h1 hC
  have H1 := Aside0.mk h1
  have HC := Aside0.mk hC
  have HRd := Aside0.mk hrd
  have HW : Aside0 (nl = W.length) := ⟨by rw [hnl.out, reads_len hrd]⟩
  have HLn : Aside0 (nl ≤ 1000) := ⟨by rw [HW.out]; exact hl⟩
  clear h1 hc hC hrd hl
  go_enter Try.func54, Try.ntmps54
  go_wp2
  go_loopg [3, 4] nl (fun kq v3 v4 w' => ∃ (i : Int) (B : Option Addr) (nb cap : Nat), v3 = .slice B nb cap ∧ v4 = .int .i64 i ∧ Aside0 (0 ≤ i ∧ i + kq = nl) ∧ Aside0 (Kd.R kStr 9 w' w.heap.size (fun _ => True) (.slice B nb cap) ((W.take i.toNat).map (·.1))) ∧ Aside0 (Below w.heap.size w w'))
  case atStart => exact ⟨0, none, 0, 0, rfl, rfl, ⟨by omega, by omega⟩, ⟨Kd.R_nil _ _ _ _ _⟩, ⟨Below.refl _ _⟩⟩
  case round =>
    obtain ⟨i, B, nb, cap, rfl, rfl, HI, HO, HB⟩ := hrel
    have e0 := (blk_cell (blk_below H1.out HB.out) 0).trans rfl
    cases gk with
    | zero =>
      have hi := HI.out
      have q109 : decide (i < (nl : Int)) = false := decide_eq_false (by omega)
      have hin : W.take i.toNat = W := List.take_of_length_le (by have := HW.out; omega)
      rw [hin] at HO
      clear hi hin
      go_wp2
      go_ret
      obtain ⟨B', cap', e, _, hr⟩ := Kd.R_reads HO.out
      injection e with e1 e2 e3
      subst e1 e2 e3
      rw [List.length_map] at hr
      exact ⟨B, cap, by rw [List.length_map] <;> rfl, fun i s h => kStr_TX hr (by rw [List.length_map]) i s h, HB.out⟩
    | succ k1 =>
      have hi := HI.out
      have p108 : 0 ≤ i := hi.1
      have q108 : i < (nl : Int) := by omega
      have cb1 : decide (i < (nl : Int)) = true := decide_eq_true q108
      have hadd : wrap64 (i + 1) = i + 1 := by have := HLn.out; unfold wrap64; omega
      obtain ⟨m, hm⟩ : ∃ m, M[i.toNat]? = some m := ⟨_, List.getElem?_eq_getElem (by have := hnl.out; omega)⟩
      obtain ⟨ad, ea, ha, _, _⟩ := at_St HC.out i.toNat m hm hnl.out.symm
      obtain ⟨s, hs, g1, _, _⟩ := reads_get HRd.out hm
      subst ea
      replace ha := (HB.out.cell (World.block_lt_of_cell? w _ ha)).trans ha
      obtain ⟨a, ha'⟩ : ∃ a, Aside0 (a = m.1) := ⟨_, ⟨rfl⟩⟩
      rw [← ha'.out] at ha g1
      have HS : Aside0 ((W.take (i + 1).toNat).map (·.1) = (W.take i.toNat).map (·.1) ++ [a]) := ⟨by
        rw [show (i + 1).toNat = i.toNat + 1 by omega, List.take_add_one, hs, List.map_append]
        simp [g1]⟩
      have HLen : Aside0 (((W.take i.toNat).map (·.1)).length ≤ 1000) := ⟨by rw [List.length_map, List.length_take]; have := HW.out; have := HLn.out; omega⟩
      clear hi hm hs g1
      replace p108 := eq_true p108
      replace q108 := eq_true q108
      generalize (W.take i.toNat).map (·.1) = xs at HO HS HLen
      go_wp2_with (first | (at_builtin; refine Kd.R_append kStr (w0 := w) w.heap.size rfl (.tmp 14) (.tmp 23) 58 9 (.string ⟨#[]⟩) 16 rfl Try.underlying58 info9 rfl (by decide) (by omega) _ xs a [.string a] (fun _ => True) (fun _ => False) rfl rfl rfl (fun _ hk => hk.elim) (fun _ _ => trivial) HO.out HB.out (below_size HB.out) (by have := HLen.out; omega) ?_; intro v1 w1 ho1 hb1 hg1 hat1; have HO1 := Aside0.mk ho1; have HB1 := Aside0.mk hb1; obtain ⟨A3, c3, ev1, q1, q2⟩ := Kd.R_reads ho1; subst ev1; clear ho1 hb1 hg1 hat1 q1 q2))
      go_roundg k1
      case measure => omega
      case rel => exact ⟨i + 1, _, _, _, rfl, by first | rfl | rw [hadd], ⟨by have := HI.out; omega, by have := HI.out; omega⟩, by (rw [HS.out]; first | exact HO1 | (have h := HO1.out; simp only [List.length_append, List.length_cons, List.length_nil, Nat.zero_add] at h; exact ⟨h⟩)), HB1⟩
end Go.Proofs.Ytpcpjlbfhbicaaa.Sh
end
section
set_option linter.unusedVariables false
set_option linter.unusedSimpArgs false
namespace Go.Proofs.Ytpcpjlbfhbicaaa.Sh
open Go Go.RowKit Go.Proofs.YtpcpjlbfhbicaaaW.PrintWords Go.Proofs.YtpcpjlbfhbicaaaW.PrintLast Go.Proofs.YtpcpjlbfhbicaaaW.PrintMore Go.Proofs.Ytpcpjlbfhbicaaa.PStyleProps
open Go.Proofs.Ytpcpjlbfhbicaaa.PStyleNearest (S37 k37 z37 rd_T37 at_T37 k37_open k37_openM k37_mk k37_mkM info37)
set_option maxHeartbeats 4000000 in
set_option maxRecDepth 100000 in
theorem rmakes_calls (f : Int → Int) (v : Value) (l : List S37) (w : World) (hv : Sl w v l) (hf : fitsAll l) (hl : l.length ≤ 64) :
    Calls Try.prog 60 #[.agg (row f), v] w fun e w' => e = .returned (.agg (row (withF f l))) ∧ Below w.heap.size w w' := by
  obtain ⟨A, c, rfl, hc, hr⟩ := hv
  have hu := Try.underlying23
  have hu2 := Try.underlying37
  have hu43 := Try.underlying43
  have HR := Aside0.mk hr
  have HF := Aside0.mk hf
  have HL := Aside0.mk hl
  obtain ⟨r, hr0⟩ : ∃ r, Aside0 (row (withF f l) = r) := ⟨_, ⟨rfl⟩⟩
  rw [hr0.out]
  clear hr hf hc hl
  obtain ⟨R, hR⟩ : ∃ R, Aside0 (row f = R) := ⟨_, ⟨rfl⟩⟩
  have hcells : (Value.agg R).cells = R := by rw [← hR.out]; rfl
  rw [hR.out]
  go_enter Try.func60, Try.ntmps60
  go_wp2_with (first | ((with_reducible refine gate_dst (N := 2) rfl ?_); refine box_event ?hg (N := 2) ?hd (cs := R) (t := 23) ?hr ?_; (case hd => rfl); (case hg => rfl); (case hr => first | (go_simp; done) | (go_simp; rfl)); intro g1 hg w1 hbox hb; have HB1 := Aside0.mk hb; have BK1 := Aside0.mk hbox; have GE1 : Aside0 (w.heap.size ≤ g1) := ⟨by rw [hg]; exact Nat.le_refl _⟩; clear hb hbox hg) | ((with_reducible refine gate_dst (N := 4) rfl ?_); refine box_event ?hg (N := 4) ?hd (cs := #[.int .i64 0, .int .i64 0, .int .i64 0, .int .i64 0, .int .i64 0, .int .i64 0, .int .i64 0, .int .i64 0, .int .i64 0, .int .i64 0, .int .i64 0, .int .i64 0, .int .i64 0, .int .i64 0, .int .i64 0, .int .i64 0, .int .i64 0]) (t := 23) ?hr ?_; (case hd => rfl); (case hg => rfl); (case hr => first | (go_simp; done) | (go_simp; rfl)); intro g3 hg w3 hbox hb; have HB3 := Aside0.mk (below_step HB1.out hb); have BK3 := Aside0.mk hbox; have GE3 : Aside0 (w.heap.size ≤ g3) := ⟨by rw [hg]; exact below_size HB1.out⟩; have N13 : Aside0 (g1 ≠ g3) := ⟨by rw [hg]; exact Nat.ne_of_lt (blk_lt BK1.out)⟩; have BK1b := Aside0.mk (blk_below BK1.out hb); clear hb hbox hg))
  go_loopg [5] l.length (fun kq v5 w' => ∃ i : Int, v5 = .int .i64 i ∧ Aside0 (0 ≤ i ∧ i + kq = l.length) ∧ (∃ fi, Aside0 (row (withF fi (l.drop i.toNat)) = r) ∧ Aside0 (w'.heap[g1]? = some (.cells (row fi) 23 (0, 0)))) ∧ Aside0 (w'.heap[g3]? = some (.cells #[.int .i64 0, .int .i64 0, .int .i64 0, .int .i64 0, .int .i64 0, .int .i64 0, .int .i64 0, .int .i64 0, .int .i64 0, .int .i64 0, .int .i64 0, .int .i64 0, .int .i64 0, .int .i64 0, .int .i64 0, .int .i64 0, .int .i64 0] 23 (0, 0))) ∧ Aside0 (Below w.heap.size w w'))
  case atStart => exact ⟨0, rfl, ⟨by omega, by simp⟩, ⟨f, hr0, by rw [hR.out]; exact BK1b⟩, BK3, HB3⟩
  case round =>
    clear hr0 HB1 HB3 BK1 BK1b BK3 hR hcells
    obtain ⟨i, rfl, HK, ⟨fi, HA, BK1⟩, BK3, HB⟩ := hrel
    cases gk with
    | zero =>
      have hk := HK.out
      have c1 : decide (i < (l.length : Int)) = false := decide_eq_false (by omega)
      have hd : l.drop i.toNat = [] := List.drop_eq_nil_of_le (by omega)
      have ha := HA.out
      rw [hd] at ha
      have ha' : row fi = r := ha
      rw [ha'] at BK1
      have hs : r.size = 17 := by rw [← ha']; rfl
      have h1 : r.all (·.oneCell') = true := by rw [← ha']; exact row_all _
      have HS := Aside0.mk hs
      have HO := Aside0.mk h1
      clear HA ha hd hk ha' hs h1
      go_wp2_with (first | ((with_reducible refine gate_dst (N := 18) rfl ?_); refine wpList_load_row rfl 23 (.tmp 2) rfl g1 rfl 23 r (0, 0) _ BK1.out Try.underlying23 rfl (by rw [HS.out]; exact info23) ?_) | ((with_reducible refine gate_store (t := 23) (p := 4) rfl ?_); refine wpList_store_row rfl 23 (.tmp 4) (.tmp 18) rfl g3 r rfl rfl 23 #[.int .i64 0, .int .i64 0, .int .i64 0, .int .i64 0, .int .i64 0, .int .i64 0, .int .i64 0, .int .i64 0, .int .i64 0, .int .i64 0, .int .i64 0, .int .i64 0, .int .i64 0, .int .i64 0, .int .i64 0, .int .i64 0, .int .i64 0] BK3.out (by rw [HS.out]; exact info23) (by rw [HS.out]; rfl) HO.out ?_; have HB9 := Aside0.mk (below_setRow HB.out GE3.out r); have BK9 := Aside0.mk (setRow_heap _ g3 _ r 23 (0, 0) BK3.out); clear HB BK3; generalize World.setRow _ g3 r = w9 at HB9 BK9 ⊢))
      refine bodyPost_ret (results_cell_row rfl _ _ g3 23 r (0, 0) _ rfl BK9.out Try.underlying23 rfl (by rw [HS.out]; exact info23)) rfl ?_
      exact ⟨rfl, HB9.out⟩
    | succ k1 =>
      have hk := HK.out
      have p108 : 0 ≤ i := hk.1
      have q108 : i < (l.length : Int) := by omega
      have c1 : decide (i < (l.length : Int)) = true := decide_eq_true q108
      have hadd : wrap64 (i + 1) = i + 1 := by have := HL.out; unfold wrap64; omega
      have hg : l[i.toNat]? = some (rd_T37 l i) := by
        unfold rd_T37
        rw [List.getD_eq_getElem?_getD, List.getElem?_eq_getElem (by omega)]
        rfl
      have hfit := HF.out _ (List.mem_of_getElem? hg)
      have hdrop : l.drop i.toNat = rd_T37 l i :: l.drop (i.toNat + 1) := by
        rw [List.drop_eq_getElem_cons (by omega)]
        rw [List.getElem?_eq_getElem (by omega)] at hg
        injection hg with hg
        rw [hg]
      have ha := HA.out
      rw [hdrop] at ha
      have HA' : Aside0 (row (withF (upd fi (rd_T37 l i).f0 (rd_T37 l i).f1) (l.drop (i.toNat + 1))) = r) := ⟨ha⟩
      have HG : Aside0 (∀ w, Calls Try.prog 20 #[.agg (row fi), .agg #[.int .i64 (rd_T37 l i).f0, .int .i64 (rd_T37 l i).f1]] w fun e w' => e = .returned (.agg (row (upd fi (rd_T37 l i).f0 (rd_T37 l i).f1))) ∧ Below w.heap.size w w') := ⟨fun w => rwith1 fi _ _ w hfit⟩
      obtain ⟨ad, e108, hx0, hx1⟩ := at_T37 HR.out i p108 q108
      cases e108
      have HX0 := Aside0.mk hx0
      have HX1 := Aside0.mk hx1
      clear hx0 hx1
      clear ha hdrop hfit hg HA hk
      replace p108 := eq_true p108
      replace q108 := eq_true q108
      have HS : Aside0 ((row fi).size = 17) := ⟨rfl⟩
      have HS2 : Aside0 ((row (upd fi (rd_T37 l i).f0 (rd_T37 l i).f1)).size = 17) := ⟨rfl⟩
      have HO2 : Aside0 ((row (upd fi (rd_T37 l i).f0 (rd_T37 l i).f1)).all (·.oneCell') = true) := ⟨row_all _⟩
      obtain ⟨f2, hf2⟩ : ∃ f2, Aside0 (upd fi (rd_T37 l i).f0 (rd_T37 l i).f1 = f2) := ⟨_, ⟨rfl⟩⟩
      rw [hf2.out] at HA' HG HS2 HO2
      obtain ⟨R2, hR2⟩ : ∃ R2, Aside0 (row f2 = R2) := ⟨_, ⟨rfl⟩⟩
      rw [hR2.out] at HG HS2 HO2
      obtain ⟨R1, hR1⟩ : ∃ R1, Aside0 (row fi = R1) := ⟨_, ⟨rfl⟩⟩
      rw [hR1.out] at HG HS BK1
      generalize (rd_T37 l i).f0 = p0 at HX0 HG
      generalize (rd_T37 l i).f1 = p1 at HX1 HG
      go_upto_region 4 with fail
      refine start_ (n := 7) (S := fun w' => w'.cell? (ad.add (i.toNat * 2)) = some (.int .i64 p0) ∧ w'.cell? ⟨(ad.add (i.toNat * 2)).block, (ad.add (i.toNat * 2)).off + 1, none⟩ = some (.int .i64 p1) ∧ w'.heap[g1]? = some (.cells R1 23 (0, 0)) ∧ w'.heap[g3]? = some (.cells #[.int .i64 0, .int .i64 0, .int .i64 0, .int .i64 0, .int .i64 0, .int .i64 0, .int .i64 0, .int .i64 0, .int .i64 0, .int .i64 0, .int .i64 0, .int .i64 0, .int .i64 0, .int .i64 0, .int .i64 0, .int .i64 0, .int .i64 0] 23 (0, 0)) ∧ Below w.heap.size w w') (ds := [6]) #[false, false, false, false, false, false, false] (by kernel_rfl) rfl rfl ⟨((below_drew1 HB.out).cell (World.block_lt_of_cell? w _ HX0.out)).trans HX0.out, ((below_drew1 HB.out).cell (World.block_lt_of_cell? w _ HX1.out)).trans HX1.out, blk_below BK1.out (below_drew1 (Below.refl _ _)), blk_below BK3.out (below_drew1 (Below.refl _ _)), below_drew1 HB.out⟩ (fun hHeld => ?_)
      refine pure_ (i := 1) (N := some 13) (v := ?_) (a' := ?_) #[false, true, false, false, false, false, false] rfl rfl (by kernel_rfl) (fun _ _ _ h => h) (Or.inl ⟨by rfl, ?_⟩) ?_ ?_
      rotate_left
      · intro w'
        go_simp
        with_reducible rfl
      rotate_left
      · simp only [Act.put, List.setIfInBounds_toArray, List.set_cons_zero, List.set_cons_succ, i64_w, i32_w]
        rfl
      refine pure_ (i := 2) (N := some 14) (v := ?_) (a' := ?_) #[false, true, true, false, false, false, false] rfl rfl (by kernel_rfl) (fun _ _ _ h => h) (Or.inl ⟨by rfl, ?_⟩) ?_ ?_
      rotate_left
      · intro w'
        go_simp
        with_reducible rfl
      rotate_left
      · simp only [Act.put, List.setIfInBounds_toArray, List.set_cons_zero, List.set_cons_succ, i64_w, i32_w]
        rfl
      refine pure_ (i := 3) (N := some 15) (v := ?_) (a' := ?_) #[false, true, true, true, false, false, false] rfl rfl (by kernel_rfl) (fun _ _ _ h => h) (Or.inl ⟨by rfl, ?_⟩) ?_ ?_
      rotate_left
      · intro w'
        go_simp
        with_reducible rfl
      rotate_left
      · simp only [Act.put, List.setIfInBounds_toArray, List.set_cons_zero, List.set_cons_succ, i64_w, i32_w]
        rfl
      refine take_ (i := 0) (N := some 12) (v := ?_) (a' := ?_) #[true, true, true, true, false, false, false] rfl rfl (by kernel_rfl) (fun _ _ _ h => h) (Or.inl ⟨by rfl, ?_⟩) hHeld ?_ ?_
      rotate_left
      · rintro w' ⟨s0, s1, s2, s3, s4⟩
        (refine run_load_row 23 (.tmp 2) ?_ g1 ?_ 23 R1 (0, 0) _ s2 hu rfl (by rw [HS.out]; exact info23) <;> rfl)
      rotate_left
      · simp only [Act.put, List.setIfInBounds_toArray, List.set_cons_zero, List.set_cons_succ, i64_w, i32_w]
        rfl
      refine take_ (i := 4) (N := some 16) (v := ?_) (a' := ?_) #[true, true, true, true, true, false, false] rfl rfl (by kernel_rfl) (fun _ _ _ h => h) (Or.inl ⟨by rfl, ?_⟩) hHeld ?_ ?_
      rotate_left
      · rintro w' ⟨s0, s1, s2, s3, s4⟩
        go_simp
        with_reducible rfl
      rotate_left
      · simp only [Act.put, List.setIfInBounds_toArray, List.set_cons_zero, List.set_cons_succ, i64_w, i32_w]
        rfl
      refine one_ (i := 5) (N := some 17) #[true, true, true, true, true, true, false] rfl rfl (by kernel_rfl) (by decide) (fun K hK => ?_)
      refine goes_ Try.func20 (by kernel_rfl) rfl #[.agg R1, .agg #[.int .i64 p0, .int .i64 p1]] (by rfl) rfl rfl (by (simp only [List.map_toArray, List.map_cons, List.map_nil]); first | done | rfl) ?_
      with_reducible refine (HG.out _).mono ?_
      rintro x wz ⟨rfl, hbz⟩
      refine ⟨_, rfl, ?_⟩
      refine hK.out _ _ ⟨((below_step hHeld.2.2.2.2 hbz).cell (World.block_lt_of_cell? w _ HX0.out)).trans HX0.out, ((below_step hHeld.2.2.2.2 hbz).cell (World.block_lt_of_cell? w _ HX1.out)).trans HX1.out, blk_below hHeld.2.2.1 hbz, blk_below hHeld.2.2.2.1 hbz, below_step hHeld.2.2.2.2 hbz⟩ (fun hHeld => ?_)
      clear hK K
      refine norm_ (a' := ?_) ?_ ?_
      rotate_left
      · show Act.put _ (some 17) _ = _
        simp only [Act.put, List.setIfInBounds_toArray, List.set_cons_zero, List.set_cons_succ, i64_w, i32_w]
        rfl
      refine last_ (i := 6) (N := none) #[true, true, true, true, true, true, true] rfl rfl (by kernel_rfl) (by decide) (fun K hK => ?_)
      refine row_ (by rfl) rfl 23 (.tmp 2) (.tmp 17) rfl g1 R2 rfl rfl 23 R1 hHeld.2.2.1 (by rw [HS2.out]; exact info23) (by rw [HS2.out, HS.out]) HO2.out ?_
      have HBn := Aside0.mk (below_setRow hHeld.2.2.2.2 GE1.out R2)
      have BK1n := Aside0.mk (setRow_heap _ g1 _ R2 23 (0, 0) hHeld.2.2.1)
      have BK3n := Aside0.mk ((setRow_other _ g1 g3 R2 (Ne.symm N13.out)).trans hHeld.2.2.2.1)
      refine hK.out _ _ ?_
      clear hK K
      refine done_ (by kernel_rfl) ?_
      clear hHeld HB BK1 BK3
      go_wp2
      go_roundg k1
      case measure => omega
      case rel => exact ⟨i + 1, by rw [hadd], ⟨by have := HK.out; omega, by have := HK.out; omega⟩, ⟨f2, by rw [show (i + 1).toNat = i.toNat + 1 by have := HK.out; omega]; exact HA', by rw [hR2.out]; exact BK1n⟩, BK3n, HBn⟩
end Go.Proofs.Ytpcpjlbfhbicaaa.Sh
end
