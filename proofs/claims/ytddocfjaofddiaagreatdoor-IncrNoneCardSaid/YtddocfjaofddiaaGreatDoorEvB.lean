/- Proved: a general lemma, of no statement by itself. The operations of the evaluator are sound: what the evaluator yields for a call, the model's machine yields; no condition but those that stand in each theorem. -/
import Derived.Test.YtddocfjaofddiaaGreatDoorEvA
import Derived.Laws.RangeString
import Derived.Laws.StructEq
import Derived.Laws.BytesString
import Derived.Lib.BytesEntry
set_option linter.unusedVariables false
set_option linter.unusedSimpArgs false
namespace Go.Ev
section
variable {P : Program} {σ : Nat → Value} {B : Nat} {w0 : World} {ρ ρ1 ρ2 : Rho} {G G1 G2 : Nat → Option Ent} {h h1 h2 : H} {c c1 c2 : Nat} {w w' : World}
/-- w' is w but for block b -/
structure Other (b : Nat) (w w' : World) : Prop where
  blk : ∀ k, k ≠ b → w'.heap[k]? = w.heap[k]?
  size : w'.heap.size = w.heap.size
  os : w'.os = w.os
  tape : w'.tape = w.tape
  output : w'.output = w.output
theorem Other.refl (b : Nat) (w : World) : Other b w w := ⟨fun _ _ => rfl, rfl, rfl, rfl, rfl⟩
theorem Other.trans {b : Nat} {w w1 w2 : World} (a : Other b w w1) (d : Other b w1 w2) : Other b w w2 :=
  ⟨fun k hk => (d.blk k hk).trans (a.blk k hk), d.size.trans a.size, d.os.trans a.os, d.tape.trans a.tape, d.output.trans a.output⟩
theorem oneCell_eq (v : Value) : v.oneCell' = v.oneCell := by cases v <;> rfl
theorem run_storeRow {b : Nat} {e : TypeId} {fz : Nat × Nat} {o : Nat} : ∀ (vs : List Value) (i : Nat) (c : Array Value) (w : World), w.heap[b]? = some (.cells c e fz) → (∀ i, i < c.size → ¬ (fz.1 ≤ i ∧ i < fz.2)) →
    o + i + vs.length ≤ c.size → (∀ v, v ∈ vs → v.oneCell = true) →
    ∃ w' c', (storeCells ⟨b, o, none⟩ vs i).run P w = .ok () w' ∧ Other b w w' ∧ w'.heap[b]? = some (.cells c' e fz) ∧ c'.size = c.size ∧
      (∀ j, c'[j]? = if o + i ≤ j ∧ j < o + i + vs.length then vs[j - (o + i)]? else c[j]?)
  | [], i, c, w, hh, _, _, _ => ⟨w, c, rfl, Other.refl _ _, hh, rfl, fun j => by simp; intro h1 h2; omega⟩
  | v :: vs, i, c, w, hh, hf, hl, h1 => by
    have hlt : o + i < c.size := by simp at hl; omega
    have hcell : w.cell? ⟨b, o + i, none⟩ = some c[o + i] := by rw [cell_at hh]; exact Array.getElem?_eq_getElem hlt
    have hfr : w.frozen? ⟨b, o + i, none⟩ = false := by
      have := hf (o + i) hlt
      simp only [World.frozen?, hh]
      by_cases hx : fz.1 ≤ o + i
      · have : ¬ o + i < fz.2 := fun hy => this ⟨hx, hy⟩
        simp [hx, this]
      · simp [hx]
    have hst : (store ((⟨b, o, none⟩ : Addr).add i) v).run P w = .ok () (w.setCell ⟨b, o + i, none⟩ v) := by
      rw [add_eq, run_store P w _ v _ (by rw [oneCell_eq]; exact h1 v (by simp)), hcell]
      simp [hfr]
    have hsz : (w.setCell ⟨b, o + i, none⟩ v).heap.size = w.heap.size := by simp [World.setCell]
    have hoth : Other b w (w.setCell ⟨b, o + i, none⟩ v) := ⟨fun k hk => by
      simp only [World.setCell, Array.getElem?_modify]
      rw [if_neg (by omega)], hsz, rfl, rfl, rfl⟩
    have hh' : (w.setCell ⟨b, o + i, none⟩ v).heap[b]? = some (.cells (c.setIfInBounds (o + i) v) e fz) := by
      simp [World.setCell, Array.getElem?_modify, hh]
    obtain ⟨w', c', r1, r2, r3, r4, r5⟩ := run_storeRow (o := o) vs (i + 1) (c.setIfInBounds (o + i) v) _ hh' (by simpa using hf) (by simp at hl ⊢; omega) (fun x hx => h1 x (by simp [hx]))
    refine ⟨w', c', ?_, hoth.trans r2, r3, by simpa using r4, fun j => ?_⟩
    · rw [storeCells, run_bind_ok hst]; exact r1
    · rw [r5 j]
      by_cases hj : j = o + i
      · subst hj
        rw [if_neg (by omega), if_pos (by simp)]
        simp [hlt]
      · by_cases hj2 : o + (i + 1) ≤ j ∧ j < o + (i + 1) + vs.length
        · rw [if_pos hj2, if_pos (by simp; omega)]
          have : j - (o + i) = (j - (o + (i + 1))) + 1 := by omega
          rw [this]; simp
        · rw [if_neg hj2, if_neg (by simp; omega)]
          rw [Array.getElem?_setIfInBounds_ne (by omega)]
/-- the cells of a row that was overwritten -/
theorem over_get {cs vs : List Value} {off : Nat} (hl : off + vs.length ≤ cs.length) (i : Nat) : (cs.take off ++ vs ++ cs.drop (off + vs.length))[i]? = if off ≤ i ∧ i < off + vs.length then vs[i - off]? else cs[i]? := by
  by_cases h1 : i < off
  · rw [if_neg (by omega), List.append_assoc, List.getElem?_append_left (by simp; omega), List.getElem?_take, if_pos h1]
  · by_cases h2 : i < off + vs.length
    · rw [if_pos (by omega), List.append_assoc, List.getElem?_append_right (by simp; omega), List.getElem?_append_left (by simp; omega)]
      congr 1; simp; omega
    · rw [if_neg (by omega), List.getElem?_append_right (by simp; omega), List.getElem?_drop]
      congr 1; simp; omega
theorem wr_ok {n off : Nat} {vs : List Value} {u : Unit} {h' : H} {c' : Nat} (e : wr n off vs h c = .ok u h' c') :
    (vs = [] ∧ h' = h ∧ c' = c) ∨ (vs ≠ [] ∧ ∃ cs g et s, T.get h n = some (.row cs g et s) ∧ off + vs.length ≤ cs.length ∧ h' = T.put (some (.row (cs.take off ++ vs ++ cs.drop (off + vs.length)) g et s)) h n ∧ c' = c) := by
  cases vs with
  | nil => obtain ⟨_, rfl, rfl⟩ := ret_ok.1 e; exact .inl ⟨rfl, rfl, rfl⟩
  | cons v vs =>
    obtain ⟨r, h1, c1, e1, e2⟩ := bnd_ok.1 (show bnd (row n) _ h c = _ from e)
    obtain ⟨cs, g, et, s, rfl, hg, rfl, rfl⟩ := row_ok.1 e1
    obtain ⟨cs', h2, c2, e3, e4⟩ := bnd_ok.1 e2
    obtain ⟨ho, rfl, rfl⟩ := opt_ok.1 e3
    obtain ⟨rfl, hl⟩ := over_some _ _ _ _ ho
    obtain ⟨rfl, rfl⟩ := setEnt_ok.1 e4
    exact .inr ⟨by simp, cs, g, et, s, hg, hl, rfl, rfl⟩
theorem t_wr {n off : Nat} {vs : List Value} {u : Unit} {h' : H} {c' : Nat} (e : wr n off vs h c = .ok u h' c') : Okk h h' c c' := by
  rcases wr_ok e with ⟨_, rfl, rfl⟩ | ⟨_, cs, g, et, s, hg, _, rfl, rfl⟩
  · exact Okk.refl _ _
  · exact Okk.put hg
/-- writing into a row -/
theorem e_wr {n off : Nat} {vs vs' : List Value} {u : Unit} {h' : H} {c' : Nat} {l : Loc} (e : wr n off vs h c = .ok u h' c') (hρ : ρ n = some l) (hr : CR σ ρ vs vs') (hv : View h G) (hM : Match σ B w0 ρ G w) :
    ∃ w' G', (storeCells ⟨l.b, l.d + off, none⟩ vs').run P w = .ok () w' ∧ Post σ B w0 ρ ρ G G' h h' c c' w' := by
  rcases wr_ok e with ⟨rfl, rfl, rfl⟩ | ⟨_, cs, g, et, s, hg, hl, rfl, rfl⟩
  · cases hr.1
    exact ⟨w, G, rfl, Post.refl hM hv⟩
  · obtain ⟨cc, fz, a1, a2, a3, a4, a5, a6, _, _⟩ := row_read hv hM hg hρ
    have hlen := hr.1.length
    have hcs : l.d + cs.length ≤ cc.size := by
      by_cases hg0 : g = 0
      · obtain ⟨b1, b2⟩ := a5 hg0; omega
      · obtain ⟨_, b1, b2, _⟩ := a6 hg0; omega
    obtain ⟨w', c', r1, r2, r3, r4, r5⟩ := run_storeRow (P := P) (o := l.d + off) vs' 0 cc w a1 a2 (by rw [← hlen]; omega) (fun v hv => by
      obtain ⟨i, hi, rfl⟩ := List.mem_iff_getElem.1 hv
      have hi' : i < vs.length := by omega
      obtain ⟨v', e1, e2⟩ := hr.1.get i vs[i] (List.getElem?_eq_getElem hi')
      rw [List.getElem?_eq_getElem hi] at e1
      cases e1
      exact e2.oneCell (hr.2 _ (List.getElem_mem hi')))
    refine ⟨w', _, r1, Post.change hM hv hg hρ r2.blk r2.size r2.os r2.tape r2.output ?_⟩
    have hlen2 : (cs.take off ++ vs ++ cs.drop (off + vs.length)).length = cs.length := by simp; omega
    refine ⟨c', fz, r3, by rw [r4]; exact a2, a3, fun i v hi => ?_, fun h0 => by rw [r4, hlen2]; exact a5 h0, fun h0 => by rw [r4, hlen2]; exact a6 h0⟩
    rw [over_get hl] at hi
    rw [r5]
    by_cases hin : off ≤ i ∧ i < off + vs.length
    · rw [if_pos hin] at hi
      rw [if_pos (by omega)]
      obtain ⟨v', e1, e2⟩ := hr.1.get _ _ hi
      refine ⟨hr.2 v (List.mem_of_getElem? hi), v', ?_, e2⟩
      rw [show l.d + i - (l.d + off + 0) = i - off by omega]; exact e1
    · rw [if_neg hin] at hi
      rw [if_neg (by omega)]
      exact a4 i v hi
/-- a new row -/
theorem e_row {cs : List Value} {arr : Array Value} {gr tot : Nat} {e : TypeId} {s : Bool} {fz : Nat × Nat} (hv : View h G) (hM : Match σ B w0 ρ G w) (hf : ρ c = none)
    (hc : ∀ (i : Nat) v, cs[i]? = some v → v.oneCell = true ∧ ∃ v', arr[i]? = some v' ∧ VR σ ρ v v') (h0 : gr = 0 → arr.size = cs.length) (h1 : gr ≠ 0 → cs.length ≤ tot * gr ∧ tot * gr ≤ arr.size ∧ tot < U)
    (hz : fz = (0, 0) ∨ (s = true ∧ arr.size ≤ fz.1)) (hw : w'.heap = w.heap.push (.cells arr e fz)) (ho : w'.os = w.os) (ht : w'.tape = w.tape) (hu : w'.output = w.output) :
    Post σ B w0 ρ (ext1 ρ c ⟨w.heap.size, 0, tot, gr⟩) G (upd G c (some (.row cs gr e s))) h (T.put (some (.row cs gr e s)) h c) c (c + 1) w' := by
  refine Post.alloc hM hv hf (fun k hk => by rw [hw, Array.getElem?_push_lt hk]; simp [hk]) (by rw [hw]; simp) ho ht hu rfl ?_
  refine ⟨arr, fz, by rw [hw]; simp, fun i hi => ?_, fun hs => ?_, fun i v hi => ?_, fun hg => ⟨rfl, h0 hg⟩, fun hg => ?_⟩
  · rcases hz with rfl | ⟨_, hz⟩
    · simp
    · omega
  · rcases hz with rfl | ⟨hs', _⟩
    · rfl
    · rw [hs'] at hs; cases hs
  · obtain ⟨a, v', b, d⟩ := hc i v hi
    exact ⟨a, v', by rw [Nat.zero_add]; exact b, d.le (ext1_le hf)⟩
  · obtain ⟨a, b, d⟩ := h1 hg
    exact ⟨rfl, a, by rw [Nat.zero_add]; exact b, d⟩
theorem CR.get {xs ys : List Value} (hr : CR σ ρ xs ys) : ∀ (i : Nat) v, xs[i]? = some v → v.oneCell = true ∧ ∃ v', (⟨ys⟩ : Array Value)[i]? = some v' ∧ VR σ ρ v v' := fun i v hi => by
  obtain ⟨v', a, b⟩ := hr.1.get i v hi
  exact ⟨hr.2 v (List.mem_of_getElem? hi), v', by simpa using a, b⟩
/-- a value's cells -/
theorem cellsM_ok {v v' : Value} {l : List Value} {h' : H} {c' : Nat} (e : cellsM v h c = .ok l h' c') (hr : VR σ ρ v v') : CR σ ρ l v'.cells.toList ∧ h' = h ∧ c' = c := by
  have one : ∀ v v' : Value, VR σ ρ v v' → v.oneCell = true → CR σ ρ [v] v'.cells.toList := fun v v' hr ho => by
    have ho' := hr.oneCell ho
    have : v'.cells.toList = [v'] := by cases v' <;> first | rfl | cases ho'
    rw [this]
    exact ⟨.cons _ _ _ _ hr .nil, fun x hx => by simp at hx; rw [hx]; exact ho⟩
  unfold cellsM at e
  cases v <;> first
    | (obtain ⟨rfl, rfl, rfl⟩ := ret_ok.1 e; exact ⟨one _ _ hr rfl, rfl, rfl⟩)
    | (obtain ⟨rfl, rfl, rfl⟩ := ret_ok.1 e; cases hr with | agg _ ys h k => exact ⟨⟨h, k⟩, rfl, rfl⟩)
    | exact (bad_ok.1 e).elim
theorem q_cellsM {v : Value} : Quiet (cellsM v) := by
  intro h c l h' c' e
  unfold cellsM at e
  cases v <;> first | (obtain ⟨_, rfl, rfl⟩ := ret_ok.1 e; exact ⟨rfl, rfl⟩) | exact (bad_ok.1 e).elim
/-- what an operation that yields a value comes to -/
def Ef (P : Program) (σ : Nat → Value) (B : Nat) (w0 : World) (ρ : Rho) {α β : Type} (m : M α) (s : Sem β) (Rel : Rho → α → β → Prop) : Prop :=
  ∀ h c a h' c', m h c = .ok a h' c' → Okk h h' c c' ∧ ∀ G w, View h G → Match σ B w0 ρ G w → (∀ n, c ≤ n → n < c' → ρ n = none) →
    ∃ b w' ρ' G', s.run P w = .ok b w' ∧ Post σ B w0 ρ ρ' G G' h h' c c' w' ∧ Rel ρ' a b
theorem Ef.of_rd {α β : Type} {m : M α} {s : Sem β} {Rel : α → β → Prop} {Rel' : Rho → α → β → Prop} (q : Quiet m) (hm : Rd P σ B w0 ρ m s Rel) (hr : ∀ a b, Rel a b → Rel' ρ a b) : Ef P σ B w0 ρ m s Rel' :=
  fun h c a h' c' e => by
    obtain ⟨rfl, rfl⟩ := q _ _ _ _ _ e
    exact ⟨Okk.refl _ _, fun G w hv hM _ => let ⟨b, e1, hb⟩ := hm _ _ _ _ _ e G w hv hM; ⟨b, w, ρ, G, e1, Post.refl hM hv, hr _ _ hb⟩⟩
/-- alloc, box -/
theorem e_newVar {e : TypeId} {v v' : Value} (hr : VR σ ρ v v') : Ef P σ B w0 ρ (bnd (cellsM v) fun l => bnd (new (.row l 0 e false)) fun b => ret (Value.pointer (some ⟨b, 0, none⟩)))
    (do pure (.pointer (some (← newVar e v')))) (fun ρ' => VR σ ρ') := by
  intro h c a h' c' ev
  obtain ⟨l, h1, c1, e1, e2⟩ := bnd_ok.1 ev
  obtain ⟨rfl, rfl⟩ := q_cellsM _ _ _ _ _ e1
  obtain ⟨n, h2, c2, e3, e4⟩ := bnd_ok.1 e2
  obtain ⟨rfl, rfl, rfl⟩ := new_ok.1 e3
  obtain ⟨rfl, rfl, rfl⟩ := ret_ok.1 e4
  refine ⟨Okk.new, fun G w hv hM hf => ?_⟩
  obtain ⟨hcr, _, _⟩ := cellsM_ok e1 hr
  refine ⟨.pointer (some ⟨w.heap.size, 0, none⟩), { w with heap := w.heap.push (.cells v'.cells e (0, 0)) }, _, _, rfl, e_row (tot := 0) hv hM (hf _ (Nat.le_refl _) (Nat.lt_succ_self _)) hcr.get (fun _ => ?_) (fun h => absurd rfl h) (.inl rfl) rfl rfl rfl rfl, ?_⟩
  · have := hcr.1.length; exact this.symm
  · exact .ptr n 0 ⟨w.heap.size, 0, 0, 0⟩ (by unfold ext1; rw [if_pos rfl])
/-- store -/
theorem e_storeVar {t : TypeId} {n off : Nat} {l : Loc} {v v' : Value} (hρ : ρ n = some l) (hr : VR σ ρ v v') : Ef P σ B w0 ρ (Ev.storeVar P t ⟨n, off, none⟩ v) (Go.storeVar t ⟨l.b, l.d + off, none⟩ v') (fun _ _ _ => True) := by
  intro h c a h' c' ev
  obtain ⟨k, h1, c1, e1, e2⟩ := bnd_ok.1 ev
  obtain ⟨hk, rfl, rfl⟩ := opt_ok.1 e1
  obtain ⟨cl, h2, c2, e3, e4⟩ := bnd_ok.1 e2
  obtain ⟨rfl, rfl⟩ := q_cellsM _ _ _ _ _ e3
  rcases sel_ok.1 e4 with ⟨hl, e5⟩ | ⟨_, e5⟩
  case inr => exact (bad_ok.1 e5).elim
  refine ⟨t_wr e5, fun G w hv hM hf => ?_⟩
  obtain ⟨hcr, _, _⟩ := cellsM_ok e3 hr
  obtain ⟨w', G', r1, r2⟩ := e_wr (P := P) e5 hρ hcr hv hM
  refine ⟨(), w', ρ, G', ?_, r2, trivial⟩
  have hlen : v'.cells.size = k := by
    have h1 := hcr.1.length
    have h2 := beq_of hl
    rw [len_eq] at h2
    simp at h1; omega
  unfold Go.storeVar
  rw [run_bind_ok (run_size hk w)]
  show (if v'.cells.size ≠ k then _ else _ : Sem Unit).run P w = _
  rw [if_neg (by simpa using hlen)]
  exact r1
end
end Go.Ev

namespace Go.Ev
section
variable {P : Program} {σ : Nat → Value} {B : Nat} {w0 : World} {ρ ρ1 ρ2 : Rho} {G G1 G2 : Nat → Option Ent} {h h1 h2 : H} {c c1 c2 : Nat} {w w' : World}
theorem q_lenB {t : TypeId} {x : Value} : Quiet (lenB P t x) :=
  Quiet.bnd q_und fun d => by
    cases d <;> first
      | exact Quiet.bad | exact Quiet.ret
      | (cases x <;> first | exact Quiet.bad | exact Quiet.ret | exact Quiet.forceN fun _ => Quiet.ret)
      | exact Quiet.bnd q_mapOf? fun _ => Quiet.forceN fun _ => Quiet.ret
      | exact Quiet.bnd q_und fun d => (by cases d <;> first | exact Quiet.bad | exact Quiet.ret)
theorem MER.length {xs ys : List MapEntry} (h : MER σ ρ xs ys) : xs.length = ys.length := by
  induction xs generalizing ys with
  | nil => cases ys with
    | nil => rfl
    | cons => cases h
  | cons x xs ih => cases ys with
    | nil => cases h
    | cons y ys => simp [ih h.2]
theorem r_len {ts : Array TypeId} {ty t : TypeId} {x x' : Value} (ht : ts[0]? = some t) (hx : VR σ ρ x x') : Rd P σ B w0 ρ (lenB P t x) (Builtin.len_ ts ty #[x']) (VR σ ρ) := by
  intro h c a h' c' e G w hv hM
  obtain ⟨d, h1, c1, e1, e2⟩ := bnd_ok.1 e
  obtain ⟨hu, rfl, rfl⟩ := opt_ok.1 e1
  have ofn : ∀ m : Nat, Int.ofNat m = (m : Int) := fun _ => rfl
  cases d <;> first | exact (bad_ok.1 e2).elim | skip
  · cases x <;> first | exact (bad_ok.1 e2).elim | skip
    rename_i s
    obtain ⟨⟨s⟩⟩ := s
    cases hx
    replace e2 : forceN (len s) (fun n => ret (.int .i64 (.ofNat n))) h c = .ok a h' c' := e2
    rw [forceN_eq] at e2
    obtain ⟨rfl, rfl, rfl⟩ := ret_ok.1 e2
    refine ⟨_, ?_, .int _ _⟩
    rw [len_eq]
    have : (Builtin.len_ ts ty #[.string ⟨⟨s⟩⟩]).run P w = .ok (goInt ((⟨⟨s⟩⟩ : ByteArray).size)) w := by simp [Builtin.len_, ht, run_und hu]
    rw [this]; rfl
  · rename_i a0
    obtain ⟨d, h2, c2, e3, e4⟩ := bnd_ok.1 e2
    obtain ⟨hu2, rfl, rfl⟩ := opt_ok.1 e3
    cases d <;> first | exact (bad_ok.1 e4).elim | skip
    obtain ⟨rfl, rfl, rfl⟩ := ret_ok.1 e4
    refine ⟨_, ?_, .int _ _⟩
    simp [Builtin.len_, ht, run_und hu, run_und hu2, goInt]
  · cases x <;> first | exact (bad_ok.1 e2).elim | skip
    obtain ⟨rfl, rfl, rfl⟩ := ret_ok.1 e2
    refine ⟨_, ?_, .int _ _⟩
    cases hx <;> simp [Builtin.len_, ht, run_und hu, goInt]
  · obtain ⟨rfl, rfl, rfl⟩ := ret_ok.1 e2
    refine ⟨_, ?_, .int _ _⟩
    simp [Builtin.len_, ht, run_und hu, goInt]
  · obtain ⟨es, h2, c2, e3, e4⟩ := bnd_ok.1 e2
    obtain ⟨rfl, rfl⟩ := q_mapOf? _ _ _ _ _ e3
    rw [forceN_eq] at e4
    obtain ⟨rfl, _, _⟩ := ret_ok.1 e4
    refine ⟨_, ?_, .int _ _⟩
    unfold mapOf? at e3
    cases x <;> first | exact (bad_ok.1 e3).elim | skip
    rename_i rr
    cases rr with
    | none =>
      cases hx
      obtain ⟨rfl, _, _⟩ := ret_ok.1 e3
      simp [Builtin.len_, ht, run_und hu, goInt, len_eq]
    | some rr =>
      cases hx with | map _ l hl =>
      obtain ⟨hg, _, _⟩ := mapOf_ok e3
      obtain ⟨es', b1, b2, _, _⟩ := map_read hv hM hg hl
      have := b2.length
      simp [Builtin.len_, ht, run_und hu, run_getMap b1, goInt, len_eq, this]
theorem q_min2 {x y : Value} : Quiet (Ev.min2 x y) := by unfold Ev.min2; split; exact Quiet.sel Quiet.ret Quiet.ret; exact Quiet.bad
theorem q_max2 {x y : Value} : Quiet (Ev.max2 x y) := by unfold Ev.max2; split; exact Quiet.sel Quiet.ret Quiet.ret; exact Quiet.bad
theorem r_min2 {x x' y y' : Value} (hx : VR σ ρ x x') (hy : VR σ ρ y y') : Rd P σ B w0 ρ (Ev.min2 x y) (Builtin.min2 x' y') (VR σ ρ) := by
  unfold Ev.min2
  split
  · cases hx; cases hy
    rename_i k a _ b
    refine Rd.sel (fun hb => ?_) fun hb => ?_
    · rw [ltInt_eq] at hb
      rw [show Builtin.min2 (.int k a) (.int _ b) = pure (.int k b) from by show (pure (.int k (if b < a then b else a)) : Sem Value) = _; rw [if_pos (by simpa using hb)]]
      exact Rd.ret (.int _ _)
    · rw [ltInt_eq] at hb
      rw [show Builtin.min2 (.int k a) (.int _ b) = pure (.int k a) from by show (pure (.int k (if b < a then b else a)) : Sem Value) = _; rw [if_neg (by simpa using hb)]]
      exact Rd.ret (.int _ _)
  · exact Rd.bad
theorem r_max2 {x x' y y' : Value} (hx : VR σ ρ x x') (hy : VR σ ρ y y') : Rd P σ B w0 ρ (Ev.max2 x y) (Builtin.max2 x' y') (VR σ ρ) := by
  unfold Ev.max2
  split
  · cases hx; cases hy
    rename_i k a _ b
    refine Rd.sel (fun hb => ?_) fun hb => ?_
    · rw [ltInt_eq] at hb
      rw [show Builtin.max2 (.int k a) (.int _ b) = pure (.int k b) from by show (pure (.int k (if b > a then b else a)) : Sem Value) = _; rw [if_pos (by simpa using hb)]]
      exact Rd.ret (.int _ _)
    · rw [ltInt_eq] at hb
      rw [show Builtin.max2 (.int k a) (.int _ b) = pure (.int k a) from by show (pure (.int k (if b > a then b else a)) : Sem Value) = _; rw [if_neg (by simpa using hb)]]
      exact Rd.ret (.int _ _)
  · exact Rd.bad
theorem q_fold1 {f : Value → Value → M Value} (hf : ∀ x y, Quiet (f x y)) : ∀ (l : List Value) (x : Value), Quiet (fold1 f l x) := by
  intro l
  induction l with
  | nil => exact fun _ => Quiet.ret
  | cons y l ih => exact fun x => Quiet.bnd (hf _ _) fun _ => ih _
theorem r_fold1 {f : Value → Value → M Value} {g : Value → Value → Sem Value} (q : ∀ x y, Quiet (f x y)) (hf : ∀ x x' y y', VR σ ρ x x' → VR σ ρ y y' → Rd P σ B w0 ρ (f x y) (g x' y') (VR σ ρ)) :
    ∀ (l l' : List Value) (x x' : Value), VRs σ ρ l l' → VR σ ρ x x' → Rd P σ B w0 ρ (fold1 f l x) (l'.foldlM g x') (VR σ ρ) := by
  intro l
  induction l with
  | nil => intro l' x x' hl hx; cases hl; exact Rd.ret hx
  | cons y l ih =>
    intro l' x x' hl hx
    cases hl with | cons _ y' _ l' h1 h2 =>
    rw [List.foldlM_cons]
    exact Rd.bind (q _ _) (hf _ _ _ _ hx h1) fun z z' hz => ih _ _ _ h2 hz
theorem q_ext {i : Nat} {x : Value} : Quiet (ext i x) := by
  unfold ext; split
  · exact Quiet.bnd Quiet.opt fun _ => Quiet.ret
  · exact Quiet.bad
theorem q_assertNo {t : TypeId} {ok : Bool} : Quiet (assertNo P t ok) := Quiet.sel (Quiet.bnd q_zero fun _ => Quiet.ret) Quiet.bad
theorem q_typeAssert {t : TypeId} {x : Value} {ok : Bool} : Quiet (typeAssert P x t ok) :=
  Quiet.bnd q_und fun d => Quiet.sel Quiet.bad (by
    unfold assertV
    cases x <;> first | exact Quiet.bad | exact q_assertNo | exact Quiet.sel (Quiet.sel Quiet.ret Quiet.ret) q_assertNo)
theorem r_typeAssert {t xt : TypeId} {x x' : Value} {ok : Bool} (hx : VR σ ρ x x') : Rd P σ B w0 ρ (typeAssert P x t ok) (Instr.typeAssert x' xt t ok) (VR σ ρ) := by
  intro h c a h' c' e G w hv hM
  obtain ⟨d, h1, c1, e1, e2⟩ := bnd_ok.1 e
  obtain ⟨hu, rfl, rfl⟩ := opt_ok.1 e1
  rcases sel_ok.1 e2 with ⟨_, e3⟩ | ⟨hd, e3⟩
  · exact (bad_ok.1 e3).elim
  have fails : ∀ s d' m, assertNo P t ok h c = .ok a h' c' →
      ∃ b, (if ok then (do pure (.tuple #[← zeroValue t, .bool false]) : Sem Value) else runtimePanic (.typeAssertion s d' t m)).run P w = .ok b w ∧ VR σ ρ a b := fun s d' m e3 => by
    rcases sel_ok.1 e3 with ⟨rfl, e4⟩ | ⟨_, e4⟩
    · obtain ⟨z, h2, c2, e5, e6⟩ := bnd_ok.1 e4
      obtain ⟨z', e7, rfl, hz, _⟩ := r_zero (P := P) (σ := σ) (ρ := ρ) (B := B) (w0 := w0) _ _ _ _ _ e5 G w hv hM
      obtain ⟨rfl, _, _⟩ := ret_ok.1 e6
      refine ⟨.tuple #[z, .bool false], ?_, .tuple _ _ (.cons _ _ _ _ hz (.cons _ _ _ _ (.bool _) .nil))⟩
      rw [if_pos rfl, run_bind_ok e7]; rfl
    · exact (bad_ok.1 e4).elim
  unfold assertV at e3
  cases x <;> first | exact (bad_ok.1 e3).elim | skip
  · -- a value of a type
    rename_i t' v
    cases hx with | iface _ _ v' hvv =>
    rcases sel_ok.1 e3 with ⟨ht, e5⟩ | ⟨ht, e5⟩
    · have ht := beq_of ht
      subst ht
      refine ⟨if ok then .tuple #[v', .bool true] else v', ?_, ?_⟩
      · unfold Instr.typeAssert
        rw [run_bind_ok (run_und hu w)]
        cases d <;> first | (cases hd; done) | simp
      · rcases sel_ok.1 e5 with ⟨rfl, e4⟩ | ⟨rfl, e4⟩
        · obtain ⟨rfl, _, _⟩ := ret_ok.1 e4
          exact .tuple _ _ (.cons _ _ _ _ hvv (.cons _ _ _ _ (.bool _) .nil))
        · obtain ⟨rfl, _, _⟩ := ret_ok.1 e4; exact hvv
    · have ht := bne_of ht
      obtain ⟨b, e4, hb⟩ := fails (some xt) (some t') "" e5
      refine ⟨b, ?_, hb⟩
      unfold Instr.typeAssert
      rw [run_bind_ok (run_und hu w)]
      cases d <;> first | (cases hd; done) | (simp only [ht, if_false]; exact e4)
  · -- nil
    cases hx
    obtain ⟨b, e4, hb⟩ := fails (some xt) none "" e3
    refine ⟨b, ?_, hb⟩
    unfold Instr.typeAssert
    rw [run_bind_ok (run_und hu w)]
    cases d <;> first | (cases hd; done) | exact e4
/-! building -/
theorem setAll (off : Nat) : ∀ (l : List Value) (i : Nat) (cs : Array Value), off + i + l.length ≤ cs.size →
    (l.zipIdx i).foldl (fun cs (p : Value × Nat) => cs.setIfInBounds (off + p.2) p.1) cs = ⟨cs.toList.take (off + i) ++ l ++ cs.toList.drop (off + i + l.length)⟩
  | [], i, cs, _ => by simp
  | v :: l, i, cs, h => by
    have h' : off + (i + 1) + l.length ≤ (cs.setIfInBounds (off + i) v).size := by simp at h ⊢; omega
    rw [List.zipIdx_cons, List.foldl_cons, setAll off l (i + 1) _ h']
    apply Array.ext'
    apply List.ext_getElem?
    intro j
    have hlt : off + i < cs.size := by simp at h; omega
    have e1 : off + (i + 1) + l.length ≤ ((cs.setIfInBounds (off + i) v).toList).length := by simpa using h'
    have e2 : off + i + (v :: l).length ≤ cs.toList.length := by simpa using h
    show (((cs.setIfInBounds (off + i) v).toList.take (off + (i + 1)) ++ l ++ (cs.setIfInBounds (off + i) v).toList.drop (off + (i + 1) + l.length)))[j]? = (cs.toList.take (off + i) ++ (v :: l) ++ cs.toList.drop (off + i + (v :: l).length))[j]?
    rw [over_get e1, over_get e2]
    by_cases hj : j = off + i
    · subst hj
      rw [if_neg (by omega), if_pos (by simp)]
      simp [hlt]
    · by_cases hj2 : off + (i + 1) ≤ j ∧ j < off + (i + 1) + l.length
      · rw [if_pos hj2, if_pos (by simp; omega)]
        rw [show j - (off + i) = (j - (off + (i + 1))) + 1 by omega]; simp
      · rw [if_neg hj2, if_neg (by simp; omega)]
        simp only [Array.toList_setIfInBounds]
        rw [List.getElem?_set_ne (by omega)]
theorem CR.over {cs cs' l l' : List Value} (hc : CR σ ρ cs cs') (hl : CR σ ρ l l') (off : Nat) : CR σ ρ (cs.take off ++ l ++ cs.drop (off + l.length)) (cs'.take off ++ l' ++ cs'.drop (off + l'.length)) := by
  rw [← hl.1.length]
  refine ⟨((hc.1.take _).app hl.1).app (hc.1.drop _), fun x hx => ?_⟩
  rcases List.mem_append.1 hx with hx | hx
  · rcases List.mem_append.1 hx with hx | hx
    · exact hc.2 x (List.mem_of_mem_take hx)
    · exact hl.2 x hx
  · exact hc.2 x (List.mem_of_mem_drop hx)
/-- parts, related -/
inductive PR (σ : Nat → Value) (ρ : Rho) : List (Nat × Value) → List (Nat × Value) → Prop
  | nil : PR σ ρ [] []
  | cons (i : Nat) (v v' : Value) (ps ps' : List (Nat × Value)) : VR σ ρ v v' → PR σ ρ ps ps' → PR σ ρ ((i, v) :: ps) ((i, v') :: ps')
theorem fill_step {place : Nat → Option (Nat × Nat)} {i off sz : Nat} {v' : Value} {cs' : List Value} {rest : List (Nat × Value)} (hp : place i = some (off, sz)) (hs : v'.cells.size = sz) (hl : off + v'.cells.size ≤ cs'.length) :
    Instr.fill place ⟨cs'⟩ ((i, v') :: rest) = Instr.fill place ⟨cs'.take off ++ v'.cells.toList ++ cs'.drop (off + v'.cells.toList.length)⟩ rest := by
  rw [Instr.fill, hp]
  have hb : (v'.cells.size ≠ sz || off + v'.cells.size > (⟨cs'⟩ : Array Value).size) = false := by
    simp [hs]; rw [← hs]; exact hl
  show (if (v'.cells.size ≠ sz || off + v'.cells.size > (⟨cs'⟩ : Array Value).size) = true then none else _) = _
  rw [hb]
  simp only [Bool.false_eq_true, if_false]
  congr 1
  rw [← Array.foldl_toList, Array.toList_zipIdx]
  exact setAll off v'.cells.toList 0 ⟨cs'⟩ (by simpa using hl)
theorem fillA_ok {sz : Nat} : ∀ (ps ps' : List (Nat × Value)) (cs cs' l : List Value) (h h' : H) (c c' : Nat), PR σ ρ ps ps' → CR σ ρ cs cs' → fillA sz ps cs h c = .ok l h' c' →
    h' = h ∧ c' = c ∧ ∃ l', Instr.fill (fun i => some (i * sz, sz)) ⟨cs'⟩ ps' = some ⟨l'⟩ ∧ CR σ ρ l l' := by
  intro ps
  induction ps with
  | nil =>
    intro ps' cs cs' l h h' c c' hp hc e
    cases hp
    obtain ⟨rfl, rfl, rfl⟩ := ret_ok.1 e
    exact ⟨rfl, rfl, cs', rfl, hc⟩
  | cons p ps ih =>
    intro ps' cs cs' l h h' c c' hp hc e
    cases hp with | cons i v v' _ ps' hv hp =>
    obtain ⟨cl, h1, c1, e1, e2⟩ := bnd_ok.1 e
    obtain ⟨hcl, rfl, rfl⟩ := cellsM_ok e1 hv
    rcases sel_ok.1 e2 with ⟨hl, e3⟩ | ⟨_, e3⟩
    case inr => exact (bad_ok.1 e3).elim
    have hl := beq_of hl
    rw [len_eq] at hl
    obtain ⟨o, h2, c2, e4, e5⟩ := bnd_ok.1 e3
    obtain ⟨ho, rfl, rfl⟩ := opt_ok.1 e4
    obtain ⟨rfl, hle⟩ := over_some _ _ _ _ ho
    have hlen := hcl.1.length
    have hlen2 := hc.1.length
    have hsz : v'.cells.size = sz := by have : v'.cells.toList.length = v'.cells.size := rfl; omega
    obtain ⟨r1, r2, l', r3, r4⟩ := ih ps' _ _ l _ _ _ _ hp (hc.over hcl (Nat.mul i sz)) e5
    refine ⟨r1, r2, l', ?_, r4⟩
    have hle' : Nat.mul i sz + cl.length ≤ cs.length := hle
    have : i * sz = Nat.mul i sz := rfl
    rw [fill_step (place := fun i => some (i * sz, sz)) (off := i * sz) rfl hsz (by omega)]
    exact r3
theorem fillS_ok {fs : List Field} : ∀ (ps ps' : List (Nat × Value)) (cs cs' l : List Value) (h h' : H) (c c' : Nat), PR σ ρ ps ps' → CR σ ρ cs cs' → fillS P fs ps cs h c = .ok l h' c' →
    h' = h ∧ c' = c ∧ ∃ l', Instr.fill (fun i => (fs[i]?).map fun f => (f.offset, P.cellsOf f.type)) ⟨cs'⟩ ps' = some ⟨l'⟩ ∧ CR σ ρ l l' := by
  intro ps
  induction ps with
  | nil =>
    intro ps' cs cs' l h h' c c' hp hc e
    cases hp
    obtain ⟨rfl, rfl, rfl⟩ := ret_ok.1 e
    exact ⟨rfl, rfl, cs', rfl, hc⟩
  | cons p ps ih =>
    intro ps' cs cs' l h h' c c' hp hc e
    cases hp with | cons i v v' _ ps' hv hp =>
    obtain ⟨f, h0, c0, e01, e02⟩ := bnd_ok.1 e
    obtain ⟨hf, rfl, rfl⟩ := opt_ok.1 e01
    rw [nth_eq] at hf
    obtain ⟨k, h0, c0, e03, e04⟩ := bnd_ok.1 e02
    obtain ⟨hk, rfl, rfl⟩ := opt_ok.1 e03
    obtain ⟨cl, h1, c1, e1, e2⟩ := bnd_ok.1 e04
    obtain ⟨hcl, rfl, rfl⟩ := cellsM_ok e1 hv
    rcases sel_ok.1 e2 with ⟨hl, e3⟩ | ⟨_, e3⟩
    case inr => exact (bad_ok.1 e3).elim
    have hl := beq_of hl
    rw [len_eq] at hl
    obtain ⟨o, h2, c2, e4, e5⟩ := bnd_ok.1 e3
    obtain ⟨ho, rfl, rfl⟩ := opt_ok.1 e4
    obtain ⟨rfl, hle⟩ := over_some _ _ _ _ ho
    have hlen := hcl.1.length
    have hlen2 := hc.1.length
    have hsz : v'.cells.size = P.cellsOf f.type := by
      have h1 : v'.cells.toList.length = v'.cells.size := rfl
      have h2 : P.cellsOf f.type = k := by unfold Program.cellsOf; rw [hk]; rfl
      omega
    obtain ⟨r1, r2, l', r3, r4⟩ := ih ps' _ _ l _ _ _ _ hp (hc.over hcl f.offset) e5
    refine ⟨r1, r2, l', ?_, r4⟩
    rw [fill_step (off := f.offset) (sz := P.cellsOf f.type) (by simp [hf]) hsz (by have : v'.cells.toList.length = v'.cells.size := rfl; omega)]
    exact r3
end
end Go.Ev

namespace Go.Ev
section
variable {P : Program} {σ : Nat → Value} {B : Nat} {w0 : World} {ρ ρ1 ρ2 : Rho} {G G1 G2 : Nat → Option Ent} {h h1 h2 : H} {c c1 c2 : Nat} {w w' : World}
theorem q_fillA {sz : Nat} : ∀ (ps : List (Nat × Value)) (cs : List Value), Quiet (fillA sz ps cs) := by
  intro ps
  induction ps with
  | nil => exact fun _ => Quiet.ret
  | cons p ps ih => exact fun cs => Quiet.bnd q_cellsM fun _ => Quiet.sel (Quiet.bnd Quiet.opt ih) Quiet.bad
theorem q_fillS {fs : List Field} : ∀ (ps : List (Nat × Value)) (cs : List Value), Quiet (fillS P fs ps cs) := by
  intro ps
  induction ps with
  | nil => exact fun _ => Quiet.ret
  | cons p ps ih => exact fun cs => Quiet.bnd Quiet.opt fun _ => Quiet.bnd q_size fun _ => Quiet.bnd q_cellsM fun _ => Quiet.sel (Quiet.bnd Quiet.opt ih) Quiet.bad
theorem q_build {t : TypeId} {ps : List (Nat × Value)} : Quiet (Ev.build P t ps) :=
  Quiet.bnd q_zero fun _ => Quiet.bnd q_cellsM fun _ => Quiet.bnd q_und fun d => by
    cases d <;> first | exact Quiet.bad | exact Quiet.sel (Quiet.bnd (q_fillS _ _) fun _ => Quiet.ret) Quiet.bad | exact Quiet.bnd q_size fun _ => Quiet.bnd (q_fillA _ _) fun _ => Quiet.ret
theorem run_places {fs : List Field} (hf : ∀ f, f ∈ fs → (P.info? f.type).isSome = true) (w : World) :
    ((⟨fs⟩ : Array Field).mapM fun f => (do pure (f.offset, ← sizeOf f.type) : Sem (Nat × Nat))).run P w = .ok ⟨fs.map fun f => (f.offset, P.cellsOf f.type)⟩ w := by
  rw [Array.mapM_eq_mapM_toList]
  have : ∀ fs : List Field, (∀ f, f ∈ fs → (P.info? f.type).isSome = true) → (fs.mapM fun f => (do pure (f.offset, ← sizeOf f.type) : Sem (Nat × Nat))).run P w = .ok (fs.map fun f => (f.offset, P.cellsOf f.type)) w := by
    intro fs
    induction fs with
    | nil => intro _; rfl
    | cons f fs ih =>
      intro hf
      have hi := hf f (by simp)
      obtain ⟨i, hi⟩ := Option.isSome_iff_exists.1 hi
      rw [List.mapM_cons]
      have h1 : (do pure (f.offset, ← sizeOf f.type) : Sem (Nat × Nat)).run P w = .ok (f.offset, P.cellsOf f.type) w := by
        rw [run_bind_ok (run_size (k := P.cellsOf f.type) (by unfold Program.cellsOf; rw [hi]; rfl) w)]; rfl
      rw [run_bind_ok h1, run_bind_ok (ih fun f hf' => hf f (by simp [hf']))]; rfl
  rw [Sem.run_map, this fs hf]; rfl
theorem r_build {t : TypeId} {ps ps' : List (Nat × Value)} (hp : PR σ ρ ps ps') : Rd P σ B w0 ρ (Ev.build P t ps) (Instr.build t ⟨ps'⟩) (VR σ ρ) := by
  intro h c a h' c' e G w hv hM
  obtain ⟨z, h1, c1, e1, e2⟩ := bnd_ok.1 e
  obtain ⟨rfl, rfl⟩ := q_zero _ _ _ _ _ e1
  obtain ⟨z', e3, rfl, hz, _⟩ := r_zero (P := P) (σ := σ) (ρ := ρ) (B := B) (w0 := w0) _ _ _ _ _ e1 G w hv hM
  obtain ⟨zl, h2, c2, e4, e5⟩ := bnd_ok.1 e2
  obtain ⟨hcl, rfl, rfl⟩ := cellsM_ok e4 hz
  obtain ⟨d, h3, c3, e6, e7⟩ := bnd_ok.1 e5
  obtain ⟨hu, rfl, rfl⟩ := opt_ok.1 e6
  cases d <;> first | exact (bad_ok.1 e7).elim | skip
  case struct fs =>
    obtain ⟨fs⟩ := fs
    rcases sel_ok.1 e7 with ⟨hall, e8⟩ | ⟨_, e8⟩
    case inr => exact (bad_ok.1 e8).elim
    obtain ⟨l, h4, c4, e9, e10⟩ := bnd_ok.1 e8
    obtain ⟨rfl, rfl, l', hf, hr⟩ := fillS_ok _ ps' _ z.cells.toList _ _ _ _ _ hp hcl e9
    obtain ⟨rfl, _, _⟩ := ret_ok.1 e10
    refine ⟨.agg ⟨l'⟩, ?_, .agg _ _ hr.1 hr.2⟩
    unfold Instr.build
    rw [run_bind_ok e3]
    dsimp only
    rw [run_bind_ok (run_und hu w)]
    dsimp only
    rw [run_bind_ok (run_places (allV_mem hall) w)]
    have hpl : (fun (i : Nat) => (⟨fs.map fun (f : Field) => (f.offset, P.cellsOf f.type)⟩ : Array (Nat × Nat))[i]?) = (fun (i : Nat) => (fs[i]?).map fun (f : Field) => (f.offset, P.cellsOf f.type)) := by
      funext i; simp
    have hf' : Instr.fill (fun (i : Nat) => (⟨fs.map fun (f : Field) => (f.offset, P.cellsOf f.type)⟩ : Array (Nat × Nat))[i]?) z.cells ps' = some ⟨l'⟩ := by rw [hpl]; exact hf
    simp only [hf']; rfl
  case array n el =>
    obtain ⟨sz, h4, c4, e8, e9⟩ := bnd_ok.1 e7
    obtain ⟨hsz, rfl, rfl⟩ := opt_ok.1 e8
    obtain ⟨l, h5, c5, e10, e11⟩ := bnd_ok.1 e9
    obtain ⟨rfl, rfl, l', hf, hr⟩ := fillA_ok _ ps' _ z.cells.toList _ _ _ _ _ hp hcl e10
    obtain ⟨rfl, _, _⟩ := ret_ok.1 e11
    refine ⟨.agg ⟨l'⟩, ?_, .agg _ _ hr.1 hr.2⟩
    unfold Instr.build
    rw [run_bind_ok e3]
    dsimp only
    rw [run_bind_ok (run_und hu w)]
    dsimp only
    rw [run_bind_ok (run_size hsz w)]
    have hf' : Instr.fill (fun i => some (i * sz, sz)) z.cells ps' = some ⟨l'⟩ := hf
    simp only [hf']; rfl
/-- zeros -/
theorem zeros_cr {z z' : List Value} (hz : CR σ ρ z z') : ∀ n, CR σ ρ (zeros z n) (List.replicate n z').flatten := by
  intro n
  induction n with
  | zero => exact ⟨.nil, fun x hx => by cases hx⟩
  | succ n ih =>
    have e : zeros z (n + 1) = z ++ zeros z n := app_eq _ _
    rw [e, List.replicate_succ, List.flatten_cons]
    exact ⟨hz.1.app ih.1, fun x hx => by
      rcases List.mem_append.1 hx with hx | hx
      · exact hz.2 x hx
      · exact ih.2 x hx⟩
theorem rep_get (z : Array Value) (n : Nat) : ((Array.range (n * z.size)).map (z[· % z.size]!)).toList = (List.replicate n z.toList).flatten := by
  apply List.ext_getElem?
  intro i
  induction n generalizing i with
  | zero => simp
  | succ n ih =>
    rw [List.replicate_succ, List.flatten_cons]
    by_cases hi : i < z.size
    · rw [List.getElem?_append_left (by simpa using hi)]
      have : i < (n + 1) * z.size := by rw [Nat.add_mul, Nat.one_mul]; omega
      simp [this, Nat.mod_eq_of_lt hi, hi]
    · rw [List.getElem?_append_right (by simpa using hi)]
      have := ih (i - z.size)
      rw [show z.toList.length = z.size from rfl, ← this]
      by_cases hlt : i < (n + 1) * z.size
      · have h2 : i - z.size < n * z.size := by rw [Nat.add_mul, Nat.one_mul] at hlt; omega
        have h3 : (i - z.size) % z.size = i % z.size := by
          rw [← Nat.mod_eq_sub_mod (by omega)]
        simp [hlt, h2, h3]
      · have h2 : ¬ i - z.size < n * z.size := by rw [Nat.add_mul, Nat.one_mul] at hlt; omega
        simp [hlt, h2]
end
end Go.Ev

namespace Go.Ev
section
variable {P : Program} {σ : Nat → Value} {B : Nat} {w0 : World} {ρ ρ1 ρ2 : Rho} {G G1 G2 : Nat → Option Ent} {h h1 h2 : H} {c c1 c2 : Nat} {w w' : World}
/-- what growing is known to find -/
theorem growOk_ok {elem : TypeId} {sz need : Nat} (hg : growOk P elem sz need = true) :
    0 < sz ∧ need < 4611686018427387904 ∧ (2 * need + 1000) * P.bytesOf elem ≤ 281474976710656 ∧ ∃ i z, P.info? elem = some i ∧ i.zero = some z ∧ z.cells.size = sz := by
  unfold growOk at hg
  cases hz : zOk P elem sz with
  | false => rw [hz] at hg; cases hg
  | true =>
    rw [hz] at hg
    have hg : (sel (Nat.ble (Nat.mul (Nat.add (Nat.mul 2 need) 1000) (P.bytesOf elem)) 281474976710656) (Nat.blt need 4611686018427387904) false) = true := hg
    cases hb : Nat.ble (Nat.mul (Nat.add (Nat.mul 2 need) 1000) (P.bytesOf elem)) 281474976710656 with
    | false => rw [hb] at hg; cases hg
    | true =>
      rw [hb] at hg
      have hn := (blt_iff _ _).1 hg
      have hb := (ble_iff _ _).1 hb
      unfold zOk zeroOf at hz
      cases hi : P.info? elem with
      | none => rw [hi] at hz; cases hz
      | some i =>
        rw [hi] at hz
        cases hzz : i.zero with
        | none => simp [hzz] at hz
        | some z =>
          simp only [Option.bind_some, hzz] at hz
          cases hgr : ground 4 z with
          | false => simp only [hgr] at hz; cases hz
          | true =>
            simp only [hgr] at hz
            have key : z.cells.size = sz ∧ 0 < sz := by
              cases z <;> first
                | (have h1 : Nat.beq sz 1 = true := hz; have h2 := beq_of h1; subst h2; exact ⟨rfl, Nat.one_pos⟩)
                | (cases hz; done)
                | skip
              rename_i l
              obtain ⟨l⟩ := l
              have hz' : sel (Nat.beq (len l) sz) (notB (Nat.beq sz 0)) false = true := hz
              cases hbb : Nat.beq (len l) sz with
              | false => rw [hbb] at hz'; cases hz'
              | true =>
                rw [hbb] at hz'
                have hz2 : notB (Nat.beq sz 0) = true := hz'
                rw [notB_eq, beq_eq_decide] at hz2
                have h0 : sz ≠ 0 := by simpa using hz2
                have h1 := beq_of hbb
                rw [len_eq] at h1
                exact ⟨h1, Nat.pos_of_ne_zero h0⟩
            exact ⟨key.2, hn, hb, i, z, rfl, hzz, key.1⟩
theorem nextcap_le (need old : Nat) (h : old < need) : Builtin.nextslicecap need old ≤ 2 * need + 1000 := by
  unfold Builtin.nextslicecap
  split
  · omega
  · split
    · omega
    · have grow : ∀ (r k : Nat), k < 2 * need + 1000 → Builtin.growBy need r k ≤ 2 * need + 1000 := by
        intro r
        induction r with
        | zero => intro k hk; show k ≤ _; omega
        | succ r ih =>
          intro k hk
          rw [Builtin.growBy]
          split
          · omega
          · exact ih _ (by omega)
      exact grow 4 old (by omega)
/-- how the second argument reads: false: a slice or a string, n of its elements; true: a length -/
inductive Mode (P : Program) (ts : Array TypeId) (x' : Value) (n : Nat) : Bool → Prop
  | one : ts[1]? = none → (∀ w, (Builtin.lenOf x').run P w = .ok n w) → Mode P ts x' n false
  | two (xt : TypeId) (d : TypeDesc) : ts[1]? = some xt → P.underlying xt = some d → (∀ k, d ≠ .int k) → (∀ w, (Builtin.lenOf x').run P w = .ok n w) → Mode P ts x' n false
  | mk (xt : TypeId) (k : IntKind) (k2 : IntKind) : ts[1]? = some xt → P.underlying xt = some (.int k) → x' = .int k2 (n : Int) → Mode P ts x' n true
/-- what is appended -/
def news (sz n : Nat) (elem : TypeId) (zs : Bool) (x' : Value) : Sem (Array Value) :=
  if !zs then Builtin.firstCells sz n x' else if n * sz = 0 then pure #[] else do pure (Builtin.zeroCells (← zeroValue elem).cells n)
theorem run_fit {ts : Array TypeId} {ty sType elem : TypeId} {base : Option Addr} {ln cap n sz : Nat} {x' : Value} {zs : Bool} {nw : Array Value} {w' : World} {i : TypeInfo}
    (h0 : ts[0]? = some sType) (hu : P.underlying sType = some (.slice elem)) (hi : P.info? elem = some i) (hsz : (P.info? elem).map (·.size) = some sz) (hm : Mode P ts x' n zs)
    (hnew : (news sz n elem zs x').run P w = .ok nw w) {z : Value} (hz : i.zero = some z) (hns : n * sz ≠ 0) (hle : ln + n ≤ cap) (hn : n < 4611686018427387904) (hb : n * P.bytesOf elem ≤ 281474976710656)
    (hst : (match base with | some a => storeCells (a.add (ln * sz)) nw.toList | none => pure () : Sem Unit).run P w = .ok () w') :
    (Builtin.append_ ts ty #[.slice base ln cap, x']).run P w = .ok (.slice base (ln + n) cap) w' := by
  have hib : i.bytes = P.bytesOf elem := by unfold Program.bytesOf; rw [hi]; rfl
  have w64 : IntKind.i64.wrap (n : Int) = (n : Int) := IntWalk.i64_in _ (by omega)
  have hb' : ¬ ((n : Int) * (i.bytes : Int) > 2 ^ 48) := by
    rw [hib]
    have h1 : ((n * P.bytesOf elem : Nat) : Int) ≤ ((281474976710656 : Nat) : Int) := Int.ofNat_le.2 hb
    have h2 : ((n * P.bytesOf elem : Nat) : Int) = (n : Int) * (P.bytesOf elem : Int) := Int.natCast_mul _ _
    have h3 : (2 : Int) ^ 48 = 281474976710656 := by decide
    rw [h3, ← h2]
    omega
  unfold news at hnew
  cases hm with
  | one h1 hl =>
    cases base with
    | none =>
      have hst' : w' = w := by cases hst; rfl
      subst hst'
      simp at hnew
      simp [Builtin.append_, h0, h1, run_und hu, run_size hsz, hl, hle, hnew]
    | some a =>
      simp at hnew hst
      simp [Builtin.append_, h0, h1, run_und hu, run_size hsz, hl, hle, hnew, hst]
  | two xt d h1 h2 h3 hl =>
    have hd : (match d with | .int _ => true | _ => false : Bool) = false := by cases d <;> first | rfl | exact absurd rfl (h3 _)
    cases base with
    | none =>
      have hst' : w' = w := by cases hst; rfl
      subst hst'
      simp at hnew
      simp [Builtin.append_, h0, h1, run_und hu, run_und h2, run_size hsz, hl, hle, hnew]
    | some a =>
      simp at hnew hst
      simp [Builtin.append_, h0, h1, run_und hu, run_und h2, run_size hsz, hl, hle, hnew, hst]
  | mk xt k k2 h1 h2 h3 =>
    subst h3
    have hneg : ¬ ((n : Int) < 0) := by omega
    have hb2 : ¬ (281474976710656 < (n : Int) * (i.bytes : Int)) := hb'
    have hzv : ∀ w : World, (zeroValue elem).run P w = .ok z w := fun w => by simp [zeroValue, run_info hi, hz]
    simp only [Bool.not_true, Bool.false_eq_true, if_false, hns] at hnew
    rw [run_bind_ok (hzv w)] at hnew
    have hnw : Builtin.zeroCells z.cells n = nw := by
      have : Result.ok (Builtin.zeroCells z.cells n) w = .ok nw w := hnew
      injection this
    cases base with
    | none =>
      have hst' : w' = w := by cases hst; rfl
      subst hst'
      simp [Builtin.append_, h0, h1, run_und hu, run_und h2, run_size hsz, hle, asInt, asIntOf, w64, hneg, run_info hi, hb2, hzv]
    | some a =>
      simp at hst
      simp [Builtin.append_, h0, h1, run_und hu, run_und h2, run_size hsz, hle, asInt, asIntOf, w64, hneg, run_info hi, hb2, hzv, hns, hnw, hst]
theorem run_grow {ts : Array TypeId} {ty sType elem : TypeId} {base : Option Addr} {ln cap n sz : Nat} {x' : Value} {zs : Bool} {old nw : Array Value} {i : TypeInfo} {z : Value}
    (h0 : ts[0]? = some sType) (hu : P.underlying sType = some (.slice elem)) (hi : P.info? elem = some i) (hsz : (P.info? elem).map (·.size) = some sz) (hm : Mode P ts x' n zs)
    (hnew : (news sz n elem zs x').run P { w with drawn := w.drawn + 1 } = .ok nw { w with drawn := w.drawn + 1 })
    (hold : (Builtin.firstCells sz ln (.slice base ln cap)).run P { w with drawn := w.drawn + 1 } = .ok old { w with drawn := w.drawn + 1 })
    (hz : i.zero = some z) (hns : n * sz ≠ 0) (hgt : cap < ln + n) (hneed : ln + n < 4611686018427387904) (hbytes : (2 * (ln + n) + 1000) * P.bytesOf elem ≤ 281474976710656) :
    ∃ nc, ln + n ≤ nc ∧ nc < 9223372036854775808 ∧ (Builtin.append_ ts ty #[.slice base ln cap, x']).run P w =
      .ok (.slice (some ⟨w.heap.size, 0, none⟩) (ln + n) nc) { w with drawn := w.drawn + 1, heap := w.heap.push (.cells (old ++ nw ++ Builtin.zeroCells z.cells (nc - (ln + n))) elem (0, 0)) } := by
  refine ⟨(Question.appendCap (ln + n) cap elem).cut (w.tape w.drawn (.appendCap (ln + n) cap elem)), ?_, ?_, ?_⟩
  · simp [Question.cut]
  · simp only [Question.cut]
    have := Nat.mod_lt (w.tape w.drawn (.appendCap (ln + n) cap elem)) (show 0 < 2 ^ 63 - (ln + n) by omega)
    omega
  · generalize hnc : (Question.appendCap (ln + n) cap elem).cut (w.tape w.drawn (.appendCap (ln + n) cap elem)) = nc
    have hib : i.bytes = P.bytesOf elem := by unfold Program.bytesOf; rw [hi]; rfl
    have hnext : ¬ (Builtin.nextslicecap (ln + n) cap * i.bytes > 2 ^ 48) := by
      rw [hib]
      have h1 := Nat.mul_le_mul_right (P.bytesOf elem) (nextcap_le (ln + n) cap hgt)
      have h3 : (2 : Nat) ^ 48 = 281474976710656 := by decide
      rw [h3]; omega
    have hnext2 : ¬ (281474976710656 < Builtin.nextslicecap (ln + n) cap * i.bytes) := hnext
    have hgt' : ¬ (ln + n ≤ cap) := by omega
    have hmax : IntKind.i64.max = 9223372036854775807 := by decide
    have hint : ¬ (((ln + n : Nat) : Int) > IntKind.i64.max) := by rw [hmax]; omega
    have hint' : ¬ (((ln + n : Nat) : Int) > IntKind.i64.max ∧ (True ∨ i.bytes = 0)) := fun h => hint h.1
    have hint2 : ¬ (IntKind.i64.max < (ln : Int) + (n : Int)) := by rw [hmax]; omega
    have hzv : ∀ w : World, (zeroValue elem).run P w = .ok z w := fun w => by simp [zeroValue, run_info hi, hz]
    have w64 : IntKind.i64.wrap (n : Int) = (n : Int) := IntWalk.i64_in _ (by omega)
    have hb' : ¬ ((n : Int) * (i.bytes : Int) > 2 ^ 48) := by
      rw [hib]
      have h0 : n * P.bytesOf elem ≤ (2 * (ln + n) + 1000) * P.bytesOf elem := Nat.mul_le_mul_right _ (by omega)
      have h1 : ((n * P.bytesOf elem : Nat) : Int) ≤ ((281474976710656 : Nat) : Int) := Int.ofNat_le.2 (Nat.le_trans h0 hbytes)
      have h2 : ((n * P.bytesOf elem : Nat) : Int) = (n : Int) * (P.bytesOf elem : Int) := Int.natCast_mul _ _
      have h3 : (2 : Int) ^ 48 = 281474976710656 := by decide
      rw [h3, ← h2]
      omega
    have hint3 : ¬ ((9223372036854775807 : Int) < (ln : Int) + (n : Int)) := by omega
    have hold' : (Builtin.firstCells sz ln (.slice base ln cap)).run P w.drew = .ok old w.drew := hold
    have hneg : ¬ ((n : Int) < 0) := by omega
    have hch : (choose (.appendCap (ln + n) cap elem)).run P w = .ok nc { w with drawn := w.drawn + 1 } := by rw [run_choose, ← hnc]; rfl
    unfold news at hnew
    cases hm with
    | one h1 hl =>
      simp only [Bool.not_false, if_true] at hnew
      have hnew' : (Builtin.firstCells sz n x').run P w.drew = .ok nw w.drew := hnew
      simp [Builtin.append_, h0, h1, run_und hu, run_size hsz, hl, hgt', hint3, run_info hi, hnext2, hch, hold', hnew', hzv, newRow, -run_choose]
      rfl
    | two xt d h1 h2 h3 hl =>
      have hd : (match d with | .int _ => true | _ => false : Bool) = false := by cases d <;> first | rfl | exact absurd rfl (h3 _)
      simp only [Bool.not_false, if_true] at hnew
      have hnew' : (Builtin.firstCells sz n x').run P w.drew = .ok nw w.drew := hnew
      simp [Builtin.append_, h0, h1, run_und hu, run_und h2, run_size hsz, hl, hgt', hint3, run_info hi, hnext2, hch, hold', hnew', hzv, newRow, -run_choose]
      rfl
    | mk xt k k2 h1 h2 h3 =>
      subst h3
      have hb2 : ¬ (281474976710656 < (n : Int) * (i.bytes : Int)) := hb'
      simp only [Bool.not_true, Bool.false_eq_true, if_false, hns] at hnew
      rw [run_bind_ok (hzv _)] at hnew
      have hnw : Builtin.zeroCells z.cells n = nw := by
        have : Result.ok (Builtin.zeroCells z.cells n) { w with drawn := w.drawn + 1 } = .ok nw { w with drawn := w.drawn + 1 } := hnew
        injection this
      simp [Builtin.append_, h0, h1, run_und hu, run_und h2, run_size hsz, hgt', hint3, asInt, asIntOf, w64, hneg, run_info hi, hb2, hnext2, hch, hold', hns, hnw, hzv, newRow, -run_choose]
      rfl
end
end Go.Ev

namespace Go.Ev
section
variable {P : Program} {σ : Nat → Value} {B : Nat} {w0 : World} {ρ ρ1 ρ2 : Rho} {G G1 G2 : Nat → Option Ent} {h h1 h2 : H} {c c1 c2 : Nat} {w w' : World}
theorem byteVs_eq (l : List UInt8) : byteVs l = l.map fun b => (.int .u8 (b.toNat : Int) : Value) := by
  induction l with
  | nil => rfl
  | cons b l ih =>
    show forceN b.toNat (fun n => (.int .u8 (.ofNat n) : Value) :: byteVs l) = _
    rw [forceN_eq, ih]; rfl
theorem ints_cr {l : List UInt8} : CR σ ρ (byteVs l) (l.map fun b => (.int .u8 (b.toNat : Int) : Value)) := by
  rw [byteVs_eq]
  refine ⟨?_, fun x hx => ?_⟩
  · induction l with
    | nil => exact .nil
    | cons b l ih => exact .cons _ _ _ _ (.int _ _) ih
  · obtain ⟨b, _, rfl⟩ := List.mem_map.1 hx; rfl
theorem q_cells {sz n : Nat} {x : Value} : Quiet (cells sz n x) := by
  unfold cells
  cases x <;> first | exact Quiet.bad | exact Quiet.sel Quiet.ret Quiet.bad | skip
  rename_i a _ _
  cases a with
  | none => exact Quiet.ret
  | some a => exact Quiet.sel Quiet.ret q_rd
theorem lenOf_ok {x x' : Value} {n : Nat} {h' : H} {c' : Nat} (e : lenOf x h c = .ok n h' c') (hx : VR σ ρ x x') : (∀ w, (Builtin.lenOf x').run P w = .ok n w) ∧ h' = h ∧ c' = c := by
  unfold lenOf at e
  cases x <;> first | exact (bad_ok.1 e).elim | skip
  · rename_i s
    obtain ⟨⟨s⟩⟩ := s
    cases hx
    obtain ⟨rfl, rfl, rfl⟩ := ret_ok.1 e
    exact ⟨fun w => by rw [len_eq]; rfl, rfl, rfl⟩
  · obtain ⟨rfl, rfl, rfl⟩ := ret_ok.1 e
    exact ⟨fun w => by cases hx <;> rfl, rfl, rfl⟩
/-- the cells of what is read as a slice or a string -/
theorem cells_ok {sz n : Nat} {x x' : Value} {l : List Value} {h' : H} {c' : Nat} (e : cells sz n x h c = .ok l h' c') (hx : VR σ ρ x x') (hlen : ∀ w, (Builtin.lenOf x').run P w = .ok n w) (hn : n * sz ≠ 0) (hv : View h G) (hM : Match σ B w0 ρ G w) :
    ∃ l' : Array Value, (∀ d, (Builtin.firstCells sz n x').run P { w with drawn := d } = .ok l' { w with drawn := d }) ∧ CR σ ρ l l'.toList ∧ l.length = n * sz := by
  have hM' : ∀ d, Match σ B w0 ρ G { w with drawn := d } := fun d => hM.same rfl rfl rfl rfl
  have slice : ∀ (nn o : Nat) (lc : Loc) (ln cp : Nat), ρ nn = some lc → (sel (Nat.beq (Nat.mul n sz) 0) (ret []) (rd nn o (Nat.mul n sz)) : M (List Value)) h c = .ok l h' c' →
      ∃ l' : Array Value, (∀ d, (Builtin.firstCells sz n (.slice (some ⟨lc.b, lc.d + o, none⟩) ln cp)).run P { w with drawn := d } = .ok l' { w with drawn := d }) ∧ CR σ ρ l l'.toList ∧ l.length = n * sz := fun nn o lc ln cp hl e1 => by
    rcases sel_ok.1 e1 with ⟨h0, _⟩ | ⟨_, e2⟩
    · exact absurd (beq_of h0) hn
    · obtain ⟨l', r1, r2⟩ := r_rd (P := P) hl _ _ _ _ _ e2 G w hv hM
      refine ⟨l', fun d => ?_, r2⟩
      obtain ⟨l2, r3, r4⟩ := r_rd (P := P) hl _ _ _ _ _ e2 G _ hv (hM' d)
      -- the same cells, whatever has been drawn
      obtain ⟨r, hh1, cc1, e3, e4⟩ := bnd_ok.1 e2
      obtain ⟨cs, g, et, s, rfl, hg, rfl, rfl⟩ := row_ok.1 e3
      obtain ⟨e5, _, _⟩ := opt_ok.1 e4
      obtain ⟨_, hk⟩ := tkx_some _ _ _ e5
      rw [show (Rw.mk cs g et s).cs = cs from rfl, dr_eq] at hk
      obtain ⟨cc, fz, a1, a2, a3, a4, _⟩ := row_read hv hM hg hl
      obtain ⟨ys, y1, y2, y3⟩ := cells_of a4 hk
      have run0 : (loadCells ⟨lc.b, lc.d + o, none⟩ (n * sz)).run P w = .ok ⟨ys⟩ w := by
        have := run_loadRow (P := P) a1 y2
        rw [y1] at this; exact this
      have run1 : (loadCells ⟨lc.b, lc.d + o, none⟩ (n * sz)).run P { w with drawn := d } = .ok ⟨ys⟩ { w with drawn := d } := by
        have := run_loadRow (P := P) (w := { w with drawn := d }) a1 y2
        rw [y1] at this; exact this
      have : l' = ⟨ys⟩ := by
        have h2 : (loadCells ⟨lc.b, lc.d + o, none⟩ (n * sz)).run P w = .ok l' w := r1
        rw [run0] at h2; injection h2 with h3; exact h3.symm
      rw [this]; exact run1
  unfold cells at e
  cases x <;> first | exact (bad_ok.1 e).elim | skip
  · rename_i s
    obtain ⟨⟨s⟩⟩ := s
    cases hx
    rcases sel_ok.1 e with ⟨h1, e1⟩ | ⟨_, e1⟩
    case inr => exact (bad_ok.1 e1).elim
    have h1 := beq_of h1
    subst h1
    obtain ⟨rfl, _, _⟩ := ret_ok.1 e1
    have hns : n = s.length := by
      have := hlen w
      have h2 : (Builtin.lenOf (.string ⟨⟨s⟩⟩)).run P w = .ok s.length w := rfl
      rw [h2] at this; injection this with h3; exact h3.symm
    subst hns
    rw [tk_eq, List.take_length]
    refine ⟨⟨s.map fun b => .int .u8 (b.toNat : Int)⟩, fun d => ?_, ints_cr, ?_⟩
    · show Result.ok (((⟨⟨s⟩⟩ : ByteArray).extract 0 s.length).data.map fun b => (.int .u8 (b.toNat : Int) : Value)) _ = _
      congr 1
      rw [ByteArray.data_extract]
      apply Array.ext'
      simp
    · rw [byteVs_eq]; simp
  · rename_i a ln cp
    cases a with
    | none =>
      obtain ⟨rfl, _, _⟩ := ret_ok.1 e
      cases hx
      have := hlen w
      have h2 : (Builtin.lenOf (.slice none 0 0)).run P w = .ok 0 w := rfl
      rw [h2] at this; injection this with h3
      subst h3
      exact absurd (Nat.zero_mul _) hn
    | some a =>
      cases hx with
      | sliceX nn o _ _ lc hl _ _ => exact slice _ _ _ _ _ hl e
      | sliceU nn o _ _ lc hl _ _ _ _ => exact slice _ _ _ _ _ hl e
      | sliceA A cc =>
        have := hlen w
        have h2 : (Builtin.lenOf (.slice (some A) 0 cc)).run P w = .ok 0 w := rfl
        rw [h2] at this; injection this with h3
        subst h3
        exact absurd (Nat.zero_mul _) hn
theorem q_lenOf {x : Value} : Quiet (lenOf x) := by unfold lenOf; cases x <;> first | exact Quiet.bad | exact Quiet.ret
theorem q_isMk {xt : Option TypeId} : Quiet (isMk P xt) := by
  cases xt with
  | none => exact Quiet.ret
  | some xt => exact Quiet.bnd q_und fun d => by cases d <;> exact Quiet.ret
theorem q_newCells {mk : Bool} {elem : TypeId} {sz n : Nat} {x : Value} : Quiet (newCells P mk elem sz n x) :=
  Quiet.sel (Quiet.bnd q_zero fun _ => Quiet.bnd q_cellsM fun _ => Quiet.ret) q_cells
/-- what is appended, read from both sides -/
theorem newCells_ok {mk : Bool} {elem : TypeId} {sz n : Nat} {x x' : Value} {l : List Value} {h' : H} {c' : Nat} {i : TypeInfo} {z : Value} (e : newCells P mk elem sz n x h c = .ok l h' c') (hx : VR σ ρ x x')
    (hlen : mk = false → ∀ w, (Builtin.lenOf x').run P w = .ok n w) (hn : n * sz ≠ 0) (hi : P.info? elem = some i) (hz : i.zero = some z) (hzs : z.cells.size = sz) (hv : View h G) (hM : Match σ B w0 ρ G w) :
    ∃ l' : Array Value, (∀ d, (news sz n elem mk x').run P { w with drawn := d } = .ok l' { w with drawn := d }) ∧ CR σ ρ l l'.toList ∧ l.length = n * sz := by
  rcases sel_ok.1 e with ⟨rfl, e1⟩ | ⟨rfl, e1⟩
  · obtain ⟨z1, h1, c1, e2, e3⟩ := bnd_ok.1 e1
    obtain ⟨rfl, rfl⟩ := q_zero _ _ _ _ _ e2
    obtain ⟨z', e4, rfl, hzz, hzo⟩ := r_zero (P := P) (σ := σ) (ρ := ρ) (B := B) (w0 := w0) _ _ _ _ _ e2 G w hv hM
    have : z = z1 := by rw [hi] at hzo; simp [hz] at hzo; exact hzo
    subst this
    obtain ⟨zl, h2, c2, e5, e6⟩ := bnd_ok.1 e3
    obtain ⟨hcl, rfl, rfl⟩ := cellsM_ok e5 hzz
    obtain ⟨rfl, _, _⟩ := ret_ok.1 e6
    have hr := zeros_cr hcl n
    have hrep : (Builtin.zeroCells z.cells n).toList = (List.replicate n z.cells.toList).flatten := by unfold Builtin.zeroCells; exact rep_get z.cells n
    refine ⟨Builtin.zeroCells z.cells n, fun d => ?_, by rw [hrep]; exact hr, ?_⟩
    · unfold news
      simp only [Bool.not_true, Bool.false_eq_true, if_false, hn]
      rw [run_bind_ok (show (zeroValue elem).run P { w with drawn := d } = .ok z { w with drawn := d } from by simp [zeroValue, run_info hi, hz])]; rfl
    · have := hr.1.length
      rw [this]
      simp [hzs]
  · obtain ⟨l', r1, r2, r3⟩ := cells_ok (P := P) e1 hx (hlen rfl) hn hv hM
    exact ⟨l', fun d => by unfold news; simpa using r1 d, r2, r3⟩
/-- a grown slice: a new block, or (kill: the old name is gone) -/
theorem e_grown {elem : TypeId} {sz m nc : Nat} {s : Bool} {cs : List Value} {arr : Array Value} {v : Value} {h' : H} {c' : Nat} (e : grown elem sz m s cs h c = .ok v h' c') (hv : View h G) (hM : Match σ B w0 ρ G w) (hf : ρ c = none)
    (hc : ∀ (i : Nat) v, cs[i]? = some v → v.oneCell = true ∧ ∃ v', arr[i]? = some v' ∧ VR σ ρ v v') (hsz : 0 < sz) (hcs : cs.length = m * sz) (hmn : m ≤ nc) (harr : nc * sz ≤ arr.size) (hnc : nc < U)
    (hw : w'.heap = w.heap.push (.cells arr elem (0, 0))) (ho : w'.os = w.os) (ht : w'.tape = w.tape) (hu : w'.output = w.output) :
    ∃ ρ' G', Post σ B w0 ρ ρ' G G' h h' c c' w' ∧ VR σ ρ' v (.slice (some ⟨w.heap.size, 0, none⟩) m nc) ∧ Okk h h' c c' := by
  obtain ⟨b, h1, c1, e1, e2⟩ := bnd_ok.1 e
  obtain ⟨rfl, rfl, rfl⟩ := new_ok.1 e1
  rw [forceN_eq] at e2
  obtain ⟨rfl, rfl, rfl⟩ := ret_ok.1 e2
  refine ⟨_, _, e_row (gr := sz) (tot := nc) hv hM hf hc (fun h0 => absurd h0 (Nat.pos_iff_ne_zero.1 hsz)) (fun _ => ⟨by rw [hcs]; exact Nat.mul_le_mul_right _ hmn, harr, hnc⟩) (.inl rfl) hw ho ht hu, ?_, Okk.new⟩
  have := VR.sliceU (σ := σ) (ρ := ext1 ρ b ⟨w.heap.size, 0, nc, sz⟩) b 0 m 0 ⟨w.heap.size, 0, nc, sz⟩ (by unfold ext1; rw [if_pos rfl]) (by simp) (by simpa using hmn) hnc hsz
  exact this
end
end Go.Ev

namespace Go.Ev
section
variable {P : Program} {σ : Nat → Value} {B : Nat} {w0 : World} {ρ ρ1 ρ2 : Rho} {G G1 G2 : Nat → Option Ent} {h h1 h2 : H} {c c1 c2 : Nat} {w w' : World}
theorem zeroCells_size (z : Array Value) (n : Nat) : (Builtin.zeroCells z n).size = n * z.size := by simp [Builtin.zeroCells]
theorem inPlace_ok {a : Addr} {sz ln n cap : Nat} {nw : List Value} {v : Value} {h' : H} {c' : Nat} (e : inPlace a sz ln n cap nw h c = .ok v h' c') :
    wr a.block (a.off + ln * sz) nw h c = .ok () h' c' ∧ v = .slice (some a) (ln + n) cap := by
  obtain ⟨u, h1, c1, e1, e2⟩ := bnd_ok.1 e
  rw [forceN_eq] at e2
  obtain ⟨rfl, rfl, rfl⟩ := ret_ok.1 e2
  exact ⟨e1, rfl⟩
theorem run_zero {ts : Array TypeId} {ty sType elem : TypeId} {base : Option Addr} {ln cap sz : Nat} {x' : Value} {zs : Bool}
    (h0 : ts[0]? = some sType) (hu : P.underlying sType = some (.slice elem)) (hsz : (P.info? elem).map (·.size) = some sz) (hm : Mode P ts x' 0 zs) (hle : ln ≤ cap) :
    (Builtin.append_ ts ty #[.slice base ln cap, x']).run P w = .ok (.slice base ln cap) w := by
  obtain ⟨i, hi⟩ : ∃ i, P.info? elem = some i := by cases hi : P.info? elem with
    | none => rw [hi] at hsz; cases hsz
    | some i => exact ⟨i, rfl⟩
  have w64 : IntKind.i64.wrap 0 = 0 := by decide
  have first : (∀ w, (Builtin.lenOf x').run P w = .ok 0 w) → (Builtin.firstCells sz 0 x').run P w = .ok #[] w := fun hl => by
    have := hl w
    cases x' <;> first | (cases this; done) | skip
    · rename_i s
      show Result.ok ((s.extract 0 0).data.map _) w = _
      congr 1
      apply Array.ext'
      rw [ByteArray.data_extract]; simp
    · rename_i a n c
      cases a with
      | none => rfl
      | some a => simp [Builtin.firstCells, loadCells, loadCellsFrom]
  cases hm with
  | one h1 hl => cases base <;> simp [Builtin.append_, h0, h1, run_und hu, run_size hsz, hl, hle, first hl, storeCells]
  | two xt d h1 h2 h3 hl =>
    have hd : (match d with | .int _ => true | _ => false : Bool) = false := by cases d <;> first | rfl | exact absurd rfl (h3 _)
    have hf := first hl
    cases base with
    | none => simp [Builtin.append_, h0, h1, run_und hu, run_und h2, run_size hsz, hl, hle, hf]
    | some a => simp [Builtin.append_, h0, h1, run_und hu, run_und h2, run_size hsz, hl, hle, hf, storeCells]
  | mk xt k k2 h1 h2 h3 =>
    subst h3
    cases base <;> simp [Builtin.append_, h0, h1, run_und hu, run_und h2, run_size hsz, hle, asInt, asIntOf, w64, run_info hi, storeCells]
theorem grown_ok {elem : TypeId} {sz m : Nat} {s : Bool} {cs : List Value} {v : Value} {h' : H} {c' : Nat} (e : grown elem sz m s cs h c = .ok v h' c') :
    v = .slice (some ⟨c, 0, none⟩) m U ∧ h' = T.put (some (.row cs sz elem s)) h c ∧ c' = c + 1 := by
  obtain ⟨b, h2, c2, e14, e15⟩ := bnd_ok.1 e
  obtain ⟨rfl, rfl, rfl⟩ := new_ok.1 e14
  rw [forceN_eq] at e15
  obtain ⟨rfl, rfl, rfl⟩ := ret_ok.1 e15
  exact ⟨rfl, rfl, rfl⟩
theorem e_append {ts : Array TypeId} {ty t : TypeId} {s x s' x' : Value} (h0 : ts[0]? = some t) (hs : VR σ ρ s s') (hx : VR σ ρ x x') :
    Ef P σ B w0 ρ (Ev.append P t ts[1]? s x) (Builtin.append_ ts ty #[s', x']) (fun ρ' => VR σ ρ') := by
  intro h c a h' c' ev
  obtain ⟨d, h1, c1, e1, e2⟩ := bnd_ok.1 ev
  obtain ⟨hu, rfl, rfl⟩ := opt_ok.1 e1
  cases d <;> first | exact (bad_ok.1 e2).elim | skip
  rename_i elem
  obtain ⟨mk, h1, c1, e3, e4⟩ := bnd_ok.1 e2
  obtain ⟨rfl, rfl⟩ := q_isMk _ _ _ _ _ e3
  unfold appendS at e4
  cases s <;> first | exact (bad_ok.1 e4).elim | skip
  rename_i base ln cap
  obtain ⟨sz, h1, c1, e5, e6⟩ := bnd_ok.1 e4
  obtain ⟨hsz, rfl, rfl⟩ := opt_ok.1 e5
  obtain ⟨n, h1, c1, e7, e8⟩ := bnd_ok.1 e6
  obtain ⟨rfl, rfl⟩ := (Quiet.sel (b := mk) (q_natOf (v := x)) q_lenOf) _ _ _ _ _ e7
  -- what the length reads as
  have hlen : mk = false → ∀ w, (Builtin.lenOf x').run P w = .ok n w := fun hm => by
    rcases sel_ok.1 e7 with ⟨h, _⟩ | ⟨_, e⟩
    · rw [hm] at h; cases h
    · exact (lenOf_ok e hx).1
  have hmode : Mode P ts x' n mk := by
    cases hx1 : ts[1]? with
    | none =>
      rw [hx1] at e3
      obtain ⟨rfl, _, _⟩ := ret_ok.1 e3
      exact .one hx1 (hlen rfl)
    | some xt =>
      rw [hx1] at e3
      obtain ⟨d, h2, c2, e9, e10⟩ := bnd_ok.1 e3
      obtain ⟨hd, _, _⟩ := opt_ok.1 e9
      by_cases hk : ∃ k, d = .int k
      · obtain ⟨k, rfl⟩ := hk
        obtain ⟨rfl, _, _⟩ := ret_ok.1 e10
        obtain ⟨⟨k2, rfl⟩, _, _⟩ := natOf_ok (show natOf x h1 c1 = .ok n h1 c1 from e7)
        cases hx
        exact .mk xt k k2 hx1 hd rfl
      · have hmf : mk = false := by
          cases d <;> first | (obtain ⟨rfl, _, _⟩ := ret_ok.1 e10; rfl) | exact absurd ⟨_, rfl⟩ hk
        subst hmf
        exact .two xt d hx1 hd (fun k hh => hk ⟨k, hh⟩) (hlen rfl)
  rcases sel_ok.1 e8 with ⟨hn0, e9⟩ | ⟨hn0, e9⟩
  · -- nothing is appended
    have hn0 := beq_of hn0
    subst hn0
    obtain ⟨rfl, rfl, rfl⟩ := ret_ok.1 e9
    refine ⟨Okk.refl _ _, fun G w hv hM hf => ?_⟩
    have fin : ∀ (A : Option Addr) (cp : Nat), s' = .slice A ln cp → ln ≤ cp → ∃ b w' ρ' G', (Builtin.append_ ts ty #[s', x']).run P w = .ok b w' ∧ Post σ B w0 ρ ρ' G G' h1 h1 c1 c1 w' ∧ VR σ ρ' (.slice base ln cap) b := by
      rintro A cp rfl hle
      exact ⟨_, w, ρ, G, run_zero (P := P) h0 hu hsz hmode hle, Post.refl hM hv, hs⟩
    cases hs with
    | sliceN => exact fin _ _ rfl (Nat.le_refl _)
    | sliceX nn o _ _ l hl _ hle => exact fin _ _ rfl hle
    | sliceU nn o _ k l hl _ hk _ _ => exact fin _ _ rfl (by omega)
    | sliceA A cc => exact fin _ _ rfl (Nat.zero_le _)
  · have hn0 := bne_of hn0
    rcases sel_ok.1 e9 with ⟨hg, e10⟩ | ⟨_, e10⟩
    case inr => exact (bad_ok.1 e10).elim
    obtain ⟨hsz0, hneed, hbytes, i, z, hi, hz, hzs⟩ := growOk_ok hg
    have hneed : ln + n < 4611686018427387904 := hneed
    have hbytes : (2 * (ln + n) + 1000) * P.bytesOf elem ≤ 281474976710656 := hbytes
    have hns : n * sz ≠ 0 := Nat.mul_ne_zero hn0 (Nat.pos_iff_ne_zero.1 hsz0)
    obtain ⟨nw, h1, c1, e11, e12⟩ := bnd_ok.1 e10
    obtain ⟨rfl, rfl⟩ := q_newCells _ _ _ _ _ e11
    have hbn : n * P.bytesOf elem ≤ 281474976710656 := Nat.le_trans (Nat.mul_le_mul_right _ (by omega)) hbytes
    -- a new block with old cells ahead
    have growing : ∀ (old : List Value) (s0 : Bool) (hh : H) (base' : Option Addr) (cap' : Nat), grown elem sz (ln + n) s0 (old ++ nw) hh c1 = .ok a h' c' → old.length = ln * sz → s' = .slice base' ln cap' → cap' < ln + n →
        ∀ G w G0, View hh G0 → Match σ B w0 ρ G w → View h1 G → Match σ B w0 ρ G0 w → ρ c1 = none →
        (∀ d, ∃ old' : Array Value, (Builtin.firstCells sz ln (.slice base' ln cap')).run P { w with drawn := d } = .ok old' { w with drawn := d } ∧ CR σ ρ old old'.toList) →
        ∃ b w' ρ' G', (Builtin.append_ ts ty #[s', x']).run P w = .ok b w' ∧ Post σ B w0 ρ ρ' G0 G' hh h' c1 c' w' ∧ VR σ ρ' a b ∧ Okk hh h' c1 c' := by
      intro old s0 hh base' cap' eg hol hs' hcap G w G0 hv0 hM hv hM0 hf hold
      subst hs'
      obtain ⟨nw', n1, n2, n3⟩ := newCells_ok (P := P) e11 hx hlen hns hi hz hzs hv hM
      obtain ⟨old', o1, o2⟩ := hold (w.drawn + 1)
      obtain ⟨nc, g1, g2, g3⟩ := run_grow (P := P) (w := w) (ty := ty) h0 hu hi hsz hmode (n1 _) o1 hz hns hcap hneed hbytes
      have hall : CR σ ρ (old ++ nw) (old' ++ nw').toList := by
        rw [Array.toList_append]
        exact ⟨o2.1.app n2.1, fun x hx => by
          rcases List.mem_append.1 hx with hx | hx
          · exact o2.2 x hx
          · exact n2.2 x hx⟩
      have hsize : (old' ++ nw').size = (ln + n) * sz := by
        have h1 := hall.1.length
        have h2 : (old' ++ nw').toList.length = (old' ++ nw').size := rfl
        rw [← h2, ← h1, List.length_append, hol, n3, Nat.add_mul]
      have k1 : ∀ (i : Nat) v, (old ++ nw)[i]? = some v → v.oneCell = true ∧ ∃ v', (old' ++ nw' ++ Builtin.zeroCells z.cells (nc - (ln + n)))[i]? = some v' ∧ VR σ ρ v v' := fun i v hiv => by
        obtain ⟨o, v', q1, q2⟩ := hall.get i v hiv
        refine ⟨o, v', ?_, q2⟩
        have hlt : i < (old' ++ nw').size := by
          rcases Nat.lt_or_ge i (old' ++ nw').size with h | h
          · exact h
          · have : (⟨(old' ++ nw').toList⟩ : Array Value)[i]? = none := by simp at h ⊢; omega
            rw [this] at q1; cases q1
        rw [Array.getElem?_append_left hlt]
        exact q1
      have k2 : (old ++ nw).length = (ln + n) * sz := by rw [List.length_append, hol, n3, Nat.add_mul]
      have k3 : nc * sz ≤ (old' ++ nw' ++ Builtin.zeroCells z.cells (nc - (ln + n))).size := by
        rw [Array.size_append, hsize, zeroCells_size, hzs, ← Nat.add_mul]
        exact Nat.mul_le_mul_right _ (by omega)
      have k4 : nc < U := Nat.lt_trans g2 (by decide)
      obtain ⟨ρ', G', p1, p2, p3⟩ := e_grown (w := w) (w' := { w with drawn := w.drawn + 1, heap := w.heap.push (.cells (old' ++ nw' ++ Builtin.zeroCells z.cells (nc - (ln + n))) elem (0, 0)) }) eg hv0 hM0 hf k1 hsz0 k2 g1 k3 k4 rfl rfl rfl rfl
      exact ⟨_, _, ρ', G', g3, p1, p2, p3⟩
    have here : ∀ (nn o cap' : Nat) (lc : Loc), ρ nn = some lc → inPlace ⟨nn, o, none⟩ sz ln n cap nw h1 c1 = .ok a h' c' → s' = .slice (some ⟨lc.b, lc.d + o, none⟩) ln cap' → ln + n ≤ cap' →
        (VR σ ρ (.slice (some ⟨nn, o, none⟩) (ln + n) cap) (.slice (some ⟨lc.b, lc.d + o, none⟩) (ln + n) cap')) →
        Okk h1 h' c1 c' ∧ ∀ G w, View h1 G → Match σ B w0 ρ G w → (∀ m, c1 ≤ m → m < c' → ρ m = none) →
          ∃ b w' ρ' G', (Builtin.append_ ts ty #[s', x']).run P w = .ok b w' ∧ Post σ B w0 ρ ρ' G G' h1 h' c1 c' w' ∧ VR σ ρ' a b := by
      intro nn o cap' lc hl ei hs' hfit hvr
      subst hs'
      obtain ⟨e13, rfl⟩ := inPlace_ok ei
      refine ⟨t_wr e13, fun G w hv hM _ => ?_⟩
      obtain ⟨nw', n1, n2, n3⟩ := newCells_ok (P := P) e11 hx hlen hns hi hz hzs hv hM
      obtain ⟨w', G', r1, r2⟩ := e_wr (P := P) e13 hl n2 hv hM
      refine ⟨_, w', ρ, G', run_fit (P := P) h0 hu hi hsz hmode (n1 w.drawn) hz hns hfit (by omega) hbn ?_, r2, hvr⟩
      show (storeCells ((⟨lc.b, lc.d + o, none⟩ : Addr).add (ln * sz)) nw'.toList).run P w = _
      rw [add_eq, Nat.add_assoc]; exact r1
    unfold appendC at e12
    cases base with
    | none =>
      cases hs
      have e13 : grown elem sz (0 + n) false ([] ++ nw) h1 c1 = .ok a h' c' := by rw [Nat.zero_add]; exact e12
      obtain ⟨_, hh, hc⟩ := grown_ok e13
      refine ⟨by rw [hh, hc]; exact Okk.new, fun G w hv hM hf => ?_⟩
      obtain ⟨b, w', ρ', G', r1, r2, r3, _⟩ := growing [] false h1 none 0 e13 (by simp) rfl (by omega) G w G hv hM hv hM (hf _ (Nat.le_refl _) (by omega)) (fun d => ⟨#[], rfl, .nil, fun x hx => by cases hx⟩)
      exact ⟨b, w', ρ', G', r1, r2, r3⟩
    | some ad =>
      rcases sel_ok.1 e12 with ⟨hcap, e13⟩ | ⟨hcap, e13⟩
      · -- the room is known
        have hcap := (blt_iff _ _).1 hcap
        cases hs with
        | sliceU => exact absurd hcap (by omega)
        | sliceA => exact absurd hcap UU_not_lt
        | sliceX nn o _ _ lc hl _ hle =>
          rcases sel_ok.1 e13 with ⟨hfit, e14⟩ | ⟨hfit, e14⟩
          · have hfit : ln + n ≤ cap := (ble_iff _ _).1 hfit
            exact here nn o cap lc hl e14 rfl hfit (.sliceX nn o _ _ lc hl hcap hfit)
          · have hfit : ¬ ln + n ≤ cap := fun h => by
              have h2 : Nat.ble (Nat.add ln n) cap = true := (ble_iff _ _).2 h
              rw [h2] at hfit; cases hfit
            obtain ⟨old, h2, c2, e15, e16⟩ := bnd_ok.1 e14
            obtain ⟨rfl, rfl⟩ := q_rd _ _ _ _ _ e15
            rw [app_eq] at e16
            obtain ⟨_, hh, hc⟩ := grown_ok e16
            refine ⟨by rw [hh, hc]; exact Okk.new, fun G w hv hM hf => ?_⟩
            have hrd := r_rd (P := P) (σ := σ) (B := B) (w0 := w0) hl _ _ _ _ _ e15 G
            have hol : old.length = ln * sz := by obtain ⟨_, _, _, hh⟩ := hrd w hv hM; exact hh
            obtain ⟨b, w', ρ', G', r1, r2, r3, _⟩ := growing old false h2 _ cap e16 hol rfl (by omega) G w G hv hM hv hM (hf _ (Nat.le_refl _) (by omega)) (fun d => by
              obtain ⟨ys, y1, y2, _⟩ := hrd { w with drawn := d } hv (hM.same rfl rfl rfl rfl)
              exact ⟨ys, y1, y2⟩)
            exact ⟨b, w', ρ', G', r1, r2, r3⟩
      · have hcap : ¬ cap < U := fun hlt => by rw [(blt_iff _ _).2 hlt] at hcap; cases hcap
        rcases sel_ok.1 e13 with ⟨_, e14⟩ | ⟨hUU, e14⟩
        · exact (bad_ok.1 e14).elim
        have hUU := bne_of hUU
        cases hs with
        | sliceX nn o _ _ lc hl hlt _ => exact absurd hlt hcap
        | sliceA => exact absurd rfl hUU
        | sliceU nn o _ k lc hl ho hk htot hesz =>
          obtain ⟨r, h2, c2, e15, e16⟩ := bnd_ok.1 e14
          obtain ⟨cs, g, et, s0, rfl, hg0, rfl, rfl⟩ := row_ok.1 e15
          rcases sel_ok.1 e16 with ⟨hgz, e17⟩ | ⟨_, e17⟩
          case inr => exact (bad_ok.1 e17).elim
          have hge : g = sz ∧ et = elem := by
            cases hb : Nat.beq g sz with
            | false => rw [hb] at hgz; cases hgz
            | true => rw [hb] at hgz; exact ⟨beq_of hb, beq_of hgz⟩
          obtain ⟨rfl, rfl⟩ := hge
          rcases sel_ok.1 e17 with ⟨hfit, e18⟩ | ⟨hfit, e18⟩
          · -- it surely fits
            have hfit : o + (ln + n) * g ≤ len cs := (ble_iff _ _).1 hfit
            rw [len_eq] at hfit
            have hf2 : ∀ G w, View h1 G → Match σ B w0 ρ G w → ln + n ≤ lc.tot - k := fun G w hv hM => by
              obtain ⟨cc, fz, b1, b2, b3, b4, _, b6, _, _⟩ := row_read hv hM hg0 hl
              obtain ⟨hge, hcl, hroom, _⟩ := b6 (Nat.pos_iff_ne_zero.1 hsz0)
              have h1 : (k + (ln + n)) * g ≤ lc.tot * g := by
                rw [ho, ← hge] at hfit
                rw [Nat.add_mul]; omega
              have := Nat.le_of_mul_le_mul_right h1 hsz0
              omega
            obtain ⟨e19, rfl⟩ := inPlace_ok e18
            refine ⟨t_wr e19, fun G w hv hM hf => ?_⟩
            have hle := hf2 G w hv hM
            obtain ⟨_, r⟩ := here nn o (lc.tot - k) lc hl e18 rfl hle (.sliceU nn o (ln + n) k lc hl ho (by omega) htot hesz)
            exact r G w hv hM hf
          · -- it may fit or not
            obtain ⟨old, h3, c3, e19, e20⟩ := bnd_ok.1 e18
            obtain ⟨hold, rfl, rfl⟩ := opt_ok.1 e19
            obtain ⟨u, h4, c4, e21, e22⟩ := bnd_ok.1 e20
            obtain ⟨rfl, rfl⟩ := kill_ok.1 e21
            rw [app_eq] at e22
            obtain ⟨rfl, rfl, rfl⟩ := grown_ok e22
            refine ⟨Okk.kill.trans Okk.new, fun G w hv hM hf => ?_⟩
            have hfc := hf _ (Nat.le_refl _) (Nat.lt_succ_self _)
            obtain ⟨hold', hk'⟩ := tkx_some _ _ _ hold
            rw [dr_eq] at hold' hk'
            have hol : old.length = ln * g := by rw [hold', List.length_take]; exact Nat.min_eq_left hk'
            obtain ⟨cc, fz, b1, b2, b3, b4, _, b6, _, _⟩ := row_read hv hM hg0 hl
            obtain ⟨hge, hcl, hroom, _⟩ := b6 (Nat.pos_iff_ne_zero.1 hsz0)
            obtain ⟨ys, y1, y2, y3⟩ := cells_of b4 hk'
            have hloads : ∀ d, (Builtin.firstCells g ln (.slice (some ⟨lc.b, lc.d + o, none⟩) ln (lc.tot - k))).run P { w with drawn := d } = .ok ⟨ys⟩ { w with drawn := d } := fun d => by
              have := run_loadRow (P := P) (w := { w with drawn := d }) b1 y2
              rw [y1] at this; exact this
            by_cases hroom2 : ln + n ≤ lc.tot - k
            · -- it fits: the same block under a new name
              obtain ⟨nw', n1, n2, n3⟩ := newCells_ok (P := P) e11 hx hlen hns hi hz hzs hv hM
              have hnl : nw'.toList.length = n * g := by rw [← n2.1.length]; exact n3
              have hmul : (k + (ln + n)) * g ≤ lc.tot * g := Nat.mul_le_mul_right _ (by omega)
              have hko : o = k * g := by rw [ho, hge]
              have hdist : (k + (ln + n)) * g = k * g + (ln * g + n * g) := by rw [Nat.add_mul, Nat.add_mul]
              have hin : lc.d + (o + ln * g) + 0 + nw'.toList.length ≤ cc.size := by rw [hnl]; omega
              obtain ⟨w', c', r1, r2, r3, r4, r5⟩ := run_storeRow (P := P) (b := lc.b) (e := et) (fz := fz) (o := lc.d + (o + ln * g)) nw'.toList 0 cc w b1 b2 hin (fun v hv => by
                obtain ⟨i, hi, rfl⟩ := List.mem_iff_getElem.1 hv
                have hi' : i < nw.length := by rw [n2.1.length]; exact hi
                obtain ⟨v', e1, e2⟩ := n2.1.get i nw[i] (List.getElem?_eq_getElem hi')
                rw [List.getElem?_eq_getElem hi] at e1
                cases e1
                exact e2.oneCell (n2.2 _ (List.getElem_mem hi')))
              have hfit' := run_fit (P := P) (base := some ⟨lc.b, lc.d + o, none⟩) (ty := ty) h0 hu hi hsz hmode (n1 w.drawn) hz hns hroom2 (by omega) hbn (w' := w') (by
                show (storeCells ((⟨lc.b, lc.d + o, none⟩ : Addr).add (ln * g)) nw'.toList).run P w = _
                rw [add_eq, Nat.add_assoc]; exact r1)
              have hle := ext1_le (l := (⟨lc.b, lc.d + o, lc.tot - k, g⟩ : Loc)) hfc
              refine ⟨_, w', _, _, hfit', Post.rename (k := ⟨lc.b, lc.d + o, lc.tot - k, g⟩) hM hv hfc hg0 hl rfl r2.blk r2.size r2.os r2.tape r2.output ?_, ?_⟩
              · have hnl2 : nw.length = n * g := n3
                refine ⟨c', fz, r3, by rw [r4]; exact b2, b3, fun i v hiv => ?_, fun h0 => absurd h0 (Nat.pos_iff_ne_zero.1 hsz0), fun _ => ⟨rfl, ?_, ?_, ?_⟩⟩
                · show v.oneCell = true ∧ ∃ v', c'[lc.d + o + i]? = some v' ∧ VR σ _ v v'
                  rw [r5]
                  by_cases hil : i < ln * g
                  · rw [List.getElem?_append_left (by omega), hold'] at hiv
                    rw [if_neg (by omega)]
                    obtain ⟨v', q1, q2⟩ := y3.1.get i v hiv
                    exact ⟨y3.2 v (List.mem_of_getElem? hiv), v', y2 i v' q1, q2.le hle⟩
                  · rw [List.getElem?_append_right (by omega), hol] at hiv
                    have hlt : i - ln * g < nw.length := by
                      rcases Nat.lt_or_ge (i - ln * g) nw.length with h | h
                      · exact h
                      · rw [List.getElem?_eq_none h] at hiv; cases hiv
                    rw [if_pos (by omega)]
                    obtain ⟨v', q1, q2⟩ := n2.1.get _ v hiv
                    refine ⟨n2.2 v (List.mem_of_getElem? hiv), v', ?_, q2.le hle⟩
                    rw [show lc.d + o + i - (lc.d + (o + ln * g) + 0) = i - ln * g by omega]; exact q1
                · rw [List.length_append, hol, hnl2, ← Nat.add_mul]
                  exact Nat.mul_le_mul_right _ hroom2
                · show lc.d + o + (lc.tot - k) * g ≤ c'.size
                  rw [r4, Nat.sub_mul]; omega
                · show lc.tot - k < U; omega
              · have := VR.sliceU (σ := σ) (ρ := ext1 ρ c4 ⟨lc.b, lc.d + o, lc.tot - k, g⟩) c4 0 (ln + n) 0 ⟨lc.b, lc.d + o, lc.tot - k, g⟩ (by unfold ext1; rw [if_pos rfl]) (by simp) (by simpa using hroom2) (by show lc.tot - k < U; omega) hsz0
                exact this
            · -- it does not fit: the old block is let go
              have hp := Post.lose (c := c4) hM hv hg0 hl (w' := w) (fun _ _ => rfl) rfl rfl rfl rfl
              obtain ⟨b, w', ρ', G', r1, r2, r3, r4⟩ := growing old s0 _ _ (lc.tot - k) e22 hol rfl (by omega) G w _ hp.view hM hv hp.mt hfc (fun d => ⟨⟨ys⟩, hloads d, by rw [hold']; exact y3⟩)
              exact ⟨b, w', ρ', G', r1, hp.trans Okk.kill r4 r2, r3⟩
end
end Go.Ev

namespace Go.Ev
section
variable {P : Program} {σ : Nat → Value} {B : Nat} {w0 : World} {ρ ρ1 ρ2 : Rho} {G G1 G2 : Nat → Option Ent} {h h1 h2 : H} {c c1 c2 : Nat} {w w' : World}
theorem zOk_ok {elem : TypeId} {sz : Nat} (hz : zOk P elem sz = true) : 0 < sz ∧ ∃ i z, P.info? elem = some i ∧ i.zero = some z ∧ z.cells.size = sz := by
  unfold zOk zeroOf at hz
  cases hi : P.info? elem with
  | none => rw [hi] at hz; cases hz
  | some i =>
    rw [hi] at hz
    cases hzz : i.zero with
    | none => simp [hzz] at hz
    | some z =>
      simp only [Option.bind_some, hzz] at hz
      cases hgr : ground 4 z with
      | false => simp only [hgr] at hz; cases hz
      | true =>
        simp only [hgr] at hz
        have key : z.cells.size = sz ∧ 0 < sz := by
          cases z <;> first
            | (have h1 : Nat.beq sz 1 = true := hz; have h2 := beq_of h1; subst h2; exact ⟨rfl, Nat.one_pos⟩)
            | (cases hz; done)
            | skip
          rename_i l
          obtain ⟨l⟩ := l
          have hz' : sel (Nat.beq (len l) sz) (notB (Nat.beq sz 0)) false = true := hz
          cases hbb : Nat.beq (len l) sz with
          | false => rw [hbb] at hz'; cases hz'
          | true =>
            rw [hbb] at hz'
            have hz2 : notB (Nat.beq sz 0) = true := hz'
            rw [notB_eq, beq_eq_decide] at hz2
            have h0 : sz ≠ 0 := by simpa using hz2
            have h1 := beq_of hbb
            rw [len_eq] at h1
            exact ⟨h1, Nat.pos_of_ne_zero h0⟩
        exact ⟨key.2, i, z, rfl, hzz, key.1⟩
theorem zero_same {elem : TypeId} {i : TypeInfo} {z z1 : Value} {h' : H} {c' : Nat} (e : zero P elem h c = .ok z1 h' c') (hi : P.info? elem = some i) (hz : i.zero = some z) : z1 = z ∧ VR σ ρ z z := by
  obtain ⟨e1, _, _⟩ := opt_ok.1 e
  unfold zeroOf at e1
  rw [hi] at e1
  simp only [Option.bind_some, hz] at e1
  cases hg : ground 4 z with
  | false => simp only [hg] at e1; cases e1
  | true =>
    simp only [hg] at e1
    have e' : z = z1 := by injection e1
    exact ⟨e'.symm, ground_VR 4 z hg⟩
/-- zeros as the model lays them -/
theorem model_zeros {z Z : Array Value} {n : Nat} (hs : 0 < z.size) (hZ : n * z.size = 0 → Z = #[]) (hZ2 : n * z.size ≠ 0 → Z = z) :
    (Array.range (n * z.size)).map (Z[· % Z.size]!) = ⟨(List.replicate n z.toList).flatten⟩ := by
  by_cases hn : n * z.size = 0
  · have hn0 : n = 0 := by
      rcases Nat.mul_eq_zero.1 hn with h | h
      · exact h
      · omega
    subst hn0
    simp
  · rw [hZ2 hn]
    apply Array.ext'
    rw [rep_get]
theorem e_buildSlice {t : TypeId} {n : Nat} {ps ps' : List (Nat × Value)} (hp : PR σ ρ ps ps') : Ef P σ B w0 ρ (Ev.buildSlice P t n ps) (Instr.buildSlice t n ⟨ps'⟩) (fun ρ' => VR σ ρ') := by
  intro h c a h' c' ev
  obtain ⟨d, h1, c1, e1, e2⟩ := bnd_ok.1 ev
  obtain ⟨hu, rfl, rfl⟩ := opt_ok.1 e1
  cases d <;> first | exact (bad_ok.1 e2).elim | skip
  rename_i elem
  obtain ⟨sz, h1, c1, e3, e4⟩ := bnd_ok.1 e2
  obtain ⟨hsz, rfl, rfl⟩ := opt_ok.1 e3
  rcases sel_ok.1 e4 with ⟨hok, e5⟩ | ⟨_, e5⟩
  case inr => exact (bad_ok.1 e5).elim
  have hok : zOk P elem sz = true ∧ n * sz ≤ 16777216 := by
    cases hz : zOk P elem sz with
    | false => rw [hz] at hok; cases hok
    | true => rw [hz] at hok; exact ⟨rfl, (ble_iff _ _).1 hok⟩
  obtain ⟨hz, hmax⟩ := hok
  obtain ⟨hsz0, i, z, hi, hzz, hzs⟩ := zOk_ok hz
  obtain ⟨z1, h1, c1, e6, e7⟩ := bnd_ok.1 e5
  obtain ⟨rfl, rfl⟩ := q_zero _ _ _ _ _ e6
  obtain ⟨rfl, hzr⟩ := zero_same (σ := σ) (ρ := ρ) e6 hi hzz
  obtain ⟨zl, h1, c1, e8, e9⟩ := bnd_ok.1 e7
  obtain ⟨hcl, rfl, rfl⟩ := cellsM_ok e8 hzr
  obtain ⟨l, h1, c1, e10, e11⟩ := bnd_ok.1 e9
  obtain ⟨rfl, rfl, l', hf, hr⟩ := fillA_ok _ ps' _ _ _ _ _ _ _ hp (zeros_cr hcl n) e10
  obtain ⟨b, h2, c2, e12, e13⟩ := bnd_ok.1 e11
  obtain ⟨rfl, rfl, rfl⟩ := new_ok.1 e12
  obtain ⟨rfl, rfl, rfl⟩ := ret_ok.1 e13
  refine ⟨Okk.new, fun G w hv hM hfr => ?_⟩
  have hlen : n < U := by
    have h1 : n * 1 ≤ n * sz := Nat.mul_le_mul_left _ hsz0
    have h2 : U = 18446744073709551616 := rfl
    omega
  refine ⟨.slice (some ⟨w.heap.size, 0, none⟩) n n, { w with heap := w.heap.push (.cells ⟨l'⟩ elem (0, 0)) }, _, _, ?_, e_row (tot := 0) hv hM (hfr _ (Nat.le_refl _) (Nat.lt_succ_self _)) hr.get (fun _ => hr.1.length.symm) (fun h => absurd rfl h) (.inl rfl) rfl rfl rfl rfl, ?_⟩
  · have hzv : (zeroValue elem).run P w = .ok z1 w := by simp [zeroValue, run_info hi, hzz]
    unfold Instr.buildSlice
    rw [run_bind_ok (run_und hu w)]
    dsimp only
    rw [run_bind_ok (run_size hsz w)]
    subst hzs
    have hnot : ¬ (n * z1.cells.size > 2 ^ 24) := by
      have : (2 : Nat) ^ 24 = 16777216 := by decide
      omega
    rw [if_neg hnot]
    by_cases hn : n * z1.cells.size = 0
    · rw [if_pos hn, run_bind_ok (show (pure #[] : Sem (Array Value)).run P w = .ok #[] w from rfl), model_zeros hsz0 (fun _ => rfl) (fun h => absurd hn h)]
      simp only [hf]; rfl
    · rw [if_neg hn, run_bind_ok hzv, run_bind_ok (show (pure z1.cells : Sem (Array Value)).run P w = .ok z1.cells w from rfl), model_zeros hsz0 (fun h => absurd h hn) (fun _ => rfl)]
      simp only [hf]; rfl
  · exact .sliceX _ 0 n n ⟨w.heap.size, 0, 0, 0⟩ (by unfold ext1; rw [if_pos rfl]) hlen (Nat.le_refl _)
theorem e_makeSlice {t : TypeId} {a1 a2 b1 b2 : Value} (h1' : VR σ ρ a1 b1) (h2' : VR σ ρ a2 b2) : Ef P σ B w0 ρ (Ev.makeSlice P t a1 a2) (Instr.makeSlice t b1 b2) (fun ρ' => VR σ ρ') := by
  intro h c a h' c' ev
  obtain ⟨d, h1, c1, e1, e2⟩ := bnd_ok.1 ev
  obtain ⟨hu, rfl, rfl⟩ := opt_ok.1 e1
  cases d <;> first | exact (bad_ok.1 e2).elim | skip
  rename_i elem
  obtain ⟨sz, h1, c1, e3, e4⟩ := bnd_ok.1 e2
  obtain ⟨hsz, rfl, rfl⟩ := opt_ok.1 e3
  obtain ⟨ln, h1, c1, e5, e6⟩ := bnd_ok.1 e4
  obtain ⟨⟨k1, rfl⟩, rfl, rfl⟩ := natOf_ok e5
  obtain ⟨cp, h1, c1, e7, e8⟩ := bnd_ok.1 e6
  obtain ⟨⟨k2, rfl⟩, rfl, rfl⟩ := natOf_ok e7
  cases h1'; cases h2'
  rcases sel_ok.1 e8 with ⟨hok, e9⟩ | ⟨_, e9⟩
  case inr => exact (bad_ok.1 e9).elim
  have hok : zOk P elem sz = true ∧ ln ≤ cp ∧ cp < 100000 ∧ P.bytesOf elem * cp ≤ 281474976710656 := by
    cases hz : zOk P elem sz with
    | false => rw [hz] at hok; cases hok
    | true =>
      rw [hz] at hok
      have hok : sel (Nat.ble ln cp) (sel (Nat.blt cp 100000) (Nat.ble (Nat.mul (P.bytesOf elem) cp) 281474976710656) false) false = true := hok
      cases h1 : Nat.ble ln cp with
      | false => rw [h1] at hok; cases hok
      | true =>
        rw [h1] at hok
        have hok : sel (Nat.blt cp 100000) (Nat.ble (Nat.mul (P.bytesOf elem) cp) 281474976710656) false = true := hok
        cases h2 : Nat.blt cp 100000 with
        | false => rw [h2] at hok; cases hok
        | true => rw [h2] at hok; exact ⟨rfl, (ble_iff _ _).1 h1, (blt_iff _ _).1 h2, (ble_iff _ _).1 hok⟩
  obtain ⟨hz, hle, hmax, hby⟩ := hok
  obtain ⟨hsz0, i, z, hi, hzz, hzs⟩ := zOk_ok hz
  obtain ⟨z1, h1, c1, e10, e11⟩ := bnd_ok.1 e9
  obtain ⟨rfl, rfl⟩ := q_zero _ _ _ _ _ e10
  obtain ⟨rfl, hzr⟩ := zero_same (σ := σ) (ρ := ρ) e10 hi hzz
  obtain ⟨zl, h1, c1, e12, e13⟩ := bnd_ok.1 e11
  obtain ⟨hcl, rfl, rfl⟩ := cellsM_ok e12 hzr
  obtain ⟨b, h2, c2, e14, e15⟩ := bnd_ok.1 e13
  obtain ⟨rfl, rfl, rfl⟩ := new_ok.1 e14
  obtain ⟨rfl, rfl, rfl⟩ := ret_ok.1 e15
  refine ⟨Okk.new, fun G w hv hM hfr => ?_⟩
  have hr := zeros_cr hcl cp
  refine ⟨.slice (some ⟨w.heap.size, 0, none⟩) ln cp, { w with heap := w.heap.push (.cells ⟨(List.replicate cp z1.cells.toList).flatten⟩ elem (0, 0)) }, _, _, ?_, e_row (tot := 0) hv hM (hfr _ (Nat.le_refl _) (Nat.lt_succ_self _)) hr.get (fun _ => hr.1.length.symm) (fun h => absurd rfl h) (.inl rfl) rfl rfl rfl rfl, ?_⟩
  · have hzv : (zeroValue elem).run P w = .ok z1 w := by simp [zeroValue, run_info hi, hzz]
    have wl : IntKind.i64.wrap (ln : Int) = (ln : Int) := IntWalk.i64_in _ (by omega)
    have wc : IntKind.i64.wrap (cp : Int) = (cp : Int) := IntWalk.i64_in _ (by omega)
    have hib : i.bytes = P.bytesOf elem := by unfold Program.bytesOf; rw [hi]; rfl
    have hb' : ¬ ((i.bytes : Int) * (cp : Int) > 2 ^ 48) := by
      rw [hib]
      have h1 : ((P.bytesOf elem * cp : Nat) : Int) ≤ ((281474976710656 : Nat) : Int) := Int.ofNat_le.2 hby
      have h2 : ((P.bytesOf elem * cp : Nat) : Int) = (P.bytesOf elem : Int) * (cp : Int) := Int.natCast_mul _ _
      have h3 : (2 : Int) ^ 48 = 281474976710656 := by decide
      rw [h3, ← h2]
      omega
    subst hzs
    unfold Instr.makeSlice
    rw [run_bind_ok (run_und hu w)]
    dsimp only
    rw [run_bind_ok (show (asInt (.int k1 (ln : Int))).run P w = .ok (ln : Int) w from rfl), run_bind_ok (show (asInt (.int k2 (cp : Int))).run P w = .ok (cp : Int) w from rfl), run_bind_ok (run_info hi w)]
    simp only [wl, wc]
    have hcond : ((decide ((cp : Int) < 0) || decide ((i.bytes : Int) * (cp : Int) > 2 ^ 48)) || decide ((ln : Int) < 0) || decide ((ln : Int) > (cp : Int))) = false := by
      simp only [hb', decide_false, Bool.or_false, Bool.or_eq_false_iff, decide_eq_false_iff_not]
      omega
    rw [hcond]
    simp only [Bool.false_eq_true, if_false]
    rw [run_bind_ok (run_askRoom P w _), run_bind_ok (run_size hsz w)]
    simp only [Int.toNat_natCast]
    by_cases hn : cp * z1.cells.size = 0
    · rw [if_pos hn, run_bind_ok (show (pure #[] : Sem (Array Value)).run P w = .ok #[] w from rfl), model_zeros hsz0 (fun _ => rfl) (fun h => absurd hn h)]; rfl
    · rw [if_neg hn, run_bind_ok hzv, run_bind_ok (show (pure z1.cells : Sem (Array Value)).run P w = .ok z1.cells w from rfl), model_zeros hsz0 (fun h => absurd h hn) (fun _ => rfl)]; rfl
  · exact .sliceX _ 0 ln cp ⟨w.heap.size, 0, 0, 0⟩ (by unfold ext1; rw [if_pos rfl]) (Nat.lt_trans hmax (by decide)) hle
/-- a block that is no row -/
theorem post_obj {e : Ent} {o : Obj} (hv : View h G) (hM : Match σ B w0 ρ G w) (hf : ρ c = none) (hw : w'.heap = w.heap.push o) (ho : w'.os = w.os) (ht : w'.tape = w.tape) (hu : w'.output = w.output)
    (he : EntR σ (ext1 ρ c ⟨w.heap.size, 0, 0, 0⟩) ⟨w.heap.size, 0, 0, 0⟩ w' e) :
    Post σ B w0 ρ (ext1 ρ c ⟨w.heap.size, 0, 0, 0⟩) G (upd G c (some e)) h (T.put (some e) h c) c (c + 1) w' :=
  Post.alloc hM hv hf (fun k hk => by rw [hw, Array.getElem?_push_lt hk]; simp [hk]) (by rw [hw]; simp) ho ht hu rfl he
theorem e_newMap : Ef P σ B w0 ρ newMap (do pure (.value (.map (some (← newObj (.map #[] 0))))) : Sem Next) (fun ρ' o n => ∃ v v', o = .val v ∧ n = .value v' ∧ VR σ ρ' v v') := by
  intro h c a h' c' ev
  obtain ⟨b, h2, c2, e1, e2⟩ := bnd_ok.1 ev
  obtain ⟨rfl, rfl, rfl⟩ := new_ok.1 e1
  obtain ⟨rfl, rfl, rfl⟩ := ret_ok.1 e2
  refine ⟨Okk.new, fun G w hv hM hf => ?_⟩
  refine ⟨.value (.map (some w.heap.size)), { w with heap := w.heap.push (.map #[] 0) }, _, _, rfl, post_obj hv hM (hf _ (Nat.le_refl _) (Nat.lt_succ_self _)) rfl rfl rfl rfl ⟨#[], by simp, trivial⟩, _, _, rfl, rfl, ?_⟩
  exact .map _ ⟨w.heap.size, 0, 0, 0⟩ (by unfold ext1; rw [if_pos rfl])
theorem e_range {t : TypeId} {x x' : Value} (hx : VR σ ρ x x') : Ef P σ B w0 ρ (Ev.range P t x) (Instr.range t x') (fun ρ' => VR σ ρ') := by
  intro h c a h' c' ev
  obtain ⟨d, h1, c1, e1, e2⟩ := bnd_ok.1 ev
  obtain ⟨hu, rfl, rfl⟩ := opt_ok.1 e1
  cases d <;> first | (cases x <;> exact (bad_ok.1 e2).elim) | skip
  · cases x <;> first | exact (bad_ok.1 e2).elim | skip
    rename_i s
    obtain ⟨⟨s⟩⟩ := s
    cases hx
    obtain ⟨b, h2, c2, e5, e6⟩ := bnd_ok.1 e2
    obtain ⟨rfl, rfl, rfl⟩ := new_ok.1 e5
    obtain ⟨rfl, rfl, rfl⟩ := ret_ok.1 e6
    refine ⟨Okk.new, fun G w hv hM hf => ?_⟩
    have hfc := hf _ (Nat.le_refl _) (Nat.lt_succ_self _)
    refine ⟨.pointer (some ⟨w.heap.size, 0, none⟩), { w with heap := w.heap.push (.stringIter ⟨⟨s⟩⟩ 0) }, _, _, ?_, post_obj hv hM hfc rfl rfl rfl rfl ⟨rfl, by simp⟩, ?_⟩
    · unfold Instr.range
      rw [run_bind_ok (run_und hu w)]
      rfl
    · exact .ptr _ 0 ⟨w.heap.size, 0, 0, 0⟩ (by unfold ext1; rw [if_pos rfl])
  rename_i kt el
  cases x <;> first | exact (bad_ok.1 e2).elim | skip
  rename_i r
  cases r with
  | none => exact (bad_ok.1 e2).elim
  | some m =>
    cases hx with | map _ l hl =>
    obtain ⟨es, h2, c2, e3, e4⟩ := bnd_ok.1 e2
    obtain ⟨hg, rfl, rfl⟩ := mapOf_ok e3
    obtain ⟨b, h2, c2, e5, e6⟩ := bnd_ok.1 e4
    obtain ⟨rfl, rfl, rfl⟩ := new_ok.1 e5
    obtain ⟨rfl, rfl, rfl⟩ := ret_ok.1 e6
    refine ⟨Okk.new, fun G w hv hM hf => ?_⟩
    obtain ⟨es', b1, b2, _, _⟩ := map_read hv hM hg hl
    have hfc := hf _ (Nat.le_refl _) (Nat.lt_succ_self _)
    refine ⟨.pointer (some ⟨w.heap.size, 0, none⟩), { w with heap := w.heap.push (.mapIter (some l.b) es.2 #[] es.2) }, _, _, ?_, post_obj hv hM hfc rfl rfl rfl rfl ⟨rfl, l, ext1_le hfc _ _ hl, by simp⟩, ?_⟩
    · unfold Instr.range
      rw [run_bind_ok (run_und hu w)]
      simp [run_getMap b1]
    · exact .ptr _ 0 ⟨w.heap.size, 0, 0, 0⟩ (by unfold ext1; rw [if_pos rfl])
theorem hasB_eq {b : Nat} : ∀ {l : List Nat}, hasB b l = l.contains b := by
  intro l
  induction l with
  | nil => rfl
  | cons x l ih =>
    have : hasB b (x :: l) = @Bool.rec (fun _ => Bool) (hasB b l) true (Nat.beq x b) := rfl
    rw [this, ih, List.contains_cons]
    cases hb : Nat.beq x b with
    | true => have := Nat.eq_of_beq_eq_true hb; subst this; simp
    | false =>
      have : (b == x) = false := by
        cases hc : (b == x) with
        | false => rfl
        | true => have := eq_of_beq hc; subst this; rw [Nat.beq_refl] at hb; cases hb
      rw [this]; simp
theorem leftE_rel {seen : List Nat} : ∀ {xs ys : List MapEntry}, MER σ ρ xs ys → MER σ ρ (leftE seen xs) (ys.filter fun e => !seen.contains e.born)
  | [], [], _ => trivial
  | x :: xs, y :: ys, ⟨⟨a, b, c⟩, d⟩ => by
    have ih := leftE_rel (seen := seen) d
    have : leftE seen (x :: xs) = @Bool.rec (fun _ => List MapEntry) (x :: leftE seen xs) (leftE seen xs) (hasB x.born seen) := rfl
    rw [this, hasB_eq, List.filter_cons, ← c]
    cases seen.contains x.born with
    | true => simpa using ih
    | false => simp only [Bool.not_false, if_true]; exact ⟨⟨a, b, c⟩, ih⟩
theorem allV_born {k : Nat} : ∀ {xs ys : List MapEntry}, MER σ ρ xs ys → allV (fun e => Nat.ble k e.born) xs = ys.all (fun e => decide (e.born ≥ k))
  | [], [], _ => rfl
  | x :: xs, y :: ys, ⟨⟨_, _, c⟩, d⟩ => by
    have ih := allV_born (k := k) d
    have : allV (fun e : MapEntry => Nat.ble k e.born) (x :: xs) = @Bool.rec (fun _ => Bool) false (allV (fun e : MapEntry => Nat.ble k e.born) xs) (Nat.ble k x.born) := rfl
    rw [this, ih, List.all_cons, ← c]
    have : Nat.ble k x.born = decide (x.born ≥ k) := by rw [Bool.eq_iff_iff]; simp [Nat.ble_eq]
    rw [this]
    cases decide (x.born ≥ k) <;> rfl
theorem q_entry {it : Value} : Quiet (Ev.entry it) :=
  Quiet.bnd q_addr fun _ => Quiet.bnd Quiet.ent fun e => Quiet.sel Quiet.bad <| by
    split
    · exact Quiet.bnd Quiet.opt fun _ => Quiet.bnd q_mapOf fun _ => Quiet.sel (Quiet.bnd Quiet.opt fun _ => Quiet.ret) Quiet.bad
    · exact Quiet.bad
theorem lastN_eq : ∀ (l : List Nat) (d : Option Nat), lastN l d = (match l.getLast? with | some x => some x | none => d) := by
  intro l
  induction l with
  | nil => intro d; rfl
  | cons x l ih =>
    intro d
    show lastN l (some x) = _
    rw [ih]
    cases l with
    | nil => rfl
    | cons y l =>
      cases h : (y :: l).getLast? with
      | none => simp at h
      | some z => rw [List.getLast?_cons, h]; rfl
theorem findE_rel {b : Nat} {e : MapEntry} : ∀ {xs ys : List MapEntry}, MER σ ρ xs ys → findE b xs = some e → ∃ e', ys.find? (fun e => e.born == b) = some e' ∧ VR σ ρ e.key e'.key ∧ VR σ ρ e.val e'.val
  | [], [], _, h => by cases h
  | x :: xs, y :: ys, ⟨⟨a, v, c⟩, d⟩, h => by
    replace h : (@Bool.rec (fun _ => Option MapEntry) (findE b xs) (some x) (Nat.beq x.born b)) = some e := h
    cases hb : Nat.beq x.born b with
    | true =>
      rw [hb] at h
      cases h
      have := Nat.eq_of_beq_eq_true hb
      exact ⟨y, by rw [List.find?_cons_of_pos (by simp [← c, this])], a, v⟩
    | false =>
      rw [hb] at h
      obtain ⟨e', h1, h2⟩ := findE_rel d h
      have hn : ¬ y.born = b := by
        rintro rfl
        rw [c, Nat.beq_refl] at hb; cases hb
      exact ⟨e', by rw [List.find?_cons_of_neg (by simp [hn])]; exact h1, h2⟩
theorem r_entry {it it' : Value} (hx : VR σ ρ it it') : Rd P σ B w0 ρ (Ev.entry it) (Instr.entry it') (VR σ ρ) := by
  intro h c a h' c' ev G w hv hM
  obtain ⟨ad, h1, c1, e1, e2⟩ := bnd_ok.1 ev
  obtain ⟨rfl, rfl, rfl⟩ := addr_ok e1
  obtain ⟨en, h1, c1, e3, e4⟩ := bnd_ok.1 e2
  obtain ⟨hg, rfl, rfl⟩ := ent_ok.1 e3
  cases hx with | ptr n o l hl =>
  rcases sel_ok.1 e4 with ⟨_, e5⟩ | ⟨ho, e4⟩
  · exact (bad_ok.1 e5).elim
  have ho : o = 0 := by
    rw [notB_eq, beq_eq_decide] at ho
    simpa using ho
  subst ho
  obtain ⟨m, since, seen, stepped, rfl⟩ : ∃ m since seen stepped, en = .mit m since seen stepped := by
    cases en <;> first | exact ⟨_, _, _, _, rfl⟩ | exact (bad_ok.1 e4).elim
  obtain ⟨s, h2, c2, e5, e6⟩ := bnd_ok.1 e4
  obtain ⟨hs, rfl, rfl⟩ := opt_ok.1 e5
  obtain ⟨es, h3, c3, e7, e8⟩ := bnd_ok.1 e6
  obtain ⟨hgm, rfl, rfl⟩ := mapOf_ok e7
  rcases sel_ok.1 e8 with ⟨hcl, e9⟩ | ⟨_, e9⟩
  case inr => exact (bad_ok.1 e9).elim
  have hcl := Nat.eq_of_beq_eq_true hcl
  obtain ⟨e, h4, c4, e10, e11⟩ := bnd_ok.1 e9
  obtain ⟨hf, rfl, rfl⟩ := opt_ok.1 e10
  obtain ⟨rfl, rfl, rfl⟩ := ret_ok.1 e11
  obtain ⟨l', q1, ⟨q0, lm, q2, q3⟩, _, _⟩ := hM.ent n _ (hv n _ hg)
  rw [hl] at q1; cases q1
  obtain ⟨es', b1, b2, _, _⟩ := map_read hv hM hgm q2
  obtain ⟨e', f1, f2, f3⟩ := findE_rel b2 hf
  have hit : (getObj l.b).run P w = .ok (.mapIter (some lm.b) since ⟨seen⟩ stepped) w := by simp [getObj, Sem.run, q3]
  refine ⟨.tuple #[e'.key, e'.val], ?_, .tuple _ _ (.cons _ _ _ _ f2 (.cons _ _ _ _ f3 .nil))⟩
  rw [lastN_eq] at hs
  have hback : (⟨seen⟩ : Array Nat).back? = some s := by
    rw [← Array.getLast?_toList]
    cases hl : seen.getLast? with
    | none => rw [hl] at hs; cases hs
    | some x => rw [hl] at hs; exact hs
  have hfind : es'.find? (fun e => e.born == s) = some e' := by rw [← Array.find?_toList]; exact f1
  rw [q0]
  unfold Instr.entry
  simp only [Nat.add_zero]
  rw [run_bind_ok hit]
  dsimp only
  rw [hback]
  dsimp only
  rw [run_bind_ok (run_getMap b1)]
  dsimp only
  rw [hfind, hcl]
  simp
theorem m_next {it : Value} {s : Bool} {h h' : H} {c c' : Nat} {v : Value} (e : Ev.next it s h c = .ok v h' c') : c' = c := by
  obtain ⟨ad, h1, c1, e1, e2⟩ := bnd_ok.1 e
  obtain ⟨rfl, rfl⟩ := q_addr _ _ _ _ _ e1
  obtain ⟨en, h1, c1, e3, e4⟩ := bnd_ok.1 e2
  obtain ⟨hg, rfl, rfl⟩ := ent_ok.1 e3
  rcases sel_ok.1 e4 with ⟨_, e5⟩ | ⟨_, e5⟩
  · exact (bad_ok.1 e5).elim
  · cases s with
    | true =>
      obtain ⟨l, pos, rfl⟩ : ∃ sl pos, en = .sit sl pos := by
        cases en <;> first | exact ⟨_, _, rfl⟩ | exact (bad_ok.1 e5).elim
      replace e5 : nextS ad.block l pos h1 c1 = .ok v h' c' := e5
      unfold nextS at e5
      cases hn : nth l pos with
      | none => rw [hn] at e5; obtain ⟨_, _, rfl⟩ := ret_ok.1 e5; rfl
      | some b =>
        rw [hn] at e5
        rcases sel_ok.1 e5 with ⟨_, e6⟩ | ⟨_, e6⟩
        · rw [forceN_eq, forceN_eq] at e6
          obtain ⟨_, h3, c3, e10, e11⟩ := bnd_ok.1 e6
          obtain ⟨rfl, rfl⟩ := setEnt_ok.1 e10
          obtain ⟨_, _, rfl⟩ := ret_ok.1 e11; rfl
        · exact (bad_ok.1 e6).elim
    | false =>
      obtain ⟨m, since, seen, stepped, rfl⟩ : ∃ m since seen stepped, en = .mit m since seen stepped := by
        cases en <;> first | exact ⟨_, _, _, _, rfl⟩ | exact (bad_ok.1 e5).elim
      obtain ⟨es, h2, c2, e6, e7⟩ := bnd_ok.1 e5
      obtain ⟨rfl, rfl⟩ := q_mapOf _ _ _ _ _ e6
      rcases sel_ok.1 e7 with ⟨_, e8⟩ | ⟨_, e8⟩
      case inr => exact (bad_ok.1 e8).elim
      cases hle : leftE seen es.1 with
      | nil =>
        rw [hle] at e8
        obtain ⟨_, _, rfl⟩ := ret_ok.1 (show (ret _ : M Value) h2 c2 = .ok v h' c' from e8); rfl
      | cons x rest =>
        cases rest with
        | cons y r => rw [hle] at e8; exact (bad_ok.1 (show (bad : M Value) h2 c2 = .ok v h' c' from e8)).elim
        | nil =>
          rw [hle] at e8
          rcases sel_ok.1 e8 with ⟨_, e9⟩ | ⟨_, e9⟩
          · obtain ⟨_, h3, c3, e10, e11⟩ := bnd_ok.1 e9
            obtain ⟨rfl, rfl⟩ := setEnt_ok.1 e10
            obtain ⟨_, _, rfl⟩ := ret_ok.1 e11; rfl
          · exact (bad_ok.1 e9).elim
theorem other_set0 {b : Nat} {o : Obj} : Other b w { w with heap := w.heap.setIfInBounds b o } :=
  ⟨fun k hk => by show (w.heap.setIfInBounds b o)[k]? = _; rw [Array.getElem?_setIfInBounds_ne (by omega)], by simp, rfl, rfl, rfl⟩
theorem run_setIter {r : Nat} {m : Option Nat} {a b : Nat} {s : Array Nat} {o : Obj} (hh : w.heap[r]? = some (.mapIter m a s b)) : (setObj r o).run P w = .ok () { w with heap := w.heap.setIfInBounds r o } := by
  simp [setObj, Sem.run, hh]
theorem e_next {it it' : Value} {s : Bool} {ty : TypeId} (hx : VR σ ρ it it') : Ef P σ B w0 ρ (Ev.next it s) (Instr.next it' s ty) (fun ρ' => VR σ ρ') := by
  intro h c a h' c' ev
  obtain ⟨ad, h1, c1, e1, e2⟩ := bnd_ok.1 ev
  obtain ⟨rfl, rfl, rfl⟩ := addr_ok e1
  obtain ⟨en, h1, c1, e3, e4⟩ := bnd_ok.1 e2
  obtain ⟨hg, rfl, rfl⟩ := ent_ok.1 e3
  cases hx with | ptr n o l hl =>
  rcases sel_ok.1 e4 with ⟨_, e5⟩ | ⟨ho, e4⟩
  · exact (bad_ok.1 e5).elim
  have ho : o = 0 := by
    rw [notB_eq, beq_eq_decide] at ho
    simpa using ho
  subst ho
  cases s with
  | true =>
    obtain ⟨sl, pos, rfl⟩ : ∃ sl pos, en = .sit sl pos := by
      cases en <;> first | exact ⟨_, _, rfl⟩ | exact (bad_ok.1 e4).elim
    replace e4 : nextS n sl pos h1 c1 = .ok a h' c' := e4
    unfold nextS at e4
    cases hn : nth sl pos with
    | none =>
      rw [hn] at e4
      obtain ⟨rfl, rfl, rfl⟩ := ret_ok.1 e4
      refine ⟨Okk.refl _ _, fun G w hv hM _ => ?_⟩
      obtain ⟨l', q1, ⟨q0, q2⟩, _, _⟩ := hM.ent n _ (hv n _ hg)
      rw [hl] at q1; cases q1
      refine ⟨.tuple #[.bool false], w, ρ, G, ?_, Post.refl hM hv, .tuple _ _ (.cons _ _ _ _ (.bool _) .nil)⟩
      have hsz : ¬ pos < (ByteArray.mk ⟨sl⟩).size := by
        rw [nth_eq] at hn
        show ¬ pos < sl.length
        have := List.getElem?_eq_none_iff.1 hn
        omega
      rw [q0]
      unfold Instr.next
      simp [getObj, Sem.run, q2, hsz]
    | some bb =>
      rw [hn] at e4
      rcases sel_ok.1 e4 with ⟨hlt, e5⟩ | ⟨_, e5⟩
      case inr => exact (bad_ok.1 e5).elim
      rw [forceN_eq, forceN_eq] at e5
      obtain ⟨_, h3, c3, e9, e10⟩ := bnd_ok.1 e5
      obtain ⟨rfl, rfl⟩ := setEnt_ok.1 e9
      obtain ⟨rfl, rfl, rfl⟩ := ret_ok.1 e10
      have hlt : bb.toNat < 128 := Nat.le_of_ble_eq_true hlt
      refine ⟨Okk.put hg, fun G w hv hM _ => ?_⟩
      obtain ⟨l', q1, ⟨q0, q2⟩, _, q3⟩ := hM.ent n _ (hv n _ hg)
      rw [hl] at q1; cases q1
      rw [nth_eq] at hn
      have hsz : pos < (ByteArray.mk ⟨sl⟩).size := (List.getElem?_eq_some_iff.1 hn).1
      have hb : (ByteArray.mk ⟨sl⟩)[pos]'hsz = bb := by
        have := (List.getElem?_eq_some_iff.1 hn).2
        exact this
      have hdec : Utf8.decode ⟨⟨sl⟩⟩ pos = (bb.toNat, 1) := by
        have := decode_ascii ⟨⟨sl⟩⟩ pos hsz (by rw [hb]; exact hlt)
        rw [hb] at this; exact this
      refine ⟨.tuple #[.bool true, .int .i64 pos, .int .i32 bb.toNat], { w with heap := w.heap.setIfInBounds l.b (.stringIter ⟨⟨sl⟩⟩ (pos + 1)) }, ρ, _, ?_, Post.change hM hv hg hl other_set0.blk other_set0.size rfl rfl rfl ⟨q0, Array.getElem?_setIfInBounds_self_of_lt q3⟩, .tuple _ _ (.cons _ _ _ _ (.bool _) (.cons _ _ _ _ (.int _ _) (.cons _ _ _ _ (.int _ _) .nil)))⟩
      rw [q0]
      unfold Instr.next
      simp [getObj, setObj, Sem.run, q2, hsz, hdec, goInt]
  | false =>
    obtain ⟨m, since, seen, stepped, rfl⟩ : ∃ m since seen stepped, en = .mit m since seen stepped := by
      cases en <;> first | exact ⟨_, _, _, _, rfl⟩ | exact (bad_ok.1 e4).elim
    obtain ⟨es, h2, c2, e5, e6⟩ := bnd_ok.1 e4
    obtain ⟨hgm, rfl, rfl⟩ := mapOf_ok e5
    rcases sel_ok.1 e6 with ⟨hhe, e7⟩ | ⟨_, e7⟩
    case inr => exact (bad_ok.1 e7).elim
    have main : ∀ G w, View h2 G → Match σ B w0 ρ G w → ∃ (lm : Loc) (es' : Array MapEntry), l.d = 0 ∧ w.heap[l.b]? = some (.mapIter (some lm.b) since ⟨seen⟩ stepped) ∧ ρ m = some lm ∧ w.heap[lm.b]? = some (.map es' es.2) ∧ MER σ ρ es.1 es'.toList ∧
        (!(⟨seen⟩ : Array Nat).isEmpty && !es'.isEmpty && es'.all (fun e => decide (e.born ≥ stepped))) = false := fun G w hv hM => by
      obtain ⟨l', q1, ⟨q0, lm, q2, q3⟩, _, _⟩ := hM.ent n _ (hv n _ hg)
      rw [hl] at q1; cases q1
      obtain ⟨es', b1, b2, _, _⟩ := map_read hv hM hgm q2
      refine ⟨lm, es', q0, q3, q2, b1, b2, ?_⟩
      have hb := allV_born (k := stepped) b2
      obtain ⟨es'⟩ := es'
      unfold hereE at hhe
      split at hhe
      · simp
      · rename_i hnil _
        rw [hnil] at b2
        cases es' with
        | nil => simp
        | cons _ _ => cases b2
      · rw [notB_eq, hb] at hhe
        simp at hhe ⊢
        intro _ _
        exact hhe
    have hlist : leftE seen es.1 = leftE seen es.1 := rfl
    cases hle : leftE seen es.1 with
    | nil =>
      rw [hle] at e7
      obtain ⟨rfl, rfl, rfl⟩ := ret_ok.1 e7
      refine ⟨Okk.refl _ _, fun G w hv hM _ => ?_⟩
      obtain ⟨lm, es', q0, q3, q2, b1, b2, hguard⟩ := main G w hv hM
      have hf := leftE_rel (seen := seen) b2
      rw [hle] at hf
      have hleft : (es'.filter fun e => !(⟨seen⟩ : Array Nat).contains e.born) = #[] := by
        apply Array.ext'
        rw [Array.toList_filter]
        simp only [List.contains_toArray]
        cases hy : es'.toList.filter (fun e => !seen.contains e.born) with
        | nil => rfl
        | cons _ _ => rw [hy] at hf; cases hf
      have hit : (getObj l.b).run P w = .ok (.mapIter (some lm.b) since ⟨seen⟩ stepped) w := by simp [getObj, Sem.run, q3]
      refine ⟨.tuple #[.bool false], w, ρ, G, ?_, Post.refl hM hv, .tuple _ _ (.cons _ _ _ _ (.bool _) .nil)⟩
      rw [q0]
      unfold Instr.next
      simp only [Nat.add_zero]
      rw [run_bind_ok hit]
      dsimp only
      rw [run_bind_ok (run_getMap b1)]
      dsimp only
      rw [hguard, hleft]
      simp [Question.forced]
    | cons x rest =>
      cases rest with
      | cons _ _ => rw [hle] at e7; exact (bad_ok.1 (show (bad : M Value) h2 c2 = .ok a h' c' from e7)).elim
      | nil =>
        rw [hle] at e7
        rcases sel_ok.1 e7 with ⟨hlt, e8⟩ | ⟨_, e8⟩
        case inr => exact (bad_ok.1 e8).elim
        obtain ⟨_, h3, c3, e9, e10⟩ := bnd_ok.1 e8
        obtain ⟨rfl, rfl⟩ := setEnt_ok.1 e9
        obtain ⟨rfl, rfl, rfl⟩ := ret_ok.1 e10
        have hlt : x.born < since := by simpa [Nat.blt_eq] using hlt
        refine ⟨Okk.put hg, fun G w hv hM _ => ?_⟩
        obtain ⟨lm, es', q0, q3, q2, b1, b2, hguard⟩ := main G w hv hM
        have hf := leftE_rel (seen := seen) b2
        rw [hle] at hf
        obtain ⟨y, hy, hk, hval, hborn⟩ : ∃ y, es'.toList.filter (fun e => !seen.contains e.born) = [y] ∧ VR σ ρ x.key y.key ∧ VR σ ρ x.val y.val ∧ x.born = y.born := by
          cases hy : es'.toList.filter (fun e => !seen.contains e.born) with
          | nil => rw [hy] at hf; cases hf
          | cons y r =>
            rw [hy] at hf
            cases r with
            | nil => exact ⟨y, rfl, hf.1.1, hf.1.2.1, hf.1.2.2⟩
            | cons _ _ => exact hf.2.elim
        have hleft : (es'.filter fun e => !(⟨seen⟩ : Array Nat).contains e.born) = #[y] := by
          apply Array.ext'
          rw [Array.toList_filter]
          simp only [List.contains_toArray]
          exact hy
        have hit : (getObj l.b).run P w = .ok (.mapIter (some lm.b) since ⟨seen⟩ stepped) w := by simp [getObj, Sem.run, q3]
        have hyl : y.born < since := by rw [← hborn]; exact hlt
        have hyn : ¬ since ≤ y.born := by omega
        refine ⟨.tuple #[.bool true, y.key, y.val], { w with heap := w.heap.setIfInBounds l.b (.mapIter (some lm.b) since ((⟨seen⟩ : Array Nat).push y.born) es.2) }, ρ, _, ?_, Post.change hM hv hg hl other_set0.blk other_set0.size rfl rfl rfl ⟨q0, lm, q2, ?_⟩, .tuple _ _ (.cons _ _ _ _ (.bool _) (.cons _ _ _ _ hk (.cons _ _ _ _ hval .nil)))⟩
        · rw [q0]
          unfold Instr.next
          simp only [Nat.add_zero]
          rw [run_bind_ok hit]
          dsimp only
          rw [run_bind_ok (run_getMap b1)]
          dsimp only
          rw [hguard, hleft]
          simp [Question.forced, hyl, hyn, run_setIter q3]
        · rw [app_eq, hborn]
          have : (⟨seen ++ [y.born]⟩ : Array Nat) = (⟨seen⟩ : Array Nat).push y.born := by simp
          rw [this]
          exact Array.getElem?_setIfInBounds_self_of_lt (Array.getElem?_eq_some_iff.1 q3).1
/-! maps -/
theorem q_noop : True := trivial
theorem modL_eq {α : Type} (f : α → α) : ∀ (l : List α) (i : Nat), modL f l i = l.modify i f := by
  intro l
  induction l with
  | nil => intro i; cases i <;> rfl
  | cons x l ih =>
    intro i
    cases i with
    | zero => rfl
    | succ i => show x :: modL f l i = _; rw [ih]; rfl
end
end Go.Ev

namespace Go.Ev
section
variable {P : Program} {σ : Nat → Value} {B : Nat} {w0 : World} {ρ ρ1 ρ2 : Rho} {G G1 G2 : Nat → Option Ent} {h h1 h2 : H} {c c1 c2 : Nat} {w w' : World}
theorem findNow_spec {kd : TypeDesc} {k : Value} : ∀ (es : List MapEntry) (i j : Nat) (v : Value), Instr.findNow kd k es i = some (some (j, v)) → ∃ e, i ≤ j ∧ es[j - i]? = some e ∧ Instr.sameNow kd k e.key = some true := by
  intro es
  induction es with
  | nil => intro i j v h; cases h
  | cons e es ih =>
    intro i j v h
    rw [Instr.findNow] at h
    cases hs : Instr.sameNow kd k e.key with
    | none => rw [hs] at h; cases h
    | some b =>
      rw [hs] at h
      cases b with
      | true => cases h; exact ⟨e, Nat.le_refl _, by simp, hs⟩
      | false =>
        obtain ⟨e', h1, h2, h3⟩ := ih (i + 1) j v h
        refine ⟨e', by omega, ?_, h3⟩
        rw [show j - i = (j - (i + 1)) + 1 by omega]
        simpa using h2
theorem bytes_eq' {a b : ByteArray} (h : (a == b) = true) : a = b := by
  rw [beq_toListBytes] at h
  have h := eq_of_beq h
  rw [ByteArray.toList_eq, ByteArray.toList_eq] at h
  cases a; cases b
  simp at h
  simp [h]
theorem same_bits {kd : TypeDesc} {k q : Value} (hk : scalarKey kd = true) (h : Instr.sameNow kd k q = some true) : Instr.sameBits 10000 q k = true := by
  have key : ∀ {kd : TypeDesc}, scalarKey kd = true → Instr.sameNow kd k q = some true → q = k := by
    clear h hk kd
    intro kd hk h
    cases kd <;> first | (cases hk; done) | skip
    all_goals cases k <;> cases q <;> first | (cases h; done) | skip
    · rename_i a b
      have h' : some (a == b) = some true := h
      injection h' with h'
      rw [eq_of_beq h']
    · rename_i kk k1 a k2 b
      have h' : (if k1 = k2 then some (a == b) else none) = some true := h
      split at h'
      · rename_i hk2
        injection h' with h'
        rw [eq_of_beq h', hk2]
      · cases h'
    · rename_i a b
      have h' : some (a == b) = some true := h
      injection h' with h'
      rw [bytes_eq' h']
  have hq := key hk h
  subst hq
  cases kd <;> first | (cases hk; done) | skip
  all_goals cases q <;> first | (cases h; done) | skip
  all_goals simp [Instr.sameBits, beq_toListBytes]
theorem MER.modify {xs ys : List MapEntry} (h : MER σ ρ xs ys) {k k' v v' : Value} (hk : VR σ ρ k k') (hv : VR σ ρ v v') (i : Nat) :
    MER σ ρ (xs.modify i fun e => { e with key := k, val := v }) (ys.modify i fun e => { e with key := k', val := v' }) := by
  induction xs generalizing ys i with
  | nil => cases ys with
    | nil => cases i <;> exact trivial
    | cons => cases h
  | cons x xs ih =>
    cases ys with
    | nil => cases h
    | cons y ys =>
      cases i with
      | zero => exact ⟨⟨hk, hv, h.1.2.2⟩, h.2⟩
      | succ i => exact ⟨h.1, ih h.2 i⟩
theorem MER.push {xs ys : List MapEntry} (h : MER σ ρ xs ys) {x y : MapEntry} (hx : VR σ ρ x.key y.key ∧ VR σ ρ x.val y.val ∧ x.born = y.born) : MER σ ρ (xs ++ [x]) (ys ++ [y]) := by
  induction xs generalizing ys with
  | nil => cases ys with
    | nil => exact ⟨hx, trivial⟩
    | cons => cases h
  | cons a xs ih =>
    cases ys with
    | nil => cases h
    | cons b ys => exact ⟨h.1, ih h.2⟩
theorem other_set {b : Nat} {o : Obj} : Other b w { w with heap := w.heap.setIfInBounds b o } :=
  ⟨fun k hk => by show (w.heap.setIfInBounds b o)[k]? = _; rw [Array.getElem?_setIfInBounds_ne (by omega)], by simp, rfl, rfl, rfl⟩
theorem run_setMap {r : Nat} {es : Array MapEntry} {cl : Nat} {o : Obj} (hh : w.heap[r]? = some (.map es cl)) : (setObj r o).run P w = .ok () { w with heap := w.heap.setIfInBounds r o } := by
  simp [setObj, Sem.run, hh]
theorem t_mapUpdate {t : TypeId} {m k x : Value} {u : Unit} {h' : H} {c' : Nat} (ev : Ev.mapUpdate P t m k x h c = .ok u h' c') :
    ∃ (kt el : TypeId) (r : Nat) (kd : TypeDesc) (es : List MapEntry × Nat) (f : Option (Nat × Value)), P.underlying t = some (.map kt el) ∧ m = .map (some r) ∧ P.underlying kt = some kd ∧ scalarKey kd = true ∧ T.get h r = some (.map es.1 es.2) ∧ Ev.findKey P kt k es.1 0 h c = .ok f h c ∧
      c' = c ∧ ((∃ i v, f = some (i, v) ∧ h' = T.put (some (.map (es.1.modify i fun e => { e with key := k, val := x }) es.2)) h r) ∨
        (f = none ∧ h' = T.put (some (.map (es.1 ++ [{ key := k, val := x, born := es.2 }]) (es.2 + 1))) h r)) := by
  obtain ⟨d, h1, c1, e1, e2⟩ := bnd_ok.1 ev
  obtain ⟨hu, rfl, rfl⟩ := opt_ok.1 e1
  obtain ⟨kt, el, rfl⟩ : ∃ kt el, d = .map kt el := by
    cases d <;> first | exact (bad_ok.1 e2).elim | exact ⟨_, _, rfl⟩
  obtain ⟨r, rfl⟩ : ∃ r, m = .map r := by
    cases m <;> first | exact (bad_ok.1 e2).elim | exact ⟨_, rfl⟩
  cases r with
  | none => exact (bad_ok.1 e2).elim
  | some r =>
    obtain ⟨kd, h1, c1, e3, e4⟩ := bnd_ok.1 e2
    obtain ⟨huk, rfl, rfl⟩ := opt_ok.1 e3
    rcases sel_ok.1 e4 with ⟨hs, e5⟩ | ⟨_, e5⟩
    case inr => exact (bad_ok.1 e5).elim
    obtain ⟨es, h1, c1, e6, e7⟩ := bnd_ok.1 e5
    obtain ⟨hg, rfl, rfl⟩ := mapOf_ok e6
    obtain ⟨f, h1, c1, e8, e9⟩ := bnd_ok.1 e7
    obtain ⟨rfl, rfl⟩ := q_findKey _ _ _ _ _ _ _ e8
    refine ⟨kt, el, r, kd, es, f, hu, rfl, huk, hs, hg, e8, ?_⟩
    cases f with
    | none =>
      replace e9 : forceN es.2 (fun c => setEnt r (.map (app es.1 [{ key := k, val := x, born := c }]) (Nat.succ c))) h1 c1 = .ok u h' c' := e9
      rw [forceN_eq] at e9
      obtain ⟨rfl, rfl⟩ := setEnt_ok.1 e9
      exact ⟨rfl, .inr ⟨rfl, by rw [app_eq]⟩⟩
    | some p =>
      obtain ⟨i, v⟩ := p
      obtain ⟨rfl, rfl⟩ := setEnt_ok.1 e9
      exact ⟨rfl, .inl ⟨i, v, rfl, by rw [modL_eq]⟩⟩
theorem e_mapUpdate {t : TypeId} {m m' k k' x x' : Value} (hm : VR σ ρ m m') (hk : VR σ ρ k k') (hx : VR σ ρ x x') : Ef P σ B w0 ρ (Ev.mapUpdate P t m k x) (Instr.mapUpdate t m' k' x') (fun _ _ _ => True) := by
  intro h c a h' c' ev
  obtain ⟨kt, el, r, kd, es, f, hu, rfl, huk, hs, hg, ef, rfl, hcase⟩ := t_mapUpdate ev
  refine ⟨by rcases hcase with ⟨i, v, _, rfl⟩ | ⟨_, rfl⟩ <;> exact Okk.put hg, fun G w hv hM _ => ?_⟩
  cases hm with | map _ l hl =>
  obtain ⟨es', b1, b2, _, _⟩ := map_read hv hM hg hl
  obtain ⟨f', ef', hfr⟩ := findNow_of huk hs hk es.1 es'.toList 0 f _ _ _ _ b2 ef
  have run : (Instr.findKey kt k' es'.toList).run P w = .ok f' w := by
    unfold Instr.findKey
    rw [run_bind_ok (run_und huk w), ef']; rfl
  rcases hcase with ⟨i, v, rfl, rfl⟩ | ⟨rfl, rfl⟩
  · cases hfr with | some _ _ v' hvv =>
    obtain ⟨e, _, e1, e2⟩ := findNow_spec _ _ _ _ ef'
    have e1 : es'[i]? = some e := by simpa using e1
    have hsb := same_bits hs e2
    refine ⟨(), { w with heap := w.heap.setIfInBounds l.b (.map (es'.modify i fun e => { e with key := k', val := x' }) es.2) }, ρ, _, ?_, Post.change hM hv hg hl other_set.blk other_set.size rfl rfl rfl ⟨(es'.modify i fun e => { e with key := k', val := x' }), ?_, ?_⟩, trivial⟩
    · unfold Instr.mapUpdate
      rw [run_bind_ok (run_und hu w)]
      simp [run_getMap b1, run_checkKey huk hs, run, e1, Instr.keyThatStays, hsb, run_setMap b1]
    · exact Array.getElem?_setIfInBounds_self_of_lt (Array.getElem?_eq_some_iff.1 b1).1
    · simpa using b2.modify hk hx i
  · cases hfr
    refine ⟨(), { w with heap := w.heap.setIfInBounds l.b (.map (es'.push { key := k', val := x', born := es.2 }) (es.2 + 1)) }, ρ, _, ?_, Post.change hM hv hg hl other_set.blk other_set.size rfl rfl rfl ⟨(es'.push { key := k', val := x', born := es.2 }), ?_, ?_⟩, trivial⟩
    · unfold Instr.mapUpdate
      rw [run_bind_ok (run_und hu w)]
      simp [run_getMap b1, run_checkKey huk hs, run, run_setMap b1]
    · exact Array.getElem?_setIfInBounds_self_of_lt (Array.getElem?_eq_some_iff.1 b1).1
    · simpa using b2.push (x := { key := k, val := x, born := es.2 }) (y := { key := k', val := x', born := es.2 }) ⟨hk, hx, rfl⟩
end
end Go.Ev

namespace Go.Ev
section
variable {P : Program} {σ : Nat → Value} {B : Nat} {w0 : World} {ρ ρ1 ρ2 : Rho} {G G1 G2 : Nat → Option Ent} {h h1 h2 : H} {c c1 c2 : Nat} {w w' : World}
theorem strOf_ok : ∀ (cs : List Value) (l : List UInt8), strOf cs = some l → ∃ ns : List Int, cs = ns.map (fun n => (.int .u8 n : Value)) ∧ l = ns.map fun n => UInt8.ofNat n.toNat := by
  intro cs
  induction cs with
  | nil => intro l e; cases e; exact ⟨[], rfl, rfl⟩
  | cons v cs ih =>
    intro l e
    cases v <;> first | (cases e; done) | skip
    rename_i k n
    cases k <;> first | (cases e; done) | skip
    replace e : @Option.rec (List UInt8) (fun _ => Option (List UInt8)) none (fun l => forceN n.toNat fun n => some (UInt8.ofNat n :: l)) (strOf cs) = some l := e
    cases hs : strOf cs with
    | none => rw [hs] at e; cases e
    | some l' =>
      rw [hs] at e
      replace e : (forceN n.toNat fun n => some (UInt8.ofNat n :: l')) = some l := e
      rw [forceN_eq] at e
      cases e
      obtain ⟨ns, h1, h2⟩ := ih l' hs
      exact ⟨n :: ns, by simp [h1], by simp [h2]⟩
theorem ints_eq : ∀ (ns : List Int) (ys : List Value), VRs σ ρ (ns.map (fun n => (.int .u8 n : Value))) ys → ys = ns.map (fun n => (.int .u8 n : Value)) := by
  intro ns
  induction ns with
  | nil => intro ys hy; cases hy; rfl
  | cons n ns ih =>
    intro ys hy
    cases hy with | cons _ y _ ys h1 h2 =>
    cases h1
    rw [ih _ h2]; rfl
theorem run_viewAt {b : Nat} {cs : Array Value} {e : TypeId} {fz : Nat × Nat} (hh : w.heap[b]? = some (.cells cs e fz)) : (viewAt b).run P w = .ok none w := by
  simp [viewAt, World.shape?, hh]
theorem run_seenAt {b o : Nat} {cs : Array Value} {e : TypeId} {fz : Nat × Nat} (hh : w.heap[b]? = some (.cells cs e fz)) : (Conv.seenAt ⟨b, o, none⟩).run P w = .ok ⟨b, o, none⟩ w := by
  simp [Conv.seenAt, run_viewAt hh]
theorem q_unsafeP {s d : TypeDesc} {x : Value} : Quiet (unsafeP P s d x) := by
  unfold unsafeP
  cases x <;> first | exact Quiet.bad | skip
  rename_i a
  cases a with
  | none => cases s <;> cases d <;> first | exact Quiet.ret | exact Quiet.bad
  | some a =>
    cases s <;> cases d <;> first | exact Quiet.ret | exact Quiet.bad | skip
    · refine Quiet.bnd q_size fun k => Quiet.sel Quiet.bad ?_
      refine Quiet.bnd Quiet.ent fun e => ?_
      cases e <;> first | exact Quiet.bad | skip
      rename_i cs gr e s
      cases gr with
      | zero => exact Quiet.sel Quiet.ret Quiet.bad
      | succ => exact Quiet.bad
    · exact Quiet.bnd q_size fun k => Quiet.sel Quiet.bad (Quiet.bnd q_row fun _ => Quiet.sel Quiet.ret Quiet.bad)
theorem r_unsafeP {src dst : TypeId} {s d : TypeDesc} {x x' : Value} (hs : P.underlying src = some s) (hd : P.underlying dst = some d) (hx : VR σ ρ x x') : Rd P σ B w0 ρ (unsafeP P s d x) (convert src dst x') (VR σ ρ) := by
  intro h c a h' c' ev G w hv hM
  unfold unsafeP at ev
  cases x <;> first | exact (bad_ok.1 ev).elim | skip
  rename_i q
  cases q with
  | none =>
    cases hx
    refine ⟨.pointer none, ?_⟩
    cases s <;> cases d <;> first | exact (bad_ok.1 ev).elim | skip
    all_goals
      obtain ⟨rfl, _, _⟩ := ret_ok.1 ev
      exact ⟨by simp [convert, Conv.unsafePointer, run_und hs, run_und hd], .ptrN⟩
  | some q =>
    cases hx with | ptr n o l hl =>
    refine ⟨.pointer (some ⟨l.b, l.d + o, none⟩), ?_⟩
    cases s <;> cases d <;> first | exact (bad_ok.1 ev).elim | skip
    · obtain ⟨rfl, _, _⟩ := ret_ok.1 ev
      exact ⟨by simp [convert, Conv.unsafePointer, run_und hs, run_und hd], .ptr n o l hl⟩
    · rename_i u
      obtain ⟨k, h1, c1, e1, e2⟩ := bnd_ok.1 ev
      obtain ⟨hk, rfl, rfl⟩ := opt_ok.1 e1
      rcases sel_ok.1 e2 with ⟨_, e2⟩ | ⟨hk0, e2⟩
      · exact (bad_ok.1 e2).elim
      have hk0 : k ≠ 0 := by intro hk0; subst hk0; cases hk0
      obtain ⟨e, h1, c1, e3, e4⟩ := bnd_ok.1 e2
      obtain ⟨hg, rfl, rfl⟩ := ent_ok.1 e3
      cases e <;> first | exact (bad_ok.1 e4).elim | skip
      rename_i cs gr e s
      cases gr with
      | succ => exact (bad_ok.1 e4).elim
      | zero =>
        rcases sel_ok.1 e4 with ⟨hlies, e5⟩ | ⟨_, e5⟩
        case inr => exact (bad_ok.1 e5).elim
        obtain ⟨rfl, rfl, rfl⟩ := ret_ok.1 e5
        obtain ⟨arr, fz, b1, b2, b3, b4, b5, b6⟩ := row_read hv hM hg hl
        obtain ⟨hd0, hsz⟩ := b5 rfl
        rw [len_eq, ← hsz] at hlies
        have hlies : liesAt P P.depth e (arr.size / P.cellsOf e) (l.d + o) u 1 = true := by rw [hd0, Nat.zero_add]; exact hlies
        refine ⟨?_, .ptr n o l hl⟩
        simp [convert, Conv.unsafePointer, run_und hs, run_und hd, run_seenAt b1, run_size hk, hk0, variablesAt, World.shape?, b1, hlies]
    · rename_i u
      obtain ⟨k, h1, c1, e1, e2⟩ := bnd_ok.1 ev
      obtain ⟨hk, rfl, rfl⟩ := opt_ok.1 e1
      rcases sel_ok.1 e2 with ⟨_, e2⟩ | ⟨hk0, e2⟩
      · exact (bad_ok.1 e2).elim
      have hk0 : k ≠ 0 := by intro hk0; subst hk0; cases hk0
      obtain ⟨r, h1, c1, e3, e4⟩ := bnd_ok.1 e2
      obtain ⟨cs, gr, e, s, rfl, hg, rfl, rfl⟩ := row_ok.1 e3
      rcases sel_ok.1 e4 with ⟨hlt, e5⟩ | ⟨_, e5⟩
      case inr => exact (bad_ok.1 e5).elim
      obtain ⟨rfl, rfl, rfl⟩ := ret_ok.1 e5
      obtain ⟨arr, fz, b1, b2, b3, b4, b5, b6⟩ := row_read hv hM hg hl
      have hlt := (blt_iff _ _).1 hlt
      replace hlt : o < len cs := hlt
      rw [len_eq] at hlt
      obtain ⟨_, v', hv', _⟩ := b4 o _ (List.getElem?_eq_getElem hlt)
      have hin : ¬ (arr.size ≤ l.d + o) := by have := (Array.getElem?_eq_some_iff.1 hv').1; omega
      refine ⟨?_, .ptr n o l hl⟩
      simp [convert, Conv.unsafePointer, run_und hs, run_und hd, run_seenAt b1, run_size hk, hk0, cellsIn, World.shape?, b1, hin]
theorem push_list (ns : List Int) : ∀ acc : List UInt8, ns.foldl (fun r n => r.push (UInt8.ofNat n.toNat)) (⟨⟨acc⟩⟩ : ByteArray) = ⟨⟨acc ++ ns.map fun n => UInt8.ofNat n.toNat⟩⟩ := by
  induction ns with
  | nil => intro acc; simp
  | cons n ns ih =>
    intro acc
    simp only [List.foldl_cons]
    have : (⟨⟨acc⟩⟩ : ByteArray).push (UInt8.ofNat n.toNat) = ⟨⟨acc ++ [UInt8.ofNat n.toNat]⟩⟩ := by simp [ByteArray.push, Array.push]
    rw [this, ih]
    simp
theorem Ef.bad {α β : Type} {s : Sem β} {Rel : Rho → α → β → Prop} : Ef P σ B w0 ρ (Ev.bad : M α) s Rel := fun _ _ _ _ _ e => (bad_ok.1 e).elim
theorem freeze_push {arr : Array Value} {e : TypeId} {hp : Array Obj} {n : Nat} (hh : w.heap = hp.push (.cells arr e (0, 0))) : w.freeze ⟨hp.size, n, none⟩ 1 = { w with heap := hp.push (.cells arr e (n, n + 1)) } := by
  unfold World.freeze
  simp only [Nat.one_ne_zero, if_false, hh]
  congr 1
  apply Array.ext_getElem?
  intro i
  rw [Array.getElem?_modify, Array.getElem?_push, Array.getElem?_push]
  by_cases hi : i = hp.size
  · subst hi; simp
  · rw [if_neg hi, if_neg (by omega), if_neg hi]
theorem e_conv {src dst : TypeId} {x x' : Value} (hx : VR σ ρ x x') : Ef P σ B w0 ρ (conv P src dst x) (convert src dst x') (fun ρ' => VR σ ρ') := by
  intro h c a h' c' ev
  obtain ⟨s, h1, c1, e1, e2⟩ := bnd_ok.1 ev
  obtain ⟨hs, rfl, rfl⟩ := opt_ok.1 e1
  obtain ⟨d, h1, c1, e3, e4⟩ := bnd_ok.1 e2
  obtain ⟨hd, rfl, rfl⟩ := opt_ok.1 e3
  clear ev e2 e1 e3
  have rdd : ∀ {m : M Value}, Quiet m → Rd P σ B w0 ρ m (convert src dst x') (VR σ ρ) → Ef P σ B w0 ρ m (convert src dst x') (fun ρ' => VR σ ρ') := fun q hm => Ef.of_rd q hm fun _ _ h => h
  cases x <;> first | exact (bad_ok.1 e4).elim | skip
  · rename_i k n
    cases hx
    cases d <;> first | exact (bad_ok.1 e4).elim | skip
    rename_i k2
    refine rdd (m := mkInt k2 n) (fun _ _ _ _ _ e => let ⟨_, a, b⟩ := mkInt_ok e; ⟨a, b⟩) (fun h c a h' c' e G w hv hM => ?_) _ _ _ _ _ e4
    obtain ⟨rfl, _, _⟩ := mkInt_ok e
    exact ⟨_, by simp [convert, run_und hs, run_und hd, Conv.intToInt], .int _ _⟩
  · rename_i str
    obtain ⟨⟨l⟩⟩ := str
    cases hx
    cases d <;> first | exact (bad_ok.1 e4).elim | skip
    · refine rdd (m := ret _) Quiet.ret (fun h c a h' c' e G w hv hM => ?_) _ _ _ _ _ e4
      obtain ⟨rfl, _, _⟩ := ret_ok.1 e
      exact ⟨_, by simp [convert, run_und hs, run_und hd], .string _⟩
    · rename_i et
      obtain ⟨e, h2, c2, e5, e6⟩ := bnd_ok.1 e4
      obtain ⟨he, rfl, rfl⟩ := opt_ok.1 e5
      cases e <;> first | exact (bad_ok.1 e6).elim | skip
      rename_i k
      cases k <;> first | exact (bad_ok.1 e6).elim | skip
      replace e6 : forceN (len l) (fun n => sel (Nat.blt n 4611686018427387904) (bnd (new (.row (byteVs l) 1 et true)) fun b => ret (.slice (some ⟨b, 0, none⟩) n U)) bad) h c = .ok a h' c' := e6
      rw [forceN_eq, len_eq] at e6
      rcases sel_ok.1 e6 with ⟨hlt, e7⟩ | ⟨_, e7⟩
      case inr => exact (bad_ok.1 e7).elim
      have hlt := (blt_iff _ _).1 hlt
      obtain ⟨b, h2, c2, e8, e9⟩ := bnd_ok.1 e7
      obtain ⟨rfl, rfl, rfl⟩ := new_ok.1 e8
      obtain ⟨rfl, rfl, rfl⟩ := ret_ok.1 e9
      refine ⟨Okk.new, fun G w hv hM hf => ?_⟩
      have hf : ρ b = none := hf _ (Nat.le_refl _) (Nat.lt_succ_self _)
      have hnc1 : l.length ≤ (Question.appendCap l.length 0 et).cut (w.tape w.drawn (.appendCap l.length 0 et)) := by simp [Question.cut]
      have hnc2 : (Question.appendCap l.length 0 et).cut (w.tape w.drawn (.appendCap l.length 0 et)) < 9223372036854775808 := by
        simp only [Question.cut]
        have := Nat.mod_lt (w.tape w.drawn (.appendCap l.length 0 et)) (show 0 < 2 ^ 63 - l.length by omega)
        omega
      generalize hnc : (Question.appendCap l.length 0 et).cut (w.tape w.drawn (.appendCap l.length 0 et)) = nc at hnc1 hnc2
      have hch : (choose (.appendCap l.length 0 et)).run P w = .ok nc { w with drawn := w.drawn + 1 } := by rw [run_choose, ← hnc]; rfl
      generalize harr : ((⟨l.map fun b => (.int .u8 (b.toNat : Int) : Value)⟩ : Array Value) ++ Array.replicate (nc - l.length) (.int .u8 0)) = arr
      have hsz : arr.size = nc := by subst harr; simp; omega
      refine ⟨.slice (some ⟨w.heap.size, 0, none⟩) l.length nc, { w with drawn := w.drawn + 1, heap := w.heap.push (.cells arr et (arr.size, arr.size + 1)) }, _, _, ?_, e_row (gr := 1) (tot := nc) (arr := arr) (fz := (arr.size, arr.size + 1)) hv hM hf (fun i v hi => ?_) (fun h0 => absurd h0 (by decide)) (fun _ => ⟨?_, ?_, ?_⟩) (.inr ⟨rfl, Nat.le_refl _⟩) rfl rfl rfl rfl, ?_⟩
      · have : (l.toArray.map fun b => (.int .u8 (b.toNat : Int) : Value)) = ⟨l.map fun b => (.int .u8 (b.toNat : Int) : Value)⟩ := by simp
        have hsz2 : (⟨⟨l⟩⟩ : ByteArray).size = l.length := rfl
        simp [convert, run_und hs, run_und hd, run_und he, Conv.stringToBytes, -run_choose, hsz2, hch, newRow, harr, markStringish, World.shape?]
        have hget : (w.drew.alloc (.cells arr et)).heap[w.heap.size]? = some (.cells arr et (0, 0)) := by
          show (w.heap.push (.cells arr et (0, 0)))[w.heap.size]? = _
          simp
        have hget2 : some (w.drew.alloc (.cells arr et)).heap[w.heap.size] = some (.cells arr et (0, 0)) := by rw [← hget, Array.getElem?_eq_getElem]
        rw [hget2]
        simp [freeze_push (w := w.drew.alloc (.cells arr et)) (hp := w.heap) (arr := arr) (e := et) rfl]
        exact ⟨rfl, rfl⟩
      · obtain ⟨v', a1, a2⟩ := (ints_cr (σ := σ) (ρ := ρ) (l := l)).1.get i v hi
        refine ⟨(ints_cr (σ := σ) (ρ := ρ) (l := l)).2 v (List.mem_of_getElem? hi), v', ?_, a2⟩
        subst harr
        have hil : i < (l.map fun b => (.int .u8 (b.toNat : Int) : Value)).length := (List.getElem?_eq_some_iff.1 a1).1
        rw [Array.getElem?_append_left (by simpa using hil)]
        simpa using a1
      · rw [(show (byteVs l).length = l.length by rw [byteVs_eq]; simp)]; omega
      · omega
      · show nc < 18446744073709551616; omega
      · have := VR.sliceU (σ := σ) (ρ := ext1 ρ b ⟨w.heap.size, 0, nc, 1⟩) b 0 l.length 0 ⟨w.heap.size, 0, nc, 1⟩ (by unfold ext1; rw [if_pos rfl]) (by simp) (by simpa using hnc1) (by show nc < 18446744073709551616; omega) Nat.one_pos
        exact this
  · exact rdd (m := unsafeP P s d _) q_unsafeP (r_unsafeP hs hd hx) _ _ _ _ _ e4
  · rename_i ba n cp
    cases s <;> first | exact (bad_ok.1 e4).elim | skip
    cases d <;> first | exact (bad_ok.1 e4).elim | skip
    rename_i et
    obtain ⟨e, h2, c2, e5, e6⟩ := bnd_ok.1 e4
    obtain ⟨he, rfl, rfl⟩ := opt_ok.1 e5
    cases e <;> first | exact (bad_ok.1 e6).elim | skip
    rename_i k
    cases k <;> first | exact (bad_ok.1 e6).elim | skip
    cases ba with
    | none =>
      refine rdd (m := ret _) Quiet.ret (fun h c a h' c' e G w hv hM => ?_) _ _ _ _ _ e6
      obtain ⟨rfl, _, _⟩ := ret_ok.1 e
      cases hx
      exact ⟨_, by rw [run_convert_bytes_string w src dst et none 0 0 hs he hd]; simp [Conv.bytesToString]; rfl, .string _⟩
    | some q =>
      have key : ∀ (m : Nat) (cp' : Nat) (q' : Addr) (ns : List Int) (w : World), (loadCells q' m).run P w = .ok (ns.map (Value.int .u8)).toArray w →
          (convert src dst (.slice (some q') m cp')).run P w = .ok (.string ⟨⟨ns.map fun n => UInt8.ofNat n.toNat⟩⟩) w := by
        intro m cp' q' ns w hl
        rw [run_convert_bytes_string w src dst et _ _ _ hs he hd, run_bytesToString w q' m cp' ns hl]
        have := push_list ns []
        simp only [List.nil_append] at this
        rw [← this]; rfl
      rcases sel_ok.1 e6 with ⟨hn0, e7⟩ | ⟨hn1, e7⟩
      · have hn0 := beq_of hn0
        subst hn0
        refine rdd (m := ret _) Quiet.ret (fun h c a h' c' e G w hv hM => ?_) _ _ _ _ _ e7
        obtain ⟨rfl, _, _⟩ := ret_ok.1 e
        have : ∀ cp' q', (convert src dst (.slice (some q') 0 cp')).run P w = .ok (.string ⟨⟨[]⟩⟩) w := fun cp' q' => key 0 cp' q' [] w (run_loadCells_list w _ [] (fun j v hj => by cases hj))
        cases hx
        · exact ⟨_, this _ _, .string _⟩
        · exact ⟨_, this _ _, .string _⟩
        · exact ⟨_, this _ _, .string _⟩
      · refine rdd (m := bnd (rd q.block q.off n) fun cs => bnd (opt (strOf cs)) fun l => ret (.string ⟨⟨l⟩⟩)) (Quiet.bnd q_rd fun _ => Quiet.bnd Quiet.opt fun _ => Quiet.ret) (fun h c a h' c' e G w hv hM => ?_) _ _ _ _ _ e7
        obtain ⟨cs, h2, c2, f1, f2⟩ := bnd_ok.1 e
        obtain ⟨l, h3, c3, f3, f4⟩ := bnd_ok.1 f2
        obtain ⟨hl, rfl, rfl⟩ := opt_ok.1 f3
        obtain ⟨rfl, _, _⟩ := ret_ok.1 f4
        obtain ⟨ns, rfl, rfl⟩ := strOf_ok _ _ hl
        have fin : ∀ (lc : Loc) (cp' : Nat), ρ q.block = some lc → ∃ b, (convert src dst (.slice (some ⟨lc.b, lc.d + q.off, none⟩) n cp')).run P w = .ok b w ∧ VR σ ρ (.string ⟨⟨ns.map fun n => UInt8.ofNat n.toNat⟩⟩) b := by
          intro lc cp' hlc
          obtain ⟨ys, g1, g2, _⟩ := r_rd hlc _ _ _ _ _ f1 G w hv hM
          have := ints_eq ns _ g2.1
          exact ⟨_, key n cp' _ ns w (by rw [g1]; congr 1; cases ys; simpa using this), .string _⟩
        cases hx with
        | sliceX n' o _ _ lc hlc => exact fin lc _ hlc
        | sliceU n' o _ k lc hlc => exact fin lc _ hlc
        | sliceA a c => cases hn1
end
end Go.Ev

namespace Go.Ev
section
variable {P : Program} {σ : Nat → Value} {B : Nat} {w0 : World} {ρ ρ1 ρ2 : Rho} {G G1 G2 : Nat → Option Ent} {h h1 h2 : H} {c c1 c2 : Nat} {w w' : World}
theorem r_capB {ts : Array TypeId} {ty t : TypeId} {x x' : Value} (ht : ts[0]? = some t) (hx : VR σ ρ x x') : Rd P σ B w0 ρ (capB P t x) (Builtin.cap_ ts ty #[x']) (VR σ ρ) := by
  intro h c a h' c' e G w hv hM
  obtain ⟨d, h1, c1, e1, e2⟩ := bnd_ok.1 e
  obtain ⟨hu, rfl, rfl⟩ := opt_ok.1 e1
  cases d <;> first | exact (bad_ok.1 e2).elim | skip
  cases x <;> first | exact (bad_ok.1 e2).elim | skip
  rename_i el ba n cp
  rcases sel_ok.1 e2 with ⟨hlt, e3⟩ | ⟨_, e3⟩
  case inr => exact (bad_ok.1 e3).elim
  obtain ⟨rfl, _, _⟩ := ret_ok.1 e3
  have hlt := (blt_iff _ _).1 hlt
  have fin : ∀ ba' n', x' = .slice ba' n' cp → ∃ b, (Builtin.cap_ ts ty #[x']).run P w = .ok b w ∧ VR σ ρ (.int .i64 (.ofNat cp)) b := by
    rintro ba' n' rfl
    exact ⟨.int .i64 (.ofNat cp), by simp [Builtin.cap_, ht, run_und hu, goInt], .int _ _⟩
  cases hx with
  | sliceN => exact fin _ _ rfl
  | sliceX => exact fin _ _ rfl
  | sliceU n o _ k l => exfalso; unfold U at hlt; omega
  | sliceA => exfalso; unfold UU U at hlt; omega
theorem q_capB {t : TypeId} {x : Value} : Quiet (capB P t x) := by
  refine Quiet.bnd q_und fun d => ?_
  cases d <;> first | exact Quiet.bad | skip
  cases x <;> first | exact Quiet.bad | skip
  exact Quiet.sel Quiet.ret Quiet.bad
noncomputable def sliceData (x : Value) : M Value := match x with
    | .slice none _ _ => ret (.pointer none)
    | .slice (some a) _ c => @Bool.rec (fun _ => M Value)
        (@Bool.rec (fun _ => M Value) (bnd (row a.block) fun r => match r with
          | .mk cs g _ _ => @Bool.rec (fun _ => M Value) (@Bool.rec (fun _ => M Value) bad (ret (.pointer (some a))) (Nat.blt a.off (len cs))) bad (Nat.beq g 0)) (@Bool.rec (fun _ => M Value) (ret (.pointer (some a))) bad (Nat.beq c 0)) (Nat.blt c U))
        bad (Nat.beq c UU)
    | _ => bad
theorem q_sliceData {x : Value} : Quiet (sliceData x) := by
  unfold sliceData
  split
  · exact Quiet.ret
  · refine Quiet.sel Quiet.bad (Quiet.sel (Quiet.sel Quiet.bad Quiet.ret) (Quiet.bnd q_row fun r => ?_))
    cases r
    exact Quiet.sel Quiet.bad (Quiet.sel Quiet.ret Quiet.bad)
  · exact Quiet.bad
theorem r_sliceData {ts : Array TypeId} {ty : TypeId} {x x' : Value} (hx : VR σ ρ x x') : Rd P σ B w0 ρ (sliceData x) (Builtin.unsafeSliceData_ ts ty #[x']) (VR σ ρ) := by
  intro h c a h' c' e G w hv hM
  unfold sliceData at e
  split at e
  · obtain ⟨rfl, _, _⟩ := ret_ok.1 e
    cases hx
    exact ⟨.pointer none, rfl, .ptrN⟩
  · rename_i _ q n cp
    rcases sel_ok.1 e with ⟨_, e⟩ | ⟨hUU, e⟩
    · exact (bad_ok.1 e).elim
    have fin : ∀ q' n' c0, x' = .slice (some q') n' c0 → c0 ≠ 0 → VR σ ρ (.pointer (some q)) (.pointer (some q')) → ∃ b, (Builtin.unsafeSliceData_ ts ty #[x']).run P w = .ok b w ∧ VR σ ρ (.pointer (some q)) b := by
      rintro q' n' c0 rfl h0 hq
      refine ⟨.pointer (some q'), ?_, hq⟩
      show (if c0 ≠ 0 then _ else _ : Sem Value).run P w = _
      rw [if_pos h0]; rfl
    rcases sel_ok.1 e with ⟨hlt, e⟩ | ⟨hge, e⟩
    · rcases sel_ok.1 e with ⟨_, e⟩ | ⟨h0, e⟩
      · exact (bad_ok.1 e).elim
      obtain ⟨rfl, _, _⟩ := ret_ok.1 e
      have hlt := (blt_iff _ _).1 hlt
      have h0 : cp ≠ 0 := by intro h; subst h; cases h0
      cases hx with
      | sliceX n o _ _ l hl => exact fin _ _ _ rfl h0 (.ptr n o l hl)
      | sliceU n o _ k l => exfalso; unfold U at hlt; omega
      | sliceA => exfalso; unfold UU U at hlt; omega
    · obtain ⟨r, h1, c1, e1, e2⟩ := bnd_ok.1 e
      obtain ⟨cs, g, el, s, rfl, hg, rfl, rfl⟩ := row_ok.1 e1
      rcases sel_ok.1 e2 with ⟨_, e3⟩ | ⟨hg0, e3⟩
      · exact (bad_ok.1 e3).elim
      rcases sel_ok.1 e3 with ⟨ho, e4⟩ | ⟨_, e4⟩
      case inr => exact (bad_ok.1 e4).elim
      obtain ⟨rfl, _, _⟩ := ret_ok.1 e4
      have hg0 : g ≠ 0 := by intro h; subst h; cases hg0
      have ho := (blt_iff _ _).1 ho
      rw [len_eq] at ho
      cases hx with
      | sliceX n o _ _ l hl hc => exact absurd ((blt_iff _ _).2 hc) (by rw [hge]; decide)
      | sliceU n o _ k l hl hk hkt htU hes =>
        obtain ⟨arr, fz, _, _, _, _, _, b6, _⟩ := row_read hv hM hg hl
        obtain ⟨rfl, b7, _, _⟩ := b6 hg0
        refine fin _ _ _ rfl ?_ (.ptr n o l hl)
        have : k < l.tot := by
          have h1 : k * l.esz < l.tot * l.esz := by rw [← hk]; exact Nat.lt_of_lt_of_le ho b7
          exact Nat.lt_of_mul_lt_mul_right h1
        omega
      | sliceA => cases hUU
  · exact (bad_ok.1 e).elim
theorem run_loadBytes' : ∀ (xs : List Int) (a : Addr) (acc : ByteArray), (∀ j x, xs[j]? = some x → w.cell? (a.add j) = some (.int .u8 x)) →
    (loadBytes a acc xs.length).run P w = .ok (xs.foldl (fun r n => r.push (UInt8.ofNat n.toNat)) acc) w
  | [], a, acc, _ => by simp [loadBytes]
  | x :: l, a, acc, h => by
    have h0 : w.cell? a = some (.int .u8 x) := by
      have := h 0 x rfl
      simpa [Addr.add] using this
    have ih := run_loadBytes' l (a.add 1) (acc.push x.toNat.toUInt8) (fun j y hy => by
      have := h (j + 1) y (by simpa using hy)
      have e : (a.add 1).add j = a.add (j + 1) := by
        unfold Addr.add
        by_cases hj : j = 0
        · subst hj; simp
        · simp [hj]; omega
      rw [e]; exact this)
    simp only [List.length_cons, loadBytes, Sem.run_bind, run_load, h0, Result.andThen]
    rw [ih]
    rfl
theorem other_freeze {a : Addr} {n : Nat} : Other a.block w (w.freeze a n) := by
  unfold World.freeze
  split
  · exact Other.refl _ _
  · exact ⟨fun k hk => by show (Array.modify _ _ _)[k]? = _; rw [Array.getElem?_modify, if_neg (fun h => hk h.symm)], by simp, rfl, rfl, rfl⟩
theorem depth_pos : ∃ d, P.depth = d + 1 := ⟨2 * (P.types.size + Made.depth) + 1, rfl⟩
theorem lies {e u : TypeId} {o n sz : Nat} (hc : P.cellsOf e = 1) (hs : sameLay P e u = true) (hn : o + n ≤ sz) : liesAt P P.depth e (sz / P.cellsOf e) o u n = true := by
  have hs : sameLayout P P.depth e u = true := hs
  have key : ∀ d, liesAt P (d + 1) e (sz / P.cellsOf e) o u n = true := by
    intro d
    rw [liesAt, Bool.or_eq_true]
    left
    obtain ⟨d', hd'⟩ := depth_pos (P := P)
    have : ∀ (fits : TypeId → Bool), fits e = true → rowAt P fits (d' + 1) e (sz / P.cellsOf e) o n = true := by
      intro fits hf
      rw [rowAt]
      simp only [hc, Nat.one_ne_zero, if_false, Nat.div_one, Nat.mod_one, hf, Bool.and_true]
      simp [hn]
    have := this (sameLayout P P.depth · u) hs
    rw [← hd'] at this
    exact this
  obtain ⟨d', hd'⟩ := depth_pos (P := P)
  rw [hd']
  exact key d'
noncomputable def strAt (P : Program) (t : TypeId) (p : Option Addr) (n : Int) : M Value := match p, n with
    | none, .ofNat 0 => ret (.string ⟨⟨[]⟩⟩)
    | some _, .ofNat 0 => ret (.string ⟨⟨[]⟩⟩)
    | some a, .ofNat (n + 1) => bnd (und P t) fun d => (match d with
      | .pointer u => bnd (row a.block) fun r => (match r with
        | .mk cs _ e _ => @Bool.rec (fun _ => M Value) bad
            (@Bool.rec (fun _ => M Value) bad (@Bool.rec (fun _ => M Value) bad (bnd (opt (tkx (dr cs a.off) (n + 1))) fun l => bnd (opt (strOf l)) fun l => bnd (kill a.block) fun _ => ret (.string ⟨⟨l⟩⟩)) (Nat.blt n 4611686018427387904)) (sameLay P e u)) (Nat.beq (P.cellsOf e) 1))
      | _ => bad)
    | _, _ => bad
theorem e_strAt {ts : Array TypeId} {ty t : TypeId} {p p' : Option Addr} {k : IntKind} {n : Int} (ht : ts[0]? = some t) (hx : VR σ ρ (.pointer p) (.pointer p')) :
    Ef P σ B w0 ρ (strAt P t p n) (Builtin.unsafeString_ ts ty #[.pointer p', .int k n]) (fun ρ' => VR σ ρ') := by
  intro h c a h' c' ev
  unfold strAt at ev
  have zero : ∀ (p' : Option Addr) (w : World), (Builtin.unsafeString_ ts ty #[.pointer p', .int k 0]).run P w = .ok (.string ⟨⟨[]⟩⟩) w := by
    intro p' w
    obtain ⟨ts⟩ := ts
    cases ts with
    | nil => simp at ht
    | cons t' ts => cases p' <;> rfl
  split at ev
  · obtain ⟨rfl, rfl, rfl⟩ := ret_ok.1 ev
    exact ⟨Okk.refl _ _, fun G w hv hM _ => ⟨_, w, ρ, G, zero _ _, Post.refl hM hv, .string _⟩⟩
  · obtain ⟨rfl, rfl, rfl⟩ := ret_ok.1 ev
    exact ⟨Okk.refl _ _, fun G w hv hM _ => ⟨_, w, ρ, G, zero _ _, Post.refl hM hv, .string _⟩⟩
  · rename_i q m
    obtain ⟨d, h1, c1, e1, e2⟩ := bnd_ok.1 ev
    obtain ⟨hu, rfl, rfl⟩ := opt_ok.1 e1
    cases d <;> first | exact (bad_ok.1 e2).elim | skip
    rename_i u
    obtain ⟨r, h1, c1, e3, e4⟩ := bnd_ok.1 e2
    obtain ⟨cs, g, el, s, rfl, hg, rfl, rfl⟩ := row_ok.1 e3
    rcases sel_ok.1 e4 with ⟨hc1, e5⟩ | ⟨_, e5⟩
    case inr => exact (bad_ok.1 e5).elim
    rcases sel_ok.1 e5 with ⟨hsl, e6⟩ | ⟨_, e6⟩
    case inr => exact (bad_ok.1 e6).elim
    rcases sel_ok.1 e6 with ⟨hlt, e7⟩ | ⟨_, e7⟩
    case inr => exact (bad_ok.1 e7).elim
    obtain ⟨l1, h1, c1, e8, e9⟩ := bnd_ok.1 e7
    obtain ⟨htk, rfl, rfl⟩ := opt_ok.1 e8
    obtain ⟨l2, h1, c1, e10, e11⟩ := bnd_ok.1 e9
    obtain ⟨hso, rfl, rfl⟩ := opt_ok.1 e10
    obtain ⟨_, h1, c1, e12, e13⟩ := bnd_ok.1 e11
    obtain ⟨rfl, rfl⟩ := kill_ok.1 e12
    obtain ⟨rfl, rfl, rfl⟩ := ret_ok.1 e13
    have hc1 := beq_of hc1
    have hlt := (blt_iff _ _).1 hlt
    obtain ⟨rfl, hlen⟩ := tkx_some _ _ _ htk
    rw [dr_eq] at hlen
    obtain ⟨ns, hns, rfl⟩ := strOf_ok _ _ hso
    rw [dr_eq] at hns
    have hnl : ns.length = m + 1 := by
      have := congrArg List.length hns
      simp at this hlen
      omega
    refine ⟨Okk.kill, fun G w hv hM _ => ?_⟩
    cases hx with | ptr n' o lc hl =>
    obtain ⟨arr, fz, b1, b2, b3, b4, _⟩ := row_read hv hM hg hl
    have cellv : ∀ j x, ns[j]? = some x → arr[lc.d + (o + j)]? = some (.int .u8 x) := by
      intro j x hj
      have : ((cs.drop o).take (m + 1))[j]? = some (.int .u8 x) := by rw [hns, List.getElem?_map, hj]; rfl
      have hjl : j < m + 1 := by have := (List.getElem?_eq_some_iff.1 hj).1; omega
      rw [List.getElem?_take_of_lt hjl, List.getElem?_drop] at this
      obtain ⟨_, v', d1, d2⟩ := b4 _ _ this
      cases d2; exact d1
    have hin : lc.d + o + (m + 1) ≤ arr.size := by
      obtain ⟨x, hx⟩ : ∃ x, ns[m]? = some x := ⟨_, List.getElem?_eq_getElem (by omega)⟩
      have := (Array.getElem?_eq_some_iff.1 (cellv m x hx)).1
      omega
    have hlies := lies (P := P) hc1 hsl hin
    have hload : (loadBytes ⟨lc.b, lc.d + o, none⟩ .empty (m + 1)).run P w = .ok ⟨⟨ns.map fun n => UInt8.ofNat n.toNat⟩⟩ w := by
      rw [← hnl, run_loadBytes' ns ⟨lc.b, lc.d + o, none⟩ .empty (fun j x hj => ?_)]
      · have := push_list ns []
        simp only [List.nil_append] at this
        rw [← this]; rfl
      · have h1 := cellv j x hj
        have h2 : (⟨lc.b, lc.d + o, none⟩ : Addr).add j = ⟨lc.b, lc.d + (o + j), none⟩ := by
          unfold Addr.add
          by_cases h0 : j = 0
          · subst h0; simp
          · simp [h0]; omega
        rw [h2, cell_at b1]; exact h1
    have ofz : Other lc.b w (w.freeze ⟨lc.b, lc.d + o, none⟩ (m + 1)) := other_freeze (a := ⟨lc.b, lc.d + o, none⟩)
    refine ⟨.string ⟨⟨ns.map fun n => UInt8.ofNat n.toNat⟩⟩, w.freeze ⟨lc.b, lc.d + o, none⟩ (m + 1), ρ, _, ?_, Post.lose hM hv hg hl ofz.blk ofz.size ofz.os ofz.tape ofz.output, .string _⟩
    have hmax : IntKind.i64.max = 9223372036854775807 := by decide
    have hn1 : ¬ ((Int.ofNat (m + 1)) < 0) := by simp only [Int.ofNat_eq_natCast]; omega
    have hn2 : ¬ ((Int.ofNat (m + 1)) > IntKind.i64.max) := by rw [hmax]; simp only [Int.ofNat_eq_natCast]; omega
    have hn3 : ¬ ((Int.ofNat (m + 1)) = 0) := by simp only [Int.ofNat_eq_natCast]; omega
    have hel : ∀ w : World, (elemOf t).run P w = .ok u w := fun w => by simp [elemOf, run_und hu]
    obtain ⟨ts⟩ := ts
    cases ts with
    | nil => simp at ht
    | cons t' ts =>
      have ht : t' = t := by simpa using ht
      subst ht
      show (if (Int.ofNat (m + 1)) > IntKind.i64.max then _ else _ : Sem Value).run P w = _
      rw [if_neg hn2]
      show (if (Int.ofNat (m + 1)) = 0 then _ else _ : Sem Value).run P w = _
      rw [if_neg hn3]
      refine (run_bind_ok (hel w)).trans ?_
      have hvar : (variablesAt ⟨lc.b, lc.d + o, none⟩ u (m + 1)).run P w = .ok true w := by
        simp [variablesAt, World.shape?, b1, hlies]
      refine (run_bind_ok (a := true) (w' := w) hvar).trans ?_
      exact (run_bind_ok hload).trans rfl
  · exact (bad_ok.1 ev).elim
end
end Go.Ev

namespace Go.Ev
section
variable {P : Program} {σ : Nat → Value} {B : Nat} {w0 : World} {ρ ρ1 ρ2 : Rho} {G G1 G2 : Nat → Option Ent} {h h1 h2 h' : H} {c c1 c2 c' : Nat} {w w' : World}
/-- what the operands yield -/
structure ER (σ : Nat → Value) (ρ : Rho) (ks : T Unit) (t : Env) (ev : Operand → Value) : Prop where
  tmp : ∀ i v, look ks t i = some v → VR σ ρ v (ev (.tmp i))
  const : ∀ v, ev (.const v) = v
  func : ∀ f, ev (.func f) = .func (.func f) #[] #[]
  glob : ∀ g, ev (.global g) = .pointer (some ⟨g, 0, none⟩)
variable {ks : T Unit} {t : Env} {ev : Operand → Value}
theorem opk_ok {α : Type} {x : Operand} {k : Value → M α} {a : α} (he : ER σ ρ ks t ev) (e : opk ks t x k h c = .ok a h' c') : ∃ v, k v h c = .ok a h' c' ∧ VR σ ρ v (ev x) := by
  cases x with
  | tmp i =>
    obtain ⟨v, hv, hk⟩ := slot_ok.1 e
    exact ⟨v, hk, he.tmp i v hv⟩
  | const v =>
    rcases sel_ok.1 e with ⟨hg, e⟩ | ⟨_, e⟩
    · exact ⟨v, e, by rw [he.const]; exact ground_VR _ _ hg⟩
    · exact (bad_ok.1 e).elim
  | global g => exact (bad_ok.1 (show (bad : M α) h c = .ok a h' c' from e)).elim
  | func f => exact ⟨_, e, by rw [he.func]; exact .func f [] [] [] [] .nil .nil⟩
theorem opks_ok {α : Type} (he : ER σ ρ ks t ev) : ∀ (xs : List Operand) {k : List Value → M α} {a : α}, opks ks t xs k h c = .ok a h' c' → ∃ vs, k vs h c = .ok a h' c' ∧ VRs σ ρ vs (xs.map ev) := by
  intro xs
  induction xs with
  | nil => intro k a e; exact ⟨[], e, .nil⟩
  | cons x xs ih =>
    intro k a e
    obtain ⟨v, e1, h1⟩ := opk_ok he e
    obtain ⟨vs, e2, h2⟩ := ih e1
    exact ⟨v :: vs, e2, .cons _ _ _ _ h1 h2⟩
theorem opkp_ok {α : Type} (he : ER σ ρ ks t ev) : ∀ (xs : List (Nat × Operand)) {k : List (Nat × Value) → M α} {a : α}, opkp ks t xs k h c = .ok a h' c' → ∃ vs, k vs h c = .ok a h' c' ∧ PR σ ρ vs (xs.map fun p => (p.1, ev p.2)) := by
  intro xs
  induction xs with
  | nil => intro k a e; exact ⟨[], e, by constructor⟩
  | cons x xs ih =>
    intro k a e
    obtain ⟨v, e1, h1⟩ := opk_ok he e
    obtain ⟨vs, e2, h2⟩ := ih e1
    exact ⟨(x.1, v) :: vs, e2, by first | exact ⟨⟨rfl, h1⟩, h2⟩ | (constructor <;> assumption) | exact .cons ⟨rfl, h1⟩ h2⟩
theorem opko_ok {α : Type} (he : ER σ ρ ks t ev) {o : Option Operand} {k : Option Value → M α} {a : α} (e : opko ks t o k h c = .ok a h' c') : ∃ v, k v h c = .ok a h' c' ∧ OV σ ρ v (o.map ev) := by
  cases o with
  | none => exact ⟨none, e, by first | trivial | constructor⟩
  | some x =>
    obtain ⟨v, e1, h1⟩ := opk_ok he e
    exact ⟨some v, e1, by first | exact h1 | exact .some _ _ h1⟩
/-- the package variables that the evaluator knows hold what it says -/
def GlobOk (P : Program) (σ : Nat → Value) (B : Nat) (w0 : World) : Prop := ∀ g t, sentinel P g = true → tyAt P.types.toList 0 = some t →
  g < B ∧ (σ (GB + g)).oneCell = true ∧ ∃ c e fz, w0.heap[g]? = some (.cells c e fz) ∧ c[0]? = some (.iface t (σ (GB + g)))
theorem q_globM {ty : TypeId} {g : Nat} : Quiet (globM P ty g) := Quiet.bnd q_agg fun _ => Quiet.sel Quiet.bad (Quiet.sel (Quiet.bnd Quiet.opt fun _ => Quiet.ret) Quiet.bad)
theorem r_globM (hG : GlobOk P σ B w0) {ty : TypeId} {g : Nat} : Rd P σ B w0 ρ (globM P ty g) (Instr.loadAt ty (.pointer (some ⟨g, 0, none⟩))) (VR σ ρ) := by
  show Rd P σ B w0 ρ (globM P ty g) (Go.loadVar ty ⟨g, 0, none⟩) (VR σ ρ)
  unfold globM Go.loadVar
  refine Rd.bind q_agg r_agg ?_
  rintro b _ rfl
  cases b with
  | true => exact fun h c a h' c' e => (bad_ok.1 e).elim
  | false =>
    intro h c a h' c' e G w hv hM
    rcases sel_ok.1 (show (@Bool.rec (fun _ => M Value) bad (bnd (opt (tyAt P.types.toList 0)) fun t => ret (.iface t (.chan (some (Nat.add GB g))))) (sentinel P g) : M Value) h c = .ok a h' c' from e) with ⟨hs, e1⟩ | ⟨_, e1⟩
    case inr => exact (bad_ok.1 e1).elim
    obtain ⟨t, h1, c1, e2, e3⟩ := bnd_ok.1 e1
    obtain ⟨ht, rfl, rfl⟩ := opt_ok.1 e2
    obtain ⟨rfl, rfl, rfl⟩ := ret_ok.1 e3
    obtain ⟨hlt, ho, cc, et, fz, hh, hc⟩ := hG g t hs ht
    have hw : w.heap[g]? = some (.cells cc et fz) := (hM.below.block g hlt).trans hh
    refine ⟨.iface t (σ (GB + g)), ?_, .iface _ _ _ (.opq _ ho)⟩
    show (load _).run P w = _
    rw [run_load, cell_at hw, hc]
/-- what an operation is shown to do -/
def OutOk (P : Program) (σ : Nat → Value) (B : Nat) (w0 : World) (ρ : Rho) (out : Out) (h : H) (c : Nat) (h' : H) (c' : Nat) (s : Sem Next) : Prop := match out with
  | .val v => Okk h h' c c' ∧ ∀ G w, View h G → Match σ B w0 ρ G w → (∀ n, c ≤ n → n < c' → ρ n = none) →
      ∃ n w' ρ' G' v', s.run P w = .ok n w' ∧ Post σ B w0 ρ ρ' G G' h h' c c' w' ∧ VR σ ρ' v v' ∧ (n = .value v' ∨ (n = .skip ∧ v' = undef))
  | .call f xs => h' = h ∧ c' = c ∧ ∃ ys, VRs σ ρ xs ys ∧ ∀ w, s.run P w = (callFunc f ⟨ys⟩).run P w
  | .yield l xs => h' = h ∧ c' = c ∧ ∃ lc ys, ρ l = some lc ∧ VRs σ ρ xs ys ∧ ∀ w, s.run P w = (Instr.yield lc.b ⟨ys⟩).run P w
theorem run_map {α β : Type} {s : Sem α} {f : α → β} {a : α} (e : s.run P w = .ok a w') : (do pure (f (← s)) : Sem β).run P w = .ok (f a) w' := by
  rw [run_bind_ok e]; rfl
theorem val_ok {m : M Value} {s : Sem Value} {out : Out} (hm : Ef P σ B w0 ρ m s (fun ρ' => VR σ ρ')) (e : v1 m h c = .ok out h' c') : OutOk P σ B w0 ρ out h c h' c' (do pure (.value (← s))) := by
  obtain ⟨v, h1, c1, e1, e2⟩ := bnd_ok.1 e
  obtain ⟨rfl, rfl, rfl⟩ := ret_ok.1 e2
  obtain ⟨o, k⟩ := hm _ _ _ _ _ e1
  refine ⟨o, fun G w hv hM hf => ?_⟩
  obtain ⟨b, w', ρ', G', r, p, hr⟩ := k G w hv hM hf
  exact ⟨.value b, w', ρ', G', b, run_map r, p, hr, .inl rfl⟩
theorem rd_ok {m : M Value} {s : Sem Value} {out : Out} (q : Quiet m) (hm : Rd P σ B w0 ρ m s (VR σ ρ)) (e : v1 m h c = .ok out h' c') : OutOk P σ B w0 ρ out h c h' c' (do pure (.value (← s))) :=
  val_ok (Ef.of_rd q hm fun _ _ h => h) e
theorem unit_ok {m : M Unit} {s : Sem Unit} {out : Out} (hm : Ef P σ B w0 ρ m s (fun _ _ _ => True)) (e : u1 m h c = .ok out h' c') : OutOk P σ B w0 ρ out h c h' c' (do s; pure .skip) := by
  obtain ⟨v, h1, c1, e1, e2⟩ := bnd_ok.1 e
  obtain ⟨rfl, rfl, rfl⟩ := ret_ok.1 e2
  obtain ⟨o, k⟩ := hm _ _ _ _ _ e1
  refine ⟨o, fun G w hv hM hf => ?_⟩
  obtain ⟨b, w', ρ', G', r, p, hr⟩ := k G w hv hM hf
  exact ⟨.skip, w', ρ', G', undef, by rw [run_bind_ok r]; rfl, p, .tuple [] [] .nil, .inr ⟨rfl, rfl⟩⟩
theorem pure_ok {v v' : Value} {out : Out} {s : Sem Next} (hs : ∀ w, s.run P w = .ok (.value v') w) (hv : VR σ ρ v v') (e : rv v h c = .ok out h' c') : OutOk P σ B w0 ρ out h c h' c' s := by
  obtain ⟨rfl, rfl, rfl⟩ := ret_ok.1 e
  exact ⟨Okk.refl _ _, fun G w hvw hM _ => ⟨_, w, ρ, G, v', hs w, Post.refl hM hvw, hv, .inl rfl⟩⟩
theorem args1 {x : Value} {ys : List Value} (h : VRs σ ρ [x] ys) : ∃ y, ys = [y] ∧ VR σ ρ x y := by
  cases h with | cons _ y _ _ h1 h2 =>
  cases h2
  exact ⟨y, rfl, h1⟩
theorem args2 {x z : Value} {ys : List Value} (h : VRs σ ρ [x, z] ys) : ∃ y u, ys = [y, u] ∧ VR σ ρ x y ∧ VR σ ρ z u := by
  cases h with | cons _ y _ _ h1 h2 =>
  obtain ⟨u, rfl, h3⟩ := args1 h2
  exact ⟨y, u, rfl, h1, h3⟩
theorem q_copy0 {t : TypeId} {x y : Value} : Quiet (copy0 P t x y) := Quiet.bnd q_und fun d => by
  cases d <;> first | exact Quiet.bad | skip
  cases x <;> first | exact Quiet.bad | skip
  exact Quiet.bnd q_lenOf fun _ => Quiet.sel (Quiet.bnd q_size fun _ => Quiet.ret) Quiet.bad
theorem firstCells_none {sz : Nat} {y' : Value} {n : Nat} (hl : ∀ w, (Builtin.lenOf y').run P w = .ok n w) (w : World) : (Builtin.firstCells sz 0 y').run P w = .ok #[] w := by
  have h := hl w
  cases y' <;> first | (cases h; done) | skip
  · unfold Builtin.firstCells
    simp
  · rename_i a _ _
    cases a with
    | none => rfl
    | some a =>
      unfold Builtin.firstCells
      simp [loadCells, loadCellsFrom]
theorem r_copy0 {t : TypeId} {tl : List TypeId} {ty : TypeId} (ht : (⟨tl⟩ : Array TypeId)[0]? = some t) {x y x' y' : Value} (hx : VR σ ρ x x') (hy : VR σ ρ y y') : Rd P σ B w0 ρ (copy0 P t x y) (Builtin.copy_ ⟨tl⟩ ty #[x', y']) (VR σ ρ) := by
  intro h c a h' c' ev G w hv hM
  obtain ⟨d, h1, c1, e1, e2⟩ := bnd_ok.1 ev
  obtain ⟨hu, rfl, rfl⟩ := opt_ok.1 e1
  cases d <;> first | exact (bad_ok.1 e2).elim | skip
  rename_i el
  cases x <;> first | exact (bad_ok.1 e2).elim | skip
  rename_i xa dl xc
  replace e2 : copyN P el dl y h c = .ok a h' c' := e2
  obtain ⟨n, h2, c2, e3, e4⟩ := bnd_ok.1 e2
  obtain ⟨hl, rfl, rfl⟩ := lenOf_ok (P := P) e3 hy
  rcases sel_ok.1 e4 with ⟨hz, e5⟩ | ⟨_, e5⟩
  case inr => exact (bad_ok.1 e5).elim
  have hz : Nat.min n dl = 0 := Nat.eq_of_beq_eq_true hz
  obtain ⟨sz, h3, c3, e6, e7⟩ := bnd_ok.1 e5
  obtain ⟨hs, rfl, rfl⟩ := opt_ok.1 e6
  obtain ⟨rfl, _, _⟩ := ret_ok.1 e7
  have hx' : ∃ xa' xc', x' = .slice xa' dl xc' := by cases hx <;> exact ⟨_, _, rfl⟩
  obtain ⟨xa', xc', rfl⟩ := hx'
  refine ⟨.int .i64 0, ?_, .int _ _⟩
  unfold Builtin.copy_
  simp only [ht, List.getElem?_toArray, List.getElem?_cons_zero, List.getElem?_cons_succ]
  rw [run_bind_ok (run_und hu w)]
  dsimp only
  rw [run_bind_ok (hl w)]
  rw [hz, run_bind_ok (run_size hs w), run_bind_ok (firstCells_none hl w)]
  cases xa' <;> rfl
theorem builtin_ok {b : Builtin} {tl : List TypeId} {ty : TypeId} {cs : Array Bool} {args args' : List Value} {out : Out} (ha : VRs σ ρ args args') (e : v1 (Ev.builtin P b tl args) h c = .ok out h' c') :
    OutOk P σ B w0 ρ out h c h' c' (Go.builtin b ⟨tl⟩ ty cs ⟨args'⟩) := by
  obtain ⟨v, h1, c1, e1, e2⟩ := bnd_ok.1 e
  obtain ⟨t, h2, c2, e3, e4⟩ := bnd_ok.1 e1
  obtain ⟨ht, rfl, rfl⟩ := opt_ok.1 e3
  have ht : (⟨tl⟩ : Array TypeId)[0]? = some t := by rw [nth_eq] at ht; simpa using ht
  have v1i : ∀ {m : M Value}, m h c = .ok v h1 c1 → v1 m h c = .ok out h' c' := fun hh => bnd_ok.2 ⟨v, h1, c1, hh, e2⟩
  cases b <;> first | exact (bad_ok.1 e4).elim | skip
  · dsimp only at e4
    split at e4
    · rename_i s x
      obtain ⟨y, u, rfl, k1, k2⟩ := args2 ha
      rw [nth_eq] at e4
      exact val_ok (e_append (ts := ⟨tl⟩) (ty := ty) ht k1 k2) (v1i (by simpa using e4))
    · exact (bad_ok.1 e4).elim
  · dsimp only at e4
    split at e4
    · obtain ⟨y, rfl, k1⟩ := args1 ha
      exact rd_ok (s := Builtin.cap_ ⟨tl⟩ ty #[y]) q_capB (r_capB ht k1) (v1i e4)
    · exact (bad_ok.1 e4).elim
  · dsimp only at e4
    split at e4
    · rename_i x z
      obtain ⟨y, u, rfl, k1, k2⟩ := args2 ha
      exact rd_ok (s := Builtin.copy_ ⟨tl⟩ ty #[y, u]) q_copy0 (r_copy0 ht k1 k2) (v1i e4)
    · exact (bad_ok.1 e4).elim
  · dsimp only at e4
    split at e4
    · obtain ⟨y, rfl, k1⟩ := args1 ha
      exact rd_ok (s := Builtin.len_ ⟨tl⟩ ty #[y]) q_lenB (r_len ht k1) (v1i e4)
    · exact (bad_ok.1 e4).elim
  · dsimp only at e4
    split at e4
    · cases ha with | cons _ y _ ys k1 k2 =>
      exact rd_ok (s := ys.foldlM Builtin.max2 y) (q_fold1 (fun _ _ => q_max2) _ _) (r_fold1 (fun _ _ => q_max2) (fun _ _ _ _ => r_max2) _ _ _ _ k2 k1) (v1i e4)
    · exact (bad_ok.1 e4).elim
  · dsimp only at e4
    split at e4
    · cases ha with | cons _ y _ ys k1 k2 =>
      exact rd_ok (s := ys.foldlM Builtin.min2 y) (q_fold1 (fun _ _ => q_min2) _ _) (r_fold1 (fun _ _ => q_min2) (fun _ _ _ _ => r_min2) _ _ _ _ k2 k1) (v1i e4)
    · exact (bad_ok.1 e4).elim
  · have key : ∀ x, args = [x] → sliceData x h c = .ok v h1 c1 → OutOk P σ B w0 ρ out h c h' c' (Go.builtin .unsafeSliceData ⟨tl⟩ ty cs ⟨args'⟩) := by
      rintro x rfl e5
      obtain ⟨y, rfl, k1⟩ := args1 ha
      exact rd_ok (s := Builtin.unsafeSliceData_ ⟨tl⟩ ty #[y]) q_sliceData (r_sliceData k1) (v1i e5)
    dsimp only at e4
    split at e4
    · exact key _ rfl e4
    · exact key _ rfl e4
    · exact (bad_ok.1 e4).elim
  · have key : ∀ p k n, args = [.pointer p, .int k n] → strAt P t p n h c = .ok v h1 c1 → OutOk P σ B w0 ρ out h c h' c' (Go.builtin .unsafeString ⟨tl⟩ ty cs ⟨args'⟩) := by
      rintro p k n rfl e5
      obtain ⟨y, u, rfl, k1, k2⟩ := args2 ha
      cases k2
      have : ∃ p', y = .pointer p' := by cases k1 <;> exact ⟨_, rfl⟩
      obtain ⟨p', rfl⟩ := this
      exact val_ok (e_strAt (ts := ⟨tl⟩) (ty := ty) ht k1) (v1i e5)
    dsimp only at e4
    split at e4
    · exact key _ _ _ rfl e4
    · exact key _ _ _ rfl e4
    · exact key _ _ _ rfl e4
    · exact (bad_ok.1 e4).elim
theorem e_alloc {ty : TypeId} : Ef P σ B w0 ρ (bnd (zero P ty) fun v => bnd (cellsM v) fun l => bnd (new (.row l 0 ty false)) fun b => ret (Value.pointer (some ⟨b, 0, none⟩))) (Instr.alloc ty true (.tuple #[])) (fun ρ' => VR σ ρ') := by
  intro h c a h' c' ev
  obtain ⟨z, h1, c1, e1, e2⟩ := bnd_ok.1 ev
  obtain ⟨rfl, rfl⟩ := q_zero _ _ _ _ _ e1
  have hz : ∀ G w, View _ G → Match σ B w0 ρ G w → _ := fun G w hv hM => r_zero (σ := σ) (B := B) (w0 := w0) (ρ := ρ) _ _ _ _ _ e1 G w hv hM
  refine ⟨?_, fun G w hv hM hf => ?_⟩
  · obtain ⟨l, h1, c1, e3, e4⟩ := bnd_ok.1 e2
    obtain ⟨rfl, rfl⟩ := q_cellsM _ _ _ _ _ e3
    obtain ⟨b, h2, c2, e5, e6⟩ := bnd_ok.1 e4
    obtain ⟨rfl, rfl, rfl⟩ := new_ok.1 e5
    obtain ⟨rfl, rfl, rfl⟩ := ret_ok.1 e6
    exact Okk.new
  · obtain ⟨z', g1, rfl, g2, _⟩ := hz G w hv hM
    obtain ⟨_, k⟩ := e_newVar (P := P) (σ := σ) (B := B) (w0 := w0) (ρ := ρ) (e := ty) g2 _ _ _ _ _ e2
    obtain ⟨b, w', ρ', G', r, p, hr⟩ := k G w hv hM hf
    refine ⟨b, w', ρ', G', ?_, p, hr⟩
    unfold Instr.alloc
    rw [run_bind_ok g1]
    exact r
theorem newPtr_eq {e : TypeId} {v : Value} {out : Out} (hh : newPtr e v h c = .ok out h' c') : v1 (bnd (cellsM v) fun l => bnd (new (.row l 0 e false)) fun b => ret (Value.pointer (some ⟨b, 0, none⟩))) h c = .ok out h' c' := by
  obtain ⟨l, h1, c1, e1, e2⟩ := bnd_ok.1 hh
  obtain ⟨b, h2, c2, e3, e4⟩ := bnd_ok.1 e2
  obtain ⟨rfl, rfl, rfl⟩ := ret_ok.1 e4
  exact bnd_ok.2 ⟨_, _, _, bnd_ok.2 ⟨l, h1, c1, e1, bnd_ok.2 ⟨b, _, _, e3, ret_ok.2 ⟨rfl, rfl, rfl⟩⟩⟩, ret_ok.2 ⟨rfl, rfl, rfl⟩⟩
theorem loadAt_ok {ty : TypeId} {a a' : Value} {out : Out} (ha : VR σ ρ a a') (e : v1 (bnd (addr a) (loadVar P ty)) h c = .ok out h' c') : OutOk P σ B w0 ρ out h c h' c' (do pure (.value (← Instr.loadAt ty a'))) := by
  refine rd_ok (Quiet.bnd q_addr fun _ => q_loadVar) (fun h c v h' c' e G w hv hM => ?_) e
  obtain ⟨ad, h1, c1, e1, e2⟩ := bnd_ok.1 e
  obtain ⟨rfl, rfl, rfl⟩ := addr_ok e1
  cases ha with | ptr n o l hl =>
  obtain ⟨b, e3, hb⟩ := r_loadVar hl _ _ _ _ _ e2 G w hv hM
  exact ⟨b, e3, hb⟩
theorem storeAt_ok {ty : TypeId} {a a' x x' : Value} {out : Out} (ha : VR σ ρ a a') (hx : VR σ ρ x x') (e : u1 (bnd (addr a) fun a => storeVar P ty a x) h c = .ok out h' c') : OutOk P σ B w0 ρ out h c h' c' (do Instr.storeAt ty a' x'; pure .skip) := by
  refine unit_ok (fun h c v h' c' e => ?_) e
  obtain ⟨ad, h1, c1, e1, e2⟩ := bnd_ok.1 e
  obtain ⟨rfl, rfl, rfl⟩ := addr_ok e1
  cases ha with | ptr n o l hl =>
  exact e_storeVar hl hx _ _ _ _ _ e2
theorem ext_ok {i : Nat} {x x' : Value} {out : Out} (hx : VR σ ρ x x') (e : ext i x h c = .ok out h' c') : OutOk P σ B w0 ρ out h c h' c' (do pure (.value (← Instr.extract x' i))) := by
  unfold ext at e
  split at e
  · obtain ⟨v, h1, c1, e1, e2⟩ := bnd_ok.1 e
    obtain ⟨hn, rfl, rfl⟩ := opt_ok.1 e1
    cases hx with | tuple xs ys hxy =>
    rw [nth_eq] at hn
    obtain ⟨v', g1, g2⟩ := hxy.get _ _ hn
    refine pure_ok (v' := v') (fun w => run_map (s := Instr.extract (.tuple ⟨ys⟩) i) (f := Next.value) ?_) g2 e2
    show (match (⟨ys⟩ : Array Value)[i]? with | some v => pure v | none => stuck "Extract: no such component" : Sem Value).run P w = _
    rw [show (⟨ys⟩ : Array Value)[i]? = some v' by simpa using g1]
    rfl
  · exact (bad_ok.1 e).elim
theorem OutOk.congr {s s' : Sem Next} {out : Out} (hs : ∀ w, s.run P w = s'.run P w) (ho : OutOk P σ B w0 ρ out h c h' c' s') : OutOk P σ B w0 ρ out h c h' c' s := by
  cases out with
  | val v =>
    obtain ⟨o, k⟩ := ho
    refine ⟨o, fun G w hv hM hf => ?_⟩
    obtain ⟨n, w', ρ', G', v', a, b⟩ := k G w hv hM hf
    exact ⟨n, w', ρ', G', v', (hs w).trans a, b⟩
  | call f xs =>
    obtain ⟨a, b, ys, d, e⟩ := ho
    exact ⟨a, b, ys, d, fun w => (hs w).trans (e w)⟩
  | yield l xs =>
    obtain ⟨a, b, lc, ys, d, e, f⟩ := ho
    exact ⟨a, b, lc, ys, d, e, fun w => (hs w).trans (f w)⟩
theorem newMap_ok {s : Sem Next} {out : Out} (hs : ∀ w, s.run P w = (do pure (.value (.map (some (← newObj (.map #[] 0))))) : Sem Next).run P w) (e : newMap h c = .ok out h' c') : OutOk P σ B w0 ρ out h c h' c' s := by
  obtain ⟨ok1, k⟩ := e_newMap (P := P) (σ := σ) (B := B) (w0 := w0) (ρ := ρ) _ _ _ _ _ e
  obtain ⟨b, h1, c1, e1, e2⟩ := bnd_ok.1 e
  obtain ⟨rfl, rfl, rfl⟩ := ret_ok.1 e2
  refine ⟨ok1, fun G w hv hM hf => ?_⟩
  obtain ⟨n, w', ρ', G', r, p, v, v', hv1, rfl, hr⟩ := k G w hv hM hf
  cases hv1
  exact ⟨_, w', ρ', G', v', (hs w).trans r, p, hr, .inl rfl⟩
theorem call_ok {args args' : List Value} {f f' : Value} {out : Out} (ha : VRs σ ρ args args') (hf : VR σ ρ f f') (e : callV args f h c = .ok out h' c') :
    OutOk P σ B w0 ρ out h c h' c' (do let d ← Deferred.ofValue f' ⟨args'⟩; invoke d.target d.args) := by
  unfold callV at e
  split at e
  · obtain ⟨rfl, rfl, rfl⟩ := ret_ok.1 e
    cases hf with | func g a b a' b' k1 k2 =>
    refine ⟨rfl, rfl, a' ++ (args' ++ b'), ?_, fun w => ?_⟩
    · rw [app_eq, app_eq]
      exact k1.app (ha.app k2)
    · have : (⟨a'⟩ : Array Value) ++ (⟨args'⟩ : Array Value) ++ (⟨b'⟩ : Array Value) = ⟨a' ++ (args' ++ b')⟩ := by simp
      rw [← this]; rfl
  · obtain ⟨rfl, rfl, rfl⟩ := ret_ok.1 e
    cases hf with | yield n l hl =>
    refine ⟨rfl, rfl, l, args', hl, ha, fun w => ?_⟩
    have : (⟨[]⟩ : Array Value) ++ (⟨args'⟩ : Array Value) = ⟨args'⟩ := by simp
    show (Instr.yield l.b ((⟨[]⟩ : Array Value) ++ (⟨args'⟩ : Array Value))).run P w = _
    rw [this]
  · exact (bad_ok.1 e).elim
theorem exec_ok (hG : GlobOk P σ B w0) {o : Oper} {out : Out} (he : ER σ ρ ks t ev) (e : exec1 P o.op ks t h c = .ok out h' c') : OutOk P σ B w0 ρ out h c h' c' (execOp ev o) := by
  unfold execOp
  cases hop : o.op <;> rw [hop] at e <;> first | exact (bad_ok.1 (show (bad : M Out) h c = .ok out h' c' from e)).elim | dsimp only
  case move x =>
    obtain ⟨v, e1, k1⟩ := opk_ok he e
    exact pure_ok (fun w => rfl) k1 e1
  case assign x =>
    obtain ⟨v, e1, k1⟩ := opk_ok he e
    exact pure_ok (fun w => rfl) k1 e1
  case pick x a b =>
    obtain ⟨v, e1, k1⟩ := opk_ok he e
    unfold pick at e1
    split at e1
    · cases hx : ev x <;> rw [hx] at k1 <;> cases k1
      obtain ⟨v, e2, k2⟩ := opk_ok he e1
      exact pure_ok (fun w => rfl) k2 e2
    · cases hx : ev x <;> rw [hx] at k1 <;> cases k1
      obtain ⟨v, e2, k2⟩ := opk_ok he e1
      exact pure_ok (fun w => rfl) k2 e2
    · exact (bad_ok.1 e1).elim
  case alloc ty =>
    obtain ⟨z, h1, c1, e1, e2⟩ := bnd_ok.1 e
    obtain ⟨v, h2, c2, e3, e4⟩ := bnd_ok.1 (newPtr_eq e2)
    exact val_ok e_alloc (bnd_ok.2 ⟨v, h2, c2, bnd_ok.2 ⟨z, h1, c1, e1, e3⟩, e4⟩)
  case box ty x =>
    obtain ⟨v, e1, k1⟩ := opk_ok he e
    exact val_ok (e_newVar k1) (newPtr_eq e1)
  case build ty ps =>
    obtain ⟨ps⟩ := ps
    obtain ⟨vs, e1, k1⟩ := opkp_ok he _ e
    rw [show (Array.map (fun x : Nat × Operand => (x.1, ev x.2)) ⟨ps⟩) = ⟨ps.map fun p => (p.1, ev p.2)⟩ by simp]
    exact rd_ok q_build (r_build k1) e1
  case buildSlice ty n ps =>
    obtain ⟨ps⟩ := ps
    obtain ⟨vs, e1, k1⟩ := opkp_ok he _ e
    rw [show (Array.map (fun x : Nat × Operand => (x.1, ev x.2)) ⟨ps⟩) = ⟨ps.map fun p => (p.1, ev p.2)⟩ by simp]
    exact val_ok (e_buildSlice k1) e1
  case insert ty m k x =>
    obtain ⟨m', e1, k1⟩ := opk_ok he e
    obtain ⟨k', e2, k2⟩ := opk_ok he e1
    obtain ⟨x', e3, k3⟩ := opk_ok he e2
    exact unit_ok (e_mapUpdate k1 k2 k3) e3
  case mapUpdate ty m k x =>
    obtain ⟨m', e1, k1⟩ := opk_ok he e
    obtain ⟨k', e2, k2⟩ := opk_ok he e1
    obtain ⟨x', e3, k3⟩ := opk_ok he e2
    exact unit_ok (e_mapUpdate k1 k2 k3) e3
  case load ty a =>
    cases a with
    | global g =>
      rw [he.glob g]
      exact rd_ok q_globM (r_globM hG) (show v1 (globM P ty g) h c = .ok out h' c' from e)
    | tmp i => obtain ⟨v, e1, k1⟩ := opk_ok he (show opk ks t (.tmp i) (fun v => v1 (bnd (addr v) (loadVar P ty))) h c = .ok out h' c' from e); exact loadAt_ok k1 e1
    | const v => obtain ⟨v, e1, k1⟩ := opk_ok he (show opk ks t (.const v) (fun v => v1 (bnd (addr v) (loadVar P ty))) h c = .ok out h' c' from e); exact loadAt_ok k1 e1
    | func f => obtain ⟨v, e1, k1⟩ := opk_ok he (show opk ks t (.func f) (fun v => v1 (bnd (addr v) (loadVar P ty))) h c = .ok out h' c' from e); exact loadAt_ok k1 e1
  case store ty a x =>
    obtain ⟨v, e1, k1⟩ := opk_ok he e
    obtain ⟨x', e2, k2⟩ := opk_ok he e1
    exact storeAt_ok k1 k2 e2
  case nilCheck x =>
    obtain ⟨v, e1, k1⟩ := opk_ok he e
    unfold nilChk at e1
    generalize ev x = x' at k1 ⊢
    split at e1
    · cases k1
      exact pure_ok (fun w => rfl) (.ptr _ _ _ ‹_›) e1
    · cases k1
      exact pure_ok (fun w => rfl) (.iface _ _ _ ‹_›) e1
    · cases k1
      exact pure_ok (fun w => rfl) (.func _ _ _ _ _ ‹_› ‹_›) e1
    · cases k1
      exact pure_ok (fun w => rfl) (.yield _ _ ‹_›) e1
    · exact (bad_ok.1 e1).elim
  case binOp op ty x y yt =>
    obtain ⟨v, e1, k1⟩ := opk_ok he e
    obtain ⟨u, e2, k2⟩ := opk_ok he e1
    exact rd_ok q_binOp (r_binOp k1 k2) e2
  case unOp op ty x =>
    obtain ⟨v, e1, k1⟩ := opk_ok he e
    exact rd_ok q_un (r_un k1) e1
  case convert s d x =>
    obtain ⟨v, e1, k1⟩ := opk_ok he e
    exact val_ok (e_conv k1) e1
  case makeInterface ty x =>
    obtain ⟨v, e1, k1⟩ := opk_ok he e
    obtain ⟨d, h1, c1, e2, e3⟩ := bnd_ok.1 e1
    obtain ⟨hu, rfl, rfl⟩ := opt_ok.1 e2
    rcases sel_ok.1 e3 with ⟨_, e4⟩ | ⟨hd, e4⟩
    · exact (bad_ok.1 e4).elim
    refine pure_ok (fun w => run_map (f := Next.value) ?_) (.iface ty _ _ k1) e4
    unfold Instr.makeInterface
    rw [run_bind_ok (run_und hu w)]
    cases d <;> first | rfl | cases hd
  case makeFunc fn a b =>
    obtain ⟨a⟩ := a
    obtain ⟨b⟩ := b
    obtain ⟨v, e1, k1⟩ := opks_ok he _ e
    obtain ⟨u, e2, k2⟩ := opks_ok he _ e1
    rw [show Array.map ev ⟨a⟩ = ⟨a.map ev⟩ by simp, show Array.map ev ⟨b⟩ = ⟨b.map ev⟩ by simp]
    unfold mkF at e2
    split at e2
    · exact pure_ok (fun w => rfl) (.func _ _ _ _ _ k1 k2) e2
    · exact (bad_ok.1 e2).elim
  case makeMap ty r =>
    obtain ⟨v, e1, k1⟩ := opko_ok he e
    generalize r.map ev = r' at k1 ⊢
    cases k1 with
    | none => exact newMap_ok (fun w => rfl) e1
    | some v v' hv =>
      obtain ⟨d, h1, c1, e2, e3⟩ := bnd_ok.1 e1
      obtain ⟨hu, rfl, rfl⟩ := opt_ok.1 e2
      obtain ⟨kt, el, rfl⟩ : ∃ kt el, d = .map kt el := by
        cases d <;> first | exact (bad_ok.1 e3).elim | exact ⟨_, _, rfl⟩
      obtain ⟨i, h1, c1, e4, e5⟩ := bnd_ok.1 e3
      have hi : ∃ k n, v = .int k n ∧ h1 = h ∧ c1 = c := by
        cases v <;> first | (cases e4; done) | (cases e4; exact ⟨_, _, rfl, rfl, rfl⟩)
      obtain ⟨k, n, rfl, rfl, rfl⟩ := hi
      cases hv
      refine newMap_ok (fun w => ?_) e5
      unfold Instr.makeMap
      simp [run_und hu, asInt, asIntOf]
  case makeSlice ty l cp =>
    obtain ⟨v, e1, k1⟩ := opk_ok he e
    obtain ⟨u, e2, k2⟩ := opk_ok he e1
    exact val_ok (e_makeSlice k1 k2) e2
  case slice ty x lo hi mx =>
    obtain ⟨v, e1, k1⟩ := opk_ok he e
    obtain ⟨u1, e2, k2⟩ := opko_ok he e1
    obtain ⟨u2, e3, k3⟩ := opko_ok he e2
    obtain ⟨u3, e4, k4⟩ := opko_ok he e3
    exact rd_ok q_slice (r_slice k1 k2 k3 k4) e4
  case fieldAddr s x f =>
    obtain ⟨v, e1, k1⟩ := opk_ok he e
    exact rd_ok q_fieldAddr (r_fieldAddr k1) e1
  case field ty x f =>
    obtain ⟨v, e1, k1⟩ := opk_ok he e
    exact rd_ok q_field (r_field k1) e1
  case indexAddr ty x i =>
    obtain ⟨v, e1, k1⟩ := opk_ok he e
    obtain ⟨u, e2, k2⟩ := opk_ok he e1
    exact rd_ok q_indexAddr (r_indexAddr k1 k2) e2
  case index ty x i =>
    obtain ⟨v, e1, k1⟩ := opk_ok he e
    obtain ⟨u, e2, k2⟩ := opk_ok he e1
    exact rd_ok q_index (r_index k1 k2) e2
  case lookup ty x i ok =>
    obtain ⟨v, e1, k1⟩ := opk_ok he e
    obtain ⟨u, e2, k2⟩ := opk_ok he e1
    exact rd_ok q_lookup (r_lookup k1 k2) e2
  case range ty x =>
    obtain ⟨v, e1, k1⟩ := opk_ok he e
    exact val_ok (e_range k1) e1
  case next it s =>
    obtain ⟨v, e1, k1⟩ := opk_ok he e
    exact val_ok (e_next k1) e1
  case entry it =>
    obtain ⟨v, e1, k1⟩ := opk_ok he e
    exact rd_ok q_entry (r_entry k1) e1
  case typeAssert x xt a ok =>
    obtain ⟨v, e1, k1⟩ := opk_ok he e
    exact rd_ok q_typeAssert (r_typeAssert k1) e1
  case extract x i =>
    obtain ⟨v, e1, k1⟩ := opk_ok he e
    exact ext_ok k1 e1
  case call cl =>
    obtain ⟨cal, args, ats⟩ := cl
    obtain ⟨args⟩ := args
    obtain ⟨ats⟩ := ats
    obtain ⟨vs, e1, k1⟩ := opks_ok he _ e
    have hm : Array.map ev ⟨args⟩ = ⟨args.map ev⟩ := by simp
    cases cal with
    | builtin b =>
      refine OutOk.congr (fun w => ?_) (builtin_ok (ty := o.type) (cs := Array.map (fun | .const _ => true | _ => false) ⟨args⟩) k1 e1)
      rw [← hm]; rfl
    | value f =>
      obtain ⟨v, e2, k2⟩ := opk_ok he e1
      refine OutOk.congr (fun w => ?_) (call_ok k1 k2 e2)
      rw [← hm]; rfl
    | invoke r n => exact (bad_ok.1 (show (bad : M Out) h c = .ok out h' c' from e1)).elim
end
end Go.Ev
