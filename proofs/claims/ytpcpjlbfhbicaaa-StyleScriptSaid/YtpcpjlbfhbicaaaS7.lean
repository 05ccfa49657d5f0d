/- Own walks for the law, joined from several texts: what the law reaches, and no more (joined by keeplive.py). -/
import Derived.Test.YtpcpjlbfhbicaaaS6
set_option linter.unusedVariables false
set_option linter.unusedSimpArgs false
namespace Go.Proofs.Ytpcpjlbfhbicaaa.Sh
open Go Go.RowKit Go.Proofs.YtpcpjlbfhbicaaaW.PrintWords Go.Proofs.YtpcpjlbfhbicaaaW.PrintLast Go.Proofs.YtpcpjlbfhbicaaaW.PrintMore Go.Proofs.Ytpcpjlbfhbicaaa.PStyleProps
open Go.Proofs.Ytpcpjlbfhbicaaa.PStyleNearest (S37 k37 z37 rd_T37 at_T37 k37_open k37_openM k37_mk k37_mkM info37)
def OffV (b : Nat) (v : Value) : Prop := ∀ ad n c, v = .slice (some ad) n c → 0 < n → ad.block ≠ b
def OffM (b : Nat) (M : List Ent) : Prop := ∀ m ∈ M, OffV b m.2.2
def Fr (base : Nat) (v : Value) : Prop := ∀ ad n c, v = .slice (some ad) n c → base ≤ ad.block
theorem Fr.off {base b : Nat} {v : Value} (h : Fr base v) (hb : b < base) : OffV b v := fun ad n c e _ => by
  have := h ad n c e
  omega
theorem Fr.none (base n c : Nat) : Fr base (.slice none n c) := fun ad n c e => by cases e
theorem Fr.R {w : World} {base : Nat} {ok : Nat → Prop} {v : Value} {l : List S37} (h : Kd.R k37 37 w base ok v l) : Fr base v := by
  rintro ad n c rfl
  obtain ⟨h0, inner, hown, hr⟩ := h
  exact (hown.lt ad.block rfl).1
theorem Sl.off {w : World} {v : Value} {l : List S37} {b : Nat} (h : Sl w v l) (hb : w.heap.size ≤ b) : OffV b v := by
  obtain ⟨A, c, rfl, hc, hr⟩ := h
  rintro ad n c' e hn
  injection e with e1 e2 e3
  obtain ⟨ad2, e4, hcells⟩ := hr.2.2 (by omega)
  rw [e4] at e1
  cases e1
  obtain ⟨q, hq⟩ : ∃ q, l[0]? = some q := ⟨_, List.getElem?_eq_getElem (by omega)⟩
  obtain ⟨cs, g1, g2, g3⟩ := hcells 0 q hq
  have g4 := k37_open g2
  subst g4
  have h5 := g3 0 _ rfl
  have h6 := World.block_lt_of_cell? w _ h5
  rw [add_block] at h6
  omega
theorem Sl.free {w w' : World} {b : Nat} {v : Value} {l : List S37} (h : Sl w v l) (ho : OffV b v) (hg : w.grownBy w' (some b)) : Sl w' v l := by
  obtain ⟨A, c, rfl, hc, hr⟩ := h
  refine ⟨A, c, rfl, hc, hr.1, hr.2.1, fun hp => ?_⟩
  obtain ⟨ad, e, hcells⟩ := hr.2.2 hp
  subst e
  refine ⟨ad, rfl, fun j q hj => ?_⟩
  obtain ⟨cs, g1, g2, g3⟩ := hcells j q hj
  have g4 := k37_open g2
  subst g4
  refine ⟨_, g1, k37_mk w' q, fun i u hu => ?_⟩
  have h5 := g3 i u hu
  exact hg.cell h5 (by rw [add_block]; have := ho ad _ _ rfl hp; simpa using this)
theorem Reads.off {w : World} {b : Nat} (hb : w.heap.size ≤ b) : ∀ {M : List Ent} {L : List Sty}, Reads w M L → OffM b M
  | [], [], _, m, hm => by cases hm
  | m :: M, s :: L, ⟨_, _, h3, h4⟩, x, hx => by
    rcases List.mem_cons.1 hx with rfl | hx
    · exact h3.off hb
    · exact Reads.off hb h4 x hx
  | [], _ :: _, h, _, _ => h.elim
  | _ :: _, [], h, _, _ => h.elim
theorem Reads.free {w w' : World} {b : Nat} (hg : w.grownBy w' (some b)) : ∀ {M : List Ent} {L : List Sty}, Reads w M L → OffM b M → Reads w' M L
  | [], [], _, _ => trivial
  | m :: M, s :: L, ⟨h1, h2, h3, h4⟩, ho => ⟨h1, h2, h3.free (ho m List.mem_cons_self) hg, Reads.free hg h4 (fun x hx => ho x (List.mem_cons_of_mem _ hx))⟩
  | [], _ :: _, h, _ => h.elim
  | _ :: _, [], h, _ => h.elim
theorem OffM.put {b : Nat} {n p : ByteArray} {v : Value} (hv : OffV b v) : ∀ {M : List Ent}, OffM b M → OffM b (Sh.put M n p v)
  | [], _, x, hx => by
    simp only [Sh.put, List.mem_singleton] at hx
    subst hx
    exact hv
  | m :: M, h, x, hx => by
    simp only [Sh.put] at hx
    cases c : (n == m.1) with
    | true =>
      rw [c] at hx
      rcases List.mem_cons.1 hx with rfl | hx
      · exact hv
      · exact h x (List.mem_cons_of_mem _ hx)
    | false =>
      rw [c] at hx
      simp only [Bool.false_eq_true, if_false] at hx
      rcases List.mem_cons.1 hx with rfl | hx
      · exact h _ List.mem_cons_self
      · exact OffM.put hv (fun y hy => h y (List.mem_cons_of_mem _ hy)) x hx
theorem OffM.app {b : Nat} {M M2 : List Ent} (h : OffM b M) (h2 : OffM b M2) : OffM b (M ++ M2) := fun x hx => (List.mem_append.1 hx).elim (h x) (h2 x)
theorem OffM.one {b : Nat} {m : Ent} (h : OffV b m.2.2) : OffM b [m] := fun x hx => by
  obtain rfl := List.mem_singleton.1 hx
  exact h
theorem OffM.sub {b : Nat} {M M2 : List Ent} (h : OffM b M) (h2 : ∀ m ∈ M2, m ∈ M) : OffM b M2 := fun x hx => h x (h2 x hx)
/-- The program's sheet, off block b. -/
def SheetO (b : Nat) (w : World) (gs gm : Nat) (L : List Sty) : Prop := w.heap[gs]? = some (.cells #[.map (some gm)] 77 (0, 0)) ∧ ∃ M, MapAt w gm M ∧ Reads w M L ∧ OffM b M
theorem SheetO.sheet {b : Nat} {w : World} {gs gm : Nat} {L : List Sty} (h : SheetO b w gs gm L) : Sheet w gs gm L := by
  obtain ⟨h1, M, h2, h3, _⟩ := h
  exact ⟨h1, M, h2, h3⟩
theorem Sheet.o {b : Nat} {w : World} {gs gm : Nat} {L : List Sty} (h : Sheet w gs gm L) (hb : w.heap.size ≤ b) : SheetO b w gs gm L := by
  obtain ⟨h1, M, h2, h3⟩ := h
  exact ⟨h1, M, h2, h3, h3.off hb⟩
theorem SheetO.below {b : Nat} {w w' : World} {gs gm : Nat} {L : List Sty} (h : SheetO b w gs gm L) (hb : Below w.heap.size w w') : SheetO b w' gs gm L := by
  obtain ⟨h1, M, h2, h3, h4⟩ := h
  exact ⟨blk_below h1 hb, M, h2.below hb, h3.imp (fun _ _ h => h.below hb), h4⟩
theorem SheetO.slot {b : Nat} {w w' : World} {gs gm p : Nat} {L : List Sty} {A : Option Addr} {n c : Nat} (h : SheetO b w gs gm L) (hp : w.heap[p]? = some (.cells #[.slice A n c] 71 (0, 0))) (hg : w.grownBy w' (some p)) : SheetO b w' gs gm L := by
  obtain ⟨h1, M, ⟨es, cl, h2, h2'⟩, h3, h4⟩ := h
  have hs : gs ≠ p := fun e => by subst e; rw [h1] at hp; cases hp
  have hm : gm ≠ p := fun e => by subst e; rw [h2] at hp; cases hp
  exact ⟨(hg.block gs (Array.getElem?_eq_some_iff.1 h1).1 (by simpa using hs)).trans h1, M, ⟨es, cl, (hg.block gm (Array.getElem?_eq_some_iff.1 h2).1 (by simpa using hm)).trans h2, h2'⟩, h3.imp (fun v l h => h.grown (slot_no hp) hg), h4⟩
theorem SheetO.other {b : Nat} {w w' : World} {gs gm g2 : Nat} {L : List Sty} {es : Array MapEntry} {cl : Nat} (h : SheetO b w gs gm L) (hp : w.heap[g2]? = some (.map es cl)) (hne : gm ≠ g2) (hg : w.grownBy w' (some g2)) : SheetO b w' gs gm L := by
  obtain ⟨h1, M, ⟨es, cl, h2, h2'⟩, h3, h4⟩ := h
  have hs : gs ≠ g2 := fun e => by subst e; rw [h1] at hp; cases hp
  exact ⟨(hg.block gs (Array.getElem?_eq_some_iff.1 h1).1 (by simpa using hs)).trans h1, M, ⟨es, cl, (hg.block gm (Array.getElem?_eq_some_iff.1 h2).1 (by simpa using hne)).trans h2, h2'⟩, h3.imp (fun v l h => h.grown (fun a k x hc => map_no hp a _ hc) hg), h4⟩
theorem SheetO.free {b : Nat} {w w' : World} {gs gm : Nat} {L : List Sty} (h : SheetO b w gs gm L) (h1n : gs ≠ b) (h2n : gm ≠ b) (hg : w.grownBy w' (some b)) : SheetO b w' gs gm L := by
  obtain ⟨h1, M, ⟨es, cl, h2, h2'⟩, h3, h4⟩ := h
  exact ⟨(hg.block gs (Array.getElem?_eq_some_iff.1 h1).1 (by simpa using h1n)).trans h1, M, ⟨es, cl, (hg.block gm (Array.getElem?_eq_some_iff.1 h2).1 (by simpa using h2n)).trans h2, h2'⟩, h3.free hg h4, h4⟩
/-- The reference's sheet, off block b. -/
def RSheetO (b : Nat) (w : World) (p : Nat) (W : List Sty) : Prop := ∃ (A : Option Addr) (c : Nat) (M : List Ent), w.heap[p]? = some (.cells #[.slice A M.length c] 71 (0, 0)) ∧ M.length ≤ c ∧ Kd.C kSt w A M.length M ∧ Reads w M W ∧ OffM b M ∧ (∀ ad, A = some ad → 0 < M.length → ad.block ≠ b)
theorem RSheetO.sheet {b : Nat} {w : World} {p : Nat} {W : List Sty} (h : RSheetO b w p W) : RSheet w p W := by
  obtain ⟨A, c, M, h1, h2, h3, h4, _⟩ := h
  exact ⟨A, c, M, h1, h2, h3, h4⟩
theorem RSheet.o {b : Nat} {w : World} {p : Nat} {W : List Sty} (h : RSheet w p W) (hb : w.heap.size ≤ b) : RSheetO b w p W := by
  obtain ⟨A, c, M, h1, h2, h3, h4⟩ := h
  refine ⟨A, c, M, h1, h2, h3, h4, h4.off hb, fun ad e hn => ?_⟩
  obtain ⟨ad2, s, e2, hc⟩ := kSt_cell h3 hn
  rw [e] at e2
  cases e2
  have := World.block_lt_of_cell? w _ hc
  rw [add_block] at this
  omega
theorem RSheetO.below {b : Nat} {w w' : World} {p : Nat} {W : List Sty} (h : RSheetO b w p W) (hb : Below w.heap.size w w') : RSheetO b w' p W := by
  obtain ⟨A, c, M, h1, h2, h3, h4, h5⟩ := h
  exact ⟨A, c, M, blk_below h1 hb, h2, Kd.C_below h3 hb, h4.imp (fun _ _ h => h.below hb), h5⟩
theorem RSheetO.map {b : Nat} {w w' : World} {p g2 : Nat} {W : List Sty} {es : Array MapEntry} {cl : Nat} (h : RSheetO b w p W) (hp : w.heap[g2]? = some (.map es cl)) (hg : w.grownBy w' (some g2)) : RSheetO b w' p W := by
  obtain ⟨A, c, M, h1, h2, h3, h4, h5⟩ := h
  have hs : p ≠ g2 := fun e => by subst e; rw [h1] at hp; cases hp
  refine ⟨A, c, M, (hg.block p (Array.getElem?_eq_some_iff.1 h1).1 (by simpa using hs)).trans h1, h2, kSt_grown h3 (fun ad e hn => ?_) hg, h4.imp (fun v l h => h.grown (fun a k x hc => map_no hp a _ hc) hg), h5⟩
  obtain ⟨ad2, s, e2, hc⟩ := kSt_cell h3 hn
  rw [e] at e2
  cases e2
  have := map_no hp _ _ hc
  rwa [add_block] at this
theorem RSheetO.other {b : Nat} {w w' : World} {p p2 : Nat} {W : List Sty} {A2 : Option Addr} {n2 c2 : Nat} (h : RSheetO b w p W) (hp : w.heap[p2]? = some (.cells #[.slice A2 n2 c2] 71 (0, 0))) (hne : p ≠ p2) (hg : w.grownBy w' (some p2)) : RSheetO b w' p W := by
  obtain ⟨A, c, M, h1, h2, h3, h4, h5⟩ := h
  refine ⟨A, c, M, (hg.block p (Array.getElem?_eq_some_iff.1 h1).1 (by simpa using hne)).trans h1, h2, kSt_grown h3 (fun ad e hn => ?_) hg, h4.imp (fun v l h => h.grown (slot_no hp) hg), h5⟩
  obtain ⟨ad2, s, e2, hc⟩ := kSt_cell h3 hn
  rw [e] at e2
  cases e2
  intro hb
  have h5 := hc
  unfold World.cell? at h5
  rw [add_block, hb, hp] at h5
  generalize (ad.add 0).off = o at h5
  cases o with
  | zero => simp at h5
  | succ o => simp at h5
theorem RSheetO.free {b : Nat} {w w' : World} {p : Nat} {W : List Sty} (h : RSheetO b w p W) (hne : p ≠ b) (hg : w.grownBy w' (some b)) : RSheetO b w' p W := by
  obtain ⟨A, c, M, h1, h2, h3, h4, h5, h6⟩ := h
  exact ⟨A, c, M, (hg.block p (Array.getElem?_eq_some_iff.1 h1).1 (by simpa using hne)).trans h1, h2, kSt_grown h3 h6 hg, h4.free hg h5, h5, h6⟩
theorem RSheetO.set {b : Nat} {w : World} {p : Nat} {old : Value} {A : Option Addr} {c : Nat} {M : List Ent} {W : List Sty} (h1 : w.heap[p]? = some (.cells #[old] 71 (0, 0))) (hc : M.length ≤ c) (hC : Kd.C kSt w A M.length M) (hne : ∀ ad, A = some ad → ad.block ≠ p) (hr : Reads w M W) (hs : ∀ v l, Sl w v l → Sl (w.setRow p #[.slice A M.length c]) v l) (ho : OffM b M) (hA : ∀ ad, A = some ad → ad.block ≠ b) : RSheetO b (w.setRow p #[.slice A M.length c]) p W := by
  refine ⟨A, c, M, setRow_heap w p _ _ 71 (0, 0) h1, hc, ?_, hr.imp hs, ho, fun ad e _ => hA ad e⟩
  refine ⟨hC.1, hC.2.1, fun hp => ?_⟩
  obtain ⟨ad, e, hcells⟩ := hC.2.2 hp
  refine ⟨ad, e, fun j q hj => ?_⟩
  obtain ⟨cs, g1, g2, g3⟩ := hcells j q hj
  refine ⟨cs, g1, g2, fun i u hu => ?_⟩
  have := g3 i u hu
  have hb : ((ad.add (j * kSt.sz + i))).block ≠ p := by rw [add_block]; exact hne ad e
  exact (World.cell?_of_block (setRow_other w p _ _ hb)).trans this
theorem SheetO.slotR {b : Nat} {w w' : World} {gs gm p : Nat} {L W : List Sty} (h : SheetO b w gs gm L) (hr : RSheet w p W) (hg : w.grownBy w' (some p)) : SheetO b w' gs gm L := by
  obtain ⟨A, c, M, h1, _⟩ := hr
  exact h.slot h1 hg
theorem SheetO.otherS {b : Nat} {w w' : World} {gs gm gs2 g2 : Nat} {L L2 : List Sty} (h : SheetO b w gs gm L) (hp : Sheet w gs2 g2 L2) (hne : gm ≠ g2) (hg : w.grownBy w' (some g2)) : SheetO b w' gs gm L := by
  obtain ⟨_, M, ⟨es, cl, h2, _⟩, _⟩ := hp
  exact h.other h2 hne hg
theorem RSheetO.mapS {b : Nat} {w w' : World} {p gs2 g2 : Nat} {W L2 : List Sty} (h : RSheetO b w p W) (hp : Sheet w gs2 g2 L2) (hg : w.grownBy w' (some g2)) : RSheetO b w' p W := by
  obtain ⟨_, M, ⟨es, cl, h2, _⟩, _⟩ := hp
  exact h.map h2 hg
theorem RSheetO.otherR {b : Nat} {w w' : World} {p p2 : Nat} {W W2 : List Sty} (h : RSheetO b w p W) (hp : RSheet w p2 W2) (hne : p ≠ p2) (hg : w.grownBy w' (some p2)) : RSheetO b w' p W := by
  obtain ⟨A, c, M, h1, _⟩ := hp
  exact h.other h1 hne hg
theorem sheet_putO {b : Nat} {w : World} {gs gm : Nat} {M : List Ent} {L : List Sty} {n p : ByteArray} {v : Value} {l : List S37} {o : Obj} (h1 : w.heap[gs]? = some (.cells #[.map (some gm)] 77 (0, 0))) (h2 : MapAt w gm M) (h3 : Reads w M L) (hv : Sl w v l)
    (h4 : MapAt { w with heap := w.heap.setIfInBounds gm o } gm (Sh.put M n p v)) (ho : OffM b M) (hov : OffV b v) : SheetO b { w with heap := w.heap.setIfInBounds gm o } gs gm (putL L n p l) := by
  have hne := gs_ne h1 h2
  obtain ⟨es, cl, hg, _⟩ := h2
  refine ⟨?_, _, h4, ?_, OffM.put hov ho⟩
  · show (w.heap.setIfInBounds gm o)[gs]? = _
    rw [Array.getElem?_setIfInBounds, if_neg hne]
    exact h1
  · exact (h3.put n p hv).imp (fun _ _ h => h.put hg o)
set_option maxHeartbeats 4000000 in
set_option maxRecDepth 100000 in
theorem clone_callsO (v : Value) (l : List S37) (w : World) (h : Sl w v l) (hl : l.length ≤ 64) :
    Calls Try.prog 44 #[v] w fun e w' => ∃ v', e = .returned v' ∧ Sl w' v' l ∧ Fr w.heap.size v' ∧ Below w.heap.size w w' := by
  obtain ⟨A, c, rfl, hc, hr⟩ := h
  have hu43 := Try.underlying43
  have hu37 := Try.underlying37
  have HR := Aside0.mk hr
  have HC := Aside0.mk hc
  have HL := Aside0.mk hl
  clear hr hc hl
  cases A with
  | none =>
    have hq : ∀ w : World, (binOp .eql 43 (.slice none l.length c) (.slice none 0 0)).run Try.prog w = .ok (.bool true) w := eq_nil43 none l.length c
    go_enter Try.func44, Try.ntmps44
    go_wp2
    go_ret
    have e : l = [] := by
      cases l with
      | nil => rfl
      | cons a l => obtain ⟨ad, h, _⟩ := HR.out.2.2 (by simp); cases h
    subst e
    exact ⟨_, rfl, ⟨none, 0, rfl, Nat.le_refl _, Kd.C_nil _ _⟩, Fr.none _ _ _, Below.refl _ _⟩
  | some ad =>
    have hq : ∀ w : World, (binOp .eql 43 (.slice (some ad) l.length c) (.slice none 0 0)).run Try.prog w = .ok (.bool false) w := eq_nil43 (some ad) l.length c
    go_enter Try.func44, Try.ntmps44
    have HO0 : Aside0 (Kd.R k37 37 (w.alloc (.cells #[] 37)) w.heap.size (fun _ => True) (.slice (some ⟨w.heap.size, 0, none⟩) 0 0) []) := ⟨⟨fun _ _ => trivial, [], World.ownsRow_made w #[] 0 (Nat.le_refl _) (Nat.zero_le _) rfl, Reps.none _ _⟩⟩
    go_wp2_with (first | (at_builtin; refine Kd.R_append_rows k37 (w0 := w) (Rr := fun x cs => cs = [.int .i64 x.f0, .int .i64 x.f1]) w.heap.size rfl (.tmp 5) (.tmp 6) 43 37 (.agg #[(.int .i64 0), (.int .i64 0)]) 16 rfl Try.underlying43 info37 rfl (by decide) (by omega) (.slice (some ⟨w.heap.size, 0, none⟩) 0 0) [] l (some ad) l.length c (fun _ => True) (fun _ => False) rfl rfl HO0.out ?aR ?aK (fun _ hk => hk.elim) (fun _ _ => trivial) (below_alloc (Below.refl _ _) _) ?aB ?aL ?_; (case aR => exact Kd.C_below HR.out (below_alloc (Below.refl _ _) _) |>.imp_ (Below.refl _ _) (fun _ _ hp => k37_open hp)); (case aK => (intro x cs hx; subst hx; exact k37_mkM _ _ _ x)); (case aB => simp); (case aL => (have := HL.out; simp only [List.length_nil]; omega)); intro v1 w1 ho1 hb1 hg1 hat1; have HO1 := Aside0.mk ho1; have HB1 := Aside0.mk hb1; clear ho1 hb1 hg1 hat1))
    go_ret
    obtain ⟨A', c', e', hc', hr'⟩ := Kd.R_reads HO1.out
    exact ⟨_, rfl, ⟨A', c', e', hc', hr'⟩, Fr.R HO1.out, HB1.out⟩
set_option maxHeartbeats 4000000 in
set_option maxRecDepth 100000 in
theorem define_there0O (b : Nat) (gs gm : Nat) (L : List Sty) (n p : ByteArray) (v : Value) (l : List S37) (w : World) (hb0 : b < w.heap.size) (hs : SheetO b w gs gm L) (hv : Sl w v l) (kn : Nat) (hn : PStyleNearest.style_name.f kn n = some true) (ks k : Nat) (he : PStyleNearest.style_settings.f ks l = some 0) (hab : aboveG (upL L) n k p = some false) (ht : (fnd L n).isSome = true) (hp : p = ⟨#[]⟩) :
    Calls Try.prog 23 #[.pointer (some ⟨gs, 0, none⟩), .string n, .string p, v] w fun x w' => x = .returned (.int .i64 0) ∧ SheetO b w' gs gm (putL L n p l) ∧ w.grownBy w' (some gm) := by
  have hu := Try.underlying77
  have hu5 := Try.underlying75
  have hu8 := Try.underlying85
  have hu37 := Try.underlying37
  have HS := Aside0.mk hs.sheet
  obtain ⟨h1, M, hm, hrd, hoff⟩ := hs
  have HOff := Aside0.mk hoff
  have HB0 := Aside0.mk hb0
  clear hoff hb0
  obtain ⟨r1, r2, r3, r4⟩ := reads_all p hrd
  obtain ⟨q1, q2, q3, _⟩ := reads_all n hrd
  obtain ⟨A, c, e1, e2, e3⟩ := r2
  generalize hm0 : (setsL L p).length = m at e1 e2 e3
  obtain ⟨An, cn, f1, f2, f3⟩ := q2
  generalize hm1 : (setsL L n).length = mn at f1 f2 f3
  obtain ⟨pp, hpp⟩ : ∃ pp, pp = upL L p := ⟨_, rfl⟩
  obtain ⟨pn, hpn⟩ : ∃ pn, pn = upL L n := ⟨_, rfl⟩
  rw [← hpp] at r1
  rw [← hpn] at q1
  have HM := Aside0.mk hm
  have H1 := Aside0.mk h1
  have HRd := Aside0.mk hrd
  obtain ⟨tp, htp⟩ : ∃ tp, tp = (fnd L p).isSome := ⟨_, rfl⟩
  obtain ⟨tn, htn⟩ : ∃ tn, tn = (fnd L n).isSome := ⟨_, rfl⟩
  rw [← htp] at r3
  rw [← htn] at q3
  have HLp : Aside0 (∀ w', MapAt w' gm M → (Instr.lookup 75 (.map (some gm)) (.string p) true).run Try.prog w' = .ok (.tuple #[.agg #[.string pp, .slice A m c], .bool tp]) w') := ⟨fun w' hw' => by rw [look2 hw', r1, e1, r3]⟩
  have HLn : Aside0 (∀ w', MapAt w' gm M → (Instr.lookup 75 (.map (some gm)) (.string n) true).run Try.prog w' = .ok (.tuple #[.agg #[.string pn, .slice An mn cn], .bool tn]) w') := ⟨fun w' hw' => by rw [look2 hw', q1, f1, q3]⟩
  have HLen : Aside0 (∀ w', MapAt w' gm M → (Builtin.len_ #[75] 3 #[.map (some gm)]).run Try.prog w' = .ok (.int .i64 L.length) w') := ⟨fun w' hw' => by rw [← r4]; exact run_len hw'⟩
  clear h1 hm hrd r1 r3 r4 q1 q3 e1 e2 e3 f1 f2 f3 hpp hpn hm0 hm1
  obtain ⟨A0, c0, rfl, z2, z3⟩ := id hv
  clear z2 z3
  have HOwn := Aside0.mk hv
  clear hv
  have hl64 : l.length ≤ 64 := settings_len he
  have HCl : Aside0 (∀ w', Sl w' (.slice A0 l.length c0) l → Calls Try.prog 44 #[.slice A0 l.length c0] w' fun x w'' => ∃ v', x = .returned v' ∧ Sl w'' v' l ∧ Fr w'.heap.size v' ∧ Below w'.heap.size w' w'') := ⟨fun w' h => clone_callsO _ l w' h hl64⟩
  clear hl64
  have HSet : Aside0 (∀ w', Sl w' (.slice A0 l.length c0) l → Calls Try.prog 42 #[.slice A0 l.length c0] w' fun x w'' => x = .returned (.int .i64 0) ∧ Below w'.heap.size w' w'') := ⟨fun w' h => settings_calls ks _ l _ w' h he⟩
  have HAb : Aside0 (∀ w', Sheet w' gs gm L → Calls Try.prog 43 #[.pointer (some ⟨gs, 0, none⟩), .string n, .string p] w' fun x w'' => x = .returned (.bool false) ∧ w'' = w') := ⟨fun w' h => above_callsL gs gm L k n p false w' h hab⟩
  clear hab he
  rw [ht] at htn
  subst htn
  clear ht
  have HN : Aside0 (∀ w', Calls Try.prog 41 #[.string n] w' fun x w'' => x = .returned (.bool true) ∧ Below w'.heap.size w' w'') := ⟨fun w' => name_calls kn n true w' hn⟩
  clear hn
  clear htp
  subst hp
  go_enter Try.func23, Try.ntmps23
  go_upto_region 6 with (first | (go_at_call 40; refine (none_calls gs gm _ H1.out).mono ?_; rintro x w7 ⟨rfl, hw⟩; rw [hw]; clear hw) | (go_at_call 41; refine (HN.out _).mono ?_; rintro x w8 ⟨rfl, hb⟩; have HB := Aside0.mk hb; have e0 := (blk_cell (blk_below H1.out hb) 0).trans rfl; have hlk := HLp.out w8 (HM.out.below hb); clear hb))
  have HB2 : Aside0 (Below w.heap.size w (w8.alloc (.cells #[.string pp, .slice A m c] 85))) := ⟨below_alloc HB.out _⟩
  clear HB e0 hlk
  have HB := HB2
  clear HB2
  generalize w8.alloc (.cells #[.string pp, .slice A m c] 85) = w9 at HB ⊢
  generalize w8.heap.size = g9
  go_upto_region 14 with (first | (go_at_call 42; refine (HSet.out _ (HOwn.out.below HB.out)).mono ?_; rintro x w10 ⟨rfl, hb⟩; have HBn := Aside0.mk (below_step HB.out hb); clear HB hb; have HB := HBn; clear HBn) | (go_at_call 43; refine (HAb.out _ (HS.out.below HB.out)).mono ?_; rintro x w11 ⟨rfl, hw⟩; rw [hw]; clear hw; have e0 := (blk_cell (blk_below H1.out HB.out) 0).trans rfl; have hlk := HLn.out _ (HM.out.below HB.out)))
  have HB2 : Aside0 (Below w.heap.size w (w10.alloc (.cells #[.string pn, .slice An mn cn] 85))) := ⟨below_alloc HB.out _⟩
  clear HB e0 hlk
  have HB := HB2
  clear HB2
  generalize w10.alloc (.cells #[.string pn, .slice An mn cn] 85) = w12 at HB ⊢
  generalize w10.heap.size = g12
  have e0 := (blk_cell (blk_below H1.out HB.out) 0).trans rfl
  have hle := HLen.out _ (HM.out.below HB.out)
  go_upto_region 16 with fail
  clear hle
  go_wp2
  refine start_ (n := 10) (S := fun w' => w'.cell? ⟨gs, 0, none⟩ = some (.map (some gm)) ∧ Below w.heap.size w w') (ds := [9]) #[false, false, false, false, false, false, false, false, false, false] (by kernel_rfl) rfl rfl ⟨(blk_cell (blk_below H1.out (below_drew1 HB.out)) 0).trans rfl, below_drew1 HB.out⟩ (fun hHeld => ?_)
  refine pure_ (i := 0) (N := some 64) (v := ?_) (a' := ?_) #[true, false, false, false, false, false, false, false, false, false] rfl rfl (by kernel_rfl) (fun _ _ _ h => h) (Or.inl ⟨by rfl, ?_⟩) ?_ ?_
  rotate_left
  · intro w'
    go_simp
    with_reducible rfl
  rotate_left
  · simp only [Act.put, List.setIfInBounds_toArray, List.set_cons_zero, List.set_cons_succ, i64_w, i32_w]
    rfl
  refine pure_ (i := 1) (N := some 65) (v := ?_) (a' := ?_) #[true, true, false, false, false, false, false, false, false, false] rfl rfl (by kernel_rfl) (fun _ _ _ h => h) (Or.inl ⟨by rfl, ?_⟩) ?_ ?_
  rotate_left
  · intro w'
    go_simp
    with_reducible rfl
  rotate_left
  · simp only [Act.put, List.setIfInBounds_toArray, List.set_cons_zero, List.set_cons_succ, i64_w, i32_w]
    rfl
  refine pure_ (i := 2) (N := some 66) (v := ?_) (a' := ?_) #[true, true, true, false, false, false, false, false, false, false] rfl rfl (by kernel_rfl) (fun _ _ _ h => h) (Or.inl ⟨by rfl, ?_⟩) ?_ ?_
  rotate_left
  · intro w'
    go_simp
    with_reducible rfl
  rotate_left
  · simp only [Act.put, List.setIfInBounds_toArray, List.set_cons_zero, List.set_cons_succ, i64_w, i32_w]
    rfl
  refine pure_ (i := 4) (N := some 68) (v := ?_) (a' := ?_) #[true, true, true, false, true, false, false, false, false, false] rfl rfl (by kernel_rfl) (fun _ _ _ h => h) (Or.inl ⟨by rfl, ?_⟩) ?_ ?_
  rotate_left
  · intro w'
    go_simp
    with_reducible rfl
  rotate_left
  · simp only [Act.put, List.setIfInBounds_toArray, List.set_cons_zero, List.set_cons_succ, i64_w, i32_w]
    rfl
  refine pure_ (i := 5) (N := some 69) (v := ?_) (a' := ?_) #[true, true, true, false, true, true, false, false, false, false] rfl rfl (by kernel_rfl) (fun _ _ _ h => h) (Or.inl ⟨by rfl, ?_⟩) ?_ ?_
  rotate_left
  · intro w'
    go_simp
    with_reducible rfl
  rotate_left
  · simp only [Act.put, List.setIfInBounds_toArray, List.set_cons_zero, List.set_cons_succ, i64_w, i32_w]
    rfl
  refine pure_ (i := 6) (N := some 70) (v := ?_) (a' := ?_) #[true, true, true, false, true, true, true, false, false, false] rfl rfl (by kernel_rfl) (fun _ _ _ h => h) (Or.inl ⟨by rfl, ?_⟩) ?_ ?_
  rotate_left
  · intro w'
    go_simp
    with_reducible rfl
  rotate_left
  · simp only [Act.put, List.setIfInBounds_toArray, List.set_cons_zero, List.set_cons_succ, i64_w, i32_w]
    rfl
  refine take_ (i := 3) (N := some 67) (v := ?_) (a' := ?_) #[true, true, true, true, true, true, true, false, false, false] rfl rfl (by kernel_rfl) (fun _ _ _ h => h) (Or.inl ⟨by rfl, ?_⟩) hHeld ?_ ?_
  rotate_left
  · rintro w' ⟨s0, s1⟩
    go_simp
    with_reducible rfl
  rotate_left
  · simp only [Act.put, List.setIfInBounds_toArray, List.set_cons_zero, List.set_cons_succ, i64_w, i32_w]
    rfl
  refine one_ (i := 7) (N := some 71) #[true, true, true, true, true, true, true, true, false, false] rfl rfl (by kernel_rfl) (by decide) (fun K hK => ?_)
  refine goes_ Try.func44 (by kernel_rfl) rfl #[.slice A0 l.length c0] (by rfl) rfl rfl (by (simp only [List.map_toArray, List.map_cons, List.map_nil]); first | done | rfl) ?_
  with_reducible refine (HCl.out _ (HOwn.out.below hHeld.2)).mono ?_
  rintro x w13 ⟨v2, rfl, ⟨A2, c2, rfl, z2, z3⟩, zf, hb13⟩
  have HFv : Aside0 (OffV b (.slice A2 l.length c2)) := ⟨zf.off (Nat.lt_of_lt_of_le HB0.out (below_size hHeld.2))⟩
  clear zf
  refine ⟨_, rfl, ?_⟩
  refine hK.out _ _ ⟨(blk_cell (blk_below H1.out (below_step hHeld.2 hb13)) 0).trans rfl, below_step hHeld.2 hb13⟩ (fun hHeld => ?_)
  clear hK K
  refine norm_ (a' := ?_) ?_ ?_
  rotate_left
  · show Act.put _ (some 71) _ = _
    simp only [Act.put, List.setIfInBounds_toArray, List.set_cons_zero, List.set_cons_succ, i64_w, i32_w]
    rfl
  refine pure_ (i := 8) (N := some 72) (v := ?_) (a' := ?_) #[true, true, true, true, true, true, true, true, true, false] rfl rfl (by kernel_rfl) (fun _ _ _ h => h) (Or.inl ⟨by rfl, ?_⟩) ?_ ?_
  rotate_left
  · intro w'
    go_simp
    with_reducible rfl
  rotate_left
  · simp only [Act.put, List.setIfInBounds_toArray, List.set_cons_zero, List.set_cons_succ, i64_w, i32_w]
    rfl
  refine last_ (i := 9) (N := none) #[true, true, true, true, true, true, true, true, true, true] rfl rfl (by kernel_rfl) (by decide) (fun K hK => ?_)
  obtain ⟨o, hup, hat⟩ := run_update (HM.out.below hHeld.2) n ⟨#[]⟩ (.slice A2 l.length c2)
  have HAt := Aside0.mk hat
  have HBz := Aside0.mk hHeld.2
  have HSlz : Aside0 (Sl _ (.slice A2 l.length c2) l) := ⟨⟨A2, c2, rfl, z2, z3⟩⟩
  clear hat z2 z3
  refine skip_ (w1 := ?_) (by rfl) rfl ?_ ?_
  rotate_left
  · go_simp
    rfl
  refine hK.out _ _ ?_
  clear hK K
  refine done_ (by kernel_rfl) ?_
  clear hHeld
  have HG := Aside0.mk (grown_put (gm := gm) HBz.out o)
  have HSh := Aside0.mk (sheet_putO (blk_below H1.out HBz.out) (HM.out.below HBz.out) (HRd.out.imp (fun _ _ h => h.below HBz.out)) HSlz.out HAt.out HOff.out HFv.out)
  go_wp2
  go_ret
  exact ⟨rfl, HSh.out, HG.out⟩
set_option maxHeartbeats 4000000 in
set_option maxRecDepth 100000 in
theorem define_there1O (b : Nat) (gs gm : Nat) (L : List Sty) (n p : ByteArray) (v : Value) (l : List S37) (w : World) (hb0 : b < w.heap.size) (hs : SheetO b w gs gm L) (hv : Sl w v l) (kn : Nat) (hn : PStyleNearest.style_name.f kn n = some true) (ks k : Nat) (he : PStyleNearest.style_settings.f ks l = some 0) (hab : aboveG (upL L) n k p = some false) (ht : (fnd L n).isSome = true) (hp : p ≠ ⟨#[]⟩) (hf : (fnd L p).isSome = true) :
    Calls Try.prog 23 #[.pointer (some ⟨gs, 0, none⟩), .string n, .string p, v] w fun x w' => x = .returned (.int .i64 0) ∧ SheetO b w' gs gm (putL L n p l) ∧ w.grownBy w' (some gm) := by
  have hu := Try.underlying77
  have hu5 := Try.underlying75
  have hu8 := Try.underlying85
  have hu37 := Try.underlying37
  have HS := Aside0.mk hs.sheet
  obtain ⟨h1, M, hm, hrd, hoff⟩ := hs
  have HOff := Aside0.mk hoff
  have HB0 := Aside0.mk hb0
  clear hoff hb0
  obtain ⟨r1, r2, r3, r4⟩ := reads_all p hrd
  obtain ⟨q1, q2, q3, _⟩ := reads_all n hrd
  obtain ⟨A, c, e1, e2, e3⟩ := r2
  generalize hm0 : (setsL L p).length = m at e1 e2 e3
  obtain ⟨An, cn, f1, f2, f3⟩ := q2
  generalize hm1 : (setsL L n).length = mn at f1 f2 f3
  obtain ⟨pp, hpp⟩ : ∃ pp, pp = upL L p := ⟨_, rfl⟩
  obtain ⟨pn, hpn⟩ : ∃ pn, pn = upL L n := ⟨_, rfl⟩
  rw [← hpp] at r1
  rw [← hpn] at q1
  have HM := Aside0.mk hm
  have H1 := Aside0.mk h1
  have HRd := Aside0.mk hrd
  obtain ⟨tp, htp⟩ : ∃ tp, tp = (fnd L p).isSome := ⟨_, rfl⟩
  obtain ⟨tn, htn⟩ : ∃ tn, tn = (fnd L n).isSome := ⟨_, rfl⟩
  rw [← htp] at r3
  rw [← htn] at q3
  have HLp : Aside0 (∀ w', MapAt w' gm M → (Instr.lookup 75 (.map (some gm)) (.string p) true).run Try.prog w' = .ok (.tuple #[.agg #[.string pp, .slice A m c], .bool tp]) w') := ⟨fun w' hw' => by rw [look2 hw', r1, e1, r3]⟩
  have HLn : Aside0 (∀ w', MapAt w' gm M → (Instr.lookup 75 (.map (some gm)) (.string n) true).run Try.prog w' = .ok (.tuple #[.agg #[.string pn, .slice An mn cn], .bool tn]) w') := ⟨fun w' hw' => by rw [look2 hw', q1, f1, q3]⟩
  have HLen : Aside0 (∀ w', MapAt w' gm M → (Builtin.len_ #[75] 3 #[.map (some gm)]).run Try.prog w' = .ok (.int .i64 L.length) w') := ⟨fun w' hw' => by rw [← r4]; exact run_len hw'⟩
  clear h1 hm hrd r1 r3 r4 q1 q3 e1 e2 e3 f1 f2 f3 hpp hpn hm0 hm1
  obtain ⟨A0, c0, rfl, z2, z3⟩ := id hv
  clear z2 z3
  have HOwn := Aside0.mk hv
  clear hv
  have hl64 : l.length ≤ 64 := settings_len he
  have HCl : Aside0 (∀ w', Sl w' (.slice A0 l.length c0) l → Calls Try.prog 44 #[.slice A0 l.length c0] w' fun x w'' => ∃ v', x = .returned v' ∧ Sl w'' v' l ∧ Fr w'.heap.size v' ∧ Below w'.heap.size w' w'') := ⟨fun w' h => clone_callsO _ l w' h hl64⟩
  clear hl64
  have HSet : Aside0 (∀ w', Sl w' (.slice A0 l.length c0) l → Calls Try.prog 42 #[.slice A0 l.length c0] w' fun x w'' => x = .returned (.int .i64 0) ∧ Below w'.heap.size w' w'') := ⟨fun w' h => settings_calls ks _ l _ w' h he⟩
  have HAb : Aside0 (∀ w', Sheet w' gs gm L → Calls Try.prog 43 #[.pointer (some ⟨gs, 0, none⟩), .string n, .string p] w' fun x w'' => x = .returned (.bool false) ∧ w'' = w') := ⟨fun w' h => above_callsL gs gm L k n p false w' h hab⟩
  clear hab he
  rw [ht] at htn
  subst htn
  clear ht
  have HN : Aside0 (∀ w', Calls Try.prog 41 #[.string n] w' fun x w'' => x = .returned (.bool true) ∧ Below w'.heap.size w' w'') := ⟨fun w' => name_calls kn n true w' hn⟩
  clear hn
  rw [hf] at htp
  subst htp
  clear hf
  have c1 := list_ne hp
  go_enter Try.func23, Try.ntmps23
  go_upto_region 6 with (first | (go_at_call 40; refine (none_calls gs gm _ H1.out).mono ?_; rintro x w7 ⟨rfl, hw⟩; rw [hw]; clear hw) | (go_at_call 41; refine (HN.out _).mono ?_; rintro x w8 ⟨rfl, hb⟩; have HB := Aside0.mk hb; have e0 := (blk_cell (blk_below H1.out hb) 0).trans rfl; have hlk := HLp.out w8 (HM.out.below hb); clear hb))
  have HB2 : Aside0 (Below w.heap.size w (w8.alloc (.cells #[.string pp, .slice A m c] 85))) := ⟨below_alloc HB.out _⟩
  clear HB e0 hlk
  have HB := HB2
  clear HB2
  generalize w8.alloc (.cells #[.string pp, .slice A m c] 85) = w9 at HB ⊢
  generalize w8.heap.size = g9
  go_upto_region 14 with (first | (go_at_call 42; refine (HSet.out _ (HOwn.out.below HB.out)).mono ?_; rintro x w10 ⟨rfl, hb⟩; have HBn := Aside0.mk (below_step HB.out hb); clear HB hb; have HB := HBn; clear HBn) | (go_at_call 43; refine (HAb.out _ (HS.out.below HB.out)).mono ?_; rintro x w11 ⟨rfl, hw⟩; rw [hw]; clear hw; have e0 := (blk_cell (blk_below H1.out HB.out) 0).trans rfl; have hlk := HLn.out _ (HM.out.below HB.out)))
  have HB2 : Aside0 (Below w.heap.size w (w10.alloc (.cells #[.string pn, .slice An mn cn] 85))) := ⟨below_alloc HB.out _⟩
  clear HB e0 hlk
  have HB := HB2
  clear HB2
  generalize w10.alloc (.cells #[.string pn, .slice An mn cn] 85) = w12 at HB ⊢
  generalize w10.heap.size = g12
  have e0 := (blk_cell (blk_below H1.out HB.out) 0).trans rfl
  have hle := HLen.out _ (HM.out.below HB.out)
  go_upto_region 16 with fail
  clear hle
  go_wp2
  refine start_ (n := 10) (S := fun w' => w'.cell? ⟨gs, 0, none⟩ = some (.map (some gm)) ∧ Below w.heap.size w w') (ds := [9]) #[false, false, false, false, false, false, false, false, false, false] (by kernel_rfl) rfl rfl ⟨(blk_cell (blk_below H1.out (below_drew1 HB.out)) 0).trans rfl, below_drew1 HB.out⟩ (fun hHeld => ?_)
  refine pure_ (i := 0) (N := some 64) (v := ?_) (a' := ?_) #[true, false, false, false, false, false, false, false, false, false] rfl rfl (by kernel_rfl) (fun _ _ _ h => h) (Or.inl ⟨by rfl, ?_⟩) ?_ ?_
  rotate_left
  · intro w'
    go_simp
    with_reducible rfl
  rotate_left
  · simp only [Act.put, List.setIfInBounds_toArray, List.set_cons_zero, List.set_cons_succ, i64_w, i32_w]
    rfl
  refine pure_ (i := 1) (N := some 65) (v := ?_) (a' := ?_) #[true, true, false, false, false, false, false, false, false, false] rfl rfl (by kernel_rfl) (fun _ _ _ h => h) (Or.inl ⟨by rfl, ?_⟩) ?_ ?_
  rotate_left
  · intro w'
    go_simp
    with_reducible rfl
  rotate_left
  · simp only [Act.put, List.setIfInBounds_toArray, List.set_cons_zero, List.set_cons_succ, i64_w, i32_w]
    rfl
  refine pure_ (i := 2) (N := some 66) (v := ?_) (a' := ?_) #[true, true, true, false, false, false, false, false, false, false] rfl rfl (by kernel_rfl) (fun _ _ _ h => h) (Or.inl ⟨by rfl, ?_⟩) ?_ ?_
  rotate_left
  · intro w'
    go_simp
    with_reducible rfl
  rotate_left
  · simp only [Act.put, List.setIfInBounds_toArray, List.set_cons_zero, List.set_cons_succ, i64_w, i32_w]
    rfl
  refine pure_ (i := 4) (N := some 68) (v := ?_) (a' := ?_) #[true, true, true, false, true, false, false, false, false, false] rfl rfl (by kernel_rfl) (fun _ _ _ h => h) (Or.inl ⟨by rfl, ?_⟩) ?_ ?_
  rotate_left
  · intro w'
    go_simp
    with_reducible rfl
  rotate_left
  · simp only [Act.put, List.setIfInBounds_toArray, List.set_cons_zero, List.set_cons_succ, i64_w, i32_w]
    rfl
  refine pure_ (i := 5) (N := some 69) (v := ?_) (a' := ?_) #[true, true, true, false, true, true, false, false, false, false] rfl rfl (by kernel_rfl) (fun _ _ _ h => h) (Or.inl ⟨by rfl, ?_⟩) ?_ ?_
  rotate_left
  · intro w'
    go_simp
    with_reducible rfl
  rotate_left
  · simp only [Act.put, List.setIfInBounds_toArray, List.set_cons_zero, List.set_cons_succ, i64_w, i32_w]
    rfl
  refine pure_ (i := 6) (N := some 70) (v := ?_) (a' := ?_) #[true, true, true, false, true, true, true, false, false, false] rfl rfl (by kernel_rfl) (fun _ _ _ h => h) (Or.inl ⟨by rfl, ?_⟩) ?_ ?_
  rotate_left
  · intro w'
    go_simp
    with_reducible rfl
  rotate_left
  · simp only [Act.put, List.setIfInBounds_toArray, List.set_cons_zero, List.set_cons_succ, i64_w, i32_w]
    rfl
  refine take_ (i := 3) (N := some 67) (v := ?_) (a' := ?_) #[true, true, true, true, true, true, true, false, false, false] rfl rfl (by kernel_rfl) (fun _ _ _ h => h) (Or.inl ⟨by rfl, ?_⟩) hHeld ?_ ?_
  rotate_left
  · rintro w' ⟨s0, s1⟩
    go_simp
    with_reducible rfl
  rotate_left
  · simp only [Act.put, List.setIfInBounds_toArray, List.set_cons_zero, List.set_cons_succ, i64_w, i32_w]
    rfl
  refine one_ (i := 7) (N := some 71) #[true, true, true, true, true, true, true, true, false, false] rfl rfl (by kernel_rfl) (by decide) (fun K hK => ?_)
  refine goes_ Try.func44 (by kernel_rfl) rfl #[.slice A0 l.length c0] (by rfl) rfl rfl (by (simp only [List.map_toArray, List.map_cons, List.map_nil]); first | done | rfl) ?_
  with_reducible refine (HCl.out _ (HOwn.out.below hHeld.2)).mono ?_
  rintro x w13 ⟨v2, rfl, ⟨A2, c2, rfl, z2, z3⟩, zf, hb13⟩
  have HFv : Aside0 (OffV b (.slice A2 l.length c2)) := ⟨zf.off (Nat.lt_of_lt_of_le HB0.out (below_size hHeld.2))⟩
  clear zf
  refine ⟨_, rfl, ?_⟩
  refine hK.out _ _ ⟨(blk_cell (blk_below H1.out (below_step hHeld.2 hb13)) 0).trans rfl, below_step hHeld.2 hb13⟩ (fun hHeld => ?_)
  clear hK K
  refine norm_ (a' := ?_) ?_ ?_
  rotate_left
  · show Act.put _ (some 71) _ = _
    simp only [Act.put, List.setIfInBounds_toArray, List.set_cons_zero, List.set_cons_succ, i64_w, i32_w]
    rfl
  refine pure_ (i := 8) (N := some 72) (v := ?_) (a' := ?_) #[true, true, true, true, true, true, true, true, true, false] rfl rfl (by kernel_rfl) (fun _ _ _ h => h) (Or.inl ⟨by rfl, ?_⟩) ?_ ?_
  rotate_left
  · intro w'
    go_simp
    with_reducible rfl
  rotate_left
  · simp only [Act.put, List.setIfInBounds_toArray, List.set_cons_zero, List.set_cons_succ, i64_w, i32_w]
    rfl
  refine last_ (i := 9) (N := none) #[true, true, true, true, true, true, true, true, true, true] rfl rfl (by kernel_rfl) (by decide) (fun K hK => ?_)
  obtain ⟨o, hup, hat⟩ := run_update (HM.out.below hHeld.2) n p (.slice A2 l.length c2)
  have HAt := Aside0.mk hat
  have HBz := Aside0.mk hHeld.2
  have HSlz : Aside0 (Sl _ (.slice A2 l.length c2) l) := ⟨⟨A2, c2, rfl, z2, z3⟩⟩
  clear hat z2 z3
  refine skip_ (w1 := ?_) (by rfl) rfl ?_ ?_
  rotate_left
  · go_simp
    rfl
  refine hK.out _ _ ?_
  clear hK K
  refine done_ (by kernel_rfl) ?_
  clear hHeld
  have HG := Aside0.mk (grown_put (gm := gm) HBz.out o)
  have HSh := Aside0.mk (sheet_putO (blk_below H1.out HBz.out) (HM.out.below HBz.out) (HRd.out.imp (fun _ _ h => h.below HBz.out)) HSlz.out HAt.out HOff.out HFv.out)
  go_wp2
  go_ret
  exact ⟨rfl, HSh.out, HG.out⟩
set_option maxHeartbeats 4000000 in
set_option maxRecDepth 100000 in
theorem define_new0O (b : Nat) (gs gm : Nat) (L : List Sty) (n p : ByteArray) (v : Value) (l : List S37) (w : World) (hb0 : b < w.heap.size) (hs : SheetO b w gs gm L) (hv : Sl w v l) (kn : Nat) (hn : PStyleNearest.style_name.f kn n = some true) (ks k : Nat) (he : PStyleNearest.style_settings.f ks l = some 0) (hab : aboveG (upL L) n k p = some false) (ht : fnd L n = none) (hlen : L.length < 32) (hp : p = ⟨#[]⟩) :
    Calls Try.prog 23 #[.pointer (some ⟨gs, 0, none⟩), .string n, .string p, v] w fun x w' => x = .returned (.int .i64 0) ∧ SheetO b w' gs gm (putL L n p l) ∧ w.grownBy w' (some gm) := by
  have hu := Try.underlying77
  have hu5 := Try.underlying75
  have hu8 := Try.underlying85
  have hu37 := Try.underlying37
  have HS := Aside0.mk hs.sheet
  obtain ⟨h1, M, hm, hrd, hoff⟩ := hs
  have HOff := Aside0.mk hoff
  have HB0 := Aside0.mk hb0
  clear hoff hb0
  obtain ⟨r1, r2, r3, r4⟩ := reads_all p hrd
  obtain ⟨q1, q2, q3, _⟩ := reads_all n hrd
  obtain ⟨A, c, e1, e2, e3⟩ := r2
  generalize hm0 : (setsL L p).length = m at e1 e2 e3
  obtain ⟨An, cn, f1, f2, f3⟩ := q2
  generalize hm1 : (setsL L n).length = mn at f1 f2 f3
  obtain ⟨pp, hpp⟩ : ∃ pp, pp = upL L p := ⟨_, rfl⟩
  obtain ⟨pn, hpn⟩ : ∃ pn, pn = upL L n := ⟨_, rfl⟩
  rw [← hpp] at r1
  rw [← hpn] at q1
  have HM := Aside0.mk hm
  have H1 := Aside0.mk h1
  have HRd := Aside0.mk hrd
  obtain ⟨tp, htp⟩ : ∃ tp, tp = (fnd L p).isSome := ⟨_, rfl⟩
  obtain ⟨tn, htn⟩ : ∃ tn, tn = (fnd L n).isSome := ⟨_, rfl⟩
  rw [← htp] at r3
  rw [← htn] at q3
  have HLp : Aside0 (∀ w', MapAt w' gm M → (Instr.lookup 75 (.map (some gm)) (.string p) true).run Try.prog w' = .ok (.tuple #[.agg #[.string pp, .slice A m c], .bool tp]) w') := ⟨fun w' hw' => by rw [look2 hw', r1, e1, r3]⟩
  have HLn : Aside0 (∀ w', MapAt w' gm M → (Instr.lookup 75 (.map (some gm)) (.string n) true).run Try.prog w' = .ok (.tuple #[.agg #[.string pn, .slice An mn cn], .bool tn]) w') := ⟨fun w' hw' => by rw [look2 hw', q1, f1, q3]⟩
  have HLen : Aside0 (∀ w', MapAt w' gm M → (Builtin.len_ #[75] 3 #[.map (some gm)]).run Try.prog w' = .ok (.int .i64 L.length) w') := ⟨fun w' hw' => by rw [← r4]; exact run_len hw'⟩
  clear h1 hm hrd r1 r3 r4 q1 q3 e1 e2 e3 f1 f2 f3 hpp hpn hm0 hm1
  obtain ⟨A0, c0, rfl, z2, z3⟩ := id hv
  clear z2 z3
  have HOwn := Aside0.mk hv
  clear hv
  have hl64 : l.length ≤ 64 := settings_len he
  have HCl : Aside0 (∀ w', Sl w' (.slice A0 l.length c0) l → Calls Try.prog 44 #[.slice A0 l.length c0] w' fun x w'' => ∃ v', x = .returned v' ∧ Sl w'' v' l ∧ Fr w'.heap.size v' ∧ Below w'.heap.size w' w'') := ⟨fun w' h => clone_callsO _ l w' h hl64⟩
  clear hl64
  have HSet : Aside0 (∀ w', Sl w' (.slice A0 l.length c0) l → Calls Try.prog 42 #[.slice A0 l.length c0] w' fun x w'' => x = .returned (.int .i64 0) ∧ Below w'.heap.size w' w'') := ⟨fun w' h => settings_calls ks _ l _ w' h he⟩
  have HAb : Aside0 (∀ w', Sheet w' gs gm L → Calls Try.prog 43 #[.pointer (some ⟨gs, 0, none⟩), .string n, .string p] w' fun x w'' => x = .returned (.bool false) ∧ w'' = w') := ⟨fun w' h => above_callsL gs gm L k n p false w' h hab⟩
  clear hab he
  rw [ht] at htn
  simp only [Option.isSome_none] at htn
  subst htn
  clear ht
  have cl : decide ((32 : Int) ≤ (L.length : Int)) = false := decide_eq_false (by omega)
  have cl2 : decide (32 ≤ L.length) = false := decide_eq_false (by omega)
  clear hlen
  have HN : Aside0 (∀ w', Calls Try.prog 41 #[.string n] w' fun x w'' => x = .returned (.bool true) ∧ Below w'.heap.size w' w'') := ⟨fun w' => name_calls kn n true w' hn⟩
  clear hn
  clear htp
  subst hp
  go_enter Try.func23, Try.ntmps23
  go_upto_region 6 with (first | (go_at_call 40; refine (none_calls gs gm _ H1.out).mono ?_; rintro x w7 ⟨rfl, hw⟩; rw [hw]; clear hw) | (go_at_call 41; refine (HN.out _).mono ?_; rintro x w8 ⟨rfl, hb⟩; have HB := Aside0.mk hb; have e0 := (blk_cell (blk_below H1.out hb) 0).trans rfl; have hlk := HLp.out w8 (HM.out.below hb); clear hb))
  have HB2 : Aside0 (Below w.heap.size w (w8.alloc (.cells #[.string pp, .slice A m c] 85))) := ⟨below_alloc HB.out _⟩
  clear HB e0 hlk
  have HB := HB2
  clear HB2
  generalize w8.alloc (.cells #[.string pp, .slice A m c] 85) = w9 at HB ⊢
  generalize w8.heap.size = g9
  go_upto_region 14 with (first | (go_at_call 42; refine (HSet.out _ (HOwn.out.below HB.out)).mono ?_; rintro x w10 ⟨rfl, hb⟩; have HBn := Aside0.mk (below_step HB.out hb); clear HB hb; have HB := HBn; clear HBn) | (go_at_call 43; refine (HAb.out _ (HS.out.below HB.out)).mono ?_; rintro x w11 ⟨rfl, hw⟩; rw [hw]; clear hw; have e0 := (blk_cell (blk_below H1.out HB.out) 0).trans rfl; have hlk := HLn.out _ (HM.out.below HB.out)))
  have HB2 : Aside0 (Below w.heap.size w (w10.alloc (.cells #[.string pn, .slice An mn cn] 85))) := ⟨below_alloc HB.out _⟩
  clear HB e0 hlk
  have HB := HB2
  clear HB2
  generalize w10.alloc (.cells #[.string pn, .slice An mn cn] 85) = w12 at HB ⊢
  generalize w10.heap.size = g12
  have e0 := (blk_cell (blk_below H1.out HB.out) 0).trans rfl
  have hle := HLen.out _ (HM.out.below HB.out)
  go_upto_region 16 with fail
  clear hle
  go_wp2
  refine start_ (n := 10) (S := fun w' => w'.cell? ⟨gs, 0, none⟩ = some (.map (some gm)) ∧ Below w.heap.size w w') (ds := [9]) #[false, false, false, false, false, false, false, false, false, false] (by kernel_rfl) rfl rfl ⟨(blk_cell (blk_below H1.out (below_drew1 HB.out)) 0).trans rfl, below_drew1 HB.out⟩ (fun hHeld => ?_)
  refine pure_ (i := 0) (N := some 64) (v := ?_) (a' := ?_) #[true, false, false, false, false, false, false, false, false, false] rfl rfl (by kernel_rfl) (fun _ _ _ h => h) (Or.inl ⟨by rfl, ?_⟩) ?_ ?_
  rotate_left
  · intro w'
    go_simp
    with_reducible rfl
  rotate_left
  · simp only [Act.put, List.setIfInBounds_toArray, List.set_cons_zero, List.set_cons_succ, i64_w, i32_w]
    rfl
  refine pure_ (i := 1) (N := some 65) (v := ?_) (a' := ?_) #[true, true, false, false, false, false, false, false, false, false] rfl rfl (by kernel_rfl) (fun _ _ _ h => h) (Or.inl ⟨by rfl, ?_⟩) ?_ ?_
  rotate_left
  · intro w'
    go_simp
    with_reducible rfl
  rotate_left
  · simp only [Act.put, List.setIfInBounds_toArray, List.set_cons_zero, List.set_cons_succ, i64_w, i32_w]
    rfl
  refine pure_ (i := 2) (N := some 66) (v := ?_) (a' := ?_) #[true, true, true, false, false, false, false, false, false, false] rfl rfl (by kernel_rfl) (fun _ _ _ h => h) (Or.inl ⟨by rfl, ?_⟩) ?_ ?_
  rotate_left
  · intro w'
    go_simp
    with_reducible rfl
  rotate_left
  · simp only [Act.put, List.setIfInBounds_toArray, List.set_cons_zero, List.set_cons_succ, i64_w, i32_w]
    rfl
  refine pure_ (i := 4) (N := some 68) (v := ?_) (a' := ?_) #[true, true, true, false, true, false, false, false, false, false] rfl rfl (by kernel_rfl) (fun _ _ _ h => h) (Or.inl ⟨by rfl, ?_⟩) ?_ ?_
  rotate_left
  · intro w'
    go_simp
    with_reducible rfl
  rotate_left
  · simp only [Act.put, List.setIfInBounds_toArray, List.set_cons_zero, List.set_cons_succ, i64_w, i32_w]
    rfl
  refine pure_ (i := 5) (N := some 69) (v := ?_) (a' := ?_) #[true, true, true, false, true, true, false, false, false, false] rfl rfl (by kernel_rfl) (fun _ _ _ h => h) (Or.inl ⟨by rfl, ?_⟩) ?_ ?_
  rotate_left
  · intro w'
    go_simp
    with_reducible rfl
  rotate_left
  · simp only [Act.put, List.setIfInBounds_toArray, List.set_cons_zero, List.set_cons_succ, i64_w, i32_w]
    rfl
  refine pure_ (i := 6) (N := some 70) (v := ?_) (a' := ?_) #[true, true, true, false, true, true, true, false, false, false] rfl rfl (by kernel_rfl) (fun _ _ _ h => h) (Or.inl ⟨by rfl, ?_⟩) ?_ ?_
  rotate_left
  · intro w'
    go_simp
    with_reducible rfl
  rotate_left
  · simp only [Act.put, List.setIfInBounds_toArray, List.set_cons_zero, List.set_cons_succ, i64_w, i32_w]
    rfl
  refine take_ (i := 3) (N := some 67) (v := ?_) (a' := ?_) #[true, true, true, true, true, true, true, false, false, false] rfl rfl (by kernel_rfl) (fun _ _ _ h => h) (Or.inl ⟨by rfl, ?_⟩) hHeld ?_ ?_
  rotate_left
  · rintro w' ⟨s0, s1⟩
    go_simp
    with_reducible rfl
  rotate_left
  · simp only [Act.put, List.setIfInBounds_toArray, List.set_cons_zero, List.set_cons_succ, i64_w, i32_w]
    rfl
  refine one_ (i := 7) (N := some 71) #[true, true, true, true, true, true, true, true, false, false] rfl rfl (by kernel_rfl) (by decide) (fun K hK => ?_)
  refine goes_ Try.func44 (by kernel_rfl) rfl #[.slice A0 l.length c0] (by rfl) rfl rfl (by (simp only [List.map_toArray, List.map_cons, List.map_nil]); first | done | rfl) ?_
  with_reducible refine (HCl.out _ (HOwn.out.below hHeld.2)).mono ?_
  rintro x w13 ⟨v2, rfl, ⟨A2, c2, rfl, z2, z3⟩, zf, hb13⟩
  have HFv : Aside0 (OffV b (.slice A2 l.length c2)) := ⟨zf.off (Nat.lt_of_lt_of_le HB0.out (below_size hHeld.2))⟩
  clear zf
  refine ⟨_, rfl, ?_⟩
  refine hK.out _ _ ⟨(blk_cell (blk_below H1.out (below_step hHeld.2 hb13)) 0).trans rfl, below_step hHeld.2 hb13⟩ (fun hHeld => ?_)
  clear hK K
  refine norm_ (a' := ?_) ?_ ?_
  rotate_left
  · show Act.put _ (some 71) _ = _
    simp only [Act.put, List.setIfInBounds_toArray, List.set_cons_zero, List.set_cons_succ, i64_w, i32_w]
    rfl
  refine pure_ (i := 8) (N := some 72) (v := ?_) (a' := ?_) #[true, true, true, true, true, true, true, true, true, false] rfl rfl (by kernel_rfl) (fun _ _ _ h => h) (Or.inl ⟨by rfl, ?_⟩) ?_ ?_
  rotate_left
  · intro w'
    go_simp
    with_reducible rfl
  rotate_left
  · simp only [Act.put, List.setIfInBounds_toArray, List.set_cons_zero, List.set_cons_succ, i64_w, i32_w]
    rfl
  refine last_ (i := 9) (N := none) #[true, true, true, true, true, true, true, true, true, true] rfl rfl (by kernel_rfl) (by decide) (fun K hK => ?_)
  obtain ⟨o, hup, hat⟩ := run_update (HM.out.below hHeld.2) n ⟨#[]⟩ (.slice A2 l.length c2)
  have HAt := Aside0.mk hat
  have HBz := Aside0.mk hHeld.2
  have HSlz : Aside0 (Sl _ (.slice A2 l.length c2) l) := ⟨⟨A2, c2, rfl, z2, z3⟩⟩
  clear hat z2 z3
  refine skip_ (w1 := ?_) (by rfl) rfl ?_ ?_
  rotate_left
  · go_simp
    rfl
  refine hK.out _ _ ?_
  clear hK K
  refine done_ (by kernel_rfl) ?_
  clear hHeld
  have HG := Aside0.mk (grown_put (gm := gm) HBz.out o)
  have HSh := Aside0.mk (sheet_putO (blk_below H1.out HBz.out) (HM.out.below HBz.out) (HRd.out.imp (fun _ _ h => h.below HBz.out)) HSlz.out HAt.out HOff.out HFv.out)
  go_wp2
  go_ret
  exact ⟨rfl, HSh.out, HG.out⟩
set_option maxHeartbeats 4000000 in
set_option maxRecDepth 100000 in
theorem define_new1O (b : Nat) (gs gm : Nat) (L : List Sty) (n p : ByteArray) (v : Value) (l : List S37) (w : World) (hb0 : b < w.heap.size) (hs : SheetO b w gs gm L) (hv : Sl w v l) (kn : Nat) (hn : PStyleNearest.style_name.f kn n = some true) (ks k : Nat) (he : PStyleNearest.style_settings.f ks l = some 0) (hab : aboveG (upL L) n k p = some false) (ht : fnd L n = none) (hlen : L.length < 32) (hp : p ≠ ⟨#[]⟩) (hf : (fnd L p).isSome = true) :
    Calls Try.prog 23 #[.pointer (some ⟨gs, 0, none⟩), .string n, .string p, v] w fun x w' => x = .returned (.int .i64 0) ∧ SheetO b w' gs gm (putL L n p l) ∧ w.grownBy w' (some gm) := by
  have hu := Try.underlying77
  have hu5 := Try.underlying75
  have hu8 := Try.underlying85
  have hu37 := Try.underlying37
  have HS := Aside0.mk hs.sheet
  obtain ⟨h1, M, hm, hrd, hoff⟩ := hs
  have HOff := Aside0.mk hoff
  have HB0 := Aside0.mk hb0
  clear hoff hb0
  obtain ⟨r1, r2, r3, r4⟩ := reads_all p hrd
  obtain ⟨q1, q2, q3, _⟩ := reads_all n hrd
  obtain ⟨A, c, e1, e2, e3⟩ := r2
  generalize hm0 : (setsL L p).length = m at e1 e2 e3
  obtain ⟨An, cn, f1, f2, f3⟩ := q2
  generalize hm1 : (setsL L n).length = mn at f1 f2 f3
  obtain ⟨pp, hpp⟩ : ∃ pp, pp = upL L p := ⟨_, rfl⟩
  obtain ⟨pn, hpn⟩ : ∃ pn, pn = upL L n := ⟨_, rfl⟩
  rw [← hpp] at r1
  rw [← hpn] at q1
  have HM := Aside0.mk hm
  have H1 := Aside0.mk h1
  have HRd := Aside0.mk hrd
  obtain ⟨tp, htp⟩ : ∃ tp, tp = (fnd L p).isSome := ⟨_, rfl⟩
  obtain ⟨tn, htn⟩ : ∃ tn, tn = (fnd L n).isSome := ⟨_, rfl⟩
  rw [← htp] at r3
  rw [← htn] at q3
  have HLp : Aside0 (∀ w', MapAt w' gm M → (Instr.lookup 75 (.map (some gm)) (.string p) true).run Try.prog w' = .ok (.tuple #[.agg #[.string pp, .slice A m c], .bool tp]) w') := ⟨fun w' hw' => by rw [look2 hw', r1, e1, r3]⟩
  have HLn : Aside0 (∀ w', MapAt w' gm M → (Instr.lookup 75 (.map (some gm)) (.string n) true).run Try.prog w' = .ok (.tuple #[.agg #[.string pn, .slice An mn cn], .bool tn]) w') := ⟨fun w' hw' => by rw [look2 hw', q1, f1, q3]⟩
  have HLen : Aside0 (∀ w', MapAt w' gm M → (Builtin.len_ #[75] 3 #[.map (some gm)]).run Try.prog w' = .ok (.int .i64 L.length) w') := ⟨fun w' hw' => by rw [← r4]; exact run_len hw'⟩
  clear h1 hm hrd r1 r3 r4 q1 q3 e1 e2 e3 f1 f2 f3 hpp hpn hm0 hm1
  obtain ⟨A0, c0, rfl, z2, z3⟩ := id hv
  clear z2 z3
  have HOwn := Aside0.mk hv
  clear hv
  have hl64 : l.length ≤ 64 := settings_len he
  have HCl : Aside0 (∀ w', Sl w' (.slice A0 l.length c0) l → Calls Try.prog 44 #[.slice A0 l.length c0] w' fun x w'' => ∃ v', x = .returned v' ∧ Sl w'' v' l ∧ Fr w'.heap.size v' ∧ Below w'.heap.size w' w'') := ⟨fun w' h => clone_callsO _ l w' h hl64⟩
  clear hl64
  have HSet : Aside0 (∀ w', Sl w' (.slice A0 l.length c0) l → Calls Try.prog 42 #[.slice A0 l.length c0] w' fun x w'' => x = .returned (.int .i64 0) ∧ Below w'.heap.size w' w'') := ⟨fun w' h => settings_calls ks _ l _ w' h he⟩
  have HAb : Aside0 (∀ w', Sheet w' gs gm L → Calls Try.prog 43 #[.pointer (some ⟨gs, 0, none⟩), .string n, .string p] w' fun x w'' => x = .returned (.bool false) ∧ w'' = w') := ⟨fun w' h => above_callsL gs gm L k n p false w' h hab⟩
  clear hab he
  rw [ht] at htn
  simp only [Option.isSome_none] at htn
  subst htn
  clear ht
  have cl : decide ((32 : Int) ≤ (L.length : Int)) = false := decide_eq_false (by omega)
  have cl2 : decide (32 ≤ L.length) = false := decide_eq_false (by omega)
  clear hlen
  have HN : Aside0 (∀ w', Calls Try.prog 41 #[.string n] w' fun x w'' => x = .returned (.bool true) ∧ Below w'.heap.size w' w'') := ⟨fun w' => name_calls kn n true w' hn⟩
  clear hn
  rw [hf] at htp
  subst htp
  clear hf
  have c1 := list_ne hp
  go_enter Try.func23, Try.ntmps23
  go_upto_region 6 with (first | (go_at_call 40; refine (none_calls gs gm _ H1.out).mono ?_; rintro x w7 ⟨rfl, hw⟩; rw [hw]; clear hw) | (go_at_call 41; refine (HN.out _).mono ?_; rintro x w8 ⟨rfl, hb⟩; have HB := Aside0.mk hb; have e0 := (blk_cell (blk_below H1.out hb) 0).trans rfl; have hlk := HLp.out w8 (HM.out.below hb); clear hb))
  have HB2 : Aside0 (Below w.heap.size w (w8.alloc (.cells #[.string pp, .slice A m c] 85))) := ⟨below_alloc HB.out _⟩
  clear HB e0 hlk
  have HB := HB2
  clear HB2
  generalize w8.alloc (.cells #[.string pp, .slice A m c] 85) = w9 at HB ⊢
  generalize w8.heap.size = g9
  go_upto_region 14 with (first | (go_at_call 42; refine (HSet.out _ (HOwn.out.below HB.out)).mono ?_; rintro x w10 ⟨rfl, hb⟩; have HBn := Aside0.mk (below_step HB.out hb); clear HB hb; have HB := HBn; clear HBn) | (go_at_call 43; refine (HAb.out _ (HS.out.below HB.out)).mono ?_; rintro x w11 ⟨rfl, hw⟩; rw [hw]; clear hw; have e0 := (blk_cell (blk_below H1.out HB.out) 0).trans rfl; have hlk := HLn.out _ (HM.out.below HB.out)))
  have HB2 : Aside0 (Below w.heap.size w (w10.alloc (.cells #[.string pn, .slice An mn cn] 85))) := ⟨below_alloc HB.out _⟩
  clear HB e0 hlk
  have HB := HB2
  clear HB2
  generalize w10.alloc (.cells #[.string pn, .slice An mn cn] 85) = w12 at HB ⊢
  generalize w10.heap.size = g12
  have e0 := (blk_cell (blk_below H1.out HB.out) 0).trans rfl
  have hle := HLen.out _ (HM.out.below HB.out)
  go_upto_region 16 with fail
  clear hle
  go_wp2
  refine start_ (n := 10) (S := fun w' => w'.cell? ⟨gs, 0, none⟩ = some (.map (some gm)) ∧ Below w.heap.size w w') (ds := [9]) #[false, false, false, false, false, false, false, false, false, false] (by kernel_rfl) rfl rfl ⟨(blk_cell (blk_below H1.out (below_drew1 HB.out)) 0).trans rfl, below_drew1 HB.out⟩ (fun hHeld => ?_)
  refine pure_ (i := 0) (N := some 64) (v := ?_) (a' := ?_) #[true, false, false, false, false, false, false, false, false, false] rfl rfl (by kernel_rfl) (fun _ _ _ h => h) (Or.inl ⟨by rfl, ?_⟩) ?_ ?_
  rotate_left
  · intro w'
    go_simp
    with_reducible rfl
  rotate_left
  · simp only [Act.put, List.setIfInBounds_toArray, List.set_cons_zero, List.set_cons_succ, i64_w, i32_w]
    rfl
  refine pure_ (i := 1) (N := some 65) (v := ?_) (a' := ?_) #[true, true, false, false, false, false, false, false, false, false] rfl rfl (by kernel_rfl) (fun _ _ _ h => h) (Or.inl ⟨by rfl, ?_⟩) ?_ ?_
  rotate_left
  · intro w'
    go_simp
    with_reducible rfl
  rotate_left
  · simp only [Act.put, List.setIfInBounds_toArray, List.set_cons_zero, List.set_cons_succ, i64_w, i32_w]
    rfl
  refine pure_ (i := 2) (N := some 66) (v := ?_) (a' := ?_) #[true, true, true, false, false, false, false, false, false, false] rfl rfl (by kernel_rfl) (fun _ _ _ h => h) (Or.inl ⟨by rfl, ?_⟩) ?_ ?_
  rotate_left
  · intro w'
    go_simp
    with_reducible rfl
  rotate_left
  · simp only [Act.put, List.setIfInBounds_toArray, List.set_cons_zero, List.set_cons_succ, i64_w, i32_w]
    rfl
  refine pure_ (i := 4) (N := some 68) (v := ?_) (a' := ?_) #[true, true, true, false, true, false, false, false, false, false] rfl rfl (by kernel_rfl) (fun _ _ _ h => h) (Or.inl ⟨by rfl, ?_⟩) ?_ ?_
  rotate_left
  · intro w'
    go_simp
    with_reducible rfl
  rotate_left
  · simp only [Act.put, List.setIfInBounds_toArray, List.set_cons_zero, List.set_cons_succ, i64_w, i32_w]
    rfl
  refine pure_ (i := 5) (N := some 69) (v := ?_) (a' := ?_) #[true, true, true, false, true, true, false, false, false, false] rfl rfl (by kernel_rfl) (fun _ _ _ h => h) (Or.inl ⟨by rfl, ?_⟩) ?_ ?_
  rotate_left
  · intro w'
    go_simp
    with_reducible rfl
  rotate_left
  · simp only [Act.put, List.setIfInBounds_toArray, List.set_cons_zero, List.set_cons_succ, i64_w, i32_w]
    rfl
  refine pure_ (i := 6) (N := some 70) (v := ?_) (a' := ?_) #[true, true, true, false, true, true, true, false, false, false] rfl rfl (by kernel_rfl) (fun _ _ _ h => h) (Or.inl ⟨by rfl, ?_⟩) ?_ ?_
  rotate_left
  · intro w'
    go_simp
    with_reducible rfl
  rotate_left
  · simp only [Act.put, List.setIfInBounds_toArray, List.set_cons_zero, List.set_cons_succ, i64_w, i32_w]
    rfl
  refine take_ (i := 3) (N := some 67) (v := ?_) (a' := ?_) #[true, true, true, true, true, true, true, false, false, false] rfl rfl (by kernel_rfl) (fun _ _ _ h => h) (Or.inl ⟨by rfl, ?_⟩) hHeld ?_ ?_
  rotate_left
  · rintro w' ⟨s0, s1⟩
    go_simp
    with_reducible rfl
  rotate_left
  · simp only [Act.put, List.setIfInBounds_toArray, List.set_cons_zero, List.set_cons_succ, i64_w, i32_w]
    rfl
  refine one_ (i := 7) (N := some 71) #[true, true, true, true, true, true, true, true, false, false] rfl rfl (by kernel_rfl) (by decide) (fun K hK => ?_)
  refine goes_ Try.func44 (by kernel_rfl) rfl #[.slice A0 l.length c0] (by rfl) rfl rfl (by (simp only [List.map_toArray, List.map_cons, List.map_nil]); first | done | rfl) ?_
  with_reducible refine (HCl.out _ (HOwn.out.below hHeld.2)).mono ?_
  rintro x w13 ⟨v2, rfl, ⟨A2, c2, rfl, z2, z3⟩, zf, hb13⟩
  have HFv : Aside0 (OffV b (.slice A2 l.length c2)) := ⟨zf.off (Nat.lt_of_lt_of_le HB0.out (below_size hHeld.2))⟩
  clear zf
  refine ⟨_, rfl, ?_⟩
  refine hK.out _ _ ⟨(blk_cell (blk_below H1.out (below_step hHeld.2 hb13)) 0).trans rfl, below_step hHeld.2 hb13⟩ (fun hHeld => ?_)
  clear hK K
  refine norm_ (a' := ?_) ?_ ?_
  rotate_left
  · show Act.put _ (some 71) _ = _
    simp only [Act.put, List.setIfInBounds_toArray, List.set_cons_zero, List.set_cons_succ, i64_w, i32_w]
    rfl
  refine pure_ (i := 8) (N := some 72) (v := ?_) (a' := ?_) #[true, true, true, true, true, true, true, true, true, false] rfl rfl (by kernel_rfl) (fun _ _ _ h => h) (Or.inl ⟨by rfl, ?_⟩) ?_ ?_
  rotate_left
  · intro w'
    go_simp
    with_reducible rfl
  rotate_left
  · simp only [Act.put, List.setIfInBounds_toArray, List.set_cons_zero, List.set_cons_succ, i64_w, i32_w]
    rfl
  refine last_ (i := 9) (N := none) #[true, true, true, true, true, true, true, true, true, true] rfl rfl (by kernel_rfl) (by decide) (fun K hK => ?_)
  obtain ⟨o, hup, hat⟩ := run_update (HM.out.below hHeld.2) n p (.slice A2 l.length c2)
  have HAt := Aside0.mk hat
  have HBz := Aside0.mk hHeld.2
  have HSlz : Aside0 (Sl _ (.slice A2 l.length c2) l) := ⟨⟨A2, c2, rfl, z2, z3⟩⟩
  clear hat z2 z3
  refine skip_ (w1 := ?_) (by rfl) rfl ?_ ?_
  rotate_left
  · go_simp
    rfl
  refine hK.out _ _ ?_
  clear hK K
  refine done_ (by kernel_rfl) ?_
  clear hHeld
  have HG := Aside0.mk (grown_put (gm := gm) HBz.out o)
  have HSh := Aside0.mk (sheet_putO (blk_below H1.out HBz.out) (HM.out.below HBz.out) (HRd.out.imp (fun _ _ h => h.below HBz.out)) HSlz.out HAt.out HOff.out HFv.out)
  go_wp2
  go_ret
  exact ⟨rfl, HSh.out, HG.out⟩
theorem define_callsO (b : Nat) (gs gm : Nat) (L : List Sty) (n p : ByteArray) (v : Value) (l : List S37) (w : World) (hb0 : b < w.heap.size) (hs : SheetO b w gs gm L) (hv : Sl w v l) (kn ks k : Nat) (nb : Bool) (e : Int) (ab : Bool)
    (hn : PStyleNearest.style_name.f kn n = some nb) (he : PStyleNearest.style_settings.f ks l = some e) (hab : aboveG (upL L) n k p = some ab) :
    Calls Try.prog 23 #[.pointer (some ⟨gs, 0, none⟩), .string n, .string p, v] w fun x w' => x = .returned (.int .i64 (defE nb e ab L n p)) ∧ SheetO b w' gs gm (defL nb e ab L n p l) ∧ w.grownBy w' (some gm) := by
  have no : ∀ (r : Int), r ≠ 0 → defE nb e ab L n p = r → (Calls Try.prog 23 #[.pointer (some ⟨gs, 0, none⟩), .string n, .string p, v] w fun x w' => x = .returned (.int .i64 r) ∧ Below w.heap.size w w') →
      Calls Try.prog 23 #[.pointer (some ⟨gs, 0, none⟩), .string n, .string p, v] w fun x w' => x = .returned (.int .i64 (defE nb e ab L n p)) ∧ SheetO b w' gs gm (defL nb e ab L n p l) ∧ w.grownBy w' (some gm) := by
    intro r hr hd hc
    refine hc.mono ?_
    rintro x w' ⟨rfl, hb⟩
    exact ⟨by rw [hd], by unfold defL; rw [if_neg (by rw [hd]; exact hr)]; exact hs.below hb, grown_of_below hb _⟩
  by_cases c0 : nb = false
  · subst c0
    exact no 4 (by decide) (by unfold defE; rw [if_pos rfl]) (define_name gs gm L n p v l w hs.sheet hv kn hn)
  · have c0' : nb = true := by simpa using c0
    subst c0'
    by_cases c1 : p ≠ ⟨#[]⟩ ∧ fnd L p = none
    · exact no 6 (by decide) (by unfold defE; rw [if_neg c0, if_pos c1]) (define_miss gs gm L n p v l w hs.sheet hv kn hn c1.1 c1.2)
    · have hp : p = ⟨#[]⟩ ∨ (p ≠ ⟨#[]⟩ ∧ (fnd L p).isSome = true) := by
        by_cases q : p = ⟨#[]⟩
        · exact .inl q
        · refine .inr ⟨q, ?_⟩
          cases hf : fnd L p with
          | none => exact absurd ⟨q, hf⟩ c1
          | some s => rfl
      by_cases c2 : e ≠ 0
      · refine no e c2 (by unfold defE; rw [if_neg c0, if_neg c1, if_pos c2]) ?_
        rcases hp with hp | ⟨hp, hf⟩
        · exact define_set0 gs gm L n p v l w hs.sheet hv kn hn ks e he c2 hp
        · exact define_set1 gs gm L n p v l w hs.sheet hv kn hn ks e he c2 hp hf
      · have c2' : e = 0 := by omega
        subst c2'
        by_cases c3 : ab = true
        · subst c3
          refine no 10 (by decide) (by unfold defE; rw [if_neg c0, if_neg c1, if_neg c2, if_pos rfl]) ?_
          rcases hp with hp | ⟨hp, hf⟩
          · exact define_loop0 gs gm L n p v l w hs.sheet hv kn hn ks k he hab hp
          · exact define_loop1 gs gm L n p v l w hs.sheet hv kn hn ks k he hab hp hf
        · have c3' : ab = false := by simpa using c3
          subst c3'
          by_cases c4 : fnd L n = none ∧ 32 ≤ L.length
          · refine no 8 (by decide) (by unfold defE; rw [if_neg c0, if_neg c1, if_neg c2, if_neg c3, if_pos c4]) ?_
            rcases hp with hp | ⟨hp, hf⟩
            · exact define_full0 gs gm L n p v l w hs.sheet hv kn hn ks k he hab c4.1 c4.2 hp
            · exact define_full1 gs gm L n p v l w hs.sheet hv kn hn ks k he hab c4.1 c4.2 hp hf
          · have hd : defE true 0 false L n p = 0 := by unfold defE; rw [if_neg c0, if_neg c1, if_neg c2, if_neg c3, if_neg c4]
            have hL : defL true 0 false L n p l = putL L n p l := by unfold defL; rw [if_pos hd]
            rw [hd, hL]
            cases ht : fnd L n with
            | none =>
              have hlen : L.length < 32 := by
                rcases Nat.lt_or_ge L.length 32 with h | h
                · exact h
                · exact absurd ⟨ht, h⟩ c4
              rcases hp with hp | ⟨hp, hf⟩
              · exact define_new0O b gs gm L n p v l w hb0 hs hv kn hn ks k he hab ht hlen hp
              · exact define_new1O b gs gm L n p v l w hb0 hs hv kn hn ks k he hab ht hlen hp hf
            | some s =>
              have ht' : (fnd L n).isSome = true := by rw [ht]; rfl
              rcases hp with hp | ⟨hp, hf⟩
              · exact define_there0O b gs gm L n p v l w hb0 hs hv kn hn ks k he hab ht' hp
              · exact define_there1O b gs gm L n p v l w hb0 hs hv kn hn ks k he hab ht' hp hf
end Go.Proofs.Ytpcpjlbfhbicaaa.Sh
