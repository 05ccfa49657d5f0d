/- (*style.Sheet).makes over this program: its contract. Conditions: the Sheet stands in memory, each style's settings may be, and the chain of parents ends. -/
import Derived.Test.YtpcpjlbfhbicaaaShC
set_option linter.unusedVariables false
set_option linter.unusedSimpArgs false
namespace Go.Proofs.Ytpcpjlbfhbicaaa.Sh
open Go Go.RowKit Go.Proofs.YtpcpjlbfhbicaaaW.PrintWords Go.Proofs.YtpcpjlbfhbicaaaW.PrintLast Go.Proofs.YtpcpjlbfhbicaaaW.PrintMore Go.Proofs.Ytpcpjlbfhbicaaa.PStyleProps
open Go.Proofs.Ytpcpjlbfhbicaaa.PStyleNearest (S37 k37 z37 rd_T37 at_T37 k37_open k37_openM k37_mk k37_mkM info37)
/-- A style: its name, its parent's, its settings. -/
abbrev Sty := ByteArray × ByteArray × List S37
def Reads (w : World) : List Ent → List Sty → Prop
  | [], [] => True
  | m :: M, s :: L => m.1 = s.1 ∧ m.2.1 = s.2.1 ∧ Sl w m.2.2 s.2.2 ∧ Reads w M L
  | _, _ => False
theorem Reads.imp {w w' : World} (h : ∀ v l, Sl w v l → Sl w' v l) : ∀ {M : List Ent} {L : List Sty}, Reads w M L → Reads w' M L
  | [], [], _ => trivial
  | _ :: _, _ :: _, ⟨h1, h2, h3, h4⟩ => ⟨h1, h2, h _ _ h3, Reads.imp h h4⟩
  | [], _ :: _, h => h.elim
  | _ :: _, [], h => h.elim
/-- The Sheet at gs, its map at gm, holds the styles L. -/
def Sheet (w : World) (gs gm : Nat) (L : List Sty) : Prop := w.heap[gs]? = some (.cells #[.map (some gm)] 77 (0, 0)) ∧ ∃ M, MapAt w gm M ∧ Reads w M L
theorem MapAt.lt {w : World} {gm : Nat} {M : List Ent} (h : MapAt w gm M) : gm < w.heap.size := by
  obtain ⟨es, clock, hg, _⟩ := h
  exact (Array.getElem?_eq_some_iff.1 hg).1
theorem MapAt.below {w w' : World} {gm : Nat} {M : List Ent} (h : MapAt w gm M) (hb : Below w.heap.size w w') : MapAt w' gm M := by
  have hl := h.lt
  obtain ⟨es, clock, hg, hh⟩ := h
  exact ⟨es, clock, (hb.block gm hl).trans hg, hh⟩
theorem Sheet.below {w w' : World} {gs gm : Nat} {L : List Sty} (h : Sheet w gs gm L) (hb : Below w.heap.size w w') : Sheet w' gs gm L := by
  obtain ⟨h1, M, h2, h3⟩ := h
  exact ⟨blk_below h1 hb, M, h2.below hb, h3.imp (fun _ _ h => h.below hb)⟩
def fnd (L : List Sty) (n : ByteArray) : Option Sty := L.find? fun s => n == s.1
def upL (L : List Sty) (n : ByteArray) : ByteArray := ((fnd L n).map (·.2.1)).getD ⟨#[]⟩
def setsL (L : List Sty) (n : ByteArray) : List S37 := ((fnd L n).map (·.2.2)).getD []
theorem Sl.nil (w : World) : Sl w (.slice none 0 0) [] := ⟨none, 0, rfl, Nat.le_refl _, Kd.C_nil _ _⟩
theorem reads_all {w : World} (n : ByteArray) : ∀ {M : List Ent} {L : List Sty}, Reads w M L → up M n = upL L n ∧ Sl w (sets M n) (setsL L n) ∧ (found M n).isSome = (fnd L n).isSome ∧ M.length = L.length
  | [], [], _ => ⟨rfl, Sl.nil w, rfl, rfl⟩
  | m :: M, s :: L, ⟨h1, h2, h3, h4⟩ => by
    obtain ⟨i1, i2, i3, i4⟩ := reads_all n h4
    cases c : (n == m.1) with
    | true =>
      have c' : (n == s.1) = true := by rw [← h1]; exact c
      simp only [up, upL, sets, setsL, found, fnd, List.find?_cons, c, c', Option.map_some, Option.getD_some, Option.isSome_some, List.length_cons]
      exact ⟨h2, h3, trivial, by rw [i4]⟩
    | false =>
      have c' : (n == s.1) = false := by rw [← h1]; exact c
      simp only [up, upL, sets, setsL, found, fnd, List.find?_cons, c, c', List.length_cons] at i1 i2 i3 ⊢
      exact ⟨i1, i2, i3, by rw [i4]⟩
  | [], _ :: _, h => h.elim
  | _ :: _, [], h => h.elim
theorem row_ {P : Program} {ops : Array Oper} {Q : Exit → Act → World → Prop} {oi : Oper} {a : Act} {w : World} {K : Act → World → Prop} (hw : Region.wanted oi (yielded ops a.tmps) = true) (hN : oi.dst = none) (ty : TypeId) (x y : Operand) (ho : oi.op = .store ty x y)
    (g : Nat) (cells : Array Value) (hx : a.eval x = .pointer (some ⟨g, 0, none⟩)) (hy : a.eval y = .agg cells)
    (t : TypeId) (old : Array Value) (hg : w.heap[g]? = some (.cells old t (0, 0))) (hi : (P.info? ty).map (·.size) = some cells.size)
    (hold : old.size = cells.size) (h1 : cells.all (·.oneCell') = true) (h : K a (w.setRow g cells)) : if Region.wanted oi (yielded ops a.tmps) = true then Oper.wp P oi a w K Q else K (a.put none undef) w := by
  rw [if_pos hw]
  refine wp_store_row ty x y ho g cells hx hy t old hg hi hold h1 ?_
  rw [hN]
  exact h
/-- What there is without a style. -/
def base : Int → Int := fun j => if j = 1 then 10 else if j = 2 then 12 else if j = 11 then 1 else if j = 12 then 1 else 0
theorem base_calls (w : World) : Calls Try.prog 14 #[] w fun e w' => e = .returned (.agg (row base)) ∧ Below w.heap.size w w' :=
  PStyleNearest.style_Base.calls 10 12 0 0 0 0 0 0 0 0 1 1 0 0 0 0 0 w rfl
def makesF (L : List Sty) : Nat → ByteArray → Option (Int → Int)
  | 0, _ => none
  | k + 1, n => if n = ⟨#[]⟩ then some base else (makesF L k (upL L n)).map fun f => withF f (setsL L n)
def Fits (L : List Sty) : Prop := ∀ s ∈ L, fitsAll s.2.2
theorem Fits.sets {L : List Sty} (h : Fits L) (n : ByteArray) : fitsAll (setsL L n) := by
  unfold setsL
  cases c : fnd L n with
  | none => intro s hs; cases hs
  | some s => exact h s (List.mem_of_find?_eq_some c)
set_option maxHeartbeats 4000000 in
set_option maxRecDepth 100000 in
theorem makes_calls (gs gm : Nat) (L : List Sty) (hfit : Fits L) : ∀ (k : Nat) (n : ByteArray) (f : Int → Int) (w : World), Sheet w gs gm L → makesF L k n = some f →
    Calls Try.prog 46 #[.pointer (some ⟨gs, 0, none⟩), .string n] w fun e w' => e = .returned (.agg (row f)) ∧ Below w.heap.size w w'
  | 0, n, f, w, hs, h => by cases h
  | k + 1, n, f, w, hs, h => by
    have hu := Try.underlying77
    have hu5 := Try.underlying75
    have hu8 := Try.underlying85
    have hu23 := Try.underlying23
    simp only [makesF] at h
    by_cases c1 : n = ⟨#[]⟩
    · rw [if_pos c1] at h
      obtain rfl := Option.some.inj h
      subst c1
      have HS2 : Aside0 ((row base).size = 17) := ⟨rfl⟩
      have HO2 : Aside0 ((row base).all (·.oneCell') = true) := ⟨row_all _⟩
      have HG : Aside0 (∀ w, Calls Try.prog 14 #[] w fun e w' => e = .returned (.agg (row base)) ∧ Below w.heap.size w w') := ⟨base_calls⟩
      clear hs
      generalize row base = Rr at HS2 HO2 HG ⊢
      go_enter Try.func46, Try.ntmps46
      go_wp2_with (first | ((with_reducible refine gate_dst (N := 4) rfl ?_); refine box_event ?hg (N := 4) ?hd (cs := #[.int .i64 0, .int .i64 0, .int .i64 0, .int .i64 0, .int .i64 0, .int .i64 0, .int .i64 0, .int .i64 0, .int .i64 0, .int .i64 0, .int .i64 0, .int .i64 0, .int .i64 0, .int .i64 0, .int .i64 0, .int .i64 0, .int .i64 0]) (t := 23) ?hr ?_; (case hd => rfl); (case hg => rfl); (case hr => first | (go_simp; done) | (go_simp; rfl)); intro g4 hg w4 hbox hb; have HB4 := Aside0.mk hb; have BK4 := Aside0.mk hbox; have GE4 : Aside0 (w.heap.size ≤ g4) := ⟨by rw [hg]; exact Nat.le_refl _⟩; clear hb hbox hg) | (go_at_call 14; refine (HG.out _).mono ?_; rintro e w8 ⟨rfl, hb⟩; have HB8 := Aside0.mk (below_step HB4.out hb); have BK8 := Aside0.mk (blk_below BK4.out hb); clear hb HB4 BK4) | ((with_reducible refine gate_store (t := 23) (p := 4) rfl ?_); refine wpList_store_row rfl 23 (.tmp 4) (.tmp 8) rfl g4 Rr rfl rfl 23 #[.int .i64 0, .int .i64 0, .int .i64 0, .int .i64 0, .int .i64 0, .int .i64 0, .int .i64 0, .int .i64 0, .int .i64 0, .int .i64 0, .int .i64 0, .int .i64 0, .int .i64 0, .int .i64 0, .int .i64 0, .int .i64 0, .int .i64 0] BK8.out (by rw [HS2.out]; exact info23) (by rw [HS2.out]; rfl) HO2.out ?_; have HB9 := Aside0.mk (below_setRow HB8.out GE4.out Rr); have BK9 := Aside0.mk (setRow_heap _ g4 _ Rr 23 (0, 0) BK8.out); clear HB8 BK8; generalize World.setRow _ g4 Rr = w9 at HB9 BK9 ⊢))
      refine bodyPost_ret (results_cell_row rfl _ _ g4 23 Rr (0, 0) _ rfl BK9.out Try.underlying23 rfl (by rw [HS2.out]; exact info23)) rfl ?_
      exact ⟨rfl, HB9.out⟩
    · rw [if_neg c1] at h
      have c1' := list_ne c1
      obtain ⟨f1, hf1, h⟩ := Option.map_eq_some_iff.1 h
      obtain ⟨h1, M, hm, hrd⟩ := hs
      obtain ⟨r1, r2, _, _⟩ := reads_all n hrd
      have hfs := hfit.sets n
      obtain ⟨p, hp⟩ : ∃ p, p = upL L n := ⟨_, rfl⟩
      obtain ⟨l, hl⟩ : ∃ l, l = setsL L n := ⟨_, rfl⟩
      rw [← hp] at r1 hf1
      rw [← hl] at r2 h hfs
      have IH : Aside0 (∀ w', Sheet w' gs gm L → Calls Try.prog 46 #[.pointer (some ⟨gs, 0, none⟩), .string p] w' fun e w'' => e = .returned (.agg (row f1)) ∧ Below w'.heap.size w' w'') := ⟨fun w' hw' => makes_calls gs gm L hfit k p f1 w' hw' hf1⟩
      have HSl := Aside0.mk r2
      obtain ⟨A, c, e1, e2, e3⟩ := r2
      generalize hm0 : l.length = m at e1 e2 e3
      rw [e1] at HSl
      have HWi : Aside0 (∀ w', Sl w' (.slice A m c) l → Calls Try.prog 45 #[.agg (row f1), .slice A m c] w' fun e w'' => e = .returned (.agg (row f)) ∧ Below w'.heap.size w' w'') := ⟨fun w' hw' => by rw [← h]; exact with_calls f1 _ l w' hw' hfs⟩
      have HS : Aside0 (Sheet w gs gm L) := ⟨h1, M, hm, hrd⟩
      have HM := Aside0.mk hm
      have H1 := Aside0.mk h1
      have HL : Aside0 (∀ w', MapAt w' gm M → (Instr.lookup 75 (.map (some gm)) (.string n) false).run Try.prog w' = .ok (.agg #[.string p, .slice A m c]) w') := ⟨fun w' hw' => by rw [look hw', r1, e1]⟩
      have HS2 : Aside0 ((row f).size = 17) := ⟨rfl⟩
      have HO2 : Aside0 ((row f).all (·.oneCell') = true) := ⟨row_all _⟩
      clear h1 hm hrd r1 e1 e2 e3 hfs hf1 h hp hl hm0
      generalize row f = Rr at HS2 HO2 HWi ⊢
      generalize row f1 = Rf at IH HWi
      go_enter Try.func46, Try.ntmps46
      go_upto_region 4 with (first | ((with_reducible refine gate_dst (N := 4) rfl ?_); refine box_event ?hg (N := 4) ?hd (cs := #[.int .i64 0, .int .i64 0, .int .i64 0, .int .i64 0, .int .i64 0, .int .i64 0, .int .i64 0, .int .i64 0, .int .i64 0, .int .i64 0, .int .i64 0, .int .i64 0, .int .i64 0, .int .i64 0, .int .i64 0, .int .i64 0, .int .i64 0]) (t := 23) ?hr ?_; (case hd => rfl); (case hg => rfl); (case hr => first | (go_simp; done) | (go_simp; rfl)); intro g4 hg w4 hbox hb; have HB4 := Aside0.mk hb; have BK4 := Aside0.mk hbox; have GE4 : Aside0 (w.heap.size ≤ g4) := ⟨by rw [hg]; exact Nat.le_refl _⟩; have hlk := HL.out w4 (HM.out.below hb); have e0 := (blk_cell (blk_below H1.out hb) 0).trans rfl; clear hb hbox hg))
      have B5 : Aside0 ((w4.alloc (.cells #[.string p, .slice A m c] 85)).heap[w4.heap.size]? = some (.cells #[.string p, .slice A m c] 85 (0, 0))) := ⟨blk_new _ _⟩
      have B4 : Aside0 ((w4.alloc (.cells #[.string p, .slice A m c] 85)).heap[g4]? = some (.cells #[.int .i64 0, .int .i64 0, .int .i64 0, .int .i64 0, .int .i64 0, .int .i64 0, .int .i64 0, .int .i64 0, .int .i64 0, .int .i64 0, .int .i64 0, .int .i64 0, .int .i64 0, .int .i64 0, .int .i64 0, .int .i64 0, .int .i64 0] 23 (0, 0))) := ⟨blk_below BK4.out (below_alloc (Below.refl _ _) _)⟩
      have HB : Aside0 (Below w.heap.size w (w4.alloc (.cells #[.string p, .slice A m c] 85))) := ⟨below_alloc HB4.out _⟩
      clear BK4 HB4 e0 hlk
      generalize w4.alloc (.cells #[.string p, .slice A m c] 85) = w3 at B5 B4 HB ⊢
      generalize w4.heap.size = g5 at B5 ⊢
      go_wp2
      refine start_ (n := 8) (S := fun w' => w'.heap[g5]? = some (.cells #[.string p, .slice A m c] 85 (0, 0)) ∧ w'.cell? ⟨g5, 0, none⟩ = some (.string p) ∧ w'.cell? ⟨g5, 1, none⟩ = some (.slice A m c) ∧ Below w.heap.size w w' ∧ w'.heap[g4]? = some (.cells #[.int .i64 0, .int .i64 0, .int .i64 0, .int .i64 0, .int .i64 0, .int .i64 0, .int .i64 0, .int .i64 0, .int .i64 0, .int .i64 0, .int .i64 0, .int .i64 0, .int .i64 0, .int .i64 0, .int .i64 0, .int .i64 0, .int .i64 0] 23 (0, 0))) (ds := [7]) #[false, false, false, false, false, false, false, false] (by kernel_rfl) rfl rfl ⟨blk_drew B5.out, (blk_cell (blk_drew B5.out) 0).trans rfl, (blk_cell (blk_drew B5.out) 1).trans rfl, below_drew1 HB.out, blk_drew B4.out⟩ (fun hHeld => ?_)
      refine pure_ (i := 0) (N := some 15) (v := ?_) (a' := ?_) #[true, false, false, false, false, false, false, false] rfl rfl (by kernel_rfl) (fun _ _ _ h => h) (Or.inl ⟨by rfl, ?_⟩) ?_ ?_
      rotate_left
      · intro w'
        go_simp
        with_reducible rfl
      rotate_left
      · simp only [Act.put, List.setIfInBounds_toArray, List.set_cons_zero, List.set_cons_succ, i64_w, i32_w]
        rfl
      refine pure_ (i := 1) (N := some 16) (v := ?_) (a' := ?_) #[true, true, false, false, false, false, false, false] rfl rfl (by kernel_rfl) (fun _ _ _ h => h) (Or.inl ⟨by rfl, ?_⟩) ?_ ?_
      rotate_left
      · intro w'
        go_simp
        with_reducible rfl
      rotate_left
      · simp only [Act.put, List.setIfInBounds_toArray, List.set_cons_zero, List.set_cons_succ, i64_w, i32_w]
        rfl
      refine pure_ (i := 4) (N := some 19) (v := ?_) (a' := ?_) #[true, true, false, false, true, false, false, false] rfl rfl (by kernel_rfl) (fun _ _ _ h => h) (Or.inl ⟨by rfl, ?_⟩) ?_ ?_
      rotate_left
      · intro w'
        go_simp
        with_reducible rfl
      rotate_left
      · simp only [Act.put, List.setIfInBounds_toArray, List.set_cons_zero, List.set_cons_succ, i64_w, i32_w]
        rfl
      refine take_ (i := 2) (N := some 17) (v := ?_) (a' := ?_) #[true, true, true, false, true, false, false, false] rfl rfl (by kernel_rfl) (fun _ _ _ h => h) (Or.inl ⟨by rfl, ?_⟩) hHeld ?_ ?_
      rotate_left
      · rintro w' ⟨s0, s1, s2, s3, s4⟩
        go_simp
        with_reducible rfl
      rotate_left
      · simp only [Act.put, List.setIfInBounds_toArray, List.set_cons_zero, List.set_cons_succ, i64_w, i32_w]
        rfl
      refine take_ (i := 5) (N := some 20) (v := ?_) (a' := ?_) #[true, true, true, false, true, true, false, false] rfl rfl (by kernel_rfl) (fun _ _ _ h => h) (Or.inl ⟨by rfl, ?_⟩) hHeld ?_ ?_
      rotate_left
      · rintro w' ⟨s0, s1, s2, s3, s4⟩
        go_simp
        with_reducible rfl
      rotate_left
      · simp only [Act.put, List.setIfInBounds_toArray, List.set_cons_zero, List.set_cons_succ, i64_w, i32_w]
        rfl
      refine one_ (i := 3) (N := some 18) #[true, true, true, true, true, true, false, false] rfl rfl (by kernel_rfl) (by decide) (fun K hK => ?_)
      refine goes_ Try.func46 (by kernel_rfl) rfl #[.pointer (some ⟨gs, 0, none⟩), .string p] (by rfl) rfl rfl (by (simp only [List.map_toArray, List.map_cons, List.map_nil]); first | done | rfl) ?_
      with_reducible refine (IH.out _ (HS.out.below hHeld.2.2.2.1)).mono ?_
      rintro e w6 ⟨rfl, hb6⟩
      refine ⟨_, rfl, ?_⟩
      refine hK.out _ _ ⟨blk_below hHeld.1 hb6, (blk_cell (blk_below hHeld.1 hb6) 0).trans rfl, (blk_cell (blk_below hHeld.1 hb6) 1).trans rfl, below_step hHeld.2.2.2.1 hb6, blk_below hHeld.2.2.2.2 hb6⟩ (fun hHeld => ?_)
      clear hK K
      refine norm_ (a' := ?_) ?_ ?_
      rotate_left
      · show Act.put _ (some 18) _ = _
        simp only [Act.put, List.setIfInBounds_toArray, List.set_cons_zero, List.set_cons_succ, i64_w, i32_w]
        rfl
      refine one_ (i := 6) (N := some 21) #[true, true, true, true, true, true, true, false] rfl rfl (by kernel_rfl) (by decide) (fun K hK => ?_)
      refine goes_ Try.func45 (by kernel_rfl) rfl #[.agg Rf, .slice A m c] (by rfl) rfl rfl (by (simp only [List.map_toArray, List.map_cons, List.map_nil]); first | done | rfl) ?_
      with_reducible refine (HWi.out _ (HSl.out.below hHeld.2.2.2.1)).mono ?_
      rintro e w7 ⟨rfl, hb7⟩
      refine ⟨_, rfl, ?_⟩
      refine hK.out _ _ ⟨blk_below hHeld.1 hb7, (blk_cell (blk_below hHeld.1 hb7) 0).trans rfl, (blk_cell (blk_below hHeld.1 hb7) 1).trans rfl, below_step hHeld.2.2.2.1 hb7, blk_below hHeld.2.2.2.2 hb7⟩ (fun hHeld => ?_)
      clear hK K
      refine norm_ (a' := ?_) ?_ ?_
      rotate_left
      · show Act.put _ (some 21) _ = _
        simp only [Act.put, List.setIfInBounds_toArray, List.set_cons_zero, List.set_cons_succ, i64_w, i32_w]
        rfl
      refine last_ (i := 7) (N := none) #[true, true, true, true, true, true, true, true] rfl rfl (by kernel_rfl) (by decide) (fun K hK => ?_)
      refine row_ (by rfl) rfl 23 (.tmp 4) (.tmp 21) rfl g4 Rr rfl rfl 23 #[.int .i64 0, .int .i64 0, .int .i64 0, .int .i64 0, .int .i64 0, .int .i64 0, .int .i64 0, .int .i64 0, .int .i64 0, .int .i64 0, .int .i64 0, .int .i64 0, .int .i64 0, .int .i64 0, .int .i64 0, .int .i64 0, .int .i64 0] hHeld.2.2.2.2 (by rw [HS2.out]; exact info23) (by rw [HS2.out]; rfl) HO2.out ?_
      have HB9 := Aside0.mk (below_setRow hHeld.2.2.2.1 GE4.out Rr)
      have BK9 := Aside0.mk (setRow_heap _ g4 _ Rr 23 (0, 0) hHeld.2.2.2.2)
      refine hK.out _ _ ?_
      clear hK K
      refine done_ (by kernel_rfl) ?_
      clear hHeld
      generalize World.setRow _ g4 Rr = w9 at HB9 BK9 ⊢
      go_wp2
      refine bodyPost_ret (results_cell_row rfl _ _ g4 23 Rr (0, 0) _ rfl BK9.out Try.underlying23 rfl (by rw [HS2.out]; exact info23)) rfl ?_
      exact ⟨rfl, HB9.out⟩
end Go.Proofs.Ytpcpjlbfhbicaaa.Sh
