/- style.New, (*style.Sheet).none, above and slices.Clone of settings over this program: their contracts. Conditions: the Sheet's block and its map stand in memory; a slice's row reads. -/
import Derived.Test.YtpcpjlbfhbicaaaShMap
import Derived.Test.YtpcpjlbfhbicaaaPStyleNearestx
import Derived.Outline
import Derived.Laws.Cover3
set_option linter.unusedVariables false
set_option linter.unusedSimpArgs false
namespace Go.Proofs.Ytpcpjlbfhbicaaa.Sh
open Go Go.RowKit Go.Proofs.YtpcpjlbfhbicaaaW.PrintWords Go.Proofs.YtpcpjlbfhbicaaaW.PrintLast Go.Proofs.YtpcpjlbfhbicaaaW.PrintMore Go.Proofs.Ytpcpjlbfhbicaaa.PStyleProps
open Go.Proofs.Ytpcpjlbfhbicaaa.PStyleNearest (S37 k37 z37 rd_T37 at_T37 k37_open k37_openM k37_mk k37_mkM info37)
theorem eq_nil (gm : Nat) (w : World) : (binOp .eql 75 (.map (some gm)) (.map none)).run Try.prog w = .ok (.bool false) w := by
  simp only [binOp]
  simp [Go.run_equal_map_nil w 75 9 85 (some gm) under75]
theorem eq_nil43 (A : Option Addr) (n c : Nat) (w : World) : (binOp .eql 43 (.slice A n c) (.slice none 0 0)).run Try.prog w = .ok (.bool A.isNone) w := by
  simp only [binOp]
  simp [Go.run_equal_slice_nil w 43 37 A n c Try.underlying43]
theorem make_map (w : World) : (Instr.makeMap 75 none).run Try.prog w = .ok (.map (some w.heap.size)) (w.alloc (.map #[] 0)) := by
  simp [Instr.makeMap, go_sem]
set_option maxHeartbeats 4000000 in
set_option maxRecDepth 100000 in
theorem none_calls (gs gm : Nat) (w : World) (h : w.heap[gs]? = some (.cells #[.map (some gm)] 77 (0, 0))) :
    Calls Try.prog 40 #[.pointer (some ⟨gs, 0, none⟩)] w fun e w' => e = .returned (.bool false) ∧ w' = w := by
  have hu := Try.underlying77
  have hu5 := Try.underlying75
  have e0 := (blk_cell h 0).trans rfl
  have hq : ∀ w : World, (binOp .eql 75 (.map (some gm)) (.map none)).run Try.prog w = .ok (.bool false) w := eq_nil gm
  go_enter Try.func40, Try.ntmps40
  go_wp2
  go_ret
  exact ⟨rfl, rfl⟩
set_option maxHeartbeats 4000000 in
set_option maxRecDepth 100000 in
theorem new_calls (w : World) :
    Calls Try.prog 22 #[] w fun e w' => ∃ gs gm, e = .returned (.pointer (some ⟨gs, 0, none⟩)) ∧ w.heap.size ≤ gs ∧ w.heap.size ≤ gm ∧ gs ≠ gm ∧ w'.heap[gs]? = some (.cells #[.map (some gm)] 77 (0, 0)) ∧ w'.heap[gm]? = some (.map #[] 0) ∧ Below w.heap.size w w' := by
  have hu := Try.underlying77
  have hu5 := Try.underlying75
  have hm : ∀ w : World, (Instr.makeMap 75 none).run Try.prog w = .ok (.map (some w.heap.size)) (w.alloc (.map #[] 0)) := make_map
  go_enter Try.func22, Try.ntmps22
  go_wp2
  go_ret
  refine ⟨w.heap.size + 1, w.heap.size, rfl, ?_, ?_, ?_, ?_, ?_, below_alloc (below_alloc (Below.refl _ _) _) _⟩
  · omega
  · exact Nat.le_refl _
  · omega
  · have := heap_alloc_new (w.alloc (Obj.map #[] 0)) (Obj.cells #[Value.map (some w.heap.size)] 77)
    simpa using this
  · exact (Below.heap_alloc _ _ _ (by simp)).trans (heap_alloc_new w _)
/-- What of a slice is read. -/
def Sl (w : World) (v : Value) (l : List S37) : Prop := ∃ A c, v = .slice A l.length c ∧ l.length ≤ c ∧ Kd.C k37 w A l.length l
theorem Sl.below {w w' : World} {v : Value} {l : List S37} (h : Sl w v l) (hb : Below w.heap.size w w') : Sl w' v l := by
  obtain ⟨A, c, e, hc, hr⟩ := h
  exact ⟨A, c, e, hc, Kd.C_below hr hb⟩
set_option maxHeartbeats 4000000 in
set_option maxRecDepth 100000 in
theorem clone_calls (v : Value) (l : List S37) (w : World) (h : Sl w v l) (hl : l.length ≤ 64) :
    Calls Try.prog 44 #[v] w fun e w' => ∃ v', e = .returned v' ∧ Sl w' v' l ∧ Below w.heap.size w w' := by
  obtain ⟨A, c, rfl, hc, hr⟩ := h
  have hu43 := Try.underlying43
  have hu37 := Try.underlying37
  have HR := Aside0.mk hr
  have HC := Aside0.mk hc
  have HL := Aside0.mk hl
  clear hr hc hl
  cases A with
  | none =>
    have hq : ∀ w : World, (binOp .eql 43 (.slice none l.length c) (.slice none 0 0)).run Try.prog w = .ok (.bool true) w := eq_nil43 none l.length c
    go_enter Try.func44, Try.ntmps44
    go_wp2
    go_ret
    have e : l = [] := by
      cases l with
      | nil => rfl
      | cons a l => obtain ⟨ad, h, _⟩ := HR.out.2.2 (by simp); cases h
    subst e
    exact ⟨_, rfl, ⟨none, 0, rfl, Nat.le_refl _, Kd.C_nil _ _⟩, Below.refl _ _⟩
  | some ad =>
    have hq : ∀ w : World, (binOp .eql 43 (.slice (some ad) l.length c) (.slice none 0 0)).run Try.prog w = .ok (.bool false) w := eq_nil43 (some ad) l.length c
    go_enter Try.func44, Try.ntmps44
    have HO0 : Aside0 (Kd.R k37 37 (w.alloc (.cells #[] 37)) w.heap.size (fun _ => True) (.slice (some ⟨w.heap.size, 0, none⟩) 0 0) []) := ⟨⟨fun _ _ => trivial, [], World.ownsRow_made w #[] 0 (Nat.le_refl _) (Nat.zero_le _) rfl, Reps.none _ _⟩⟩
    go_wp2_with (first | (at_builtin; refine Kd.R_append_rows k37 (w0 := w) (Rr := fun x cs => cs = [.int .i64 x.f0, .int .i64 x.f1]) w.heap.size rfl (.tmp 5) (.tmp 6) 43 37 (.agg #[(.int .i64 0), (.int .i64 0)]) 16 rfl Try.underlying43 info37 rfl (by decide) (by omega) (.slice (some ⟨w.heap.size, 0, none⟩) 0 0) [] l (some ad) l.length c (fun _ => True) (fun _ => False) rfl rfl HO0.out ?aR ?aK (fun _ hk => hk.elim) (fun _ _ => trivial) (below_alloc (Below.refl _ _) _) ?aB ?aL ?_; (case aR => exact Kd.C_below HR.out (below_alloc (Below.refl _ _) _) |>.imp_ (Below.refl _ _) (fun _ _ hp => k37_open hp)); (case aK => (intro x cs hx; subst hx; exact k37_mkM _ _ _ x)); (case aB => simp); (case aL => (have := HL.out; simp only [List.length_nil]; omega)); intro v1 w1 ho1 hb1 hg1 hat1; have HO1 := Aside0.mk ho1; have HB1 := Aside0.mk hb1; clear ho1 hb1 hg1 hat1))
    go_ret
    obtain ⟨A', c', e', hc', hr'⟩ := Kd.R_reads HO1.out
    refine ⟨_, rfl, ⟨A', c', e', hc', hr'⟩, HB1.out⟩
end Go.Proofs.Ytpcpjlbfhbicaaa.Sh
