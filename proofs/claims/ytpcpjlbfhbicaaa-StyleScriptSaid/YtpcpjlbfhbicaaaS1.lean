/- Own walks for the law, joined from several texts: what the law reaches, and no more (joined by keeplive.py). -/
import Derived.Test.YtpcpjlbfhbicaaaT2
import Derived.KernelRfl
import Derived.MapKept
import Derived.Laws.StructEq
import Derived.Test.YtpcpjlbfhbicaaaPStyleNearestx
import Derived.Outline
import Derived.Laws.Cover3
import Derived.WalkMore
import Derived.Laws.Tables
import Derived.Laws.CopyOwn
section
set_option linter.unusedVariables false
set_option linter.unusedSimpArgs false
namespace Go.Proofs.Ytpcpjlbfhbicaaa.Sh
open Go Go.RowKit Go.Proofs.YtpcpjlbfhbicaaaW.PrintWords Go.Proofs.YtpcpjlbfhbicaaaW.PrintLast Go.Proofs.YtpcpjlbfhbicaaaW.PrintMore Go.Proofs.Ytpcpjlbfhbicaaa.PStyleProps
theorem ba_eq {a b : ByteArray} (h : (a == b) = true) : a = b := by
  rw [beq_toListBytes, Go.ByteArray.toList_eq, Go.ByteArray.toList_eq] at h
  have := eq_of_beq h
  apply ByteArray.ext
  exact Array.toList_inj.1 this
theorem ba_refl (n : ByteArray) : (n == n) = true := by rw [beq_toListBytes]; exact beq_self_eq_true _
theorem ba_ne {a b : ByteArray} (h : a ≠ b) : (a == b) = false := by
  cases c : (a == b) with
  | false => rfl
  | true => exact absurd (ba_eq c) h
/-- A style: its name, its parent's, its settings' slice. -/
abbrev Ent := ByteArray × ByteArray × Value
def Ent.val (m : Ent) : Value := .agg #[.string m.2.1, m.2.2]
def Has (es : List MapEntry) (M : List Ent) : Prop := es.map (fun e => (e.key, e.val)) = M.map (fun m => (Value.string m.1, m.val))
def found (M : List Ent) (n : ByteArray) : Option Ent := M.find? fun m => n == m.1
def zeroEnt : Value := .agg #[.string ⟨#[]⟩, .slice none 0 0]
theorem findNow_has (n : ByteArray) : ∀ (es : List MapEntry) (M : List Ent) (i : Nat), Has es M → ∃ o, Instr.findNow .string (.string n) es i = some o ∧ o.map (·.2) = (found M n).map Ent.val
  | [], M, i, h => by
    have : M = [] := by simpa [Has] using h.symm
    subst this
    exact ⟨none, rfl, rfl⟩
  | e :: es, M, i, h => by
    cases M with
    | nil => simp [Has] at h
    | cons m M =>
      simp only [Has, List.map_cons, List.cons.injEq, Prod.mk.injEq] at h
      obtain ⟨⟨hk, hv⟩, hr⟩ := h
      unfold Instr.findNow
      rw [hk]
      simp only [Instr.sameNow]
      by_cases c : (n == m.1) = true
      · rw [c]
        exact ⟨some (i, e.val), rfl, by simp [found, c, hv]⟩
      · have c' : (n == m.1) = false := by simpa using c
        rw [c']
        obtain ⟨o, h1, h2⟩ := findNow_has n es M (i + 1) hr
        exact ⟨o, h1, by rw [h2]; simp [found, List.find?_cons, c']⟩
theorem under75 : Try.prog.underlying 75 = some (.map 9 85) := Try.underlying75
def MapAt (w : World) (gm : Nat) (M : List Ent) : Prop := ∃ es clock, w.heap[gm]? = some (.map es clock) ∧ Has es.toList M ∧ MapKept.Stamped es clock
theorem run_lookup_false {w : World} {gm : Nat} {M : List Ent} (h : MapAt w gm M) (n : ByteArray) :
    (Instr.lookup 75 (.map (some gm)) (.string n) false).run Try.prog w = .ok (((found M n).map Ent.val).getD zeroEnt) w := by
  obtain ⟨es, clock, hg, hh, hst⟩ := h
  obtain ⟨o, h1, h2⟩ := findNow_has n es.toList M 0 hh
  have u9 : Try.prog.underlying 9 = some .string := Try.underlying9
  have hc : (Instr.checkKey es.isEmpty 10000 9 (.string n)).run Try.prog w = .ok () w := MapKept.run_checkKey (k := .string n) u9 (by simp [MapKept.IsKey]) _ 9999
  have hz : (zeroValue 85).run Try.prog w = .ok zeroEnt w := Try.zeroValue85 w
  cases o with
  | none =>
    have : found M n = none := by simpa using h2.symm
    rw [this]
    simp [Instr.lookup, run_underlying under75, MapKept.run_getObj_map hg, hc, MapKept.run_findKey u9 h1, hz, Result.andThen]
  | some p =>
    cases hf : found M n with
    | none => rw [hf] at h2; simp at h2
    | some m =>
      rw [hf] at h2
      have hv : p.2 = m.val := by simpa using h2
      simp [Instr.lookup, run_underlying under75, MapKept.run_getObj_map hg, hc, MapKept.run_findKey u9 h1, hv, Result.andThen]
theorem run_lookup_true {w : World} {gm : Nat} {M : List Ent} (h : MapAt w gm M) (n : ByteArray) :
    (Instr.lookup 75 (.map (some gm)) (.string n) true).run Try.prog w = .ok (.tuple #[((found M n).map Ent.val).getD zeroEnt, .bool (found M n).isSome]) w := by
  obtain ⟨es, clock, hg, hh, hst⟩ := h
  obtain ⟨o, h1, h2⟩ := findNow_has n es.toList M 0 hh
  have u9 : Try.prog.underlying 9 = some .string := Try.underlying9
  have hc : (Instr.checkKey es.isEmpty 10000 9 (.string n)).run Try.prog w = .ok () w := MapKept.run_checkKey (k := .string n) u9 (by simp [MapKept.IsKey]) _ 9999
  have hz : (zeroValue 85).run Try.prog w = .ok zeroEnt w := Try.zeroValue85 w
  cases o with
  | none =>
    have : found M n = none := by simpa using h2.symm
    rw [this]
    simp [Instr.lookup, run_underlying under75, MapKept.run_getObj_map hg, hc, MapKept.run_findKey u9 h1, hz, Result.andThen]
  | some p =>
    cases hf : found M n with
    | none => rw [hf] at h2; simp at h2
    | some m =>
      rw [hf] at h2
      have hv : p.2 = m.val := by simpa using h2
      simp [Instr.lookup, run_underlying under75, MapKept.run_getObj_map hg, hc, MapKept.run_findKey u9 h1, hv, Result.andThen]
/-- Defining: in its place where the name is there, else behind all. -/
def put (M : List Ent) (n p : ByteArray) (v : Value) : List Ent := match M with
  | [] => [(n, p, v)]
  | m :: r => if n == m.1 then (n, p, v) :: r else m :: put r n p v
theorem findNow_at (n : ByteArray) : ∀ (es : List MapEntry) (M : List Ent) (i : Nat) (q : Nat × Value), Has es M → Instr.findNow .string (.string n) es i = some (some q) →
    i ≤ q.1 ∧ ∃ e, es[q.1 - i]? = some e ∧ e.key = .string n ∧ ∀ p v, Has (es.modify (q.1 - i) fun e => { e with key := .string n, val := .agg #[.string p, v] }) (put M n p v)
  | [], M, i, q, h, hf => by cases hf
  | e :: es, M, i, q, h, hf => by
    cases M with
    | nil => simp [Has] at h
    | cons m M =>
      have h' := h
      simp only [Has, List.map_cons, List.cons.injEq, Prod.mk.injEq] at h'
      obtain ⟨⟨hk, hv⟩, hr⟩ := h'
      unfold Instr.findNow at hf
      rw [hk] at hf
      simp only [Instr.sameNow] at hf
      by_cases c : (n == m.1) = true
      · rw [c] at hf
        simp only [Option.some.injEq] at hf
        subst hf
        have hn : n = m.1 := ba_eq c
        refine ⟨Nat.le_refl _, e, by simp, by rw [hk, hn], fun p v => ?_⟩
        simp only [Nat.sub_self, Has, put, c, if_true, List.modify_zero_cons, List.map_cons]
        rw [show List.map (fun e => (e.key, e.val)) es = _ from hr]
        rfl
      · have c' : (n == m.1) = false := by simpa using c
        rw [c'] at hf
        obtain ⟨h1, e2, h2, h3, h4⟩ := findNow_at n es M (i + 1) q hr hf
        have e1 : q.1 - i = (q.1 - (i + 1)) + 1 := by omega
        refine ⟨by omega, e2, by rw [e1]; simpa using h2, h3, fun p v => ?_⟩
        rw [e1]
        have := h4 p v
        simp only [Has, put, c', List.modify_succ_cons, List.map_cons] at this ⊢
        rw [this, hk, hv]
        rfl
theorem findNow_no (n : ByteArray) : ∀ (es : List MapEntry) (M : List Ent) (i : Nat), Has es M → Instr.findNow .string (.string n) es i = some none → ∀ p v (c : Nat), Has (es ++ [{ key := .string n, val := .agg #[.string p, v], born := c }]) (put M n p v)
  | [], M, i, h, hf => by
    have : M = [] := by simpa [Has] using h.symm
    subst this
    intro p v c
    simp [Has, put, Ent.val]
  | e :: es, M, i, h, hf => by
    cases M with
    | nil => simp [Has] at h
    | cons m M =>
      have h' := h
      simp only [Has, List.map_cons, List.cons.injEq, Prod.mk.injEq] at h'
      obtain ⟨⟨hk, hv⟩, hr⟩ := h'
      unfold Instr.findNow at hf
      rw [hk] at hf
      simp only [Instr.sameNow] at hf
      by_cases c : (n == m.1) = true
      · rw [c] at hf; cases hf
      · have c' : (n == m.1) = false := by simpa using c
        rw [c'] at hf
        intro p v cl
        have := findNow_no n es M (i + 1) hr hf p v cl
        simp only [Has, put, c', List.cons_append, List.map_cons] at this ⊢
        rw [this, hk, hv]
        rfl
theorem findNow_none (n : ByteArray) : ∀ (es : List MapEntry) (M : List Ent) (i : Nat), Has es M → Instr.findNow .string (.string n) es i = some none → ∀ x, x ∈ es → x.key ≠ .string n
  | [], M, i, h, hf, x, hx => by cases hx
  | e :: es, M, i, h, hf, x, hx => by
    cases M with
    | nil => simp [Has] at h
    | cons m M =>
      simp only [Has, List.map_cons, List.cons.injEq, Prod.mk.injEq] at h
      obtain ⟨⟨hk, hv⟩, hr⟩ := h
      unfold Instr.findNow at hf
      rw [hk] at hf
      simp only [Instr.sameNow] at hf
      by_cases c : (n == m.1) = true
      · rw [c] at hf; cases hf
      · have c' : (n == m.1) = false := by simpa using c
        rw [c'] at hf
        rcases List.mem_cons.1 hx with rfl | hx
        · rw [hk]
          intro he
          have : m.1 = n := by simpa using he
          rw [this, ba_refl] at c'
          cases c'
        · exact findNow_none n es M (i + 1) hr hf x hx
theorem run_update {w : World} {gm : Nat} {M : List Ent} (h : MapAt w gm M) (n p : ByteArray) (v : Value) :
    ∃ o, (Instr.mapUpdate 75 (.map (some gm)) (.string n) (.agg #[.string p, v])).run Try.prog w = .ok () { w with heap := w.heap.setIfInBounds gm o } ∧ MapAt { w with heap := w.heap.setIfInBounds gm o } gm (put M n p v) := by
  obtain ⟨es, clock, hg, hh, hst⟩ := h
  obtain ⟨o, h1, h2⟩ := findNow_has n es.toList M 0 hh
  have u9 : Try.prog.underlying 9 = some .string := Try.underlying9
  have hc : (Instr.checkKey false 10000 9 (.string n)).run Try.prog w = .ok () w := MapKept.run_checkKey (k := .string n) u9 (by simp [MapKept.IsKey]) _ 9999
  cases o with
  | none =>
    refine ⟨.map (es.push { key := .string n, val := .agg #[.string p, v], born := clock }) (clock + 1), ?_, _, _, (MapKept.heap_set hg).1, ?_, MapKept.stamped_push hst (findNow_none n es.toList M 0 hh h1)⟩
    · simp [Instr.mapUpdate, run_underlying under75, MapKept.run_getObj_map hg, hc, MapKept.run_findKey u9 h1, MapKept.run_setObj_map _ hg, Result.andThen]
    · have := findNow_no n es.toList M 0 hh h1 p v clock
      simpa using this
  | some q =>
    obtain ⟨_, e, e1, e2, e3⟩ := findNow_at n es.toList M 0 q hh h1
    simp only [Nat.sub_zero] at e1 e3
    refine ⟨.map (es.modify q.1 fun e => { e with key := .string n, val := .agg #[.string p, v] }) clock, ?_, _, _, (MapKept.heap_set hg).1, ?_, MapKept.stamped_modify hst _ _ (fun _ _ => rfl) (fun x _ hx => ?_)⟩
    · have e1' : es[q.1]? = some e := by simpa using e1
      have hs : Instr.sameBits 10000 (.string n) (.string n) = true := by unfold Instr.sameBits; exact ba_refl n
      simp [Instr.mapUpdate, run_underlying under75, MapKept.run_getObj_map hg, hc, MapKept.run_findKey u9 h1, e1', e2, Instr.keyThatStays, hs, MapKept.run_setObj_map _ hg, Result.andThen]
    · have := e3 p v
      simpa using this
    · have e1' : es[q.1]? = some e := by simpa using e1
      rw [e1'] at hx
      obtain rfl := Option.some.inj hx
      exact e2.symm
end Go.Proofs.Ytpcpjlbfhbicaaa.Sh
end
section
set_option linter.unusedVariables false
set_option linter.unusedSimpArgs false
namespace Go.Proofs.Ytpcpjlbfhbicaaa.Sh
open Go Go.RowKit Go.Proofs.YtpcpjlbfhbicaaaW.PrintWords Go.Proofs.YtpcpjlbfhbicaaaW.PrintLast Go.Proofs.YtpcpjlbfhbicaaaW.PrintMore Go.Proofs.Ytpcpjlbfhbicaaa.PStyleProps
open Go.Proofs.Ytpcpjlbfhbicaaa.PStyleNearest (S37 k37 z37 rd_T37 at_T37 k37_open k37_openM k37_mk k37_mkM info37)
theorem eq_nil (gm : Nat) (w : World) : (binOp .eql 75 (.map (some gm)) (.map none)).run Try.prog w = .ok (.bool false) w := by
  simp only [binOp]
  simp [Go.run_equal_map_nil w 75 9 85 (some gm) under75]
theorem eq_nil43 (A : Option Addr) (n c : Nat) (w : World) : (binOp .eql 43 (.slice A n c) (.slice none 0 0)).run Try.prog w = .ok (.bool A.isNone) w := by
  simp only [binOp]
  simp [Go.run_equal_slice_nil w 43 37 A n c Try.underlying43]
theorem make_map (w : World) : (Instr.makeMap 75 none).run Try.prog w = .ok (.map (some w.heap.size)) (w.alloc (.map #[] 0)) := by
  simp [Instr.makeMap, go_sem]
set_option maxHeartbeats 4000000 in
set_option maxRecDepth 100000 in
theorem none_calls (gs gm : Nat) (w : World) (h : w.heap[gs]? = some (.cells #[.map (some gm)] 77 (0, 0))) :
    Calls Try.prog 40 #[.pointer (some ⟨gs, 0, none⟩)] w fun e w' => e = .returned (.bool false) ∧ w' = w := by
  have hu := Try.underlying77
  have hu5 := Try.underlying75
  have e0 := (blk_cell h 0).trans rfl
  have hq : ∀ w : World, (binOp .eql 75 (.map (some gm)) (.map none)).run Try.prog w = .ok (.bool false) w := eq_nil gm
  go_enter Try.func40, Try.ntmps40
  go_wp2
  go_ret
  exact ⟨rfl, rfl⟩
set_option maxHeartbeats 4000000 in
set_option maxRecDepth 100000 in
theorem new_calls (w : World) :
    Calls Try.prog 22 #[] w fun e w' => ∃ gs gm, e = .returned (.pointer (some ⟨gs, 0, none⟩)) ∧ w.heap.size ≤ gs ∧ w.heap.size ≤ gm ∧ gs ≠ gm ∧ w'.heap[gs]? = some (.cells #[.map (some gm)] 77 (0, 0)) ∧ w'.heap[gm]? = some (.map #[] 0) ∧ Below w.heap.size w w' := by
  have hu := Try.underlying77
  have hu5 := Try.underlying75
  have hm : ∀ w : World, (Instr.makeMap 75 none).run Try.prog w = .ok (.map (some w.heap.size)) (w.alloc (.map #[] 0)) := make_map
  go_enter Try.func22, Try.ntmps22
  go_wp2
  go_ret
  refine ⟨w.heap.size + 1, w.heap.size, rfl, ?_, ?_, ?_, ?_, ?_, below_alloc (below_alloc (Below.refl _ _) _) _⟩
  · omega
  · exact Nat.le_refl _
  · omega
  · have := heap_alloc_new (w.alloc (Obj.map #[] 0)) (Obj.cells #[Value.map (some w.heap.size)] 77)
    simpa using this
  · exact (Below.heap_alloc _ _ _ (by simp)).trans (heap_alloc_new w _)
/-- What of a slice is read. -/
def Sl (w : World) (v : Value) (l : List S37) : Prop := ∃ A c, v = .slice A l.length c ∧ l.length ≤ c ∧ Kd.C k37 w A l.length l
theorem Sl.below {w w' : World} {v : Value} {l : List S37} (h : Sl w v l) (hb : Below w.heap.size w w') : Sl w' v l := by
  obtain ⟨A, c, e, hc, hr⟩ := h
  exact ⟨A, c, e, hc, Kd.C_below hr hb⟩
set_option maxHeartbeats 4000000 in
set_option maxRecDepth 100000 in
theorem clone_calls (v : Value) (l : List S37) (w : World) (h : Sl w v l) (hl : l.length ≤ 64) :
    Calls Try.prog 44 #[v] w fun e w' => ∃ v', e = .returned v' ∧ Sl w' v' l ∧ Below w.heap.size w w' := by
  obtain ⟨A, c, rfl, hc, hr⟩ := h
  have hu43 := Try.underlying43
  have hu37 := Try.underlying37
  have HR := Aside0.mk hr
  have HC := Aside0.mk hc
  have HL := Aside0.mk hl
  clear hr hc hl
  cases A with
  | none =>
    have hq : ∀ w : World, (binOp .eql 43 (.slice none l.length c) (.slice none 0 0)).run Try.prog w = .ok (.bool true) w := eq_nil43 none l.length c
    go_enter Try.func44, Try.ntmps44
    go_wp2
    go_ret
    have e : l = [] := by
      cases l with
      | nil => rfl
      | cons a l => obtain ⟨ad, h, _⟩ := HR.out.2.2 (by simp); cases h
    subst e
    exact ⟨_, rfl, ⟨none, 0, rfl, Nat.le_refl _, Kd.C_nil _ _⟩, Below.refl _ _⟩
  | some ad =>
    have hq : ∀ w : World, (binOp .eql 43 (.slice (some ad) l.length c) (.slice none 0 0)).run Try.prog w = .ok (.bool false) w := eq_nil43 (some ad) l.length c
    go_enter Try.func44, Try.ntmps44
    have HO0 : Aside0 (Kd.R k37 37 (w.alloc (.cells #[] 37)) w.heap.size (fun _ => True) (.slice (some ⟨w.heap.size, 0, none⟩) 0 0) []) := ⟨⟨fun _ _ => trivial, [], World.ownsRow_made w #[] 0 (Nat.le_refl _) (Nat.zero_le _) rfl, Reps.none _ _⟩⟩
    go_wp2_with (first | (at_builtin; refine Kd.R_append_rows k37 (w0 := w) (Rr := fun x cs => cs = [.int .i64 x.f0, .int .i64 x.f1]) w.heap.size rfl (.tmp 5) (.tmp 6) 43 37 (.agg #[(.int .i64 0), (.int .i64 0)]) 16 rfl Try.underlying43 info37 rfl (by decide) (by omega) (.slice (some ⟨w.heap.size, 0, none⟩) 0 0) [] l (some ad) l.length c (fun _ => True) (fun _ => False) rfl rfl HO0.out ?aR ?aK (fun _ hk => hk.elim) (fun _ _ => trivial) (below_alloc (Below.refl _ _) _) ?aB ?aL ?_; (case aR => exact Kd.C_below HR.out (below_alloc (Below.refl _ _) _) |>.imp_ (Below.refl _ _) (fun _ _ hp => k37_open hp)); (case aK => (intro x cs hx; subst hx; exact k37_mkM _ _ _ x)); (case aB => simp); (case aL => (have := HL.out; simp only [List.length_nil]; omega)); intro v1 w1 ho1 hb1 hg1 hat1; have HO1 := Aside0.mk ho1; have HB1 := Aside0.mk hb1; clear ho1 hb1 hg1 hat1))
    go_ret
    obtain ⟨A', c', e', hc', hr'⟩ := Kd.R_reads HO1.out
    refine ⟨_, rfl, ⟨A', c', e', hc', hr'⟩, HB1.out⟩
end Go.Proofs.Ytpcpjlbfhbicaaa.Sh
end
section
set_option linter.unusedVariables false
set_option linter.unusedSimpArgs false
namespace Go.Proofs.Ytpcpjlbfhbicaaa.Sh
open Go Go.RowKit Go.Proofs.YtpcpjlbfhbicaaaW.PrintWords Go.Proofs.YtpcpjlbfhbicaaaW.PrintLast Go.Proofs.YtpcpjlbfhbicaaaW.PrintMore Go.Proofs.Ytpcpjlbfhbicaaa.PStyleProps
open Go.Proofs.Ytpcpjlbfhbicaaa.PStyleNearest (S37 k37 z37 rd_T37 at_T37 k37_open k37_openM k37_mk k37_mkM info37)
theorem list_ne {o : ByteArray} (h : ¬ o = ⟨#[]⟩) : o.toList.isEmpty = false := by
  cases c : o.toList.isEmpty with
  | false => rfl
  | true =>
    exfalso; apply h
    rw [Go.ByteArray.toList_eq] at c
    apply ByteArray.ext
    apply Array.toList_inj.1
    simpa using c
theorem list_neq {o p : ByteArray} (h : ¬ o = p) : (o.toList == p.toList) = false := by
  have := ba_ne h
  rwa [beq_toListBytes] at this
def up (M : List Ent) (n : ByteArray) : ByteArray := ((found M n).map (·.2.1)).getD ⟨#[]⟩
def sets (M : List Ent) (n : ByteArray) : Value := ((found M n).map (·.2.2)).getD (.slice none 0 0)
theorem ent_val (M : List Ent) (n : ByteArray) : ((found M n).map Ent.val).getD zeroEnt = .agg #[.string (up M n), sets M n] := by
  unfold up sets
  cases found M n with
  | none => rfl
  | some m => rfl
theorem look {w : World} {gm : Nat} {M : List Ent} (h : MapAt w gm M) (n : ByteArray) :
    (Instr.lookup 75 (.map (some gm)) (.string n) false).run Try.prog w = .ok (.agg #[.string (up M n), sets M n]) w := by
  rw [run_lookup_false h, ent_val]
theorem look2 {w : World} {gm : Nat} {M : List Ent} (h : MapAt w gm M) (n : ByteArray) :
    (Instr.lookup 75 (.map (some gm)) (.string n) true).run Try.prog w = .ok (.tuple #[.agg #[.string (up M n), sets M n], .bool (found M n).isSome]) w := by
  rw [run_lookup_true h, ent_val]
def aboveF (M : List Ent) (who : ByteArray) : Nat → ByteArray → Option Bool
  | 0, _ => none
  | k + 1, o => if o = ⟨#[]⟩ then some false else if o = who then some true else aboveF M who k (up M o)
theorem field0 (p : ByteArray) (v : Value) (w : World) : (Instr.field 85 (.agg #[.string p, v]) 0).run Try.prog w = .ok (.string p) w := by
  have h8 := run_underlying Try.underlying85
  have h9 := run_underlying Try.underlying9
  simp [Instr.field, h8, part, h9, asAgg, Result.andThen]
set_option maxHeartbeats 4000000 in
set_option maxRecDepth 100000 in
theorem above_calls (gs gm : Nat) (M : List Ent) (k : Nat) (who ofn : ByteArray) (b : Bool) (w : World) (h0 : w.heap[gs]? = some (.cells #[.map (some gm)] 77 (0, 0))) (hm : MapAt w gm M) (h : aboveF M who k ofn = some b) :
    Calls Try.prog 43 #[.pointer (some ⟨gs, 0, none⟩), .string who, .string ofn] w fun e w' => e = .returned (.bool b) ∧ w' = w := by
  have hu := Try.underlying77
  have hu5 := Try.underlying75
  have hu8 := Try.underlying85
  have e0 := (blk_cell h0 0).trans rfl
  have hl := look hm
  have hf0 := field0
  have H := Aside0.mk h
  clear h h0 hm
  go_enter Try.func43, Try.ntmps43
  go_wp2
  go_step3
  go_wp2
  go_step3
  go_wp2
  go_loopg [2] k (fun kq v2 w' => ∃ o, v2 = .string o ∧ Aside0 (aboveF M who kq o = some b) ∧ Aside0 (w' = w))
  case atStart => exact ⟨_, rfl, H, ⟨rfl⟩⟩
  case round =>
    clear H
    obtain ⟨o, rfl, HA, HW⟩ := hrel
    obtain rfl := HW.out
    cases gk with
    | zero => exact absurd HA.out (by simp [aboveF])
    | succ k1 =>
      have h := HA.out
      simp only [aboveF] at h
      by_cases c1 : o = ⟨#[]⟩
      · rw [if_pos c1] at h
        obtain rfl := Option.some.inj h
        subst c1
        go_wp2
        go_ret
        exact ⟨rfl, rfl⟩
      · rw [if_neg c1] at h
        have c1' := ba_ne c1
        have c1'' := list_ne c1
        by_cases c2 : o = who
        · rw [if_pos c2] at h
          obtain rfl := Option.some.inj h
          subst c2
          have c2' := ba_refl o
          have c2'' : (o.toList == o.toList) = true := beq_self_eq_true _
          go_wp2
          go_ret
          exact ⟨rfl, rfl⟩
        · rw [if_neg c2] at h
          have c2' := ba_ne c2
          have c2'' := list_neq c2
          have H' := Aside0.mk h
          clear h c2 c1
          go_wp2
          go_roundg k1
          case measure => omega
          case rel => exact ⟨_, rfl, H', ⟨rfl⟩⟩
end Go.Proofs.Ytpcpjlbfhbicaaa.Sh
end
section
set_option linter.unusedVariables false
set_option linter.unusedSimpArgs false
namespace Go.Proofs.Ytpcpjlbfhbicaaa.Sh
open Go Go.RowKit Go.Proofs.YtpcpjlbfhbicaaaW.PrintWords Go.Proofs.YtpcpjlbfhbicaaaW.PrintLast Go.Proofs.YtpcpjlbfhbicaaaW.PrintMore Go.Proofs.Ytpcpjlbfhbicaaa.PStyleProps
open Go.Proofs.Ytpcpjlbfhbicaaa.PStyleNearest (S37 k37 z37 rd_T37 at_T37 k37_open k37_openM k37_mk k37_mkM info37)
/-- The 17 values as they lie. -/
def row (f : Int → Int) : Array Value := #[.int .i64 (f 1), .int .i64 (f 2), .int .i64 (f 3), .int .i64 (f 4), .int .i64 (f 5), .int .i64 (f 6), .int .i64 (f 7), .int .i64 (f 8), .int .i64 (f 9), .int .i64 (f 10), .int .i64 (f 11), .int .i64 (f 12), .int .i64 (f 13), .int .i64 (f 14), .int .i64 (f 15), .int .i64 (f 16), .int .i64 (f 17)]
theorem row_all (f : Int → Int) : (row f).all (·.oneCell') = true := by simp [row, Value.oneCell']
def upd (f : Int → Int) (n v : Int) : Int → Int := fun j => if j = n then v else f j
def withF (f : Int → Int) (l : List S37) : Int → Int := l.foldl (fun f s => upd f s.f0 s.f1) f
def fitsAll (l : List S37) : Prop := ∀ s ∈ l, fitB s.f0 s.f1 = true
theorem fit_range {n v : Int} (h : fitB n v = true) : 1 ≤ n ∧ n ≤ 17 := by
  simp only [fitB, Bool.and_eq_true, decide_eq_true_eq] at h
  exact ⟨h.1.1.1, h.1.1.2⟩
theorem with1 (f : Int → Int) (n v : Int) (w : World) (h : fitB n v = true) : Calls Try.prog 17 #[.agg (row f), .agg #[.int .i64 n, .int .i64 v]] w fun e w' => e = .returned (.tuple #[.agg (row (upd f n v)), .int .i64 0]) ∧ Below w.heap.size w w' :=
  with_in (f 1) (f 2) (f 3) (f 4) (f 5) (f 6) (f 7) (f 8) (f 9) (f 10) (f 11) (f 12) (f 13) (f 14) (f 15) (f 16) (f 17) n v 20 w (fit_range h).1 (fit_range h).2 ((fits_f n v).trans (by rw [h]))
theorem info23 : (Try.prog.info? 23).map (·.size) = some 17 := by kernel_rfl
set_option maxHeartbeats 4000000 in
set_option maxRecDepth 100000 in
theorem with_calls (f : Int → Int) (v : Value) (l : List S37) (w : World) (hv : Sl w v l) (hf : fitsAll l) :
    Calls Try.prog 45 #[.agg (row f), v] w fun e w' => e = .returned (.agg (row (withF f l))) ∧ Below w.heap.size w w' := by
  obtain ⟨A, c, rfl, hc, hr⟩ := hv
  have hu := Try.underlying23
  have hu2 := Try.underlying37
  have HR := Aside0.mk hr
  have HF := Aside0.mk hf
  obtain ⟨r, hr0⟩ : ∃ r, Aside0 (row (withF f l) = r) := ⟨_, ⟨rfl⟩⟩
  rw [hr0.out]
  clear hr hf hc
  obtain ⟨R, hR⟩ : ∃ R, Aside0 (row f = R) := ⟨_, ⟨rfl⟩⟩
  have hcells : (Value.agg R).cells = R := by rw [← hR.out]; rfl
  rw [hR.out]
  go_enter Try.func45, Try.ntmps45
  go_wp2_with (first | ((with_reducible refine gate_dst (N := 2) rfl ?_); refine box_event ?hg (N := 2) ?hd (cs := R) (t := 23) ?hr ?_; (case hd => rfl); (case hg => rfl); (case hr => first | (go_simp; done) | (go_simp; rfl)); intro g1 hg w1 hbox hb; have HB1 := Aside0.mk hb; have BK1 := Aside0.mk hbox; have GE1 : Aside0 (w.heap.size ≤ g1) := ⟨by rw [hg]; exact Nat.le_refl _⟩; clear hb hbox hg) | ((with_reducible refine gate_dst (N := 4) rfl ?_); refine box_event ?hg (N := 4) ?hd (cs := #[.int .i64 0, .int .i64 0, .int .i64 0, .int .i64 0, .int .i64 0, .int .i64 0, .int .i64 0, .int .i64 0, .int .i64 0, .int .i64 0, .int .i64 0, .int .i64 0, .int .i64 0, .int .i64 0, .int .i64 0, .int .i64 0, .int .i64 0]) (t := 23) ?hr ?_; (case hd => rfl); (case hg => rfl); (case hr => first | (go_simp; done) | (go_simp; rfl)); intro g3 hg w3 hbox hb; have HB3 := Aside0.mk (below_step HB1.out hb); have BK3 := Aside0.mk hbox; have GE3 : Aside0 (w.heap.size ≤ g3) := ⟨by rw [hg]; exact below_size HB1.out⟩; have N13 : Aside0 (g1 ≠ g3) := ⟨by rw [hg]; exact Nat.ne_of_lt (blk_lt BK1.out)⟩; have BK1b := Aside0.mk (blk_below BK1.out hb); clear hb hbox hg))
  go_loopg [9] l.length (fun kq v9 w' => ∃ i : Int, v9 = .int .i64 i ∧ Aside0 (0 ≤ i ∧ i + kq = l.length) ∧ (∃ fi, Aside0 (row (withF fi (l.drop i.toNat)) = r) ∧ Aside0 (w'.heap[g1]? = some (.cells (row fi) 23 (0, 0)))) ∧ Aside0 (w'.heap[g3]? = some (.cells #[.int .i64 0, .int .i64 0, .int .i64 0, .int .i64 0, .int .i64 0, .int .i64 0, .int .i64 0, .int .i64 0, .int .i64 0, .int .i64 0, .int .i64 0, .int .i64 0, .int .i64 0, .int .i64 0, .int .i64 0, .int .i64 0, .int .i64 0] 23 (0, 0))) ∧ Aside0 (Below w.heap.size w w'))
  case atStart => exact ⟨0, rfl, ⟨by omega, by simp⟩, ⟨f, hr0, by rw [hR.out]; exact BK1b⟩, BK3, HB3⟩
  case round =>
    clear hr0 HB1 HB3 BK1 BK1b BK3 hR hcells
    obtain ⟨i, rfl, HK, ⟨fi, HA, BK1⟩, BK3, HB⟩ := hrel
    cases gk with
    | zero =>
      have hk := HK.out
      have c1 : decide (i < (l.length : Int)) = false := decide_eq_false (by omega)
      have hd : l.drop i.toNat = [] := List.drop_eq_nil_of_le (by omega)
      have ha := HA.out
      rw [hd] at ha
      have ha' : row fi = r := ha
      rw [ha'] at BK1
      have hs : r.size = 17 := by rw [← ha']; rfl
      have h1 : r.all (·.oneCell') = true := by rw [← ha']; exact row_all _
      have HS := Aside0.mk hs
      have HO := Aside0.mk h1
      clear HA ha hd hk ha' hs h1
      go_wp2_with (first | ((with_reducible refine gate_dst (N := 20) rfl ?_); refine wpList_load_row rfl 23 (.tmp 2) rfl g1 rfl 23 r (0, 0) _ BK1.out Try.underlying23 rfl (by rw [HS.out]; exact info23) ?_) | ((with_reducible refine gate_store (t := 23) (p := 4) rfl ?_); refine wpList_store_row rfl 23 (.tmp 4) (.tmp 20) rfl g3 r rfl rfl 23 #[.int .i64 0, .int .i64 0, .int .i64 0, .int .i64 0, .int .i64 0, .int .i64 0, .int .i64 0, .int .i64 0, .int .i64 0, .int .i64 0, .int .i64 0, .int .i64 0, .int .i64 0, .int .i64 0, .int .i64 0, .int .i64 0, .int .i64 0] BK3.out (by rw [HS.out]; exact info23) (by rw [HS.out]; rfl) HO.out ?_; have HB9 := Aside0.mk (below_setRow HB.out GE3.out r); have BK9 := Aside0.mk (setRow_heap _ g3 _ r 23 (0, 0) BK3.out); clear HB BK3; generalize World.setRow _ g3 r = w9 at HB9 BK9 ⊢))
      refine bodyPost_ret (results_cell_row rfl _ _ g3 23 r (0, 0) _ rfl BK9.out Try.underlying23 rfl (by rw [HS.out]; exact info23)) rfl ?_
      exact ⟨rfl, HB9.out⟩
    | succ k1 =>
      have hk := HK.out
      have p108 : 0 ≤ i := hk.1
      have q108 : i < (l.length : Int) := by omega
      have c1 : decide (i < (l.length : Int)) = true := decide_eq_true q108
      have c2 : decide (0 ≤ i) = true := decide_eq_true p108
      have hg : l[i.toNat]? = some (rd_T37 l i) := by
        unfold rd_T37
        rw [List.getD_eq_getElem?_getD, List.getElem?_eq_getElem (by omega)]
        rfl
      have hfit := HF.out _ (List.mem_of_getElem? hg)
      have hdrop : l.drop i.toNat = rd_T37 l i :: l.drop (i.toNat + 1) := by
        rw [List.drop_eq_getElem_cons (by omega)]
        rw [List.getElem?_eq_getElem (by omega)] at hg
        injection hg with hg
        rw [hg]
      have ha := HA.out
      rw [hdrop] at ha
      have HA' : Aside0 (row (withF (upd fi (rd_T37 l i).f0 (rd_T37 l i).f1) (l.drop (i.toNat + 1))) = r) := ⟨ha⟩
      have HG : Aside0 (∀ w, Calls Try.prog 17 #[.agg (row fi), .agg #[.int .i64 (rd_T37 l i).f0, .int .i64 (rd_T37 l i).f1]] w fun e w' => e = .returned (.tuple #[.agg (row (upd fi (rd_T37 l i).f0 (rd_T37 l i).f1)), .int .i64 0]) ∧ Below w.heap.size w w') := ⟨fun w => with1 fi _ _ w hfit⟩
      obtain ⟨ad, e108, hx0, hx1⟩ := at_T37 HR.out i p108 q108
      cases e108
      replace hx0 := (HB.out.cell (World.block_lt_of_cell? w _ hx0)).trans hx0
      replace hx1 := (HB.out.cell (World.block_lt_of_cell? w _ hx1)).trans hx1
      clear ha hdrop hfit hg HA hk
      replace p108 := eq_true p108
      replace q108 := eq_true q108
      have HS : Aside0 ((row fi).size = 17) := ⟨rfl⟩
      have HS2 : Aside0 ((row (upd fi (rd_T37 l i).f0 (rd_T37 l i).f1)).size = 17) := ⟨rfl⟩
      have HO2 : Aside0 ((row (upd fi (rd_T37 l i).f0 (rd_T37 l i).f1)).all (·.oneCell') = true) := ⟨row_all _⟩
      obtain ⟨f2, hf2⟩ : ∃ f2, Aside0 (upd fi (rd_T37 l i).f0 (rd_T37 l i).f1 = f2) := ⟨_, ⟨rfl⟩⟩
      rw [hf2.out] at HA' HG HS2 HO2
      obtain ⟨R2, hR2⟩ : ∃ R2, Aside0 (row f2 = R2) := ⟨_, ⟨rfl⟩⟩
      rw [hR2.out] at HG HS2 HO2
      obtain ⟨R1, hR1⟩ : ∃ R1, Aside0 (row fi = R1) := ⟨_, ⟨rfl⟩⟩
      rw [hR1.out] at HG HS BK1
      generalize (rd_T37 l i).f0 = p0 at hx0 HG
      generalize (rd_T37 l i).f1 = p1 at hx1 HG
      go_wp2_with (first | ((with_reducible refine gate_dst (N := 6) rfl ?_); refine box_event ?hg (N := 6) ?hd (cs := #[.int .i64 0, .int .i64 0]) (t := 37) ?hr ?_; (case hd => rfl); (case hg => rfl); (case hr => first | (go_simp; done) | (go_simp; rfl)); intro g6 hg w6 hbox hb; have HB6 := Aside0.mk (below_step HB.out hb); have BK6 := Aside0.mk hbox; have GE6 : Aside0 (w.heap.size ≤ g6) := ⟨by rw [hg]; exact below_size HB.out⟩; have N16 : Aside0 (g1 ≠ g6) := ⟨by rw [hg]; exact Nat.ne_of_lt (blk_lt BK1.out)⟩; have N36 : Aside0 (g3 ≠ g6) := ⟨by rw [hg]; exact Nat.ne_of_lt (blk_lt BK3.out)⟩; have BK1c := Aside0.mk (blk_below BK1.out hb); have BK3c := Aside0.mk (blk_below BK3.out hb); clear HB BK1 BK3; have z0 : w6.cell? ⟨g6, 0, none⟩ = some (.int .i64 0) := (blk_cell BK6.out 0).trans rfl; have z1 : w6.cell? ⟨g6, 1, none⟩ = some (.int .i64 0) := (blk_cell BK6.out 1).trans rfl; have zf0 := blk_frozen BK6.out 0; have zf1 := blk_frozen BK6.out 1; clear hb hbox hg) | ((with_reducible refine gate_dst (N := 14) rfl ?_); have BK1d := Aside0.mk (blk_far (p := ⟨g6, 1, none⟩) (blk_far (p := ⟨g6, 0, none⟩) BK1c.out N16.out (.int .i64 p0)) N16.out (.int .i64 p1)); have BK3d := Aside0.mk (blk_far (p := ⟨g6, 1, none⟩) (blk_far (p := ⟨g6, 0, none⟩) BK3c.out N36.out (.int .i64 p0)) N36.out (.int .i64 p1)); have HB7 := Aside0.mk (below_set (j := 1) (v := .int .i64 p1) (below_set (j := 0) (v := .int .i64 p0) HB6.out GE6.out) GE6.out); have BK6b := Aside0.mk (blk_put (cs := #[.int .i64 p0, .int .i64 0]) (cs' := #[.int .i64 p0, .int .i64 p1]) (blk_put (cs := #[.int .i64 0, .int .i64 0]) (cs' := #[.int .i64 p0, .int .i64 0]) BK6.out 0 (.int .i64 p0) rfl) 1 (.int .i64 p1) rfl); clear z0 z1 zf0 zf1 HB6 BK6 BK1c BK3c; generalize World.setCell (World.setCell w6 _ _) _ _ = w7 at *; have z0 : w7.cell? ⟨g6, 0, none⟩ = some (.int .i64 p0) := (blk_cell BK6b.out 0).trans rfl; have z1 : w7.cell? ⟨g6, 1, none⟩ = some (.int .i64 p1) := (blk_cell BK6b.out 1).trans rfl; refine wpList_load_row rfl 23 (.tmp 2) rfl g1 rfl 23 R1 (0, 0) _ BK1d.out Try.underlying23 rfl (by rw [HS.out]; exact info23) ?_) | (go_at_call 17; refine (HG.out _).mono ?_; rintro e w8 ⟨rfl, hb⟩; have HB8 := Aside0.mk (below_step HB7.out hb); have BK1e := Aside0.mk (blk_below BK1d.out hb); have BK3e := Aside0.mk (blk_below BK3d.out hb); clear hb z0 z1 HB7 BK1d BK3d) | ((with_reducible refine gate_store (t := 23) (p := 2) rfl ?_); refine wpList_store_row rfl 23 (.tmp 2) (.tmp 17) rfl g1 R2 rfl rfl 23 R1 BK1e.out (by rw [HS2.out]; exact info23) (by rw [HS2.out, HS.out]) HO2.out ?_; have HB9 := Aside0.mk (below_setRow HB8.out GE1.out R2); have BK9 := Aside0.mk (setRow_heap _ g1 _ R2 23 (0, 0) BK1e.out); have BK3f := Aside0.mk ((setRow_other _ g1 g3 R2 N13.out.symm).trans BK3e.out); clear HB8 BK1e BK3e; generalize World.setRow _ g1 R2 = w9 at HB9 BK9 BK3f ⊢))
      go_roundg k1
      case measure => omega
      case rel => exact ⟨i + 1, by rw [show wrap64 (i + 1) = i + 1 by (have h1 := HR.out.2.1; have h2 := HK.out; unfold wrap64; omega)], ⟨by have := HK.out; omega, by have := HK.out; omega⟩, ⟨f2, by rw [show (i + 1).toNat = i.toNat + 1 by have := HK.out; omega]; exact HA', by rw [hR2.out]; exact BK9⟩, BK3f, HB9⟩
end Go.Proofs.Ytpcpjlbfhbicaaa.Sh
end
section
set_option linter.unusedVariables false
set_option linter.unusedSimpArgs false
namespace Go.Proofs.Ytpcpjlbfhbicaaa.Sh
open Go Go.RowKit Go.Proofs.YtpcpjlbfhbicaaaW.PrintWords Go.Proofs.YtpcpjlbfhbicaaaW.PrintLast Go.Proofs.YtpcpjlbfhbicaaaW.PrintMore Go.Proofs.Ytpcpjlbfhbicaaa.PStyleProps
open Go.Proofs.Ytpcpjlbfhbicaaa.PStyleNearest (S37 k37 z37 rd_T37 at_T37 k37_open k37_openM k37_mk k37_mkM info37)
/-- A style: its name, its parent's, its settings. -/
abbrev Sty := ByteArray × ByteArray × List S37
def Reads (w : World) : List Ent → List Sty → Prop
  | [], [] => True
  | m :: M, s :: L => m.1 = s.1 ∧ m.2.1 = s.2.1 ∧ Sl w m.2.2 s.2.2 ∧ Reads w M L
  | _, _ => False
theorem Reads.imp {w w' : World} (h : ∀ v l, Sl w v l → Sl w' v l) : ∀ {M : List Ent} {L : List Sty}, Reads w M L → Reads w' M L
  | [], [], _ => trivial
  | _ :: _, _ :: _, ⟨h1, h2, h3, h4⟩ => ⟨h1, h2, h _ _ h3, Reads.imp h h4⟩
  | [], _ :: _, h => h.elim
  | _ :: _, [], h => h.elim
/-- The Sheet at gs, its map at gm, holds the styles L. -/
def Sheet (w : World) (gs gm : Nat) (L : List Sty) : Prop := w.heap[gs]? = some (.cells #[.map (some gm)] 77 (0, 0)) ∧ ∃ M, MapAt w gm M ∧ Reads w M L
theorem MapAt.lt {w : World} {gm : Nat} {M : List Ent} (h : MapAt w gm M) : gm < w.heap.size := by
  obtain ⟨es, clock, hg, _⟩ := h
  exact (Array.getElem?_eq_some_iff.1 hg).1
theorem MapAt.below {w w' : World} {gm : Nat} {M : List Ent} (h : MapAt w gm M) (hb : Below w.heap.size w w') : MapAt w' gm M := by
  have hl := h.lt
  obtain ⟨es, clock, hg, hh⟩ := h
  exact ⟨es, clock, (hb.block gm hl).trans hg, hh⟩
theorem Sheet.below {w w' : World} {gs gm : Nat} {L : List Sty} (h : Sheet w gs gm L) (hb : Below w.heap.size w w') : Sheet w' gs gm L := by
  obtain ⟨h1, M, h2, h3⟩ := h
  exact ⟨blk_below h1 hb, M, h2.below hb, h3.imp (fun _ _ h => h.below hb)⟩
def fnd (L : List Sty) (n : ByteArray) : Option Sty := L.find? fun s => n == s.1
def upL (L : List Sty) (n : ByteArray) : ByteArray := ((fnd L n).map (·.2.1)).getD ⟨#[]⟩
def setsL (L : List Sty) (n : ByteArray) : List S37 := ((fnd L n).map (·.2.2)).getD []
theorem Sl.nil (w : World) : Sl w (.slice none 0 0) [] := ⟨none, 0, rfl, Nat.le_refl _, Kd.C_nil _ _⟩
theorem reads_all {w : World} (n : ByteArray) : ∀ {M : List Ent} {L : List Sty}, Reads w M L → up M n = upL L n ∧ Sl w (sets M n) (setsL L n) ∧ (found M n).isSome = (fnd L n).isSome ∧ M.length = L.length
  | [], [], _ => ⟨rfl, Sl.nil w, rfl, rfl⟩
  | m :: M, s :: L, ⟨h1, h2, h3, h4⟩ => by
    obtain ⟨i1, i2, i3, i4⟩ := reads_all n h4
    cases c : (n == m.1) with
    | true =>
      have c' : (n == s.1) = true := by rw [← h1]; exact c
      simp only [up, upL, sets, setsL, found, fnd, List.find?_cons, c, c', Option.map_some, Option.getD_some, Option.isSome_some, List.length_cons]
      exact ⟨h2, h3, trivial, by rw [i4]⟩
    | false =>
      have c' : (n == s.1) = false := by rw [← h1]; exact c
      simp only [up, upL, sets, setsL, found, fnd, List.find?_cons, c, c', List.length_cons] at i1 i2 i3 ⊢
      exact ⟨i1, i2, i3, by rw [i4]⟩
  | [], _ :: _, h => h.elim
  | _ :: _, [], h => h.elim
theorem row_ {P : Program} {ops : Array Oper} {Q : Exit → Act → World → Prop} {oi : Oper} {a : Act} {w : World} {K : Act → World → Prop} (hw : Region.wanted oi (yielded ops a.tmps) = true) (hN : oi.dst = none) (ty : TypeId) (x y : Operand) (ho : oi.op = .store ty x y)
    (g : Nat) (cells : Array Value) (hx : a.eval x = .pointer (some ⟨g, 0, none⟩)) (hy : a.eval y = .agg cells)
    (t : TypeId) (old : Array Value) (hg : w.heap[g]? = some (.cells old t (0, 0))) (hi : (P.info? ty).map (·.size) = some cells.size)
    (hold : old.size = cells.size) (h1 : cells.all (·.oneCell') = true) (h : K a (w.setRow g cells)) : if Region.wanted oi (yielded ops a.tmps) = true then Oper.wp P oi a w K Q else K (a.put none undef) w := by
  rw [if_pos hw]
  refine wp_store_row ty x y ho g cells hx hy t old hg hi hold h1 ?_
  rw [hN]
  exact h
/-- What there is without a style. -/
def base : Int → Int := fun j => if j = 1 then 10 else if j = 2 then 12 else if j = 11 then 1 else if j = 12 then 1 else 0
theorem base_calls (w : World) : Calls Try.prog 14 #[] w fun e w' => e = .returned (.agg (row base)) ∧ Below w.heap.size w w' :=
  PStyleNearest.style_Base.calls 10 12 0 0 0 0 0 0 0 0 1 1 0 0 0 0 0 w rfl
def makesF (L : List Sty) : Nat → ByteArray → Option (Int → Int)
  | 0, _ => none
  | k + 1, n => if n = ⟨#[]⟩ then some base else (makesF L k (upL L n)).map fun f => withF f (setsL L n)
def Fits (L : List Sty) : Prop := ∀ s ∈ L, fitsAll s.2.2
theorem Fits.sets {L : List Sty} (h : Fits L) (n : ByteArray) : fitsAll (setsL L n) := by
  unfold setsL
  cases c : fnd L n with
  | none => intro s hs; cases hs
  | some s => exact h s (List.mem_of_find?_eq_some c)
set_option maxHeartbeats 4000000 in
set_option maxRecDepth 100000 in
theorem makes_calls (gs gm : Nat) (L : List Sty) (hfit : Fits L) : ∀ (k : Nat) (n : ByteArray) (f : Int → Int) (w : World), Sheet w gs gm L → makesF L k n = some f →
    Calls Try.prog 46 #[.pointer (some ⟨gs, 0, none⟩), .string n] w fun e w' => e = .returned (.agg (row f)) ∧ Below w.heap.size w w'
  | 0, n, f, w, hs, h => by cases h
  | k + 1, n, f, w, hs, h => by
    have hu := Try.underlying77
    have hu5 := Try.underlying75
    have hu8 := Try.underlying85
    have hu23 := Try.underlying23
    simp only [makesF] at h
    by_cases c1 : n = ⟨#[]⟩
    · rw [if_pos c1] at h
      obtain rfl := Option.some.inj h
      subst c1
      have HS2 : Aside0 ((row base).size = 17) := ⟨rfl⟩
      have HO2 : Aside0 ((row base).all (·.oneCell') = true) := ⟨row_all _⟩
      have HG : Aside0 (∀ w, Calls Try.prog 14 #[] w fun e w' => e = .returned (.agg (row base)) ∧ Below w.heap.size w w') := ⟨base_calls⟩
      clear hs
      generalize row base = Rr at HS2 HO2 HG ⊢
      go_enter Try.func46, Try.ntmps46
      go_wp2_with (first | ((with_reducible refine gate_dst (N := 4) rfl ?_); refine box_event ?hg (N := 4) ?hd (cs := #[.int .i64 0, .int .i64 0, .int .i64 0, .int .i64 0, .int .i64 0, .int .i64 0, .int .i64 0, .int .i64 0, .int .i64 0, .int .i64 0, .int .i64 0, .int .i64 0, .int .i64 0, .int .i64 0, .int .i64 0, .int .i64 0, .int .i64 0]) (t := 23) ?hr ?_; (case hd => rfl); (case hg => rfl); (case hr => first | (go_simp; done) | (go_simp; rfl)); intro g4 hg w4 hbox hb; have HB4 := Aside0.mk hb; have BK4 := Aside0.mk hbox; have GE4 : Aside0 (w.heap.size ≤ g4) := ⟨by rw [hg]; exact Nat.le_refl _⟩; clear hb hbox hg) | (go_at_call 14; refine (HG.out _).mono ?_; rintro e w8 ⟨rfl, hb⟩; have HB8 := Aside0.mk (below_step HB4.out hb); have BK8 := Aside0.mk (blk_below BK4.out hb); clear hb HB4 BK4) | ((with_reducible refine gate_store (t := 23) (p := 4) rfl ?_); refine wpList_store_row rfl 23 (.tmp 4) (.tmp 8) rfl g4 Rr rfl rfl 23 #[.int .i64 0, .int .i64 0, .int .i64 0, .int .i64 0, .int .i64 0, .int .i64 0, .int .i64 0, .int .i64 0, .int .i64 0, .int .i64 0, .int .i64 0, .int .i64 0, .int .i64 0, .int .i64 0, .int .i64 0, .int .i64 0, .int .i64 0] BK8.out (by rw [HS2.out]; exact info23) (by rw [HS2.out]; rfl) HO2.out ?_; have HB9 := Aside0.mk (below_setRow HB8.out GE4.out Rr); have BK9 := Aside0.mk (setRow_heap _ g4 _ Rr 23 (0, 0) BK8.out); clear HB8 BK8; generalize World.setRow _ g4 Rr = w9 at HB9 BK9 ⊢))
      refine bodyPost_ret (results_cell_row rfl _ _ g4 23 Rr (0, 0) _ rfl BK9.out Try.underlying23 rfl (by rw [HS2.out]; exact info23)) rfl ?_
      exact ⟨rfl, HB9.out⟩
    · rw [if_neg c1] at h
      have c1' := list_ne c1
      obtain ⟨f1, hf1, h⟩ := Option.map_eq_some_iff.1 h
      obtain ⟨h1, M, hm, hrd⟩ := hs
      obtain ⟨r1, r2, _, _⟩ := reads_all n hrd
      have hfs := hfit.sets n
      obtain ⟨p, hp⟩ : ∃ p, p = upL L n := ⟨_, rfl⟩
      obtain ⟨l, hl⟩ : ∃ l, l = setsL L n := ⟨_, rfl⟩
      rw [← hp] at r1 hf1
      rw [← hl] at r2 h hfs
      have IH : Aside0 (∀ w', Sheet w' gs gm L → Calls Try.prog 46 #[.pointer (some ⟨gs, 0, none⟩), .string p] w' fun e w'' => e = .returned (.agg (row f1)) ∧ Below w'.heap.size w' w'') := ⟨fun w' hw' => makes_calls gs gm L hfit k p f1 w' hw' hf1⟩
      have HSl := Aside0.mk r2
      obtain ⟨A, c, e1, e2, e3⟩ := r2
      generalize hm0 : l.length = m at e1 e2 e3
      rw [e1] at HSl
      have HWi : Aside0 (∀ w', Sl w' (.slice A m c) l → Calls Try.prog 45 #[.agg (row f1), .slice A m c] w' fun e w'' => e = .returned (.agg (row f)) ∧ Below w'.heap.size w' w'') := ⟨fun w' hw' => by rw [← h]; exact with_calls f1 _ l w' hw' hfs⟩
      have HS : Aside0 (Sheet w gs gm L) := ⟨h1, M, hm, hrd⟩
      have HM := Aside0.mk hm
      have H1 := Aside0.mk h1
      have HL : Aside0 (∀ w', MapAt w' gm M → (Instr.lookup 75 (.map (some gm)) (.string n) false).run Try.prog w' = .ok (.agg #[.string p, .slice A m c]) w') := ⟨fun w' hw' => by rw [look hw', r1, e1]⟩
      have HS2 : Aside0 ((row f).size = 17) := ⟨rfl⟩
      have HO2 : Aside0 ((row f).all (·.oneCell') = true) := ⟨row_all _⟩
      clear h1 hm hrd r1 e1 e2 e3 hfs hf1 h hp hl hm0
      generalize row f = Rr at HS2 HO2 HWi ⊢
      generalize row f1 = Rf at IH HWi
      go_enter Try.func46, Try.ntmps46
      go_upto_region 4 with (first | ((with_reducible refine gate_dst (N := 4) rfl ?_); refine box_event ?hg (N := 4) ?hd (cs := #[.int .i64 0, .int .i64 0, .int .i64 0, .int .i64 0, .int .i64 0, .int .i64 0, .int .i64 0, .int .i64 0, .int .i64 0, .int .i64 0, .int .i64 0, .int .i64 0, .int .i64 0, .int .i64 0, .int .i64 0, .int .i64 0, .int .i64 0]) (t := 23) ?hr ?_; (case hd => rfl); (case hg => rfl); (case hr => first | (go_simp; done) | (go_simp; rfl)); intro g4 hg w4 hbox hb; have HB4 := Aside0.mk hb; have BK4 := Aside0.mk hbox; have GE4 : Aside0 (w.heap.size ≤ g4) := ⟨by rw [hg]; exact Nat.le_refl _⟩; have hlk := HL.out w4 (HM.out.below hb); have e0 := (blk_cell (blk_below H1.out hb) 0).trans rfl; clear hb hbox hg))
      have B5 : Aside0 ((w4.alloc (.cells #[.string p, .slice A m c] 85)).heap[w4.heap.size]? = some (.cells #[.string p, .slice A m c] 85 (0, 0))) := ⟨blk_new _ _⟩
      have B4 : Aside0 ((w4.alloc (.cells #[.string p, .slice A m c] 85)).heap[g4]? = some (.cells #[.int .i64 0, .int .i64 0, .int .i64 0, .int .i64 0, .int .i64 0, .int .i64 0, .int .i64 0, .int .i64 0, .int .i64 0, .int .i64 0, .int .i64 0, .int .i64 0, .int .i64 0, .int .i64 0, .int .i64 0, .int .i64 0, .int .i64 0] 23 (0, 0))) := ⟨blk_below BK4.out (below_alloc (Below.refl _ _) _)⟩
      have HB : Aside0 (Below w.heap.size w (w4.alloc (.cells #[.string p, .slice A m c] 85))) := ⟨below_alloc HB4.out _⟩
      clear BK4 HB4 e0 hlk
      generalize w4.alloc (.cells #[.string p, .slice A m c] 85) = w3 at B5 B4 HB ⊢
      generalize w4.heap.size = g5 at B5 ⊢
      go_wp2
      refine start_ (n := 8) (S := fun w' => w'.heap[g5]? = some (.cells #[.string p, .slice A m c] 85 (0, 0)) ∧ w'.cell? ⟨g5, 0, none⟩ = some (.string p) ∧ w'.cell? ⟨g5, 1, none⟩ = some (.slice A m c) ∧ Below w.heap.size w w' ∧ w'.heap[g4]? = some (.cells #[.int .i64 0, .int .i64 0, .int .i64 0, .int .i64 0, .int .i64 0, .int .i64 0, .int .i64 0, .int .i64 0, .int .i64 0, .int .i64 0, .int .i64 0, .int .i64 0, .int .i64 0, .int .i64 0, .int .i64 0, .int .i64 0, .int .i64 0] 23 (0, 0))) (ds := [7]) #[false, false, false, false, false, false, false, false] (by kernel_rfl) rfl rfl ⟨blk_drew B5.out, (blk_cell (blk_drew B5.out) 0).trans rfl, (blk_cell (blk_drew B5.out) 1).trans rfl, below_drew1 HB.out, blk_drew B4.out⟩ (fun hHeld => ?_)
      refine pure_ (i := 0) (N := some 15) (v := ?_) (a' := ?_) #[true, false, false, false, false, false, false, false] rfl rfl (by kernel_rfl) (fun _ _ _ h => h) (Or.inl ⟨by rfl, ?_⟩) ?_ ?_
      rotate_left
      · intro w'
        go_simp
        with_reducible rfl
      rotate_left
      · simp only [Act.put, List.setIfInBounds_toArray, List.set_cons_zero, List.set_cons_succ, i64_w, i32_w]
        rfl
      refine pure_ (i := 1) (N := some 16) (v := ?_) (a' := ?_) #[true, true, false, false, false, false, false, false] rfl rfl (by kernel_rfl) (fun _ _ _ h => h) (Or.inl ⟨by rfl, ?_⟩) ?_ ?_
      rotate_left
      · intro w'
        go_simp
        with_reducible rfl
      rotate_left
      · simp only [Act.put, List.setIfInBounds_toArray, List.set_cons_zero, List.set_cons_succ, i64_w, i32_w]
        rfl
      refine pure_ (i := 4) (N := some 19) (v := ?_) (a' := ?_) #[true, true, false, false, true, false, false, false] rfl rfl (by kernel_rfl) (fun _ _ _ h => h) (Or.inl ⟨by rfl, ?_⟩) ?_ ?_
      rotate_left
      · intro w'
        go_simp
        with_reducible rfl
      rotate_left
      · simp only [Act.put, List.setIfInBounds_toArray, List.set_cons_zero, List.set_cons_succ, i64_w, i32_w]
        rfl
      refine take_ (i := 2) (N := some 17) (v := ?_) (a' := ?_) #[true, true, true, false, true, false, false, false] rfl rfl (by kernel_rfl) (fun _ _ _ h => h) (Or.inl ⟨by rfl, ?_⟩) hHeld ?_ ?_
      rotate_left
      · rintro w' ⟨s0, s1, s2, s3, s4⟩
        go_simp
        with_reducible rfl
      rotate_left
      · simp only [Act.put, List.setIfInBounds_toArray, List.set_cons_zero, List.set_cons_succ, i64_w, i32_w]
        rfl
      refine take_ (i := 5) (N := some 20) (v := ?_) (a' := ?_) #[true, true, true, false, true, true, false, false] rfl rfl (by kernel_rfl) (fun _ _ _ h => h) (Or.inl ⟨by rfl, ?_⟩) hHeld ?_ ?_
      rotate_left
      · rintro w' ⟨s0, s1, s2, s3, s4⟩
        go_simp
        with_reducible rfl
      rotate_left
      · simp only [Act.put, List.setIfInBounds_toArray, List.set_cons_zero, List.set_cons_succ, i64_w, i32_w]
        rfl
      refine one_ (i := 3) (N := some 18) #[true, true, true, true, true, true, false, false] rfl rfl (by kernel_rfl) (by decide) (fun K hK => ?_)
      refine goes_ Try.func46 (by kernel_rfl) rfl #[.pointer (some ⟨gs, 0, none⟩), .string p] (by rfl) rfl rfl (by (simp only [List.map_toArray, List.map_cons, List.map_nil]); first | done | rfl) ?_
      with_reducible refine (IH.out _ (HS.out.below hHeld.2.2.2.1)).mono ?_
      rintro e w6 ⟨rfl, hb6⟩
      refine ⟨_, rfl, ?_⟩
      refine hK.out _ _ ⟨blk_below hHeld.1 hb6, (blk_cell (blk_below hHeld.1 hb6) 0).trans rfl, (blk_cell (blk_below hHeld.1 hb6) 1).trans rfl, below_step hHeld.2.2.2.1 hb6, blk_below hHeld.2.2.2.2 hb6⟩ (fun hHeld => ?_)
      clear hK K
      refine norm_ (a' := ?_) ?_ ?_
      rotate_left
      · show Act.put _ (some 18) _ = _
        simp only [Act.put, List.setIfInBounds_toArray, List.set_cons_zero, List.set_cons_succ, i64_w, i32_w]
        rfl
      refine one_ (i := 6) (N := some 21) #[true, true, true, true, true, true, true, false] rfl rfl (by kernel_rfl) (by decide) (fun K hK => ?_)
      refine goes_ Try.func45 (by kernel_rfl) rfl #[.agg Rf, .slice A m c] (by rfl) rfl rfl (by (simp only [List.map_toArray, List.map_cons, List.map_nil]); first | done | rfl) ?_
      with_reducible refine (HWi.out _ (HSl.out.below hHeld.2.2.2.1)).mono ?_
      rintro e w7 ⟨rfl, hb7⟩
      refine ⟨_, rfl, ?_⟩
      refine hK.out _ _ ⟨blk_below hHeld.1 hb7, (blk_cell (blk_below hHeld.1 hb7) 0).trans rfl, (blk_cell (blk_below hHeld.1 hb7) 1).trans rfl, below_step hHeld.2.2.2.1 hb7, blk_below hHeld.2.2.2.2 hb7⟩ (fun hHeld => ?_)
      clear hK K
      refine norm_ (a' := ?_) ?_ ?_
      rotate_left
      · show Act.put _ (some 21) _ = _
        simp only [Act.put, List.setIfInBounds_toArray, List.set_cons_zero, List.set_cons_succ, i64_w, i32_w]
        rfl
      refine last_ (i := 7) (N := none) #[true, true, true, true, true, true, true, true] rfl rfl (by kernel_rfl) (by decide) (fun K hK => ?_)
      refine row_ (by rfl) rfl 23 (.tmp 4) (.tmp 21) rfl g4 Rr rfl rfl 23 #[.int .i64 0, .int .i64 0, .int .i64 0, .int .i64 0, .int .i64 0, .int .i64 0, .int .i64 0, .int .i64 0, .int .i64 0, .int .i64 0, .int .i64 0, .int .i64 0, .int .i64 0, .int .i64 0, .int .i64 0, .int .i64 0, .int .i64 0] hHeld.2.2.2.2 (by rw [HS2.out]; exact info23) (by rw [HS2.out]; rfl) HO2.out ?_
      have HB9 := Aside0.mk (below_setRow hHeld.2.2.2.1 GE4.out Rr)
      have BK9 := Aside0.mk (setRow_heap _ g4 _ Rr 23 (0, 0) hHeld.2.2.2.2)
      refine hK.out _ _ ?_
      clear hK K
      refine done_ (by kernel_rfl) ?_
      clear hHeld
      generalize World.setRow _ g4 Rr = w9 at HB9 BK9 ⊢
      go_wp2
      refine bodyPost_ret (results_cell_row rfl _ _ g4 23 Rr (0, 0) _ rfl BK9.out Try.underlying23 rfl (by rw [HS2.out]; exact info23)) rfl ?_
      exact ⟨rfl, HB9.out⟩
end Go.Proofs.Ytpcpjlbfhbicaaa.Sh
end
