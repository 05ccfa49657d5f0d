/- A map from names to styles, as the program's Sheet keeps it: what a lookup tells, over any world that holds the map. No condition beyond what each theorem says. -/
import Derived.Test.YtpcpjlbfhbicaaaTry7
import Derived.KernelRfl
import Derived.MapKept
import Derived.Laws.StructEq
set_option linter.unusedVariables false
set_option linter.unusedSimpArgs false
namespace Go.Proofs.Ytpcpjlbfhbicaaa.Sh
open Go Go.RowKit Go.Proofs.YtpcpjlbfhbicaaaW.PrintWords Go.Proofs.YtpcpjlbfhbicaaaW.PrintLast Go.Proofs.YtpcpjlbfhbicaaaW.PrintMore Go.Proofs.Ytpcpjlbfhbicaaa.PStyleProps

theorem ba_eq {a b : ByteArray} (h : (a == b) = true) : a = b := by
  rw [beq_toListBytes, Go.ByteArray.toList_eq, Go.ByteArray.toList_eq] at h
  have := eq_of_beq h
  apply ByteArray.ext
  exact Array.toList_inj.1 this
theorem ba_refl (n : ByteArray) : (n == n) = true := by rw [beq_toListBytes]; exact beq_self_eq_true _
theorem ba_ne {a b : ByteArray} (h : a ≠ b) : (a == b) = false := by
  cases c : (a == b) with
  | false => rfl
  | true => exact absurd (ba_eq c) h
/-- A style: its name, its parent's, its settings' slice. -/
abbrev Ent := ByteArray × ByteArray × Value
def Ent.val (m : Ent) : Value := .agg #[.string m.2.1, m.2.2]
def Has (es : List MapEntry) (M : List Ent) : Prop := es.map (fun e => (e.key, e.val)) = M.map (fun m => (Value.string m.1, m.val))
def found (M : List Ent) (n : ByteArray) : Option Ent := M.find? fun m => n == m.1
def zeroEnt : Value := .agg #[.string ⟨#[]⟩, .slice none 0 0]
theorem findNow_has (n : ByteArray) : ∀ (es : List MapEntry) (M : List Ent) (i : Nat), Has es M → ∃ o, Instr.findNow .string (.string n) es i = some o ∧ o.map (·.2) = (found M n).map Ent.val
  | [], M, i, h => by
    have : M = [] := by simpa [Has] using h.symm
    subst this
    exact ⟨none, rfl, rfl⟩
  | e :: es, M, i, h => by
    cases M with
    | nil => simp [Has] at h
    | cons m M =>
      simp only [Has, List.map_cons, List.cons.injEq, Prod.mk.injEq] at h
      obtain ⟨⟨hk, hv⟩, hr⟩ := h
      unfold Instr.findNow
      rw [hk]
      simp only [Instr.sameNow]
      by_cases c : (n == m.1) = true
      · rw [c]
        exact ⟨some (i, e.val), rfl, by simp [found, c, hv]⟩
      · have c' : (n == m.1) = false := by simpa using c
        rw [c']
        obtain ⟨o, h1, h2⟩ := findNow_has n es M (i + 1) hr
        exact ⟨o, h1, by rw [h2]; simp [found, List.find?_cons, c']⟩
theorem under75 : Try.prog.underlying 75 = some (.map 9 85) := Try.underlying75
def MapAt (w : World) (gm : Nat) (M : List Ent) : Prop := ∃ es clock, w.heap[gm]? = some (.map es clock) ∧ Has es.toList M ∧ MapKept.Stamped es clock
theorem run_lookup_false {w : World} {gm : Nat} {M : List Ent} (h : MapAt w gm M) (n : ByteArray) :
    (Instr.lookup 75 (.map (some gm)) (.string n) false).run Try.prog w = .ok (((found M n).map Ent.val).getD zeroEnt) w := by
  obtain ⟨es, clock, hg, hh, hst⟩ := h
  obtain ⟨o, h1, h2⟩ := findNow_has n es.toList M 0 hh
  have u9 : Try.prog.underlying 9 = some .string := Try.underlying9
  have hc : (Instr.checkKey es.isEmpty 10000 9 (.string n)).run Try.prog w = .ok () w := MapKept.run_checkKey (k := .string n) u9 (by simp [MapKept.IsKey]) _ 9999
  have hz : (zeroValue 85).run Try.prog w = .ok zeroEnt w := Try.zeroValue85 w
  cases o with
  | none =>
    have : found M n = none := by simpa using h2.symm
    rw [this]
    simp [Instr.lookup, run_underlying under75, MapKept.run_getObj_map hg, hc, MapKept.run_findKey u9 h1, hz, Result.andThen]
  | some p =>
    cases hf : found M n with
    | none => rw [hf] at h2; simp at h2
    | some m =>
      rw [hf] at h2
      have hv : p.2 = m.val := by simpa using h2
      simp [Instr.lookup, run_underlying under75, MapKept.run_getObj_map hg, hc, MapKept.run_findKey u9 h1, hv, Result.andThen]
theorem run_lookup_true {w : World} {gm : Nat} {M : List Ent} (h : MapAt w gm M) (n : ByteArray) :
    (Instr.lookup 75 (.map (some gm)) (.string n) true).run Try.prog w = .ok (.tuple #[((found M n).map Ent.val).getD zeroEnt, .bool (found M n).isSome]) w := by
  obtain ⟨es, clock, hg, hh, hst⟩ := h
  obtain ⟨o, h1, h2⟩ := findNow_has n es.toList M 0 hh
  have u9 : Try.prog.underlying 9 = some .string := Try.underlying9
  have hc : (Instr.checkKey es.isEmpty 10000 9 (.string n)).run Try.prog w = .ok () w := MapKept.run_checkKey (k := .string n) u9 (by simp [MapKept.IsKey]) _ 9999
  have hz : (zeroValue 85).run Try.prog w = .ok zeroEnt w := Try.zeroValue85 w
  cases o with
  | none =>
    have : found M n = none := by simpa using h2.symm
    rw [this]
    simp [Instr.lookup, run_underlying under75, MapKept.run_getObj_map hg, hc, MapKept.run_findKey u9 h1, hz, Result.andThen]
  | some p =>
    cases hf : found M n with
    | none => rw [hf] at h2; simp at h2
    | some m =>
      rw [hf] at h2
      have hv : p.2 = m.val := by simpa using h2
      simp [Instr.lookup, run_underlying under75, MapKept.run_getObj_map hg, hc, MapKept.run_findKey u9 h1, hv, Result.andThen]

/-- Defining: in its place where the name is there, else behind all. -/
def put (M : List Ent) (n p : ByteArray) (v : Value) : List Ent := match M with
  | [] => [(n, p, v)]
  | m :: r => if n == m.1 then (n, p, v) :: r else m :: put r n p v
theorem findNow_at (n : ByteArray) : ∀ (es : List MapEntry) (M : List Ent) (i : Nat) (q : Nat × Value), Has es M → Instr.findNow .string (.string n) es i = some (some q) →
    i ≤ q.1 ∧ ∃ e, es[q.1 - i]? = some e ∧ e.key = .string n ∧ ∀ p v, Has (es.modify (q.1 - i) fun e => { e with key := .string n, val := .agg #[.string p, v] }) (put M n p v)
  | [], M, i, q, h, hf => by cases hf
  | e :: es, M, i, q, h, hf => by
    cases M with
    | nil => simp [Has] at h
    | cons m M =>
      have h' := h
      simp only [Has, List.map_cons, List.cons.injEq, Prod.mk.injEq] at h'
      obtain ⟨⟨hk, hv⟩, hr⟩ := h'
      unfold Instr.findNow at hf
      rw [hk] at hf
      simp only [Instr.sameNow] at hf
      by_cases c : (n == m.1) = true
      · rw [c] at hf
        simp only [Option.some.injEq] at hf
        subst hf
        have hn : n = m.1 := ba_eq c
        refine ⟨Nat.le_refl _, e, by simp, by rw [hk, hn], fun p v => ?_⟩
        simp only [Nat.sub_self, Has, put, c, if_true, List.modify_zero_cons, List.map_cons]
        rw [show List.map (fun e => (e.key, e.val)) es = _ from hr]
        rfl
      · have c' : (n == m.1) = false := by simpa using c
        rw [c'] at hf
        obtain ⟨h1, e2, h2, h3, h4⟩ := findNow_at n es M (i + 1) q hr hf
        have e1 : q.1 - i = (q.1 - (i + 1)) + 1 := by omega
        refine ⟨by omega, e2, by rw [e1]; simpa using h2, h3, fun p v => ?_⟩
        rw [e1]
        have := h4 p v
        simp only [Has, put, c', List.modify_succ_cons, List.map_cons] at this ⊢
        rw [this, hk, hv]
        rfl
theorem findNow_no (n : ByteArray) : ∀ (es : List MapEntry) (M : List Ent) (i : Nat), Has es M → Instr.findNow .string (.string n) es i = some none → ∀ p v (c : Nat), Has (es ++ [{ key := .string n, val := .agg #[.string p, v], born := c }]) (put M n p v)
  | [], M, i, h, hf => by
    have : M = [] := by simpa [Has] using h.symm
    subst this
    intro p v c
    simp [Has, put, Ent.val]
  | e :: es, M, i, h, hf => by
    cases M with
    | nil => simp [Has] at h
    | cons m M =>
      have h' := h
      simp only [Has, List.map_cons, List.cons.injEq, Prod.mk.injEq] at h'
      obtain ⟨⟨hk, hv⟩, hr⟩ := h'
      unfold Instr.findNow at hf
      rw [hk] at hf
      simp only [Instr.sameNow] at hf
      by_cases c : (n == m.1) = true
      · rw [c] at hf; cases hf
      · have c' : (n == m.1) = false := by simpa using c
        rw [c'] at hf
        intro p v cl
        have := findNow_no n es M (i + 1) hr hf p v cl
        simp only [Has, put, c', List.cons_append, List.map_cons] at this ⊢
        rw [this, hk, hv]
        rfl
theorem findNow_none (n : ByteArray) : ∀ (es : List MapEntry) (M : List Ent) (i : Nat), Has es M → Instr.findNow .string (.string n) es i = some none → ∀ x, x ∈ es → x.key ≠ .string n
  | [], M, i, h, hf, x, hx => by cases hx
  | e :: es, M, i, h, hf, x, hx => by
    cases M with
    | nil => simp [Has] at h
    | cons m M =>
      simp only [Has, List.map_cons, List.cons.injEq, Prod.mk.injEq] at h
      obtain ⟨⟨hk, hv⟩, hr⟩ := h
      unfold Instr.findNow at hf
      rw [hk] at hf
      simp only [Instr.sameNow] at hf
      by_cases c : (n == m.1) = true
      · rw [c] at hf; cases hf
      · have c' : (n == m.1) = false := by simpa using c
        rw [c'] at hf
        rcases List.mem_cons.1 hx with rfl | hx
        · rw [hk]
          intro he
          have : m.1 = n := by simpa using he
          rw [this, ba_refl] at c'
          cases c'
        · exact findNow_none n es M (i + 1) hr hf x hx
theorem run_update {w : World} {gm : Nat} {M : List Ent} (h : MapAt w gm M) (n p : ByteArray) (v : Value) :
    ∃ o, (Instr.mapUpdate 75 (.map (some gm)) (.string n) (.agg #[.string p, v])).run Try.prog w = .ok () { w with heap := w.heap.setIfInBounds gm o } ∧ MapAt { w with heap := w.heap.setIfInBounds gm o } gm (put M n p v) := by
  obtain ⟨es, clock, hg, hh, hst⟩ := h
  obtain ⟨o, h1, h2⟩ := findNow_has n es.toList M 0 hh
  have u9 : Try.prog.underlying 9 = some .string := Try.underlying9
  have hc : (Instr.checkKey false 10000 9 (.string n)).run Try.prog w = .ok () w := MapKept.run_checkKey (k := .string n) u9 (by simp [MapKept.IsKey]) _ 9999
  cases o with
  | none =>
    refine ⟨.map (es.push { key := .string n, val := .agg #[.string p, v], born := clock }) (clock + 1), ?_, _, _, (MapKept.heap_set hg).1, ?_, MapKept.stamped_push hst (findNow_none n es.toList M 0 hh h1)⟩
    · simp [Instr.mapUpdate, run_underlying under75, MapKept.run_getObj_map hg, hc, MapKept.run_findKey u9 h1, MapKept.run_setObj_map _ hg, Result.andThen]
    · have := findNow_no n es.toList M 0 hh h1 p v clock
      simpa using this
  | some q =>
    obtain ⟨_, e, e1, e2, e3⟩ := findNow_at n es.toList M 0 q hh h1
    simp only [Nat.sub_zero] at e1 e3
    refine ⟨.map (es.modify q.1 fun e => { e with key := .string n, val := .agg #[.string p, v] }) clock, ?_, _, _, (MapKept.heap_set hg).1, ?_, MapKept.stamped_modify hst _ _ (fun _ _ => rfl) (fun x _ hx => ?_)⟩
    · have e1' : es[q.1]? = some e := by simpa using e1
      have hs : Instr.sameBits 10000 (.string n) (.string n) = true := by unfold Instr.sameBits; exact ba_refl n
      simp [Instr.mapUpdate, run_underlying under75, MapKept.run_getObj_map hg, hc, MapKept.run_findKey u9 h1, e1', e2, Instr.keyThatStays, hs, MapKept.run_setObj_map _ hg, Result.andThen]
    · have := e3 p v
      simpa using this
    · have e1' : es[q.1]? = some e := by simpa using e1
      rw [e1'] at hx
      obtain rfl := Option.some.inj hx
      exact e2.symm
end Go.Proofs.Ytpcpjlbfhbicaaa.Sh
