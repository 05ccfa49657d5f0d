/- Own walks for the law, joined from several texts: what the law reaches, and no more (joined by keeplive.py). -/
import Derived.Test.YtpcpjlbfhbicaaaS3
import Derived.Test.YtpcpjlbfhbicaaaIter
import Derived.Maps.RangeWalk
import Derived.StringKeys
import Derived.Maps.OwnSet
import Derived.StillTailTactics
section
set_option linter.unusedVariables false
set_option linter.unusedSimpArgs false
namespace Go.Proofs.Ytpcpjlbfhbicaaa.Sh
open Go Go.RowKit Go.Proofs.YtpcpjlbfhbicaaaW.PrintWords Go.Proofs.YtpcpjlbfhbicaaaW.PrintLast Go.Proofs.YtpcpjlbfhbicaaaW.PrintMore Go.Proofs.Ytpcpjlbfhbicaaa.PStyleProps
open Go.Proofs.Ytpcpjlbfhbicaaa.PStyleNearest (S37 k37 z37 rd_T37 at_T37 k37_open k37_openM k37_mk k37_mkM info37)
set_option maxHeartbeats 4000000 in
set_option maxRecDepth 100000 in
theorem parent_miss (gs gm : Nat) (L : List Sty) (n : ByteArray) (w : World) (hs : Sheet w gs gm L) (hf : fnd L n = none) :
    Calls Try.prog 27 #[.pointer (some ⟨gs, 0, none⟩), .string n] w fun x w' => x = .returned (.tuple #[.string ⟨#[]⟩, .int .i64 6]) ∧ Below w.heap.size w w' := by
  have hu := Try.underlying77
  have hu5 := Try.underlying75
  have hu8 := Try.underlying85
  obtain ⟨h1, M, hm, hrd⟩ := hs
  obtain ⟨r1, r2, r3, _⟩ := reads_all n hrd
  obtain ⟨p, hp⟩ : ∃ p, p = upL L n := ⟨_, rfl⟩
  rw [← hp] at r1
  obtain ⟨A, c, e1, e2, e3⟩ := r2
  generalize hm0 : (setsL L n).length = m at e1 e2 e3
  have H1 := Aside0.mk h1
  have hlk : (Instr.lookup 75 (.map (some gm)) (.string n) true).run Try.prog w = .ok (.tuple #[.agg #[.string p, .slice A m c], .bool false]) w := by rw [look2 hm, r1, e1, r3, hf]; rfl
  have e0 := (blk_cell h1 0).trans rfl
  clear h1 hm hrd r1 r3 e1 e2 e3 hp hm0 hf
  go_enter Try.func27, Try.ntmps27
  go_wp2_with (first | (go_at_call 40; refine (none_calls gs gm _ H1.out).mono ?_; rintro x w7 ⟨rfl, hw⟩; rw [hw]; clear hw))
  refine bodyPost_ret (results_tmp2 rfl _ _ _) rfl ?_
  exact ⟨rfl, below_alloc (Below.refl _ _) _⟩
set_option maxHeartbeats 4000000 in
set_option maxRecDepth 100000 in
theorem parent_there (gs gm : Nat) (L : List Sty) (n : ByteArray) (w : World) (hs : Sheet w gs gm L) (hf : (fnd L n).isSome = true) :
    Calls Try.prog 27 #[.pointer (some ⟨gs, 0, none⟩), .string n] w fun x w' => x = .returned (.tuple #[.string (upL L n), .int .i64 0]) ∧ Below w.heap.size w w' := by
  have hu := Try.underlying77
  have hu5 := Try.underlying75
  have hu8 := Try.underlying85
  obtain ⟨h1, M, hm, hrd⟩ := hs
  obtain ⟨r1, r2, r3, _⟩ := reads_all n hrd
  obtain ⟨p, hp⟩ : ∃ p, p = upL L n := ⟨_, rfl⟩
  rw [← hp] at r1
  rw [← hp]
  obtain ⟨A, c, e1, e2, e3⟩ := r2
  generalize hm0 : (setsL L n).length = m at e1 e2 e3
  have H1 := Aside0.mk h1
  have hlk : (Instr.lookup 75 (.map (some gm)) (.string n) true).run Try.prog w = .ok (.tuple #[.agg #[.string p, .slice A m c], .bool true]) w := by rw [look2 hm, r1, e1, r3, hf]
  have e0 := (blk_cell h1 0).trans rfl
  clear h1 hm hrd r1 r3 e1 e2 e3 hp hm0 hf
  go_enter Try.func27, Try.ntmps27
  go_wp2_with (first | (go_at_call 40; refine (none_calls gs gm _ H1.out).mono ?_; rintro x w7 ⟨rfl, hw⟩; rw [hw]; clear hw))
  refine bodyPost_ret (results_tmp2 rfl _ _ _) rfl ?_
  exact ⟨rfl, below_alloc (Below.refl _ _) _⟩
def RS (v : Value) : Option (DataW Value × List MemPlace) := match v with
  | .agg cs => match cs.toList with
    | [.string _, .slice _ _ _] => some (.held (.agg cs), [])
    | _ => none
  | _ => none
theorem RS_inv {v : Value} {y : DataW Value × List MemPlace} (h : RS v = some y) : y = (.held v, []) ∧ ∃ q A m c, v = .agg #[.string q, .slice A m c] := by
  unfold RS at h
  split at h
  · rename_i cs
    split at h
    · rename_i q A m c e
      cases h
      refine ⟨rfl, q, A, m, c, ?_⟩
      have : cs = #[.string q, .slice A m c] := Array.toList_inj.1 e
      rw [this]
    · cases h
  · cases h
def Slices (M : List Ent) : Prop := ∀ m ∈ M, ∃ A a c, m.2.2 = .slice A a c
theorem RS_val {m : Ent} (h : ∃ A a c, m.2.2 = .slice A a c) : RS m.val = some (.held m.val, []) := by
  obtain ⟨A, a, c, e⟩ := h
  unfold Ent.val
  rw [e]
  rfl
theorem Reads.slices {w : World} : ∀ {M : List Ent} {L : List Sty}, Reads w M L → Slices M
  | [], [], _, m, hm => by cases hm
  | m :: M, s :: L, ⟨_, _, ⟨A, c, e, _⟩, h4⟩, x, hx => by
    rcases List.mem_cons.1 hx with rfl | hx
    · exact ⟨A, _, c, e⟩
    · exact Reads.slices h4 x hx
  | [], _ :: _, h, _, _ => h.elim
  | _ :: _, [], h, _, _ => h.elim
theorem has_mem {es : List MapEntry} {M : List Ent} (h : Has es M) {x : MapEntry} (hx : x ∈ es) : ∃ m, m ∈ M ∧ x.key = .string m.1 ∧ x.val = m.val := by
  have h1 : (x.key, x.val) ∈ es.map (fun e => (e.key, e.val)) := List.mem_map.2 ⟨x, hx, rfl⟩
  rw [h] at h1
  obtain ⟨m, hm, e⟩ := List.mem_map.1 h1
  exact ⟨m, hm, (congrArg Prod.fst e).symm, (congrArg Prod.snd e).symm⟩
def keyS (v : Value) : List UInt8 := match v with
  | .string s => s.data.toList
  | _ => []
theorem MapAt.owns {w : World} {gm : Nat} {M : List Ent} (h : MapAt w gm M) (hn : ∀ m ∈ M, m.1.size ≤ 16) (hl : M.length ≤ 32) (hsl : Slices M) :
    ∃ D : DataW Value, w.ownsMap Try.prog 9 RS gm 32 D ∧ (strKeys D).Perm (M.map fun m => m.1.data.toList) := by
  obtain ⟨es, clock, hg, hh, hst⟩ := h
  have hsz : es.size = M.length := by rw [← Array.length_toList]; exact hh.len
  have u9 : Try.prog.underlying 9 = some .string := Try.underlying9
  have hr : ∀ x ∈ es.toList, ∃ m, m ∈ M ∧ WideElems.rd Try.prog 9 RS x = some (.string m.1.data.toList, .held m.val) ∧ x.key = .string m.1 := fun x hx => by
    obtain ⟨m, hm, hk, hv⟩ := has_mem hh hx
    refine ⟨m, hm, ?_, hk⟩
    unfold WideElems.rd
    rw [hk, hv, WideMaps.keyOf_string_mk u9 (Nat.le_trans (hn m hm) (by decide)), RS_val (hsl m hm)]
    rfl
  refine ⟨_, ⟨es, clock, hg, ⟨Nat.le_trans (by omega : es.size ≤ 32) (by decide), hst, fun x hx => by obtain ⟨m, _, h1, _⟩ := hr x hx; exact ⟨_, h1⟩⟩, by omega, rfl⟩, ?_⟩
  refine ((WideShapes.sorted_perm (es.toList.map (WideElems.rg Try.prog 9 RS))).map (fun p => strOf p.1)).trans ?_
  rw [List.map_map]
  have e : es.toList.map ((fun p : Lit × DataW Value => strOf p.1) ∘ WideElems.rg Try.prog 9 RS) = (es.toList.map (fun e => (e.key, e.val))).map (fun kv => keyS kv.1) := by
    rw [List.map_map]
    refine List.map_congr_left fun x hx => ?_
    obtain ⟨m, _, h1, h2⟩ := hr x hx
    have e1 : strOf (WideElems.rg Try.prog 9 RS x).1 = m.1.data.toList := by rw [WideElems.rg_of h1]; rfl
    have e2 : keyS x.key = m.1.data.toList := by rw [h2]; rfl
    simp only [Function.comp_apply]
    rw [e1, e2]
  have hh' : es.toList.map (fun e => (e.key, e.val)) = M.map (fun m => (Value.string m.1, m.val)) := hh
  rw [e, hh', List.map_map]
  have e3 : M.map ((fun kv : Value × Value => keyS kv.1) ∘ fun m => (Value.string m.1, m.val)) = M.map fun m => m.1.data.toList := List.map_congr_left fun m _ => rfl
  rw [e3]
theorem reads_names {w : World} : ∀ {M : List Ent} {L : List Sty}, Reads w M L → M.map (·.1) = L.map (·.1)
  | [], [], _ => rfl
  | m :: M, s :: L, ⟨h1, h2, h3, h4⟩ => by rw [List.map_cons, List.map_cons, h1, reads_names h4]
  | [], _ :: _, h => h.elim
  | _ :: _, [], h => h.elim
theorem reads_mem {w : World} {M : List Ent} {L : List Sty} (h : Reads w M L) {m : Ent} (hm : m ∈ M) : ∃ s, s ∈ L ∧ s.1 = m.1 := by
  have h1 : m.1 ∈ M.map (·.1) := List.mem_map.2 ⟨m, hm, rfl⟩
  rw [reads_names h] at h1
  obtain ⟨s, hs, e⟩ := List.mem_map.1 h1
  exact ⟨s, hs, e⟩
theorem sorts47 (m : Nat) : AnyZ.SortsIn Try.prog Try.sorted47_ren Fence.wide m :=
  ⟨fun blk off cap ss W hH hblk hsz => callsIn_wide.2 (AnyM.slices_Sort_string Try.sort57 blk off cap ss W hH hblk hsz),
   fun p cap W => callsIn_wide.2 (AnyM.slices_Sort_string_none Try.sort57 p cap W)⟩
theorem keys_48 (mb : Option Nat) (W : World) : CallsIn Fence.wide 5 Try.prog 48 #[.map mb] W fun e w' => e = .returned (.func (.func 58) #[] #[.pointer (some ⟨W.heap.size, 0, none⟩)]) ∧ w' = W.alloc (.cells #[.map mb] 75) :=
  AnyZ.keys_in Try.keys48 Fence.wide 5 trivial rfl mb W
end Go.Proofs.Ytpcpjlbfhbicaaa.Sh
end
section
set_option linter.unusedVariables false
set_option linter.unusedSimpArgs false
namespace Go.Proofs.Ytpcpjlbfhbicaaa.Sh
open Go Go.RowKit Go.Proofs.YtpcpjlbfhbicaaaW.PrintWords Go.Proofs.YtpcpjlbfhbicaaaW.PrintLast Go.Proofs.YtpcpjlbfhbicaaaW.PrintMore Go.Proofs.Ytpcpjlbfhbicaaa.PStyleProps
open Go.Proofs.Ytpcpjlbfhbicaaa.PStyleNearest (S37 k37 z37 rd_T37 at_T37 k37_open k37_openM k37_mk k37_mkM info37)
theorem find_of_mem {H : Type} {k : Lit} {d : DataW H} (hk : WideAt.IsKeyLit k) : ∀ (l : List (Lit × DataW H)), l.Pairwise (fun p q => p.1 ≠ q.1) → (k, d) ∈ l → l.find? (fun p => p.1.sameKey k) = some (k, d)
  | [], _, h => by cases h
  | y :: r, hp, h => by
    obtain ⟨h1, h2⟩ := List.pairwise_cons.1 hp
    rcases List.mem_cons.1 h with rfl | h
    · rw [List.find?_cons, WideAt.sameKey_self hk]
    · rw [List.find?_cons, Maps.sameKey_ne (h1 _ h)]
      exact find_of_mem hk r h2 h
theorem MapAt.data {w : World} {gm : Nat} {M : List Ent} (h : MapAt w gm M) (hn : ∀ m ∈ M, m.1.size ≤ 16) (hl : M.length ≤ 32) (hsl : Slices M) :
    ∃ D : DataW Value, w.ownsMap Try.prog 9 RS gm 32 D ∧ (∀ m ∈ M, (∀ zd, D.atKey (.string m.1.data.toList) zd = .held m.val) ∧ Maps.has D (.string m.1.data.toList) = true) ∧ (∀ kl v, (∀ zd, D.atKey kl zd = .held v) → ∃ m ∈ M, v = m.val) := by
  obtain ⟨es, clock, hg, hh, hst⟩ := h
  have hsz : es.size = M.length := by rw [← Array.length_toList]; exact hh.len
  have u9 : Try.prog.underlying 9 = some .string := Try.underlying9
  have K : Maps.Keyed Try.prog 9 := Maps.string_keyed u9
  have hr : ∀ x ∈ es.toList, ∃ m, m ∈ M ∧ WideElems.rd Try.prog 9 RS x = some (.string m.1.data.toList, .held m.val) ∧ x.key = .string m.1 := fun x hx => by
    obtain ⟨m, hm, hk, hv⟩ := has_mem hh hx
    refine ⟨m, hm, ?_, hk⟩
    unfold WideElems.rd
    rw [hk, hv, WideMaps.keyOf_string_mk u9 (Nat.le_trans (hn m hm) (by decide)), RS_val (hsl m hm)]
    rfl
  have F : WideElems.Fit Try.prog 9 RS es clock := ⟨Nat.le_trans (by omega : es.size ≤ 32) (by decide), hst, fun x hx => by obtain ⟨m, _, h1, _⟩ := hr x hx; exact ⟨_, h1⟩⟩
  have hperm := WideShapes.sorted_perm (es.toList.map (WideElems.rg Try.prog 9 RS))
  have hap : ((es.toList.map (WideElems.rg Try.prog 9 RS)).foldr DataW.insert []).Pairwise (fun p q => p.1 ≠ q.1) := (hperm.symm.pairwise_iff (fun {a b} (h : a.1 ≠ b.1) => h.symm)).1 (Maps.fit_apart K F)
  refine ⟨_, ⟨es, clock, hg, F, by omega, rfl⟩, fun m hm => ?_, fun kl v hv => ?_⟩
  · have hmem : (Lit.string m.1.data.toList, DataW.held m.val) ∈ (es.toList.map (WideElems.rg Try.prog 9 RS)).foldr DataW.insert [] := by
      refine hperm.mem_iff.2 ?_
      have h1 : (Value.string m.1, m.val) ∈ M.map (fun m => (Value.string m.1, m.val)) := List.mem_map.2 ⟨m, hm, rfl⟩
      rw [← hh] at h1
      obtain ⟨x, hx, e⟩ := List.mem_map.1 h1
      obtain ⟨m2, _, h2, h3⟩ := hr x hx
      refine List.mem_map.2 ⟨x, hx, ?_⟩
      rw [WideElems.rg_of h2]
      have e1 : x.key = .string m.1 := congrArg Prod.fst e
      have e2 : x.val = m.val := congrArg Prod.snd e
      obtain ⟨z, h4, h5⟩ := WideElems.rd_val h2
      rw [e2] at h4
      have e4 : z = (.held m.val, []) := by rw [RS_val (hsl m hm)] at h4; exact (Option.some.inj h4).symm
      rw [e4] at h5
      have e5 : m2.1 = m.1 := by rw [h3] at e1; simpa using e1
      rw [e5]
      exact congrArg _ h5
    have hf := find_of_mem (k := .string m.1.data.toList) trivial _ hap hmem
    refine ⟨fun zd => ?_, ?_⟩
    · unfold DataW.atKey; simp only [hf]
    · rw [Maps.has_eq, List.any_eq_true]
      exact ⟨_, List.mem_of_find?_eq_some hf, WideAt.sameKey_self trivial⟩
  · have h1 := hv .nil
    unfold DataW.atKey at h1
    cases hf : ((es.toList.map (WideElems.rg Try.prog 9 RS)).foldr DataW.insert []).find? (fun p => p.1.sameKey kl) with
    | none => simp only [hf] at h1; cases h1
    | some p =>
      simp only [hf] at h1
      obtain ⟨x, hx, e⟩ := List.mem_map.1 (hperm.mem_iff.1 (List.mem_of_find?_eq_some hf))
      obtain ⟨m, hm, h2, _⟩ := hr x hx
      rw [WideElems.rg_of h2] at e
      subst e
      exact ⟨m, hm, by cases h1; rfl⟩
def del (M : List Ent) (n : ByteArray) : List Ent := M.eraseP fun m => n == m.1
def delL (L : List Sty) (n : ByteArray) : List Sty := L.eraseP fun s => n == s.1
theorem Reads.del {w : World} (n : ByteArray) : ∀ {M : List Ent} {L : List Sty}, Reads w M L → Reads w (Sh.del M n) (delL L n)
  | [], [], _ => trivial
  | m :: M, s :: L, ⟨h1, h2, h3, h4⟩ => by
    unfold Sh.del delL
    rw [List.eraseP_cons, List.eraseP_cons, h1]
    cases n == s.1 with
    | true => exact h4
    | false => exact ⟨h1, h2, h3, Reads.del n h4⟩
  | [], _ :: _, h => h.elim
  | _ :: _, [], h => h.elim
theorem findNow_del (n : ByteArray) : ∀ (es : List MapEntry) (M : List Ent) (i : Nat) (q : Nat × Value), Has es M → Instr.findNow .string (.string n) es i = some (some q) → i ≤ q.1 ∧ q.1 - i < es.length ∧ Has (es.eraseIdx (q.1 - i)) (del M n)
  | [], M, i, q, h, hf => by cases hf
  | e :: es, M, i, q, h, hf => by
    cases M with
    | nil => simp [Has] at h
    | cons m M =>
      have h' := h
      simp only [Has, List.map_cons, List.cons.injEq, Prod.mk.injEq] at h'
      obtain ⟨⟨hk, hv⟩, hr⟩ := h'
      unfold Instr.findNow at hf
      rw [hk] at hf
      simp only [Instr.sameNow] at hf
      by_cases c : (n == m.1) = true
      · rw [c] at hf
        simp only [Option.some.injEq] at hf
        subst hf
        refine ⟨Nat.le_refl _, by simp, ?_⟩
        simp only [Nat.sub_self, List.eraseIdx_zero, List.tail_cons, del, List.eraseP_cons, c, if_true]
        exact hr
      · have c' : (n == m.1) = false := by simpa using c
        rw [c'] at hf
        obtain ⟨h1, h2, h3⟩ := findNow_del n es M (i + 1) q hr hf
        have e1 : q.1 - i = (q.1 - (i + 1)) + 1 := by omega
        refine ⟨by omega, by rw [e1, List.length_cons]; omega, ?_⟩
        rw [e1]
        simp only [Has, del, List.eraseP_cons, c', List.eraseIdx_cons_succ, List.map_cons] at h3 ⊢
        rw [h3, hk, hv]
        rfl
theorem run_delete {w : World} {gm : Nat} {M : List Ent} (h : MapAt w gm M) (n : ByteArray) (hn : (found M n).isSome = true) (ty : TypeId) :
    ∃ o, (Builtin.delete_ #[75, 9] ty #[.map (some gm), .string n]).run Try.prog w = .ok (.tuple #[]) { w with heap := w.heap.setIfInBounds gm o } ∧ MapAt { w with heap := w.heap.setIfInBounds gm o } gm (del M n) := by
  obtain ⟨es, clock, hg, hh, hst⟩ := h
  obtain ⟨o, h1, h2⟩ := findNow_has n es.toList M 0 hh
  have u9 : Try.prog.underlying 9 = some .string := Try.underlying9
  have hc : ∀ b, (Instr.checkKey b 10000 9 (.string n)).run Try.prog w = .ok () w := fun b => MapKept.run_checkKey (k := .string n) u9 (by simp [MapKept.IsKey]) _ 9999
  cases o with
  | none => rw [← Option.isSome_map (f := Ent.val), ← h2] at hn; cases hn
  | some q =>
    obtain ⟨_, hq, hd⟩ := findNow_del n es.toList M 0 q hh h1
    refine ⟨.map (es.eraseIdxIfInBounds q.1) clock, ?_, _, _, (MapKept.heap_set hg).1, ?_, MapKept.stamped_erase hst _⟩
    · simp [Builtin.delete_, run_underlying under75, MapKept.run_getObj_map hg, hc, MapKept.run_findKey u9 h1, MapKept.run_setObj_map _ hg, Result.andThen]
    · rw [Nat.sub_zero] at hd hq
      unfold Array.eraseIdxIfInBounds
      rw [dif_pos (by simpa using hq)]
      simpa using hd
def remE (L : List Sty) (n : ByteArray) : Int := if fnd L n = none then 6 else if (L.any fun s => s.2.1 == n) = true then 9 else 0
def remL (L : List Sty) (n : ByteArray) : List Sty := if remE L n = 0 then delL L n else L
set_option maxHeartbeats 4000000 in
set_option maxRecDepth 100000 in
theorem remove_miss (gs gm : Nat) (L : List Sty) (n : ByteArray) (w : World) (hs : Sheet w gs gm L) (hf : fnd L n = none) :
    Calls Try.prog 29 #[.pointer (some ⟨gs, 0, none⟩), .string n] w fun x w' => x = .returned (.int .i64 6) ∧ Below w.heap.size w w' := by
  have hu := Try.underlying77
  have hu5 := Try.underlying75
  have hu8 := Try.underlying85
  obtain ⟨h1, M, hm, hrd⟩ := hs
  obtain ⟨r1, r2, r3, _⟩ := reads_all n hrd
  obtain ⟨p, hp⟩ : ∃ p, p = upL L n := ⟨_, rfl⟩
  rw [← hp] at r1
  obtain ⟨A, c, e1, e2, e3⟩ := r2
  generalize hm0 : (setsL L n).length = m at e1 e2 e3
  have H1 := Aside0.mk h1
  have hlk : (Instr.lookup 75 (.map (some gm)) (.string n) true).run Try.prog w = .ok (.tuple #[.agg #[.string p, .slice A m c], .bool false]) w := by rw [look2 hm, r1, e1, r3, hf]; rfl
  have e0 := (blk_cell h1 0).trans rfl
  clear h1 hm hrd r1 r3 e1 e2 e3 hp hm0 hf
  go_enter Try.func29, Try.ntmps29
  go_wp2_with (first | (go_at_call 40; refine (none_calls gs gm _ H1.out).mono ?_; rintro x w7 ⟨rfl, hw⟩; rw [hw]; clear hw))
  go_ret
  exact ⟨rfl, below_alloc (Below.refl _ _) _⟩
theorem wpList_delete_sh (w : World) {ops : Array Oper} {rest : List Oper} {o : Oper} {a : Act} {Q : Exit → Act → World → Prop} (hg : o.guard = none) (m x : Operand) (hop : o.op = Op.call { callee := Callee.builtin Builtin.delete, args := #[m, x], argTypes := #[75, 9] })
    (gm : Nat) (n : ByteArray) (M : List Ent) (hm : a.eval m = .map (some gm)) (hx : a.eval x = .string n) (h : MapAt w gm M) (hn : (found M n).isSome = true)
    (hK : ∀ o', MapAt { w with heap := w.heap.setIfInBounds gm o' } gm (del M n) → wpList Try.prog ops Q rest (a.put o.dst (.tuple #[])) { w with heap := w.heap.setIfInBounds gm o' }) : wpList Try.prog ops Q (o :: rest) a w := by
  refine wpList_plain hg fun K' hK' => ?_
  obtain ⟨o', hrun, hat⟩ := run_delete h n hn o.type
  unfold Oper.wp
  simp [execOp, hop, resolve, invoke, builtin, hm, hx, hrun, Result.andThen]
  exact hK' _ _ (hK o' hat)
set_option maxHeartbeats 4000000 in
set_option maxRecDepth 100000 in
theorem clone_sheet (gs gm : Nat) (L : List Sty) (w : World) (hs : Sheet w gs gm L) :
    Calls Try.prog 32 #[.pointer (some ⟨gs, 0, none⟩)] w fun x w' => ∃ gs' gm', x = .returned (.pointer (some ⟨gs', 0, none⟩)) ∧ w.heap.size ≤ gs' ∧ w.heap.size ≤ gm' ∧ Sheet w' gs' gm' L ∧ Below w.heap.size w w' := by
  have hu := Try.underlying77
  have hu5 := Try.underlying75
  obtain ⟨h1, M, hm, hrd⟩ := hs
  obtain ⟨es, clock, hg, hh, hst⟩ := id hm
  have e0 := (blk_cell h1 0).trans rfl
  have H1 := Aside0.mk h1
  have HRd := Aside0.mk hrd
  have HC : Aside0 (Calls Try.prog 49 #[.map (some gm)] w fun e w' => e = .returned (.map (some w.heap.size)) ∧ w' = w.alloc (.map es clock)) := ⟨AnyW.maps_Clone Try.clone49 gm es clock w hg⟩
  have HH := Aside0.mk hh
  have HSt := Aside0.mk hst
  clear h1 hm hrd hg hh hst
  go_enter Try.func32, Try.ntmps32
  go_wp2_with (first | (go_at_call 40; refine (none_calls gs gm _ H1.out).mono ?_; rintro x w7 ⟨rfl, hw⟩; rw [hw]; clear hw) | (go_at_call 49; refine HC.out.mono ?_; rintro x w8 ⟨rfl, hw⟩; rw [hw]; clear hw))
  go_ret
  refine ⟨w.heap.size + 1, w.heap.size, rfl, by omega, Nat.le_refl _, ⟨?_, M, ⟨es, clock, ?_, HH.out, HSt.out⟩, HRd.out.imp (fun _ _ h => h.below ?_)⟩, below_alloc (below_alloc (Below.refl _ _) _) _⟩
  · have := heap_alloc_new (w.alloc (.map es clock)) (Obj.cells #[Value.map (some w.heap.size)] 77)
    simpa using this
  · exact (Below.heap_alloc _ _ _ (by simp)).trans (heap_alloc_new w _)
  · exact below_alloc (below_alloc (Below.refl _ _) _) _
end Go.Proofs.Ytpcpjlbfhbicaaa.Sh
end
section
set_option linter.unusedVariables false
set_option linter.unusedSimpArgs false
namespace Go.Proofs.Ytpcpjlbfhbicaaa.Sh
open Go Go.RowKit Go.Proofs.YtpcpjlbfhbicaaaW.PrintWords Go.Proofs.YtpcpjlbfhbicaaaW.PrintLast Go.Proofs.YtpcpjlbfhbicaaaW.PrintMore Go.Proofs.Ytpcpjlbfhbicaaa.PStyleProps
open Go.Proofs.Ytpcpjlbfhbicaaa.PStyleNearest (S37 k37 z37 rd_T37 at_T37 k37_open k37_openM k37_mk k37_mkM info37)
/-- A slice of texts, as far as it is read. -/
def TX (w : World) (A : Option Addr) (xs : List ByteArray) : Prop := ∀ (i : Nat) (s : ByteArray), xs[i]? = some s → ∃ ad, A = some ad ∧ w.cell? (ad.add i) = some (.string s)
theorem TX.below {w w' : World} {A : Option Addr} {xs : List ByteArray} (h : TX w A xs) (hb : Below w.heap.size w w') : TX w' A xs := fun i s hi => by
  obtain ⟨ad, e, hc⟩ := h i s hi
  exact ⟨ad, e, (hb.cell (World.block_lt_of_cell? w _ hc)).trans hc⟩
theorem add_at (g i : Nat) : (⟨g, 0, none⟩ : Addr).add i = ⟨g, i, none⟩ := by
  simp only [Addr.add]
  split
  · rename_i h0; subst h0; rfl
  · simp
set_option maxHeartbeats 4000000 in
set_option maxRecDepth 100000 in
theorem same_calls (A B : Option Addr) (ca cb : Nat) (xs ys : List ByteArray) (w : World) (hl : xs.length ≤ 1000000) (hx : TX w A xs) (hy : TX w B ys) : Calls Try.prog 30 #[.slice A xs.length ca, .slice B ys.length cb] w fun e w' => (∃ b, e = .returned (.bool b) ∧ (b = true ↔ xs = ys)) ∧ Below w.heap.size w w' := by
  have hu58 := Try.underlying58
  by_cases cl : xs.length = ys.length
  · have HX := Aside0.mk hx
    have HY := Aside0.mk hy
    have HL := Aside0.mk hl
    obtain ⟨n, hn⟩ : ∃ n, Aside0 (n = xs.length) := ⟨_, ⟨rfl⟩⟩
    have hm : Aside0 (n = ys.length) := ⟨hn.out.trans cl⟩
    rw [← cl, ← hn.out]
    clear hx hy hl cl
    go_enter Try.func30, Try.ntmps30
    go_wp2
    go_loopg [5] n (fun kq v5 w' => ∃ i : Int, v5 = .int .i64 i ∧ Aside0 (0 ≤ i ∧ i + kq = n) ∧ Aside0 (∀ j, j < i.toNat → xs[j]? = ys[j]?) ∧ Aside0 (Below w.heap.size w w'))
    case atStart => exact ⟨0, rfl, ⟨by omega, by omega⟩, ⟨fun j hj => absurd hj (by simp)⟩, ⟨Below.refl _ _⟩⟩
    case round =>
      obtain ⟨i, rfl, HI, HE, HB⟩ := hrel
      cases gk with
      | zero =>
        have hi := HI.out
        have q109 : decide (i < (n : Int)) = false := decide_eq_false (by omega)
        have hs : xs = ys := by
          apply List.ext_getElem?
          intro j
          by_cases hj : j < i.toNat
          · exact HE.out j hj
          · rw [List.getElem?_eq_none (by have := hn.out; omega), List.getElem?_eq_none (by have := hm.out; omega)]
        have HSm := Aside0.mk hs
        clear hi hs
        go_wp2
        go_ret
        exact ⟨⟨true, rfl, ⟨fun _ => HSm.out, fun _ => rfl⟩⟩, HB.out⟩
      | succ k1 =>
        have hi := HI.out
        have p108 : 0 ≤ i := hi.1
        have q108 : i < (n : Int) := by omega
        have cb1 : decide (i < (n : Int)) = true := decide_eq_true q108
        have hadd : wrap64 (i + 1) = i + 1 := by have := HL.out; have := hn.out; unfold wrap64; omega
        obtain ⟨x, hx⟩ : ∃ x, xs[i.toNat]? = some x := ⟨_, List.getElem?_eq_getElem (by have := hn.out; omega)⟩
        obtain ⟨y, hy⟩ : ∃ y, ys[i.toNat]? = some y := ⟨_, List.getElem?_eq_getElem (by have := hm.out; omega)⟩
        obtain ⟨ad, ea, ha⟩ := HX.out _ _ hx
        obtain ⟨bd, eb, hb⟩ := HY.out _ _ hy
        subst ea eb
        replace ha := (HB.out.cell (World.block_lt_of_cell? w _ ha)).trans ha
        replace hb := (HB.out.cell (World.block_lt_of_cell? w _ hb)).trans hb
        have HXi := Aside0.mk hx
        have HYi := Aside0.mk hy
        clear hi hx hy
        replace p108 := eq_true p108
        replace q108 := eq_true q108
        by_cases c : x = y
        · subst c
          have c' := ba_refl x
          have c'' : (x.toList == x.toList) = true := beq_self_eq_true _
          go_upto_region 6 with fail
          go_still (by kernel_rfl)
          have HBn := Aside0.mk (below_drew1 HB.out)
          go_wp2
          go_roundg k1
          case measure => omega
          case rel => exact ⟨i + 1, by rw [hadd], ⟨by have := HI.out; omega, by have := HI.out; omega⟩, ⟨fun j hj => by
            rcases Nat.lt_or_ge j i.toNat with h | h
            · exact HE.out j h
            · obtain rfl : j = i.toNat := by have := HI.out; omega
              rw [HXi.out, HYi.out]⟩, HBn⟩
        · have c' := ba_ne c
          have c'' := list_neq c
          have hs : xs ≠ ys := fun e => c (by have h1 := HXi.out; rw [e, HYi.out] at h1; exact (Option.some.inj h1).symm)
          have HSm := Aside0.mk hs
          clear hs c
          go_upto_region 6 with fail
          go_still (by kernel_rfl)
          have HBn := Aside0.mk (below_drew1 HB.out)
          go_wp2
          go_ret
          exact ⟨⟨false, rfl, ⟨fun h => absurd h (by decide), fun h => absurd h HSm.out⟩⟩, HBn.out⟩
  · have hne : ¬ ((xs.length : Int) = (ys.length : Int)) := by omega
    have c1 : ((xs.length : Int) == (ys.length : Int)) = false := beq_eq_false_iff_ne.mpr hne
    have c2 : ((xs.length : Int) != (ys.length : Int)) = true := bne_iff_ne.mpr hne
    have c3 : decide ((xs.length : Int) = (ys.length : Int)) = false := decide_eq_false hne
    have c4 : (xs.length == ys.length) = false := beq_eq_false_iff_ne.mpr cl
    have hs : xs ≠ ys := fun e => cl (by rw [e])
    have HSm := Aside0.mk hs
    clear hs hne hx hy
    go_enter Try.func30, Try.ntmps30
    go_wp2
    go_ret
    exact ⟨⟨false, rfl, ⟨fun h => absurd h (by decide), fun h => absurd h HSm.out⟩⟩, Below.refl _ _⟩
abbrev mb : ByteArray := ⟨#[98]⟩
end Go.Proofs.Ytpcpjlbfhbicaaa.Sh
end
