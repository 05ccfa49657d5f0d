/- (*style.Sheet).Parent and Names over this program: their contracts. Conditions: the Sheet stands in memory; its names are short. -/
import Derived.Test.YtpcpjlbfhbicaaaShN
import Derived.Test.YtpcpjlbfhbicaaaIter
import Derived.Maps.RangeWalk
import Derived.StringKeys
set_option linter.unusedVariables false
set_option linter.unusedSimpArgs false
namespace Go.Proofs.Ytpcpjlbfhbicaaa.Sh
open Go Go.RowKit Go.Proofs.YtpcpjlbfhbicaaaW.PrintWords Go.Proofs.YtpcpjlbfhbicaaaW.PrintLast Go.Proofs.YtpcpjlbfhbicaaaW.PrintMore Go.Proofs.Ytpcpjlbfhbicaaa.PStyleProps
open Go.Proofs.Ytpcpjlbfhbicaaa.PStyleNearest (S37 k37 z37 rd_T37 at_T37 k37_open k37_openM k37_mk k37_mkM info37)
set_option maxHeartbeats 4000000 in
set_option maxRecDepth 100000 in
theorem parent_miss (gs gm : Nat) (L : List Sty) (n : ByteArray) (w : World) (hs : Sheet w gs gm L) (hf : fnd L n = none) :
    Calls Try.prog 27 #[.pointer (some ⟨gs, 0, none⟩), .string n] w fun x w' => x = .returned (.tuple #[.string ⟨#[]⟩, .int .i64 6]) ∧ Below w.heap.size w w' := by
  have hu := Try.underlying77
  have hu5 := Try.underlying75
  have hu8 := Try.underlying85
  obtain ⟨h1, M, hm, hrd⟩ := hs
  obtain ⟨r1, r2, r3, _⟩ := reads_all n hrd
  obtain ⟨p, hp⟩ : ∃ p, p = upL L n := ⟨_, rfl⟩
  rw [← hp] at r1
  obtain ⟨A, c, e1, e2, e3⟩ := r2
  generalize hm0 : (setsL L n).length = m at e1 e2 e3
  have H1 := Aside0.mk h1
  have hlk : (Instr.lookup 75 (.map (some gm)) (.string n) true).run Try.prog w = .ok (.tuple #[.agg #[.string p, .slice A m c], .bool false]) w := by rw [look2 hm, r1, e1, r3, hf]; rfl
  have e0 := (blk_cell h1 0).trans rfl
  clear h1 hm hrd r1 r3 e1 e2 e3 hp hm0 hf
  go_enter Try.func27, Try.ntmps27
  go_wp2_with (first | (go_at_call 40; refine (none_calls gs gm _ H1.out).mono ?_; rintro x w7 ⟨rfl, hw⟩; rw [hw]; clear hw))
  refine bodyPost_ret (results_tmp2 rfl _ _ _) rfl ?_
  exact ⟨rfl, below_alloc (Below.refl _ _) _⟩
set_option maxHeartbeats 4000000 in
set_option maxRecDepth 100000 in
theorem parent_there (gs gm : Nat) (L : List Sty) (n : ByteArray) (w : World) (hs : Sheet w gs gm L) (hf : (fnd L n).isSome = true) :
    Calls Try.prog 27 #[.pointer (some ⟨gs, 0, none⟩), .string n] w fun x w' => x = .returned (.tuple #[.string (upL L n), .int .i64 0]) ∧ Below w.heap.size w w' := by
  have hu := Try.underlying77
  have hu5 := Try.underlying75
  have hu8 := Try.underlying85
  obtain ⟨h1, M, hm, hrd⟩ := hs
  obtain ⟨r1, r2, r3, _⟩ := reads_all n hrd
  obtain ⟨p, hp⟩ : ∃ p, p = upL L n := ⟨_, rfl⟩
  rw [← hp] at r1
  rw [← hp]
  obtain ⟨A, c, e1, e2, e3⟩ := r2
  generalize hm0 : (setsL L n).length = m at e1 e2 e3
  have H1 := Aside0.mk h1
  have hlk : (Instr.lookup 75 (.map (some gm)) (.string n) true).run Try.prog w = .ok (.tuple #[.agg #[.string p, .slice A m c], .bool true]) w := by rw [look2 hm, r1, e1, r3, hf]
  have e0 := (blk_cell h1 0).trans rfl
  clear h1 hm hrd r1 r3 e1 e2 e3 hp hm0 hf
  go_enter Try.func27, Try.ntmps27
  go_wp2_with (first | (go_at_call 40; refine (none_calls gs gm _ H1.out).mono ?_; rintro x w7 ⟨rfl, hw⟩; rw [hw]; clear hw))
  refine bodyPost_ret (results_tmp2 rfl _ _ _) rfl ?_
  exact ⟨rfl, below_alloc (Below.refl _ _) _⟩
/-! ### Names -/
def RS (v : Value) : Option (DataW Value × List MemPlace) := match v with
  | .agg cs => match cs.toList with
    | [.string _, .slice _ _ _] => some (.held (.agg cs), [])
    | _ => none
  | _ => none
theorem RS_inv {v : Value} {y : DataW Value × List MemPlace} (h : RS v = some y) : y = (.held v, []) ∧ ∃ q A m c, v = .agg #[.string q, .slice A m c] := by
  unfold RS at h
  split at h
  · rename_i cs
    split at h
    · rename_i q A m c e
      cases h
      refine ⟨rfl, q, A, m, c, ?_⟩
      have : cs = #[.string q, .slice A m c] := Array.toList_inj.1 e
      rw [this]
    · cases h
  · cases h
def Slices (M : List Ent) : Prop := ∀ m ∈ M, ∃ A a c, m.2.2 = .slice A a c
theorem RS_val {m : Ent} (h : ∃ A a c, m.2.2 = .slice A a c) : RS m.val = some (.held m.val, []) := by
  obtain ⟨A, a, c, e⟩ := h
  unfold Ent.val
  rw [e]
  rfl
theorem Reads.slices {w : World} : ∀ {M : List Ent} {L : List Sty}, Reads w M L → Slices M
  | [], [], _, m, hm => by cases hm
  | m :: M, s :: L, ⟨_, _, ⟨A, c, e, _⟩, h4⟩, x, hx => by
    rcases List.mem_cons.1 hx with rfl | hx
    · exact ⟨A, _, c, e⟩
    · exact Reads.slices h4 x hx
  | [], _ :: _, h, _, _ => h.elim
  | _ :: _, [], h, _, _ => h.elim
theorem has_mem {es : List MapEntry} {M : List Ent} (h : Has es M) {x : MapEntry} (hx : x ∈ es) : ∃ m, m ∈ M ∧ x.key = .string m.1 ∧ x.val = m.val := by
  have h1 : (x.key, x.val) ∈ es.map (fun e => (e.key, e.val)) := List.mem_map.2 ⟨x, hx, rfl⟩
  rw [h] at h1
  obtain ⟨m, hm, e⟩ := List.mem_map.1 h1
  exact ⟨m, hm, (congrArg Prod.fst e).symm, (congrArg Prod.snd e).symm⟩
def keyS (v : Value) : List UInt8 := match v with
  | .string s => s.data.toList
  | _ => []
theorem MapAt.owns {w : World} {gm : Nat} {M : List Ent} (h : MapAt w gm M) (hn : ∀ m ∈ M, m.1.size ≤ 16) (hl : M.length ≤ 32) (hsl : Slices M) :
    ∃ D : DataW Value, w.ownsMap Try.prog 9 RS gm 32 D ∧ (strKeys D).Perm (M.map fun m => m.1.data.toList) := by
  obtain ⟨es, clock, hg, hh, hst⟩ := h
  have hsz : es.size = M.length := by rw [← Array.length_toList]; exact hh.len
  have u9 : Try.prog.underlying 9 = some .string := Try.underlying9
  have hr : ∀ x ∈ es.toList, ∃ m, m ∈ M ∧ WideElems.rd Try.prog 9 RS x = some (.string m.1.data.toList, .held m.val) ∧ x.key = .string m.1 := fun x hx => by
    obtain ⟨m, hm, hk, hv⟩ := has_mem hh hx
    refine ⟨m, hm, ?_, hk⟩
    unfold WideElems.rd
    rw [hk, hv, WideMaps.keyOf_string_mk u9 (Nat.le_trans (hn m hm) (by decide)), RS_val (hsl m hm)]
    rfl
  refine ⟨_, ⟨es, clock, hg, ⟨Nat.le_trans (by omega : es.size ≤ 32) (by decide), hst, fun x hx => by obtain ⟨m, _, h1, _⟩ := hr x hx; exact ⟨_, h1⟩⟩, by omega, rfl⟩, ?_⟩
  refine ((WideShapes.sorted_perm (es.toList.map (WideElems.rg Try.prog 9 RS))).map (fun p => strOf p.1)).trans ?_
  rw [List.map_map]
  have e : es.toList.map ((fun p : Lit × DataW Value => strOf p.1) ∘ WideElems.rg Try.prog 9 RS) = (es.toList.map (fun e => (e.key, e.val))).map (fun kv => keyS kv.1) := by
    rw [List.map_map]
    refine List.map_congr_left fun x hx => ?_
    obtain ⟨m, _, h1, h2⟩ := hr x hx
    have e1 : strOf (WideElems.rg Try.prog 9 RS x).1 = m.1.data.toList := by rw [WideElems.rg_of h1]; rfl
    have e2 : keyS x.key = m.1.data.toList := by rw [h2]; rfl
    simp only [Function.comp_apply]
    rw [e1, e2]
  have hh' : es.toList.map (fun e => (e.key, e.val)) = M.map (fun m => (Value.string m.1, m.val)) := hh
  rw [e, hh', List.map_map]
  have e3 : M.map ((fun kv : Value × Value => keyS kv.1) ∘ fun m => (Value.string m.1, m.val)) = M.map fun m => m.1.data.toList := List.map_congr_left fun m _ => rfl
  rw [e3]
theorem reads_names {w : World} : ∀ {M : List Ent} {L : List Sty}, Reads w M L → M.map (·.1) = L.map (·.1)
  | [], [], _ => rfl
  | m :: M, s :: L, ⟨h1, h2, h3, h4⟩ => by rw [List.map_cons, List.map_cons, h1, reads_names h4]
  | [], _ :: _, h => h.elim
  | _ :: _, [], h => h.elim
theorem reads_mem {w : World} {M : List Ent} {L : List Sty} (h : Reads w M L) {m : Ent} (hm : m ∈ M) : ∃ s, s ∈ L ∧ s.1 = m.1 := by
  have h1 : m.1 ∈ M.map (·.1) := List.mem_map.2 ⟨m, hm, rfl⟩
  rw [reads_names h] at h1
  obtain ⟨s, hs, e⟩ := List.mem_map.1 h1
  exact ⟨s, hs, e⟩
theorem sorts47 (m : Nat) : AnyZ.SortsIn Try.prog Try.sorted47_ren Fence.wide m :=
  ⟨fun blk off cap ss W hH hblk hsz => callsIn_wide.2 (AnyM.slices_Sort_string Try.sort57 blk off cap ss W hH hblk hsz),
   fun p cap W => callsIn_wide.2 (AnyM.slices_Sort_string_none Try.sort57 p cap W)⟩
theorem keys_48 (mb : Option Nat) (W : World) : CallsIn Fence.wide 5 Try.prog 48 #[.map mb] W fun e w' => e = .returned (.func (.func 58) #[] #[.pointer (some ⟨W.heap.size, 0, none⟩)]) ∧ w' = W.alloc (.cells #[.map mb] 75) :=
  AnyZ.keys_in Try.keys48 Fence.wide 5 trivial rfl mb W
set_option maxHeartbeats 1000000 in
theorem sorted_47 {H : Type} (b nn : Nat) (D0 : DataW H) (R : Value → Option (DataW H × List MemPlace)) (w : World) (hown : w.ownsMap Try.prog 9 R b nn D0) (hmax : Maps.size D0 ≤ maxLen) (hbytes : Maps.size D0 * 16 ≤ 140737488355328) :
    CallsIn Fence.wide 5 Try.prog 47 #[.func (.func 58) #[] #[.pointer (some ⟨w.heap.size, 0, none⟩)]] (w.alloc (.cells #[.map (some b)] 75)) fun e w' => ∃ (v : Value) (ss : List (List UInt8)), e = .returned v ∧ ss.Perm (strKeys D0) ∧
      w'.ownsRow (w.alloc (.cells #[.map (some b)] 75)).heap.size 9 1 v ss.length ((ss.mergeSort (fun x y => decide (x ≤ y))).map encStr) ∧ (v = .slice none 0 0 ↔ ss = []) ∧ Below (w.alloc (.cells #[.map (some b)] 75)).heap.size (w.alloc (.cells #[.map (some b)] 75)) w' := by
  have hbl := hown.lt
  have hseq : SeqGives Fence.wide 2 Try.prog 58 #[.pointer (some ⟨w.heap.size, 0, none⟩)] encStr (fun ss => ss.Perm (strKeys D0)) (Maps.size D0) (w.alloc (.cells #[.map (some b)] 75)) :=
    AnyZ.keys_gives (ρ := Try.keys48_ren) { Try.keys48 with } Fence.wide _ trivial rfl (by omega) w.heap.size b nn D0 _ (by simp) (by simp) (by
      obtain ⟨es, clock, hb, Ft, hs, hD⟩ := hown
      exact ⟨es, clock, (Below.heap_alloc _ _ b hbl).trans hb, Ft, hs, hD⟩)
  exact AnyZ.sorted_in Try.sorted47 Fence.wide 5 trivial trivial trivial trivial rfl (by omega) (sorts47 _) (enters_of Try.func57 (by kernel_rfl) rfl) 58 #[.pointer (some ⟨w.heap.size, 0, none⟩)] trivial (enters_of Try.func58 (by kernel_rfl) rfl) _ _ hmax hbytes _ hseq
set_option maxHeartbeats 4000000 in
set_option maxRecDepth 100000 in
theorem names0 (gs gm : Nat) (D : DataW Value) (w : World) (h1 : w.heap[gs]? = some (.cells #[.map (some gm)] 77 (0, 0))) (hown : w.ownsMap Try.prog 9 RS gm 32 D) (hmax : Maps.size D ≤ maxLen) (hbytes : Maps.size D * 16 ≤ 140737488355328) :
    Calls Try.prog 26 #[.pointer (some ⟨gs, 0, none⟩)] w fun x w' => ∃ (v : Value) (ss : List (List UInt8)), x = .returned v ∧ ss.Perm (strKeys D) ∧ w'.ownsRow (w.alloc (.cells #[.map (some gm)] 75)).heap.size 9 1 v ss.length ((ss.mergeSort (fun x y => decide (x ≤ y))).map encStr) ∧ Below w.heap.size w w' := by
  refine (callsIn_wide (n := 6)).1 ?_
  have hu := Try.underlying77
  have hu5 := Try.underlying75
  have e0 := (blk_cell h1 0).trans rfl
  have H1 := Aside0.mk h1
  have HO := Aside0.mk hown
  have HM := Aside0.mk hmax
  have HY := Aside0.mk hbytes
  have hf48 : Fence.wide.fn 48 := trivial
  have hf47 : Fence.wide.fn 47 := trivial
  have hf40 : Fence.wide.fn 40 := trivial
  clear h1 hown hmax hbytes
  refine callsIn_of_wp Try.func26 rfl trivial ?_ rfl
  simp only [Try.ntmps26, List.size_toArray, List.length_cons, List.length_nil, Nat.reduceAdd, Nat.reduceSub, Array.replicate_succ, Array.replicate_zero, List.push_toArray, List.append_toArray, List.nil_append, List.cons_append]
  gi_wp2_with (first
    | (gi_at_call 40; refine (callsIn_wide.2 (none_calls gs gm _ H1.out)).mono ?_; rintro e w' ⟨rfl, hw⟩; rw [hw]; clear hw)
    | (gi_at_call 48; refine (keys_48 _ _).mono ?_; rintro e w' ⟨rfl, hw⟩; rw [hw]; clear hw)
    | (gi_at_call 47; refine (sorted_47 gm 32 D RS w HO.out HM.out HY.out).mono ?_; rintro e w' ⟨v, ss, rfl, hS, hrow, hnil, hb⟩))
  go_ret
  exact ⟨v, ss, rfl, hS, hrow, ((Below.refl _ w).alloc (Nat.le_refl _) _).trans (hb.mono (by simp))⟩
theorem str_back (s : ByteArray) : encStr s.data.toList = .string s := by
  show Value.string ⟨s.data.toList.toArray⟩ = .string s
  rw [Array.toArray_toList]
theorem names_calls (gs gm : Nat) (L : List Sty) (w : World) (hs : Sheet w gs gm L) (hn : ∀ s ∈ L, s.1.size ≤ 16) (hl : L.length ≤ 32) :
    Calls Try.prog 26 #[.pointer (some ⟨gs, 0, none⟩)] w fun x w' => ∃ (B : Option Addr) (cap : Nat) (ns : List ByteArray), x = .returned (.slice B ns.length cap) ∧ ns.length = L.length ∧ (∀ a, a ∈ ns ↔ a ∈ L.map (·.1)) ∧ (ns.map (·.data.toList)).Pairwise (fun a b => a ≤ b) ∧
      (∀ (i : Nat) (s : ByteArray), ns[i]? = some s → ∃ ad, B = some ad ∧ w'.cell? (ad.add i) = some (.string s)) ∧ Below w.heap.size w w' := by
  obtain ⟨h1, M, hm, hrd⟩ := hs
  have hlen : M.length = L.length := by have := congrArg List.length (reads_names hrd); simpa using this
  obtain ⟨D, hown, hperm⟩ := hm.owns (fun m h => by obtain ⟨s, h2, e⟩ := reads_mem hrd h; rw [← e]; exact hn s h2) (by omega) hrd.slices
  have hsz : Maps.size D = M.length := by
    have h2 := hperm.length_eq
    rw [List.length_map] at h2
    cases D with
    | map es => simpa [strKeys, Maps.size] using h2
    | _ => obtain ⟨es, clock, _, _, _, hD⟩ := hown; cases hD
  refine (names0 gs gm D w h1 hown (by rw [hsz]; exact Nat.le_trans (by omega : M.length ≤ 32) (by decide)) (by omega)).mono ?_
  rintro x w' ⟨v, ss, rfl, hS, hrow, hb⟩
  have hp : (ss.mergeSort (fun x y => decide (x ≤ y))).Perm (L.map fun s => s.1.data.toList) := by
    refine (List.mergeSort_perm _ _).trans (hS.trans (hperm.trans ?_))
    have e : M.map (fun m => m.1.data.toList) = (M.map (·.1)).map (fun n : ByteArray => n.data.toList) := by rw [List.map_map]; rfl
    rw [e, reads_names hrd, List.map_map]
    exact List.Perm.refl _
  have hlss : (ss.mergeSort (fun x y => decide (x ≤ y))).length = ss.length := List.length_mergeSort _
  have hso : (ss.mergeSort (fun x y => decide (x ≤ y))).Pairwise (fun a b => a ≤ b) := by
    have := List.pairwise_mergeSort (le := fun (x y : List UInt8) => decide (x ≤ y)) (fun a b c h1 h2 => by simp only [decide_eq_true_eq] at *; exact List.le_trans h1 h2) (fun a b => by simp only [Bool.or_eq_true, decide_eq_true_eq]; exact List.le_total a b) ss
    exact this.imp (fun h => by simpa using h)
  generalize ss.mergeSort (fun x y => decide (x ≤ y)) = T at hp hlss hso hrow
  have hTl : T.length = L.length := by have := hp.length_eq; simpa using this
  have key : (T.map fun x => (⟨x.toArray⟩ : ByteArray)).map (·.data.toList) = T := by
    rw [List.map_map]
    refine (List.map_congr_left (fun x _ => ?_)).trans (List.map_id _)
    rfl
  obtain ⟨hx1, hx2⟩ := hrow
  rcases hx2 with ⟨rfl, h0⟩ | ⟨g, cap, cur, rfl, hbase, hg, hcap, _, hcs, htake⟩
  · have hT : T = [] := List.eq_nil_of_length_eq_zero (by omega)
    subst hT
    have hL : L = [] := List.eq_nil_of_length_eq_zero (by rw [← hTl]; rfl)
    subst hL
    exact ⟨none, 0, [], rfl, rfl, fun a => Iff.rfl, List.Pairwise.nil, fun i s h => by simp at h, hb⟩
  · refine ⟨some ⟨g, 0, none⟩, cap, T.map fun x => ⟨x.toArray⟩, ?_, ?_, fun a => ?_, ?_, fun i s h => ?_, hb⟩
    · rw [List.length_map, hlss]
    · rw [List.length_map, hTl]
    · constructor
      · intro h
        obtain ⟨x, hx, rfl⟩ := List.mem_map.1 h
        obtain ⟨s, hs2, rfl⟩ := List.mem_map.1 (hp.mem_iff.1 hx)
        exact List.mem_map.2 ⟨s, hs2, rfl⟩
      · intro h
        obtain ⟨s, hs2, rfl⟩ := List.mem_map.1 h
        exact List.mem_map.2 ⟨_, hp.mem_iff.2 (List.mem_map.2 ⟨s, hs2, rfl⟩), rfl⟩
    · rw [key]; exact hso
    · refine ⟨_, rfl, ?_⟩
      rw [List.getElem?_map, Option.map_eq_some_iff] at h
      obtain ⟨x, hx, rfl⟩ := h
      have hi : i < ss.length := by rw [← hlss]; exact (List.getElem?_eq_some_iff.1 hx).1
      have h3 : (T.map encStr)[i]? = some (encStr x) := by rw [List.getElem?_map, hx]; rfl
      rw [← htake, List.getElem?_take_of_lt (by omega), Array.getElem?_toList] at h3
      have := (blk_cell hg i).trans h3
      have ea : (⟨g, 0, none⟩ : Addr).add i = ⟨g, i, none⟩ := by
        simp only [Addr.add]
        split
        · rename_i h0; subst h0; rfl
        · simp
      rw [ea]; exact this
end Go.Proofs.Ytpcpjlbfhbicaaa.Sh
