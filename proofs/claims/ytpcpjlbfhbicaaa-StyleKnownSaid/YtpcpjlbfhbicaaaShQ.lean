/- (*style.Sheet).Remove and Clone over this program: their contracts. Conditions: the Sheet stands in memory; its names are short. -/
import Derived.Test.YtpcpjlbfhbicaaaShO
import Derived.Maps.RangeWalk
import Derived.Maps.OwnSet
set_option linter.unusedVariables false
set_option linter.unusedSimpArgs false
namespace Go.Proofs.Ytpcpjlbfhbicaaa.Sh
open Go Go.RowKit Go.Proofs.YtpcpjlbfhbicaaaW.PrintWords Go.Proofs.YtpcpjlbfhbicaaaW.PrintLast Go.Proofs.YtpcpjlbfhbicaaaW.PrintMore Go.Proofs.Ytpcpjlbfhbicaaa.PStyleProps
open Go.Proofs.Ytpcpjlbfhbicaaa.PStyleNearest (S37 k37 z37 rd_T37 at_T37 k37_open k37_openM k37_mk k37_mkM info37)
theorem find_of_mem {H : Type} {k : Lit} {d : DataW H} (hk : WideAt.IsKeyLit k) : ∀ (l : List (Lit × DataW H)), l.Pairwise (fun p q => p.1 ≠ q.1) → (k, d) ∈ l → l.find? (fun p => p.1.sameKey k) = some (k, d)
  | [], _, h => by cases h
  | y :: r, hp, h => by
    obtain ⟨h1, h2⟩ := List.pairwise_cons.1 hp
    rcases List.mem_cons.1 h with rfl | h
    · rw [List.find?_cons, WideAt.sameKey_self hk]
    · rw [List.find?_cons, Maps.sameKey_ne (h1 _ h)]
      exact find_of_mem hk r h2 h
theorem MapAt.data {w : World} {gm : Nat} {M : List Ent} (h : MapAt w gm M) (hn : ∀ m ∈ M, m.1.size ≤ 16) (hl : M.length ≤ 32) (hsl : Slices M) :
    ∃ D : DataW Value, w.ownsMap Try.prog 9 RS gm 32 D ∧ (∀ m ∈ M, (∀ zd, D.atKey (.string m.1.data.toList) zd = .held m.val) ∧ Maps.has D (.string m.1.data.toList) = true) ∧ (∀ kl v, (∀ zd, D.atKey kl zd = .held v) → ∃ m ∈ M, v = m.val) := by
  obtain ⟨es, clock, hg, hh, hst⟩ := h
  have hsz : es.size = M.length := by rw [← Array.length_toList]; exact hh.len
  have u9 : Try.prog.underlying 9 = some .string := Try.underlying9
  have K : Maps.Keyed Try.prog 9 := Maps.string_keyed u9
  have hr : ∀ x ∈ es.toList, ∃ m, m ∈ M ∧ WideElems.rd Try.prog 9 RS x = some (.string m.1.data.toList, .held m.val) ∧ x.key = .string m.1 := fun x hx => by
    obtain ⟨m, hm, hk, hv⟩ := has_mem hh hx
    refine ⟨m, hm, ?_, hk⟩
    unfold WideElems.rd
    rw [hk, hv, WideMaps.keyOf_string_mk u9 (Nat.le_trans (hn m hm) (by decide)), RS_val (hsl m hm)]
    rfl
  have F : WideElems.Fit Try.prog 9 RS es clock := ⟨Nat.le_trans (by omega : es.size ≤ 32) (by decide), hst, fun x hx => by obtain ⟨m, _, h1, _⟩ := hr x hx; exact ⟨_, h1⟩⟩
  have hperm := WideShapes.sorted_perm (es.toList.map (WideElems.rg Try.prog 9 RS))
  have hap : ((es.toList.map (WideElems.rg Try.prog 9 RS)).foldr DataW.insert []).Pairwise (fun p q => p.1 ≠ q.1) := (hperm.symm.pairwise_iff (fun {a b} (h : a.1 ≠ b.1) => h.symm)).1 (Maps.fit_apart K F)
  refine ⟨_, ⟨es, clock, hg, F, by omega, rfl⟩, fun m hm => ?_, fun kl v hv => ?_⟩
  · have hmem : (Lit.string m.1.data.toList, DataW.held m.val) ∈ (es.toList.map (WideElems.rg Try.prog 9 RS)).foldr DataW.insert [] := by
      refine hperm.mem_iff.2 ?_
      have h1 : (Value.string m.1, m.val) ∈ M.map (fun m => (Value.string m.1, m.val)) := List.mem_map.2 ⟨m, hm, rfl⟩
      rw [← hh] at h1
      obtain ⟨x, hx, e⟩ := List.mem_map.1 h1
      obtain ⟨m2, _, h2, h3⟩ := hr x hx
      refine List.mem_map.2 ⟨x, hx, ?_⟩
      rw [WideElems.rg_of h2]
      have e1 : x.key = .string m.1 := congrArg Prod.fst e
      have e2 : x.val = m.val := congrArg Prod.snd e
      obtain ⟨z, h4, h5⟩ := WideElems.rd_val h2
      rw [e2] at h4
      have e4 : z = (.held m.val, []) := by rw [RS_val (hsl m hm)] at h4; exact (Option.some.inj h4).symm
      rw [e4] at h5
      have e5 : m2.1 = m.1 := by rw [h3] at e1; simpa using e1
      rw [e5]
      exact congrArg _ h5
    have hf := find_of_mem (k := .string m.1.data.toList) trivial _ hap hmem
    refine ⟨fun zd => ?_, ?_⟩
    · unfold DataW.atKey; simp only [hf]
    · rw [Maps.has_eq, List.any_eq_true]
      exact ⟨_, List.mem_of_find?_eq_some hf, WideAt.sameKey_self trivial⟩
  · have h1 := hv .nil
    unfold DataW.atKey at h1
    cases hf : ((es.toList.map (WideElems.rg Try.prog 9 RS)).foldr DataW.insert []).find? (fun p => p.1.sameKey kl) with
    | none => simp only [hf] at h1; cases h1
    | some p =>
      simp only [hf] at h1
      obtain ⟨x, hx, e⟩ := List.mem_map.1 (hperm.mem_iff.1 (List.mem_of_find?_eq_some hf))
      obtain ⟨m, hm, h2, _⟩ := hr x hx
      rw [WideElems.rg_of h2] at e
      subst e
      exact ⟨m, hm, by cases h1; rfl⟩
/-! ### Removing from the map -/
def del (M : List Ent) (n : ByteArray) : List Ent := M.eraseP fun m => n == m.1
def delL (L : List Sty) (n : ByteArray) : List Sty := L.eraseP fun s => n == s.1
theorem Reads.del {w : World} (n : ByteArray) : ∀ {M : List Ent} {L : List Sty}, Reads w M L → Reads w (Sh.del M n) (delL L n)
  | [], [], _ => trivial
  | m :: M, s :: L, ⟨h1, h2, h3, h4⟩ => by
    unfold Sh.del delL
    rw [List.eraseP_cons, List.eraseP_cons, h1]
    cases n == s.1 with
    | true => exact h4
    | false => exact ⟨h1, h2, h3, Reads.del n h4⟩
  | [], _ :: _, h => h.elim
  | _ :: _, [], h => h.elim
theorem findNow_del (n : ByteArray) : ∀ (es : List MapEntry) (M : List Ent) (i : Nat) (q : Nat × Value), Has es M → Instr.findNow .string (.string n) es i = some (some q) → i ≤ q.1 ∧ q.1 - i < es.length ∧ Has (es.eraseIdx (q.1 - i)) (del M n)
  | [], M, i, q, h, hf => by cases hf
  | e :: es, M, i, q, h, hf => by
    cases M with
    | nil => simp [Has] at h
    | cons m M =>
      have h' := h
      simp only [Has, List.map_cons, List.cons.injEq, Prod.mk.injEq] at h'
      obtain ⟨⟨hk, hv⟩, hr⟩ := h'
      unfold Instr.findNow at hf
      rw [hk] at hf
      simp only [Instr.sameNow] at hf
      by_cases c : (n == m.1) = true
      · rw [c] at hf
        simp only [Option.some.injEq] at hf
        subst hf
        refine ⟨Nat.le_refl _, by simp, ?_⟩
        simp only [Nat.sub_self, List.eraseIdx_zero, List.tail_cons, del, List.eraseP_cons, c, if_true]
        exact hr
      · have c' : (n == m.1) = false := by simpa using c
        rw [c'] at hf
        obtain ⟨h1, h2, h3⟩ := findNow_del n es M (i + 1) q hr hf
        have e1 : q.1 - i = (q.1 - (i + 1)) + 1 := by omega
        refine ⟨by omega, by rw [e1, List.length_cons]; omega, ?_⟩
        rw [e1]
        simp only [Has, del, List.eraseP_cons, c', List.eraseIdx_cons_succ, List.map_cons] at h3 ⊢
        rw [h3, hk, hv]
        rfl
theorem run_delete {w : World} {gm : Nat} {M : List Ent} (h : MapAt w gm M) (n : ByteArray) (hn : (found M n).isSome = true) (ty : TypeId) :
    ∃ o, (Builtin.delete_ #[75, 9] ty #[.map (some gm), .string n]).run Try.prog w = .ok (.tuple #[]) { w with heap := w.heap.setIfInBounds gm o } ∧ MapAt { w with heap := w.heap.setIfInBounds gm o } gm (del M n) := by
  obtain ⟨es, clock, hg, hh, hst⟩ := h
  obtain ⟨o, h1, h2⟩ := findNow_has n es.toList M 0 hh
  have u9 : Try.prog.underlying 9 = some .string := Try.underlying9
  have hc : ∀ b, (Instr.checkKey b 10000 9 (.string n)).run Try.prog w = .ok () w := fun b => MapKept.run_checkKey (k := .string n) u9 (by simp [MapKept.IsKey]) _ 9999
  cases o with
  | none => rw [← Option.isSome_map (f := Ent.val), ← h2] at hn; cases hn
  | some q =>
    obtain ⟨_, hq, hd⟩ := findNow_del n es.toList M 0 q hh h1
    refine ⟨.map (es.eraseIdxIfInBounds q.1) clock, ?_, _, _, (MapKept.heap_set hg).1, ?_, MapKept.stamped_erase hst _⟩
    · simp [Builtin.delete_, run_underlying under75, MapKept.run_getObj_map hg, hc, MapKept.run_findKey u9 h1, MapKept.run_setObj_map _ hg, Result.andThen]
    · rw [Nat.sub_zero] at hd hq
      unfold Array.eraseIdxIfInBounds
      rw [dif_pos (by simpa using hq)]
      simpa using hd
theorem sheet_del {w : World} {gs gm : Nat} {M : List Ent} {L : List Sty} {n : ByteArray} {o : Obj} (h1 : w.heap[gs]? = some (.cells #[.map (some gm)] 77 (0, 0))) (h2 : MapAt w gm M) (h3 : Reads w M L)
    (h4 : MapAt { w with heap := w.heap.setIfInBounds gm o } gm (del M n)) : Sheet { w with heap := w.heap.setIfInBounds gm o } gs gm (delL L n) := by
  have hne := gs_ne h1 h2
  obtain ⟨es, clock, hg, _⟩ := h2
  refine ⟨?_, _, h4, (h3.del n).imp (fun v l h => h.put hg o)⟩
  rw [(MapKept.heap_set hg).2 gs (fun e => hne e.symm)]
  exact h1
/-! ### Remove -/
def remE (L : List Sty) (n : ByteArray) : Int := if fnd L n = none then 6 else if (L.any fun s => s.2.1 == n) = true then 9 else 0
def remL (L : List Sty) (n : ByteArray) : List Sty := if remE L n = 0 then delL L n else L
set_option maxHeartbeats 4000000 in
set_option maxRecDepth 100000 in
theorem remove_miss (gs gm : Nat) (L : List Sty) (n : ByteArray) (w : World) (hs : Sheet w gs gm L) (hf : fnd L n = none) :
    Calls Try.prog 29 #[.pointer (some ⟨gs, 0, none⟩), .string n] w fun x w' => x = .returned (.int .i64 6) ∧ Below w.heap.size w w' := by
  have hu := Try.underlying77
  have hu5 := Try.underlying75
  have hu8 := Try.underlying85
  obtain ⟨h1, M, hm, hrd⟩ := hs
  obtain ⟨r1, r2, r3, _⟩ := reads_all n hrd
  obtain ⟨p, hp⟩ : ∃ p, p = upL L n := ⟨_, rfl⟩
  rw [← hp] at r1
  obtain ⟨A, c, e1, e2, e3⟩ := r2
  generalize hm0 : (setsL L n).length = m at e1 e2 e3
  have H1 := Aside0.mk h1
  have hlk : (Instr.lookup 75 (.map (some gm)) (.string n) true).run Try.prog w = .ok (.tuple #[.agg #[.string p, .slice A m c], .bool false]) w := by rw [look2 hm, r1, e1, r3, hf]; rfl
  have e0 := (blk_cell h1 0).trans rfl
  clear h1 hm hrd r1 r3 e1 e2 e3 hp hm0 hf
  go_enter Try.func29, Try.ntmps29
  go_wp2_with (first | (go_at_call 40; refine (none_calls gs gm _ H1.out).mono ?_; rintro x w7 ⟨rfl, hw⟩; rw [hw]; clear hw))
  go_ret
  exact ⟨rfl, below_alloc (Below.refl _ _) _⟩
theorem wpList_delete_sh (w : World) {ops : Array Oper} {rest : List Oper} {o : Oper} {a : Act} {Q : Exit → Act → World → Prop} (hg : o.guard = none) (m x : Operand) (hop : o.op = Op.call { callee := Callee.builtin Builtin.delete, args := #[m, x], argTypes := #[75, 9] })
    (gm : Nat) (n : ByteArray) (M : List Ent) (hm : a.eval m = .map (some gm)) (hx : a.eval x = .string n) (h : MapAt w gm M) (hn : (found M n).isSome = true)
    (hK : ∀ o', MapAt { w with heap := w.heap.setIfInBounds gm o' } gm (del M n) → wpList Try.prog ops Q rest (a.put o.dst (.tuple #[])) { w with heap := w.heap.setIfInBounds gm o' }) : wpList Try.prog ops Q (o :: rest) a w := by
  refine wpList_plain hg fun K' hK' => ?_
  obtain ⟨o', hrun, hat⟩ := run_delete h n hn o.type
  unfold Oper.wp
  simp [execOp, hop, resolve, invoke, builtin, hm, hx, hrun, Result.andThen]
  exact hK' _ _ (hK o' hat)
set_option maxHeartbeats 8000000 in
set_option maxRecDepth 100000 in
theorem remove_there (gs gm : Nat) (L : List Sty) (n : ByteArray) (w : World) (hs : Sheet w gs gm L) (hn : ∀ s ∈ L, s.1.size ≤ 16) (hl : L.length ≤ 32) (hf : (fnd L n).isSome = true) :
    Calls Try.prog 29 #[.pointer (some ⟨gs, 0, none⟩), .string n] w fun x w' => x = .returned (.int .i64 (remE L n)) ∧ Sheet w' gs gm (remL L n) ∧ w.grownBy w' (some gm) := by
  have hu := Try.underlying77
  have hu5 := Try.underlying75
  have hu8 := Try.underlying85
  have hgl : gm < w.heap.size := (sheet_lt hs).2
  have HS0 := Aside0.mk hs
  obtain ⟨h1, M, hm, hrd⟩ := hs
  obtain ⟨r1, r2, r3, r4⟩ := reads_all n hrd
  obtain ⟨p, hp⟩ : ∃ p, p = upL L n := ⟨_, rfl⟩
  rw [← hp] at r1
  obtain ⟨A, c, e1, e2, e3⟩ := r2
  generalize hm0 : (setsL L n).length = m at e1 e2 e3
  obtain ⟨D, hown, hd1, hd2⟩ := hm.data (fun m h => by obtain ⟨s, h2, e⟩ := reads_mem hrd h; rw [← e]; exact hn s h2) (by omega) hrd.slices
  have H1 := Aside0.mk h1
  have HM := Aside0.mk hm
  have HRd := Aside0.mk hrd
  have HD1 := Aside0.mk hd1
  have HD2 := Aside0.mk hd2
  have HO := Aside0.mk hown
  have GL := Aside0.mk hgl
  have HFn : Aside0 ((found M n).isSome = true) := ⟨by rw [r3]; exact hf⟩
  -- what the map's parents say
  have HAny : Aside0 ((L.any fun s => s.2.1 == n) = (M.any fun m => m.2.1 == n)) := ⟨by
    have : ∀ {M : List Ent} {L : List Sty}, Reads w M L → (L.any fun s => s.2.1 == n) = (M.any fun m => m.2.1 == n) := by
      intro M
      induction M with
      | nil => intro L h; cases L with
        | nil => rfl
        | cons s L => exact h.elim
      | cons m M ih => intro L h; cases L with
        | nil => exact h.elim
        | cons s L => obtain ⟨_, h2, _, h4⟩ := h; rw [List.any_cons, List.any_cons, ih h4, h2]
    exact this hrd⟩
  have HE : Aside0 (remE L n = if (M.any fun m => m.2.1 == n) = true then 9 else 0) := ⟨by
    unfold remE
    rw [if_neg (by intro h; rw [h] at hf; cases hf), HAny.out]⟩
  have K : Maps.Keyed Try.prog 9 := Maps.string_keyed Try.underlying9
  have hlk : (Instr.lookup 75 (.map (some gm)) (.string n) true).run Try.prog w = .ok (.tuple #[.agg #[.string p, .slice A m c], .bool true]) w := by rw [look2 hm, r1, e1, r3, hf]
  have e0 := (blk_cell h1 0).trans rfl
  clear h1 hm hrd r1 r3 r4 e1 e2 e3 hp hm0 hf hd1 hd2 hown hgl hn hl HAny
  go_enter Try.func29, Try.ntmps29
  go_upto_region 6 with (first | (go_at_call 40; refine (none_calls gs gm _ H1.out).mono ?_; rintro x w7 ⟨rfl, hw⟩; rw [hw]; clear hw))
  have HB1 : Aside0 (Below w.heap.size w (w.alloc (.cells #[.string p, .slice A m c] 85))) := ⟨below_alloc (Below.refl _ _) _⟩
  clear e0 hlk
  generalize w.alloc (.cells #[.string p, .slice A m c] 85) = w1 at HB1 ⊢
  generalize w.heap.size = gx
  have e0 := (blk_cell (blk_below H1.out HB1.out) 0).trans rfl
  have HO1 : Aside0 (w1.ownsMap Try.prog 9 RS gm 32 D) := ⟨HO.out.kept (grown_of_below HB1.out none) (by simp)⟩
  have hsz1 : w.heap.size ≤ w1.heap.size := below_size HB1.out
  have SZ1 := Aside0.mk hsz1
  clear hsz1
  go_wp2_with (first | (at_range; refine wpList_range_own _ rfl _ 75 rfl 9 85 K Try.underlying75 RS gm 32 D rfl HO1.out ?_; intro w0 hrg0 hg0 hs0))
  go_frame
  have HB0 : Aside0 (Below w.heap.size w w0) := ⟨pw_below_grown HB1.out none SZ1.out hg0 (fun k_ hk => by cases hk)⟩
  clear hg0 hs0 e0
  generalize w1.heap.size = r0 at SZ1 hrg0 ⊢
  have HR0 := Aside0.mk hrg0
  clear hrg0
  go_loopw [8] (fun _ wr => ∃ (left : Lit → Bool) (cnt : Nat), Aside0 (wr.ranges Try.prog 9 RS gm r0 32 D left cnt) ∧ Aside0 (Below w.heap.size w wr) ∧ Aside0 (∀ kl, left kl = false → Maps.has D kl = true → ∀ (q : ByteArray) (s : Value), (∀ zd, D.atKey kl zd = .held (.agg #[.string q, s])) → q ≠ n))
    (fun _ wr => wr.rangeLeft gm r0)
  case atStart => exact ⟨_, _, HR0, HB0, ⟨fun kl h1 h2 => absurd (h1.symm.trans h2) (by decide)⟩⟩
  case round =>
    clear HR0 HB0
    obtain ⟨left, cnt, HR, HB, HI⟩ := hrel
    have e0 := (blk_cell (blk_below H1.out HB.out) 0).trans rfl
    go_wp2_with (first | (at_next; refine wpList_next_ranges _ rfl _ rfl 9 K RS id (fun c : ByteArray × Option Addr × Nat × Nat => .agg #[.string c.1, .slice c.2.1 c.2.2.1 c.2.2.2]) (fun key _ _ => ⟨key, rfl⟩) (fun v y h => by obtain ⟨_, q, A, m, c, e⟩ := RS_inv h; exact ⟨(q, A, m, c), e⟩) gm r0 32 _ _ _ rfl HR.out ?_ ?_))
    · intro h0 hl0
      have hany : (M.any fun m => m.2.1 == n) = false := by
        rw [List.any_eq_false]
        intro m hm
        obtain ⟨a1, a2⟩ := HD1.out m hm
        have := HI.out _ (hl0 _) a2 m.2.1 m.2.2 a1
        simpa using ba_ne this
      have HE0 : Aside0 (remE L n = 0) := ⟨by rw [HE.out, hany]; rfl⟩
      clear hany hl0 h0
      go_wp2_with (first | (at_delete; refine wpList_delete_sh _ rfl _ _ rfl gm n M rfl rfl (HM.out.below HB.out) HFn.out ?_; intro o' hat'; have HAt := Aside0.mk hat'; clear hat'))
      go_ret
      refine ⟨by rw [HE0.out] <;> rfl, ?_, grown_put (gm := gm) HB.out o'⟩
      unfold remL
      rw [if_pos HE0.out]
      exact sheet_del (blk_below H1.out HB.out) (HM.out.below HB.out) (HRd.out.imp (fun _ _ h => h.below HB.out)) HAt.out
    · intro x q Aq mq cq kl y1 y2 w2 cnt2 hkey hlx hv hat hrg2 hlt hg2 hs2 hen
      have ey : y1 = .held (.agg #[.string q, .slice Aq mq cq]) := congrArg Prod.fst (RS_inv hv).1
      have HAt : Aside0 (∀ zd, D.atKey kl zd = .held (.agg #[.string q, .slice Aq mq cq])) := ⟨fun zd => by rw [hat zd, ey]⟩
      have HR2 := Aside0.mk hrg2
      have HB2 : Aside0 (Below w.heap.size w w2) := ⟨pw_below_grown HB.out (some r0) (below_size HB.out) hg2 (fun k_ hk => by cases hk; exact SZ1.out)⟩
      have LT := Aside0.mk hlt
      have HK := Aside0.mk (K.key hkey)
      clear hv hat hrg2 hlt hg2 hs2 hkey ey hlx
      by_cases cqn : q = n
      · have HE9 : Aside0 (remE L n = 9) := ⟨by
          rw [HE.out]
          obtain ⟨m, hm, e⟩ := HD2.out kl _ HAt.out
          have e1 : m.2.1 = q := by unfold Ent.val at e; simp at e; exact e.1.symm
          rw [if_pos (List.any_eq_true.2 ⟨m, hm, by rw [e1, cqn]; exact ba_refl n⟩)]⟩
        subst cqn
        have c2' := ba_refl q
        have c2'' : (q.toList == q.toList) = true := beq_self_eq_true _
        go_wp2
        go_ret
        have hbz : Below w.heap.size w (w2.alloc (.cells #[.string q, .slice Aq mq cq] 85)) := below_alloc HB2.out _
        refine ⟨by rw [HE9.out] <;> rfl, ?_, grown_of_below hbz _⟩
        unfold remL
        rw [if_neg (by rw [HE9.out]; decide)]
        exact HS0.out.below hbz
      · have c2' := ba_ne cqn
        have c2'' := list_neq cqn
        have CQ := Aside0.mk cqn
        clear cqn
        go_wp2
        have hrg3 := HR2.out.alloc (.cells #[.string q, .slice Aq mq cq] 85)
        go_roundw
        case rel => exact ⟨_, cnt2, ⟨hrg3⟩, ⟨below_alloc HB2.out _⟩, ⟨fun kl' h1 h2 q' s' h3 => by
          cases hl : left kl' with
          | false => exact HI.out kl' hl h2 q' s' h3
          | true =>
            rw [hl] at h1
            have hk : kl'.sameKey kl = true := by simpa using h1
            have e := WideAt.sameKey_eq hk
            subst e
            have e2 := (h3 .nil).symm.trans (HAt.out .nil)
            simp at e2
            rw [e2.1]; exact CQ.out⟩⟩
        case measure => rw [hrg3.left_eq, HR.out.left_eq]; exact LT.out
theorem remove_calls (gs gm : Nat) (L : List Sty) (n : ByteArray) (w : World) (hs : Sheet w gs gm L) (hn : ∀ s ∈ L, s.1.size ≤ 16) (hl : L.length ≤ 32) :
    Calls Try.prog 29 #[.pointer (some ⟨gs, 0, none⟩), .string n] w fun x w' => x = .returned (.int .i64 (remE L n)) ∧ Sheet w' gs gm (remL L n) ∧ w.grownBy w' (some gm) := by
  cases hf : fnd L n with
  | none =>
    have e : remE L n = 6 := by unfold remE; rw [if_pos hf]
    refine (remove_miss gs gm L n w hs hf).mono ?_
    rintro x w' ⟨rfl, hb⟩
    refine ⟨by rw [e], ?_, grown_of_below hb _⟩
    unfold remL
    rw [if_neg (by rw [e]; decide)]
    exact hs.below hb
  | some s => exact remove_there gs gm L n w hs hn hl (by rw [hf]; rfl)
/-! ### Clone -/
set_option maxHeartbeats 4000000 in
set_option maxRecDepth 100000 in
theorem clone_sheet (gs gm : Nat) (L : List Sty) (w : World) (hs : Sheet w gs gm L) :
    Calls Try.prog 32 #[.pointer (some ⟨gs, 0, none⟩)] w fun x w' => ∃ gs' gm', x = .returned (.pointer (some ⟨gs', 0, none⟩)) ∧ w.heap.size ≤ gs' ∧ w.heap.size ≤ gm' ∧ Sheet w' gs' gm' L ∧ Below w.heap.size w w' := by
  have hu := Try.underlying77
  have hu5 := Try.underlying75
  obtain ⟨h1, M, hm, hrd⟩ := hs
  obtain ⟨es, clock, hg, hh, hst⟩ := id hm
  have e0 := (blk_cell h1 0).trans rfl
  have H1 := Aside0.mk h1
  have HRd := Aside0.mk hrd
  have HC : Aside0 (Calls Try.prog 49 #[.map (some gm)] w fun e w' => e = .returned (.map (some w.heap.size)) ∧ w' = w.alloc (.map es clock)) := ⟨AnyW.maps_Clone Try.clone49 gm es clock w hg⟩
  have HH := Aside0.mk hh
  have HSt := Aside0.mk hst
  clear h1 hm hrd hg hh hst
  go_enter Try.func32, Try.ntmps32
  go_wp2_with (first | (go_at_call 40; refine (none_calls gs gm _ H1.out).mono ?_; rintro x w7 ⟨rfl, hw⟩; rw [hw]; clear hw) | (go_at_call 49; refine HC.out.mono ?_; rintro x w8 ⟨rfl, hw⟩; rw [hw]; clear hw))
  go_ret
  refine ⟨w.heap.size + 1, w.heap.size, rfl, by omega, Nat.le_refl _, ⟨?_, M, ⟨es, clock, ?_, HH.out, HSt.out⟩, HRd.out.imp (fun _ _ h => h.below ?_)⟩, below_alloc (below_alloc (Below.refl _ _) _) _⟩
  · have := heap_alloc_new (w.alloc (.map es clock)) (Obj.cells #[Value.map (some w.heap.size)] 77)
    simpa using this
  · exact (Below.heap_alloc _ _ _ (by simp)).trans (heap_alloc_new w _)
  · exact below_alloc (below_alloc (Below.refl _ _) _) _
end Go.Proofs.Ytpcpjlbfhbicaaa.Sh
