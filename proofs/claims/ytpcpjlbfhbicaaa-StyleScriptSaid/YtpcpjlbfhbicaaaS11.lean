/- Own walks for the law, joined from several texts: what the law reaches, and no more (joined by keeplive.py). -/
import Derived.Test.YtpcpjlbfhbicaaaS10
set_option linter.unusedVariables false
set_option linter.unusedSimpArgs false
namespace Go.Proofs.Ytpcpjlbfhbicaaa.Sh
open Go Go.RowKit Go.Proofs Go.Maps Go.Sort Go.Shelf Go.Proofs.YtpcpjlbfhbicaaaW.PrintWords Go.Proofs.YtpcpjlbfhbicaaaW.PrintLast Go.Proofs.YtpcpjlbfhbicaaaW.PrintMore Go.Proofs.Ytpcpjlbfhbicaaa.PStyleProps
open Go.Proofs.Ytpcpjlbfhbicaaa.PStyleNearest (S37 k37 z37 rd_T37 at_T37 k37_open k37_openM k37_mk k37_mkM info37)
/-- An empty string, or one of some. -/
def StrOf (ss : List (List UInt8)) (u : Value) : Prop := ∃ s : ByteArray, u = .string s ∧ (s.size = 0 ∨ s.data.toList ∈ ss)
/-- The row that a slice value owns holds strings, those behind its length too. -/
def StrBlk (e : Nat) (W : World) (v : Value) (ss : List (List UInt8)) : Prop := ∀ k, v.ownBlock = some k → ∃ cur, W.heap[k]? = some (.cells cur e (0, 0)) ∧ ∀ u ∈ cur.toList, StrOf ss u
theorem StrBlk.mono {e : Nat} {W : World} {v : Value} {ss tt : List (List UInt8)} (h : StrBlk e W v ss) (hs : ∀ x, x ∈ ss → x ∈ tt) : StrBlk e W v tt := fun k hk => by
  obtain ⟨cur, h1, h2⟩ := h k hk
  refine ⟨cur, h1, fun u hu => ?_⟩
  obtain ⟨s, e, h3⟩ := h2 u hu
  exact ⟨s, e, h3.imp id (hs _)⟩
/-- A slice of strings in new memory, up to its capacity. -/
def OwnStr (w : World) (base : Nat) (A : Option Addr) (n cap : Nat) : Prop := (A = none ∧ n = 0 ∧ cap = 0) ∨ ∃ g cur, A = some ⟨g, 0, none⟩ ∧ base ≤ g ∧ n ≤ cap ∧ cap ≤ maxLen ∧ w.heap[g]? = some (.cells cur 9 (0, 0)) ∧ cur.size = cap ∧ ∀ u ∈ cur.toList, ∃ s : ByteArray, u = Value.string s ∧ s.size ≤ 1000
theorem OwnStr.below {w w' : World} {base n cap : Nat} {A : Option Addr} (h : OwnStr w base A n cap) (hb : Below w.heap.size w w') : OwnStr w' base A n cap := by
  rcases h with h | ⟨g, cur, h1, h2, h3, h4, h5, h6⟩
  · exact .inl h
  · exact .inr ⟨g, cur, h1, h2, h3, h4, blk_below h5 hb, h6⟩
theorem StrBlk.nil (e : Nat) (W : World) (ss : List (List UInt8)) : StrBlk e W (.slice none 0 0) ss := fun k hk => by simp [Value.ownBlock] at hk
theorem StrBlk.kept {e : Nat} {W W' : World} {v : Value} {row : Option Nat} {ss : List (List UInt8)} (h : StrBlk e W v ss) (hg : W.grownBy W' row) (hne : v.ownBlock = none ∨ v.ownBlock ≠ row) : StrBlk e W' v ss := by
  intro k hk
  obtain ⟨cur, h1, h2⟩ := h k hk
  refine ⟨cur, (hg.block k (Array.getElem?_eq_some_iff.1 h1).1 ?_).trans h1, h2⟩
  rcases hne with h | h
  · rw [h] at hk; cases hk
  · rw [hk] at h; exact h
theorem str_zero (ss : List (List UInt8)) (n : Nat) : ∀ u ∈ (Builtin.zeroCells (Value.string ⟨#[]⟩).cells n).toList, StrOf ss u := by
  intro u hu
  have h := Array.mem_toList_iff.1 hu
  simp only [Builtin.zeroCells] at h
  rw [Array.mem_iff_getElem] at h
  obtain ⟨j, hj, e⟩ := h
  refine ⟨⟨#[]⟩, ?_, .inl rfl⟩
  rw [← e]
  have h0 : j % 1 = 0 := Nat.mod_one j
  simp [Value.cells, h0]
theorem append_tail {P : Program} (w : World) (base : Nat) (t ty e : TypeId) (i : TypeInfo) (ht : P.underlying t = some (.slice e)) (hi : P.info? e = some i) (hz : i.zero = some (.string ⟨#[]⟩)) (hsize : i.size = 1) (hby : i.bytes = 16)
    (v : Value) (n : Nat) (xs : List Value) (hown : w.ownsRow base e 1 v n xs) {ss : List (List UInt8)} (hst0 : StrBlk e w v ss) (a : Addr) (c : Nat) (x : ByteArray) (hnews : ∀ j u, [Value.string x][j]? = some u → w.cell? (a.add j) = some u)
    (h63 : n + 1 ≤ maxLen) (hbytes : (n + 1) * 16 ≤ 140737488355328) (v' : Value) (w' : World) (hrun : (Builtin.append_ #[t, t] ty #[v, .slice (some a) 1 c]).run P w = .ok v' w') : StrBlk e w' v' (ss ++ [x.data.toList]) := by
  have hst := hst0.mono (tt := ss ++ [x.data.toList]) (fun y hy => List.mem_append_left _ hy)
  have hxx : StrOf (ss ++ [x.data.toList]) (.string x) := ⟨x, rfl, .inr (List.mem_append_right _ (List.mem_singleton.2 rfl))⟩
  have hxs : ∀ u ∈ xs, StrOf (ss ++ [x.data.toList]) u := by
    rcases hown.2 with ⟨rfl, rfl⟩ | ⟨g, cap, cur, rfl, hbg, hg, hnc, hcm, hcs, htake⟩
    · have hx : xs = [] := List.eq_nil_of_length_eq_zero (by simpa using hown.1)
      subst hx
      intro u hu
      cases hu
    · obtain ⟨cur2, h1, h2⟩ := hst g rfl
      rw [hg] at h1
      cases h1
      intro u hu
      rw [← htake] at hu
      exact h2 u (List.mem_of_mem_take hu)
  have hxl : xs.length = n * i.size := by rw [hsize]; exact hown.1
  have hnl : [Value.string x].length = 1 * i.size := by rw [hsize]; rfl
  have hsmall : n + 1 ≤ 9223372036854775807 := by simp only [maxLen] at h63; omega
  have fresh : ∀ (m : Nat), StrBlk e (w.drew.alloc (.cells (xs.toArray ++ [Value.string x].toArray ++ Builtin.zeroCells (Value.string ⟨#[]⟩).cells m) e)) (.slice (some ⟨w.heap.size, 0, none⟩) (n + 1) (n + 1 + m)) (ss ++ [x.data.toList]) := by
    intro m k hk
    simp only [Value.ownBlock, Option.some.injEq] at hk
    subst hk
    refine ⟨_, heap_alloc_new w.drew _, ?_⟩
    intro u hu
    simp only [Array.toList_append, List.mem_append] at hu
    rcases hu with (hu | hu) | hu
    · exact hxs u hu
    · rw [List.mem_singleton.1 hu]; exact hxx
    · exact str_zero _ m u hu
  have fresh2 : ∀ (m N : Nat), StrBlk e (w.drew.alloc (.cells (xs.toArray ++ [Value.string x].toArray ++ Builtin.zeroCells (Value.string ⟨#[]⟩).cells m) e)) (.slice (some ⟨w.heap.size, 0, none⟩) (n + 1) N) (ss ++ [x.data.toList]) := fun m N k hk => fresh m k hk
  rcases hown.2 with ⟨rfl, rfl⟩ | ⟨g, cap, cur, rfl, hbg, hg, hnc, hcm, hcs, htake⟩
  · have hx : xs = [] := List.eq_nil_of_length_eq_zero (by simpa using hown.1)
    subst hx
    have hr := run_append_nil (P := P) w t ty e i (.string ⟨#[]⟩) ht hi hz a 1 c [.string x] hnl hnews (by omega) (by omega) (by omega)
    rw [hr] at hrun
    cases hrun
    have := fresh2 (grownCap w 1 0 e - 1) (grownCap w 1 0 e)
    simpa using this
  · by_cases hroom : n + 1 ≤ cap
    · have hr := run_append_room (P := P) w t ty e i ht hi g n cap cur hg a 1 c [.string x] hnl hnews (fun u hu => by rw [List.mem_singleton.1 hu]; rfl) hroom (by rw [hsize]; simp only [List.length_cons, List.length_nil]; omega)
      rw [hr] at hrun
      cases hrun
      obtain ⟨cur2, h1, h2⟩ := hst g rfl
      rw [hg] at h1
      cases h1
      intro k hk
      simp only [Value.ownBlock, Option.some.injEq] at hk
      subst hk
      refine ⟨_, setRow_heap w g cur _ e _ hg, fun u hu => ?_⟩
      simp only [List.mem_append] at hu
      rcases hu with (hu | hu) | hu
      · exact h2 u (List.mem_of_mem_take hu)
      · rw [List.mem_singleton.1 hu]; exact hxx
      · exact h2 u (List.mem_of_mem_drop hu)
    · have holds : ∀ j u, xs[j]? = some u → w.cell? ((⟨g, 0, none⟩ : Addr).add j) = some u := hown.cells (g := g) rfl
      have hr := run_append_grow (P := P) w t ty e i (.string ⟨#[]⟩) ht hi hz ⟨g, 0, none⟩ n cap xs hxl holds a 1 c [.string x] hnl hnews (by omega) (by omega) (growslice_fits (by omega) (by rw [hby]; omega))
      rw [hr] at hrun
      cases hrun
      exact fresh2 _ _
theorem wpListIn_append_str {F : Fence} {n : Nat} {P : Program} (w : World) {ops : Array Oper} {rest : List Oper} {o : Oper} {a : Act} {Q : Exit → Act → World → Prop}
    (hg : o.guard = none) (s x : Operand) (t : TypeId) (hop : o.op = Op.call { callee := Callee.builtin Builtin.append, args := #[s, x], argTypes := #[t, t] })
    (base : Nat) (e : TypeId) (i : TypeInfo) (h1 : P.underlying t = some (.slice e)) (h2 : P.info? e = some i) (h3 : i.zero = some (.string ⟨#[]⟩)) (h4 : i.size = 1) (h5 : i.bytes = 16)
    (v : Value) (k : Nat) (xs : List Value) (hs : a.eval s = v) (hown : w.ownsRow base e 1 v k xs) {ss : List (List UInt8)} (hst : StrBlk e w v ss) (ad : Addr) (c : Nat) (y : ByteArray) (hx : a.eval x = .slice (some ad) 1 c)
    (hc : ∀ j u, [Value.string y][j]? = some u → w.cell? (ad.add j) = some u) (b1 : k + 1 ≤ maxLen) (b2 : (k + 1) * 16 ≤ 140737488355328) (b3 : base ≤ w.heap.size)
    (hK : ∀ v' w', w'.ownsRow base e 1 v' (k + 1) (xs ++ [.string y]) → w.grownBy w' v.ownBlock → (v' = .slice none 0 0 ↔ v = .slice none 0 0 ∧ 1 = 0) → StrBlk e w' v' (ss ++ [y.data.toList]) → wpListIn F n P ops Q rest (a.put o.dst v') w') :
    wpListIn F n P ops Q (o :: rest) a w := by
  refine wpListIn_plain hg fun K hK' => ?_
  obtain ⟨v', w', hrun, r1, r2, r3⟩ := run_append_own (P := P) w base t o.type e i (.string ⟨#[]⟩) 1 16 h1 h2 h3 h4 h5 rfl (by decide) v k xs hown ad 1 c [.string y] rfl hc (fun u hu => by rw [List.mem_singleton.1 hu]; rfl) b1 b2 b3
  have r4 := append_tail w base t o.type e i h1 h2 h3 h4 h5 v k xs hown hst ad c y hc b1 b2 v' w' hrun
  unfold Oper.wpIn
  refine ⟨?_, ?_⟩
  · simp [Oper.about, hop, resolve, Target.leads, Sem.run_pure]
  · rw [Oper.semAt_plain F _ _ (by rw [hop]; intro c hc'; cases hc')]
    simp [execOp, hop, resolve, invoke, builtin, hs, hx, hrun, Result.andThen]
    exact hK' _ _ (hK v' w' r1 r2 r3 r4)
structure ApS (ρ : Ren) (w0 : World) (fn : FuncId) (sv : Value) (Bs l D : Nat) (ss : List (List UInt8)) (W : World) : Prop extends AnyZ.ApAt ρ w0 fn sv Bs l D ss W where
  str : ∀ v, W.heap[Bs]? = some (.cells #[v] (ρ.t 24) (0, 0)) → StrBlk (ρ.t 26) W v ss
theorem ApS.abides (ρ : Ren) (w0 : World) (fn : FuncId) (sv : Value) (Bs l D B : Nat) (hB : w0.heap.size ≤ B) : AbidesFrom B (ApS ρ w0 fn sv Bs l D) := fun s W W' row h hg hrow => by
  have hrow' : ∀ r, row = some r → ∃ o : Obj, W.heap[r]? = some o ∧ o.isWalk = true := fun r e => (hrow r e).2
  obtain ⟨v, hv, hr, hn⟩ := h.box
  refine ⟨AnyZ.ap_abides ρ w0 fn sv Bs l D B hB s W W' row h.toApAt hg hrow, fun v2 hv2 => ?_⟩
  rw [grownBy_keeps hg hrow' hv rfl, hv] at hv2
  cases hv2
  refine (h.str v hv).kept hg ?_
  cases hk : v.ownBlock with
  | none => exact .inl rfl
  | some k =>
    refine .inr fun e' => ?_
    obtain ⟨o, ho, hw⟩ := hrow' k e'.symm
    have := ownsRow_not_walk_a hr k o hk ho
    rw [this] at hw
    cases hw
set_option maxRecDepth 100000 in
set_option maxHeartbeats 4000000 in
theorem ApS.yield {P : Program} {ρ : Ren} (L : SlLaysZ.n11 P ρ) (F : Fence) (m : Nat) (w0 : World) (fn : FuncId) (hfn : F.fn fn) (sv : Value) (Bs l D : Nat) (hBl : Bs ≠ l) (hDl : D ≠ l) (hDB : D ≠ Bs) (h0B : w0.heap.size ≤ Bs) (h0l : w0.heap.size ≤ l)
    (N : Nat) (hN : N ≤ maxLen) (hNb : N * 16 ≤ 140737488355328) (ss : List (List UInt8)) (x : List UInt8) (W : World) (h : ApS ρ w0 fn sv Bs l D ss W) (hlen : ss.length < N) :
    YieldAt F m P l #[encStr x] W fun e W' => e = .returned (.bool true) ∧ ApS ρ w0 fn sv Bs l D (ss ++ [x]) W' ∧ KeepsWalks W W' := by
  have mixed := L.mixed; have t0 := L.t0; have a0 := L.a0; have z0 := L.z0; have v0 := L.v0; have t24 := L.t24; have a24 := L.a24; have z24 := L.z24; have v24 := L.v24; have t26 := L.t26; have a26 := L.a26; have z26 := L.z26; have v26 := L.v26; have t28 := L.t28; have a28 := L.a28; have z28 := L.z28; have v28 := L.v28
  have hne : ρ.t 24 ≠ ρ.t 26 := fun e => by have h := L.t24; rw [e, L.t26] at h; cases h
  have u0 := run_underlying L.t0; have u24 := run_underlying L.t24; have u26 := run_underlying L.t26; have u28 := run_underlying L.t28
  obtain ⟨i0, hi, hz0, hz1, hz2⟩ := info_parts L.i26
  obtain ⟨v, hv, hrow, _⟩ := h.box
  refine ⟨fn, #[.slice none 0 0, sv, .pointer (some ⟨Bs, 0, none⟩), undef, .slice none 0 0, undef, sv, encStr x, undef, undef, undef, undef, undef], AnyZ.apAssign ρ, AnyZ.apBody ρ, by simpa [AnyZ.apRec] using run_yield (P := P) (args := #[encStr x]) h.L rfl, roundIn_of_wpIn hfn ?_⟩
  have hl : l < W.heap.size := (Array.getElem?_eq_some_iff.1 h.L).1
  have hbr := run_beginRound (P := P) h.L rfl
  obtain ⟨W2, hW2⟩ : ∃ W2, W.putObj l (.loop { AnyZ.apRec ρ fn sv Bs D .ready none with state := .busy }) = W2 := ⟨_, rfl⟩
  rw [hW2] at hbr
  have hg2 : W.grownBy W2 (some l) := by rw [← hW2]; exact grownBy_putObj_a _ _ _
  have hk2 : KeepsWalks W W2 := by rw [← hW2]; exact KeepsWalks.putObj _ h.L rfl
  have hv2 : W2.heap[Bs]? = some (.cells #[v] (ρ.t 24) (0, 0)) := by rw [← hW2]; exact (World.putObj_heap_other hBl).trans hv
  have hK2 : W2.heap[D]? = some (.deferred (some [])) := by rw [← hW2]; exact (World.putObj_heap_other hDl).trans h.K
  have hL2 : W2.heap[l]? = some (.loop { AnyZ.apRec ρ fn sv Bs D .ready none with state := .busy }) := by rw [← hW2]; exact World.putObj_heap_same hl
  have hrow2 : W2.ownsRow w0.heap.size (ρ.t 26) 1 v ss.length (ss.map encStr) := hrow.kept hg2 (ownsRow_ne_a hrow h.L (fun cur e => by first | cases e | exact hne (Obj.cells.inj e).2.1))
  have hst2 : StrBlk (ρ.t 26) W2 v ss := (h.str v hv).kept hg2 (ownsRow_ne_a hrow h.L (fun cur e => by first | cases e | exact hne (Obj.cells.inj e).2.1))
  have hb2 : Below w0.heap.size w0 W2 := h.below.grown hg2 h.below.size (fun k e => by cases e; exact h0l)
  obtain ⟨hc2, hf2⟩ := cell_of_box_a hv2
  have hBlt : Bs < W2.heap.size := (Array.getElem?_eq_some_iff.1 hv2).1
  have hl2 : l < W2.heap.size := (Array.getElem?_eq_some_iff.1 hL2).1
  have hDlt : D < W2.heap.size := (Array.getElem?_eq_some_iff.1 hK2).1
  have ne_of : ∀ {j : Nat} {o : Obj}, W2.heap[j]? = some o → (∀ cur, o ≠ .cells cur (ρ.t 26) (0, 0)) → some j ≠ v.ownBlock := fun hj hno => by
    rcases ownsRow_ne_a hrow2 hj hno with e | e
    · rw [e]; simp
    · exact fun e' => e e'.symm
  clear hW2
  unfold AnyZ.apAssign
  gi_wp2_with gi_round_op_a
  unfold AnyZ.apBody
  gi_wp2_with (first
    | (gi_at_builtin; refine wpListIn_append_str _ rfl _ _ (ρ.t 24) rfl w0.heap.size (ρ.t 26) i0 L.t24 hi hz0 hz1 hz2 _ _ _ rfl (hrow2.alloc _) (hst2.kept (World.grownBy_alloc _ _ none) (by cases hv : v.ownBlock <;> simp)) ⟨W2.heap.size, 0, none⟩ 1 ⟨x.toArray⟩ rfl (cell_one_new _ _ _) (by omega) (by omega) (by have := hb2.size; simp; omega) ?_; intro v' w3 hown' hg3 hnil3 hst3
       have hv3 : w3.heap[Bs]? = some (.cells #[v] (ρ.t 24) (0, 0)) := (hg3.block Bs (by simp; omega) (ne_of hv2 (fun cur e => by first | cases e | exact hne (Obj.cells.inj e).2.1))).trans ((Below.heap_alloc _ _ Bs hBlt).trans hv2)
       obtain ⟨hc3, hf3⟩ := cell_of_box_a hv3
       obtain ⟨g', cap', cur', rfl, hbase', hgb', hr1, hr2, hr3, hr4⟩ : ∃ g' cap' cur', v' = .slice (some ⟨g', 0, none⟩) (ss.length + 1) cap' ∧ w0.heap.size ≤ g' ∧ w3.heap[g']? = some (.cells cur' (ρ.t 26) (0, 0)) ∧ ss.length + 1 ≤ cap' ∧ cap' ≤ maxLen ∧ cur'.size = cap' * 1 ∧ cur'.toList.take ((ss.length + 1) * 1) = ss.map encStr ++ [encStr x] := by
         rcases hown'.2 with ⟨_, h0⟩ | h'
         · exact absurd h0 (by omega)
         · exact h'
       go_frame)
    | gi_round_op_a)
  have hg3' : (W2.alloc (.cells #[encStr x] (ρ.t 26))).grownBy w3 v.ownBlock := hg3
  have hL3 : w3.heap[l]? = some (.loop { AnyZ.apRec ρ fn sv Bs D .ready none with state := .busy }) := (hg3'.block l (by simp; omega) (ne_of hL2 (fun cur e => by first | cases e | exact hne (Obj.cells.inj e).2.1))).trans ((Below.heap_alloc _ _ l hl2).trans hL2)
  have hK3 : w3.heap[D]? = some (.deferred (some [])) := (hg3'.block D (by simp; omega) (ne_of hK2 (fun cur e => by first | cases e | exact hne (Obj.cells.inj e).2.1))).trans ((Below.heap_alloc _ _ D hDlt).trans hK2)
  obtain ⟨w4, hw4⟩ : ∃ w4, w3.setCell ⟨Bs, 0, none⟩ (.slice (some ⟨g', 0, none⟩) (ss.length + 1) cap') = w4 := ⟨_, rfl⟩
  rw [hw4]
  have hg4 : w3.grownBy w4 (some Bs) := by rw [← hw4]; exact grownBy_setCell0_a _ _ _
  have hv4 : w4.heap[Bs]? = some (.cells #[.slice (some ⟨g', 0, none⟩) (ss.length + 1) cap'] (ρ.t 24) (0, 0)) := by rw [← hw4]; exact heap_setCell_box_a _ hv3
  have hL4 : w4.heap[l]? = some (.loop { AnyZ.apRec ρ fn sv Bs D .ready none with state := .busy }) := (hg4.block l (Array.getElem?_eq_some_iff.1 hL3).1 (fun e => hBl (by cases e; rfl))).trans hL3
  have hK4 : w4.heap[D]? = some (.deferred (some [])) := (hg4.block D (Array.getElem?_eq_some_iff.1 hK3).1 (fun e => hDB (by cases e; rfl))).trans hK3
  have hrow4 := hown'.kept hg4 (ownsRow_ne_a hown' hv3 (fun cur e => by first | cases e | exact hne (Obj.cells.inj e).2.1))
  have hst4 := hst3.kept hg4 (ownsRow_ne_a hown' hv3 (fun cur e => by first | cases e | exact hne (Obj.cells.inj e).2.1))
  have hl4 : l < w4.heap.size := (Array.getElem?_eq_some_iff.1 hL4).1
  have hb3 : Below w0.heap.size w0 w3 := (hb2.alloc hb2.size _).grown hg3' (by have := hb2.size; simp; omega) (fun k e => (hrow2.lt k e).1)
  have hb4 : Below w0.heap.size w0 w4 := hb3.grown hg4 hb3.size (fun k e => by cases e; exact h0B)
  have hk4 : KeepsWalks W w4 := ((hk2.trans (KeepsWalks.alloc _ _)).trans (KeepsWalks.of_grownBy hg3' (ownsRow_not_walk_a (hrow2.alloc _)))).trans (by rw [← hw4]; exact KeepsWalks.setCell _ _ _)
  clear hw4
  refine ⟨_, _, run_endRound none hL4, rfl, ⟨⟨⟨_, (World.putObj_heap_other hBl).trans hv4, ?_, by simp⟩, World.putObj_heap_same hl4, (World.putObj_heap_other hDl).trans hK4, hb4.grown (grownBy_putObj_a _ _ _) hb4.size (fun k e => by cases e; exact h0l)⟩, ?_⟩, hk4.trans (KeepsWalks.putObj _ hL4 rfl)⟩
  rotate_left
  · intro v5 hv5
    rw [(World.putObj_heap_other hBl).trans hv4] at hv5
    cases hv5
    exact hst4.kept (grownBy_putObj_a w4 l _) (ownsRow_ne_a hrow4 hL4 (fun cur e => by first | cases e | exact hne (Obj.cells.inj e).2.1))
  have := hrow4.kept (grownBy_putObj_a w4 l (.loop { { AnyZ.apRec ρ fn sv Bs D .ready none with state := .busy } with state := if (none : Option Code).isNone then .ready else .done, pending := none })) (ownsRow_ne_a hrow4 hL4 (fun cur e => by first | cases e | exact hne (Obj.cells.inj e).2.1))
  simpa using this
set_option maxRecDepth 100000 in
set_option maxHeartbeats 4000000 in
theorem appendSeqS {P : Program} {ρ : Ren} (L : SlLaysZ.n11 P ρ) (F : Fence) (n : Nat) (h11 : F.fn (ρ.f 11)) (hro : F.round = none) (hn : 2 ≤ n) (g : Nat) (lb : Array Value) (hFg : F.fn g) (eg : ∀ args w, (callFunc g args).run P w = .ok (.enter g args) w)
    (S : List (List UInt8) → Prop) (N : Nat) (hN : N ≤ maxLen) (hNb : N * 16 ≤ 140737488355328) (w : World) (hseq : SeqGives F (n - 1) P g lb encStr S N w) :
    CallsIn F n P (ρ.f 11) #[.slice none 0 0, .func (.func g) #[] lb] w fun e w' => ∃ (v : Value) (ss : List (List UInt8)), e = .returned v ∧ S ss ∧ w'.ownsRow w.heap.size (ρ.t 26) 1 v ss.length (ss.map encStr) ∧ (v = .slice none 0 0 ↔ ss = []) ∧ StrBlk (ρ.t 26) w' v ss ∧ Below w.heap.size w w' := by
  have h1 : 1 ≤ n := by omega
  have mixed := L.mixed; have t0 := L.t0; have a0 := L.a0; have z0 := L.z0; have v0 := L.v0; have t24 := L.t24; have a24 := L.a24; have z24 := L.z24; have v24 := L.v24; have t26 := L.t26; have a26 := L.a26; have z26 := L.z26; have v26 := L.v26; have t28 := L.t28; have a28 := L.a28; have z28 := L.z28; have v28 := L.v28
  have hne : ρ.t 24 ≠ ρ.t 26 := fun e => by have h := L.t24; rw [e, L.t26] at h; cases h
  have u0 := run_underlying L.t0; have u24 := run_underlying L.t24; have u26 := run_underlying L.t26; have u28 := run_underlying L.t28
  obtain ⟨_, _, FG⟩ := L.f11
  refine callsIn_of_wp_marks FG rfl h11 ?_ hro
  simp only [SlBodyZ.n11_ntmps ρ, List.size_toArray, List.length_cons, List.length_nil, Nat.reduceAdd, Nat.reduceSub, Array.replicate_succ, Array.replicate_zero, List.push_toArray, List.append_toArray, List.nil_append, List.cons_append]
  gi_wp2
  refine wpIn_rangeFunc ?_
  intro fn hfn
  rw [hro]
  obtain ⟨W0, hW0⟩ : ∃ W0, w.alloc (.cells #[.slice none 0 0] (ρ.t 24)) = W0 := ⟨_, rfl⟩
  have hs0 : W0.heap.size = w.heap.size + 1 := by rw [← hW0]; simp
  have hv0 : W0.heap[w.heap.size]? = some (.cells #[.slice none 0 0] (ρ.t 24) (0, 0)) := by rw [← hW0]; exact World.alloc_heap_new w _
  have hb0 : Below w.heap.size w W0 := by rw [← hW0]; exact (Below.refl _ w).alloc (Nat.le_refl _) _
  rw [hW0]
  obtain ⟨W1, hW1⟩ : ∃ W1, (W0.alloc (.deferred (some []))).alloc (.loop (AnyZ.apRec ρ fn (.func (.func g) #[] lb) w.heap.size W0.heap.size .ready none)) = W1 := ⟨_, rfl⟩
  have hold : ∀ k, k < W0.heap.size → W1.heap[k]? = W0.heap[k]? := fun k hk => by
    rw [← hW1]; exact (Below.heap_alloc _ _ k (by simp; omega)).trans (Below.heap_alloc _ _ k hk)
  have hb1 : Below w.heap.size w W1 := by rw [← hW1]; exact (hb0.alloc hb0.size _).alloc (by have := hb0.size; simp; omega) _
  have hs1 : W1.heap.size = W0.heap.size + 2 := by rw [← hW1]; simp
  have hM : ApS ρ w fn (.func (.func g) #[] lb) w.heap.size (W0.heap.size + 1) W0.heap.size [] W1 :=
    ⟨⟨⟨_, (hold w.heap.size (by omega)).trans hv0, ⟨rfl, .inl ⟨rfl, rfl⟩⟩, by simp⟩,
     by rw [← hW1]; have := World.alloc_heap_new (W0.alloc (.deferred (some []))) (.loop (AnyZ.apRec ρ fn (.func (.func g) #[] lb) w.heap.size W0.heap.size .ready none)); rwa [World.size_alloc] at this,
     by rw [← hW1]; exact (Below.heap_alloc _ _ _ (by simp)).trans (World.alloc_heap_new W0 _), hb1⟩, fun v hv => by rw [(hold w.heap.size (by omega)).trans hv0] at hv; cases hv; exact StrBlk.nil _ _ _⟩
  refine ⟨W0.heap.size + 1, [{ target := .collected W0.heap.size, args := #[] }], W1, { target := .fn (.func g) lb, args := #[.func (.yield (W0.heap.size + 1)) #[] #[]] }, W1, g,
    #[.func (.yield (W0.heap.size + 1)) #[] #[]] ++ lb, W1, ?_, ?_, ?_, ?_, fun _ => h1, ?_⟩
  · rw [← hW1]; exact run_enterLoop_outer _ _ _ _ _
  · simp [resolve, go_sem]
  · intro f' hf'; simp [Target.leads] at hf'; subst hf'; exact hFg
  · simp [invoke, go_sem, eg]
  · refine (hseq (W0.heap.size + 1) (ApS ρ w fn (.func (.func g) #[] lb) w.heap.size (W0.heap.size + 1) W0.heap.size) W1 hb1 (ApS.abides ρ _ _ _ _ _ _ _ hb1.size)
      (fun pre x W hJ hl => ApS.yield { L with } F (n - 1 - 1) w fn hfn _ w.heap.size (W0.heap.size + 1) W0.heap.size (by omega) (by omega) (by omega) (Nat.le_refl _) (by omega) N hN hNb pre x W hJ hl) hM).mono ?_
    rintro e W2 ⟨⟨v0, rfl⟩, ss, hS, h2⟩
    obtain ⟨v, hv, hrow, hnil⟩ := h2.box
    have hend := run_endLoop (P := P) h2.L (by simp [AnyZ.apRec])
    obtain ⟨W3, hW3⟩ : ∃ W3, W2.putObj (W0.heap.size + 1) (.loop { AnyZ.apRec ρ fn (.func (.func g) #[] lb) w.heap.size W0.heap.size .ready none with state := .exhausted }) = W3 := ⟨_, rfl⟩
    rw [hW3] at hend
    have hg3 : W2.grownBy W3 (some (W0.heap.size + 1)) := by rw [← hW3]; exact grownBy_putObj_a _ _ _
    have hv3 : W3.heap[w.heap.size]? = some (.cells #[v] (ρ.t 24) (0, 0)) := by rw [← hW3]; exact (World.putObj_heap_other (by omega)).trans hv
    have hK3 : W3.heap[W0.heap.size]? = some (.deferred (some [])) := by rw [← hW3]; exact (World.putObj_heap_other (by omega)).trans h2.K
    have hrow3 := hrow.kept hg3 (ownsRow_ne_a hrow h2.L (fun cur e => by first | cases e | exact hne (Obj.cells.inj e).2.1))
    have hst3 := (h2.str v hv).kept hg3 (ownsRow_ne_a hrow h2.L (fun cur e => by first | cases e | exact hne (Obj.cells.inj e).2.1))
    have hb3 : Below w.heap.size w W3 := h2.below.grown hg3 h2.below.size (fun k e => by cases e; omega)
    obtain ⟨hc3, hf3⟩ := cell_of_box_a hv3
    clear hW3
    refine ⟨none, W3, hend, ?_⟩
    gi_wp2
    rw [← hs0]
    refine ⟨by simp, .inl ⟨_, _, rfl, run_takeDeferred hK3, ?_⟩⟩
    exact ⟨_, results_tmp rfl _ _ _, v, ss, rfl, hS, hrow3.kept (grownBy_putObj_a _ _ _) (ownsRow_ne_a hrow3 hK3 (fun cur e => by first | cases e | exact hne (Obj.cells.inj e).2.1)), hnil, hst3.kept (grownBy_putObj_a _ _ _) (ownsRow_ne_a hrow3 hK3 (fun cur e => by first | cases e | exact hne (Obj.cells.inj e).2.1)), hb3.grown (grownBy_putObj_a _ _ _) hb3.size (fun k e => by cases e; omega)⟩
set_option maxHeartbeats 4000000 in
theorem collectS {P : Program} {ρ : Ren} (L : SlLaysZ.n8 P ρ) (F : Fence) (n : Nat) (h8 : F.fn (ρ.f 8)) (h11 : F.fn (ρ.f 11)) (hro : F.round = none) (hn : 3 ≤ n) (g : Nat) (lb : Array Value) (hFg : F.fn g) (eg : ∀ args w, (callFunc g args).run P w = .ok (.enter g args) w)
    (S : List (List UInt8) → Prop) (N : Nat) (hN : N ≤ maxLen) (hNb : N * 16 ≤ 140737488355328) (w : World) (hseq : SeqGives F (n - 1 - 1) P g lb encStr S N w) :
    CallsIn F n P (ρ.f 8) #[.func (.func g) #[] lb] w fun e w' => ∃ (v : Value) (ss : List (List UInt8)), e = .returned v ∧ S ss ∧ w'.ownsRow w.heap.size (ρ.t 26) 1 v ss.length (ss.map encStr) ∧ (v = .slice none 0 0 ↔ ss = []) ∧ StrBlk (ρ.t 26) w' v ss ∧ Below w.heap.size w w' := by
  have h1 : 1 ≤ n := by omega
  have e11 : ∀ args w, (callFunc (ρ.f 11) args).run P w = .ok (.enter (ρ.f 11) args) w := L.f11.enters rfl
  have mixed := L.mixed; have t0 := L.t0; have a0 := L.a0; have z0 := L.z0; have v0 := L.v0; have t24 := L.t24; have a24 := L.a24; have z24 := L.z24; have v24 := L.v24; have t26 := L.t26; have a26 := L.a26; have z26 := L.z26; have v26 := L.v26; have t28 := L.t28; have a28 := L.a28; have z28 := L.z28; have v28 := L.v28
  have u0 := run_underlying L.t0; have u24 := run_underlying L.t24; have u26 := run_underlying L.t26; have u28 := run_underlying L.t28
  obtain ⟨_, _, FG⟩ := L.f8
  refine callsIn_of_wp FG rfl h8 ?_ hro
  simp only [SlBodyZ.n8_ntmps ρ, List.size_toArray, List.length_cons, List.length_nil, Nat.reduceAdd, Nat.reduceSub, Array.replicate_succ, Array.replicate_zero, List.push_toArray, List.append_toArray, List.nil_append, List.cons_append]
  gi_wp2_with (gi_at_fn (ρ.f 11); refine (appendSeqS { L with } F (n - 1) h11 hro (by omega) g lb hFg eg S N hN hNb _ hseq).mono ?_; rintro e w' ⟨v, ss, rfl, hS, hrow, hnil, hst, hb⟩)
  go_ret
  exact ⟨v, ss, rfl, hS, hrow, hnil, hst, hb⟩
theorem sort_str {W : World} {e g m cap nn : Nat} {cur : Array Value} {os : Array Obj} {d : Array (List UInt8)} {ss : List (List UInt8)} (hd : ∀ x, x ∈ d.toList → x ∈ ss) (h : StrBlk e W (.slice (some ⟨g, 0, none⟩) m cap) ss) (hg : W.heap[g]? = some (.cells cur e (0, 0))) : StrBlk e (grow (putRow encStr (Sort.ahead W nn) g 0 d) os) (.slice (some ⟨g, 0, none⟩) m cap) ss := by
  obtain ⟨cur2, h1, h2⟩ := h g rfl
  rw [hg] at h1
  cases h1
  intro k hk
  simp only [Value.ownBlock, Option.some.injEq] at hk
  subst hk
  refine ⟨_, heap_sorted d hg, fun u hu => ?_⟩
  obtain ⟨j, hj, e⟩ := List.mem_iff_getElem.1 hu
  simp only [putCells, Array.length_toList, Array.size_mapIdx] at hj
  simp only [putCells, Array.getElem_toList, Array.getElem_mapIdx] at e
  rw [← e]
  split
  · rename_i hc
    refine ⟨_, rfl, .inr (hd _ ?_)⟩
    show d[j - 0]! ∈ d.toList
    rw [getElem!_pos d (j - 0) (by omega)]
    exact Array.mem_toList_iff.2 (Array.getElem_mem _)
  · exact h2 _ (Array.mem_toList_iff.2 (Array.getElem_mem _))
set_option maxRecDepth 100000 in
set_option maxHeartbeats 4000000 in
theorem sortedS {P : Program} {ρ : Ren} (L : SlLaysZ.n6 P ρ) (F : Fence) (n : Nat) (h6 : F.fn (ρ.f 6)) (h8 : F.fn (ρ.f 8)) (h9 : F.fn (ρ.f 9)) (h11 : F.fn (ρ.f 11)) (hro : F.round = none) (hn : 4 ≤ n) (hsort : AnyZ.SortsIn P ρ F (n - 1)) (e9 : ∀ args w, (callFunc (ρ.f 9) args).run P w = .ok (.enter (ρ.f 9) args) w) (g : Nat) (lb : Array Value) (hFg : F.fn g) (eg : ∀ args w, (callFunc g args).run P w = .ok (.enter g args) w)
    (S : List (List UInt8) → Prop) (N : Nat) (hN : N ≤ maxLen) (hNb : N * 16 ≤ 140737488355328) (w : World) (hseq : SeqGives F (n - 1 - 1 - 1) P g lb encStr S N w) :
    CallsIn F n P (ρ.f 6) #[.func (.func g) #[] lb] w fun e w' => ∃ (v : Value) (ss : List (List UInt8)), e = .returned v ∧ S ss ∧
      w'.ownsRow w.heap.size (ρ.t 26) 1 v ss.length ((ss.mergeSort (fun x y => decide (x ≤ y))).map encStr) ∧ (v = .slice none 0 0 ↔ ss = []) ∧ StrBlk (ρ.t 26) w' v ss ∧ Below w.heap.size w w' := by
  have h1 : 1 ≤ n := by omega
  have e8 : ∀ args w, (callFunc (ρ.f 8) args).run P w = .ok (.enter (ρ.f 8) args) w := L.f8.enters rfl
  have mixed := L.mixed; have t0 := L.t0; have a0 := L.a0; have z0 := L.z0; have v0 := L.v0; have t24 := L.t24; have a24 := L.a24; have z24 := L.z24; have v24 := L.v24; have t26 := L.t26; have a26 := L.a26; have z26 := L.z26; have v26 := L.v26; have t28 := L.t28; have a28 := L.a28; have z28 := L.z28; have v28 := L.v28
  have u0 := run_underlying L.t0; have u24 := run_underlying L.t24; have u26 := run_underlying L.t26; have u28 := run_underlying L.t28
  obtain ⟨_, _, FG⟩ := L.f6
  refine callsIn_of_wp FG rfl h6 ?_ hro
  simp only [SlBodyZ.n6_ntmps ρ, List.size_toArray, List.length_cons, List.length_nil, Nat.reduceAdd, Nat.reduceSub, Array.replicate_succ, Array.replicate_zero, List.push_toArray, List.append_toArray, List.nil_append, List.cons_append]
  gi_wp2_with (gi_at_fn (ρ.f 8); refine (collectS { L with } F (n - 1) h8 h11 hro (by omega) g lb hFg eg _ N hN hNb _ hseq.bounded).mono ?_; rintro e W ⟨v, ss, rfl, ⟨hS, hlen⟩, hrow, hnil, hst, hb⟩)
  rcases hrow.2 with ⟨rfl, hz⟩ | ⟨gb, cap, cur, rfl, hbase, hgb, r1, r2, r3, r4⟩
  · -- nothing came: the nil slice is sorted and handed back
    have hss : ss = [] := List.eq_nil_of_length_eq_zero hz
    subst hss
    gi_wp2_with (gi_at_fn (ρ.f 9); refine (hsort.2 none 0 W).mono ?_; rintro e w' ⟨rfl, rfl⟩)
    go_ret
    exact ⟨.slice none 0 0, [], rfl, hS, by simpa using hrow, by simp, StrBlk.nil _ _ _, hb⟩
  · have hH : Holds encStr W gb 0 ss.toArray := holds_of_block hgb (by simpa using r4)
    have hgl : gb < W.heap.size := (Array.getElem?_eq_some_iff.1 hgb).1
    have hsz : ss.length < 4611686018427387904 := by omega
    have cS := hsort.1 gb 0 cap ss W hH hgl hsz
    gi_wp2_with (gi_at_fn (ρ.f 9); refine cS.mono ?_; rintro e w' ⟨rfl, nn, os, rfl⟩)
    go_ret
    exact ⟨_, ss, rfl, hS, ownsRow_sorted (by simp) hbase hgb r1 r2 r3, hnil, sort_str (fun x hx => (List.mem_mergeSort (le := fun (x y : List UInt8) => decide (x ≤ y))).1 hx) hst hgb, hb.grown (grownBy_sorted _) hb.size (fun j hj => by cases hj; exact hbase)⟩
theorem sorted_47S {H : Type} (b nn : Nat) (D0 : DataW H) (R : Value → Option (DataW H × List MemPlace)) (w : World) (hown : w.ownsMap Try.prog 9 R b nn D0) (hmax : Maps.size D0 ≤ maxLen) (hbytes : Maps.size D0 * 16 ≤ 140737488355328) :
    CallsIn Fence.wide 5 Try.prog 47 #[.func (.func 58) #[] #[.pointer (some ⟨w.heap.size, 0, none⟩)]] (w.alloc (.cells #[.map (some b)] 75)) fun e w' => ∃ (v : Value) (ss : List (List UInt8)), e = .returned v ∧ ss.Perm (strKeys D0) ∧
      w'.ownsRow (w.alloc (.cells #[.map (some b)] 75)).heap.size 9 1 v ss.length ((ss.mergeSort (fun x y => decide (x ≤ y))).map encStr) ∧ (v = .slice none 0 0 ↔ ss = []) ∧ StrBlk 9 w' v ss ∧ Below (w.alloc (.cells #[.map (some b)] 75)).heap.size (w.alloc (.cells #[.map (some b)] 75)) w' := by
  have hbl := hown.lt
  have hseq : SeqGives Fence.wide 2 Try.prog 58 #[.pointer (some ⟨w.heap.size, 0, none⟩)] encStr (fun ss => ss.Perm (strKeys D0)) (Maps.size D0) (w.alloc (.cells #[.map (some b)] 75)) :=
    AnyZ.keys_gives (ρ := Try.keys48_ren) { Try.keys48 with } Fence.wide _ trivial rfl (by omega) w.heap.size b nn D0 _ (by simp) (by simp) (by
      obtain ⟨es, clock, hb, Ft, hs, hD⟩ := hown
      exact ⟨es, clock, (Below.heap_alloc _ _ b hbl).trans hb, Ft, hs, hD⟩)
  exact sortedS Try.sorted47 Fence.wide 5 trivial trivial trivial trivial rfl (by omega) (sorts47 _) (enters_of Try.func57 (by kernel_rfl) rfl) 58 #[.pointer (some ⟨w.heap.size, 0, none⟩)] trivial (enters_of Try.func58 (by kernel_rfl) rfl) _ _ hmax hbytes _ hseq
set_option maxHeartbeats 4000000 in
set_option maxRecDepth 100000 in
theorem names0S (gs gm : Nat) (D : DataW Value) (w : World) (h1 : w.heap[gs]? = some (.cells #[.map (some gm)] 77 (0, 0))) (hown : w.ownsMap Try.prog 9 RS gm 32 D) (hmax : Maps.size D ≤ maxLen) (hbytes : Maps.size D * 16 ≤ 140737488355328) :
    Calls Try.prog 26 #[.pointer (some ⟨gs, 0, none⟩)] w fun x w' => ∃ (v : Value) (ss : List (List UInt8)), x = .returned v ∧ ss.Perm (strKeys D) ∧ w'.ownsRow (w.alloc (.cells #[.map (some gm)] 75)).heap.size 9 1 v ss.length ((ss.mergeSort (fun x y => decide (x ≤ y))).map encStr) ∧ StrBlk 9 w' v ss ∧ Below w.heap.size w w' := by
  refine (callsIn_wide (n := 6)).1 ?_
  have hu := Try.underlying77
  have hu5 := Try.underlying75
  have e0 := (blk_cell h1 0).trans rfl
  have H1 := Aside0.mk h1
  have HO := Aside0.mk hown
  have HM := Aside0.mk hmax
  have HY := Aside0.mk hbytes
  have hf48 : Fence.wide.fn 48 := trivial
  have hf47 : Fence.wide.fn 47 := trivial
  have hf40 : Fence.wide.fn 40 := trivial
  clear h1 hown hmax hbytes
  refine callsIn_of_wp Try.func26 rfl trivial ?_ rfl
  simp only [Try.ntmps26, List.size_toArray, List.length_cons, List.length_nil, Nat.reduceAdd, Nat.reduceSub, Array.replicate_succ, Array.replicate_zero, List.push_toArray, List.append_toArray, List.nil_append, List.cons_append]
  gi_wp2_with (first
    | (gi_at_call 40; refine (callsIn_wide.2 (none_calls gs gm _ H1.out)).mono ?_; rintro e w' ⟨rfl, hw⟩; rw [hw]; clear hw)
    | (gi_at_call 48; refine (keys_48 _ _).mono ?_; rintro e w' ⟨rfl, hw⟩; rw [hw]; clear hw)
    | (gi_at_call 47; refine (sorted_47S gm 32 D RS w HO.out HM.out HY.out).mono ?_; rintro e w' ⟨v, ss, rfl, hS, hrow, hnil, hst, hb⟩))
  go_ret
  exact ⟨v, ss, rfl, hS, hrow, hst, ((Below.refl _ w).alloc (Nat.le_refl _) _).trans (hb.mono (by simp))⟩
theorem names_callsS (gs gm : Nat) (L : List Sty) (w : World) (hs : Sheet w gs gm L) (hn : ∀ s ∈ L, s.1.size ≤ 16) (hl : L.length ≤ 32) :
    Calls Try.prog 26 #[.pointer (some ⟨gs, 0, none⟩)] w fun x w' => ∃ (B : Option Addr) (cap : Nat) (ns : List ByteArray), x = .returned (.slice B ns.length cap) ∧ ns.length = L.length ∧ (∀ a, a ∈ ns ↔ a ∈ L.map (·.1)) ∧ (ns.map (·.data.toList)).Pairwise (fun a b => a ≤ b) ∧
      (∀ (i : Nat) (s : ByteArray), ns[i]? = some s → ∃ ad, B = some ad ∧ w'.cell? (ad.add i) = some (.string s)) ∧ OwnStr w' w.heap.size B ns.length cap ∧ Below w.heap.size w w' := by
  obtain ⟨h1, M, hm, hrd⟩ := hs
  have hlen : M.length = L.length := by have := congrArg List.length (reads_names hrd); simpa using this
  obtain ⟨D, hown, hperm⟩ := hm.owns (fun m h => by obtain ⟨s, h2, e⟩ := reads_mem hrd h; rw [← e]; exact hn s h2) (by omega) hrd.slices
  have hsz : Maps.size D = M.length := by
    have h2 := hperm.length_eq
    rw [List.length_map] at h2
    cases D with
    | map es => simpa [strKeys, Maps.size] using h2
    | _ => obtain ⟨es, clock, _, _, _, hD⟩ := hown; cases hD
  refine (names0S gs gm D w h1 hown (by rw [hsz]; exact Nat.le_trans (by omega : M.length ≤ 32) (by decide)) (by omega)).mono ?_
  rintro x w' ⟨v, ss, rfl, hS, hrow, hst, hb⟩
  have hp : (ss.mergeSort (fun x y => decide (x ≤ y))).Perm (L.map fun s => s.1.data.toList) := by
    refine (List.mergeSort_perm _ _).trans (hS.trans (hperm.trans ?_))
    have e : M.map (fun m => m.1.data.toList) = (M.map (·.1)).map (fun n : ByteArray => n.data.toList) := by rw [List.map_map]; rfl
    rw [e, reads_names hrd, List.map_map]
    exact List.Perm.refl _
  have hlss : (ss.mergeSort (fun x y => decide (x ≤ y))).length = ss.length := List.length_mergeSort _
  have hso : (ss.mergeSort (fun x y => decide (x ≤ y))).Pairwise (fun a b => a ≤ b) := by
    have := List.pairwise_mergeSort (le := fun (x y : List UInt8) => decide (x ≤ y)) (fun a b c h1 h2 => by simp only [decide_eq_true_eq] at *; exact List.le_trans h1 h2) (fun a b => by simp only [Bool.or_eq_true, decide_eq_true_eq]; exact List.le_total a b) ss
    exact this.imp (fun h => by simpa using h)
  have hbnd : ∀ x, x ∈ ss → x.length ≤ 16 := fun x hx => by
    obtain ⟨s, hs2, e⟩ := List.mem_map.1 (hp.mem_iff.1 (List.mem_mergeSort.2 hx))
    rw [← e, data_length]
    exact hn s hs2
  generalize ss.mergeSort (fun x y => decide (x ≤ y)) = T at hp hlss hso hrow
  have hTl : T.length = L.length := by have := hp.length_eq; simpa using this
  have key : (T.map fun x => (⟨x.toArray⟩ : ByteArray)).map (·.data.toList) = T := by
    rw [List.map_map]
    refine (List.map_congr_left (fun x _ => ?_)).trans (List.map_id _)
    rfl
  obtain ⟨hx1, hx2⟩ := hrow
  rcases hx2 with ⟨rfl, h0⟩ | ⟨g, cap, cur, rfl, hbase, hg, hcap, hcm, hcs, htake⟩
  · have hT : T = [] := List.eq_nil_of_length_eq_zero (by omega)
    subst hT
    have hL : L = [] := List.eq_nil_of_length_eq_zero (by rw [← hTl]; rfl)
    subst hL
    exact ⟨none, 0, [], rfl, rfl, fun a => Iff.rfl, List.Pairwise.nil, fun i s h => by simp at h, .inl ⟨rfl, rfl, rfl⟩, hb⟩
  · refine ⟨some ⟨g, 0, none⟩, cap, T.map fun x => ⟨x.toArray⟩, ?_, ?_, fun a => ?_, ?_, fun i s h => ?_, ?_, hb⟩
    · rw [List.length_map, hlss]
    · rw [List.length_map, hTl]
    · constructor
      · intro h
        obtain ⟨x, hx, rfl⟩ := List.mem_map.1 h
        obtain ⟨s, hs2, rfl⟩ := List.mem_map.1 (hp.mem_iff.1 hx)
        exact List.mem_map.2 ⟨s, hs2, rfl⟩
      · intro h
        obtain ⟨s, hs2, rfl⟩ := List.mem_map.1 h
        exact List.mem_map.2 ⟨_, hp.mem_iff.2 (List.mem_map.2 ⟨s, hs2, rfl⟩), rfl⟩
    · rw [key]; exact hso
    · refine ⟨_, rfl, ?_⟩
      rw [List.getElem?_map, Option.map_eq_some_iff] at h
      obtain ⟨x, hx, rfl⟩ := h
      have hi : i < ss.length := by rw [← hlss]; exact (List.getElem?_eq_some_iff.1 hx).1
      have h3 : (T.map encStr)[i]? = some (encStr x) := by rw [List.getElem?_map, hx]; rfl
      rw [← htake, List.getElem?_take_of_lt (by omega), Array.getElem?_toList] at h3
      have := (blk_cell hg i).trans h3
      have ea : (⟨g, 0, none⟩ : Addr).add i = ⟨g, i, none⟩ := by
        simp only [Addr.add]
        split
        · rename_i h0; subst h0; rfl
        · simp
      rw [ea]; exact this
    · obtain ⟨cur2, h1, h2⟩ := hst g rfl
      rw [hg] at h1
      cases h1
      exact .inr ⟨g, cur, rfl, Nat.le_trans (by simp) hbase, by rw [List.length_map, hlss]; exact hcap, hcm, hg, by omega, fun u hu => by
        obtain ⟨s, e, h⟩ := h2 u hu
        refine ⟨s, e, ?_⟩
        rcases h with h | h
        · omega
        · have := hbnd _ h
          rw [data_length] at this
          omega⟩
end Go.Proofs.Ytpcpjlbfhbicaaa.Sh
