/- Reading an argument of a row by the print's kinds: 'Rd P t d ok' says that whatever reads as data at type t is a value of kind d that meets ok. Rules for whole numbers, bools, strings, slices, structs. No program in sight. -/
import Derived.Deep.Slices
import Derived.ChangeSame
import Derived.SizedLaws
import Derived.Test.YtpcpjlbfhbicaaaWWords
namespace Go.Proofs.Ytpcpjlbfhbicaaa.Open
open Go.ChangeShapes Go.WideShapes Go.Deep Go.RowKit Go.Proofs.YtpcpjlbfhbicaaaW.PrintWords

structure Rd {α : Type} (P : Program) (t : TypeId) (d : Kd α) (ok : α → Prop) : Prop where
  sz : P.cellsOf t = d.sz
  read : ∀ {H : Type} {enc : TypeId × Value → H} {w : World} {base : Nat} {spare : Nat → Bool} {held : Bool} {fuel : Nat} {cs : List Value} {x : DataW H × List MemPlace},
    DataW.trod enc P w base spare held fuel t cs = some x → (∀ n ∈ x.1.weights P t, n ≤ reachBytes) → ∃ a : α, d.K w a cs ∧ ok a

theorem Rd.int {P : Program} {t : TypeId} {k : IntKind} (ht : P.underlying t = some (.int k)) (hc : P.cellsOf t = 1) : Rd P t (Kd.int k) (fun n => (Lit.int k n).wf = true) where
  sz := hc
  read := by
    intro H enc w base spare held fuel cs x h _
    obtain ⟨n, rfl, _, hw⟩ := DataW.trod_int ht h
    exact ⟨n, rfl, hw⟩

theorem Rd.bool {P : Program} {t : TypeId} (ht : P.underlying t = some .bool) (hc : P.cellsOf t = 1) : Rd P t Kd.bool (fun _ => True) where
  sz := hc
  read := by
    intro H enc w base spare held fuel cs x h _
    obtain ⟨n, rfl, _⟩ := DataW.trod_bool ht h
    exact ⟨n, rfl, trivial⟩

theorem Rd.string {P : Program} {t : TypeId} (ht : P.underlying t = some .string) (hc : P.cellsOf t = 1) : Rd P t Kd.string (fun s => s.size ≤ 140737488351232) where
  sz := hc
  read := by
    intro H enc w base spare held fuel cs x h hw
    obtain ⟨n, rfl, rfl, _⟩ := DataW.trod_string ht h
    refine ⟨n, rfl, ?_⟩
    have := hw n.data.toList.length (by simp [DataW.weights])
    simpa [reachBytes] using this

theorem weightsAll_mem {H : Type} {P : Program} {e : TypeId} {d : DataW H} : ∀ {l : List (DataW H)}, d ∈ l → ∀ n ∈ d.weights P e, n ∈ DataW.weightsAll P e l
  | x :: l, hd, n, hn => by
    rcases List.mem_cons.1 hd with rfl | hd
    · simp [DataW.weightsAll, hn]
    · simp [DataW.weightsAll, weightsAll_mem hd n hn]

theorem Rd.slice {α : Type} {P : Program} {t e : TypeId} {d : Kd α} {ok : α → Prop} {B : Nat} (ht : P.underlying t = some (.slice e)) (hc : P.cellsOf t = 1) (hB : P.bytesOf e = B) (he : Rd P e d ok) :
    Rd P t (Kd.slice e d) (fun l => l.length * B ≤ 140737488351232 ∧ ∀ x ∈ l, ok x) where
  sz := hc
  read := by
    intro H enc w base spare held fuel cs x h hw
    rcases open_slice ht h with ⟨rfl, rfl⟩ | ⟨a, len, cap, m, n, D, Pl, rfl, hb, hl, hm, hmm, rfl, hi⟩
    · exact ⟨[], ⟨none, 0, rfl, by simp, Kd.C_nil _ _⟩, by simp, by simp⟩
    · have hlm : len ≤ m := by rw [hmm]; split <;> omega
      have hwt : len * B ≤ 140737488351232 := by
        have := hw ((((List.range len).map D).length + ((List.range (m - len)).map fun j => D (len + j)).length) * P.bytesOf e) (by simp [DataW.weights, ht])
        simp only [List.length_map, List.length_range, hB, reachBytes] at this
        have h1 : len * B ≤ (len + (m - len)) * B := Nat.mul_le_mul_right _ (by omega)
        omega
      have key : ∀ i, i < len → ∃ (q : α × List Value), d.K w q.1 q.2 ∧ ok q.1 ∧ q.2.length = d.sz ∧ ∀ j u, q.2[j]? = some u → w.cell? (a.add (i * d.sz + j)) = some u := by
        intro i hil
        obtain ⟨cs', hcs, htr⟩ := hi i (by omega)
        obtain ⟨y, hK, hok⟩ := he.read htr (by
          intro n hn
          refine hw n ?_
          simp only [DataW.weights, ht]
          refine List.mem_cons_of_mem _ (List.mem_append_left _ ?_)
          exact weightsAll_mem (List.mem_map.2 ⟨i, List.mem_range.2 hil, rfl⟩) n hn)
        obtain ⟨_, hcl, hat⟩ := World.cells?_some hcs
        rw [he.sz] at hcl hat
        refine ⟨(y, cs'), hK, hok, hcl, fun j u hu => ?_⟩
        have hj : j < cs'.length := (List.getElem?_eq_some_iff.1 hu).1
        have := hat j (by omega)
        rw [Go.Deep.add_add] at this
        rw [this, hu]
      have hne : len = 0 ∨ Nonempty (α × List Value) := by
        rcases Nat.eq_zero_or_pos len with h0 | h0
        · exact .inl h0
        · obtain ⟨q, _⟩ := key 0 h0
          exact .inr ⟨q⟩
      rcases hne with rfl | hne
      · exact ⟨[], ⟨some a, cap, rfl, by simp, rfl, by simp, fun h => absurd h (Nat.lt_irrefl 0)⟩, by simp, by simp⟩
      · haveI : Inhabited (α × List Value) := ⟨Classical.choice hne⟩
        obtain ⟨f, hf⟩ := choose_lt key
        have hml : maxLen = 9223372036854775807 := rfl
        refine ⟨(List.range len).map fun i => (f i).1, ⟨some a, cap, by simp, by simpa using hl, by simp, by simp; omega, fun _ => ⟨a, rfl, fun j p hp => ?_⟩⟩, by simpa using hwt, ?_⟩
        · simp only [List.getElem?_map, Option.map_eq_some_iff] at hp
          obtain ⟨i, hi', rfl⟩ := hp
          have hjl : j < len := by
            have := (List.getElem?_eq_some_iff.1 hi').1
            simpa using this
          obtain rfl : j = i := by
            have := (List.getElem?_eq_some_iff.1 hi').2
            simpa using this
          obtain ⟨h1, _, h3, h4⟩ := hf j hjl
          exact ⟨(f j).2, h3, h1, h4⟩
        · intro x hx
          obtain ⟨i, hi', rfl⟩ := List.mem_map.1 hx
          exact (hf i (List.mem_range.1 hi')).2.1

/-- Fields in a row, from an offset on. -/
structure RdL {α : Type} (P : Program) (off : Nat) (fs : List Field) (d : Kd α) (ok : α → Prop) : Prop where
  read : ∀ {H : Type} {enc : TypeId × Value → H} {w : World} {base : Nat} {spare : Nat → Bool} {held : Bool} {fuel : Nat} {cs : List Value} {xs : List (DataW H × List MemPlace)},
    xs.length = fs.length → (∀ (i : Nat) (f : Field), fs[i]? = some f → DataW.trod enc P w base spare held fuel f.type ((cs.drop f.offset).take (P.cellsOf f.type)) = xs[i]?) →
    (∀ n ∈ DataW.weightsEach P (fs.map (·.type)) (xs.map (·.1)), n ≤ reachBytes) → ∃ a : α, d.K w a ((cs.drop off).take d.sz) ∧ ok a

theorem RdL.last {α : Type} {P : Program} {off : Nat} {f : Field} {d : Kd α} {ok : α → Prop} (ho : f.offset = off) (h : Rd P f.type d ok) : RdL P off [f] d ok where
  read := by
    intro H enc w base spare held fuel cs xs hl hf hw
    match xs, hl with
    | [x], _ =>
      have h1 := hf 0 f rfl
      rw [ho, h.sz] at h1
      exact h.read (x := x) h1 (fun n hn => hw n (by simpa [DataW.weightsEach] using hn))

theorem RdL.cons {α β : Type} {P : Program} {off : Nat} {f : Field} {fs : List Field} {d : Kd α} {d' : Kd β} {ok : α → Prop} {ok' : β → Prop} (ho : f.offset = off) (h : Rd P f.type d ok) (h' : RdL P (off + d.sz) fs d' ok') :
    RdL P off (f :: fs) (Kd.pair d d') (fun x => ok x.1 ∧ ok' x.2) where
  read := by
    intro H enc w base spare held fuel cs xs hl hf hw
    match xs, hl with
    | x :: xs, hl =>
      have h1 := hf 0 f rfl
      rw [ho, h.sz] at h1
      obtain ⟨a, ha, oka⟩ := h.read (x := x) h1 (fun n hn => hw n (by simp [DataW.weightsEach, hn]))
      obtain ⟨b, hb, okb⟩ := h'.read (enc := enc) (w := w) (base := base) (spare := spare) (held := held) (fuel := fuel) (cs := cs) (xs := xs) (by simpa using hl) (fun i g hg => hf (i + 1) g hg) (fun n hn => hw n (by simp only [List.map_cons, DataW.weightsEach]; exact List.mem_append_right _ hn))
      refine ⟨(a, b), ⟨_, _, ?_, ha, hb⟩, oka, okb⟩
      show (cs.drop off).take (d.sz + d'.sz) = _
      rw [List.take_add, List.drop_drop]

theorem Rd.struct {α β : Type} {P : Program} {t : TypeId} {fs : Array Field} {d : Kd α} {ok : α → Prop} (f : β → α) (g : α → β) (hfg : ∀ a, f (g a) = a) (ht : P.underlying t = some (.struct fs)) (hc : P.cellsOf t = d.sz) (h : RdL P 0 fs.toList d ok) :
    Rd P t (Kd.iso d f) (fun b => ok (f b)) where
  sz := hc
  read := by
    intro H enc w base spare held fuel cs x hx hw
    obtain ⟨xs, n, _, rfl, hlen, hxl, hf⟩ := DataW.trod_struct ht hx
    obtain ⟨a, ha, oka⟩ := h.read (enc := enc) (w := w) (base := base) (spare := spare) (held := held) (fuel := n) (cs := cs) (xs := xs) (by simpa using hxl) (fun i f hi => hf i f (by simpa using hi)) (by
      intro n hn
      exact hw n (by simp only [DataW.weights, ht]; exact hn))
    refine ⟨g a, ?_, by show ok (f (g a)); rw [hfg]; exact oka⟩
    show d.K w (f (g a)) cs
    rw [hfg]
    have : (cs.drop 0).take d.sz = cs := by rw [List.drop_zero, List.take_of_length_le (by omega)]
    rw [this] at ha
    exact ha

theorem mem_each {H : Type} {P : Program} {ts : List TypeId} {ds : List (DataW H)} (hsz : (DataW.weightsEach P ts ds).all (· ≤ reachBytes) = true) {j : Nat} {t : TypeId} {d : DataW H} (ht : ts[j]? = some t) (hd : ds[j]? = some d) : ∀ n ∈ d.weights P t, n ≤ reachBytes := by
  intro n hn
  have := List.all_eq_true.1 hsz n (DataW.weights_mem_each ht hd n hn)
  simpa using this

/-- An argument that is a slice. -/
theorem Rd.argS {α : Type} {P : Program} {t e : TypeId} {d : Kd α} {ok : List α → Prop} (h : Rd P t (Kd.slice e d) ok) {H : Type} {enc : TypeId × Value → H} {w : World} {base : Nat} {spare : Nat → Bool} {held : Bool} {A : Option Addr} {len cap : Nat} {x : DataW H} {ps : List MemPlace}
    (hd : DataW.Trod enc P w base spare held t (.slice A len cap) x ps) (hw : ∀ n ∈ x.weights P t, n ≤ reachBytes) : ∃ l : List α, len = l.length ∧ l.length ≤ cap ∧ Kd.C d w A l.length l ∧ ok l := by
  obtain ⟨fuel, hf⟩ := hd
  obtain ⟨l, ⟨A', c', hcs, hl, hC⟩, hok⟩ := h.read hf hw
  simp only [Value.cells, List.cons.injEq, Value.slice.injEq, and_true] at hcs
  obtain ⟨rfl, rfl, rfl⟩ := hcs
  exact ⟨l, rfl, hl, hC, hok⟩

/-- An argument that is a struct, by value. -/
theorem Rd.argV {α : Type} {P : Program} {t : TypeId} {d : Kd α} {ok : α → Prop} (h : Rd P t d ok) {H : Type} {enc : TypeId × Value → H} {w : World} {base : Nat} {spare : Nat → Bool} {held : Bool} {cs : Array Value} {x : DataW H} {ps : List MemPlace}
    (hd : DataW.Trod enc P w base spare held t (.agg cs) x ps) (hw : ∀ n ∈ x.weights P t, n ≤ reachBytes) : ∃ a : α, d.K w a cs.toList ∧ ok a := by
  obtain ⟨fuel, hf⟩ := hd
  exact h.read hf hw

theorem trod_below {H : Type} {enc : TypeId × Value → H} {P : Program} {w : World} {base : Nat} {spare : Nat → Bool} {held : Bool} {t : TypeId} {v : Value} {d : DataW H} {ps : List MemPlace} (h : DataW.Trod enc P w base spare held t v d ps) : ∀ x ∈ ps, x.block < w.heap.size := by
  obtain ⟨m, hm⟩ := h
  exact DataW.trod_lt m _ _ _ hm
end Go.Proofs.Ytpcpjlbfhbicaaa.Open
