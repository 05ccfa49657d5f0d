/- The row of the law StyleLoops: for every input the law returns true, and its argument reads behind the call as it read before. It rests on the walk of the law's function (ShP). -/
import Derived.Test.YtpcpjlbfhbicaaaRows
import Derived.Test.YtpcpjlbfhbicaaaShP
import Derived.WalkKit
import Derived.ProofKit
import Derived.OpenShut
import Derived.ShutString
import Derived.ChangeOld
import Derived.ChangeArms
import Derived.ChangeSame
import Derived.Deep.Slices
import Derived.Below
import Derived.SizedLaws
namespace Go.Proofs.Ytpcpjlbfhbicaaa.styleLoops
open Go.ChangeShapes Go.WideShapes Go.ChangeAt Go.RowKit
set_option linter.unusedVariables false
theorem own : ownKnob Try.prog.godebug = none := by kernel_rfl
theorem laidOut : laidOutB Try.prog = true := by kernel_rfl
theorem trod_under {H : Type} {enc : TypeId × Value → H} {P : Program} {w : World} {base : Nat} {spare : Nat → Bool} {held : Bool} {t : TypeId} {v : Value} {d : DataW H} {ps : List MemPlace} (h : DataW.Trod enc P w base spare held t v d ps) : ∀ x ∈ ps, x.block < w.heap.size := by
  obtain ⟨m, hm⟩ := h
  exact DataW.trod_lt m _ _ _ hm
theorem field_t {H : Type} {enc : TypeId × Value → H} {P : Program} {w : World} {base : Nat} {spare : Nat → Bool} {held : Bool} {n : Nat} {cs : List Value} {fs : Array Field} {xs : List (DataW H × List MemPlace)}
    (hf : ∀ (i : Nat) (f : Field), fs[i]? = some f → DataW.trod enc P w base spare held n f.type ((cs.drop f.offset).take (P.cellsOf f.type)) = xs[i]?) (hl : xs.length = fs.size) (i : Nat) (ft : TypeId) (off sz : Nat)
    (hi : (fs[i]?).map (fun f => (f.type, f.offset)) = some (ft, off)) (hc : P.cellsOf ft = sz) : ∃ y, DataW.trod enc P w base spare held n ft ((cs.drop off).take sz) = some y := by
  obtain ⟨f, h1, h2⟩ := Option.map_eq_some_iff.1 hi
  cases h2
  have hs : i < fs.size := (Array.getElem?_eq_some_iff.1 h1).1
  have := hf i f h1
  rw [List.getElem?_eq_getElem (by omega)] at this
  rw [← hc]
  exact ⟨_, this⟩
theorem acts_open {H : Type} {enc : TypeId × Value → H} {w : World} {base : Nat} {spare : Nat → Bool} {held : Bool} {A : Option Addr} {n c : Nat} {x : DataW H} {ps : List MemPlace} (h : DataW.Trod enc Try.prog w base spare held 55 (.slice A n c) x ps) : Sh.Acts w A n := by
  obtain ⟨fuel, h⟩ := h
  have cz9 : Try.prog.cellsOf 9 = 1 := by kernel_rfl
  have cz57 : Try.prog.cellsOf 57 = 4 := by kernel_rfl
  rcases Go.Deep.open_slice Try.underlying55 h with ⟨e, _⟩ | ⟨a, len, cap, m, nn, D, Pl, e, _, _, _, hmm, _, hi⟩
  · cases e; exact fun i hi => absurd hi (by omega)
  · cases e
    intro i hil
    have hlm : n ≤ m := by rw [hmm]; split <;> omega
    obtain ⟨cs', hc, htr⟩ := hi i (by omega)
    obtain ⟨_, hl1, hat⟩ := World.cells?_some hc
    rw [cz57] at hl1 hat
    obtain ⟨xs, q, _, _, hl0, hl, hf⟩ := DataW.trod_struct Try.underlying57 htr
    obtain ⟨y1, g1⟩ := field_t hf hl 1 9 1 1 rfl cz9
    obtain ⟨y2, g2⟩ := field_t hf hl 2 9 2 1 rfl cz9
    obtain ⟨s1, e1, _⟩ := DataW.trod_string Try.underlying9 g1
    obtain ⟨s2, e2, _⟩ := DataW.trod_string Try.underlying9 g2
    have f1 : cs'[1]? = some (.string s1) := by
      have : ((cs'.drop 1).take 1)[0]? = some (.string s1) := by rw [e1]; rfl
      rwa [List.getElem?_take_of_lt (by decide), List.getElem?_drop] at this
    have f2 : cs'[2]? = some (.string s2) := by
      have : ((cs'.drop 2).take 1)[0]? = some (.string s2) := by rw [e2]; rfl
      rwa [List.getElem?_take_of_lt (by decide), List.getElem?_drop] at this
    exact ⟨a, s1, s2, rfl, (hat 1 (by decide)).trans f1, (hat 2 (by decide)).trans f2⟩
set_option maxRecDepth 100000 in
theorem lifted (os : Os) (started : os.Started) (H : Type) (enc : TypeId × Value → H) :
    ReturnsInHanded {} Try.checked os 6 .any (Rows.styleLoopsSpec.pre6 enc Try.prog Try.f6 Rows.styleLoopsRow.domain false) (Rows.styleLoopsSpec.post enc Try.prog Try.f6 false true false false) := by
  refine returnsInHanded_of_change_sized (C := Try.checked) own started (by kernel_rfl) Try.func6
    (ChangeSpec.witness6 (enc := enc) (C := Try.checked) false ⟨#[], #[.slice none 0 0], []⟩ 8 (by kernel_rfl) (by kernel_rfl) (by kernel_rfl) (by kernel_rfl)) ?_
  intro W base args ds gs before hval0 hW hcnd hsz0 _
  have hval : ∀ (j : Nat) t v, Try.f6.params[j]? = some t → args[j]? = some v → Value.okWide Try.prog W .any base t v := hval0
  have hW' := hW
  obtain ⟨p, q, hA0, hV, rfl, hfz, hnd⟩ := hW
  have hA : DataW.TrodAll enc Try.prog W 0 (fun _ => true) true Try.f6.params.toList args.toList ds p := hA0
  rw [Try.params6] at hA hval
  obtain ⟨v0, vs0, d0, ds0, p0, q0, hargs, rfl, rfl, h0, r0⟩ := trodAll_cons hA
  obtain ⟨rfl, rfl, rfl⟩ := trodAll_nil r0
  obtain rfl : args = #[v0] := by cases args; simp_all
  obtain ⟨rfl, rfl⟩ := trodVars_none hV
  obtain ⟨A0, len0, cap0, rfl⟩ := okWide_slice Try.underlying55 (hval 0 55 v0 rfl rfl)
  have k0 := h0
  have lt0 := trod_under k0
  refine (Sh.loops_law _ _ _ W (acts_open h0)).mono fun e W' ⟨he, bel0⟩ => ?_
  have bel : Below W.heap.size W W' := bel0
  subst he
  exact ⟨_, rfl, _, _, _, [], _, [], hW', trodAll_mk1 (shut_bool Try.underlying4 _), (trodAll_cons_mk (Below.trod laidOut (by kernel_rfl) (of_decide_eq_true (by kernel_rfl)) k0 bel lt0) trodAll_mk0), rfl, bel.frame _, fun h => by cases h⟩
theorem over : Rows.styleLoopsRow.holds Try.pinned (OpenSpec.ofChange Rows.styleLoopsSpec) :=
  OpenClaim.holds_of_wide 6 Try.f6 rfl rfl rfl rfl rfl rfl rfl ⟨rfl, rfl, rfl, rfl, rfl⟩ rfl rfl rfl rfl rfl (by kernel_rfl) Try.func6 (by kernel_rfl)
    (of_decide_eq_true (by kernel_rfl)) (by unfold Func.isWrapper; first | (rw [if_pos (by decide +kernel)]; kernel_rfl) | (rw [if_neg (by decide +kernel)]; exact ⟨rfl, rfl⟩))
    (fun os started H enc _ => lifted os started H enc)
theorem proved : Rows.StyleLoopsSaid := over
#print axioms proved
end Go.Proofs.Ytpcpjlbfhbicaaa.styleLoops
namespace Go.Proofs.Ytpcpjlbfhbicaaa
/-- The row, under a short name, for the claim. -/
theorem styleLoops_holds : Rows.StyleLoopsSaid := styleLoops.proved
end Go.Proofs.Ytpcpjlbfhbicaaa
