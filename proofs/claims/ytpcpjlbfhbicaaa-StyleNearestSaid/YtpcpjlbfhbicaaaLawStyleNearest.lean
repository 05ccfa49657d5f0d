/- The row of the law StyleNearest: for every input the law returns true, and each argument reads behind the call as it read before. It rests on the walk of the law's function (ShM). -/
import Derived.Test.YtpcpjlbfhbicaaaRows
import Derived.Test.YtpcpjlbfhbicaaaShM
import Derived.Test.YtpcpjlbfhbicaaaOpen
import Derived.WalkKit
import Derived.ProofKit
import Derived.OpenShut
import Derived.ShutString
import Derived.ChangeOld
import Derived.Below
import Derived.SizedLaws
namespace Go.Proofs.Ytpcpjlbfhbicaaa.styleNearest
open Go.ChangeShapes Go.WideShapes Go.ChangeAt Go.RowKit Go.Proofs.Ytpcpjlbfhbicaaa.Open Go.Proofs.Ytpcpjlbfhbicaaa.PStyleNearest Go.Proofs.YtpcpjlbfhbicaaaW.PrintWords
open Go.ChangeMaps (open_string shut_string)
set_option linter.unusedVariables false
theorem own : ownKnob Try.prog.godebug = none := by kernel_rfl
theorem laidOut : laidOutB Try.prog = true := by kernel_rfl
def ok37 (b : S37) : Prop := (fun n : Int => (Lit.int .i64 n).wf = true) b.f0 ∧ (fun n : Int => (Lit.int .i64 n).wf = true) b.f1
theorem rd37 : Rd Try.prog 37 k37 ok37 := Rd.struct (fun x : S37 => (x.f0, x.f1)) (fun p => ⟨p.1, p.2⟩) (fun _ => rfl) Try.underlying37 (by kernel_rfl) (RdL.cons rfl (Rd.int Try.underlying24 (by kernel_rfl)) (RdL.last rfl (Rd.int Try.underlying3 (by kernel_rfl))))
set_option maxRecDepth 100000 in
theorem lifted (os : Os) (started : os.Started) (H : Type) (enc : TypeId × Value → H) :
    ReturnsInHanded {} Try.checked os 5 .any (Rows.styleNearestSpec.pre6 enc Try.prog Try.f5 Rows.styleNearestRow.domain false) (Rows.styleNearestSpec.post enc Try.prog Try.f5 false true false false) := by
  refine returnsInHanded_of_change_sized (C := Try.checked) own started (by kernel_rfl) Try.func5
    (ChangeSpec.witness6 (enc := enc) (C := Try.checked) false ⟨#[], #[.slice none 0 0, .slice none 0 0], []⟩ 8 (by kernel_rfl) (by kernel_rfl) (by kernel_rfl) (by kernel_rfl)) ?_
  intro W base args ds gs before hval0 hW hcnd hsz0 _
  have hsz : (DataW.weightsEach Try.prog (Try.f5.params.toList ++ Rows.styleNearestSpec.plain.varTypes Try.prog) (ds ++ gs)).all (· ≤ reachBytes) = true := hsz0
  have hval : ∀ (j : Nat) t v, Try.f5.params[j]? = some t → args[j]? = some v → Value.okWide Try.prog W .any base t v := hval0
  have hW' := hW
  obtain ⟨p, q, hA0, hV, rfl, hfz, hnd⟩ := hW
  have hA : DataW.TrodAll enc Try.prog W 0 (fun _ => true) true Try.f5.params.toList args.toList ds p := hA0
  rw [Try.params5] at hA hval hsz
  obtain ⟨v0, vs0, d0, ds0, p0, q0, hargs, rfl, rfl, h0, r0⟩ := trodAll_cons hA
  obtain ⟨v1, vs1, d1, ds1, p1, q1, rfl, rfl, rfl, h1, r1⟩ := trodAll_cons r0
  obtain ⟨rfl, rfl, rfl⟩ := trodAll_nil r1
  obtain rfl : args = #[v0, v1] := by cases args; simp_all
  obtain ⟨rfl, rfl⟩ := trodVars_none hV
  obtain ⟨A0, len0, cap0, rfl⟩ := okWide_slice Try.underlying50 (hval 0 50 v0 rfl rfl)
  have k0 := h0
  have lt0 := trod_below k0
  obtain ⟨l0, rfl, y0, C0, ok0⟩ := Rd.argS (d := (Kd.slice 37 k37)) (Rd.slice (B := 24) Try.underlying50 (by kernel_rfl) (by kernel_rfl) (Rd.slice (B := 16) Try.underlying43 (by kernel_rfl) (by kernel_rfl) rd37)) h0 (mem_each hsz (j := 0) (t := 50) rfl rfl)
  obtain ⟨A1, len1, cap1, rfl⟩ := okWide_slice Try.underlying43 (hval 1 43 v1 rfl rfl)
  have k1 := h1
  have lt1 := trod_below k1
  obtain ⟨l1, rfl, y1, C1, ok1⟩ := Rd.argS (d := k37) (Rd.slice (B := 16) Try.underlying43 (by kernel_rfl) (by kernel_rfl) rd37) h1 (mem_each hsz (j := 1) (t := 43) rfl rfl)
  refine (Sh.nearest_law _ _ _ _ l0 l1 W C0 ⟨_, _, rfl, y1, C1⟩).mono fun e W' ⟨he, bel0⟩ => ?_
  have bel : Below W.heap.size W W' := bel0
  subst he
  exact ⟨_, rfl, _, _, _, [], _, [], hW', trodAll_mk1 (shut_bool Try.underlying4 _), (trodAll_cons_mk (Below.trod laidOut (by kernel_rfl) (of_decide_eq_true (by kernel_rfl)) k0 bel lt0) (trodAll_cons_mk (Below.trod laidOut (by kernel_rfl) (of_decide_eq_true (by kernel_rfl)) k1 bel lt1) trodAll_mk0)), rfl, bel.frame _, fun h => by cases h⟩
theorem over : Rows.styleNearestRow.holds Try.pinned (OpenSpec.ofChange Rows.styleNearestSpec) :=
  OpenClaim.holds_of_wide 5 Try.f5 rfl rfl rfl rfl rfl rfl rfl ⟨rfl, rfl, rfl, rfl, rfl⟩ rfl rfl rfl rfl rfl (by kernel_rfl) Try.func5 (by kernel_rfl)
    (of_decide_eq_true (by kernel_rfl)) (by unfold Func.isWrapper; first | (rw [if_pos (by decide +kernel)]; kernel_rfl) | (rw [if_neg (by decide +kernel)]; exact ⟨rfl, rfl⟩))
    (fun os started H enc _ => lifted os started H enc)
theorem proved : Rows.StyleNearestSaid := over
#print axioms proved
end Go.Proofs.Ytpcpjlbfhbicaaa.styleNearest
namespace Go.Proofs.Ytpcpjlbfhbicaaa
/-- The row, under a short name, for the claim. -/
theorem styleNearest_holds : Rows.StyleNearestSaid := styleNearest.proved
end Go.Proofs.Ytpcpjlbfhbicaaa
