/- The row of the law StyleApart: for every input the law returns true, and each argument reads behind the call as it read before. It rests on the walk of the law's function (ShK). -/
import Derived.Test.YtpcpjlbfhbicaaaRows
import Derived.Test.YtpcpjlbfhbicaaaShK
import Derived.Test.YtpcpjlbfhbicaaaOpen
import Derived.WalkKit
import Derived.ProofKit
import Derived.OpenShut
import Derived.ShutString
import Derived.ChangeOld
import Derived.Below
import Derived.SizedLaws
namespace Go.Proofs.Ytpcpjlbfhbicaaa.styleApart
open Go.ChangeShapes Go.WideShapes Go.ChangeAt Go.RowKit Go.Proofs.Ytpcpjlbfhbicaaa.Open Go.Proofs.Ytpcpjlbfhbicaaa.PStyleNearest Go.Proofs.YtpcpjlbfhbicaaaW.PrintWords
open Go.ChangeMaps (open_string shut_string)
set_option linter.unusedVariables false
theorem own : ownKnob Try.prog.godebug = none := by kernel_rfl
theorem laidOut : laidOutB Try.prog = true := by kernel_rfl
def ok37 (b : S37) : Prop := (fun n : Int => (Lit.int .i64 n).wf = true) b.f0 ∧ (fun n : Int => (Lit.int .i64 n).wf = true) b.f1
theorem rd37 : Rd Try.prog 37 k37 ok37 := Rd.struct (fun x : S37 => (x.f0, x.f1)) (fun p => ⟨p.1, p.2⟩) (fun _ => rfl) Try.underlying37 (by kernel_rfl) (RdL.cons rfl (Rd.int Try.underlying24 (by kernel_rfl)) (RdL.last rfl (Rd.int Try.underlying3 (by kernel_rfl))))
set_option maxRecDepth 100000 in
theorem lifted (os : Os) (started : os.Started) (H : Type) (enc : TypeId × Value → H) :
    ReturnsInHanded {} Try.checked os 4 .any (Rows.styleApartSpec.pre6 enc Try.prog Try.f4 Rows.styleApartRow.domain false) (Rows.styleApartSpec.post enc Try.prog Try.f4 false true false false) := by
  refine returnsInHanded_of_change_sized (C := Try.checked) own started (by kernel_rfl) Try.func4
    (ChangeSpec.witness6 (enc := enc) (C := Try.checked) false ⟨#[], #[.slice none 0 0, .slice none 0 0, .slice none 0 0, .slice none 0 0], []⟩ 8 (by kernel_rfl) (by kernel_rfl) (by kernel_rfl) (by kernel_rfl)) ?_
  intro W base args ds gs before hval0 hW hcnd hsz0 _
  have hsz : (DataW.weightsEach Try.prog (Try.f4.params.toList ++ Rows.styleApartSpec.plain.varTypes Try.prog) (ds ++ gs)).all (· ≤ reachBytes) = true := hsz0
  have hval : ∀ (j : Nat) t v, Try.f4.params[j]? = some t → args[j]? = some v → Value.okWide Try.prog W .any base t v := hval0
  have hW' := hW
  obtain ⟨p, q, hA0, hV, rfl, hfz, hnd⟩ := hW
  have hA : DataW.TrodAll enc Try.prog W 0 (fun _ => true) true Try.f4.params.toList args.toList ds p := hA0
  rw [Try.params4] at hA hval hsz
  obtain ⟨v0, vs0, d0, ds0, p0, q0, hargs, rfl, rfl, h0, r0⟩ := trodAll_cons hA
  obtain ⟨v1, vs1, d1, ds1, p1, q1, rfl, rfl, rfl, h1, r1⟩ := trodAll_cons r0
  obtain ⟨v2, vs2, d2, ds2, p2, q2, rfl, rfl, rfl, h2, r2⟩ := trodAll_cons r1
  obtain ⟨v3, vs3, d3, ds3, p3, q3, rfl, rfl, rfl, h3, r3⟩ := trodAll_cons r2
  obtain ⟨rfl, rfl, rfl⟩ := trodAll_nil r3
  obtain rfl : args = #[v0, v1, v2, v3] := by cases args; simp_all
  obtain ⟨rfl, rfl⟩ := trodVars_none hV
  obtain ⟨A0, len0, cap0, rfl⟩ := okWide_slice Try.underlying43 (hval 0 43 v0 rfl rfl)
  have k0 := h0
  have lt0 := trod_below k0
  obtain ⟨l0, rfl, y0, C0, ok0⟩ := Rd.argS (d := k37) (Rd.slice (B := 16) Try.underlying43 (by kernel_rfl) (by kernel_rfl) rd37) h0 (mem_each hsz (j := 0) (t := 43) rfl rfl)
  obtain ⟨A1, len1, cap1, rfl⟩ := okWide_slice Try.underlying43 (hval 1 43 v1 rfl rfl)
  have k1 := h1
  have lt1 := trod_below k1
  obtain ⟨l1, rfl, y1, C1, ok1⟩ := Rd.argS (d := k37) (Rd.slice (B := 16) Try.underlying43 (by kernel_rfl) (by kernel_rfl) rd37) h1 (mem_each hsz (j := 1) (t := 43) rfl rfl)
  obtain ⟨A2, len2, cap2, rfl⟩ := okWide_slice Try.underlying43 (hval 2 43 v2 rfl rfl)
  have k2 := h2
  have lt2 := trod_below k2
  obtain ⟨l2, rfl, y2, C2, ok2⟩ := Rd.argS (d := k37) (Rd.slice (B := 16) Try.underlying43 (by kernel_rfl) (by kernel_rfl) rd37) h2 (mem_each hsz (j := 2) (t := 43) rfl rfl)
  obtain ⟨A3, len3, cap3, rfl⟩ := okWide_slice Try.underlying43 (hval 3 43 v3 rfl rfl)
  have k3 := h3
  have lt3 := trod_below k3
  obtain ⟨l3, rfl, y3, C3, ok3⟩ := Rd.argS (d := k37) (Rd.slice (B := 16) Try.underlying43 (by kernel_rfl) (by kernel_rfl) rd37) h3 (mem_each hsz (j := 3) (t := 43) rfl rfl)
  refine (Sh.apart_law _ _ _ _ _ _ _ _ l0 l1 l2 l3 W ⟨_, _, rfl, y0, C0⟩ ⟨_, _, rfl, y1, C1⟩ ⟨_, _, rfl, y2, C2⟩ ⟨_, _, rfl, y3, C3⟩).mono fun e W' ⟨he, bel0⟩ => ?_
  have bel : Below W.heap.size W W' := bel0
  subst he
  exact ⟨_, rfl, _, _, _, [], _, [], hW', trodAll_mk1 (shut_bool Try.underlying4 _), (trodAll_cons_mk (Below.trod laidOut (by kernel_rfl) (of_decide_eq_true (by kernel_rfl)) k0 bel lt0) (trodAll_cons_mk (Below.trod laidOut (by kernel_rfl) (of_decide_eq_true (by kernel_rfl)) k1 bel lt1) (trodAll_cons_mk (Below.trod laidOut (by kernel_rfl) (of_decide_eq_true (by kernel_rfl)) k2 bel lt2) (trodAll_cons_mk (Below.trod laidOut (by kernel_rfl) (of_decide_eq_true (by kernel_rfl)) k3 bel lt3) trodAll_mk0)))), rfl, bel.frame _, fun h => by cases h⟩
theorem over : Rows.styleApartRow.holds Try.pinned (OpenSpec.ofChange Rows.styleApartSpec) :=
  OpenClaim.holds_of_wide 4 Try.f4 rfl rfl rfl rfl rfl rfl rfl ⟨rfl, rfl, rfl, rfl, rfl⟩ rfl rfl rfl rfl rfl (by kernel_rfl) Try.func4 (by kernel_rfl)
    (of_decide_eq_true (by kernel_rfl)) (by unfold Func.isWrapper; first | (rw [if_pos (by decide +kernel)]; kernel_rfl) | (rw [if_neg (by decide +kernel)]; exact ⟨rfl, rfl⟩))
    (fun os started H enc _ => lifted os started H enc)
theorem proved : Rows.StyleApartSaid := over
#print axioms proved
end Go.Proofs.Ytpcpjlbfhbicaaa.styleApart
namespace Go.Proofs.Ytpcpjlbfhbicaaa
/-- The row, under a short name, for the claim. -/
theorem styleApart_holds : Rows.StyleApartSaid := styleApart.proved
end Go.Proofs.Ytpcpjlbfhbicaaa
