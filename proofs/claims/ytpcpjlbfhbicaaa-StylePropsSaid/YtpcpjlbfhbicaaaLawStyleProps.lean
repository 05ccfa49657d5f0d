/- The row of the law StyleProps: for every input the law returns true, and each argument reads behind the call as it read before. It rests on the walk of the law's function in three cases (modules YtpcpjlbfhbicaaaTryD, E, F): the property is in its range and the value fits; it is in its range and the value does not fit; it is none. -/
import Derived.Test.YtpcpjlbfhbicaaaRows
import Derived.Test.YtpcpjlbfhbicaaaTryD
import Derived.Test.YtpcpjlbfhbicaaaTryE
import Derived.Test.YtpcpjlbfhbicaaaTryF
import Derived.Test.YtpcpjlbfhbicaaaOpen
import Derived.WalkKit
import Derived.ProofKit
import Derived.OpenShut
import Derived.ShutString
import Derived.ChangeOld
import Derived.Below
import Derived.SizedLaws
namespace Go.Proofs.Ytpcpjlbfhbicaaa.styleProps
open Go.ChangeShapes Go.WideShapes Go.ChangeAt Go.RowKit Go.Proofs.Ytpcpjlbfhbicaaa.Open Go.Proofs.Ytpcpjlbfhbicaaa.PStyleProps Go.Proofs.YtpcpjlbfhbicaaaW.PrintWords
open Go.ChangeMaps (open_string shut_string)
set_option linter.unusedVariables false
theorem own : ownKnob Try.prog.godebug = none := by kernel_rfl
theorem laidOut : laidOutB Try.prog = true := by kernel_rfl
def kp : Kd (Int × Int × Int × Int × Int × Int × Int × Int × Int × Int × Int × Int × Int × Int × Int × Int × Int) := Kd.pair (Kd.int .i64) (Kd.pair (Kd.int .i64) (Kd.pair (Kd.int .i64) (Kd.pair (Kd.int .i64) (Kd.pair (Kd.int .i64) (Kd.pair (Kd.int .i64) (Kd.pair (Kd.int .i64) (Kd.pair (Kd.int .i64) (Kd.pair (Kd.int .i64) (Kd.pair (Kd.int .i64) (Kd.pair (Kd.int .i64) (Kd.pair (Kd.int .i64) (Kd.pair (Kd.int .i64) (Kd.pair (Kd.int .i64) (Kd.pair (Kd.int .i64) (Kd.pair (Kd.int .i64) (Kd.int .i64))))))))))))))))
theorem rd23 : ∃ ok, Rd Try.prog 23 (Kd.iso kp id) ok := ⟨_, Rd.struct id id (fun _ => rfl) Try.underlying23 (by kernel_rfl) (RdL.cons rfl (Rd.int Try.underlying3 (by kernel_rfl)) (RdL.cons rfl (Rd.int Try.underlying3 (by kernel_rfl)) (RdL.cons rfl (Rd.int Try.underlying3 (by kernel_rfl)) (RdL.cons rfl (Rd.int Try.underlying3 (by kernel_rfl)) (RdL.cons rfl (Rd.int Try.underlying3 (by kernel_rfl)) (RdL.cons rfl (Rd.int Try.underlying3 (by kernel_rfl)) (RdL.cons rfl (Rd.int Try.underlying3 (by kernel_rfl)) (RdL.cons rfl (Rd.int Try.underlying3 (by kernel_rfl)) (RdL.cons rfl (Rd.int Try.underlying3 (by kernel_rfl)) (RdL.cons rfl (Rd.int Try.underlying3 (by kernel_rfl)) (RdL.cons rfl (Rd.int Try.underlying3 (by kernel_rfl)) (RdL.cons rfl (Rd.int Try.underlying3 (by kernel_rfl)) (RdL.cons rfl (Rd.int Try.underlying3 (by kernel_rfl)) (RdL.cons rfl (Rd.int Try.underlying3 (by kernel_rfl)) (RdL.cons rfl (Rd.int Try.underlying3 (by kernel_rfl)) (RdL.cons rfl (Rd.int Try.underlying3 (by kernel_rfl)) (RdL.last rfl (Rd.int Try.underlying3 (by kernel_rfl)))))))))))))))))))⟩
theorem kp_cells {w : World} {b : Int × Int × Int × Int × Int × Int × Int × Int × Int × Int × Int × Int × Int × Int × Int × Int × Int} {l : List Value} (h : (Kd.iso kp id).K w b l) : ∃ p0 p1 p2 p3 p4 p5 p6 p7 p8 p9 p10 p11 p12 p13 p14 p15 p16 : Int, l = [.int .i64 p0, .int .i64 p1, .int .i64 p2, .int .i64 p3, .int .i64 p4, .int .i64 p5, .int .i64 p6, .int .i64 p7, .int .i64 p8, .int .i64 p9, .int .i64 p10, .int .i64 p11, .int .i64 p12, .int .i64 p13, .int .i64 p14, .int .i64 p15, .int .i64 p16] := by
  obtain ⟨p0, p1, p2, p3, p4, p5, p6, p7, p8, p9, p10, p11, p12, p13, p14, p15, p16⟩ := b
  obtain ⟨_, _, rfl, h0, h⟩ := h
  cases h0
  obtain ⟨_, _, rfl, h0, h⟩ := h
  cases h0
  obtain ⟨_, _, rfl, h0, h⟩ := h
  cases h0
  obtain ⟨_, _, rfl, h0, h⟩ := h
  cases h0
  obtain ⟨_, _, rfl, h0, h⟩ := h
  cases h0
  obtain ⟨_, _, rfl, h0, h⟩ := h
  cases h0
  obtain ⟨_, _, rfl, h0, h⟩ := h
  cases h0
  obtain ⟨_, _, rfl, h0, h⟩ := h
  cases h0
  obtain ⟨_, _, rfl, h0, h⟩ := h
  cases h0
  obtain ⟨_, _, rfl, h0, h⟩ := h
  cases h0
  obtain ⟨_, _, rfl, h0, h⟩ := h
  cases h0
  obtain ⟨_, _, rfl, h0, h⟩ := h
  cases h0
  obtain ⟨_, _, rfl, h0, h⟩ := h
  cases h0
  obtain ⟨_, _, rfl, h0, h⟩ := h
  cases h0
  obtain ⟨_, _, rfl, h0, h⟩ := h
  cases h0
  obtain ⟨_, _, rfl, h0, h⟩ := h
  cases h0
  cases h
  exact ⟨p0, p1, p2, p3, p4, p5, p6, p7, p8, p9, p10, p11, p12, p13, p14, p15, p16, rfl⟩
theorem law_true (p0 p1 p2 p3 p4 p5 p6 p7 p8 p9 p10 p11 p12 p13 p14 p15 p16 n v : Int) (w : World) : Calls Try.prog 3 #[.agg #[.int .i64 p0, .int .i64 p1, .int .i64 p2, .int .i64 p3, .int .i64 p4, .int .i64 p5, .int .i64 p6, .int .i64 p7, .int .i64 p8, .int .i64 p9, .int .i64 p10, .int .i64 p11, .int .i64 p12, .int .i64 p13, .int .i64 p14, .int .i64 p15, .int .i64 p16], .int .i64 n, .int .i64 v] w fun e w' => e = .returned (.bool true) ∧ Below w.heap.size w w' := by
  by_cases h : 1 ≤ n ∧ n ≤ 17
  · by_cases hf : fitB n v = true
    · exact law_in p0 p1 p2 p3 p4 p5 p6 p7 p8 p9 p10 p11 p12 p13 p14 p15 p16 n v w h.1 h.2 hf
    · exact law_no p0 p1 p2 p3 p4 p5 p6 p7 p8 p9 p10 p11 p12 p13 p14 p15 p16 n v w h.1 h.2 (by simpa using hf)
  · exact law_out p0 p1 p2 p3 p4 p5 p6 p7 p8 p9 p10 p11 p12 p13 p14 p15 p16 n v w (by omega)
set_option maxRecDepth 100000 in
theorem lifted (os : Os) (started : os.Started) (H : Type) (enc : TypeId × Value → H) :
    ReturnsInHanded {} Try.checked os 3 .any (Rows.stylePropsSpec.pre6 enc Try.prog Try.f3 Rows.stylePropsRow.domain false) (Rows.stylePropsSpec.post enc Try.prog Try.f3 false true false false) := by
  refine returnsInHanded_of_change_sized (C := Try.checked) own started (by kernel_rfl) Try.func3
    (ChangeSpec.witness6 (enc := enc) (C := Try.checked) false ⟨#[], #[.agg #[.int .i64 0, .int .i64 0, .int .i64 0, .int .i64 0, .int .i64 0, .int .i64 0, .int .i64 0, .int .i64 0, .int .i64 0, .int .i64 0, .int .i64 0, .int .i64 0, .int .i64 0, .int .i64 0, .int .i64 0, .int .i64 0, .int .i64 0], .int .i64 0, .int .i64 0], []⟩ 8 (by kernel_rfl) (by kernel_rfl) (by kernel_rfl) (by kernel_rfl)) ?_
  intro W base args ds gs before hval0 hW hcnd hsz0 _
  have hsz : (DataW.weightsEach Try.prog (Try.f3.params.toList ++ Rows.stylePropsSpec.plain.varTypes Try.prog) (ds ++ gs)).all (· ≤ reachBytes) = true := hsz0
  have hval : ∀ (j : Nat) t v, Try.f3.params[j]? = some t → args[j]? = some v → Value.okWide Try.prog W .any base t v := hval0
  have hW' := hW
  obtain ⟨p, q, hA0, hV, rfl, hfz, hnd⟩ := hW
  have hA : DataW.TrodAll enc Try.prog W 0 (fun _ => true) true Try.f3.params.toList args.toList ds p := hA0
  rw [Try.params3] at hA hval hsz
  obtain ⟨v0, vs0, d0, ds0, p0, q0, hargs, rfl, rfl, h0, r0⟩ := trodAll_cons hA
  obtain ⟨v1, vs1, d1, ds1, p1, q1, rfl, rfl, rfl, h1, r1⟩ := trodAll_cons r0
  obtain ⟨v2, vs2, d2, ds2, p2, q2, rfl, rfl, rfl, h2, r2⟩ := trodAll_cons r1
  obtain ⟨rfl, rfl, rfl⟩ := trodAll_nil r2
  obtain rfl : args = #[v0, v1, v2] := by cases args; simp_all
  obtain ⟨rfl, rfl⟩ := trodVars_none hV
  obtain ⟨cs0, rfl, hn0⟩ := okWide_struct Try.underlying23 (hval 0 23 v0 rfl rfl)
  have k0 := h0
  have lt0 := trod_below k0
  obtain ⟨okp, rdp⟩ := rd23
  obtain ⟨b0, K0, ok0⟩ := Rd.argV rdp h0 (mem_each hsz (j := 0) (t := 23) rfl rfl)
  obtain ⟨x0, x1, x2, x3, x4, x5, x6, x7, x8, x9, x10, x11, x12, x13, x14, x15, x16, hcs⟩ := kp_cells K0
  obtain rfl : cs0 = #[.int .i64 x0, .int .i64 x1, .int .i64 x2, .int .i64 x3, .int .i64 x4, .int .i64 x5, .int .i64 x6, .int .i64 x7, .int .i64 x8, .int .i64 x9, .int .i64 x10, .int .i64 x11, .int .i64 x12, .int .i64 x13, .int .i64 x14, .int .i64 x15, .int .i64 x16] := by cases cs0; simp_all
  obtain ⟨a1, rfl, rfl, rfl, ok1⟩ := open_int Try.underlying24 (hval 1 24 v1 rfl rfl) h1
  obtain ⟨a2, rfl, rfl, rfl, ok2⟩ := open_int Try.underlying3 (hval 2 3 v2 rfl rfl) h2
  refine (law_true x0 x1 x2 x3 x4 x5 x6 x7 x8 x9 x10 x11 x12 x13 x14 x15 x16 a1 a2 W).mono fun e W' ⟨he, bel0⟩ => ?_
  have bel : Below W.heap.size W W' := bel0
  subst he
  exact ⟨_, rfl, _, _, _, [], _, [], hW', trodAll_mk1 (shut_bool Try.underlying4 _), (trodAll_cons_mk (Below.trod laidOut (by kernel_rfl) (of_decide_eq_true (by kernel_rfl)) k0 bel lt0) (trodAll_cons_mk (shut_int Try.underlying24 ok1) (trodAll_cons_mk (shut_int Try.underlying3 ok2) trodAll_mk0))), rfl, bel.frame _, fun h => by cases h⟩
theorem over : Rows.stylePropsRow.holds Try.pinned (OpenSpec.ofChange Rows.stylePropsSpec) :=
  OpenClaim.holds_of_wide 3 Try.f3 rfl rfl rfl rfl rfl rfl rfl ⟨rfl, rfl, rfl, rfl, rfl⟩ rfl rfl rfl rfl rfl (by kernel_rfl) Try.func3 (by kernel_rfl)
    (of_decide_eq_true (by kernel_rfl)) (by unfold Func.isWrapper; first | (rw [if_pos (by decide +kernel)]; kernel_rfl) | (rw [if_neg (by decide +kernel)]; exact ⟨rfl, rfl⟩))
    (fun os started H enc _ => lifted os started H enc)
theorem proved : Rows.StylePropsSaid := over
#print axioms proved
end Go.Proofs.Ytpcpjlbfhbicaaa.styleProps
namespace Go.Proofs.Ytpcpjlbfhbicaaa
/-- The row, under a short name, for the claim. -/
theorem styleProps_holds : Rows.StylePropsSaid := styleProps.proved
end Go.Proofs.Ytpcpjlbfhbicaaa
