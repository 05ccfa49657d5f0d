/- The row of the law StyleScript: for every input the law returns true, and each argument reads behind the call as it read before. It rests on the walk of the law's function (ShAK). -/
import Derived.Test.YtpcpjlbfhbicaaaRows
import Derived.Test.YtpcpjlbfhbicaaaS13
import Derived.Test.YtpcpjlbfhbicaaaOpen
import Derived.WalkKit
import Derived.ProofKit
import Derived.OpenShut
import Derived.ShutString
import Derived.ChangeOld
import Derived.Below
import Derived.SizedLaws
namespace Go.Proofs.Ytpcpjlbfhbicaaa.styleScript
open Go.ChangeShapes Go.WideShapes Go.ChangeAt Go.RowKit Go.Proofs.Ytpcpjlbfhbicaaa.Open Go.Proofs.Ytpcpjlbfhbicaaa.PStyleNearest Go.Proofs.YtpcpjlbfhbicaaaW.PrintWords
open Go.ChangeMaps (open_string shut_string)
set_option linter.unusedVariables false
theorem own : ownKnob Try.prog.godebug = none := by kernel_rfl
theorem laidOut : laidOutB Try.prog = true := by kernel_rfl
def ok37 (b : S37) : Prop := (fun n : Int => (Lit.int .i64 n).wf = true) b.f0 ∧ (fun n : Int => (Lit.int .i64 n).wf = true) b.f1
theorem rd37 : Rd Try.prog 37 k37 ok37 := Rd.struct (fun x : S37 => (x.f0, x.f1)) (fun p => ⟨p.1, p.2⟩) (fun _ => rfl) Try.underlying37 (by kernel_rfl) (RdL.cons rfl (Rd.int Try.underlying24 (by kernel_rfl)) (RdL.last rfl (Rd.int Try.underlying3 (by kernel_rfl))))
def kAct : Kd (Int × ByteArray × ByteArray × List S37) := Kd.pair (Kd.int .i64) (Kd.pair Kd.string (Kd.pair Kd.string (Kd.slice 37 k37)))
def okI (n : Int) : Prop := (Lit.int .i64 n).wf = true
def okS (s : ByteArray) : Prop := s.size ≤ 140737488351232
def okL (l : List S37) : Prop := l.length * 16 ≤ 140737488351232 ∧ ∀ x ∈ l, ok37 x
def okAct (x : Int × ByteArray × ByteArray × List S37) : Prop := okI x.1 ∧ okS x.2.1 ∧ okS x.2.2.1 ∧ okL x.2.2.2
set_option maxRecDepth 100000 in
theorem rd57 : Rd Try.prog 57 (Kd.iso kAct fun x : Int × ByteArray × ByteArray × List S37 => x) okAct := Rd.struct (fun x => x) (fun x => x) (fun _ => rfl) Try.underlying57 (by kernel_rfl) (RdL.cons (ok := okI) (ok' := fun y : ByteArray × ByteArray × List S37 => okS y.1 ∧ okS y.2.1 ∧ okL y.2.2) rfl (Rd.int Try.underlying3 (by kernel_rfl)) (RdL.cons (ok := okS) (ok' := fun y : ByteArray × List S37 => okS y.1 ∧ okL y.2) rfl (Rd.string Try.underlying9 (by kernel_rfl)) (RdL.cons (ok := okS) (ok' := okL) rfl (Rd.string Try.underlying9 (by kernel_rfl)) (RdL.last (ok := okL) rfl (Rd.slice (B := 16) Try.underlying43 (by kernel_rfl) (by kernel_rfl) rd37)))))
theorem acts_read {w : World} {A : Option Addr} {n : Nat} {l0 : List (Int × ByteArray × ByteArray × List S37)} (hn : n = l0.length) (h : Kd.C (Kd.iso kAct fun x : Int × ByteArray × ByteArray × List S37 => x) w A l0.length l0) : Sh.ActsS w A n := fun i hi => by
  obtain ⟨ad, c, e, hl, hK, hc0⟩ := Kd.C_get h (0, ⟨#[]⟩, ⟨#[]⟩, []) (i : Int) (by omega) (by omega)
  rw [Int.toNat_natCast] at hK
  generalize l0.getD i _ = x at hK
  obtain ⟨k, nm, p, l⟩ := x
  obtain ⟨c1, c2, rfl, h1, c3, c4, rfl, h2, c5, c6, rfl, h3, B, cB, h4, hl2, hC⟩ := hK
  have h1' : c1 = [.int .i64 k] := h1
  have h2' : c3 = [.string nm] := h2
  have h3' : c5 = [.string p] := h3
  have h4' : c6 = [.slice B l.length cB] := h4
  subst h1' h2' h3' h4'
  have hc : ∀ j u, ([.int .i64 k, .string nm, .string p, .slice B l.length cB] : List Value)[j]? = some u → w.cell? (ad.add (i * 4 + j)) = some u := by
    intro j u hj
    have := hc0 j u hj
    rw [Int.toNat_natCast] at this
    exact this
  exact ⟨ad, k, nm, p, B, l.length, cB, l, e, hc 0 _ rfl, by rw [← add_field _ _ 1 (by omega)]; exact hc 1 _ rfl, by rw [← add_field _ _ 2 (by omega)]; exact hc 2 _ rfl, by rw [← add_field _ _ 3 (by omega)]; exact hc 3 _ rfl, rfl, ⟨B, cB, rfl, hl2, hC⟩⟩
set_option maxRecDepth 100000 in
theorem lifted (os : Os) (started : os.Started) (H : Type) (enc : TypeId × Value → H) :
    ReturnsInHanded {} Try.checked os 8 .any (Rows.styleScriptSpec.pre6 enc Try.prog Try.f8 Rows.styleScriptRow.domain false) (Rows.styleScriptSpec.post enc Try.prog Try.f8 false true false false) := by
  refine returnsInHanded_of_change_sized (C := Try.checked) own started (by kernel_rfl) Try.func8
    (ChangeSpec.witness6 (enc := enc) (C := Try.checked) false ⟨#[], #[.slice none 0 0, .slice none 0 0], []⟩ 8 (by kernel_rfl) (by kernel_rfl) (by kernel_rfl) (by kernel_rfl)) ?_
  intro W base args ds gs before hval0 hW hcnd hsz0 _
  have hsz : (DataW.weightsEach Try.prog (Try.f8.params.toList ++ Rows.styleScriptSpec.plain.varTypes Try.prog) (ds ++ gs)).all (· ≤ reachBytes) = true := hsz0
  have hval : ∀ (j : Nat) t v, Try.f8.params[j]? = some t → args[j]? = some v → Value.okWide Try.prog W .any base t v := hval0
  have hW' := hW
  obtain ⟨p, q, hA0, hV, rfl, hfz, hnd⟩ := hW
  have hA : DataW.TrodAll enc Try.prog W 0 (fun _ => true) true Try.f8.params.toList args.toList ds p := hA0
  rw [Try.params8] at hA hval hsz
  obtain ⟨v0, vs0, d0, ds0, p0, q0, hargs, rfl, rfl, h0, r0⟩ := trodAll_cons hA
  obtain ⟨v1, vs1, d1, ds1, p1, q1, rfl, rfl, rfl, h1, r1⟩ := trodAll_cons r0
  obtain ⟨rfl, rfl, rfl⟩ := trodAll_nil r1
  obtain rfl : args = #[v0, v1] := by cases args; simp_all
  obtain ⟨rfl, rfl⟩ := trodVars_none hV
  obtain ⟨A0, len0, cap0, rfl⟩ := okWide_slice Try.underlying55 (hval 0 55 v0 rfl rfl)
  have k0 := h0
  have lt0 := trod_below k0
  obtain ⟨l0, n0, y0, C0, ok0⟩ := Rd.argS (d := Kd.iso kAct fun x : Int × ByteArray × ByteArray × List S37 => x) (Rd.slice (B := 64) Try.underlying55 (by kernel_rfl) (by kernel_rfl) rd57) h0 (mem_each hsz (j := 0) (t := 55) rfl rfl)
  obtain ⟨A1, len1, cap1, rfl⟩ := okWide_slice Try.underlying43 (hval 1 43 v1 rfl rfl)
  have k1 := h1
  have lt1 := trod_below k1
  obtain ⟨l1, rfl, y1, C1, ok1⟩ := Rd.argS (d := k37) (Rd.slice (B := 16) Try.underlying43 (by kernel_rfl) (by kernel_rfl) rd37) h1 (mem_each hsz (j := 1) (t := 43) rfl rfl)
  refine (Sh.script_law _ _ _ _ _ _ l1 W (acts_read n0 C0) ⟨_, _, rfl, y1, C1⟩).mono fun e W' ⟨he, bel0⟩ => ?_
  have bel : Below W.heap.size W W' := bel0
  subst he
  exact ⟨_, rfl, _, _, _, [], _, [], hW', trodAll_mk1 (shut_bool Try.underlying4 _), (trodAll_cons_mk (Below.trod laidOut (by kernel_rfl) (of_decide_eq_true (by kernel_rfl)) k0 bel lt0) (trodAll_cons_mk (Below.trod laidOut (by kernel_rfl) (of_decide_eq_true (by kernel_rfl)) k1 bel lt1) trodAll_mk0)), rfl, bel.frame _, fun h => by cases h⟩
theorem over : Rows.styleScriptRow.holds Try.pinned (OpenSpec.ofChange Rows.styleScriptSpec) :=
  OpenClaim.holds_of_wide 8 Try.f8 rfl rfl rfl rfl rfl rfl rfl ⟨rfl, rfl, rfl, rfl, rfl⟩ rfl rfl rfl rfl rfl (by kernel_rfl) Try.func8 (by kernel_rfl)
    (of_decide_eq_true (by kernel_rfl)) (by unfold Func.isWrapper; first | (rw [if_pos (by decide +kernel)]; kernel_rfl) | (rw [if_neg (by decide +kernel)]; exact ⟨rfl, rfl⟩))
    (fun os started H enc _ => lifted os started H enc)
theorem proved : Rows.StyleScriptSaid := over
#print axioms proved
end Go.Proofs.Ytpcpjlbfhbicaaa.styleScript
namespace Go.Proofs.Ytpcpjlbfhbicaaa
/-- The row, under a short name, for the claim. -/
theorem styleScript_holds : Rows.StyleScriptSaid := styleScript.proved
end Go.Proofs.Ytpcpjlbfhbicaaa
