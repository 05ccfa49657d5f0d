/- The tied card of the law IncrNone: the law returns true, and each argument reads behind the call as it read before; the listed tables stand as the program's text lays them. It rests on the evaluator's run (module YtddocfjaofddiaaGreatDoorEvRIncrNone). -/
import Derived.Test.YtddocfjaofddiaaGreatDoorCards
import Derived.Test.YtddocfjaofddiaaGreatDoorEvY
import Derived.Test.YtddocfjaofddiaaGreatDoorEvRIncrNone
import Derived.Test.YtddocfjaofddiaaGreatDoorEvFIncrNone
import Derived.WalkKit
import Derived.ProofKit
import Derived.OpenShut
import Derived.ShutString
import Derived.ChangeOld
import Derived.Below
import Derived.SizedLaws
import Derived.Deep.DeepHandedRow
import Derived.Lib.LaidTab
import Derived.Deep.DeepLaidRun
import Derived.Deep.DeepWitnessRowRef
namespace Go.Proofs.YtddocfjaofddiaaGreatDoor.incrNone
open Go.ChangeShapes Go.WideShapes Go.ChangeAt Go.RowKit
open Go.ChangeMaps (open_string shut_string)
set_option linter.unusedVariables false
theorem own : ownKnob Tryz.prog.godebug = none := by kernel_rfl
set_option maxRecDepth 100000 in
theorem contract (H : Type) (enc : TypeId × Value → H) (W : World) (base : Nat) (args : Array Value) (ds gs : List (DataW H)) (before : List MemPlace) (hL : laidMetH Tryz.prog Rows.incrNoneRow.laid W)
    (hval : ∀ (j : Nat) t v, Tryz.f3.params[j]? = some t → args[j]? = some v → Value.okWide Tryz.prog W .any base t v)
    (hW : DataW.Whole enc Tryz.prog Tryz.f3.params.toList Rows.incrNoneSpec.vars false W args.toList ds gs before) :
    Calls Tryz.prog 3 args W fun e W' => ∃ v, e = .returned v ∧ Rows.incrNoneSpec.post enc Tryz.prog Tryz.f3 false true false false W args v W' := by
  have hW' := hW
  obtain ⟨p, q, hA0, hV, rfl, hfz, hnd⟩ := hW
  have hA : DataW.TrodAll enc Tryz.prog W 0 (fun _ => true) true Tryz.f3.params.toList args.toList ds p := hA0
  rw [Tryz.params3] at hA hval
  obtain ⟨v0, vs0, d0, ds0, p0, q0, hargs, rfl, rfl, h0, r0⟩ := trodAll_cons hA
  obtain ⟨rfl, rfl, rfl⟩ := trodAll_nil r0
  obtain rfl : args = #[v0] := by cases args; simp_all
  obtain ⟨rfl, rfl⟩ := trodVars_none hV
  obtain ⟨cs0, rfl, hz0⟩ := okWide_struct Tryz.underlying35 (hval 0 35 v0 rfl rfl)
  have lt0 := Run.trod_below h0
  obtain ⟨i0, i1, i2, t3, i4, i5, i6, t7, t8, a9, l9, k9, i10, i11, i12, i13, i14, a15, l15, k15, i16, i17, i18, i19, i20, i21, i22, i23, i24, i25, i26, t27, t28, t29, t30, t31, t32, a33, l33, k33, cells, rfl, hcl, hcs⟩ := Run.edit_open (hz0.trans (by kernel_rfl)) h0
  clear hA0
  have hF : (Rows.incrNoneRow.laid.filter fun x => x.2.handleName?.isSome) = [] := by kernel_rfl
  unfold laidMetH at hL
  rw [hF] at hL
  have hL1 : laidMet Tryz.prog Rows.incrNoneRow.laid W := hL
  obtain ⟨a0, hv0⟩ := Run.held W _ _ hL1
  refine (Run.callsIncrNone W a0 hv0 i0 i1 i2 t3 i4 i5 i6 t7 t8 a9 l9 k9 i10 i11 i12 i13 i14 a15 l15 k15 i16 i17 i18 i19 i20 i21 i22 i23 i24 i25 i26 t27 t28 t29 t30 t31 t32 a33 l33 k33 cells hcl hcs).mono fun e W' ⟨he, bel⟩ => ?_
  subst he
  exact ⟨_, rfl, _, _, _, [], _, [], hW', trodAll_mk1 (shut_bool Tryz.underlying4 _), (trodAll_cons_mk (Below.trod fLaid (by kernel_rfl) (of_decide_eq_true (by kernel_rfl)) h0 bel lt0) trodAll_mk0), rfl, bel.frame _, fun h => by cases h⟩
/-- A world for the witness: the settled one, the listed variables holding what their initialisers lay. -/
def put (cs : Array Value) : Obj → Obj
  | .cells _ t frozen => .cells cs t frozen
  | o => o
mutual
def cellsL : DataW Unit → List Value
  | .lit d => [d.value]
  | .agg parts => cellsAll parts
  | _ => []
def cellsAll : List (DataW Unit) → List Value
  | [] => []
  | d :: r => cellsL d ++ cellsAll r
end
def cellsOf (d : DataW Unit) : Array Value := (cellsL d).toArray
noncomputable def laidWorld (os : Os) : World :=
  let N := (World.settled Tryz.prog os).heap.size
  let w0 := World.holding Tryz.prog os ⟨#[.cells #[.string ⟨([116, 111, 111, 32, 109, 97, 110, 121, 32, 112, 97, 103, 101, 115] : List UInt8).toArray⟩] 764, .cells #[.int .u16 9, .int .u16 13, .int .u16 1, .int .u16 32, .int .u16 133, .int .u16 101, .int .u16 160, .int .u16 5760, .int .u16 5600, .int .u16 8192, .int .u16 8202, .int .u16 1, .int .u16 8232, .int .u16 8233, .int .u16 1, .int .u16 8239, .int .u16 8287, .int .u16 48, .int .u16 12288, .int .u16 12288, .int .u16 1] 724, .cells #[.slice (some ⟨N + 1, 0, none⟩) 7 7, .slice none 0 0, .int .i64 2] 721], #[], []⟩
  { w0 with heap := ((((((((w0.heap.modify 0 (put #[.iface 742 (.pointer (some ⟨N + 0, 0, none⟩))])).modify 3 (put (cellsOf Rows.laid_unicode_utf8_first))).modify 4 (put (cellsOf Rows.laid_unicode_utf8_acceptRanges))).modify 2 (put (cellsOf Rows.laid_strings_asciiSpace))).modify 5 (put #[.pointer (some ⟨N + 2, 0, none⟩)])).modify 6 (put (cellsOf Rows.laid_internal_strconv_uint64pow10))).modify 7 (put (cellsOf Rows.laid_math_bits_deBruijn32tab))).modify 8 (put (cellsOf Rows.laid_math_bits_deBruijn64tab))) }
def argz : Array Value := #[.agg #[.int .i64 0, .int .i64 0, .int .i64 0, .string ⟨#[]⟩, .int .i64 0, .int .i64 0, .int .i64 0, .string ⟨#[]⟩, .string ⟨#[]⟩, .slice none 0 0, .int .i64 0, .int .i64 0, .int .i64 0, .int .i64 0, .int .i64 0, .slice none 0 0, .int .i64 0, .int .i64 0, .int .i64 0, .int .i64 0, .int .i64 0, .int .i64 0, .int .i64 0, .int .i64 0, .int .i64 0, .int .i64 0, .int .i64 0, .string ⟨#[]⟩, .string ⟨#[]⟩, .string ⟨#[]⟩, .string ⟨#[]⟩, .string ⟨#[]⟩, .string ⟨#[]⟩, .slice none 0 0]]
theorem laid_met (os : Os) : laidMet Tryz.prog Rows.incrNoneRow.laid ((laidWorld os).forCall (fun _ _ => 0) ⟨#[], argz, []⟩).memory :=
  laidMet_of_run3 8 (by kernel_rfl) (by kernel_rfl) (by kernel_rfl)
theorem laid_metH (os : Os) : laidMetH Tryz.prog Rows.incrNoneRow.laid ((laidWorld os).forCall (fun _ _ => 0) ⟨#[], argz, []⟩).memory := by
  unfold laidMetH
  rw [show (Rows.incrNoneRow.laid.filter fun x => x.2.handleName?.isSome) = [] from by kernel_rfl]
  exact laid_met os
theorem reads (os : Os) {H : Type} (enc : TypeId × Value → H) : ∃ places, DataW.whole enc Tryz.prog ((laidWorld os).forCall (fun _ _ => 0) ⟨#[], argz, []⟩).memory Tryz.f3.params.toList Rows.incrNoneSpec.vars false (argz : Array Value).toList 8 = some ([.agg [.lit (.int .i64 0), .lit (.int .i64 0), .lit (.int .i64 0), .lit (.string []), .agg [.lit (.int .i64 0), .lit (.int .i64 0), .lit (.int .i64 0)], .lit (.string []), .lit (.string []), .nil, .agg [.lit (.int .i64 0), .lit (.int .i64 0), .lit (.int .i64 0), .lit (.int .i64 0)], .agg [.lit (.int .i64 0), .nil], .agg [.lit (.int .i64 0), .lit (.int .i64 0), .lit (.int .i64 0), .lit (.int .i64 0), .lit (.int .i64 0), .lit (.int .i64 0), .lit (.int .i64 0), .lit (.int .i64 0), .lit (.int .i64 0), .lit (.int .i64 0), .lit (.int .i64 0), .agg [.lit (.string []), .lit (.string []), .lit (.string [])], .agg [.lit (.string []), .lit (.string []), .lit (.string [])]], .nil]], [], places) :=
  ⟨[], by kernel_rfl⟩
set_option maxRecDepth 100000 in
theorem lifted (os : Os) (started : os.Started) (H : Type) (enc : TypeId × Value → H) (F : Stop.Interp) :
    ReturnsInHanded {} Tryz.checked os 3 .any ((OpenSpec.ofChange Rows.incrNoneSpec).preRow enc Tryz.prog Tryz.f3 Rows.incrNoneRow.domain false Rows.incrNoneRow.laid) (((OpenSpec.ofChange Rows.incrNoneSpec).at F).post enc Tryz.prog Tryz.f3 false true false false) := by
  obtain ⟨places, hx⟩ := reads os enc
  refine returnsInHanded_of_row (C := Tryz.checked) (s := OpenSpec.ofChange Rows.incrNoneSpec) own started (by kernel_rfl) Tryz.func3
    (witness_row_atRef (enc := enc) (C := Tryz.checked) false (laidWorld os) argz rfl (by kernel_rfl) (by kernel_rfl) (by kernel_rfl)
      (OpenSpec.preRow_of_cond 8 hx (by kernel_rfl) (fun k hk => by cases hk) (by kernel_rfl) (laid_metH os))) ?_
  intro W base args ds gs before hval hW _ _ _ hL _ _
  exact contract H enc W base args ds gs before hL hval hW
theorem said : Rows.IncrNoneSaid :=
  OpenClaim.holds_of_cond 3 Tryz.f3 rfl rfl rfl rfl rfl rfl rfl ⟨rfl, rfl, rfl, rfl, rfl⟩ rfl rfl rfl rfl rfl (by kernel_rfl) Tryz.func3 facts
    (of_decide_eq_true (by kernel_rfl)) (by unfold Func.isWrapper; first | (rw [if_pos (by decide +kernel)]; kernel_rfl) | (rw [if_neg (by decide +kernel)]; exact ⟨rfl, rfl⟩))
    (fun os started H enc _ F => by rw [OpenClaim.pre_eq_preRow]; exact lifted os started H enc F)
theorem plain (f : FuncId) (fn : Func) (hf : Tryz.pinned.checked.prog.funcNamed "quire/quirelaw28.IncrNone" = some f) (hfn : Tryz.pinned.checked.prog.funcs[f]? = some fn) :
    true = Tryz.pinned.checked.prog.looks [] ∧ ∀ (j : Nat) t, fn.params[j]? = some t → Tryz.pinned.checked.prog.wantsStandIn t = false := by
  obtain rfl : f = 3 := Option.some.inj ((show Tryz.prog.funcNamed "quire/quirelaw28.IncrNone" = some 3 by kernel_rfl).symm.trans hf) |>.symm
  obtain rfl : fn = Tryz.f3 := (Option.some.inj (Tryz.func3.symm.trans hfn)).symm
  refine ⟨by kernel_rfl, fun j t ht => ?_⟩
  rw [Tryz.params3] at ht
  have hm := Array.mem_of_getElem? ht
  simp only [List.mem_toArray, List.mem_cons, List.not_mem_nil, or_false] at hm
  subst hm
  all_goals (show Tryz.prog.wantsStandIn _ = false; kernel_rfl)
theorem card : Rows.IncrNoneCardSaid :=
  Claim7.holds_tied_plain_at .later [] _ _ _ _ said (fun _ h => by cases h) (by kernel_rfl) (fun _ h => by cases h) incrNone_row_tie rfl ⟨rfl, rfl⟩ (by kernel_rfl) rfl plain (Go.Ev.goes_false (by kernel_rfl) _ rfl)
#print axioms card
end Go.Proofs.YtddocfjaofddiaaGreatDoor.incrNone
namespace Go.Proofs.YtddocfjaofddiaaGreatDoor
/-- The card, under a short name, for the claim. -/
theorem incrNone_card : Rows.IncrNoneCardSaid := incrNone.card
end Go.Proofs.YtddocfjaofddiaaGreatDoor
