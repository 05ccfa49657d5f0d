/- Proved: the evaluator's run of CaretNil ends in true (reckoned by the kernel); no condition. -/
import Derived.Test.YtgbgjkpafnpadaaGreatDoorEvMCaretNil1
namespace Go.Proofs.YtgbgjkpafnpadaaGreatDoor.Run
open Go.Ev
set_option maxRecDepth 1000000 in
theorem runCaretNil : isTrue (call Tryz.prog K XCaretNil0 1000 3 [.chan (some 0), .chan (some 1)] .lf 200) = true := by decide +kernel
theorem callsCaretNil (a0 : Int) (a1 : Int) (W : World) : Calls Tryz.prog 3 #[.int .i64 a0, .int .i64 a1] W fun e W' => e = .returned (.bool true) ∧ Go.RowKit.Below W.heap.size W W' :=
  call_true (σ := (fun k => ([.int .i64 a0, .int .i64 a1] : List Value).getD k undef)) (ixCaretNil0) named mixed W (sxCaretNil0 _ _ W (globs _ _ _)) (by kernel_rfl) (.cons _ _ _ _ (VR.opq (σ := (fun k => ([.int .i64 a0, .int .i64 a1] : List Value).getD k undef)) 0 rfl) (.cons _ _ _ _ (VR.opq (σ := (fun k => ([.int .i64 a0, .int .i64 a1] : List Value).getD k undef)) 1 rfl) (.nil))) runCaretNil
end Go.Proofs.YtgbgjkpafnpadaaGreatDoor.Run
