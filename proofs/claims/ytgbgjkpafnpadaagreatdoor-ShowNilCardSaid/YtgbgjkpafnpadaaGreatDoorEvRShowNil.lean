/- Proved: the evaluator's run of ShowNil ends in true (reckoned by the kernel); no condition. -/
import Derived.Test.YtgbgjkpafnpadaaGreatDoorEvMShowNil1
namespace Go.Proofs.YtgbgjkpafnpadaaGreatDoor.Run
open Go.Ev
set_option maxRecDepth 1000000 in
theorem runShowNil : isTrue (call Tryz.prog K XShowNil0 1000 6 [.chan (some 0)] .lf 200) = true := by decide +kernel
theorem callsShowNil (a0 : Int) (W : World) : Calls Tryz.prog 6 #[.int .i64 a0] W fun e W' => e = .returned (.bool true) ∧ Go.RowKit.Below W.heap.size W W' :=
  call_true (σ := (fun k => ([.int .i64 a0] : List Value).getD k undef)) (ixShowNil0) named mixed W (sxShowNil0 _ _ W (globs _ _ _)) (by kernel_rfl) (.cons _ _ _ _ (VR.opq (σ := (fun k => ([.int .i64 a0] : List Value).getD k undef)) 0 rfl) (.nil)) runShowNil
end Go.Proofs.YtgbgjkpafnpadaaGreatDoor.Run
