/- Proved: the evaluator's run of HitNil ends in true (reckoned by the kernel); no condition. -/
import Derived.Test.YtgbgjkpafnpadaaGreatDoorEvMHitNil2
namespace Go.Proofs.YtgbgjkpafnpadaaGreatDoor.Run
open Go.Ev
set_option maxRecDepth 1000000 in
theorem runHitNil : isTrue (call Tryz.prog K XHitNil3 1000 7 [.chan (some 0), .chan (some 1), .chan (some 2)] .lf 200) = true := by decide +kernel
theorem callsHitNil (a0 : Int) (a1 : Int) (a2 : Int) (W : World) : Calls Tryz.prog 7 #[.int .i64 a0, .int .i64 a1, .int .i64 a2] W fun e W' => e = .returned (.bool true) ∧ Go.RowKit.Below W.heap.size W W' :=
  call_true (σ := (fun k => ([.int .i64 a0, .int .i64 a1, .int .i64 a2] : List Value).getD k undef)) (ixHitNil3) named mixed W (sxHitNil3 _ _ W (globs _ _ _)) (by kernel_rfl) (.cons _ _ _ _ (VR.opq (σ := (fun k => ([.int .i64 a0, .int .i64 a1, .int .i64 a2] : List Value).getD k undef)) 0 rfl) (.cons _ _ _ _ (VR.opq (σ := (fun k => ([.int .i64 a0, .int .i64 a1, .int .i64 a2] : List Value).getD k undef)) 1 rfl) (.cons _ _ _ _ (VR.opq (σ := (fun k => ([.int .i64 a0, .int .i64 a1, .int .i64 a2] : List Value).getD k undef)) 2 rfl) (.nil)))) runHitNil
end Go.Proofs.YtgbgjkpafnpadaaGreatDoor.Run
