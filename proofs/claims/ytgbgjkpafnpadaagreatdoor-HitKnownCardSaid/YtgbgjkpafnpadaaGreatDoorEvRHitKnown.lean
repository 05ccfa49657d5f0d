/- Proved: the evaluator's run of HitKnown ends in true (reckoned by the kernel); no condition. -/
import Derived.Test.YtgbgjkpafnpadaaGreatDoorEvMHitKnown3
namespace Go.Proofs.YtgbgjkpafnpadaaGreatDoor.Run
open Go.Ev
set_option maxRecDepth 1000000 in
theorem runHitKnown : isTrue (call Tryz.prog K XHitKnown8 1000 8 [] .lf 200) = true := by decide +kernel
theorem callsHitKnown (W : World) : Calls Tryz.prog 8 #[] W fun e W' => e = .returned (.bool true) ∧ Go.RowKit.Below W.heap.size W W' :=
  call_true (σ := (fun _ => undef)) (ixHitKnown8) named mixed W (sxHitKnown8 _ _ W (globs _ _ _)) (by kernel_rfl) (.nil) runHitKnown
end Go.Proofs.YtgbgjkpafnpadaaGreatDoor.Run
