/- Proved: the evaluator's run of ShowKnown ends in true (reckoned by the kernel); no condition. -/
import Derived.Test.YtgbgjkpafnpadaaGreatDoorEvMShowKnown1
namespace Go.Proofs.YtgbgjkpafnpadaaGreatDoor.Run
open Go.Ev
set_option maxRecDepth 1000000 in
theorem runShowKnown : isTrue (call Tryz.prog K XShowKnown1 1000 5 [] .lf 200) = true := by decide +kernel
theorem callsShowKnown (W : World) : Calls Tryz.prog 5 #[] W fun e W' => e = .returned (.bool true) ∧ Go.RowKit.Below W.heap.size W W' :=
  call_true (σ := (fun _ => undef)) (ixShowKnown1) named mixed W (sxShowKnown1 _ _ W (globs _ _ _)) (by kernel_rfl) (.nil) runShowKnown
end Go.Proofs.YtgbgjkpafnpadaaGreatDoor.Run
