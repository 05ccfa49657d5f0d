/- Proved: the evaluator's run of FlowKnown ends in true (reckoned by the kernel); no condition. -/
import Derived.Test.YtendljmmbdiedaaGreatDoorEvMFlowKnown1
namespace Go.Proofs.YtendljmmbdiedaaGreatDoor.Run
open Go.Ev
set_option maxRecDepth 1000000 in
theorem runFlowKnown : isTrue (call Tryz.prog K XFlowKnown0 1000 3 [] .lf 200) = true := by decide +kernel
theorem callsFlowKnown (W : World) : Calls Tryz.prog 3 #[] W fun e W' => e = .returned (.bool true) ∧ Go.RowKit.Below W.heap.size W W' :=
  call_true (σ := (fun _ => undef)) (ixFlowKnown0) named mixed (sxFlowKnown0 _) (by kernel_rfl) (.nil) runFlowKnown W
end Go.Proofs.YtendljmmbdiedaaGreatDoor.Run
