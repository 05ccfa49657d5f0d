/- Proved: the evaluator's run of DocKnown ends in true (reckoned by the kernel); no condition. -/
import Derived.Test.YtkgfhbkhhogojaaGreatDoorEvT
namespace Go.Proofs.YtkgfhbkhhogojaaGreatDoor.Run
open Go.Ev
set_option maxRecDepth 1000000 in
theorem runDocKnown : isTrue (call Tryz.prog K XT 1000 4 [] .lf 200) = true := by decide +kernel
theorem callsDocKnown (W : World) : Calls Tryz.prog 4 #[] W fun e W' => e = .returned (.bool true) ∧ Go.RowKit.Below W.heap.size W W' :=
  call_true (σ := fun _ => undef) named mixed (rows _) (by kernel_rfl) .nil runDocKnown W
end Go.Proofs.YtkgfhbkhhogojaaGreatDoor.Run
