/- Proved: the evaluator's run of CaretKnown ends in true (reckoned by the kernel); no condition. -/
import Derived.Test.YtgbgjkpafnpadaaGreatDoorEvMCaretKnown3
namespace Go.Proofs.YtgbgjkpafnpadaaGreatDoor.Run
open Go.Ev
set_option maxRecDepth 1000000 in
theorem runCaretKnown : isTrue (call Tryz.prog K XCaretKnown6 1000 4 [] .lf 200) = true := by decide +kernel
theorem callsCaretKnown (W : World) : Calls Tryz.prog 4 #[] W fun e W' => e = .returned (.bool true) ∧ Go.RowKit.Below W.heap.size W W' :=
  call_true (σ := (fun _ => undef)) (ixCaretKnown6) named mixed W (sxCaretKnown6 _ _ W (globs _ _ _)) (by kernel_rfl) (.nil) runCaretKnown
end Go.Proofs.YtgbgjkpafnpadaaGreatDoor.Run
