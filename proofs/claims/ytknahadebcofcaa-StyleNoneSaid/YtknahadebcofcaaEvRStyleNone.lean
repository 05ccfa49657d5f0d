/- Proved: the evaluator's run of StyleNone ends in true (reckoned by the kernel); no condition. -/
import Derived.Test.YtknahadebcofcaaEvT
namespace Go.Proofs.Ytknahadebcofcaa.Run
open Go.Ev
set_option maxRecDepth 1000000 in
theorem runStyleNone : isTrue (call Try.prog K XT 1000 3 [.chan (some 0)] .lf 200) = true := by decide +kernel
theorem callsStyleNone (W : World) (b0 : ByteArray) : Calls Try.prog 3 #[.string b0] W fun e W' => e = .returned (.bool true) ∧ Go.RowKit.Below W.heap.size W W' :=
  call_true (σ := (fun k => ([.string b0] : List Value).getD k undef)) (idles) named mixed W (rows _ _ W (globs _ _ _)) (by kernel_rfl) (.cons _ _ _ _ (VR.opq (σ := (fun k => ([.string b0] : List Value).getD k undef)) 0 rfl) (.nil)) runStyleNone
end Go.Proofs.Ytknahadebcofcaa.Run
