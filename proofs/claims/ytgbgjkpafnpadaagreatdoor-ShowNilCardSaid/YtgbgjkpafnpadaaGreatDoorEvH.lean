/- Proved: closed facts of the program, which the rows share (its keys, its lifts, its make); no condition. -/
import Derived.Test.YtgbgjkpafnpadaaGreatDoorEvG
namespace Go.Proofs.YtgbgjkpafnpadaaGreatDoor.Facts
open Go
set_option maxRecDepth 100000
theorem fKeys : Tryz.prog.plainKeys = Rows.hitNilRow.plainKeys := by kernel_rfl
theorem fLifts : Tryz.prog.liftsFinal = Rows.hitNilRow.lifted := by kernel_rfl
theorem fMake : Tryz.prog.make = some Rows.hitNilRow.make := by kernel_rfl
end Go.Proofs.YtgbgjkpafnpadaaGreatDoor.Facts
