/- Proved: closed facts of the program, which the rows share (its keys, its lifts, its make); no condition. -/
import Derived.Test.YtddocfjaofddiaaGreatDoorEvG
namespace Go.Proofs.YtddocfjaofddiaaGreatDoor.Facts
open Go
set_option maxRecDepth 100000
theorem fKeys : Tryz.prog.plainKeys = Rows.incrNoneRow.plainKeys := by kernel_rfl
theorem fLifts : Tryz.prog.liftsFinal = Rows.incrNoneRow.lifted := by kernel_rfl
theorem fMake : Tryz.prog.make = some Rows.incrNoneRow.make := by kernel_rfl
end Go.Proofs.YtddocfjaofddiaaGreatDoor.Facts
