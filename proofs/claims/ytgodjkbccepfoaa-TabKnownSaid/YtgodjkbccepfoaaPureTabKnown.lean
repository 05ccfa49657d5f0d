/- Proved: the law TabKnown returns true (a closed statement: it has no arguments), in whatever memory; no condition. -/
import Derived.Test.YtgodjkbccepfoaaPTabKnownx3
namespace Go.Proofs.Ytgodjkbccepfoaa.Pure
open Go.RowKit Go.Proofs.Ytgodjkbccepfoaa.PTabKnown Go.Proofs.YtgodjkbccepfoaaW.PrintWords Go.Proofs.YtgodjkbccepfoaaW.PrintLast

theorem TabKnown : quirelaw08_TabKnown.Pure := ⟨20, by decide +kernel⟩

end Go.Proofs.Ytgodjkbccepfoaa.Pure
