/- The plain law of NumberKnown: the chapter's examples, by the kernel's evaluation. No condition. -/
import Derived.Test.YtkemkpmcgeeieaaDoorPNumberKnownx
namespace Go.Proofs.YtkemkpmcgeeieaaDoor.Pure
open Go.RowKit Go.Proofs.YtkemkpmcgeeieaaDoor.PNumberKnown Go.Proofs.YtkemkpmcgeeieaaDoorW.PrintWords Go.Proofs.YtkemkpmcgeeieaaDoorW.PrintLast
set_option maxRecDepth 1000000 in
theorem NumberKnown : quirelaw04_NumberKnown.Pure := ⟨300, by decide +kernel⟩
end Go.Proofs.YtkemkpmcgeeieaaDoor.Pure
