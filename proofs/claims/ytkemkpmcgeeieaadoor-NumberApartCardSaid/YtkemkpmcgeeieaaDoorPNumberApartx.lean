-- Written by a program of this session's (gprint.py over the kit's printer), with hand-written parts. Lean checks it.
import Derived.Test.YtkemkpmcgeeieaaDoorPNumberApartx0
import Derived.Test.YtkemkpmcgeeieaaDoorPNumberApartx1
import Derived.Test.YtkemkpmcgeeieaaDoorPNumberApartx2
import Derived.Test.YtkemkpmcgeeieaaDoorPNumberApartx3
namespace Go.Proofs.YtkemkpmcgeeieaaDoor.PNumberApart
open Go.RowKit Go.Proofs.YtkemkpmcgeeieaaDoorW.PrintWords Go.Proofs.YtkemkpmcgeeieaaDoorW.PrintLast Go.Proofs.YtkemkpmcgeeieaaDoorW.PrintMore
attribute [local go_sem] max2_int min2_int max_two min_two max_three min_three max_four min_four   -- for this text's walks alone
set_option linter.unusedVariables false
set_option linter.unusedSimpArgs false

end Go.Proofs.YtkemkpmcgeeieaaDoor.PNumberApart
