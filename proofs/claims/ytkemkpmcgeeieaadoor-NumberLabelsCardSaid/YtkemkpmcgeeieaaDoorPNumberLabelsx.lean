-- Written by a program of this session's (gprint.py over the kit's printer), with hand-written parts. Lean checks it.
import Derived.Test.YtkemkpmcgeeieaaDoorPNumberLabelsx0
import Derived.Test.YtkemkpmcgeeieaaDoorPNumberLabelsx1
import Derived.Test.YtkemkpmcgeeieaaDoorPNumberLabelsx2
import Derived.Test.YtkemkpmcgeeieaaDoorPNumberLabelsx3
import Derived.Test.YtkemkpmcgeeieaaDoorPNumberLabelsx4
import Derived.Test.YtkemkpmcgeeieaaDoorPNumberLabelsx5
import Derived.Test.YtkemkpmcgeeieaaDoorPNumberLabelsx6
namespace Go.Proofs.YtkemkpmcgeeieaaDoor.PNumberLabels
open Go.RowKit Go.Proofs.YtkemkpmcgeeieaaDoorW.PrintWords Go.Proofs.YtkemkpmcgeeieaaDoorW.PrintLast Go.Proofs.YtkemkpmcgeeieaaDoorW.PrintMore
attribute [local go_sem] max2_int min2_int max_two min_two max_three min_three max_four min_four   -- for this text's walks alone
set_option linter.unusedVariables false
set_option linter.unusedSimpArgs false

end Go.Proofs.YtkemkpmcgeeieaaDoor.PNumberLabels
