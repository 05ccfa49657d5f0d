-- Written by a program of this session's (gprint.py over the kit's printer), with hand-written parts. Lean checks it.
import Derived.Test.YtgodjkbccepfoaaPTabGoesx0
import Derived.Test.YtgodjkbccepfoaaPTabGoesx1
import Derived.Test.YtgodjkbccepfoaaPTabGoesx2
import Derived.Test.YtgodjkbccepfoaaPTabGoesx3
import Derived.Test.YtgodjkbccepfoaaPTabGoesx4
namespace Go.Proofs.Ytgodjkbccepfoaa.PTabGoes
open Go.RowKit Go.Proofs.YtgodjkbccepfoaaW.PrintWords Go.Proofs.YtgodjkbccepfoaaW.PrintLast Go.Proofs.YtgodjkbccepfoaaW.PrintMore
attribute [local go_sem] max2_int min2_int max_two min_two max_three min_three max_four min_four   -- for this text's walks alone
set_option linter.unusedVariables false
set_option linter.unusedSimpArgs false

end Go.Proofs.Ytgodjkbccepfoaa.PTabGoes
