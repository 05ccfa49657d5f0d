-- Written by a program of this session's (gprint.py over the kit's printer), with hand-written parts. Lean checks it.
import Derived.Test.YtpcpjlbfhbicaaaPStylePropsx0
import Derived.Test.YtpcpjlbfhbicaaaPStylePropsx1
import Derived.Test.YtpcpjlbfhbicaaaPStylePropsx2
namespace Go.Proofs.Ytpcpjlbfhbicaaa.PStyleProps
open Go.RowKit Go.Proofs.YtpcpjlbfhbicaaaW.PrintWords Go.Proofs.YtpcpjlbfhbicaaaW.PrintLast Go.Proofs.YtpcpjlbfhbicaaaW.PrintMore
attribute [local go_sem] max2_int min2_int max_two min_two max_three min_three max_four min_four   -- for this text's walks alone
set_option linter.unusedVariables false
set_option linter.unusedSimpArgs false

end Go.Proofs.Ytpcpjlbfhbicaaa.PStyleProps
