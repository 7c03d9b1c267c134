-- written by wip/tools/myprint.py out of the program's own print
import Derived.Test.YtapbpfbhghheeaaPFnExactLinearx0
import Derived.Test.YtapbpfbhghheeaaPFnExactLinearx1
import Derived.Test.YtapbpfbhghheeaaPFnExactLinearx2
import Derived.Test.YtapbpfbhghheeaaPFnExactLinearx3
import Derived.Test.YtapbpfbhghheeaaPFnExactLinearx4
import Derived.Test.YtapbpfbhghheeaaPFnExactLinearx5
namespace Go.Proofs.Ytapbpfbhghheeaa.PFnExactLinear
open Go.RowKit Go.Proofs.YtapbpfbhghheeaaW.PrintWords Go.Proofs.YtapbpfbhghheeaaW.PrintLast Go.Proofs.YtapbpfbhghheeaaW.PrintMore
attribute [local go_sem] max2_int min2_int max_two min_two max_three min_three max_four min_four   -- for this text's walks alone
set_option linter.unusedVariables false
set_option linter.unusedSimpArgs false

end Go.Proofs.Ytapbpfbhghheeaa.PFnExactLinear
