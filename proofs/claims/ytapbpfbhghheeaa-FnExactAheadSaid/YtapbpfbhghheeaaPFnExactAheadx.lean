-- written by wip/tools/myprint.py out of the program's own print
import Derived.Test.YtapbpfbhghheeaaPFnExactAheadx0
import Derived.Test.YtapbpfbhghheeaaPFnExactAheadx1
import Derived.Test.YtapbpfbhghheeaaPFnExactAheadx2
import Derived.Test.YtapbpfbhghheeaaPFnExactAheadx3
namespace Go.Proofs.Ytapbpfbhghheeaa.PFnExactAhead
open Go.RowKit Go.Proofs.YtapbpfbhghheeaaW.PrintWords Go.Proofs.YtapbpfbhghheeaaW.PrintLast Go.Proofs.YtapbpfbhghheeaaW.PrintMore
attribute [local go_sem] max2_int min2_int max_two min_two max_three min_three max_four min_four   -- for this text's walks alone
set_option linter.unusedVariables false
set_option linter.unusedSimpArgs false

end Go.Proofs.Ytapbpfbhghheeaa.PFnExactAhead
