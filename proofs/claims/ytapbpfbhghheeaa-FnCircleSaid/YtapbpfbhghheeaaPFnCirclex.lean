-- written by wip/tools/myprint.py out of the program's own print
import Derived.Test.YtapbpfbhghheeaaPFnCirclex0
import Derived.Test.YtapbpfbhghheeaaPFnCirclex1
import Derived.Test.YtapbpfbhghheeaaPFnCirclex2
import Derived.Test.YtapbpfbhghheeaaPFnCirclex3
import Derived.Test.YtapbpfbhghheeaaPFnCirclex4
import Derived.Test.YtapbpfbhghheeaaPFnCirclex5
namespace Go.Proofs.Ytapbpfbhghheeaa.PFnCircle
open Go.RowKit Go.Proofs.YtapbpfbhghheeaaW.PrintWords Go.Proofs.YtapbpfbhghheeaaW.PrintLast Go.Proofs.YtapbpfbhghheeaaW.PrintMore
attribute [local go_sem] max2_int min2_int max_two min_two max_three min_three max_four min_four   -- for this text's walks alone
set_option linter.unusedVariables false
set_option linter.unusedSimpArgs false

end Go.Proofs.Ytapbpfbhghheeaa.PFnCircle
