-- written by wip/tools/myprint.py out of the program's own print
import Derived.Test.YtapbpfbhghheeaaPFnExactCirclex0
import Derived.Test.YtapbpfbhghheeaaPFnExactCirclex1
import Derived.Test.YtapbpfbhghheeaaPFnExactCirclex2
import Derived.Test.YtapbpfbhghheeaaPFnExactCirclex3
import Derived.Test.YtapbpfbhghheeaaPFnExactCirclex4
import Derived.Test.YtapbpfbhghheeaaPFnExactCirclex5
namespace Go.Proofs.Ytapbpfbhghheeaa.PFnExactCircle
open Go.RowKit Go.Proofs.YtapbpfbhghheeaaW.PrintWords Go.Proofs.YtapbpfbhghheeaaW.PrintLast Go.Proofs.YtapbpfbhghheeaaW.PrintMore
attribute [local go_sem] max2_int min2_int max_two min_two max_three min_three max_four min_four   -- for this text's walks alone
set_option linter.unusedVariables false
set_option linter.unusedSimpArgs false

end Go.Proofs.Ytapbpfbhghheeaa.PFnExactCircle
