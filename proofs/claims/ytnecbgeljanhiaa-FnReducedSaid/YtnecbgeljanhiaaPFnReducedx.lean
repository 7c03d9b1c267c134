-- written by wip/tools/myprint.py out of the program's own print
import Derived.Test.YtnecbgeljanhiaaPFnReducedx0
import Derived.Test.YtnecbgeljanhiaaPFnReducedx1
import Derived.Test.YtnecbgeljanhiaaPFnReducedx2
import Derived.Test.YtnecbgeljanhiaaPFnReducedx3
import Derived.Test.YtnecbgeljanhiaaPFnReducedx4
import Derived.Test.YtnecbgeljanhiaaPFnReducedx5
import Derived.Test.YtnecbgeljanhiaaPFnReducedx6
import Derived.Test.YtnecbgeljanhiaaPFnReducedx7
namespace Go.Proofs.Ytnecbgeljanhiaa.PFnReduced
open Go.RowKit Go.Proofs.YtnecbgeljanhiaaW.PrintWords Go.Proofs.YtnecbgeljanhiaaW.PrintLast Go.Proofs.YtnecbgeljanhiaaW.PrintMore
attribute [local go_sem] max2_int min2_int max_two min_two max_three min_three max_four min_four   -- for this text's walks alone
set_option linter.unusedVariables false
set_option linter.unusedSimpArgs false

end Go.Proofs.Ytnecbgeljanhiaa.PFnReduced
