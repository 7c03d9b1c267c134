-- written by wip/tools/myprint.py out of the program's own print
import Derived.Test.YtnecbgeljanhiaaPFnExactReducedx0
import Derived.Test.YtnecbgeljanhiaaPFnExactReducedx1
import Derived.Test.YtnecbgeljanhiaaPFnExactReducedx2
import Derived.Test.YtnecbgeljanhiaaPFnExactReducedx3
import Derived.Test.YtnecbgeljanhiaaPFnExactReducedx4
import Derived.Test.YtnecbgeljanhiaaPFnExactReducedx5
import Derived.Test.YtnecbgeljanhiaaPFnExactReducedx6
import Derived.Test.YtnecbgeljanhiaaPFnExactReducedx7
namespace Go.Proofs.Ytnecbgeljanhiaa.PFnExactReduced
open Go.RowKit Go.Proofs.YtnecbgeljanhiaaW.PrintWords Go.Proofs.YtnecbgeljanhiaaW.PrintLast Go.Proofs.YtnecbgeljanhiaaW.PrintMore
attribute [local go_sem] max2_int min2_int max_two min_two max_three min_three max_four min_four   -- for this text's walks alone
set_option linter.unusedVariables false
set_option linter.unusedSimpArgs false

end Go.Proofs.Ytnecbgeljanhiaa.PFnExactReduced
