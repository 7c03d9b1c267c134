-- written by wip/tools/myprint.py out of the program's own print
import Derived.Test.YtnecbgeljanhiaaPFnExactPoolRunx0
import Derived.Test.YtnecbgeljanhiaaPFnExactPoolRunx1
import Derived.Test.YtnecbgeljanhiaaPFnExactPoolRunx2
import Derived.Test.YtnecbgeljanhiaaPFnExactPoolRunx3
import Derived.Test.YtnecbgeljanhiaaPFnExactPoolRunx4
import Derived.Test.YtnecbgeljanhiaaPFnExactPoolRunx5
namespace Go.Proofs.Ytnecbgeljanhiaa.PFnExactPoolRun
open Go.Proofs.Ytnecbgeljanhiaa.Own (rS cS bS rB rN rT kS kC kc10 kf10)
open Go.RowKit Go.Proofs.YtnecbgeljanhiaaW.PrintWords Go.Proofs.YtnecbgeljanhiaaW.PrintLast Go.Proofs.YtnecbgeljanhiaaW.PrintMore
attribute [local go_sem] max2_int min2_int max_two min_two max_three min_three max_four min_four   -- for this text's walks alone
set_option linter.unusedVariables false
set_option linter.unusedSimpArgs false

end Go.Proofs.Ytnecbgeljanhiaa.PFnExactPoolRun
