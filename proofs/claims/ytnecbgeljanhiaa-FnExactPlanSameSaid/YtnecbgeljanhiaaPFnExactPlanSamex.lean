-- written by wip/tools/myprint.py out of the program's own print
import Derived.Test.YtnecbgeljanhiaaPFnExactPlanSamex0
import Derived.Test.YtnecbgeljanhiaaPFnExactPlanSamex1
import Derived.Test.YtnecbgeljanhiaaPFnExactPlanSamex2
import Derived.Test.YtnecbgeljanhiaaPFnExactPlanSamex3
import Derived.Test.YtnecbgeljanhiaaPFnExactPlanSamex4
import Derived.Test.YtnecbgeljanhiaaPFnExactPlanSamex5
import Derived.Test.YtnecbgeljanhiaaPFnExactPlanSamex6
import Derived.Test.YtnecbgeljanhiaaPFnExactPlanSamex7
import Derived.Test.YtnecbgeljanhiaaPFnExactPlanSamex8
import Derived.Test.YtnecbgeljanhiaaPFnExactPlanSamex9
namespace Go.Proofs.Ytnecbgeljanhiaa.PFnExactPlanSame
open Go.Proofs.Ytnecbgeljanhiaa.Own (rS cS bS rB rN rT kS kC kc10 kf10)
open Go.RowKit Go.Proofs.YtnecbgeljanhiaaW.PrintWords Go.Proofs.YtnecbgeljanhiaaW.PrintLast Go.Proofs.YtnecbgeljanhiaaW.PrintMore
attribute [local go_sem] max2_int min2_int max_two min_two max_three min_three max_four min_four   -- for this text's walks alone
set_option linter.unusedVariables false
set_option linter.unusedSimpArgs false

end Go.Proofs.Ytnecbgeljanhiaa.PFnExactPlanSame
