-- written by wip/tools/myprint.py out of the program's own print
import Derived.Test.YtnecbgeljanhiaaPFnExactLexx0
import Derived.Test.YtnecbgeljanhiaaPFnExactLexx1
import Derived.Test.YtnecbgeljanhiaaPFnExactLexx2
import Derived.Test.YtnecbgeljanhiaaPFnExactLexx3
import Derived.Test.YtnecbgeljanhiaaPFnExactLexx4
import Derived.Test.YtnecbgeljanhiaaPFnExactLexx5
import Derived.Test.YtnecbgeljanhiaaPFnExactLexx6
import Derived.Test.YtnecbgeljanhiaaPFnExactLexx7
import Derived.Test.YtnecbgeljanhiaaPFnExactLexx8
import Derived.Test.YtnecbgeljanhiaaPFnExactLexx9
import Derived.Test.YtnecbgeljanhiaaPFnExactLexx10
namespace Go.Proofs.Ytnecbgeljanhiaa.PFnExactLex
open Go.Proofs.Ytnecbgeljanhiaa.Own (rS cS bS rB)
open Go.RowKit Go.Proofs.YtnecbgeljanhiaaW.PrintWords Go.Proofs.YtnecbgeljanhiaaW.PrintLast Go.Proofs.YtnecbgeljanhiaaW.PrintMore
attribute [local go_sem] max2_int min2_int max_two min_two max_three min_three max_four min_four   -- for this text's walks alone
attribute [local go_sem] Go.Proofs.Ytnecbgeljanhiaa.Own.run_store_float
set_option linter.unusedVariables false
set_option linter.unusedSimpArgs false

end Go.Proofs.Ytnecbgeljanhiaa.PFnExactLex
