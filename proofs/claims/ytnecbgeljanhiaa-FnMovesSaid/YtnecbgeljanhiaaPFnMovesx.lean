-- written by wip/tools/myprint.py out of the program's own print
import Derived.Test.YtnecbgeljanhiaaPFnMovesx0
import Derived.Test.YtnecbgeljanhiaaPFnMovesx1
import Derived.Test.YtnecbgeljanhiaaPFnMovesx2
import Derived.Test.YtnecbgeljanhiaaPFnMovesx3
import Derived.Test.YtnecbgeljanhiaaPFnMovesx4
import Derived.Test.YtnecbgeljanhiaaPFnMovesx5
import Derived.Test.YtnecbgeljanhiaaPFnMovesx6
import Derived.Test.YtnecbgeljanhiaaPFnMovesx7
namespace Go.Proofs.Ytnecbgeljanhiaa.PFnMoves
open Go.Proofs.Ytnecbgeljanhiaa.Own (rS cS bS rB rN rT kS kC kc10 kf10)
open Go.RowKit Go.Proofs.YtnecbgeljanhiaaW.PrintWords Go.Proofs.YtnecbgeljanhiaaW.PrintLast Go.Proofs.YtnecbgeljanhiaaW.PrintMore
attribute [local go_sem] max2_int min2_int max_two min_two max_three min_three max_four min_four   -- for this text's walks alone
set_option linter.unusedVariables false
set_option linter.unusedSimpArgs false

end Go.Proofs.Ytnecbgeljanhiaa.PFnMoves
