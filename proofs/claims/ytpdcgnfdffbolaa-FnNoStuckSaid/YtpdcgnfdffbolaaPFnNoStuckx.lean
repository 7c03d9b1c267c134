-- written by wip/tools/myprint.py out of the program's own print
import Derived.Test.YtpdcgnfdffbolaaPFnNoStuckx0
import Derived.Test.YtpdcgnfdffbolaaPFnNoStuckx1
import Derived.Test.YtpdcgnfdffbolaaPFnNoStuckx2
import Derived.Test.YtpdcgnfdffbolaaPFnNoStuckx3
import Derived.Test.YtpdcgnfdffbolaaPFnNoStuckx4
import Derived.Test.YtpdcgnfdffbolaaPFnNoStuckx5
import Derived.Test.YtpdcgnfdffbolaaPFnNoStuckx6
import Derived.Test.YtpdcgnfdffbolaaPFnNoStuckx7
import Derived.Test.YtpdcgnfdffbolaaPFnNoStuckx8
import Derived.Test.YtpdcgnfdffbolaaPFnNoStuckx9
namespace Go.Proofs.Ytpdcgnfdffbolaa.PFnNoStuck
open Go.Proofs.Ytpdcgnfdffbolaa.Own (rS cS bS rB rN rT kS kC kc10 kf10)
open Go.RowKit Go.Proofs.YtpdcgnfdffbolaaW.PrintWords Go.Proofs.YtpdcgnfdffbolaaW.PrintLast Go.Proofs.YtpdcgnfdffbolaaW.PrintMore
attribute [local go_sem] max2_int min2_int max_two min_two max_three min_three max_four min_four   -- for this text's walks alone
set_option linter.unusedVariables false
set_option linter.unusedSimpArgs false

end Go.Proofs.Ytpdcgnfdffbolaa.PFnNoStuck
