-- written by wip/tools/myprint.py out of the program's own print
import Derived.Test.YtpdcgnfdffbolaaPFnExactTopOfx0
import Derived.Test.YtpdcgnfdffbolaaPFnExactTopOfx1
import Derived.Test.YtpdcgnfdffbolaaPFnExactTopOfx2
import Derived.Test.YtpdcgnfdffbolaaPFnExactTopOfx3
import Derived.Test.YtpdcgnfdffbolaaPFnExactTopOfx4
import Derived.Test.YtpdcgnfdffbolaaPFnExactTopOfx5
import Derived.Test.YtpdcgnfdffbolaaPFnExactTopOfx6
import Derived.Test.YtpdcgnfdffbolaaPFnExactTopOfx7
import Derived.Test.YtpdcgnfdffbolaaPFnExactTopOfx8
import Derived.Test.YtpdcgnfdffbolaaPFnExactTopOfx9
import Derived.Test.YtpdcgnfdffbolaaPFnExactTopOfx10
import Derived.Test.YtpdcgnfdffbolaaPFnExactTopOfx11
import Derived.Test.YtpdcgnfdffbolaaPFnExactTopOfx12
import Derived.Test.YtpdcgnfdffbolaaPFnExactTopOfx13
namespace Go.Proofs.Ytpdcgnfdffbolaa.PFnExactTopOf
open Go.Proofs.Ytpdcgnfdffbolaa.Own (rS cS bS rB rN rT kS kC kc10 kf10)
open Go.RowKit Go.Proofs.YtpdcgnfdffbolaaW.PrintWords Go.Proofs.YtpdcgnfdffbolaaW.PrintLast Go.Proofs.YtpdcgnfdffbolaaW.PrintMore
attribute [local go_sem] max2_int min2_int max_two min_two max_three min_three max_four min_four   -- for this text's walks alone
set_option linter.unusedVariables false
set_option linter.unusedSimpArgs false

end Go.Proofs.Ytpdcgnfdffbolaa.PFnExactTopOf
