-- written by wip/tools/myprint.py out of the program's own print
import Derived.Test.YtpdcgnfdffbolaaPFnExactStrictlyx0
import Derived.Test.YtpdcgnfdffbolaaPFnExactStrictlyx1
import Derived.Test.YtpdcgnfdffbolaaPFnExactStrictlyx2
import Derived.Test.YtpdcgnfdffbolaaPFnExactStrictlyx3
import Derived.Test.YtpdcgnfdffbolaaPFnExactStrictlyx4
import Derived.Test.YtpdcgnfdffbolaaPFnExactStrictlyx5
import Derived.Test.YtpdcgnfdffbolaaPFnExactStrictlyx6
import Derived.Test.YtpdcgnfdffbolaaPFnExactStrictlyx7
import Derived.Test.YtpdcgnfdffbolaaPFnExactStrictlyx8
import Derived.Test.YtpdcgnfdffbolaaPFnExactStrictlyx9
namespace Go.Proofs.Ytpdcgnfdffbolaa.PFnExactStrictly
open Go.Proofs.Ytpdcgnfdffbolaa.Own (rS cS bS rB rN rT kS kC kc10 kf10)
open Go.RowKit Go.Proofs.YtpdcgnfdffbolaaW.PrintWords Go.Proofs.YtpdcgnfdffbolaaW.PrintLast Go.Proofs.YtpdcgnfdffbolaaW.PrintMore
attribute [local go_sem] max2_int min2_int max_two min_two max_three min_three max_four min_four   -- for this text's walks alone
set_option linter.unusedVariables false
set_option linter.unusedSimpArgs false

end Go.Proofs.Ytpdcgnfdffbolaa.PFnExactStrictly
