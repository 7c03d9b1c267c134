-- written by wip/tools/myprint.py out of the program's own print
import Derived.Test.YtpdcgnfdffbolaaPFnExactApartx0
import Derived.Test.YtpdcgnfdffbolaaPFnExactApartx1
import Derived.Test.YtpdcgnfdffbolaaPFnExactApartx2
import Derived.Test.YtpdcgnfdffbolaaPFnExactApartx3
import Derived.Test.YtpdcgnfdffbolaaPFnExactApartx4
import Derived.Test.YtpdcgnfdffbolaaPFnExactApartx5
import Derived.Test.YtpdcgnfdffbolaaPFnExactApartx6
import Derived.Test.YtpdcgnfdffbolaaPFnExactApartx7
namespace Go.Proofs.Ytpdcgnfdffbolaa.PFnExactApart
open Go.Proofs.Ytpdcgnfdffbolaa.Own (rS cS bS rB)
open Go.RowKit Go.Proofs.YtpdcgnfdffbolaaW.PrintWords Go.Proofs.YtpdcgnfdffbolaaW.PrintLast Go.Proofs.YtpdcgnfdffbolaaW.PrintMore
attribute [local go_sem] max2_int min2_int max_two min_two max_three min_three max_four min_four   -- for this text's walks alone
set_option linter.unusedVariables false
set_option linter.unusedSimpArgs false

end Go.Proofs.Ytpdcgnfdffbolaa.PFnExactApart
