-- written by wip/tools/myprint.py out of the program's own print
import Derived.Test.YtgilggacmklijaaPFnExactSizesx0
import Derived.Test.YtgilggacmklijaaPFnExactSizesx1
import Derived.Test.YtgilggacmklijaaPFnExactSizesx2
import Derived.Test.YtgilggacmklijaaPFnExactSizesx3
import Derived.Test.YtgilggacmklijaaPFnExactSizesx4
import Derived.Test.YtgilggacmklijaaPFnExactSizesx5
import Derived.Test.YtgilggacmklijaaPFnExactSizesx6
import Derived.Test.YtgilggacmklijaaPFnExactSizesx7
import Derived.Test.YtgilggacmklijaaPFnExactSizesx8
import Derived.Test.YtgilggacmklijaaPFnExactSizesx9
import Derived.Test.YtgilggacmklijaaPFnExactSizesx10
import Derived.Test.YtgilggacmklijaaPFnExactSizesx11
import Derived.Test.YtgilggacmklijaaPFnExactSizesx12
import Derived.Test.YtgilggacmklijaaPFnExactSizesx13
namespace Go.Proofs.Ytgilggacmklijaa.PFnExactSizes
open Go.Proofs.Ytgilggacmklijaa.Own (rS cS bS rB rN rT kS kC kc10 kf10)
open Go.RowKit Go.Proofs.YtgilggacmklijaaW.PrintWords Go.Proofs.YtgilggacmklijaaW.PrintLast Go.Proofs.YtgilggacmklijaaW.PrintMore
attribute [local go_sem] max2_int min2_int max_two min_two max_three min_three max_four min_four   -- for this text's walks alone
set_option linter.unusedVariables false
set_option linter.unusedSimpArgs false

end Go.Proofs.Ytgilggacmklijaa.PFnExactSizes
