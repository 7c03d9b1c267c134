-- written by wip/tools/myprint.py out of the program's own print
import Derived.Test.YtiiakeakfllpjaaPFnExactFoldx0
import Derived.Test.YtiiakeakfllpjaaPFnExactFoldx1
import Derived.Test.YtiiakeakfllpjaaPFnExactFoldx2
import Derived.Test.YtiiakeakfllpjaaPFnExactFoldx3
import Derived.Test.YtiiakeakfllpjaaPFnExactFoldx4
import Derived.Test.YtiiakeakfllpjaaPFnExactFoldx5
import Derived.Test.YtiiakeakfllpjaaPFnExactFoldx6
import Derived.Test.YtiiakeakfllpjaaPFnExactFoldx7
import Derived.Test.YtiiakeakfllpjaaPFnExactFoldx8
import Derived.Test.YtiiakeakfllpjaaPFnExactFoldx9
import Derived.Test.YtiiakeakfllpjaaPFnExactFoldx10
import Derived.Test.YtiiakeakfllpjaaPFnExactFoldx11
import Derived.Test.YtiiakeakfllpjaaPFnExactFoldx12
import Derived.Test.YtiiakeakfllpjaaPFnExactFoldx13
import Derived.Test.YtiiakeakfllpjaaPFnExactFoldx14
import Derived.Test.YtiiakeakfllpjaaPFnExactFoldx15
import Derived.Test.YtiiakeakfllpjaaPFnExactFoldx16
namespace Go.Proofs.Ytiiakeakfllpjaa.PFnExactFold
open Go.Proofs.Ytiiakeakfllpjaa.Own (rS cS bS rB rN rT kS kC kc10 kf10)
open Go.RowKit Go.Proofs.YtiiakeakfllpjaaW.PrintWords Go.Proofs.YtiiakeakfllpjaaW.PrintLast Go.Proofs.YtiiakeakfllpjaaW.PrintMore
attribute [local go_sem] max2_int min2_int max_two min_two max_three min_three max_four min_four   -- for this text's walks alone
set_option linter.unusedVariables false
set_option linter.unusedSimpArgs false

end Go.Proofs.Ytiiakeakfllpjaa.PFnExactFold
