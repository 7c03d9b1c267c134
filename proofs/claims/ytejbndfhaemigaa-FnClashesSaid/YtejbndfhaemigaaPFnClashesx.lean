-- written by wip/tools/myprint.py out of the program's own print
import Derived.Test.YtejbndfhaemigaaPFnClashesx0
import Derived.Test.YtejbndfhaemigaaPFnClashesx1
import Derived.Test.YtejbndfhaemigaaPFnClashesx2
import Derived.Test.YtejbndfhaemigaaPFnClashesx3
import Derived.Test.YtejbndfhaemigaaPFnClashesx4
import Derived.Test.YtejbndfhaemigaaPFnClashesx5
import Derived.Test.YtejbndfhaemigaaPFnClashesx6
import Derived.Test.YtejbndfhaemigaaPFnClashesx7
import Derived.Test.YtejbndfhaemigaaPFnClashesx8
namespace Go.Proofs.Ytejbndfhaemigaa.PFnClashes
open Go.Proofs.Ytejbndfhaemigaa.Own (rS cS bS rB rN rT kS kC kc10 kf10)
open Go.RowKit Go.Proofs.YtejbndfhaemigaaW.PrintWords Go.Proofs.YtejbndfhaemigaaW.PrintLast Go.Proofs.YtejbndfhaemigaaW.PrintMore
attribute [local go_sem] max2_int min2_int max_two min_two max_three min_three max_four min_four   -- for this text's walks alone
set_option linter.unusedVariables false
set_option linter.unusedSimpArgs false

end Go.Proofs.Ytejbndfhaemigaa.PFnClashes
