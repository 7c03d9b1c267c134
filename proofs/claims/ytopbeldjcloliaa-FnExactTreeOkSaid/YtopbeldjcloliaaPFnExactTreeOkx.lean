-- written by wip/tools/myprint.py out of the program's own print
import Derived.Test.YtopbeldjcloliaaPFnExactTreeOkx0
import Derived.Test.YtopbeldjcloliaaPFnExactTreeOkx1
import Derived.Test.YtopbeldjcloliaaPFnExactTreeOkx2
import Derived.Test.YtopbeldjcloliaaPFnExactTreeOkx3
import Derived.Test.YtopbeldjcloliaaPFnExactTreeOkx4
import Derived.Test.YtopbeldjcloliaaPFnExactTreeOkx5
import Derived.Test.YtopbeldjcloliaaPFnExactTreeOkx6
import Derived.Test.YtopbeldjcloliaaPFnExactTreeOkx7
import Derived.Test.YtopbeldjcloliaaPFnExactTreeOkx8
import Derived.Test.YtopbeldjcloliaaPFnExactTreeOkx9
import Derived.Test.YtopbeldjcloliaaPFnExactTreeOkx10
import Derived.Test.YtopbeldjcloliaaPFnExactTreeOkx11
import Derived.Test.YtopbeldjcloliaaPFnExactTreeOkx12
namespace Go.Proofs.Ytopbeldjcloliaa.PFnExactTreeOk
open Go.Proofs.Ytopbeldjcloliaa.Own (rS cS bS rB rN rT kS kC kc10 kf10)
open Go.RowKit Go.Proofs.YtopbeldjcloliaaW.PrintWords Go.Proofs.YtopbeldjcloliaaW.PrintLast Go.Proofs.YtopbeldjcloliaaW.PrintMore
attribute [local go_sem] max2_int min2_int max_two min_two max_three min_three max_four min_four   -- for this text's walks alone
set_option linter.unusedVariables false
set_option linter.unusedSimpArgs false

end Go.Proofs.Ytopbeldjcloliaa.PFnExactTreeOk
