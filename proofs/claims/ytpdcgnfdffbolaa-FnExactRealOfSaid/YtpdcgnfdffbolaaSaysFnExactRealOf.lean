-- written by wip/tools/rows.py: what is to be proved of FnExactRealOf, over lists and numbers alone
import Derived.Test.YtpdcgnfdffbolaaPFnExactRealOfx
import Derived.Test.YtpdcgnfdffbolaaOpens
namespace Go.Proofs.Ytpdcgnfdffbolaa.fnExactRealOf
open Go.RowKit Go.Proofs.Ytpdcgnfdffbolaa.PFnExactRealOf Go.Proofs.YtpdcgnfdffbolaaW.PrintWords Go.Proofs.YtpdcgnfdffbolaaW.PrintLast Go.Proofs.Ytpdcgnfdffbolaa.Own
def Pure : Prop := ∀ (a0 : ByteArray), (a0.size ≤ maxLen) → ∃ k, laws_FnExactRealOf.f k a0 = some true
end Go.Proofs.Ytpdcgnfdffbolaa.fnExactRealOf
