-- written by wip/tools/rows.py: what is to be proved of FnNoStuck, over lists and numbers alone
import Derived.Test.YtpdcgnfdffbolaaPFnNoStuckx
import Derived.Test.YtpdcgnfdffbolaaOpens
namespace Go.Proofs.Ytpdcgnfdffbolaa.fnNoStuck
open Go.RowKit Go.Proofs.Ytpdcgnfdffbolaa.PFnNoStuck Go.Proofs.YtpdcgnfdffbolaaW.PrintWords Go.Proofs.YtpdcgnfdffbolaaW.PrintLast Go.Proofs.Ytpdcgnfdffbolaa.Own
def Pure : Prop := ∀ (l0 : List Int), (l0.length ≤ maxLen ∧ ∀ x_ ∈ l0, (Lit.int .u8 x_).wf = true) → ∃ k, laws_FnNoStuck.f k l0 = some true
end Go.Proofs.Ytpdcgnfdffbolaa.fnNoStuck
