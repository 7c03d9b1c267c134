-- written by wip/tools/rows.py: what is to be proved of FnCircle, over lists and numbers alone
import Derived.Test.YtapbpfbhghheeaaPFnCirclex
import Derived.Test.YtapbpfbhghheeaaOpens
namespace Go.Proofs.Ytapbpfbhghheeaa.fnCircle
open Go.RowKit Go.Proofs.Ytapbpfbhghheeaa.PFnCircle Go.Proofs.YtapbpfbhghheeaaW.PrintWords Go.Proofs.YtapbpfbhghheeaaW.PrintLast Go.Proofs.Ytapbpfbhghheeaa.Own
def Pure : Prop := ∀ (l0 : List Int), (l0.length ≤ maxLen ∧ ∀ x_ ∈ l0, (Lit.int .u8 x_).wf = true) → ∃ k, laws_FnCircle.f k l0 = some true
end Go.Proofs.Ytapbpfbhghheeaa.fnCircle
