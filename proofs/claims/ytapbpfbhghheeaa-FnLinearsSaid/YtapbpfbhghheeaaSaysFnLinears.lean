-- written by wip/tools/rows.py: what is to be proved of FnLinears, over lists and numbers alone
import Derived.Test.YtapbpfbhghheeaaPFnLinearsx
import Derived.Test.YtapbpfbhghheeaaOpens
namespace Go.Proofs.Ytapbpfbhghheeaa.fnLinears
open Go.RowKit Go.Proofs.Ytapbpfbhghheeaa.PFnLinears Go.Proofs.YtapbpfbhghheeaaW.PrintWords Go.Proofs.YtapbpfbhghheeaaW.PrintLast Go.Proofs.Ytapbpfbhghheeaa.Own
def Pure : Prop := ∀ (l0 : List Int), (l0.length ≤ maxLen ∧ ∀ x_ ∈ l0, (Lit.int .u8 x_).wf = true) → ∃ k, laws_FnLinears.f k l0 = some true
end Go.Proofs.Ytapbpfbhghheeaa.fnLinears
