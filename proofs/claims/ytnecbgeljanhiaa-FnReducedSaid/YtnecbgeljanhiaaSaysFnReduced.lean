-- written by wip/tools/rows.py: what is to be proved of FnReduced, over lists and numbers alone
import Derived.Test.YtnecbgeljanhiaaPFnReducedx
import Derived.Test.YtnecbgeljanhiaaOpens
namespace Go.Proofs.Ytnecbgeljanhiaa.fnReduced
open Go.RowKit Go.Proofs.Ytnecbgeljanhiaa.PFnReduced Go.Proofs.YtnecbgeljanhiaaW.PrintWords Go.Proofs.YtnecbgeljanhiaaW.PrintLast Go.Proofs.Ytnecbgeljanhiaa.Own
def Pure : Prop := ∀ (l0 : List Int), (l0.length ≤ maxLen ∧ ∀ x_ ∈ l0, (Lit.int .u8 x_).wf = true) → ∃ k, laws_FnReduced.f k l0 = some true
end Go.Proofs.Ytnecbgeljanhiaa.fnReduced
