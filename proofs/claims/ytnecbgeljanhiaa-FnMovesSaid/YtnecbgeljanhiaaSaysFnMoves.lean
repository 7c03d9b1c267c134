-- written by wip/tools/rows.py: what is to be proved of FnMoves, over lists and numbers alone
import Derived.Test.YtnecbgeljanhiaaPFnMovesx
import Derived.Test.YtnecbgeljanhiaaOpens
namespace Go.Proofs.Ytnecbgeljanhiaa.fnMoves
open Go.RowKit Go.Proofs.Ytnecbgeljanhiaa.PFnMoves Go.Proofs.YtnecbgeljanhiaaW.PrintWords Go.Proofs.YtnecbgeljanhiaaW.PrintLast Go.Proofs.Ytnecbgeljanhiaa.Own
def Pure : Prop := ∀ (l0 : List Int), (l0.length ≤ maxLen ∧ ∀ x_ ∈ l0, (Lit.int .u8 x_).wf = true) → ∃ k, laws_FnMoves.f k l0 = some true
end Go.Proofs.Ytnecbgeljanhiaa.fnMoves
