-- written by wip/tools/rows.py: what is to be proved of FnExactLex, over lists and numbers alone
import Derived.Test.YtnecbgeljanhiaaPFnExactLexx
import Derived.Test.YtnecbgeljanhiaaOpens
namespace Go.Proofs.Ytnecbgeljanhiaa.fnExactLex
open Go.RowKit Go.Proofs.Ytnecbgeljanhiaa.PFnExactLex Go.Proofs.YtnecbgeljanhiaaW.PrintWords Go.Proofs.YtnecbgeljanhiaaW.PrintLast Go.Proofs.Ytnecbgeljanhiaa.Own
def Pure : Prop := ∀ (a0 : ByteArray), (a0.size ≤ maxLen) → ∃ k, laws_FnExactLex.f k a0 = some true
end Go.Proofs.Ytnecbgeljanhiaa.fnExactLex
