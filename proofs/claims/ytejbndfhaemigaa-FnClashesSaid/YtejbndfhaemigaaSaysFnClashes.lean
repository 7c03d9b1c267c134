-- written by wip/tools/rows.py: what is to be proved of FnClashes, over lists and numbers alone
import Derived.Test.YtejbndfhaemigaaPFnClashesx
import Derived.Test.YtejbndfhaemigaaOpens
namespace Go.Proofs.Ytejbndfhaemigaa.fnClashes
open Go.RowKit Go.Proofs.Ytejbndfhaemigaa.PFnClashes Go.Proofs.YtejbndfhaemigaaW.PrintWords Go.Proofs.YtejbndfhaemigaaW.PrintLast Go.Proofs.Ytejbndfhaemigaa.Own
def Pure : Prop := ∀ (l0 : List Int), (l0.length ≤ maxLen ∧ ∀ x_ ∈ l0, (Lit.int .u8 x_).wf = true) → ∃ k, laws_FnClashes.f k l0 = some true
end Go.Proofs.Ytejbndfhaemigaa.fnClashes
