-- written by wip/tools/rows.py: what is to be proved of FnExactWidest, over lists and numbers alone
import Derived.Test.YtnecbgeljanhiaaPFnExactWidestx
import Derived.Test.YtnecbgeljanhiaaOpens
namespace Go.Proofs.Ytnecbgeljanhiaa.fnExactWidest
open Go.RowKit Go.Proofs.Ytnecbgeljanhiaa.PFnExactWidest Go.Proofs.YtnecbgeljanhiaaW.PrintWords Go.Proofs.YtnecbgeljanhiaaW.PrintLast Go.Proofs.Ytnecbgeljanhiaa.Own
def good107 (x : S107) : Prop := ((Lit.int .i64 x.f0).wf = true) ∧ ((Lit.int .i64 x.f1).wf = true)
theorem opens107 : Opens Try.prog 107 k107 good107 :=
  ((Opens.struct (t := 107) (fl := _) Try.underlying107 (by kernel_rfl) rfl (OpensFs.cons rfl (Opens.int (k := .i64) Try.underlying3 (by kernel_rfl)) (OpensFs.last rfl (Opens.int (k := .i64) Try.underlying3 (by kernel_rfl))))).iso (fun x : S107 => (x.f0, x.f1)) (fun a => ⟨a.1, a.2⟩) (fun _ => rfl)).weaken (fun x h => by
    obtain ⟨h0, h1⟩ := h
    exact ⟨h0, h1⟩)
def Pure : Prop := ∀ (l0 : List (S107)), (l0.length ≤ maxLen ∧ ∀ x_ ∈ l0, good107 x_) → ∃ k, laws_FnExactWidest.f k l0 = some true
end Go.Proofs.Ytnecbgeljanhiaa.fnExactWidest
