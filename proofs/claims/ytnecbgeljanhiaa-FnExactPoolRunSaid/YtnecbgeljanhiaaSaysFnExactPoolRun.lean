-- written by wip/tools/rows.py: what is to be proved of FnExactPoolRun, over lists and numbers alone
import Derived.Test.YtnecbgeljanhiaaPFnExactPoolRunx
import Derived.Test.YtnecbgeljanhiaaOpens
namespace Go.Proofs.Ytnecbgeljanhiaa.fnExactPoolRun
open Go.RowKit Go.Proofs.Ytnecbgeljanhiaa.PFnExactPoolRun Go.Proofs.YtnecbgeljanhiaaW.PrintWords Go.Proofs.YtnecbgeljanhiaaW.PrintLast Go.Proofs.Ytnecbgeljanhiaa.Own
def good98 (x : S98) : Prop := ((Lit.int .i64 x.f0).wf = true) ∧ ((Lit.int .i64 x.f1).wf = true)
theorem opens98 : Opens Try.prog 98 k98 good98 :=
  ((Opens.struct (t := 98) (fl := _) Try.underlying98 (by kernel_rfl) rfl (OpensFs.cons rfl (Opens.int (k := .i64) Try.underlying3 (by kernel_rfl)) (OpensFs.last rfl (Opens.int (k := .i64) Try.underlying3 (by kernel_rfl))))).iso (fun x : S98 => (x.f0, x.f1)) (fun a => ⟨a.1, a.2⟩) (fun _ => rfl)).weaken (fun x h => by
    obtain ⟨h0, h1⟩ := h
    exact ⟨h0, h1⟩)
def Pure : Prop := ∀ (a0 : Int) (l1 : List (S98)) (a2 : Int) (l3 : List Int), ((Lit.int .i64 a0).wf = true) → (l1.length ≤ maxLen ∧ ∀ x_ ∈ l1, good98 x_) → ((Lit.int .i64 a2).wf = true) → (l3.length ≤ maxLen ∧ ∀ x_ ∈ l3, (Lit.int .i64 x_).wf = true) → ∃ k, laws_FnExactPoolRun.f k a0 l1 a2 l3 = some true
end Go.Proofs.Ytnecbgeljanhiaa.fnExactPoolRun
