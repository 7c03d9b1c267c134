-- written by wip/tools/rows.py: what is to be proved of FnExactCircle, over lists and numbers alone
import Derived.Test.YtapbpfbhghheeaaPFnExactCirclex
import Derived.Test.YtapbpfbhghheeaaOpens
namespace Go.Proofs.Ytapbpfbhghheeaa.fnExactCircle
open Go.RowKit Go.Proofs.Ytapbpfbhghheeaa.PFnExactCircle Go.Proofs.YtapbpfbhghheeaaW.PrintWords Go.Proofs.YtapbpfbhghheeaaW.PrintLast Go.Proofs.Ytapbpfbhghheeaa.Own
def good78 (x : S78) : Prop := ((Lit.int .i64 x.f0).wf = true) ∧ ((Lit.int .i64 x.f1).wf = true)
theorem opens78 : Opens Try.prog 78 k78 good78 :=
  ((Opens.struct (t := 78) (fl := _) Try.underlying78 (by kernel_rfl) rfl (OpensFs.cons rfl (Opens.int (k := .i64) Try.underlying3 (by kernel_rfl)) (OpensFs.last rfl (Opens.int (k := .i64) Try.underlying3 (by kernel_rfl))))).iso (fun x : S78 => (x.f0, x.f1)) (fun a => ⟨a.1, a.2⟩) (fun _ => rfl)).weaken (fun x h => by
    obtain ⟨h0, h1⟩ := h
    exact ⟨h0, h1⟩)
def Pure : Prop := ∀ (a0 : Int) (l1 : List (S78)), ((Lit.int .i64 a0).wf = true) → (l1.length ≤ maxLen ∧ ∀ x_ ∈ l1, good78 x_) → ∃ k, laws_FnExactCircle.f k a0 l1 = some true
end Go.Proofs.Ytapbpfbhghheeaa.fnExactCircle
