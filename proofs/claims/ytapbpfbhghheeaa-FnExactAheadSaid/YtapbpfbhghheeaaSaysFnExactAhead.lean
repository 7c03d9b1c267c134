-- written by wip/tools/rows.py: what is to be proved of FnExactAhead, over lists and numbers alone
import Derived.Test.YtapbpfbhghheeaaPFnExactAheadx
import Derived.Test.YtapbpfbhghheeaaOpens
namespace Go.Proofs.Ytapbpfbhghheeaa.fnExactAhead
open Go.RowKit Go.Proofs.Ytapbpfbhghheeaa.PFnExactAhead Go.Proofs.YtapbpfbhghheeaaW.PrintWords Go.Proofs.YtapbpfbhghheeaaW.PrintLast Go.Proofs.Ytapbpfbhghheeaa.Own
def good78 (x : S78) : Prop := ((Lit.int .i64 x.f0).wf = true) ∧ ((Lit.int .i64 x.f1).wf = true)
theorem opens78 : Opens Try.prog 78 k78 good78 :=
  ((Opens.struct (t := 78) (fl := _) Try.underlying78 (by kernel_rfl) rfl (OpensFs.cons rfl (Opens.int (k := .i64) Try.underlying3 (by kernel_rfl)) (OpensFs.last rfl (Opens.int (k := .i64) Try.underlying3 (by kernel_rfl))))).iso (fun x : S78 => (x.f0, x.f1)) (fun a => ⟨a.1, a.2⟩) (fun _ => rfl)).weaken (fun x h => by
    obtain ⟨h0, h1⟩ := h
    exact ⟨h0, h1⟩)
def Pure : Prop := ∀ (a0 : Int) (l1 : List (S78)) (a2 : Int) (a3 : Int), ((Lit.int .i64 a0).wf = true) → (l1.length ≤ maxLen ∧ ∀ x_ ∈ l1, good78 x_) → ((Lit.int .i64 a2).wf = true) → ((Lit.int .i64 a3).wf = true) → ∃ k, laws_FnExactAhead.f k a0 l1 a2 a3 = some true
end Go.Proofs.Ytapbpfbhghheeaa.fnExactAhead
