-- written by wip/tools/rows.py: what is to be proved of FnExactFold, over lists and numbers alone
import Derived.Test.YtiiakeakfllpjaaPFnExactFoldx
import Derived.Test.YtiiakeakfllpjaaOpens
namespace Go.Proofs.Ytiiakeakfllpjaa.fnExactFold
open Go.RowKit Go.Proofs.Ytiiakeakfllpjaa.PFnExactFold Go.Proofs.YtiiakeakfllpjaaW.PrintWords Go.Proofs.YtiiakeakfllpjaaW.PrintLast Go.Proofs.Ytiiakeakfllpjaa.Own
def good52 (x : S52) : Prop := ((Lit.int .i64 x.f0).wf = true) ∧ (x.f1.size ≤ maxLen) ∧ ((Lit.int .i64 x.f2).wf = true) ∧ (x.f3.length ≤ maxLen ∧ ∀ x_ ∈ x.f3, (Lit.int .i64 x_).wf = true)
theorem opens52 : Opens Try.prog 52 k52 good52 :=
  ((Opens.struct (t := 52) (fl := _) Try.underlying52 (by kernel_rfl) rfl (OpensFs.cons rfl (Opens.int (k := .i64) Try.underlying3 (by kernel_rfl)) (OpensFs.cons rfl (Opens.string Try.underlying9 (by kernel_rfl)) (OpensFs.cons rfl (Opens.int (k := .i64) Try.underlying3 (by kernel_rfl)) (OpensFs.last rfl (Opens.slice Try.underlying23 (by kernel_rfl) (Opens.int (k := .i64) Try.underlying3 (by kernel_rfl)))))))).iso (fun x : S52 => (x.f0, (x.f1, (x.f2, x.f3)))) (fun a => ⟨a.1, a.2.1, a.2.2.1, a.2.2.2⟩) (fun _ => rfl)).weaken (fun x h => by
    obtain ⟨h0, ⟨h1, ⟨h2, h3⟩⟩⟩ := h
    exact ⟨h0, h1, h2, h3⟩)
def Pure : Prop := ∀ (l0_0 : List (S52)) (l0_1 : List Int), (l0_0.length ≤ maxLen ∧ ∀ x_ ∈ l0_0, good52 x_) → (l0_1.length ≤ maxLen ∧ ∀ x_ ∈ l0_1, (Lit.int .i64 x_).wf = true) → ∃ k, laws_FnExactFold.f k l0_0 l0_1 = some true
end Go.Proofs.Ytiiakeakfllpjaa.fnExactFold
