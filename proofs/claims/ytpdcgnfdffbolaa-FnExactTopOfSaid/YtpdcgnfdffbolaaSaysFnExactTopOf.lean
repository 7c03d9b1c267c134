-- written by wip/tools/rows.py: what is to be proved of FnExactTopOf, over lists and numbers alone
import Derived.Test.YtpdcgnfdffbolaaPFnExactTopOfx
import Derived.Test.YtpdcgnfdffbolaaOpens
namespace Go.Proofs.Ytpdcgnfdffbolaa.fnExactTopOf
open Go.RowKit Go.Proofs.Ytpdcgnfdffbolaa.PFnExactTopOf Go.Proofs.YtpdcgnfdffbolaaW.PrintWords Go.Proofs.YtpdcgnfdffbolaaW.PrintLast Go.Proofs.Ytpdcgnfdffbolaa.Own
def good177 (x : S177) : Prop := ((Lit.int .i64 x.f0).wf = true) ∧ (x.f1.size ≤ maxLen) ∧ ((Lit.int .i64 x.f2).wf = true) ∧ (x.f3.length ≤ maxLen ∧ ∀ x_ ∈ x.f3, (Lit.int .i64 x_).wf = true)
theorem opens177 : Opens Try.prog 177 k177 good177 :=
  ((Opens.struct (t := 177) (fl := _) Try.underlying177 (by kernel_rfl) rfl (OpensFs.cons rfl (Opens.int (k := .i64) Try.underlying3 (by kernel_rfl)) (OpensFs.cons rfl (Opens.string Try.underlying9 (by kernel_rfl)) (OpensFs.cons rfl (Opens.int (k := .i64) Try.underlying3 (by kernel_rfl)) (OpensFs.last rfl (Opens.slice Try.underlying35 (by kernel_rfl) (Opens.int (k := .i64) Try.underlying3 (by kernel_rfl)))))))).iso (fun x : S177 => (x.f0, (x.f1, (x.f2, x.f3)))) (fun a => ⟨a.1, a.2.1, a.2.2.1, a.2.2.2⟩) (fun _ => rfl)).weaken (fun x h => by
    obtain ⟨h0, ⟨h1, ⟨h2, h3⟩⟩⟩ := h
    exact ⟨h0, h1, h2, h3⟩)
def Pure : Prop := ∀ (l0_0 : List (S177)) (l0_1 : List Int) (a1 : ByteArray), (l0_0.length ≤ maxLen ∧ ∀ x_ ∈ l0_0, good177 x_) → (l0_1.length ≤ maxLen ∧ ∀ x_ ∈ l0_1, (Lit.int .i64 x_).wf = true) → (a1.size ≤ maxLen) → ∃ k, laws_FnExactTopOf.f k l0_0 l0_1 a1 = some true
end Go.Proofs.Ytpdcgnfdffbolaa.fnExactTopOf
