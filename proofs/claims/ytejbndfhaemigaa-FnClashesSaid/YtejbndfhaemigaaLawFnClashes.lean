/- The law FnClashes holds for every argument: it returns true and leaves its arguments as they were. Conditions: none beyond the given row's own. -/
import Derived.Test.YtejbndfhaemigaaRows
import Derived.Test.YtejbndfhaemigaaSaysFnClashes
import Derived.Test.YtejbndfhaemigaaPureFnClashes
import Derived.WalkKit
import Derived.ProofKit
import Derived.OpenShut
import Derived.ShutString
import Derived.ChangeOld
import Derived.Below
import Derived.SizedLaws
namespace Go.Proofs.Ytejbndfhaemigaa.fnClashes
open Go.ChangeShapes Go.WideShapes Go.ChangeAt Go.RowKit
open Go.Proofs.Ytejbndfhaemigaa.PFnClashes Go.Proofs.YtejbndfhaemigaaW.PrintWords Go.Proofs.Ytejbndfhaemigaa.Own
set_option linter.unusedVariables false
theorem own : ownKnob Try.prog.godebug = none := by kernel_rfl
theorem laidOut : laidOutB Try.prog = true := by kernel_rfl
set_option maxRecDepth 100000 in
theorem lifted (os : Os) (started : os.Started) (H : Type) (enc : TypeId × Value → H) :
    ReturnsInHanded {} Try.checked os 3 .any (Rows.fnClashesSpec.pre6 enc Try.prog Try.f3 Rows.fnClashesRow.domain false) (Rows.fnClashesSpec.post enc Try.prog Try.f3 false true false false) := by
  refine returnsInHanded_of_change_sized (C := Try.checked) own started (by kernel_rfl) Try.func3
    (ChangeSpec.witness6 (enc := enc) (C := Try.checked) false ⟨#[], #[.slice none 0 0], []⟩ 8 (by kernel_rfl) (by kernel_rfl) (by kernel_rfl) (by kernel_rfl)) ?_
  intro W base args ds gs before hval0 hW hcnd hsz0 _
  have hval : ∀ (j : Nat) t v, Try.f3.params[j]? = some t → args[j]? = some v → Value.okWide Try.prog W .any base t v := hval0
  have hW' := hW
  obtain ⟨p, q, hA0, hV, rfl, hfz, hnd⟩ := hW
  have hA : DataW.TrodAll enc Try.prog W 0 (fun _ => true) true Try.f3.params.toList args.toList ds p := hA0
  rw [Try.params3] at hA hval
  obtain ⟨v0, vs0, d0, ds0, p0, q0, hargs, rfl, rfl, h0, r0⟩ := trodAll_cons hA
  obtain ⟨rfl, rfl, rfl⟩ := trodAll_nil r0
  obtain rfl : args = #[v0] := by cases args; simp_all
  obtain ⟨rfl, rfl⟩ := trodVars_none hV
  have k0 := h0
  have lt0 : ∀ x ∈ p0, x.block < W.heap.size := by obtain ⟨m, hm⟩ := k0; exact DataW.trod_lt m _ _ _ hm
  obtain ⟨A0, c0, x0, rfl, hc0, hr0, G0⟩ := (Opens.slice Try.underlying22 (by kernel_rfl) (Opens.int (k := .u8) Try.underlying5 (by kernel_rfl))).value_slice Try.underlying22 (hval 0 22 v0 rfl rfl) h0
  obtain ⟨k, hk⟩ := Go.Proofs.Ytejbndfhaemigaa.fnClashes.proof x0 G0
  clear hA0 hval0 hsz0
  refine (PFnClashes.laws_FnClashes.calls k _ _ x0 true W hr0 hc0 hk).mono fun e W' he => ?_
  obtain ⟨he, hd⟩ := he
  have bel : Below W.heap.size W W' := hd
  subst he
  exact ⟨_, rfl, _, _, _, [], _, [], hW', trodAll_mk1 (shut_bool Try.underlying4 _), (trodAll_cons_mk (Below.trod laidOut (by kernel_rfl) (of_decide_eq_true (by kernel_rfl)) k0 bel lt0) trodAll_mk0), rfl, bel.frame _, fun h => by cases h⟩
set_option maxHeartbeats 8000000 in
set_option maxRecDepth 100000 in
theorem closed_ : joinedFacts Try.pinned.checked.prog 3 Try.f3 Rows.fnClashesSpec Rows.fnClashesRow = true := by
  unfold joinedFacts
  repeat' (with_reducible refine Bool.and_eq_true_iff.2 ⟨?_, ?_⟩)
  all_goals (as_aux_lemma => kernel_rfl)
theorem over : Rows.fnClashesRow.holds Try.pinned (OpenSpec.ofChange Rows.fnClashesSpec) :=
  OpenClaim.holds_of_wide 3 Try.f3 rfl rfl rfl rfl rfl rfl rfl ⟨rfl, rfl, rfl, rfl, rfl⟩ rfl rfl rfl rfl rfl (by kernel_rfl) Try.func3 closed_
    (of_decide_eq_true (by kernel_rfl)) (by unfold Func.isWrapper; first | (rw [if_pos (by decide +kernel)]; kernel_rfl) | (rw [if_neg (by decide +kernel)]; exact ⟨rfl, rfl⟩))
    (fun os started H enc _ => lifted os started H enc)
theorem proved : Rows.FnClashesSaid := over
#print axioms proved
end Go.Proofs.Ytejbndfhaemigaa.fnClashes
namespace Go.Proofs.Ytejbndfhaemigaa
/-- The row, under a short name, for the claim. -/
theorem fnClashes_holds : Rows.FnClashesSaid := fnClashes.proved
end Go.Proofs.Ytejbndfhaemigaa
