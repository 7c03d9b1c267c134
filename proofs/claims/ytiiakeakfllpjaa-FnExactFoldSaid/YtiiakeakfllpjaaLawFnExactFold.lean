/- The law FnExactFold holds for every argument: it returns true and leaves its arguments as they were. Conditions: none beyond the given row's own. -/
import Derived.Test.YtiiakeakfllpjaaRows
import Derived.Test.YtiiakeakfllpjaaSaysFnExactFold
import Derived.Test.YtiiakeakfllpjaaPureFnExactFold
import Derived.WalkKit
import Derived.ProofKit
import Derived.OpenShut
import Derived.ShutString
import Derived.ChangeOld
import Derived.Below
import Derived.SizedLaws
namespace Go.Proofs.Ytiiakeakfllpjaa.fnExactFold
open Go.ChangeShapes Go.WideShapes Go.ChangeAt Go.RowKit
open Go.Proofs.Ytiiakeakfllpjaa.PFnExactFold Go.Proofs.YtiiakeakfllpjaaW.PrintWords Go.Proofs.Ytiiakeakfllpjaa.Own
set_option linter.unusedVariables false
theorem own : ownKnob Try.prog.godebug = none := by kernel_rfl
theorem laidOut : laidOutB Try.prog = true := by kernel_rfl
set_option maxRecDepth 100000 in
theorem lifted (os : Os) (started : os.Started) (H : Type) (enc : TypeId × Value → H) :
    ReturnsInHanded {} Try.checked os 3 .any (Rows.fnExactFoldSpec.pre6 enc Try.prog Try.f3 Rows.fnExactFoldRow.domain false) (Rows.fnExactFoldSpec.post enc Try.prog Try.f3 false true false false) := by
  refine returnsInHanded_of_change_sized (C := Try.checked) own started (by kernel_rfl) Try.func3
    (ChangeSpec.witness6 (enc := enc) (C := Try.checked) false ⟨#[], #[.agg #[.slice none 0 0, .slice none 0 0]], []⟩ 8 (by kernel_rfl) (by kernel_rfl) (by kernel_rfl) (by kernel_rfl)) ?_
  intro W base args ds gs before hval0 hW hcnd hsz0 _
  have hval : ∀ (j : Nat) t v, Try.f3.params[j]? = some t → args[j]? = some v → Value.okWide Try.prog W .any base t v := hval0
  have hW' := hW
  obtain ⟨p, q, hA0, hV, rfl, hfz, hnd⟩ := hW
  have hA : DataW.TrodAll enc Try.prog W 0 (fun _ => true) true Try.f3.params.toList args.toList ds p := hA0
  rw [Try.params3] at hA hval
  obtain ⟨v0, vs0, d0, ds0, p0, q0, hargs, rfl, rfl, h0, r0⟩ := trodAll_cons hA
  obtain ⟨rfl, rfl, rfl⟩ := trodAll_nil r0
  obtain rfl : args = #[v0] := by cases args; simp_all
  obtain ⟨rfl, rfl⟩ := trodVars_none hV
  have k0 := h0
  have lt0 : ∀ x ∈ p0, x.block < W.heap.size := by obtain ⟨m, hm⟩ := k0; exact DataW.trod_lt m _ _ _ hm
  obtain ⟨cs0, x0, rfl, K0, G0⟩ := (Opens.struct (t := 25) Try.underlying25 (by kernel_rfl) rfl (OpensFs.cons rfl (Opens.slice Try.underlying22 (by kernel_rfl) opens52) (OpensFs.last rfl (Opens.slice Try.underlying23 (by kernel_rfl) (Opens.int (k := .i64) Try.underlying3 (by kernel_rfl)))))).value_struct Try.underlying25 (hval 0 25 v0 rfl rfl) h0
  obtain ⟨x0a, x0b⟩ := x0
  obtain ⟨c1K0_, c2K0_, rfl, K0_x, K0_y⟩ := K0
  obtain ⟨G0x, G0y⟩ := G0
  obtain ⟨A0_0, c0_0, rfl, hc0_0, hr0_0⟩ := K0_x
  obtain ⟨A0_1, c0_1, rfl, hc0_1, hr0_1⟩ := K0_y
  obtain ⟨k, hk⟩ := Go.Proofs.Ytiiakeakfllpjaa.fnExactFold.proof x0a x0b G0x G0y
  clear hA0 hval0 hsz0
  refine (PFnExactFold.laws_FnExactFold.calls k _ _ x0a _ _ x0b true W hr0_0 hc0_0 hr0_1 hc0_1 hk).mono fun e W' he => ?_
  obtain ⟨he, hd⟩ := he
  have bel : Below W.heap.size W W' := hd
  subst he
  exact ⟨_, rfl, _, _, _, [], _, [], hW', trodAll_mk1 (shut_bool Try.underlying4 _), (trodAll_cons_mk (Below.trod laidOut (by kernel_rfl) (of_decide_eq_true (by kernel_rfl)) k0 bel lt0) trodAll_mk0), rfl, bel.frame _, fun h => by cases h⟩
set_option maxHeartbeats 8000000 in
set_option maxRecDepth 100000 in
theorem closed_ : joinedFacts Try.pinned.checked.prog 3 Try.f3 Rows.fnExactFoldSpec Rows.fnExactFoldRow = true := by
  unfold joinedFacts
  repeat' (with_reducible refine Bool.and_eq_true_iff.2 ⟨?_, ?_⟩)
  all_goals (as_aux_lemma => kernel_rfl)
theorem over : Rows.fnExactFoldRow.holds Try.pinned (OpenSpec.ofChange Rows.fnExactFoldSpec) :=
  OpenClaim.holds_of_wide 3 Try.f3 rfl rfl rfl rfl rfl rfl rfl ⟨rfl, rfl, rfl, rfl, rfl⟩ rfl rfl rfl rfl rfl (by kernel_rfl) Try.func3 closed_
    (of_decide_eq_true (by kernel_rfl)) (by unfold Func.isWrapper; first | (rw [if_pos (by decide +kernel)]; kernel_rfl) | (rw [if_neg (by decide +kernel)]; exact ⟨rfl, rfl⟩))
    (fun os started H enc _ => lifted os started H enc)
theorem proved : Rows.FnExactFoldSaid := over
#print axioms proved
end Go.Proofs.Ytiiakeakfllpjaa.fnExactFold
namespace Go.Proofs.Ytiiakeakfllpjaa
/-- The row, under a short name, for the claim. -/
theorem fnExactFold_holds : Rows.FnExactFoldSaid := fnExactFold.proved
end Go.Proofs.Ytiiakeakfllpjaa
