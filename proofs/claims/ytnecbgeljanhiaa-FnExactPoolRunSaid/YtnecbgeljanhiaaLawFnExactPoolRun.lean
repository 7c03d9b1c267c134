/- The law FnExactPoolRun holds for every argument: it returns true and leaves its arguments as they were. Conditions: none beyond the given row's own. -/
import Derived.Test.YtnecbgeljanhiaaRows
import Derived.Test.YtnecbgeljanhiaaSaysFnExactPoolRun
import Derived.Test.YtnecbgeljanhiaaPureFnExactPoolRun
import Derived.WalkKit
import Derived.ProofKit
import Derived.OpenShut
import Derived.ShutString
import Derived.ChangeOld
import Derived.Below
import Derived.SizedLaws
namespace Go.Proofs.Ytnecbgeljanhiaa.fnExactPoolRun
open Go.ChangeShapes Go.WideShapes Go.ChangeAt Go.RowKit
open Go.Proofs.Ytnecbgeljanhiaa.PFnExactPoolRun Go.Proofs.YtnecbgeljanhiaaW.PrintWords Go.Proofs.Ytnecbgeljanhiaa.Own
set_option linter.unusedVariables false
theorem own : ownKnob Try.prog.godebug = none := by kernel_rfl
theorem laidOut : laidOutB Try.prog = true := by kernel_rfl
set_option maxRecDepth 100000 in
theorem lifted (os : Os) (started : os.Started) (H : Type) (enc : TypeId × Value → H) :
    ReturnsInHanded {} Try.checked os 8 .any (Rows.fnExactPoolRunSpec.pre6 enc Try.prog Try.f8 Rows.fnExactPoolRunRow.domain false) (Rows.fnExactPoolRunSpec.post enc Try.prog Try.f8 false true false false) := by
  refine returnsInHanded_of_change_sized (C := Try.checked) own started (by kernel_rfl) Try.func8
    (ChangeSpec.witness6 (enc := enc) (C := Try.checked) false ⟨#[], #[.int .i64 0, .slice none 0 0, .int .i64 0, .slice none 0 0], []⟩ 8 (by kernel_rfl) (by kernel_rfl) (by kernel_rfl) (by kernel_rfl)) ?_
  intro W base args ds gs before hval0 hW hcnd hsz0 _
  have hval : ∀ (j : Nat) t v, Try.f8.params[j]? = some t → args[j]? = some v → Value.okWide Try.prog W .any base t v := hval0
  have hW' := hW
  obtain ⟨p, q, hA0, hV, rfl, hfz, hnd⟩ := hW
  have hA : DataW.TrodAll enc Try.prog W 0 (fun _ => true) true Try.f8.params.toList args.toList ds p := hA0
  rw [Try.params8] at hA hval
  obtain ⟨v0, vs0, d0, ds0, p0, q0, hargs, rfl, rfl, h0, r0⟩ := trodAll_cons hA
  obtain ⟨v1, vs1, d1, ds1, p1, q1, rfl, rfl, rfl, h1, r1⟩ := trodAll_cons r0
  obtain ⟨v2, vs2, d2, ds2, p2, q2, rfl, rfl, rfl, h2, r2⟩ := trodAll_cons r1
  obtain ⟨v3, vs3, d3, ds3, p3, q3, rfl, rfl, rfl, h3, r3⟩ := trodAll_cons r2
  obtain ⟨rfl, rfl, rfl⟩ := trodAll_nil r3
  obtain rfl : args = #[v0, v1, v2, v3] := by cases args; simp_all
  obtain ⟨rfl, rfl⟩ := trodVars_none hV
  have k0 := h0
  have lt0 : ∀ x ∈ p0, x.block < W.heap.size := by obtain ⟨m, hm⟩ := k0; exact DataW.trod_lt m _ _ _ hm
  have k1 := h1
  have lt1 : ∀ x ∈ p1, x.block < W.heap.size := by obtain ⟨m, hm⟩ := k1; exact DataW.trod_lt m _ _ _ hm
  have k2 := h2
  have lt2 : ∀ x ∈ p2, x.block < W.heap.size := by obtain ⟨m, hm⟩ := k2; exact DataW.trod_lt m _ _ _ hm
  have k3 := h3
  have lt3 : ∀ x ∈ p3, x.block < W.heap.size := by obtain ⟨m, hm⟩ := k3; exact DataW.trod_lt m _ _ _ hm
  obtain ⟨x0, K0, G0⟩ := (Opens.int (k := .i64) Try.underlying3 (by kernel_rfl)).value_cell (by rw [Try.underlying3]; exact ⟨fun _ => nofun, fun _ _ => nofun⟩) (hval 0 3 v0 rfl rfl) h0
  obtain rfl := Opens.cell_eq K0
  obtain ⟨A1, c1, x1, rfl, hc1, hr1, G1⟩ := (Opens.slice Try.underlying22 (by kernel_rfl) opens98).value_slice Try.underlying22 (hval 1 22 v1 rfl rfl) h1
  obtain ⟨x2, K2, G2⟩ := (Opens.int (k := .i64) Try.underlying3 (by kernel_rfl)).value_cell (by rw [Try.underlying3]; exact ⟨fun _ => nofun, fun _ _ => nofun⟩) (hval 2 3 v2 rfl rfl) h2
  obtain rfl := Opens.cell_eq K2
  obtain ⟨A3, c3, x3, rfl, hc3, hr3, G3⟩ := (Opens.slice Try.underlying41 (by kernel_rfl) (Opens.int (k := .i64) Try.underlying3 (by kernel_rfl))).value_slice Try.underlying41 (hval 3 41 v3 rfl rfl) h3
  obtain ⟨k, hk⟩ := Go.Proofs.Ytnecbgeljanhiaa.fnExactPoolRun.proof x0 x1 x2 x3 G0 G1 G2 G3
  clear hA0 hval0 hsz0
  refine (PFnExactPoolRun.laws_FnExactPoolRun.calls k x0 _ _ x1 x2 _ _ x3 true W hr1 hc1 hr3 hc3 hk).mono fun e W' he => ?_
  obtain ⟨he, hd⟩ := he
  have bel : Below W.heap.size W W' := hd
  subst he
  exact ⟨_, rfl, _, _, _, [], _, [], hW', trodAll_mk1 (shut_bool Try.underlying4 _), (trodAll_cons_mk (Below.trod laidOut (by kernel_rfl) (of_decide_eq_true (by kernel_rfl)) k0 bel lt0) (trodAll_cons_mk (Below.trod laidOut (by kernel_rfl) (of_decide_eq_true (by kernel_rfl)) k1 bel lt1) (trodAll_cons_mk (Below.trod laidOut (by kernel_rfl) (of_decide_eq_true (by kernel_rfl)) k2 bel lt2) (trodAll_cons_mk (Below.trod laidOut (by kernel_rfl) (of_decide_eq_true (by kernel_rfl)) k3 bel lt3) trodAll_mk0)))), rfl, bel.frame _, fun h => by cases h⟩
set_option maxHeartbeats 8000000 in
set_option maxRecDepth 100000 in
theorem closed_ : joinedFacts Try.pinned.checked.prog 8 Try.f8 Rows.fnExactPoolRunSpec Rows.fnExactPoolRunRow = true := by
  unfold joinedFacts
  repeat' (with_reducible refine Bool.and_eq_true_iff.2 ⟨?_, ?_⟩)
  all_goals (as_aux_lemma => kernel_rfl)
theorem over : Rows.fnExactPoolRunRow.holds Try.pinned (OpenSpec.ofChange Rows.fnExactPoolRunSpec) :=
  OpenClaim.holds_of_wide 8 Try.f8 rfl rfl rfl rfl rfl rfl rfl ⟨rfl, rfl, rfl, rfl, rfl⟩ rfl rfl rfl rfl rfl (by kernel_rfl) Try.func8 closed_
    (of_decide_eq_true (by kernel_rfl)) (by unfold Func.isWrapper; first | (rw [if_pos (by decide +kernel)]; kernel_rfl) | (rw [if_neg (by decide +kernel)]; exact ⟨rfl, rfl⟩))
    (fun os started H enc _ => lifted os started H enc)
theorem proved : Rows.FnExactPoolRunSaid := over
#print axioms proved
end Go.Proofs.Ytnecbgeljanhiaa.fnExactPoolRun
namespace Go.Proofs.Ytnecbgeljanhiaa
/-- The row, under a short name, for the claim. -/
theorem fnExactPoolRun_holds : Rows.FnExactPoolRunSaid := fnExactPoolRun.proved
end Go.Proofs.Ytnecbgeljanhiaa
