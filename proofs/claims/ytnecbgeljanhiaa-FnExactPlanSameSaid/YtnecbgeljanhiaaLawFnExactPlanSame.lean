/- The law FnExactPlanSame holds for every argument: it returns true and leaves its arguments as they were. Conditions: none beyond the given row's own. -/
import Derived.Test.YtnecbgeljanhiaaRows
import Derived.Test.YtnecbgeljanhiaaSaysFnExactPlanSame
import Derived.Test.YtnecbgeljanhiaaPureFnExactPlanSame
import Derived.WalkKit
import Derived.ProofKit
import Derived.OpenShut
import Derived.ShutString
import Derived.ChangeOld
import Derived.Below
import Derived.SizedLaws
namespace Go.Proofs.Ytnecbgeljanhiaa.fnExactPlanSame
open Go.ChangeShapes Go.WideShapes Go.ChangeAt Go.RowKit
open Go.Proofs.Ytnecbgeljanhiaa.PFnExactPlanSame Go.Proofs.YtnecbgeljanhiaaW.PrintWords Go.Proofs.Ytnecbgeljanhiaa.Own
set_option linter.unusedVariables false
theorem own : ownKnob Try.prog.godebug = none := by kernel_rfl
theorem laidOut : laidOutB Try.prog = true := by kernel_rfl
set_option maxRecDepth 100000 in
theorem lifted (os : Os) (started : os.Started) (H : Type) (enc : TypeId × Value → H) :
    ReturnsInHanded {} Try.checked os 10 .any (Rows.fnExactPlanSameSpec.pre6 enc Try.prog Try.f10 Rows.fnExactPlanSameRow.domain false) (Rows.fnExactPlanSameSpec.post enc Try.prog Try.f10 false true false false) := by
  refine returnsInHanded_of_change_sized (C := Try.checked) own started (by kernel_rfl) Try.func10
    (ChangeSpec.witness6 (enc := enc) (C := Try.checked) false ⟨#[], #[.agg #[.slice none 0 0, .slice none 0 0, .slice none 0 0, .slice none 0 0], .agg #[.slice none 0 0, .slice none 0 0, .slice none 0 0, .slice none 0 0]], []⟩ 8 (by kernel_rfl) (by kernel_rfl) (by kernel_rfl) (by kernel_rfl)) ?_
  intro W base args ds gs before hval0 hW hcnd hsz0 _
  have hval : ∀ (j : Nat) t v, Try.f10.params[j]? = some t → args[j]? = some v → Value.okWide Try.prog W .any base t v := hval0
  have hW' := hW
  obtain ⟨p, q, hA0, hV, rfl, hfz, hnd⟩ := hW
  have hA : DataW.TrodAll enc Try.prog W 0 (fun _ => true) true Try.f10.params.toList args.toList ds p := hA0
  rw [Try.params10] at hA hval
  obtain ⟨v0, vs0, d0, ds0, p0, q0, hargs, rfl, rfl, h0, r0⟩ := trodAll_cons hA
  obtain ⟨v1, vs1, d1, ds1, p1, q1, rfl, rfl, rfl, h1, r1⟩ := trodAll_cons r0
  obtain ⟨rfl, rfl, rfl⟩ := trodAll_nil r1
  obtain rfl : args = #[v0, v1] := by cases args; simp_all
  obtain ⟨rfl, rfl⟩ := trodVars_none hV
  have k0 := h0
  have lt0 : ∀ x ∈ p0, x.block < W.heap.size := by obtain ⟨m, hm⟩ := k0; exact DataW.trod_lt m _ _ _ hm
  have k1 := h1
  have lt1 : ∀ x ∈ p1, x.block < W.heap.size := by obtain ⟨m, hm⟩ := k1; exact DataW.trod_lt m _ _ _ hm
  obtain ⟨cs0, x0, rfl, K0, G0⟩ := (Opens.struct (t := 64) Try.underlying64 (by kernel_rfl) rfl (OpensFs.cons rfl (Opens.slice Try.underlying41 (by kernel_rfl) (Opens.int (k := .i64) Try.underlying3 (by kernel_rfl))) (OpensFs.cons rfl (Opens.slice Try.underlying41 (by kernel_rfl) (Opens.int (k := .i64) Try.underlying3 (by kernel_rfl))) (OpensFs.cons rfl (Opens.slice Try.underlying22 (by kernel_rfl) opens98) (OpensFs.last rfl (Opens.slice Try.underlying62 (by kernel_rfl) opens174)))))).value_struct Try.underlying64 (hval 0 64 v0 rfl rfl) h0
  obtain ⟨x0a, x0b⟩ := x0
  obtain ⟨c1K0_, c2K0_, rfl, K0_x, K0_y⟩ := K0
  obtain ⟨G0x, G0y⟩ := G0
  obtain ⟨A0_0, c0_0, rfl, hc0_0, hr0_0⟩ := K0_x
  obtain ⟨x0ba, x0bb⟩ := x0b
  obtain ⟨c1K0_y_, c2K0_y_, rfl, K0_y_x, K0_y_y⟩ := K0_y
  obtain ⟨G0yx, G0yy⟩ := G0y
  obtain ⟨A0_1, c0_1, rfl, hc0_1, hr0_1⟩ := K0_y_x
  obtain ⟨x0bba, x0bbb⟩ := x0bb
  obtain ⟨c1K0_y_y_, c2K0_y_y_, rfl, K0_y_y_x, K0_y_y_y⟩ := K0_y_y
  obtain ⟨G0yyx, G0yyy⟩ := G0yy
  obtain ⟨A0_2, c0_2, rfl, hc0_2, hr0_2⟩ := K0_y_y_x
  obtain ⟨A0_3, c0_3, rfl, hc0_3, hr0_3⟩ := K0_y_y_y
  obtain ⟨cs1, x1, rfl, K1, G1⟩ := (Opens.struct (t := 64) Try.underlying64 (by kernel_rfl) rfl (OpensFs.cons rfl (Opens.slice Try.underlying41 (by kernel_rfl) (Opens.int (k := .i64) Try.underlying3 (by kernel_rfl))) (OpensFs.cons rfl (Opens.slice Try.underlying41 (by kernel_rfl) (Opens.int (k := .i64) Try.underlying3 (by kernel_rfl))) (OpensFs.cons rfl (Opens.slice Try.underlying22 (by kernel_rfl) opens98) (OpensFs.last rfl (Opens.slice Try.underlying62 (by kernel_rfl) opens174)))))).value_struct Try.underlying64 (hval 1 64 v1 rfl rfl) h1
  obtain ⟨x1a, x1b⟩ := x1
  obtain ⟨c1K1_, c2K1_, rfl, K1_x, K1_y⟩ := K1
  obtain ⟨G1x, G1y⟩ := G1
  obtain ⟨A1_0, c1_0, rfl, hc1_0, hr1_0⟩ := K1_x
  obtain ⟨x1ba, x1bb⟩ := x1b
  obtain ⟨c1K1_y_, c2K1_y_, rfl, K1_y_x, K1_y_y⟩ := K1_y
  obtain ⟨G1yx, G1yy⟩ := G1y
  obtain ⟨A1_1, c1_1, rfl, hc1_1, hr1_1⟩ := K1_y_x
  obtain ⟨x1bba, x1bbb⟩ := x1bb
  obtain ⟨c1K1_y_y_, c2K1_y_y_, rfl, K1_y_y_x, K1_y_y_y⟩ := K1_y_y
  obtain ⟨G1yyx, G1yyy⟩ := G1yy
  obtain ⟨A1_2, c1_2, rfl, hc1_2, hr1_2⟩ := K1_y_y_x
  obtain ⟨A1_3, c1_3, rfl, hc1_3, hr1_3⟩ := K1_y_y_y
  obtain ⟨k, hk⟩ := Go.Proofs.Ytnecbgeljanhiaa.fnExactPlanSame.proof x0a x0ba x0bba x0bbb x1a x1ba x1bba x1bbb G0x G0yx G0yyx G0yyy G1x G1yx G1yyx G1yyy
  clear hA0 hval0 hsz0
  refine (PFnExactPlanSame.laws_FnExactPlanSame.calls k _ _ x0a _ _ x0ba _ _ x0bba _ _ x0bbb _ _ x1a _ _ x1ba _ _ x1bba _ _ x1bbb true W hr0_0 hc0_0 hr0_1 hc0_1 hr0_2 hc0_2 hr0_3 hc0_3 hr1_0 hc1_0 hr1_1 hc1_1 hr1_2 hc1_2 hr1_3 hc1_3 hk).mono fun e W' he => ?_
  obtain ⟨he, hd⟩ := he
  have bel : Below W.heap.size W W' := hd
  subst he
  exact ⟨_, rfl, _, _, _, [], _, [], hW', trodAll_mk1 (shut_bool Try.underlying4 _), (trodAll_cons_mk (Below.trod laidOut (by kernel_rfl) (of_decide_eq_true (by kernel_rfl)) k0 bel lt0) (trodAll_cons_mk (Below.trod laidOut (by kernel_rfl) (of_decide_eq_true (by kernel_rfl)) k1 bel lt1) trodAll_mk0)), rfl, bel.frame _, fun h => by cases h⟩
set_option maxHeartbeats 8000000 in
set_option maxRecDepth 100000 in
theorem closed_ : joinedFacts Try.pinned.checked.prog 10 Try.f10 Rows.fnExactPlanSameSpec Rows.fnExactPlanSameRow = true := by
  unfold joinedFacts
  repeat' (with_reducible refine Bool.and_eq_true_iff.2 ⟨?_, ?_⟩)
  all_goals (as_aux_lemma => kernel_rfl)
theorem over : Rows.fnExactPlanSameRow.holds Try.pinned (OpenSpec.ofChange Rows.fnExactPlanSameSpec) :=
  OpenClaim.holds_of_wide 10 Try.f10 rfl rfl rfl rfl rfl rfl rfl ⟨rfl, rfl, rfl, rfl, rfl⟩ rfl rfl rfl rfl rfl (by kernel_rfl) Try.func10 closed_
    (of_decide_eq_true (by kernel_rfl)) (by unfold Func.isWrapper; first | (rw [if_pos (by decide +kernel)]; kernel_rfl) | (rw [if_neg (by decide +kernel)]; exact ⟨rfl, rfl⟩))
    (fun os started H enc _ => lifted os started H enc)
theorem proved : Rows.FnExactPlanSameSaid := over
#print axioms proved
end Go.Proofs.Ytnecbgeljanhiaa.fnExactPlanSame
namespace Go.Proofs.Ytnecbgeljanhiaa
/-- The row, under a short name, for the claim. -/
theorem fnExactPlanSame_holds : Rows.FnExactPlanSameSaid := fnExactPlanSame.proved
end Go.Proofs.Ytnecbgeljanhiaa
