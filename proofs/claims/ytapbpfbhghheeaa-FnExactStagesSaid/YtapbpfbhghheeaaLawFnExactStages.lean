/- The law FnExactStages holds for every argument: it returns true and leaves its arguments as they were. Conditions: none beyond the given row's own. -/
import Derived.Test.YtapbpfbhghheeaaRows
import Derived.Test.YtapbpfbhghheeaaSaysFnExactStages
import Derived.Test.YtapbpfbhghheeaaPureFnExactStages
import Derived.WalkKit
import Derived.ProofKit
import Derived.OpenShut
import Derived.ShutString
import Derived.ChangeOld
import Derived.Below
import Derived.SizedLaws
namespace Go.Proofs.Ytapbpfbhghheeaa.fnExactStages
open Go.ChangeShapes Go.WideShapes Go.ChangeAt Go.RowKit
open Go.Proofs.Ytapbpfbhghheeaa.PFnExactStages Go.Proofs.YtapbpfbhghheeaaW.PrintWords Go.Proofs.Ytapbpfbhghheeaa.Own
set_option linter.unusedVariables false
theorem own : ownKnob Try.prog.godebug = none := by kernel_rfl
theorem laidOut : laidOutB Try.prog = true := by kernel_rfl
set_option maxRecDepth 100000 in
theorem lifted (os : Os) (started : os.Started) (H : Type) (enc : TypeId × Value → H) :
    ReturnsInHanded {} Try.checked os 14 .any (Rows.fnExactStagesSpec.pre6 enc Try.prog Try.f14 Rows.fnExactStagesRow.domain false) (Rows.fnExactStagesSpec.post enc Try.prog Try.f14 false true false false) := by
  refine returnsInHanded_of_change_sized (C := Try.checked) own started (by kernel_rfl) Try.func14
    (ChangeSpec.witness6 (enc := enc) (C := Try.checked) false ⟨#[], #[.agg #[.slice none 0 0, .slice none 0 0, .slice none 0 0, .slice none 0 0]], []⟩ 8 (by kernel_rfl) (by kernel_rfl) (by kernel_rfl) (by kernel_rfl)) ?_
  intro W base args ds gs before hval0 hW hcnd hsz0 _
  have hval : ∀ (j : Nat) t v, Try.f14.params[j]? = some t → args[j]? = some v → Value.okWide Try.prog W .any base t v := hval0
  have hW' := hW
  obtain ⟨p, q, hA0, hV, rfl, hfz, hnd⟩ := hW
  have hA : DataW.TrodAll enc Try.prog W 0 (fun _ => true) true Try.f14.params.toList args.toList ds p := hA0
  rw [Try.params14] at hA hval
  obtain ⟨v0, vs0, d0, ds0, p0, q0, hargs, rfl, rfl, h0, r0⟩ := trodAll_cons hA
  obtain ⟨rfl, rfl, rfl⟩ := trodAll_nil r0
  obtain rfl : args = #[v0] := by cases args; simp_all
  obtain ⟨rfl, rfl⟩ := trodVars_none hV
  have k0 := h0
  have lt0 : ∀ x ∈ p0, x.block < W.heap.size := by obtain ⟨m, hm⟩ := k0; exact DataW.trod_lt m _ _ _ hm
  obtain ⟨cs0, x0, rfl, K0, G0⟩ := (Opens.struct (t := 67) Try.underlying67 (by kernel_rfl) rfl (OpensFs.cons rfl (Opens.slice Try.underlying36 (by kernel_rfl) (Opens.int (k := .i64) Try.underlying3 (by kernel_rfl))) (OpensFs.cons rfl (Opens.slice Try.underlying36 (by kernel_rfl) (Opens.int (k := .i64) Try.underlying3 (by kernel_rfl))) (OpensFs.cons rfl (Opens.slice Try.underlying22 (by kernel_rfl) opens78) (OpensFs.last rfl (Opens.slice Try.underlying65 (by kernel_rfl) opens129)))))).value_struct Try.underlying67 (hval 0 67 v0 rfl rfl) h0
  obtain ⟨x0a, x0b⟩ := x0
  obtain ⟨c1K0_, c2K0_, rfl, K0_x, K0_y⟩ := K0
  obtain ⟨G0x, G0y⟩ := G0
  obtain ⟨A0_0, c0_0, rfl, hc0_0, hr0_0⟩ := K0_x
  obtain ⟨x0ba, x0bb⟩ := x0b
  obtain ⟨c1K0_y_, c2K0_y_, rfl, K0_y_x, K0_y_y⟩ := K0_y
  obtain ⟨G0yx, G0yy⟩ := G0y
  obtain ⟨A0_1, c0_1, rfl, hc0_1, hr0_1⟩ := K0_y_x
  obtain ⟨x0bba, x0bbb⟩ := x0bb
  obtain ⟨c1K0_y_y_, c2K0_y_y_, rfl, K0_y_y_x, K0_y_y_y⟩ := K0_y_y
  obtain ⟨G0yyx, G0yyy⟩ := G0yy
  obtain ⟨A0_2, c0_2, rfl, hc0_2, hr0_2⟩ := K0_y_y_x
  obtain ⟨A0_3, c0_3, rfl, hc0_3, hr0_3⟩ := K0_y_y_y
  obtain ⟨k, hk⟩ := Go.Proofs.Ytapbpfbhghheeaa.fnExactStages.proof x0a x0ba x0bba x0bbb G0x G0yx G0yyx G0yyy
  clear hA0 hval0 hsz0
  refine (PFnExactStages.laws_FnExactStages.calls k _ _ x0a _ _ x0ba _ _ x0bba _ _ x0bbb true W hr0_0 hc0_0 hr0_1 hc0_1 hr0_2 hc0_2 hr0_3 hc0_3 hk).mono fun e W' he => ?_
  obtain ⟨he, hd⟩ := he
  have bel : Below W.heap.size W W' := hd
  subst he
  exact ⟨_, rfl, _, _, _, [], _, [], hW', trodAll_mk1 (shut_bool Try.underlying4 _), (trodAll_cons_mk (Below.trod laidOut (by kernel_rfl) (of_decide_eq_true (by kernel_rfl)) k0 bel lt0) trodAll_mk0), rfl, bel.frame _, fun h => by cases h⟩
theorem over : Rows.fnExactStagesRow.holds Try.pinned (OpenSpec.ofChange Rows.fnExactStagesSpec) :=
  OpenClaim.holds_of_wide 14 Try.f14 rfl rfl rfl rfl rfl rfl rfl ⟨rfl, rfl, rfl, rfl, rfl⟩ rfl rfl rfl rfl rfl (by kernel_rfl) Try.func14 (by kernel_rfl)
    (of_decide_eq_true (by kernel_rfl)) (by unfold Func.isWrapper; first | (rw [if_pos (by decide +kernel)]; kernel_rfl) | (rw [if_neg (by decide +kernel)]; exact ⟨rfl, rfl⟩))
    (fun os started H enc _ => lifted os started H enc)
theorem proved : Rows.FnExactStagesSaid := over
#print axioms proved
end Go.Proofs.Ytapbpfbhghheeaa.fnExactStages
namespace Go.Proofs.Ytapbpfbhghheeaa
/-- The row, under a short name, for the claim. -/
theorem fnExactStages_holds : Rows.FnExactStagesSaid := fnExactStages.proved
end Go.Proofs.Ytapbpfbhghheeaa
