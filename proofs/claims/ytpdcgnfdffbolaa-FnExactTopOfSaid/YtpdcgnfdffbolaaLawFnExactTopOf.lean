/- The law FnExactTopOf holds for every argument: it returns true and leaves its arguments as they were. Conditions: none beyond the given row's own. -/
import Derived.Test.YtpdcgnfdffbolaaRows
import Derived.Test.YtpdcgnfdffbolaaSaysFnExactTopOf
import Derived.Test.YtpdcgnfdffbolaaPureFnExactTopOf
import Derived.WalkKit
import Derived.ProofKit
import Derived.OpenShut
import Derived.ShutString
import Derived.ChangeOld
import Derived.Below
import Derived.SizedLaws
namespace Go.Proofs.Ytpdcgnfdffbolaa.fnExactTopOf
open Go.ChangeShapes Go.WideShapes Go.ChangeAt Go.RowKit
open Go.Proofs.Ytpdcgnfdffbolaa.PFnExactTopOf Go.Proofs.YtpdcgnfdffbolaaW.PrintWords Go.Proofs.Ytpdcgnfdffbolaa.Own
set_option linter.unusedVariables false
theorem own : ownKnob Try.prog.godebug = none := by kernel_rfl
theorem laidOut : laidOutB Try.prog = true := by kernel_rfl
set_option maxRecDepth 100000 in
theorem lifted (os : Os) (started : os.Started) (H : Type) (enc : TypeId × Value → H) :
    ReturnsInHanded {} Try.checked os 6 .any (Rows.fnExactTopOfSpec.pre6 enc Try.prog Try.f6 Rows.fnExactTopOfRow.domain false) (Rows.fnExactTopOfSpec.post enc Try.prog Try.f6 false true false false) := by
  refine returnsInHanded_of_change_sized (C := Try.checked) own started (by kernel_rfl) Try.func6
    (ChangeSpec.witness6 (enc := enc) (C := Try.checked) false ⟨#[], #[.agg #[.slice none 0 0, .slice none 0 0], .string ByteArray.empty], []⟩ 8 (by kernel_rfl) (by kernel_rfl) (by kernel_rfl) (by kernel_rfl)) ?_
  intro W base args ds gs before hval0 hW hcnd hsz0 _
  have hval : ∀ (j : Nat) t v, Try.f6.params[j]? = some t → args[j]? = some v → Value.okWide Try.prog W .any base t v := hval0
  have hW' := hW
  obtain ⟨p, q, hA0, hV, rfl, hfz, hnd⟩ := hW
  have hA : DataW.TrodAll enc Try.prog W 0 (fun _ => true) true Try.f6.params.toList args.toList ds p := hA0
  rw [Try.params6] at hA hval
  obtain ⟨v0, vs0, d0, ds0, p0, q0, hargs, rfl, rfl, h0, r0⟩ := trodAll_cons hA
  obtain ⟨v1, vs1, d1, ds1, p1, q1, rfl, rfl, rfl, h1, r1⟩ := trodAll_cons r0
  obtain ⟨rfl, rfl, rfl⟩ := trodAll_nil r1
  obtain rfl : args = #[v0, v1] := by cases args; simp_all
  obtain ⟨rfl, rfl⟩ := trodVars_none hV
  have k0 := h0
  have lt0 : ∀ x ∈ p0, x.block < W.heap.size := by obtain ⟨m, hm⟩ := k0; exact DataW.trod_lt m _ _ _ hm
  have k1 := h1
  have lt1 : ∀ x ∈ p1, x.block < W.heap.size := by obtain ⟨m, hm⟩ := k1; exact DataW.trod_lt m _ _ _ hm
  obtain ⟨cs0, x0, rfl, K0, G0⟩ := (Opens.struct (t := 54) Try.underlying54 (by kernel_rfl) rfl (OpensFs.cons rfl (Opens.slice Try.underlying52 (by kernel_rfl) opens177) (OpensFs.last rfl (Opens.slice Try.underlying35 (by kernel_rfl) (Opens.int (k := .i64) Try.underlying3 (by kernel_rfl)))))).value_struct Try.underlying54 (hval 0 54 v0 rfl rfl) h0
  obtain ⟨x0a, x0b⟩ := x0
  obtain ⟨c1K0_, c2K0_, rfl, K0_x, K0_y⟩ := K0
  obtain ⟨G0x, G0y⟩ := G0
  obtain ⟨A0_0, c0_0, rfl, hc0_0, hr0_0⟩ := K0_x
  obtain ⟨A0_1, c0_1, rfl, hc0_1, hr0_1⟩ := K0_y
  obtain ⟨x1, K1, G1⟩ := (Opens.string Try.underlying9 (by kernel_rfl)).value_cell (by rw [Try.underlying9]; exact ⟨fun _ => nofun, fun _ _ => nofun⟩) (hval 1 9 v1 rfl rfl) h1
  obtain rfl := Opens.cell_eq K1
  obtain ⟨k, hk⟩ := Go.Proofs.Ytpdcgnfdffbolaa.fnExactTopOf.proof x0a x0b x1 G0x G0y G1
  clear hA0 hval0 hsz0
  refine (PFnExactTopOf.laws_FnExactTopOf.calls k _ _ x0a _ _ x0b x1 true W hr0_0 hc0_0 hr0_1 hc0_1 hk).mono fun e W' he => ?_
  obtain ⟨he, hd⟩ := he
  have bel : Below W.heap.size W W' := hd
  subst he
  exact ⟨_, rfl, _, _, _, [], _, [], hW', trodAll_mk1 (shut_bool Try.underlying4 _), (trodAll_cons_mk (Below.trod laidOut (by kernel_rfl) (of_decide_eq_true (by kernel_rfl)) k0 bel lt0) (trodAll_cons_mk (Below.trod laidOut (by kernel_rfl) (of_decide_eq_true (by kernel_rfl)) k1 bel lt1) trodAll_mk0)), rfl, bel.frame _, fun h => by cases h⟩
set_option maxHeartbeats 8000000 in
set_option maxRecDepth 100000 in
theorem closed_ : joinedFacts Try.pinned.checked.prog 6 Try.f6 Rows.fnExactTopOfSpec Rows.fnExactTopOfRow = true := by
  unfold joinedFacts
  repeat' (with_reducible refine Bool.and_eq_true_iff.2 ⟨?_, ?_⟩)
  all_goals (as_aux_lemma => kernel_rfl)
theorem over : Rows.fnExactTopOfRow.holds Try.pinned (OpenSpec.ofChange Rows.fnExactTopOfSpec) :=
  OpenClaim.holds_of_wide 6 Try.f6 rfl rfl rfl rfl rfl rfl rfl ⟨rfl, rfl, rfl, rfl, rfl⟩ rfl rfl rfl rfl rfl (by kernel_rfl) Try.func6 closed_
    (of_decide_eq_true (by kernel_rfl)) (by unfold Func.isWrapper; first | (rw [if_pos (by decide +kernel)]; kernel_rfl) | (rw [if_neg (by decide +kernel)]; exact ⟨rfl, rfl⟩))
    (fun os started H enc _ => lifted os started H enc)
theorem proved : Rows.FnExactTopOfSaid := over
#print axioms proved
end Go.Proofs.Ytpdcgnfdffbolaa.fnExactTopOf
namespace Go.Proofs.Ytpdcgnfdffbolaa
/-- The row, under a short name, for the claim. -/
theorem fnExactTopOf_holds : Rows.FnExactTopOfSaid := fnExactTopOf.proved
end Go.Proofs.Ytpdcgnfdffbolaa
