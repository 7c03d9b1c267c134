/- The law FnExactStrictly holds for every argument: it returns true and leaves its arguments as they were. Conditions: none beyond the given row's own. -/
import Derived.Test.YtpdcgnfdffbolaaRows
import Derived.Test.YtpdcgnfdffbolaaSaysFnExactStrictly
import Derived.Test.YtpdcgnfdffbolaaPureFnExactStrictly
import Derived.WalkKit
import Derived.ProofKit
import Derived.OpenShut
import Derived.ShutString
import Derived.ChangeOld
import Derived.Below
import Derived.SizedLaws
namespace Go.Proofs.Ytpdcgnfdffbolaa.fnExactStrictly
open Go.ChangeShapes Go.WideShapes Go.ChangeAt Go.RowKit
open Go.Proofs.Ytpdcgnfdffbolaa.PFnExactStrictly Go.Proofs.YtpdcgnfdffbolaaW.PrintWords Go.Proofs.Ytpdcgnfdffbolaa.Own
set_option linter.unusedVariables false
theorem own : ownKnob Try.prog.godebug = none := by kernel_rfl
theorem laidOut : laidOutB Try.prog = true := by kernel_rfl
set_option maxRecDepth 100000 in
theorem lifted (os : Os) (started : os.Started) (H : Type) (enc : TypeId × Value → H) :
    ReturnsInHanded {} Try.checked os 12 .any (Rows.fnExactStrictlySpec.pre6 enc Try.prog Try.f12 Rows.fnExactStrictlyRow.domain false) (Rows.fnExactStrictlySpec.post enc Try.prog Try.f12 false true false false) := by
  refine returnsInHanded_of_change_sized (C := Try.checked) own started (by kernel_rfl) Try.func12
    (ChangeSpec.witness6 (enc := enc) (C := Try.checked) false ⟨#[], #[.agg #[.slice none 0 0, .slice none 0 0, .slice none 0 0, .slice none 0 0, .slice none 0 0, .slice none 0 0, .slice none 0 0, .slice none 0 0, .bool false, .bool false], .agg #[.slice none 0 0, .slice none 0 0, .slice none 0 0, .slice none 0 0, .slice none 0 0, .slice none 0 0, .slice none 0 0, .slice none 0 0, .bool false, .bool false], .int .i64 0], []⟩ 8 (by kernel_rfl) (by kernel_rfl) (by kernel_rfl) (by kernel_rfl)) ?_
  intro W base args ds gs before hval0 hW hcnd hsz0 _
  have hval : ∀ (j : Nat) t v, Try.f12.params[j]? = some t → args[j]? = some v → Value.okWide Try.prog W .any base t v := hval0
  have hW' := hW
  obtain ⟨p, q, hA0, hV, rfl, hfz, hnd⟩ := hW
  have hA : DataW.TrodAll enc Try.prog W 0 (fun _ => true) true Try.f12.params.toList args.toList ds p := hA0
  rw [Try.params12] at hA hval
  obtain ⟨v0, vs0, d0, ds0, p0, q0, hargs, rfl, rfl, h0, r0⟩ := trodAll_cons hA
  obtain ⟨v1, vs1, d1, ds1, p1, q1, rfl, rfl, rfl, h1, r1⟩ := trodAll_cons r0
  obtain ⟨v2, vs2, d2, ds2, p2, q2, rfl, rfl, rfl, h2, r2⟩ := trodAll_cons r1
  obtain ⟨rfl, rfl, rfl⟩ := trodAll_nil r2
  obtain rfl : args = #[v0, v1, v2] := by cases args; simp_all
  obtain ⟨rfl, rfl⟩ := trodVars_none hV
  have k0 := h0
  have lt0 : ∀ x ∈ p0, x.block < W.heap.size := by obtain ⟨m, hm⟩ := k0; exact DataW.trod_lt m _ _ _ hm
  have k1 := h1
  have lt1 : ∀ x ∈ p1, x.block < W.heap.size := by obtain ⟨m, hm⟩ := k1; exact DataW.trod_lt m _ _ _ hm
  have k2 := h2
  have lt2 : ∀ x ∈ p2, x.block < W.heap.size := by obtain ⟨m, hm⟩ := k2; exact DataW.trod_lt m _ _ _ hm
  obtain ⟨cs0, x0, rfl, K0, G0⟩ := (Opens.struct (t := 63) Try.underlying63 (by kernel_rfl) rfl (OpensFs.cons rfl (Opens.slice Try.underlying35 (by kernel_rfl) (Opens.int (k := .i64) Try.underlying3 (by kernel_rfl))) (OpensFs.cons rfl (Opens.slice Try.underlying35 (by kernel_rfl) (Opens.int (k := .i64) Try.underlying3 (by kernel_rfl))) (OpensFs.cons rfl (Opens.slice Try.underlying35 (by kernel_rfl) (Opens.int (k := .i64) Try.underlying3 (by kernel_rfl))) (OpensFs.cons rfl (Opens.slice Try.underlying35 (by kernel_rfl) (Opens.int (k := .i64) Try.underlying3 (by kernel_rfl))) (OpensFs.cons rfl (Opens.slice Try.underlying35 (by kernel_rfl) (Opens.int (k := .i64) Try.underlying3 (by kernel_rfl))) (OpensFs.cons rfl (Opens.slice Try.underlying35 (by kernel_rfl) (Opens.int (k := .i64) Try.underlying3 (by kernel_rfl))) (OpensFs.cons rfl (Opens.slice Try.underlying35 (by kernel_rfl) (Opens.int (k := .i64) Try.underlying3 (by kernel_rfl))) (OpensFs.cons rfl (Opens.slice Try.underlying35 (by kernel_rfl) (Opens.int (k := .i64) Try.underlying3 (by kernel_rfl))) (OpensFs.cons rfl (Opens.bool Try.underlying4 (by kernel_rfl)) (OpensFs.last rfl (Opens.bool Try.underlying4 (by kernel_rfl))))))))))))).value_struct Try.underlying63 (hval 0 63 v0 rfl rfl) h0
  obtain ⟨x0a, x0b⟩ := x0
  obtain ⟨c1K0_, c2K0_, rfl, K0_x, K0_y⟩ := K0
  obtain ⟨G0x, G0y⟩ := G0
  obtain ⟨A0_0, c0_0, rfl, hc0_0, hr0_0⟩ := K0_x
  obtain ⟨x0ba, x0bb⟩ := x0b
  obtain ⟨c1K0_y_, c2K0_y_, rfl, K0_y_x, K0_y_y⟩ := K0_y
  obtain ⟨G0yx, G0yy⟩ := G0y
  obtain ⟨A0_1, c0_1, rfl, hc0_1, hr0_1⟩ := K0_y_x
  obtain ⟨x0bba, x0bbb⟩ := x0bb
  obtain ⟨c1K0_y_y_, c2K0_y_y_, rfl, K0_y_y_x, K0_y_y_y⟩ := K0_y_y
  obtain ⟨G0yyx, G0yyy⟩ := G0yy
  obtain ⟨A0_2, c0_2, rfl, hc0_2, hr0_2⟩ := K0_y_y_x
  obtain ⟨x0bbba, x0bbbb⟩ := x0bbb
  obtain ⟨c1K0_y_y_y_, c2K0_y_y_y_, rfl, K0_y_y_y_x, K0_y_y_y_y⟩ := K0_y_y_y
  obtain ⟨G0yyyx, G0yyyy⟩ := G0yyy
  obtain ⟨A0_3, c0_3, rfl, hc0_3, hr0_3⟩ := K0_y_y_y_x
  obtain ⟨x0bbbba, x0bbbbb⟩ := x0bbbb
  obtain ⟨c1K0_y_y_y_y_, c2K0_y_y_y_y_, rfl, K0_y_y_y_y_x, K0_y_y_y_y_y⟩ := K0_y_y_y_y
  obtain ⟨G0yyyyx, G0yyyyy⟩ := G0yyyy
  obtain ⟨A0_4, c0_4, rfl, hc0_4, hr0_4⟩ := K0_y_y_y_y_x
  obtain ⟨x0bbbbba, x0bbbbbb⟩ := x0bbbbb
  obtain ⟨c1K0_y_y_y_y_y_, c2K0_y_y_y_y_y_, rfl, K0_y_y_y_y_y_x, K0_y_y_y_y_y_y⟩ := K0_y_y_y_y_y
  obtain ⟨G0yyyyyx, G0yyyyyy⟩ := G0yyyyy
  obtain ⟨A0_5, c0_5, rfl, hc0_5, hr0_5⟩ := K0_y_y_y_y_y_x
  obtain ⟨x0bbbbbba, x0bbbbbbb⟩ := x0bbbbbb
  obtain ⟨c1K0_y_y_y_y_y_y_, c2K0_y_y_y_y_y_y_, rfl, K0_y_y_y_y_y_y_x, K0_y_y_y_y_y_y_y⟩ := K0_y_y_y_y_y_y
  obtain ⟨G0yyyyyyx, G0yyyyyyy⟩ := G0yyyyyy
  obtain ⟨A0_6, c0_6, rfl, hc0_6, hr0_6⟩ := K0_y_y_y_y_y_y_x
  obtain ⟨x0bbbbbbba, x0bbbbbbbb⟩ := x0bbbbbbb
  obtain ⟨c1K0_y_y_y_y_y_y_y_, c2K0_y_y_y_y_y_y_y_, rfl, K0_y_y_y_y_y_y_y_x, K0_y_y_y_y_y_y_y_y⟩ := K0_y_y_y_y_y_y_y
  obtain ⟨G0yyyyyyyx, G0yyyyyyyy⟩ := G0yyyyyyy
  obtain ⟨A0_7, c0_7, rfl, hc0_7, hr0_7⟩ := K0_y_y_y_y_y_y_y_x
  obtain ⟨x0bbbbbbbba, x0bbbbbbbbb⟩ := x0bbbbbbbb
  obtain ⟨c1K0_y_y_y_y_y_y_y_y_, c2K0_y_y_y_y_y_y_y_y_, rfl, K0_y_y_y_y_y_y_y_y_x, K0_y_y_y_y_y_y_y_y_y⟩ := K0_y_y_y_y_y_y_y_y
  obtain ⟨G0yyyyyyyyx, G0yyyyyyyyy⟩ := G0yyyyyyyy
  obtain rfl := K0_y_y_y_y_y_y_y_y_x
  obtain rfl := K0_y_y_y_y_y_y_y_y_y
  obtain ⟨cs1, x1, rfl, K1, G1⟩ := (Opens.struct (t := 63) Try.underlying63 (by kernel_rfl) rfl (OpensFs.cons rfl (Opens.slice Try.underlying35 (by kernel_rfl) (Opens.int (k := .i64) Try.underlying3 (by kernel_rfl))) (OpensFs.cons rfl (Opens.slice Try.underlying35 (by kernel_rfl) (Opens.int (k := .i64) Try.underlying3 (by kernel_rfl))) (OpensFs.cons rfl (Opens.slice Try.underlying35 (by kernel_rfl) (Opens.int (k := .i64) Try.underlying3 (by kernel_rfl))) (OpensFs.cons rfl (Opens.slice Try.underlying35 (by kernel_rfl) (Opens.int (k := .i64) Try.underlying3 (by kernel_rfl))) (OpensFs.cons rfl (Opens.slice Try.underlying35 (by kernel_rfl) (Opens.int (k := .i64) Try.underlying3 (by kernel_rfl))) (OpensFs.cons rfl (Opens.slice Try.underlying35 (by kernel_rfl) (Opens.int (k := .i64) Try.underlying3 (by kernel_rfl))) (OpensFs.cons rfl (Opens.slice Try.underlying35 (by kernel_rfl) (Opens.int (k := .i64) Try.underlying3 (by kernel_rfl))) (OpensFs.cons rfl (Opens.slice Try.underlying35 (by kernel_rfl) (Opens.int (k := .i64) Try.underlying3 (by kernel_rfl))) (OpensFs.cons rfl (Opens.bool Try.underlying4 (by kernel_rfl)) (OpensFs.last rfl (Opens.bool Try.underlying4 (by kernel_rfl))))))))))))).value_struct Try.underlying63 (hval 1 63 v1 rfl rfl) h1
  obtain ⟨x1a, x1b⟩ := x1
  obtain ⟨c1K1_, c2K1_, rfl, K1_x, K1_y⟩ := K1
  obtain ⟨G1x, G1y⟩ := G1
  obtain ⟨A1_0, c1_0, rfl, hc1_0, hr1_0⟩ := K1_x
  obtain ⟨x1ba, x1bb⟩ := x1b
  obtain ⟨c1K1_y_, c2K1_y_, rfl, K1_y_x, K1_y_y⟩ := K1_y
  obtain ⟨G1yx, G1yy⟩ := G1y
  obtain ⟨A1_1, c1_1, rfl, hc1_1, hr1_1⟩ := K1_y_x
  obtain ⟨x1bba, x1bbb⟩ := x1bb
  obtain ⟨c1K1_y_y_, c2K1_y_y_, rfl, K1_y_y_x, K1_y_y_y⟩ := K1_y_y
  obtain ⟨G1yyx, G1yyy⟩ := G1yy
  obtain ⟨A1_2, c1_2, rfl, hc1_2, hr1_2⟩ := K1_y_y_x
  obtain ⟨x1bbba, x1bbbb⟩ := x1bbb
  obtain ⟨c1K1_y_y_y_, c2K1_y_y_y_, rfl, K1_y_y_y_x, K1_y_y_y_y⟩ := K1_y_y_y
  obtain ⟨G1yyyx, G1yyyy⟩ := G1yyy
  obtain ⟨A1_3, c1_3, rfl, hc1_3, hr1_3⟩ := K1_y_y_y_x
  obtain ⟨x1bbbba, x1bbbbb⟩ := x1bbbb
  obtain ⟨c1K1_y_y_y_y_, c2K1_y_y_y_y_, rfl, K1_y_y_y_y_x, K1_y_y_y_y_y⟩ := K1_y_y_y_y
  obtain ⟨G1yyyyx, G1yyyyy⟩ := G1yyyy
  obtain ⟨A1_4, c1_4, rfl, hc1_4, hr1_4⟩ := K1_y_y_y_y_x
  obtain ⟨x1bbbbba, x1bbbbbb⟩ := x1bbbbb
  obtain ⟨c1K1_y_y_y_y_y_, c2K1_y_y_y_y_y_, rfl, K1_y_y_y_y_y_x, K1_y_y_y_y_y_y⟩ := K1_y_y_y_y_y
  obtain ⟨G1yyyyyx, G1yyyyyy⟩ := G1yyyyy
  obtain ⟨A1_5, c1_5, rfl, hc1_5, hr1_5⟩ := K1_y_y_y_y_y_x
  obtain ⟨x1bbbbbba, x1bbbbbbb⟩ := x1bbbbbb
  obtain ⟨c1K1_y_y_y_y_y_y_, c2K1_y_y_y_y_y_y_, rfl, K1_y_y_y_y_y_y_x, K1_y_y_y_y_y_y_y⟩ := K1_y_y_y_y_y_y
  obtain ⟨G1yyyyyyx, G1yyyyyyy⟩ := G1yyyyyy
  obtain ⟨A1_6, c1_6, rfl, hc1_6, hr1_6⟩ := K1_y_y_y_y_y_y_x
  obtain ⟨x1bbbbbbba, x1bbbbbbbb⟩ := x1bbbbbbb
  obtain ⟨c1K1_y_y_y_y_y_y_y_, c2K1_y_y_y_y_y_y_y_, rfl, K1_y_y_y_y_y_y_y_x, K1_y_y_y_y_y_y_y_y⟩ := K1_y_y_y_y_y_y_y
  obtain ⟨G1yyyyyyyx, G1yyyyyyyy⟩ := G1yyyyyyy
  obtain ⟨A1_7, c1_7, rfl, hc1_7, hr1_7⟩ := K1_y_y_y_y_y_y_y_x
  obtain ⟨x1bbbbbbbba, x1bbbbbbbbb⟩ := x1bbbbbbbb
  obtain ⟨c1K1_y_y_y_y_y_y_y_y_, c2K1_y_y_y_y_y_y_y_y_, rfl, K1_y_y_y_y_y_y_y_y_x, K1_y_y_y_y_y_y_y_y_y⟩ := K1_y_y_y_y_y_y_y_y
  obtain ⟨G1yyyyyyyyx, G1yyyyyyyyy⟩ := G1yyyyyyyy
  obtain rfl := K1_y_y_y_y_y_y_y_y_x
  obtain rfl := K1_y_y_y_y_y_y_y_y_y
  obtain ⟨x2, K2, G2⟩ := (Opens.int (k := .i64) Try.underlying3 (by kernel_rfl)).value_cell (by rw [Try.underlying3]; exact ⟨fun _ => nofun, fun _ _ => nofun⟩) (hval 2 3 v2 rfl rfl) h2
  obtain rfl := Opens.cell_eq K2
  obtain ⟨k, hk⟩ := Go.Proofs.Ytpdcgnfdffbolaa.fnExactStrictly.proof x0a x0ba x0bba x0bbba x0bbbba x0bbbbba x0bbbbbba x0bbbbbbba x0bbbbbbbba x0bbbbbbbbb x1a x1ba x1bba x1bbba x1bbbba x1bbbbba x1bbbbbba x1bbbbbbba x1bbbbbbbba x1bbbbbbbbb x2 G0x G0yx G0yyx G0yyyx G0yyyyx G0yyyyyx G0yyyyyyx G0yyyyyyyx G1x G1yx G1yyx G1yyyx G1yyyyx G1yyyyyx G1yyyyyyx G1yyyyyyyx G2
  clear hA0 hval0 hsz0
  refine (PFnExactStrictly.laws_FnExactStrictly.calls k _ _ x0a _ _ x0ba _ _ x0bba _ _ x0bbba _ _ x0bbbba _ _ x0bbbbba _ _ x0bbbbbba _ _ x0bbbbbbba x0bbbbbbbba x0bbbbbbbbb _ _ x1a _ _ x1ba _ _ x1bba _ _ x1bbba _ _ x1bbbba _ _ x1bbbbba _ _ x1bbbbbba _ _ x1bbbbbbba x1bbbbbbbba x1bbbbbbbbb x2 true W hr0_0 hc0_0 hr0_1 hc0_1 hr0_2 hc0_2 hr0_3 hc0_3 hr0_4 hc0_4 hr0_5 hc0_5 hr0_6 hc0_6 hr0_7 hc0_7 hr1_0 hc1_0 hr1_1 hc1_1 hr1_2 hc1_2 hr1_3 hc1_3 hr1_4 hc1_4 hr1_5 hc1_5 hr1_6 hc1_6 hr1_7 hc1_7 hk).mono fun e W' he => ?_
  obtain ⟨he, hd⟩ := he
  have bel : Below W.heap.size W W' := hd
  subst he
  exact ⟨_, rfl, _, _, _, [], _, [], hW', trodAll_mk1 (shut_bool Try.underlying4 _), (trodAll_cons_mk (Below.trod laidOut (by kernel_rfl) (of_decide_eq_true (by kernel_rfl)) k0 bel lt0) (trodAll_cons_mk (Below.trod laidOut (by kernel_rfl) (of_decide_eq_true (by kernel_rfl)) k1 bel lt1) (trodAll_cons_mk (Below.trod laidOut (by kernel_rfl) (of_decide_eq_true (by kernel_rfl)) k2 bel lt2) trodAll_mk0))), rfl, bel.frame _, fun h => by cases h⟩
set_option maxHeartbeats 8000000 in
set_option maxRecDepth 100000 in
theorem closed_ : joinedFacts Try.pinned.checked.prog 12 Try.f12 Rows.fnExactStrictlySpec Rows.fnExactStrictlyRow = true := by
  unfold joinedFacts
  repeat' (with_reducible refine Bool.and_eq_true_iff.2 ⟨?_, ?_⟩)
  all_goals (as_aux_lemma => kernel_rfl)
theorem over : Rows.fnExactStrictlyRow.holds Try.pinned (OpenSpec.ofChange Rows.fnExactStrictlySpec) :=
  OpenClaim.holds_of_wide 12 Try.f12 rfl rfl rfl rfl rfl rfl rfl ⟨rfl, rfl, rfl, rfl, rfl⟩ rfl rfl rfl rfl rfl (by kernel_rfl) Try.func12 closed_
    (of_decide_eq_true (by kernel_rfl)) (by unfold Func.isWrapper; first | (rw [if_pos (by decide +kernel)]; kernel_rfl) | (rw [if_neg (by decide +kernel)]; exact ⟨rfl, rfl⟩))
    (fun os started H enc _ => lifted os started H enc)
theorem proved : Rows.FnExactStrictlySaid := over
#print axioms proved
end Go.Proofs.Ytpdcgnfdffbolaa.fnExactStrictly
namespace Go.Proofs.Ytpdcgnfdffbolaa
/-- The row, under a short name, for the claim. -/
theorem fnExactStrictly_holds : Rows.FnExactStrictlySaid := fnExactStrictly.proved
end Go.Proofs.Ytpdcgnfdffbolaa
