-- written by wip/tools/myprint.py out of the program's own print
import Derived.Test.YtnecbgeljanhiaaPFnExactPlanSamex0
import Derived.Test.YtnecbgeljanhiaaPFnExactPlanSamex2
import Derived.Test.YtnecbgeljanhiaaPFnExactPlanSamex4
import Derived.Test.YtnecbgeljanhiaaPFnExactPlanSamex5
import Derived.Test.YtnecbgeljanhiaaPFnExactPlanSamex7
import Derived.Test.YtnecbgeljanhiaaPFnExactPlanSamex8
namespace Go.Proofs.Ytnecbgeljanhiaa.PFnExactPlanSame
open Go.Proofs.Ytnecbgeljanhiaa.Own (rS cS bS rB rN rT kS kC kc10 kf10)
open Go.RowKit Go.Proofs.YtnecbgeljanhiaaW.PrintWords Go.Proofs.YtnecbgeljanhiaaW.PrintLast Go.Proofs.YtnecbgeljanhiaaW.PrintMore
attribute [local go_sem] max2_int min2_int max_two min_two max_three min_three max_four min_four   -- for this text's walks alone
set_option linter.unusedVariables false
set_option linter.unusedSimpArgs false

/-! ### laws_FnExactPlanSame: function 10 -/
def laws_FnExactPlanSame.f (k : Nat) (l0_0 : List Int) (l0_1 : List Int) (l0_2 : List (S98)) (l0_3 : List (S174)) (l1_0 : List Int) (l1_1 : List Int) (l1_2 : List (S98)) (l1_3 : List (S174)) : Option (Bool) := (laws_szPlan.f k l0_0 l0_1 l0_2 l0_3 1048576).bind fun t271 => (if t271 < 0 then (some true) else ((laws_szPlan.f k l1_0 l1_1 l1_2 l1_3 t271).bind fun t272 => (if t272 < 0 then (some true) else ((laws_toPlan.f k l0_0 l0_1 l0_2 l0_3).bind fun bt273 => ((laws_toPlan.f k l1_0 l1_1 l1_2 l1_3).bind fun bt285 => ((spec_PlanSame.f k bt273.1 bt273.2.1 bt273.2.2.1 bt273.2.2.2 bt285.1 bt285.2.1 bt285.2.2.1 bt285.2.2.2).bind fun t297 => ((laws_toPlan.f k l0_0 l0_1 l0_2 l0_3).bind fun bt298 => ((laws_toPlan.f k l1_0 l1_1 l1_2 l1_3).bind fun bt311 => ((impl_PlanSame.f k bt298.1 bt298.2.1 bt298.2.2.1 bt298.2.2.2 bt311.1 bt311.2.1 bt311.2.2.1 bt311.2.2.2).bind fun t324 => (if (t324 != t297) = true then (none) else ((laws_toPlan.f k l0_0 l0_1 l0_2 l0_3).bind fun bt325 => ((laws_eqPlan.f k bt298.1 bt298.2.1 bt298.2.2.1 bt298.2.2.2 bt325.1 bt325.2.1 bt325.2.2.1 bt325.2.2.2).bind fun t337 => (if t337 = true then ((laws_toPlan.f k l1_0 l1_1 l1_2 l1_3).bind fun bt338 => ((laws_eqPlan.f k bt311.1 bt311.2.1 bt311.2.2.1 bt311.2.2.2 bt338.1 bt338.2.1 bt338.2.2.1 bt338.2.2.2).bind fun t350 => (if t350 = true then (some true) else (none)))) else (none))))))))))))))
theorem laws_FnExactPlanSame.mono : ∀ a0 a1 a2 a3 a4 a5 a6 a7 k, LeO (laws_FnExactPlanSame.f k a0 a1 a2 a3 a4 a5 a6 a7) (laws_FnExactPlanSame.f (k + 1) a0 a1 a2 a3 a4 a5 a6 a7) := by
 intro a0 a1 a2 a3 a4 a5 a6 a7 k
 unfold laws_FnExactPlanSame.f
 repeat' first
   | (with_reducible exact impl_PlanSame.mono _ _ _ _ _ _ _ _ _)
   | (with_reducible exact laws_eqPlan.mono _ _ _ _ _ _ _ _ _)
   | (with_reducible exact laws_szPlan.mono _ _ _ _ _ _)
   | (with_reducible exact laws_toPlan.mono _ _ _ _ _)
   | (with_reducible exact spec_PlanSame.mono _ _ _ _ _ _ _ _ _)
   | (with_reducible exact LeO.refl _)
   | (with_reducible exact LeO.none _)
   | (with_reducible refine LeO.ite ?_ ?_)
   | (with_reducible refine LeO.bind ?_ (fun _ => ?_))
   | exact impl_PlanSame.mono _ _ _ _ _ _ _ _ _
   | exact laws_eqPlan.mono _ _ _ _ _ _ _ _ _
   | exact laws_szPlan.mono _ _ _ _ _ _
   | exact laws_toPlan.mono _ _ _ _ _
   | exact spec_PlanSame.mono _ _ _ _ _ _ _ _ _
   | exact LeO.none _
   | refine LeO.ite ?_ ?_
   | refine LeO.bind ?_ (fun _ => ?_)
set_option maxHeartbeats 8000000 in
set_option maxRecDepth 100000 in
theorem laws_FnExactPlanSame.calls (k : Nat) (A0_0 : Option Addr) (c0_0 : Nat) (l0_0 : List Int) (A0_1 : Option Addr) (c0_1 : Nat) (l0_1 : List Int) (A0_2 : Option Addr) (c0_2 : Nat) (l0_2 : List (S98)) (A0_3 : Option Addr) (c0_3 : Nat) (l0_3 : List (S174)) (A1_0 : Option Addr) (c1_0 : Nat) (l1_0 : List Int) (A1_1 : Option Addr) (c1_1 : Nat) (l1_1 : List Int) (A1_2 : Option Addr) (c1_2 : Nat) (l1_2 : List (S98)) (A1_3 : Option Addr) (c1_3 : Nat) (l1_3 : List (S174)) (r : Bool) (w : World) (hr0_0 : Kd.C (Kd.int .i64) w A0_0 l0_0.length l0_0) (hc0_0 : l0_0.length ≤ c0_0) (hr0_1 : Kd.C (Kd.int .i64) w A0_1 l0_1.length l0_1) (hc0_1 : l0_1.length ≤ c0_1) (hr0_2 : Kd.C k98 w A0_2 l0_2.length l0_2) (hc0_2 : l0_2.length ≤ c0_2) (hr0_3 : Kd.C k174 w A0_3 l0_3.length l0_3) (hc0_3 : l0_3.length ≤ c0_3) (hr1_0 : Kd.C (Kd.int .i64) w A1_0 l1_0.length l1_0) (hc1_0 : l1_0.length ≤ c1_0) (hr1_1 : Kd.C (Kd.int .i64) w A1_1 l1_1.length l1_1) (hc1_1 : l1_1.length ≤ c1_1) (hr1_2 : Kd.C k98 w A1_2 l1_2.length l1_2) (hc1_2 : l1_2.length ≤ c1_2) (hr1_3 : Kd.C k174 w A1_3 l1_3.length l1_3) (hc1_3 : l1_3.length ≤ c1_3) (h : laws_FnExactPlanSame.f k l0_0 l0_1 l0_2 l0_3 l1_0 l1_1 l1_2 l1_3 = some r) :
  Calls Try.prog 10 #[.agg #[.slice A0_0 l0_0.length c0_0, .slice A0_1 l0_1.length c0_1, .slice A0_2 l0_2.length c0_2, .slice A0_3 l0_3.length c0_3], .agg #[.slice A1_0 l1_0.length c1_0, .slice A1_1 l1_1.length c1_1, .slice A1_2 l1_2.length c1_2, .slice A1_3 l1_3.length c1_3]] w fun e w' => e = .returned (.bool r) ∧ Below w.heap.size w w' := by
 have hu64 := Try.underlying64
 have hu69 := Try.underlying69
 have HR0_0 := Aside0.mk hr0_0
 have HC0_0 := Aside0.mk hc0_0
 clear hr0_0 hc0_0
 have HR0_1 := Aside0.mk hr0_1
 have HC0_1 := Aside0.mk hc0_1
 clear hr0_1 hc0_1
 have HR0_2 := Aside0.mk hr0_2
 have HC0_2 := Aside0.mk hc0_2
 clear hr0_2 hc0_2
 have HR0_3 := Aside0.mk hr0_3
 have HC0_3 := Aside0.mk hc0_3
 clear hr0_3 hc0_3
 have HR1_0 := Aside0.mk hr1_0
 have HC1_0 := Aside0.mk hc1_0
 clear hr1_0 hc1_0
 have HR1_1 := Aside0.mk hr1_1
 have HC1_1 := Aside0.mk hc1_1
 clear hr1_1 hc1_1
 have HR1_2 := Aside0.mk hr1_2
 have HC1_2 := Aside0.mk hc1_2
 clear hr1_2 hc1_2
 have HR1_3 := Aside0.mk hr1_3
 have HC1_3 := Aside0.mk hc1_3
 clear hr1_3 hc1_3
 have HB := Aside0.mk (Below.refl w.heap.size w)
 have H : ((laws_szPlan.f k l0_0 l0_1 l0_2 l0_3 1048576).bind fun t271 => (if t271 < 0 then (some true) else ((laws_szPlan.f k l1_0 l1_1 l1_2 l1_3 t271).bind fun t272 => (if t272 < 0 then (some true) else ((laws_toPlan.f k l0_0 l0_1 l0_2 l0_3).bind fun bt273 => ((laws_toPlan.f k l1_0 l1_1 l1_2 l1_3).bind fun bt285 => ((spec_PlanSame.f k bt273.1 bt273.2.1 bt273.2.2.1 bt273.2.2.2 bt285.1 bt285.2.1 bt285.2.2.1 bt285.2.2.2).bind fun t297 => ((laws_toPlan.f k l0_0 l0_1 l0_2 l0_3).bind fun bt298 => ((laws_toPlan.f k l1_0 l1_1 l1_2 l1_3).bind fun bt311 => ((impl_PlanSame.f k bt298.1 bt298.2.1 bt298.2.2.1 bt298.2.2.2 bt311.1 bt311.2.1 bt311.2.2.1 bt311.2.2.2).bind fun t324 => (if (t324 != t297) = true then (none) else ((laws_toPlan.f k l0_0 l0_1 l0_2 l0_3).bind fun bt325 => ((laws_eqPlan.f k bt298.1 bt298.2.1 bt298.2.2.1 bt298.2.2.2 bt325.1 bt325.2.1 bt325.2.2.1 bt325.2.2.2).bind fun t337 => (if t337 = true then ((laws_toPlan.f k l1_0 l1_1 l1_2 l1_3).bind fun bt338 => ((laws_eqPlan.f k bt311.1 bt311.2.1 bt311.2.2.1 bt311.2.2.2 bt338.1 bt338.2.1 bt338.2.2.1 bt338.2.2.2).bind fun t350 => (if t350 = true then (some true) else (none)))) else (none))))))))))))))) = some r := h
 clear h
 replace H := Option.bind_eq_some_iff.mp H
 obtain ⟨t271, A30, H⟩ := H
 (try dsimp only at H)
 have A3 := Aside0.mk A30
 clear A30
 by_cases c4 : t271 < 0
 ·rw [if_pos c4] at H
  have c4b0 : decide (t271 < 0) = true := decide_eq_true c4
  clear c4
  obtain rfl := Option.some.inj H
  go_enter Try.func10, Try.ntmps10
  go_wp2_with (first | ((with_reducible refine gate_dst (N := 2) rfl ?_); refine box_event ?hg (N := 2) ?hd (cs := #[.slice A0_0 l0_0.length c0_0, .slice A0_1 l0_1.length c0_1, .slice A0_2 l0_2.length c0_2, .slice A0_3 l0_3.length c0_3]) (t := 64) ?hr ?_; (case hd => rfl); (case hg => rfl); (case hr => first | (go_simp; done) | (go_simp; rfl)); intro gb269 hg w5 hbox hb; have n0_ := Aside0.mk (below_step (bS HB.out) hb); have BK269 := Aside0.mk (hbox); have GW269 := Aside0.mk ((by rw [hg]; exact (below_size (bS HB.out)) : w.heap.size ≤ gb269)); have GE269 := Aside0.mk ((by rw [hg]; exact (below_size (bS HB.out)) : w.heap.size ≤ gb269)); clear HB; have HB := n0_; clear n0_; clear hb hbox hg) | ((with_reducible refine gate_dst (N := 3) rfl ?_); refine box_event ?hg (N := 3) ?hd (cs := #[.slice A1_0 l1_0.length c1_0, .slice A1_1 l1_1.length c1_1, .slice A1_2 l1_2.length c1_2, .slice A1_3 l1_3.length c1_3]) (t := 64) ?hr ?_; (case hd => rfl); (case hg => rfl); (case hr => first | (go_simp; done) | (go_simp; rfl)); intro gb270 hg w6 hbox hb; have n0_ := Aside0.mk (kS BK269.out hb); have n1_ := Aside0.mk (below_step (bS HB.out) hb); have BK270 := Aside0.mk (hbox); have GW270 := Aside0.mk ((by rw [hg]; exact (below_size (bS HB.out)) : w.heap.size ≤ gb270)); have GE270 := Aside0.mk ((by rw [hg]; exact (below_size (bS HB.out)) : w.heap.size ≤ gb270)); have NB269_270 := Aside0.mk ((by rw [hg]; exact Nat.ne_of_lt (blk_lt (g := gb269) (o := .cells #[.slice A0_0 l0_0.length c0_0, .slice A0_1 l0_1.length c0_1, .slice A0_2 l0_2.length c0_2, .slice A0_3 l0_3.length c0_3] 64 (0, 0)) (by (with_reducible repeat (first | refine blk_drewN ?_ _ | refine blk_drew ?_ | refine blk_alloc ?_ _)); exact BK269.out)) : gb269 ≠ gb270)); have NB270_269 := Aside0.mk ((by rw [hg]; exact Nat.ne_of_gt (blk_lt (g := gb269) (o := .cells #[.slice A0_0 l0_0.length c0_0, .slice A0_1 l0_1.length c0_1, .slice A0_2 l0_2.length c0_2, .slice A0_3 l0_3.length c0_3] 64 (0, 0)) (by (with_reducible repeat (first | refine blk_drewN ?_ _ | refine blk_drew ?_ | refine blk_alloc ?_ _)); exact BK269.out)) : gb270 ≠ gb269)); clear BK269; clear HB; have BK269 := n0_; have HB := n1_; clear n0_ n1_; clear hb hbox hg; have hnb7 := NB269_270.out; have hnc7 := NB270_269.out; have hcz8_0 : w6.cell? ⟨gb269, 0, none⟩ = some (.slice A0_0 l0_0.length c0_0) := kC BK269.out 0 rfl; have hcz8_1 : w6.cell? ⟨gb269, 1, none⟩ = some (.slice A0_1 l0_1.length c0_1) := kC BK269.out 1 rfl; have hcz8_2 : w6.cell? ⟨gb269, 2, none⟩ = some (.slice A0_2 l0_2.length c0_2) := kC BK269.out 2 rfl; have hcz8_3 : w6.cell? ⟨gb269, 3, none⟩ = some (.slice A0_3 l0_3.length c0_3) := kC BK269.out 3 rfl; have hfz8_0 := blk_frozen BK269.out 0; have hfz8_1 := blk_frozen BK269.out 1; have hfz8_2 := blk_frozen BK269.out 2; have hfz8_3 := blk_frozen BK269.out 3) | ((with_reducible refine gate_callee (f := 49) rfl ?_); refine goesL_ (some 12) rfl rfl Try.func49 (by kernel_rfl) rfl #[.agg #[.slice A0_0 l0_0.length c0_0, .slice A0_1 l0_1.length c0_1, .slice A0_2 l0_2.length c0_2, .slice A0_3 l0_3.length c0_3], .int .i64 1048576] rfl (by (try simp only [List.map_toArray, List.map_cons, List.map_nil]); first | done | rfl | (simp only [List.length_drop, List.length_take]; rfl)) ?_; (with_reducible refine (laws_szPlan.calls k _ _ l0_0 _ _ l0_1 _ _ l0_2 _ _ l0_3 1048576 t271 _ ?side1 ?side2 ?side3 ?side4 ?side5 ?side6 ?side7 ?side8 A3.out).mono ?_); (case side1 => exact cS (Kd.C_below HR0_0.out HB.out)); (case side2 => exact HC0_0.out); (case side3 => exact cS (Kd.C_below HR0_1.out HB.out)); (case side4 => exact HC0_1.out); (case side5 => exact cS (Kd.C_below HR0_2.out HB.out)); (case side6 => exact HC0_2.out); (case side7 => exact cS (Kd.C_below HR0_3.out HB.out)); (case side8 => exact HC0_3.out); rintro e w9 ⟨rfl, hb⟩; refine ⟨_, rfl, ?_⟩; replace BK269 := Aside0.mk (kS BK269.out hb); replace BK270 := Aside0.mk (kS BK270.out hb); replace HB := Aside0.mk (below_step (bS HB.out) hb); (try clear hb); (try clear hb2); (try clear hk); (try clear hi)))
  go_ret
  exact ⟨by first | rfl | (simp [errW_none, errW_some] <;> rfl) | (simp [*, errW_none, errW_some] <;> rfl), by repeat (first | (with_reducible first | exact HB.out | apply below_alloc | apply pw_below_drewN | apply below_drew1 | refine below_set ?_ GE269.out | refine below_set ?_ GE270.out) | exact HB.out)⟩
 ·rw [if_neg c4] at H
  have c4b0 : decide (t271 < 0) = false := decide_eq_false c4
  clear c4
  replace H := Option.bind_eq_some_iff.mp H
  obtain ⟨t272, A100, H⟩ := H
  (try dsimp only at H)
  have A10 := Aside0.mk A100
  clear A100
  by_cases c11 : t272 < 0
  ·rw [if_pos c11] at H
   have c11b0 : decide (t272 < 0) = true := decide_eq_true c11
   clear c11
   obtain rfl := Option.some.inj H
   go_enter Try.func10, Try.ntmps10
   go_wp2_with (first | ((with_reducible refine gate_dst (N := 2) rfl ?_); refine box_event ?hg (N := 2) ?hd (cs := #[.slice A0_0 l0_0.length c0_0, .slice A0_1 l0_1.length c0_1, .slice A0_2 l0_2.length c0_2, .slice A0_3 l0_3.length c0_3]) (t := 64) ?hr ?_; (case hd => rfl); (case hg => rfl); (case hr => first | (go_simp; done) | (go_simp; rfl)); intro gb269 hg w12 hbox hb; have n0_ := Aside0.mk (below_step (bS HB.out) hb); have BK269 := Aside0.mk (hbox); have GW269 := Aside0.mk ((by rw [hg]; exact (below_size (bS HB.out)) : w.heap.size ≤ gb269)); have GE269 := Aside0.mk ((by rw [hg]; exact (below_size (bS HB.out)) : w.heap.size ≤ gb269)); clear HB; have HB := n0_; clear n0_; clear hb hbox hg) | ((with_reducible refine gate_dst (N := 3) rfl ?_); refine box_event ?hg (N := 3) ?hd (cs := #[.slice A1_0 l1_0.length c1_0, .slice A1_1 l1_1.length c1_1, .slice A1_2 l1_2.length c1_2, .slice A1_3 l1_3.length c1_3]) (t := 64) ?hr ?_; (case hd => rfl); (case hg => rfl); (case hr => first | (go_simp; done) | (go_simp; rfl)); intro gb270 hg w13 hbox hb; have n0_ := Aside0.mk (kS BK269.out hb); have n1_ := Aside0.mk (below_step (bS HB.out) hb); have BK270 := Aside0.mk (hbox); have GW270 := Aside0.mk ((by rw [hg]; exact (below_size (bS HB.out)) : w.heap.size ≤ gb270)); have GE270 := Aside0.mk ((by rw [hg]; exact (below_size (bS HB.out)) : w.heap.size ≤ gb270)); have NB269_270 := Aside0.mk ((by rw [hg]; exact Nat.ne_of_lt (blk_lt (g := gb269) (o := .cells #[.slice A0_0 l0_0.length c0_0, .slice A0_1 l0_1.length c0_1, .slice A0_2 l0_2.length c0_2, .slice A0_3 l0_3.length c0_3] 64 (0, 0)) (by (with_reducible repeat (first | refine blk_drewN ?_ _ | refine blk_drew ?_ | refine blk_alloc ?_ _)); exact BK269.out)) : gb269 ≠ gb270)); have NB270_269 := Aside0.mk ((by rw [hg]; exact Nat.ne_of_gt (blk_lt (g := gb269) (o := .cells #[.slice A0_0 l0_0.length c0_0, .slice A0_1 l0_1.length c0_1, .slice A0_2 l0_2.length c0_2, .slice A0_3 l0_3.length c0_3] 64 (0, 0)) (by (with_reducible repeat (first | refine blk_drewN ?_ _ | refine blk_drew ?_ | refine blk_alloc ?_ _)); exact BK269.out)) : gb270 ≠ gb269)); clear BK269; clear HB; have BK269 := n0_; have HB := n1_; clear n0_ n1_; clear hb hbox hg; have hnb14 := NB269_270.out; have hnc14 := NB270_269.out; have hcz15_0 : w13.cell? ⟨gb269, 0, none⟩ = some (.slice A0_0 l0_0.length c0_0) := kC BK269.out 0 rfl; have hcz15_1 : w13.cell? ⟨gb269, 1, none⟩ = some (.slice A0_1 l0_1.length c0_1) := kC BK269.out 1 rfl; have hcz15_2 : w13.cell? ⟨gb269, 2, none⟩ = some (.slice A0_2 l0_2.length c0_2) := kC BK269.out 2 rfl; have hcz15_3 : w13.cell? ⟨gb269, 3, none⟩ = some (.slice A0_3 l0_3.length c0_3) := kC BK269.out 3 rfl; have hfz15_0 := blk_frozen BK269.out 0; have hfz15_1 := blk_frozen BK269.out 1; have hfz15_2 := blk_frozen BK269.out 2; have hfz15_3 := blk_frozen BK269.out 3) | ((with_reducible refine gate_callee (f := 49) rfl ?_); refine goesL_ (some 12) rfl rfl Try.func49 (by kernel_rfl) rfl #[.agg #[.slice A0_0 l0_0.length c0_0, .slice A0_1 l0_1.length c0_1, .slice A0_2 l0_2.length c0_2, .slice A0_3 l0_3.length c0_3], .int .i64 1048576] rfl (by (try simp only [List.map_toArray, List.map_cons, List.map_nil]); first | done | rfl | (simp only [List.length_drop, List.length_take]; rfl)) ?_; (with_reducible refine (laws_szPlan.calls k _ _ l0_0 _ _ l0_1 _ _ l0_2 _ _ l0_3 1048576 t271 _ ?side1 ?side2 ?side3 ?side4 ?side5 ?side6 ?side7 ?side8 A3.out).mono ?_); (case side1 => exact cS (Kd.C_below HR0_0.out HB.out)); (case side2 => exact HC0_0.out); (case side3 => exact cS (Kd.C_below HR0_1.out HB.out)); (case side4 => exact HC0_1.out); (case side5 => exact cS (Kd.C_below HR0_2.out HB.out)); (case side6 => exact HC0_2.out); (case side7 => exact cS (Kd.C_below HR0_3.out HB.out)); (case side8 => exact HC0_3.out); rintro e w16 ⟨rfl, hb⟩; refine ⟨_, rfl, ?_⟩; replace BK269 := Aside0.mk (kS BK269.out hb); replace BK270 := Aside0.mk (kS BK270.out hb); replace HB := Aside0.mk (below_step (bS HB.out) hb); (try clear hb); (try clear hb2); (try clear hk); (try clear hi); have hcz17_0 : w16.cell? ⟨gb270, 0, none⟩ = some (.slice A1_0 l1_0.length c1_0) := kC BK270.out 0 rfl; have hcz17_1 : w16.cell? ⟨gb270, 1, none⟩ = some (.slice A1_1 l1_1.length c1_1) := kC BK270.out 1 rfl; have hcz17_2 : w16.cell? ⟨gb270, 2, none⟩ = some (.slice A1_2 l1_2.length c1_2) := kC BK270.out 2 rfl; have hcz17_3 : w16.cell? ⟨gb270, 3, none⟩ = some (.slice A1_3 l1_3.length c1_3) := kC BK270.out 3 rfl; have hfz17_0 := blk_frozen BK270.out 0; have hfz17_1 := blk_frozen BK270.out 1; have hfz17_2 := blk_frozen BK270.out 2; have hfz17_3 := blk_frozen BK270.out 3) | ((with_reducible refine gate_callee (f := 49) rfl ?_); refine goesL_ (some 17) rfl rfl Try.func49 (by kernel_rfl) rfl #[.agg #[.slice A1_0 l1_0.length c1_0, .slice A1_1 l1_1.length c1_1, .slice A1_2 l1_2.length c1_2, .slice A1_3 l1_3.length c1_3], .int .i64 t271] rfl (by (try simp only [List.map_toArray, List.map_cons, List.map_nil]); first | done | rfl | (simp only [List.length_drop, List.length_take]; rfl)) ?_; (with_reducible refine (laws_szPlan.calls k _ _ l1_0 _ _ l1_1 _ _ l1_2 _ _ l1_3 t271 t272 _ ?side1 ?side2 ?side3 ?side4 ?side5 ?side6 ?side7 ?side8 A10.out).mono ?_); (case side1 => exact cS (Kd.C_below HR1_0.out HB.out)); (case side2 => exact HC1_0.out); (case side3 => exact cS (Kd.C_below HR1_1.out HB.out)); (case side4 => exact HC1_1.out); (case side5 => exact cS (Kd.C_below HR1_2.out HB.out)); (case side6 => exact HC1_2.out); (case side7 => exact cS (Kd.C_below HR1_3.out HB.out)); (case side8 => exact HC1_3.out); rintro e w18 ⟨rfl, hb⟩; refine ⟨_, rfl, ?_⟩; replace BK269 := Aside0.mk (kS BK269.out hb); replace BK270 := Aside0.mk (kS BK270.out hb); replace HB := Aside0.mk (below_step (bS HB.out) hb); (try clear hb); (try clear hb2); (try clear hk); (try clear hi)))
   go_ret
   exact ⟨by first | rfl | (simp [errW_none, errW_some] <;> rfl) | (simp [*, errW_none, errW_some] <;> rfl), by repeat (first | (with_reducible first | exact HB.out | apply below_alloc | apply pw_below_drewN | apply below_drew1 | refine below_set ?_ GE269.out | refine below_set ?_ GE270.out) | exact HB.out)⟩
  ·rw [if_neg c11] at H
   have c11b0 : decide (t272 < 0) = false := decide_eq_false c11
   clear c11
   replace H := Option.bind_eq_some_iff.mp H
   obtain ⟨⟨t273, t276, t279, t282⟩, A190, H⟩ := H
   (try dsimp only at H)
   have A19 := Aside0.mk A190
   clear A190
   replace H := Option.bind_eq_some_iff.mp H
   obtain ⟨⟨t285, t288, t291, t294⟩, A200, H⟩ := H
   (try dsimp only at H)
   have A20 := Aside0.mk A200
   clear A200
   replace H := Option.bind_eq_some_iff.mp H
   obtain ⟨t297, A210, H⟩ := H
   (try dsimp only at H)
   have A21 := Aside0.mk A210
   clear A210
   replace H := Option.bind_eq_some_iff.mp H
   obtain ⟨⟨t298, t301, t304, t307⟩, A220, H⟩ := H
   (try dsimp only at H)
   have A22 := Aside0.mk A220
   clear A220
   replace H := Option.bind_eq_some_iff.mp H
   obtain ⟨⟨t311, t314, t317, t320⟩, A230, H⟩ := H
   (try dsimp only at H)
   have A23 := Aside0.mk A230
   clear A230
   replace H := Option.bind_eq_some_iff.mp H
   obtain ⟨t324, A240, H⟩ := H
   (try dsimp only at H)
   have A24 := Aside0.mk A240
   clear A240
   by_cases c25 : (t324 != t297) = true
   ·rw [if_pos c25] at H
    exact absurd H (by simp)
   ·rw [if_neg c25] at H
    have c25b0 : (t324 != t297) = false := by simpa using c25
    (try (have c25b1 : decide (t324 = t297) = true := by simpa using c25))
    (try (have c25b2 : (t324 == t297) = true := by simpa using c25))
    clear c25
    replace H := Option.bind_eq_some_iff.mp H
    obtain ⟨⟨t325, t328, t331, t334⟩, A260, H⟩ := H
    (try dsimp only at H)
    have A26 := Aside0.mk A260
    clear A260
    replace H := Option.bind_eq_some_iff.mp H
    obtain ⟨t337, A270, H⟩ := H
    (try dsimp only at H)
    have A27 := Aside0.mk A270
    clear A270
    by_cases c28 : t337 = true
    ·subst c28
     have H1 : ((laws_toPlan.f k l1_0 l1_1 l1_2 l1_3).bind fun bt338 => ((laws_eqPlan.f k t311 t314 t317 t320 bt338.1 bt338.2.1 bt338.2.2.1 bt338.2.2.2).bind fun t350 => (if t350 = true then (some true) else (none)))) = some r := by rw [if_pos rfl] at H; exact H
     clear H
     have H := H1
     clear H1
     replace H := Option.bind_eq_some_iff.mp H
     obtain ⟨⟨t338, t341, t344, t347⟩, A290, H⟩ := H
     (try dsimp only at H)
     have A29 := Aside0.mk A290
     clear A290
     replace H := Option.bind_eq_some_iff.mp H
     obtain ⟨t350, A300, H⟩ := H
     (try dsimp only at H)
     have A30 := Aside0.mk A300
     clear A300
     by_cases c31 : t350 = true
     ·subst c31
      have H1 : (some true) = some r := by rw [if_pos rfl] at H; exact H
      clear H
      have H := H1
      clear H1
      obtain rfl := Option.some.inj H
      go_enter Try.func10, Try.ntmps10
      try go_wp2_with (first | ((with_reducible refine gate_dst (N := 2) rfl ?_); refine box_event ?hg (N := 2) ?hd (cs := #[.slice A0_0 l0_0.length c0_0, .slice A0_1 l0_1.length c0_1, .slice A0_2 l0_2.length c0_2, .slice A0_3 l0_3.length c0_3]) (t := 64) ?hr ?_; (case hd => rfl); (case hg => rfl); (case hr => first | (go_simp; done) | (go_simp; rfl)); intro gb269 hg w32 hbox hb; have n0_ := Aside0.mk (below_step (bS HB.out) hb); have BK269 := Aside0.mk (hbox); have GW269 := Aside0.mk ((by rw [hg]; exact (below_size (bS HB.out)) : w.heap.size ≤ gb269)); have GE269 := Aside0.mk ((by rw [hg]; exact (below_size (bS HB.out)) : w.heap.size ≤ gb269)); clear HB; have HB := n0_; clear n0_; clear hb hbox hg) | ((with_reducible refine gate_dst (N := 3) rfl ?_); refine box_event ?hg (N := 3) ?hd (cs := #[.slice A1_0 l1_0.length c1_0, .slice A1_1 l1_1.length c1_1, .slice A1_2 l1_2.length c1_2, .slice A1_3 l1_3.length c1_3]) (t := 64) ?hr ?_; (case hd => rfl); (case hg => rfl); (case hr => first | (go_simp; done) | (go_simp; rfl)); intro gb270 hg w33 hbox hb; have n0_ := Aside0.mk (kS BK269.out hb); have n1_ := Aside0.mk (below_step (bS HB.out) hb); have BK270 := Aside0.mk (hbox); have GW270 := Aside0.mk ((by rw [hg]; exact (below_size (bS HB.out)) : w.heap.size ≤ gb270)); have GE270 := Aside0.mk ((by rw [hg]; exact (below_size (bS HB.out)) : w.heap.size ≤ gb270)); have NB269_270 := Aside0.mk ((by rw [hg]; exact Nat.ne_of_lt (blk_lt (g := gb269) (o := .cells #[.slice A0_0 l0_0.length c0_0, .slice A0_1 l0_1.length c0_1, .slice A0_2 l0_2.length c0_2, .slice A0_3 l0_3.length c0_3] 64 (0, 0)) (by (with_reducible repeat (first | refine blk_drewN ?_ _ | refine blk_drew ?_ | refine blk_alloc ?_ _)); exact BK269.out)) : gb269 ≠ gb270)); have NB270_269 := Aside0.mk ((by rw [hg]; exact Nat.ne_of_gt (blk_lt (g := gb269) (o := .cells #[.slice A0_0 l0_0.length c0_0, .slice A0_1 l0_1.length c0_1, .slice A0_2 l0_2.length c0_2, .slice A0_3 l0_3.length c0_3] 64 (0, 0)) (by (with_reducible repeat (first | refine blk_drewN ?_ _ | refine blk_drew ?_ | refine blk_alloc ?_ _)); exact BK269.out)) : gb270 ≠ gb269)); clear BK269; clear HB; have BK269 := n0_; have HB := n1_; clear n0_ n1_; clear hb hbox hg; have hnb34 := NB269_270.out; have hnc34 := NB270_269.out; have hcz35_0 : w33.cell? ⟨gb269, 0, none⟩ = some (.slice A0_0 l0_0.length c0_0) := kC BK269.out 0 rfl; have hcz35_1 : w33.cell? ⟨gb269, 1, none⟩ = some (.slice A0_1 l0_1.length c0_1) := kC BK269.out 1 rfl; have hcz35_2 : w33.cell? ⟨gb269, 2, none⟩ = some (.slice A0_2 l0_2.length c0_2) := kC BK269.out 2 rfl; have hcz35_3 : w33.cell? ⟨gb269, 3, none⟩ = some (.slice A0_3 l0_3.length c0_3) := kC BK269.out 3 rfl; have hfz35_0 := blk_frozen BK269.out 0; have hfz35_1 := blk_frozen BK269.out 1; have hfz35_2 := blk_frozen BK269.out 2; have hfz35_3 := blk_frozen BK269.out 3) | ((with_reducible refine gate_callee (f := 49) rfl ?_); refine goesL_ (some 12) rfl rfl Try.func49 (by kernel_rfl) rfl #[.agg #[.slice A0_0 l0_0.length c0_0, .slice A0_1 l0_1.length c0_1, .slice A0_2 l0_2.length c0_2, .slice A0_3 l0_3.length c0_3], .int .i64 1048576] rfl (by (try simp only [List.map_toArray, List.map_cons, List.map_nil]); first | done | rfl | (simp only [List.length_drop, List.length_take]; rfl)) ?_; (with_reducible refine (laws_szPlan.calls k _ _ l0_0 _ _ l0_1 _ _ l0_2 _ _ l0_3 1048576 t271 _ ?side1 ?side2 ?side3 ?side4 ?side5 ?side6 ?side7 ?side8 A3.out).mono ?_); (case side1 => exact cS (Kd.C_below HR0_0.out HB.out)); (case side2 => exact HC0_0.out); (case side3 => exact cS (Kd.C_below HR0_1.out HB.out)); (case side4 => exact HC0_1.out); (case side5 => exact cS (Kd.C_below HR0_2.out HB.out)); (case side6 => exact HC0_2.out); (case side7 => exact cS (Kd.C_below HR0_3.out HB.out)); (case side8 => exact HC0_3.out); rintro e w36 ⟨rfl, hb⟩; refine ⟨_, rfl, ?_⟩; replace BK269 := Aside0.mk (kS BK269.out hb); replace BK270 := Aside0.mk (kS BK270.out hb); replace HB := Aside0.mk (below_step (bS HB.out) hb); (try clear hb); (try clear hb2); (try clear hk); (try clear hi); have hcz37_0 : w36.cell? ⟨gb270, 0, none⟩ = some (.slice A1_0 l1_0.length c1_0) := kC BK270.out 0 rfl; have hcz37_1 : w36.cell? ⟨gb270, 1, none⟩ = some (.slice A1_1 l1_1.length c1_1) := kC BK270.out 1 rfl; have hcz37_2 : w36.cell? ⟨gb270, 2, none⟩ = some (.slice A1_2 l1_2.length c1_2) := kC BK270.out 2 rfl; have hcz37_3 : w36.cell? ⟨gb270, 3, none⟩ = some (.slice A1_3 l1_3.length c1_3) := kC BK270.out 3 rfl; have hfz37_0 := blk_frozen BK270.out 0; have hfz37_1 := blk_frozen BK270.out 1; have hfz37_2 := blk_frozen BK270.out 2; have hfz37_3 := blk_frozen BK270.out 3) | ((with_reducible refine gate_callee (f := 49) rfl ?_); refine goesL_ (some 17) rfl rfl Try.func49 (by kernel_rfl) rfl #[.agg #[.slice A1_0 l1_0.length c1_0, .slice A1_1 l1_1.length c1_1, .slice A1_2 l1_2.length c1_2, .slice A1_3 l1_3.length c1_3], .int .i64 t271] rfl (by (try simp only [List.map_toArray, List.map_cons, List.map_nil]); first | done | rfl | (simp only [List.length_drop, List.length_take]; rfl)) ?_; (with_reducible refine (laws_szPlan.calls k _ _ l1_0 _ _ l1_1 _ _ l1_2 _ _ l1_3 t271 t272 _ ?side1 ?side2 ?side3 ?side4 ?side5 ?side6 ?side7 ?side8 A10.out).mono ?_); (case side1 => exact cS (Kd.C_below HR1_0.out HB.out)); (case side2 => exact HC1_0.out); (case side3 => exact cS (Kd.C_below HR1_1.out HB.out)); (case side4 => exact HC1_1.out); (case side5 => exact cS (Kd.C_below HR1_2.out HB.out)); (case side6 => exact HC1_2.out); (case side7 => exact cS (Kd.C_below HR1_3.out HB.out)); (case side8 => exact HC1_3.out); rintro e w38 ⟨rfl, hb⟩; refine ⟨_, rfl, ?_⟩; replace BK269 := Aside0.mk (kS BK269.out hb); replace BK270 := Aside0.mk (kS BK270.out hb); replace HB := Aside0.mk (below_step (bS HB.out) hb); (try clear hb); (try clear hb2); (try clear hk); (try clear hi)))
      replace BK269 := Aside0.mk (blk_drew BK269.out)
      replace BK270 := Aside0.mk (blk_drew BK270.out)
      replace HB := Aside0.mk (below_drew1 HB.out)
      refine start_ (n := 6) (S := fun w' => w'.cell? ⟨gb269, 0, none⟩ = some (.slice A0_0 l0_0.length c0_0) ∧ w'.cell? ⟨gb269, 1, none⟩ = some (.slice A0_1 l0_1.length c0_1) ∧ w'.cell? ⟨gb269, 2, none⟩ = some (.slice A0_2 l0_2.length c0_2) ∧ w'.cell? ⟨gb269, 3, none⟩ = some (.slice A0_3 l0_3.length c0_3) ∧ w'.cell? ⟨gb270, 0, none⟩ = some (.slice A1_0 l1_0.length c1_0) ∧ w'.cell? ⟨gb270, 1, none⟩ = some (.slice A1_1 l1_1.length c1_1) ∧ w'.cell? ⟨gb270, 2, none⟩ = some (.slice A1_2 l1_2.length c1_2) ∧ w'.cell? ⟨gb270, 3, none⟩ = some (.slice A1_3 l1_3.length c1_3)) (ds := []) #[false, false, false, false, false, false] (by kernel_rfl) rfl rfl ⟨kC BK269.out 0 rfl, kC BK269.out 1 rfl, kC BK269.out 2 rfl, kC BK269.out 3 rfl, kC BK270.out 0 rfl, kC BK270.out 1 rfl, kC BK270.out 2 rfl, kC BK270.out 3 rfl⟩ (fun hHeld => ?_)
      generalize w38.drew = w39 at BK269 BK270 HB hHeld ⊢
      refine take_ (i := 0) (N := some 20) (v := ?_) (a' := ?_) #[true, false, false, false, false, false] rfl rfl (by kernel_rfl) (fun _ _ _ h => h) (Or.inl ⟨by rfl, ?_⟩) hHeld ?_ ?_
      rotate_left
      ·rintro w' ⟨s0, s1, s2, s3, s4, s5, s6, s7⟩
       go_simp
       with_reducible rfl
      rotate_left
      ·simp only [Act.put, List.setIfInBounds_toArray, List.set_cons_zero, List.set_cons_succ, i64_w, i32_w]
       rfl
      refine take_ (i := 2) (N := some 22) (v := ?_) (a' := ?_) #[true, false, true, false, false, false] rfl rfl (by kernel_rfl) (fun _ _ _ h => h) (Or.inl ⟨by rfl, ?_⟩) hHeld ?_ ?_
      rotate_left
      ·rintro w' ⟨s0, s1, s2, s3, s4, s5, s6, s7⟩
       go_simp
       with_reducible rfl
      rotate_left
      ·simp only [Act.put, List.setIfInBounds_toArray, List.set_cons_zero, List.set_cons_succ, i64_w, i32_w]
       rfl
      refine one_ (i := 1) (N := some 21) #[true, true, true, false, false, false] rfl rfl (by kernel_rfl) (by decide) (fun K hK => ?_)
      refine goes_ Try.func51 (by kernel_rfl) rfl #[.agg #[.slice A0_0 l0_0.length c0_0, .slice A0_1 l0_1.length c0_1, .slice A0_2 l0_2.length c0_2, .slice A0_3 l0_3.length c0_3]] (by rfl) rfl rfl (by (try simp only [List.map_toArray, List.map_cons, List.map_nil]); first | done | rfl | (simp only [List.length_drop, List.length_take]; rfl)) ?_
      with_reducible refine (laws_toPlan.calls k _ _ l0_0 _ _ l0_1 _ _ l0_2 _ _ l0_3 t273 t276 t279 t282 _ ?side1 ?side2 ?side3 ?side4 ?side5 ?side6 ?side7 ?side8 A19.out).mono ?_
      (case side1 => exact cS (Kd.C_below HR0_0.out HB.out))
      (case side2 => exact HC0_0.out)
      (case side3 => exact cS (Kd.C_below HR0_1.out HB.out))
      (case side4 => exact HC0_1.out)
      (case side5 => exact cS (Kd.C_below HR0_2.out HB.out))
      (case side6 => exact HC0_2.out)
      (case side7 => exact cS (Kd.C_below HR0_3.out HB.out))
      (case side8 => exact HC0_3.out)
      rintro e w40 ⟨v274, v277, v280, v283, rfl, ho0, ho1, ho2, ho3, hb⟩
      refine ⟨_, rfl, ?_⟩
      have HO275 := Aside0.mk (Kd.R_lower ho0 (below_size (bS HB.out)))
      have HO278 := Aside0.mk (Kd.R_lower ho1 (below_size (bS HB.out)))
      have HO281 := Aside0.mk (Kd.R_lower ho2 (below_size (bS HB.out)))
      have HO284 := Aside0.mk (Kd.S_lower ho3 (below_size (bS HB.out)))
      replace BK269 := Aside0.mk (kS BK269.out hb)
      replace BK270 := Aside0.mk (kS BK270.out hb)
      replace HB := Aside0.mk (below_step (bS HB.out) hb)
      (try clear hb)
      (try clear hb2)
      (try clear hk)
      (try clear hi)
      (try clear ho0)
      (try clear ho1)
      (try clear ho2)
      (try clear ho3)
      refine hK.out _ _ ⟨kC BK269.out 0 rfl, kC BK269.out 1 rfl, kC BK269.out 2 rfl, kC BK269.out 3 rfl, kC BK270.out 0 rfl, kC BK270.out 1 rfl, kC BK270.out 2 rfl, kC BK270.out 3 rfl⟩ (fun hHeld => ?_)
      clear hK K
      refine norm_ (a' := ?_) ?_ ?_
      rotate_left
      ·show Act.put _ (some 21) _ = _
       simp only [Act.put, List.setIfInBounds_toArray, List.set_cons_zero, List.set_cons_succ, i64_w, i32_w]
       rfl
      refine one_ (i := 3) (N := some 23) #[true, true, true, true, false, false] rfl rfl (by kernel_rfl) (by decide) (fun K hK => ?_)
      refine goes_ Try.func51 (by kernel_rfl) rfl #[.agg #[.slice A1_0 l1_0.length c1_0, .slice A1_1 l1_1.length c1_1, .slice A1_2 l1_2.length c1_2, .slice A1_3 l1_3.length c1_3]] (by rfl) rfl rfl (by (try simp only [List.map_toArray, List.map_cons, List.map_nil]); first | done | rfl | (simp only [List.length_drop, List.length_take]; rfl)) ?_
      with_reducible refine (laws_toPlan.calls k _ _ l1_0 _ _ l1_1 _ _ l1_2 _ _ l1_3 t285 t288 t291 t294 _ ?side1 ?side2 ?side3 ?side4 ?side5 ?side6 ?side7 ?side8 A20.out).mono ?_
      (case side1 => exact cS (Kd.C_below HR1_0.out HB.out))
      (case side2 => exact HC1_0.out)
      (case side3 => exact cS (Kd.C_below HR1_1.out HB.out))
      (case side4 => exact HC1_1.out)
      (case side5 => exact cS (Kd.C_below HR1_2.out HB.out))
      (case side6 => exact HC1_2.out)
      (case side7 => exact cS (Kd.C_below HR1_3.out HB.out))
      (case side8 => exact HC1_3.out)
      rintro e w41 ⟨v286, v289, v292, v295, rfl, ho0, ho1, ho2, ho3, hb⟩
      refine ⟨_, rfl, ?_⟩
      replace HO275 := Aside0.mk (Kd.R_below (rS HO275.out) hb)
      replace HO278 := Aside0.mk (Kd.R_below (rS HO278.out) hb)
      replace HO281 := Aside0.mk (Kd.R_below (rS HO281.out) hb)
      replace HO284 := Aside0.mk (Kd.S_below (by (with_reducible repeat (first | apply Kd.S_alloc | apply Kd.S_drewN | apply Kd.S_drew)); exact HO284.out) hb)
      have HO287 := Aside0.mk (Kd.R_lower ho0 (below_size (bS HB.out)))
      have HO290 := Aside0.mk (Kd.R_lower ho1 (below_size (bS HB.out)))
      have HO293 := Aside0.mk (Kd.R_lower ho2 (below_size (bS HB.out)))
      have HO296 := Aside0.mk (Kd.S_lower ho3 (below_size (bS HB.out)))
      replace BK269 := Aside0.mk (kS BK269.out hb)
      replace BK270 := Aside0.mk (kS BK270.out hb)
      replace HB := Aside0.mk (below_step (bS HB.out) hb)
      (try clear hb)
      (try clear hb2)
      (try clear hk)
      (try clear hi)
      (try clear ho0)
      (try clear ho1)
      (try clear ho2)
      (try clear ho3)
      obtain ⟨Ao42, co42, eo42⟩ := Kd.R_slice HO275.out
      (first | subst eo42 | (injection eo42 with f1_ f2_ f3_; have f4_ := f1_.symm; have f5_ := f3_.symm; clear f1_ f2_ f3_; subst f4_; subst f5_))
      obtain ⟨Ao43, co43, eo43⟩ := Kd.R_slice HO278.out
      (first | subst eo43 | (injection eo43 with f1_ f2_ f3_; have f4_ := f1_.symm; have f5_ := f3_.symm; clear f1_ f2_ f3_; subst f4_; subst f5_))
      obtain ⟨Ao44, co44, eo44⟩ := Kd.R_slice HO281.out
      (first | subst eo44 | (injection eo44 with f1_ f2_ f3_; have f4_ := f1_.symm; have f5_ := f3_.symm; clear f1_ f2_ f3_; subst f4_; subst f5_))
      obtain ⟨Ao45, co45, eo45⟩ := Kd.S_slice HO284.out
      (first | subst eo45 | (injection eo45 with f1_ f2_ f3_; have f4_ := f1_.symm; have f5_ := f3_.symm; clear f1_ f2_ f3_; subst f4_; subst f5_))
      obtain ⟨Ao46, co46, eo46⟩ := Kd.R_slice HO287.out
      (first | subst eo46 | (injection eo46 with f1_ f2_ f3_; have f4_ := f1_.symm; have f5_ := f3_.symm; clear f1_ f2_ f3_; subst f4_; subst f5_))
      obtain ⟨Ao47, co47, eo47⟩ := Kd.R_slice HO290.out
      (first | subst eo47 | (injection eo47 with f1_ f2_ f3_; have f4_ := f1_.symm; have f5_ := f3_.symm; clear f1_ f2_ f3_; subst f4_; subst f5_))
      obtain ⟨Ao48, co48, eo48⟩ := Kd.R_slice HO293.out
      (first | subst eo48 | (injection eo48 with f1_ f2_ f3_; have f4_ := f1_.symm; have f5_ := f3_.symm; clear f1_ f2_ f3_; subst f4_; subst f5_))
      obtain ⟨Ao49, co49, eo49⟩ := Kd.S_slice HO296.out
      (first | subst eo49 | (injection eo49 with f1_ f2_ f3_; have f4_ := f1_.symm; have f5_ := f3_.symm; clear f1_ f2_ f3_; subst f4_; subst f5_))
      refine hK.out _ _ ⟨kC BK269.out 0 rfl, kC BK269.out 1 rfl, kC BK269.out 2 rfl, kC BK269.out 3 rfl, kC BK270.out 0 rfl, kC BK270.out 1 rfl, kC BK270.out 2 rfl, kC BK270.out 3 rfl⟩ (fun hHeld => ?_)
      clear hK K
      refine norm_ (a' := ?_) ?_ ?_
      rotate_left
      ·show Act.put _ (some 23) _ = _
       simp only [Act.put, List.setIfInBounds_toArray, List.set_cons_zero, List.set_cons_succ, i64_w, i32_w]
       rfl
      refine one_ (i := 4) (N := some 24) #[true, true, true, true, true, false] rfl rfl (by kernel_rfl) (by decide) (fun K hK => ?_)
      refine goes_ Try.func50 (by kernel_rfl) rfl #[.agg #[.slice Ao42 t273.length co42, .slice Ao43 t276.length co43, .slice Ao44 t279.length co44, .slice Ao45 t282.length co45], .agg #[.slice Ao46 t285.length co46, .slice Ao47 t288.length co47, .slice Ao48 t291.length co48, .slice Ao49 t294.length co49]] (by rfl) rfl rfl (by (try simp only [List.map_toArray, List.map_cons, List.map_nil]); first | done | rfl | (simp only [List.length_drop, List.length_take]; rfl)) ?_
      with_reducible refine (spec_PlanSame.calls k _ _ t273 _ _ t276 _ _ t279 _ _ t282 _ _ t285 _ _ t288 _ _ t291 _ _ t294 t297 _ ?side1 ?side2 ?side3 ?side4 ?side5 ?side6 ?side7 ?side8 ?side9 ?side10 ?side11 ?side12 ?side13 ?side14 ?side15 ?side16 A21.out).mono ?_
      (case side1 => exact cS (Kd.R_reads' HO275.out).2.2)
      (case side2 => exact (Kd.R_reads' HO275.out).2.1)
      (case side3 => exact cS (Kd.R_reads' HO278.out).2.2)
      (case side4 => exact (Kd.R_reads' HO278.out).2.1)
      (case side5 => exact cS (Kd.R_reads' HO281.out).2.2)
      (case side6 => exact (Kd.R_reads' HO281.out).2.1)
      (case side7 => repeat (first | exact (Kd.S_reads' HO284.out).2.2 | (with_reducible refine Kd.C_alloc ?_ _) | (with_reducible refine Kd.C_drewN ?_ _) | (with_reducible refine Kd.C_drew ?_)))
      (case side8 => exact (Kd.S_reads' HO284.out).2.1)
      (case side9 => exact cS (Kd.R_reads' HO287.out).2.2)
      (case side10 => exact (Kd.R_reads' HO287.out).2.1)
      (case side11 => exact cS (Kd.R_reads' HO290.out).2.2)
      (case side12 => exact (Kd.R_reads' HO290.out).2.1)
      (case side13 => exact cS (Kd.R_reads' HO293.out).2.2)
      (case side14 => exact (Kd.R_reads' HO293.out).2.1)
      (case side15 => repeat (first | exact (Kd.S_reads' HO296.out).2.2 | (with_reducible refine Kd.C_alloc ?_ _) | (with_reducible refine Kd.C_drewN ?_ _) | (with_reducible refine Kd.C_drew ?_)))
      (case side16 => exact (Kd.S_reads' HO296.out).2.1)
      rintro e w50 ⟨rfl, hb⟩
      refine ⟨_, rfl, ?_⟩
      replace HO275 := Aside0.mk (Kd.R_below (rS HO275.out) hb)
      replace HO278 := Aside0.mk (Kd.R_below (rS HO278.out) hb)
      replace HO281 := Aside0.mk (Kd.R_below (rS HO281.out) hb)
      replace HO284 := Aside0.mk (Kd.S_below (by (with_reducible repeat (first | apply Kd.S_alloc | apply Kd.S_drewN | apply Kd.S_drew)); exact HO284.out) hb)
      replace HO287 := Aside0.mk (Kd.R_below (rS HO287.out) hb)
      replace HO290 := Aside0.mk (Kd.R_below (rS HO290.out) hb)
      replace HO293 := Aside0.mk (Kd.R_below (rS HO293.out) hb)
      replace HO296 := Aside0.mk (Kd.S_below (by (with_reducible repeat (first | apply Kd.S_alloc | apply Kd.S_drewN | apply Kd.S_drew)); exact HO296.out) hb)
      replace BK269 := Aside0.mk (kS BK269.out hb)
      replace BK270 := Aside0.mk (kS BK270.out hb)
      replace HB := Aside0.mk (below_step (bS HB.out) hb)
      (try clear hb)
      (try clear hb2)
      (try clear hk)
      (try clear hi)
      refine hK.out _ _ ⟨kC BK269.out 0 rfl, kC BK269.out 1 rfl, kC BK269.out 2 rfl, kC BK269.out 3 rfl, kC BK270.out 0 rfl, kC BK270.out 1 rfl, kC BK270.out 2 rfl, kC BK270.out 3 rfl⟩ (fun hHeld => ?_)
      clear hK K
      refine norm_ (a' := ?_) ?_ ?_
      rotate_left
      ·show Act.put _ (some 24) _ = _
       simp only [Act.put, List.setIfInBounds_toArray, List.set_cons_zero, List.set_cons_succ, i64_w, i32_w]
       rfl
      refine pure_ (i := 5) (N := some 6) (v := ?_) (a' := ?_) #[true, true, true, true, true, true] rfl rfl (by kernel_rfl) (fun _ _ _ h => h) (Or.inl ⟨by rfl, ?_⟩) ?_ ?_
      rotate_left
      ·intro w'
       go_simp
       with_reducible rfl
      rotate_left
      ·simp only [Act.put, List.setIfInBounds_toArray, List.set_cons_zero, List.set_cons_succ, i64_w, i32_w]
       rfl
      refine done_ (by kernel_rfl) ?_
      have hcz51_0 : w50.cell? ⟨gb269, 0, none⟩ = some (.slice A0_0 l0_0.length c0_0) := kC BK269.out 0 rfl
      have hcz51_1 : w50.cell? ⟨gb269, 1, none⟩ = some (.slice A0_1 l0_1.length c0_1) := kC BK269.out 1 rfl
      have hcz51_2 : w50.cell? ⟨gb269, 2, none⟩ = some (.slice A0_2 l0_2.length c0_2) := kC BK269.out 2 rfl
      have hcz51_3 : w50.cell? ⟨gb269, 3, none⟩ = some (.slice A0_3 l0_3.length c0_3) := kC BK269.out 3 rfl
      have hfz51_0 := blk_frozen BK269.out 0
      have hfz51_1 := blk_frozen BK269.out 1
      have hfz51_2 := blk_frozen BK269.out 2
      have hfz51_3 := blk_frozen BK269.out 3
      try go_wp2_with (first | ((with_reducible refine gate_callee (f := 51) rfl ?_); refine goesL_ (some 26) rfl rfl Try.func51 (by kernel_rfl) rfl #[.agg #[.slice A0_0 l0_0.length c0_0, .slice A0_1 l0_1.length c0_1, .slice A0_2 l0_2.length c0_2, .slice A0_3 l0_3.length c0_3]] rfl (by (try simp only [List.map_toArray, List.map_cons, List.map_nil]); first | done | rfl | (simp only [List.length_drop, List.length_take]; rfl)) ?_; (with_reducible refine (laws_toPlan.calls k _ _ l0_0 _ _ l0_1 _ _ l0_2 _ _ l0_3 t298 t301 t304 t307 _ ?side1 ?side2 ?side3 ?side4 ?side5 ?side6 ?side7 ?side8 A22.out).mono ?_); (case side1 => exact cS (Kd.C_below HR0_0.out HB.out)); (case side2 => exact HC0_0.out); (case side3 => exact cS (Kd.C_below HR0_1.out HB.out)); (case side4 => exact HC0_1.out); (case side5 => exact cS (Kd.C_below HR0_2.out HB.out)); (case side6 => exact HC0_2.out); (case side7 => exact cS (Kd.C_below HR0_3.out HB.out)); (case side8 => exact HC0_3.out); rintro e w52 ⟨v299, v302, v305, v308, rfl, ho0, ho1, ho2, ho3, hb⟩; refine ⟨_, rfl, ?_⟩; have HO300 := Aside0.mk (Kd.R_lower ho0 (below_size (bS HB.out))); have HO303 := Aside0.mk (Kd.R_lower ho1 (below_size (bS HB.out))); have HO306 := Aside0.mk (Kd.R_lower ho2 (below_size (bS HB.out))); have HO309 := Aside0.mk (Kd.S_lower ho3 (below_size (bS HB.out))); replace BK269 := Aside0.mk (kS BK269.out hb); replace BK270 := Aside0.mk (kS BK270.out hb); replace HB := Aside0.mk (below_step (bS HB.out) hb); (try clear hb); (try clear hb2); (try clear hk); (try clear hi); (try clear ho0); (try clear ho1); (try clear ho2); (try clear ho3)) | ((with_reducible refine gate_dst (N := 7) rfl ?_); refine box_event ?hg (N := 7) ?hd (cs := #[.slice none 0 0, .slice none 0 0, .slice none 0 0, .slice none 0 0]) (t := 69) ?hr ?_; (case hd => rfl); (case hg => rfl); (case hr => first | (go_simp; done) | (go_simp; rfl)); intro gb310 hg w53 hbox hb; replace HO300 := Aside0.mk (Kd.R_below (rS HO300.out) hb); replace HO303 := Aside0.mk (Kd.R_below (rS HO303.out) hb); replace HO306 := Aside0.mk (Kd.R_below (rS HO306.out) hb); replace HO309 := Aside0.mk (Kd.S_below (by (with_reducible repeat (first | apply Kd.S_alloc | apply Kd.S_drewN | apply Kd.S_drew)); exact HO309.out) hb); have n4_ := Aside0.mk (kS BK269.out hb); have n5_ := Aside0.mk (kS BK270.out hb); have n6_ := Aside0.mk (below_step (bS HB.out) hb); have BK310 := Aside0.mk (hbox); have GW310 := Aside0.mk ((by rw [hg]; exact (below_size (bS HB.out)) : w.heap.size ≤ gb310)); have GE310 := Aside0.mk ((by rw [hg]; exact (below_size (bS HB.out)) : w.heap.size ≤ gb310)); have NB269_310 := Aside0.mk ((by rw [hg]; exact Nat.ne_of_lt (blk_lt (g := gb269) (o := .cells #[.slice A0_0 l0_0.length c0_0, .slice A0_1 l0_1.length c0_1, .slice A0_2 l0_2.length c0_2, .slice A0_3 l0_3.length c0_3] 64 (0, 0)) (by (with_reducible repeat (first | refine blk_drewN ?_ _ | refine blk_drew ?_ | refine blk_alloc ?_ _)); exact BK269.out)) : gb269 ≠ gb310)); have NB310_269 := Aside0.mk ((by rw [hg]; exact Nat.ne_of_gt (blk_lt (g := gb269) (o := .cells #[.slice A0_0 l0_0.length c0_0, .slice A0_1 l0_1.length c0_1, .slice A0_2 l0_2.length c0_2, .slice A0_3 l0_3.length c0_3] 64 (0, 0)) (by (with_reducible repeat (first | refine blk_drewN ?_ _ | refine blk_drew ?_ | refine blk_alloc ?_ _)); exact BK269.out)) : gb310 ≠ gb269)); have NB270_310 := Aside0.mk ((by rw [hg]; exact Nat.ne_of_lt (blk_lt (g := gb270) (o := .cells #[.slice A1_0 l1_0.length c1_0, .slice A1_1 l1_1.length c1_1, .slice A1_2 l1_2.length c1_2, .slice A1_3 l1_3.length c1_3] 64 (0, 0)) (by (with_reducible repeat (first | refine blk_drewN ?_ _ | refine blk_drew ?_ | refine blk_alloc ?_ _)); exact BK270.out)) : gb270 ≠ gb310)); have NB310_270 := Aside0.mk ((by rw [hg]; exact Nat.ne_of_gt (blk_lt (g := gb270) (o := .cells #[.slice A1_0 l1_0.length c1_0, .slice A1_1 l1_1.length c1_1, .slice A1_2 l1_2.length c1_2, .slice A1_3 l1_3.length c1_3] 64 (0, 0)) (by (with_reducible repeat (first | refine blk_drewN ?_ _ | refine blk_drew ?_ | refine blk_alloc ?_ _)); exact BK270.out)) : gb310 ≠ gb270)); clear BK269; clear BK270; clear HB; have BK269 := n4_; have BK270 := n5_; have HB := n6_; clear n4_ n5_ n6_; clear hb hbox hg; obtain ⟨Ao54, co54, eo54⟩ := Kd.R_slice HO300.out; subst eo54; have hnb55 := NB310_269.out; have hnc55 := NB269_310.out; have hnb56 := NB310_270.out; have hnc56 := NB270_310.out; have hcz57_0 : w53.cell? ⟨gb310, 0, none⟩ = some (.slice none 0 0) := kC BK310.out 0 rfl; have hcz57_1 : w53.cell? ⟨gb310, 1, none⟩ = some (.slice none 0 0) := kC BK310.out 1 rfl; have hcz57_2 : w53.cell? ⟨gb310, 2, none⟩ = some (.slice none 0 0) := kC BK310.out 2 rfl; have hcz57_3 : w53.cell? ⟨gb310, 3, none⟩ = some (.slice none 0 0) := kC BK310.out 3 rfl; have hfz57_0 := blk_frozen BK310.out 0; have hfz57_1 := blk_frozen BK310.out 1; have hfz57_2 := blk_frozen BK310.out 2; have hfz57_3 := blk_frozen BK310.out 3; obtain ⟨Ao58, co58, eo58⟩ := Kd.R_slice HO303.out; subst eo58; obtain ⟨Ao59, co59, eo59⟩ := Kd.R_slice HO306.out; subst eo59; obtain ⟨Ao60, co60, eo60⟩ := Kd.S_slice HO309.out; subst eo60; have hcz61_0 : w53.cell? ⟨gb270, 0, none⟩ = some (.slice A1_0 l1_0.length c1_0) := kC BK270.out 0 rfl; have hcz61_1 : w53.cell? ⟨gb270, 1, none⟩ = some (.slice A1_1 l1_1.length c1_1) := kC BK270.out 1 rfl; have hcz61_2 : w53.cell? ⟨gb270, 2, none⟩ = some (.slice A1_2 l1_2.length c1_2) := kC BK270.out 2 rfl; have hcz61_3 : w53.cell? ⟨gb270, 3, none⟩ = some (.slice A1_3 l1_3.length c1_3) := kC BK270.out 3 rfl; have hfz61_0 := blk_frozen BK270.out 0; have hfz61_1 := blk_frozen BK270.out 1; have hfz61_2 := blk_frozen BK270.out 2; have hfz61_3 := blk_frozen BK270.out 3) | ((with_reducible refine gate_callee (f := 51) rfl ?_); obtain ⟨w62, hW_⟩ : ∃ W_, W_ = ((((w53.setCell ⟨gb310, 0, none⟩ (.slice Ao54 t298.length co54)).setCell ⟨gb310, 1, none⟩ (.slice Ao58 t301.length co58)).setCell ⟨gb310, 2, none⟩ (.slice Ao59 t304.length co59)).setCell ⟨gb310, 3, none⟩ (.slice Ao60 t307.length co60)) := ⟨_, rfl⟩; replace HO300 : Aside0 (Kd.R (Kd.int .i64) 3 w62 w.heap.size (fun _ => True) (.slice Ao54 t298.length co54) t298) := ⟨by rw [hW_]; (with_reducible repeat (first | apply Kd.R_alloc | apply Kd.R_drewN | apply Kd.R_drew)); exact Kd.R_mono (rB HO300.out BK310.out (by decide)) (fun _ hk => trivial)⟩; replace HO303 : Aside0 (Kd.R (Kd.int .i64) 3 w62 w.heap.size (fun _ => True) (.slice Ao58 t301.length co58) t301) := ⟨by rw [hW_]; (with_reducible repeat (first | apply Kd.R_alloc | apply Kd.R_drewN | apply Kd.R_drew)); exact Kd.R_mono (rB HO303.out BK310.out (by decide)) (fun _ hk => trivial)⟩; replace HO306 : Aside0 (Kd.R k96 96 w62 w.heap.size (fun _ => True) (.slice Ao59 t304.length co59) t304) := ⟨by rw [hW_]; (with_reducible repeat (first | apply Kd.R_alloc | apply Kd.R_drewN | apply Kd.R_drew)); exact Kd.R_mono (rB HO306.out BK310.out (by decide)) (fun _ hk => trivial)⟩; replace HO309 : Aside0 (Kd.S k142 142 w62 w.heap.size (fun _ => True) (.slice Ao60 t307.length co60) t307) := ⟨by rw [hW_]; (with_reducible repeat (first | apply Kd.S_alloc | apply Kd.S_drewN | apply Kd.S_drew)); exact Kd.S_mono (Kd.S_far (p := ⟨gb310, 3, none⟩) (Kd.S_far (p := ⟨gb310, 2, none⟩) (Kd.S_far (p := ⟨gb310, 1, none⟩) (Kd.S_far (p := ⟨gb310, 0, none⟩) (Kd.S_types HO309.out BK310.out (by decide)) (fun _ hk => hk.2) (.slice Ao54 t298.length co54)) (fun _ hk => hk.2) (.slice Ao58 t301.length co58)) (fun _ hk => hk.2) (.slice Ao59 t304.length co59)) (fun _ hk => hk.2) (.slice Ao60 t307.length co60)) (fun _ hk => trivial)⟩; replace BK269 : Aside0 (w62.heap[gb269]? = some (.cells #[.slice A0_0 l0_0.length c0_0, .slice A0_1 l0_1.length c0_1, .slice A0_2 l0_2.length c0_2, .slice A0_3 l0_3.length c0_3] 64 (0, 0))) := ⟨by rw [hW_]; (with_reducible repeat (first | refine blk_drewN ?_ _ | refine blk_drew ?_ | refine blk_alloc ?_ _)); refine blk_far ?_ NB269_310.out _; (with_reducible repeat (first | refine blk_drewN ?_ _ | refine blk_drew ?_ | refine blk_alloc ?_ _)); refine blk_far ?_ NB269_310.out _; (with_reducible repeat (first | refine blk_drewN ?_ _ | refine blk_drew ?_ | refine blk_alloc ?_ _)); refine blk_far ?_ NB269_310.out _; (with_reducible repeat (first | refine blk_drewN ?_ _ | refine blk_drew ?_ | refine blk_alloc ?_ _)); refine blk_far ?_ NB269_310.out _; (with_reducible repeat (first | refine blk_drewN ?_ _ | refine blk_drew ?_ | refine blk_alloc ?_ _)); exact BK269.out⟩; replace BK270 : Aside0 (w62.heap[gb270]? = some (.cells #[.slice A1_0 l1_0.length c1_0, .slice A1_1 l1_1.length c1_1, .slice A1_2 l1_2.length c1_2, .slice A1_3 l1_3.length c1_3] 64 (0, 0))) := ⟨by rw [hW_]; (with_reducible repeat (first | refine blk_drewN ?_ _ | refine blk_drew ?_ | refine blk_alloc ?_ _)); refine blk_far ?_ NB270_310.out _; (with_reducible repeat (first | refine blk_drewN ?_ _ | refine blk_drew ?_ | refine blk_alloc ?_ _)); refine blk_far ?_ NB270_310.out _; (with_reducible repeat (first | refine blk_drewN ?_ _ | refine blk_drew ?_ | refine blk_alloc ?_ _)); refine blk_far ?_ NB270_310.out _; (with_reducible repeat (first | refine blk_drewN ?_ _ | refine blk_drew ?_ | refine blk_alloc ?_ _)); refine blk_far ?_ NB270_310.out _; (with_reducible repeat (first | refine blk_drewN ?_ _ | refine blk_drew ?_ | refine blk_alloc ?_ _)); exact BK270.out⟩; replace BK310 : Aside0 (w62.heap[gb310]? = some (.cells #[.slice Ao54 t298.length co54, .slice Ao58 t301.length co58, .slice Ao59 t304.length co59, .slice Ao60 t307.length co60] 69 (0, 0))) := ⟨by rw [hW_]; (with_reducible repeat (first | refine blk_drewN ?_ _ | refine blk_drew ?_ | refine blk_alloc ?_ _)); refine blk_put (cs := #[.slice Ao54 t298.length co54, .slice Ao58 t301.length co58, .slice Ao59 t304.length co59, .slice none 0 0]) ?_ 3 _ rfl; (with_reducible repeat (first | refine blk_drewN ?_ _ | refine blk_drew ?_ | refine blk_alloc ?_ _)); refine blk_put (cs := #[.slice Ao54 t298.length co54, .slice Ao58 t301.length co58, .slice none 0 0, .slice none 0 0]) ?_ 2 _ rfl; (with_reducible repeat (first | refine blk_drewN ?_ _ | refine blk_drew ?_ | refine blk_alloc ?_ _)); refine blk_put (cs := #[.slice Ao54 t298.length co54, .slice none 0 0, .slice none 0 0, .slice none 0 0]) ?_ 1 _ rfl; (with_reducible repeat (first | refine blk_drewN ?_ _ | refine blk_drew ?_ | refine blk_alloc ?_ _)); refine blk_put (cs := #[.slice none 0 0, .slice none 0 0, .slice none 0 0, .slice none 0 0]) ?_ 0 _ rfl; (with_reducible repeat (first | refine blk_drewN ?_ _ | refine blk_drew ?_ | refine blk_alloc ?_ _)); exact BK310.out⟩; replace HB : Aside0 (Below w.heap.size w w62) := ⟨by rw [hW_]; repeat (first | (with_reducible first | exact HB.out | apply below_alloc | apply pw_below_drewN | apply below_drew1 | refine below_set ?_ GE269.out | refine below_set ?_ GE270.out | refine below_set ?_ GE310.out) | exact HB.out)⟩; rw [← hW_]; clear hW_; refine goesL_ (some 28) rfl rfl Try.func51 (by kernel_rfl) rfl #[.agg #[.slice A1_0 l1_0.length c1_0, .slice A1_1 l1_1.length c1_1, .slice A1_2 l1_2.length c1_2, .slice A1_3 l1_3.length c1_3]] rfl (by (try simp only [List.map_toArray, List.map_cons, List.map_nil]); first | done | rfl | (simp only [List.length_drop, List.length_take]; rfl)) ?_; (with_reducible refine (laws_toPlan.calls k _ _ l1_0 _ _ l1_1 _ _ l1_2 _ _ l1_3 t311 t314 t317 t320 _ ?side1 ?side2 ?side3 ?side4 ?side5 ?side6 ?side7 ?side8 A23.out).mono ?_); (case side1 => exact cS (Kd.C_below HR1_0.out HB.out)); (case side2 => exact HC1_0.out); (case side3 => exact cS (Kd.C_below HR1_1.out HB.out)); (case side4 => exact HC1_1.out); (case side5 => exact cS (Kd.C_below HR1_2.out HB.out)); (case side6 => exact HC1_2.out); (case side7 => exact cS (Kd.C_below HR1_3.out HB.out)); (case side8 => exact HC1_3.out); rintro e w63 ⟨v312, v315, v318, v321, rfl, ho0, ho1, ho2, ho3, hb⟩; refine ⟨_, rfl, ?_⟩; replace HO300 := Aside0.mk (Kd.R_below (rS HO300.out) hb); replace HO303 := Aside0.mk (Kd.R_below (rS HO303.out) hb); replace HO306 := Aside0.mk (Kd.R_below (rS HO306.out) hb); replace HO309 := Aside0.mk (Kd.S_below (by (with_reducible repeat (first | apply Kd.S_alloc | apply Kd.S_drewN | apply Kd.S_drew)); exact HO309.out) hb); have HO313 := Aside0.mk (Kd.R_lower ho0 (below_size (bS HB.out))); have HO316 := Aside0.mk (Kd.R_lower ho1 (below_size (bS HB.out))); have HO319 := Aside0.mk (Kd.R_lower ho2 (below_size (bS HB.out))); have HO322 := Aside0.mk (Kd.S_lower ho3 (below_size (bS HB.out))); replace BK269 := Aside0.mk (kS BK269.out hb); replace BK270 := Aside0.mk (kS BK270.out hb); replace BK310 := Aside0.mk (kS BK310.out hb); replace HB := Aside0.mk (below_step (bS HB.out) hb); (try clear hb); (try clear hb2); (try clear hk); (try clear hi); (try clear ho0); (try clear ho1); (try clear ho2); (try clear ho3)) | ((with_reducible refine gate_dst (N := 8) rfl ?_); refine box_event ?hg (N := 8) ?hd (cs := #[.slice none 0 0, .slice none 0 0, .slice none 0 0, .slice none 0 0]) (t := 69) ?hr ?_; (case hd => rfl); (case hg => rfl); (case hr => first | (go_simp; done) | (go_simp; rfl)); intro gb323 hg w64 hbox hb; replace HO300 := Aside0.mk (Kd.R_below (rS HO300.out) hb); replace HO303 := Aside0.mk (Kd.R_below (rS HO303.out) hb); replace HO306 := Aside0.mk (Kd.R_below (rS HO306.out) hb); replace HO309 := Aside0.mk (Kd.S_below (by (with_reducible repeat (first | apply Kd.S_alloc | apply Kd.S_drewN | apply Kd.S_drew)); exact HO309.out) hb); replace HO313 := Aside0.mk (Kd.R_below (rS HO313.out) hb); replace HO316 := Aside0.mk (Kd.R_below (rS HO316.out) hb); replace HO319 := Aside0.mk (Kd.R_below (rS HO319.out) hb); replace HO322 := Aside0.mk (Kd.S_below (by (with_reducible repeat (first | apply Kd.S_alloc | apply Kd.S_drewN | apply Kd.S_drew)); exact HO322.out) hb); have n8_ := Aside0.mk (kS BK269.out hb); have n9_ := Aside0.mk (kS BK270.out hb); have n10_ := Aside0.mk (kS BK310.out hb); have n11_ := Aside0.mk (below_step (bS HB.out) hb); have BK323 := Aside0.mk (hbox); have GW323 := Aside0.mk ((by rw [hg]; exact (below_size (bS HB.out)) : w.heap.size ≤ gb323)); have GE323 := Aside0.mk ((by rw [hg]; exact (below_size (bS HB.out)) : w.heap.size ≤ gb323)); have NB269_323 := Aside0.mk ((by rw [hg]; exact Nat.ne_of_lt (blk_lt (g := gb269) (o := .cells #[.slice A0_0 l0_0.length c0_0, .slice A0_1 l0_1.length c0_1, .slice A0_2 l0_2.length c0_2, .slice A0_3 l0_3.length c0_3] 64 (0, 0)) (by (with_reducible repeat (first | refine blk_drewN ?_ _ | refine blk_drew ?_ | refine blk_alloc ?_ _)); exact BK269.out)) : gb269 ≠ gb323)); have NB323_269 := Aside0.mk ((by rw [hg]; exact Nat.ne_of_gt (blk_lt (g := gb269) (o := .cells #[.slice A0_0 l0_0.length c0_0, .slice A0_1 l0_1.length c0_1, .slice A0_2 l0_2.length c0_2, .slice A0_3 l0_3.length c0_3] 64 (0, 0)) (by (with_reducible repeat (first | refine blk_drewN ?_ _ | refine blk_drew ?_ | refine blk_alloc ?_ _)); exact BK269.out)) : gb323 ≠ gb269)); have NB270_323 := Aside0.mk ((by rw [hg]; exact Nat.ne_of_lt (blk_lt (g := gb270) (o := .cells #[.slice A1_0 l1_0.length c1_0, .slice A1_1 l1_1.length c1_1, .slice A1_2 l1_2.length c1_2, .slice A1_3 l1_3.length c1_3] 64 (0, 0)) (by (with_reducible repeat (first | refine blk_drewN ?_ _ | refine blk_drew ?_ | refine blk_alloc ?_ _)); exact BK270.out)) : gb270 ≠ gb323)); have NB323_270 := Aside0.mk ((by rw [hg]; exact Nat.ne_of_gt (blk_lt (g := gb270) (o := .cells #[.slice A1_0 l1_0.length c1_0, .slice A1_1 l1_1.length c1_1, .slice A1_2 l1_2.length c1_2, .slice A1_3 l1_3.length c1_3] 64 (0, 0)) (by (with_reducible repeat (first | refine blk_drewN ?_ _ | refine blk_drew ?_ | refine blk_alloc ?_ _)); exact BK270.out)) : gb323 ≠ gb270)); have NB310_323 := Aside0.mk ((by rw [hg]; exact Nat.ne_of_lt (blk_lt (g := gb310) (o := .cells #[.slice Ao54 t298.length co54, .slice Ao58 t301.length co58, .slice Ao59 t304.length co59, .slice Ao60 t307.length co60] 69 (0, 0)) (by (with_reducible repeat (first | refine blk_drewN ?_ _ | refine blk_drew ?_ | refine blk_alloc ?_ _)); exact BK310.out)) : gb310 ≠ gb323)); have NB323_310 := Aside0.mk ((by rw [hg]; exact Nat.ne_of_gt (blk_lt (g := gb310) (o := .cells #[.slice Ao54 t298.length co54, .slice Ao58 t301.length co58, .slice Ao59 t304.length co59, .slice Ao60 t307.length co60] 69 (0, 0)) (by (with_reducible repeat (first | refine blk_drewN ?_ _ | refine blk_drew ?_ | refine blk_alloc ?_ _)); exact BK310.out)) : gb323 ≠ gb310)); clear BK269; clear BK270; clear BK310; clear HB; have BK269 := n8_; have BK270 := n9_; have BK310 := n10_; have HB := n11_; clear n8_ n9_ n10_ n11_; clear hb hbox hg; obtain ⟨Ao65, co65, eo65⟩ := Kd.R_slice HO313.out; subst eo65; have hnb66 := NB323_269.out; have hnc66 := NB269_323.out; have hnb67 := NB323_270.out; have hnc67 := NB270_323.out; have hnb68 := NB323_310.out; have hnc68 := NB310_323.out; have hcz69_0 : w64.cell? ⟨gb323, 0, none⟩ = some (.slice none 0 0) := kC BK323.out 0 rfl; have hcz69_1 : w64.cell? ⟨gb323, 1, none⟩ = some (.slice none 0 0) := kC BK323.out 1 rfl; have hcz69_2 : w64.cell? ⟨gb323, 2, none⟩ = some (.slice none 0 0) := kC BK323.out 2 rfl; have hcz69_3 : w64.cell? ⟨gb323, 3, none⟩ = some (.slice none 0 0) := kC BK323.out 3 rfl; have hfz69_0 := blk_frozen BK323.out 0; have hfz69_1 := blk_frozen BK323.out 1; have hfz69_2 := blk_frozen BK323.out 2; have hfz69_3 := blk_frozen BK323.out 3; obtain ⟨Ao70, co70, eo70⟩ := Kd.R_slice HO316.out; subst eo70; obtain ⟨Ao71, co71, eo71⟩ := Kd.R_slice HO319.out; subst eo71; obtain ⟨Ao72, co72, eo72⟩ := Kd.S_slice HO322.out; subst eo72; have hcz73_0 : w64.cell? ⟨gb310, 0, none⟩ = some (.slice Ao54 t298.length co54) := kC BK310.out 0 rfl; have hcz73_1 : w64.cell? ⟨gb310, 1, none⟩ = some (.slice Ao58 t301.length co58) := kC BK310.out 1 rfl; have hcz73_2 : w64.cell? ⟨gb310, 2, none⟩ = some (.slice Ao59 t304.length co59) := kC BK310.out 2 rfl; have hcz73_3 : w64.cell? ⟨gb310, 3, none⟩ = some (.slice Ao60 t307.length co60) := kC BK310.out 3 rfl; have hfz73_0 := blk_frozen BK310.out 0; have hfz73_1 := blk_frozen BK310.out 1; have hfz73_2 := blk_frozen BK310.out 2; have hfz73_3 := blk_frozen BK310.out 3) | ((with_reducible refine gate_callee (f := 52) rfl ?_); obtain ⟨w74, hW_⟩ : ∃ W_, W_ = ((((w64.setCell ⟨gb323, 0, none⟩ (.slice Ao65 t311.length co65)).setCell ⟨gb323, 1, none⟩ (.slice Ao70 t314.length co70)).setCell ⟨gb323, 2, none⟩ (.slice Ao71 t317.length co71)).setCell ⟨gb323, 3, none⟩ (.slice Ao72 t320.length co72)) := ⟨_, rfl⟩; replace HO300 : Aside0 (Kd.R (Kd.int .i64) 3 w74 w.heap.size (fun _ => True) (.slice Ao54 t298.length co54) t298) := ⟨by rw [hW_]; (with_reducible repeat (first | apply Kd.R_alloc | apply Kd.R_drewN | apply Kd.R_drew)); exact Kd.R_mono (rB HO300.out BK323.out (by decide)) (fun _ hk => trivial)⟩; replace HO303 : Aside0 (Kd.R (Kd.int .i64) 3 w74 w.heap.size (fun _ => True) (.slice Ao58 t301.length co58) t301) := ⟨by rw [hW_]; (with_reducible repeat (first | apply Kd.R_alloc | apply Kd.R_drewN | apply Kd.R_drew)); exact Kd.R_mono (rB HO303.out BK323.out (by decide)) (fun _ hk => trivial)⟩; replace HO306 : Aside0 (Kd.R k96 96 w74 w.heap.size (fun _ => True) (.slice Ao59 t304.length co59) t304) := ⟨by rw [hW_]; (with_reducible repeat (first | apply Kd.R_alloc | apply Kd.R_drewN | apply Kd.R_drew)); exact Kd.R_mono (rB HO306.out BK323.out (by decide)) (fun _ hk => trivial)⟩; replace HO309 : Aside0 (Kd.S k142 142 w74 w.heap.size (fun _ => True) (.slice Ao60 t307.length co60) t307) := ⟨by rw [hW_]; (with_reducible repeat (first | apply Kd.S_alloc | apply Kd.S_drewN | apply Kd.S_drew)); exact Kd.S_mono (Kd.S_far (p := ⟨gb323, 3, none⟩) (Kd.S_far (p := ⟨gb323, 2, none⟩) (Kd.S_far (p := ⟨gb323, 1, none⟩) (Kd.S_far (p := ⟨gb323, 0, none⟩) (Kd.S_types HO309.out BK323.out (by decide)) (fun _ hk => hk.2) (.slice Ao65 t311.length co65)) (fun _ hk => hk.2) (.slice Ao70 t314.length co70)) (fun _ hk => hk.2) (.slice Ao71 t317.length co71)) (fun _ hk => hk.2) (.slice Ao72 t320.length co72)) (fun _ hk => trivial)⟩; replace HO313 : Aside0 (Kd.R (Kd.int .i64) 3 w74 w.heap.size (fun _ => True) (.slice Ao65 t311.length co65) t311) := ⟨by rw [hW_]; (with_reducible repeat (first | apply Kd.R_alloc | apply Kd.R_drewN | apply Kd.R_drew)); exact Kd.R_mono (rB HO313.out BK323.out (by decide)) (fun _ hk => trivial)⟩; replace HO316 : Aside0 (Kd.R (Kd.int .i64) 3 w74 w.heap.size (fun _ => True) (.slice Ao70 t314.length co70) t314) := ⟨by rw [hW_]; (with_reducible repeat (first | apply Kd.R_alloc | apply Kd.R_drewN | apply Kd.R_drew)); exact Kd.R_mono (rB HO316.out BK323.out (by decide)) (fun _ hk => trivial)⟩; replace HO319 : Aside0 (Kd.R k96 96 w74 w.heap.size (fun _ => True) (.slice Ao71 t317.length co71) t317) := ⟨by rw [hW_]; (with_reducible repeat (first | apply Kd.R_alloc | apply Kd.R_drewN | apply Kd.R_drew)); exact Kd.R_mono (rB HO319.out BK323.out (by decide)) (fun _ hk => trivial)⟩; replace HO322 : Aside0 (Kd.S k142 142 w74 w.heap.size (fun _ => True) (.slice Ao72 t320.length co72) t320) := ⟨by rw [hW_]; (with_reducible repeat (first | apply Kd.S_alloc | apply Kd.S_drewN | apply Kd.S_drew)); exact Kd.S_mono (Kd.S_far (p := ⟨gb323, 3, none⟩) (Kd.S_far (p := ⟨gb323, 2, none⟩) (Kd.S_far (p := ⟨gb323, 1, none⟩) (Kd.S_far (p := ⟨gb323, 0, none⟩) (Kd.S_types HO322.out BK323.out (by decide)) (fun _ hk => hk.2) (.slice Ao65 t311.length co65)) (fun _ hk => hk.2) (.slice Ao70 t314.length co70)) (fun _ hk => hk.2) (.slice Ao71 t317.length co71)) (fun _ hk => hk.2) (.slice Ao72 t320.length co72)) (fun _ hk => trivial)⟩; replace BK269 : Aside0 (w74.heap[gb269]? = some (.cells #[.slice A0_0 l0_0.length c0_0, .slice A0_1 l0_1.length c0_1, .slice A0_2 l0_2.length c0_2, .slice A0_3 l0_3.length c0_3] 64 (0, 0))) := ⟨by rw [hW_]; (with_reducible repeat (first | refine blk_drewN ?_ _ | refine blk_drew ?_ | refine blk_alloc ?_ _)); refine blk_far ?_ NB269_323.out _; (with_reducible repeat (first | refine blk_drewN ?_ _ | refine blk_drew ?_ | refine blk_alloc ?_ _)); refine blk_far ?_ NB269_323.out _; (with_reducible repeat (first | refine blk_drewN ?_ _ | refine blk_drew ?_ | refine blk_alloc ?_ _)); refine blk_far ?_ NB269_323.out _; (with_reducible repeat (first | refine blk_drewN ?_ _ | refine blk_drew ?_ | refine blk_alloc ?_ _)); refine blk_far ?_ NB269_323.out _; (with_reducible repeat (first | refine blk_drewN ?_ _ | refine blk_drew ?_ | refine blk_alloc ?_ _)); exact BK269.out⟩; replace BK270 : Aside0 (w74.heap[gb270]? = some (.cells #[.slice A1_0 l1_0.length c1_0, .slice A1_1 l1_1.length c1_1, .slice A1_2 l1_2.length c1_2, .slice A1_3 l1_3.length c1_3] 64 (0, 0))) := ⟨by rw [hW_]; (with_reducible repeat (first | refine blk_drewN ?_ _ | refine blk_drew ?_ | refine blk_alloc ?_ _)); refine blk_far ?_ NB270_323.out _; (with_reducible repeat (first | refine blk_drewN ?_ _ | refine blk_drew ?_ | refine blk_alloc ?_ _)); refine blk_far ?_ NB270_323.out _; (with_reducible repeat (first | refine blk_drewN ?_ _ | refine blk_drew ?_ | refine blk_alloc ?_ _)); refine blk_far ?_ NB270_323.out _; (with_reducible repeat (first | refine blk_drewN ?_ _ | refine blk_drew ?_ | refine blk_alloc ?_ _)); refine blk_far ?_ NB270_323.out _; (with_reducible repeat (first | refine blk_drewN ?_ _ | refine blk_drew ?_ | refine blk_alloc ?_ _)); exact BK270.out⟩; replace BK310 : Aside0 (w74.heap[gb310]? = some (.cells #[.slice Ao54 t298.length co54, .slice Ao58 t301.length co58, .slice Ao59 t304.length co59, .slice Ao60 t307.length co60] 69 (0, 0))) := ⟨by rw [hW_]; (with_reducible repeat (first | refine blk_drewN ?_ _ | refine blk_drew ?_ | refine blk_alloc ?_ _)); refine blk_far ?_ NB310_323.out _; (with_reducible repeat (first | refine blk_drewN ?_ _ | refine blk_drew ?_ | refine blk_alloc ?_ _)); refine blk_far ?_ NB310_323.out _; (with_reducible repeat (first | refine blk_drewN ?_ _ | refine blk_drew ?_ | refine blk_alloc ?_ _)); refine blk_far ?_ NB310_323.out _; (with_reducible repeat (first | refine blk_drewN ?_ _ | refine blk_drew ?_ | refine blk_alloc ?_ _)); refine blk_far ?_ NB310_323.out _; (with_reducible repeat (first | refine blk_drewN ?_ _ | refine blk_drew ?_ | refine blk_alloc ?_ _)); exact BK310.out⟩; replace BK323 : Aside0 (w74.heap[gb323]? = some (.cells #[.slice Ao65 t311.length co65, .slice Ao70 t314.length co70, .slice Ao71 t317.length co71, .slice Ao72 t320.length co72] 69 (0, 0))) := ⟨by rw [hW_]; (with_reducible repeat (first | refine blk_drewN ?_ _ | refine blk_drew ?_ | refine blk_alloc ?_ _)); refine blk_put (cs := #[.slice Ao65 t311.length co65, .slice Ao70 t314.length co70, .slice Ao71 t317.length co71, .slice none 0 0]) ?_ 3 _ rfl; (with_reducible repeat (first | refine blk_drewN ?_ _ | refine blk_drew ?_ | refine blk_alloc ?_ _)); refine blk_put (cs := #[.slice Ao65 t311.length co65, .slice Ao70 t314.length co70, .slice none 0 0, .slice none 0 0]) ?_ 2 _ rfl; (with_reducible repeat (first | refine blk_drewN ?_ _ | refine blk_drew ?_ | refine blk_alloc ?_ _)); refine blk_put (cs := #[.slice Ao65 t311.length co65, .slice none 0 0, .slice none 0 0, .slice none 0 0]) ?_ 1 _ rfl; (with_reducible repeat (first | refine blk_drewN ?_ _ | refine blk_drew ?_ | refine blk_alloc ?_ _)); refine blk_put (cs := #[.slice none 0 0, .slice none 0 0, .slice none 0 0, .slice none 0 0]) ?_ 0 _ rfl; (with_reducible repeat (first | refine blk_drewN ?_ _ | refine blk_drew ?_ | refine blk_alloc ?_ _)); exact BK323.out⟩; replace HB : Aside0 (Below w.heap.size w w74) := ⟨by rw [hW_]; repeat (first | (with_reducible first | exact HB.out | apply below_alloc | apply pw_below_drewN | apply below_drew1 | refine below_set ?_ GE269.out | refine below_set ?_ GE270.out | refine below_set ?_ GE310.out | refine below_set ?_ GE323.out) | exact HB.out)⟩; rw [← hW_]; clear hW_; refine goesL_ (some 31) rfl rfl Try.func52 (by kernel_rfl) rfl #[.agg #[.slice Ao54 t298.length co54, .slice Ao58 t301.length co58, .slice Ao59 t304.length co59, .slice Ao60 t307.length co60], .agg #[.slice Ao65 t311.length co65, .slice Ao70 t314.length co70, .slice Ao71 t317.length co71, .slice Ao72 t320.length co72]] rfl (by (try simp only [List.map_toArray, List.map_cons, List.map_nil]); first | done | rfl | (simp only [List.length_drop, List.length_take]; rfl)) ?_; (with_reducible refine (impl_PlanSame.calls k _ _ t298 _ _ t301 _ _ t304 _ _ t307 _ _ t311 _ _ t314 _ _ t317 _ _ t320 t324 _ ?side1 ?side2 ?side3 ?side4 ?side5 ?side6 ?side7 ?side8 ?side9 ?side10 ?side11 ?side12 ?side13 ?side14 ?side15 ?side16 A24.out).mono ?_); (case side1 => exact cS (Kd.R_reads' HO300.out).2.2); (case side2 => exact (Kd.R_reads' HO300.out).2.1); (case side3 => exact cS (Kd.R_reads' HO303.out).2.2); (case side4 => exact (Kd.R_reads' HO303.out).2.1); (case side5 => exact cS (Kd.R_reads' HO306.out).2.2); (case side6 => exact (Kd.R_reads' HO306.out).2.1); (case side7 => repeat (first | exact (Kd.S_reads' HO309.out).2.2 | (with_reducible refine Kd.C_alloc ?_ _) | (with_reducible refine Kd.C_drewN ?_ _) | (with_reducible refine Kd.C_drew ?_))); (case side8 => exact (Kd.S_reads' HO309.out).2.1); (case side9 => exact cS (Kd.R_reads' HO313.out).2.2); (case side10 => exact (Kd.R_reads' HO313.out).2.1); (case side11 => exact cS (Kd.R_reads' HO316.out).2.2); (case side12 => exact (Kd.R_reads' HO316.out).2.1); (case side13 => exact cS (Kd.R_reads' HO319.out).2.2); (case side14 => exact (Kd.R_reads' HO319.out).2.1); (case side15 => repeat (first | exact (Kd.S_reads' HO322.out).2.2 | (with_reducible refine Kd.C_alloc ?_ _) | (with_reducible refine Kd.C_drewN ?_ _) | (with_reducible refine Kd.C_drew ?_))); (case side16 => exact (Kd.S_reads' HO322.out).2.1); rintro e w75 ⟨rfl, hb⟩; refine ⟨_, rfl, ?_⟩; replace HO300 := Aside0.mk (Kd.R_below (rS HO300.out) hb); replace HO303 := Aside0.mk (Kd.R_below (rS HO303.out) hb); replace HO306 := Aside0.mk (Kd.R_below (rS HO306.out) hb); replace HO309 := Aside0.mk (Kd.S_below (by (with_reducible repeat (first | apply Kd.S_alloc | apply Kd.S_drewN | apply Kd.S_drew)); exact HO309.out) hb); replace HO313 := Aside0.mk (Kd.R_below (rS HO313.out) hb); replace HO316 := Aside0.mk (Kd.R_below (rS HO316.out) hb); replace HO319 := Aside0.mk (Kd.R_below (rS HO319.out) hb); replace HO322 := Aside0.mk (Kd.S_below (by (with_reducible repeat (first | apply Kd.S_alloc | apply Kd.S_drewN | apply Kd.S_drew)); exact HO322.out) hb); replace BK269 := Aside0.mk (kS BK269.out hb); replace BK270 := Aside0.mk (kS BK270.out hb); replace BK310 := Aside0.mk (kS BK310.out hb); replace BK323 := Aside0.mk (kS BK323.out hb); replace HB := Aside0.mk (below_step (bS HB.out) hb); (try clear hb); (try clear hb2); (try clear hk); (try clear hi)))
      replace HO300 := Aside0.mk (Kd.R_drew HO300.out)
      replace HO303 := Aside0.mk (Kd.R_drew HO303.out)
      replace HO306 := Aside0.mk (Kd.R_drew HO306.out)
      replace HO309 := Aside0.mk (Kd.S_drew HO309.out)
      replace HO313 := Aside0.mk (Kd.R_drew HO313.out)
      replace HO316 := Aside0.mk (Kd.R_drew HO316.out)
      replace HO319 := Aside0.mk (Kd.R_drew HO319.out)
      replace HO322 := Aside0.mk (Kd.S_drew HO322.out)
      replace BK269 := Aside0.mk (blk_drew BK269.out)
      replace BK270 := Aside0.mk (blk_drew BK270.out)
      replace BK310 := Aside0.mk (blk_drew BK310.out)
      replace BK323 := Aside0.mk (blk_drew BK323.out)
      replace HB := Aside0.mk (below_drew1 HB.out)
      refine start_ (n := 5) (S := fun w' => w'.cell? ⟨gb310, 0, none⟩ = some (.slice Ao54 t298.length co54) ∧ w'.cell? ⟨gb310, 1, none⟩ = some (.slice Ao58 t301.length co58) ∧ w'.cell? ⟨gb310, 2, none⟩ = some (.slice Ao59 t304.length co59) ∧ w'.cell? ⟨gb310, 3, none⟩ = some (.slice Ao60 t307.length co60) ∧ w'.cell? ⟨gb269, 0, none⟩ = some (.slice A0_0 l0_0.length c0_0) ∧ w'.cell? ⟨gb269, 1, none⟩ = some (.slice A0_1 l0_1.length c0_1) ∧ w'.cell? ⟨gb269, 2, none⟩ = some (.slice A0_2 l0_2.length c0_2) ∧ w'.cell? ⟨gb269, 3, none⟩ = some (.slice A0_3 l0_3.length c0_3)) (ds := []) #[false, false, false, false, false] (by kernel_rfl) rfl rfl ⟨kC BK310.out 0 rfl, kC BK310.out 1 rfl, kC BK310.out 2 rfl, kC BK310.out 3 rfl, kC BK269.out 0 rfl, kC BK269.out 1 rfl, kC BK269.out 2 rfl, kC BK269.out 3 rfl⟩ (fun hHeld => ?_)
      generalize w75.drew = w76 at HO300 HO303 HO306 HO309 HO313 HO316 HO319 HO322 BK269 BK270 BK310 BK323 HB hHeld ⊢
      refine take_ (i := 0) (N := some 35) (v := ?_) (a' := ?_) #[true, false, false, false, false] rfl rfl (by kernel_rfl) (fun _ _ _ h => h) (Or.inl ⟨by rfl, ?_⟩) hHeld ?_ ?_
      rotate_left
      ·rintro w' ⟨s0, s1, s2, s3, s4, s5, s6, s7⟩
       go_simp
       with_reducible rfl
      rotate_left
      ·simp only [Act.put, List.setIfInBounds_toArray, List.set_cons_zero, List.set_cons_succ, i64_w, i32_w]
       rfl
      refine take_ (i := 1) (N := some 36) (v := ?_) (a' := ?_) #[true, true, false, false, false] rfl rfl (by kernel_rfl) (fun _ _ _ h => h) (Or.inl ⟨by rfl, ?_⟩) hHeld ?_ ?_
      rotate_left
      ·rintro w' ⟨s0, s1, s2, s3, s4, s5, s6, s7⟩
       go_simp
       with_reducible rfl
      rotate_left
      ·simp only [Act.put, List.setIfInBounds_toArray, List.set_cons_zero, List.set_cons_succ, i64_w, i32_w]
       rfl
      refine one_ (i := 2) (N := some 37) #[true, true, true, false, false] rfl rfl (by kernel_rfl) (by decide) (fun K hK => ?_)
      refine goes_ Try.func51 (by kernel_rfl) rfl #[.agg #[.slice A0_0 l0_0.length c0_0, .slice A0_1 l0_1.length c0_1, .slice A0_2 l0_2.length c0_2, .slice A0_3 l0_3.length c0_3]] (by rfl) rfl rfl (by (try simp only [List.map_toArray, List.map_cons, List.map_nil]); first | done | rfl | (simp only [List.length_drop, List.length_take]; rfl)) ?_
      with_reducible refine (laws_toPlan.calls k _ _ l0_0 _ _ l0_1 _ _ l0_2 _ _ l0_3 t325 t328 t331 t334 _ ?side1 ?side2 ?side3 ?side4 ?side5 ?side6 ?side7 ?side8 A26.out).mono ?_
      (case side1 => exact cS (Kd.C_below HR0_0.out HB.out))
      (case side2 => exact HC0_0.out)
      (case side3 => exact cS (Kd.C_below HR0_1.out HB.out))
      (case side4 => exact HC0_1.out)
      (case side5 => exact cS (Kd.C_below HR0_2.out HB.out))
      (case side6 => exact HC0_2.out)
      (case side7 => exact cS (Kd.C_below HR0_3.out HB.out))
      (case side8 => exact HC0_3.out)
      rintro e w77 ⟨v326, v329, v332, v335, rfl, ho0, ho1, ho2, ho3, hb⟩
      refine ⟨_, rfl, ?_⟩
      replace HO300 := Aside0.mk (Kd.R_below (rS HO300.out) hb)
      replace HO303 := Aside0.mk (Kd.R_below (rS HO303.out) hb)
      replace HO306 := Aside0.mk (Kd.R_below (rS HO306.out) hb)
      replace HO309 := Aside0.mk (Kd.S_below (by (with_reducible repeat (first | apply Kd.S_alloc | apply Kd.S_drewN | apply Kd.S_drew)); exact HO309.out) hb)
      replace HO313 := Aside0.mk (Kd.R_below (rS HO313.out) hb)
      replace HO316 := Aside0.mk (Kd.R_below (rS HO316.out) hb)
      replace HO319 := Aside0.mk (Kd.R_below (rS HO319.out) hb)
      replace HO322 := Aside0.mk (Kd.S_below (by (with_reducible repeat (first | apply Kd.S_alloc | apply Kd.S_drewN | apply Kd.S_drew)); exact HO322.out) hb)
      have HO327 := Aside0.mk (Kd.R_lower ho0 (below_size (bS HB.out)))
      have HO330 := Aside0.mk (Kd.R_lower ho1 (below_size (bS HB.out)))
      have HO333 := Aside0.mk (Kd.R_lower ho2 (below_size (bS HB.out)))
      have HO336 := Aside0.mk (Kd.S_lower ho3 (below_size (bS HB.out)))
      replace BK269 := Aside0.mk (kS BK269.out hb)
      replace BK270 := Aside0.mk (kS BK270.out hb)
      replace BK310 := Aside0.mk (kS BK310.out hb)
      replace BK323 := Aside0.mk (kS BK323.out hb)
      replace HB := Aside0.mk (below_step (bS HB.out) hb)
      (try clear hb)
      (try clear hb2)
      (try clear hk)
      (try clear hi)
      (try clear ho0)
      (try clear ho1)
      (try clear ho2)
      (try clear ho3)
      obtain ⟨Ao78, co78, eo78⟩ := Kd.R_slice HO327.out
      (first | subst eo78 | (injection eo78 with f1_ f2_ f3_; have f4_ := f1_.symm; have f5_ := f3_.symm; clear f1_ f2_ f3_; subst f4_; subst f5_))
      obtain ⟨Ao79, co79, eo79⟩ := Kd.R_slice HO330.out
      (first | subst eo79 | (injection eo79 with f1_ f2_ f3_; have f4_ := f1_.symm; have f5_ := f3_.symm; clear f1_ f2_ f3_; subst f4_; subst f5_))
      obtain ⟨Ao80, co80, eo80⟩ := Kd.R_slice HO333.out
      (first | subst eo80 | (injection eo80 with f1_ f2_ f3_; have f4_ := f1_.symm; have f5_ := f3_.symm; clear f1_ f2_ f3_; subst f4_; subst f5_))
      obtain ⟨Ao81, co81, eo81⟩ := Kd.S_slice HO336.out
      (first | subst eo81 | (injection eo81 with f1_ f2_ f3_; have f4_ := f1_.symm; have f5_ := f3_.symm; clear f1_ f2_ f3_; subst f4_; subst f5_))
      refine hK.out _ _ ⟨kC BK310.out 0 rfl, kC BK310.out 1 rfl, kC BK310.out 2 rfl, kC BK310.out 3 rfl, kC BK269.out 0 rfl, kC BK269.out 1 rfl, kC BK269.out 2 rfl, kC BK269.out 3 rfl⟩ (fun hHeld => ?_)
      clear hK K
      refine norm_ (a' := ?_) ?_ ?_
      rotate_left
      ·show Act.put _ (some 37) _ = _
       simp only [Act.put, List.setIfInBounds_toArray, List.set_cons_zero, List.set_cons_succ, i64_w, i32_w]
       rfl
      refine one_ (i := 3) (N := some 38) #[true, true, true, true, false] rfl rfl (by kernel_rfl) (by decide) (fun K hK => ?_)
      refine goes_ Try.func53 (by kernel_rfl) rfl #[.agg #[.slice Ao54 t298.length co54, .slice Ao58 t301.length co58, .slice Ao59 t304.length co59, .slice Ao60 t307.length co60], .agg #[.slice Ao78 t325.length co78, .slice Ao79 t328.length co79, .slice Ao80 t331.length co80, .slice Ao81 t334.length co81]] (by rfl) rfl rfl (by (try simp only [List.map_toArray, List.map_cons, List.map_nil]); first | done | rfl | (simp only [List.length_drop, List.length_take]; rfl)) ?_
      with_reducible refine (laws_eqPlan.calls k _ _ t298 _ _ t301 _ _ t304 _ _ t307 _ _ t325 _ _ t328 _ _ t331 _ _ t334 true _ ?side1 ?side2 ?side3 ?side4 ?side5 ?side6 ?side7 ?side8 ?side9 ?side10 ?side11 ?side12 ?side13 ?side14 ?side15 ?side16 A27.out).mono ?_
      (case side1 => exact cS (Kd.R_reads' HO300.out).2.2)
      (case side2 => exact (Kd.R_reads' HO300.out).2.1)
      (case side3 => exact cS (Kd.R_reads' HO303.out).2.2)
      (case side4 => exact (Kd.R_reads' HO303.out).2.1)
      (case side5 => exact cS (Kd.R_reads' HO306.out).2.2)
      (case side6 => exact (Kd.R_reads' HO306.out).2.1)
      (case side7 => repeat (first | exact (Kd.S_reads' HO309.out).2.2 | (with_reducible refine Kd.C_alloc ?_ _) | (with_reducible refine Kd.C_drewN ?_ _) | (with_reducible refine Kd.C_drew ?_)))
      (case side8 => exact (Kd.S_reads' HO309.out).2.1)
      (case side9 => exact cS (Kd.R_reads' HO327.out).2.2)
      (case side10 => exact (Kd.R_reads' HO327.out).2.1)
      (case side11 => exact cS (Kd.R_reads' HO330.out).2.2)
      (case side12 => exact (Kd.R_reads' HO330.out).2.1)
      (case side13 => exact cS (Kd.R_reads' HO333.out).2.2)
      (case side14 => exact (Kd.R_reads' HO333.out).2.1)
      (case side15 => repeat (first | exact (Kd.S_reads' HO336.out).2.2 | (with_reducible refine Kd.C_alloc ?_ _) | (with_reducible refine Kd.C_drewN ?_ _) | (with_reducible refine Kd.C_drew ?_)))
      (case side16 => exact (Kd.S_reads' HO336.out).2.1)
      rintro e w82 ⟨rfl, hb⟩
      refine ⟨_, rfl, ?_⟩
      replace HO300 := Aside0.mk (Kd.R_below (rS HO300.out) hb)
      replace HO303 := Aside0.mk (Kd.R_below (rS HO303.out) hb)
      replace HO306 := Aside0.mk (Kd.R_below (rS HO306.out) hb)
      replace HO309 := Aside0.mk (Kd.S_below (by (with_reducible repeat (first | apply Kd.S_alloc | apply Kd.S_drewN | apply Kd.S_drew)); exact HO309.out) hb)
      replace HO313 := Aside0.mk (Kd.R_below (rS HO313.out) hb)
      replace HO316 := Aside0.mk (Kd.R_below (rS HO316.out) hb)
      replace HO319 := Aside0.mk (Kd.R_below (rS HO319.out) hb)
      replace HO322 := Aside0.mk (Kd.S_below (by (with_reducible repeat (first | apply Kd.S_alloc | apply Kd.S_drewN | apply Kd.S_drew)); exact HO322.out) hb)
      replace HO327 := Aside0.mk (Kd.R_below (rS HO327.out) hb)
      replace HO330 := Aside0.mk (Kd.R_below (rS HO330.out) hb)
      replace HO333 := Aside0.mk (Kd.R_below (rS HO333.out) hb)
      replace HO336 := Aside0.mk (Kd.S_below (by (with_reducible repeat (first | apply Kd.S_alloc | apply Kd.S_drewN | apply Kd.S_drew)); exact HO336.out) hb)
      replace BK269 := Aside0.mk (kS BK269.out hb)
      replace BK270 := Aside0.mk (kS BK270.out hb)
      replace BK310 := Aside0.mk (kS BK310.out hb)
      replace BK323 := Aside0.mk (kS BK323.out hb)
      replace HB := Aside0.mk (below_step (bS HB.out) hb)
      (try clear hb)
      (try clear hb2)
      (try clear hk)
      (try clear hi)
      refine hK.out _ _ ⟨kC BK310.out 0 rfl, kC BK310.out 1 rfl, kC BK310.out 2 rfl, kC BK310.out 3 rfl, kC BK269.out 0 rfl, kC BK269.out 1 rfl, kC BK269.out 2 rfl, kC BK269.out 3 rfl⟩ (fun hHeld => ?_)
      clear hK K
      refine norm_ (a' := ?_) ?_ ?_
      rotate_left
      ·show Act.put _ (some 38) _ = _
       simp only [Act.put, List.setIfInBounds_toArray, List.set_cons_zero, List.set_cons_succ, i64_w, i32_w]
       rfl
      refine pure_ (i := 4) (N := some 39) (v := ?_) (a' := ?_) #[true, true, true, true, true] rfl rfl (by kernel_rfl) (fun _ _ _ h => h) (Or.inl ⟨by rfl, ?_⟩) ?_ ?_
      rotate_left
      ·intro w'
       go_simp
       with_reducible rfl
      rotate_left
      ·simp only [Act.put, List.setIfInBounds_toArray, List.set_cons_zero, List.set_cons_succ, i64_w, i32_w]
       rfl
      refine done_ (by kernel_rfl) ?_
      try go_wp2
      replace HO313 := Aside0.mk (Kd.R_drew HO313.out)
      replace HO316 := Aside0.mk (Kd.R_drew HO316.out)
      replace HO319 := Aside0.mk (Kd.R_drew HO319.out)
      replace HO322 := Aside0.mk (Kd.S_drew HO322.out)
      replace BK269 := Aside0.mk (blk_drew BK269.out)
      replace BK270 := Aside0.mk (blk_drew BK270.out)
      replace BK310 := Aside0.mk (blk_drew BK310.out)
      replace BK323 := Aside0.mk (blk_drew BK323.out)
      replace HB := Aside0.mk (below_drew1 HB.out)
      refine start_ (n := 5) (S := fun w' => w'.cell? ⟨gb323, 0, none⟩ = some (.slice Ao65 t311.length co65) ∧ w'.cell? ⟨gb323, 1, none⟩ = some (.slice Ao70 t314.length co70) ∧ w'.cell? ⟨gb323, 2, none⟩ = some (.slice Ao71 t317.length co71) ∧ w'.cell? ⟨gb323, 3, none⟩ = some (.slice Ao72 t320.length co72) ∧ w'.cell? ⟨gb270, 0, none⟩ = some (.slice A1_0 l1_0.length c1_0) ∧ w'.cell? ⟨gb270, 1, none⟩ = some (.slice A1_1 l1_1.length c1_1) ∧ w'.cell? ⟨gb270, 2, none⟩ = some (.slice A1_2 l1_2.length c1_2) ∧ w'.cell? ⟨gb270, 3, none⟩ = some (.slice A1_3 l1_3.length c1_3)) (ds := []) #[false, false, false, false, false] (by kernel_rfl) rfl rfl ⟨kC BK323.out 0 rfl, kC BK323.out 1 rfl, kC BK323.out 2 rfl, kC BK323.out 3 rfl, kC BK270.out 0 rfl, kC BK270.out 1 rfl, kC BK270.out 2 rfl, kC BK270.out 3 rfl⟩ (fun hHeld => ?_)
      generalize w82.drew = w83 at HO313 HO316 HO319 HO322 BK269 BK270 BK310 BK323 HB hHeld ⊢
      refine take_ (i := 0) (N := some 40) (v := ?_) (a' := ?_) #[true, false, false, false, false] rfl rfl (by kernel_rfl) (fun _ _ _ h => h) (Or.inl ⟨by rfl, ?_⟩) hHeld ?_ ?_
      rotate_left
      ·rintro w' ⟨s0, s1, s2, s3, s4, s5, s6, s7⟩
       go_simp
       with_reducible rfl
      rotate_left
      ·simp only [Act.put, List.setIfInBounds_toArray, List.set_cons_zero, List.set_cons_succ, i64_w, i32_w]
       rfl
      refine take_ (i := 1) (N := some 41) (v := ?_) (a' := ?_) #[true, true, false, false, false] rfl rfl (by kernel_rfl) (fun _ _ _ h => h) (Or.inl ⟨by rfl, ?_⟩) hHeld ?_ ?_
      rotate_left
      ·rintro w' ⟨s0, s1, s2, s3, s4, s5, s6, s7⟩
       go_simp
       with_reducible rfl
      rotate_left
      ·simp only [Act.put, List.setIfInBounds_toArray, List.set_cons_zero, List.set_cons_succ, i64_w, i32_w]
       rfl
      refine one_ (i := 2) (N := some 42) #[true, true, true, false, false] rfl rfl (by kernel_rfl) (by decide) (fun K hK => ?_)
      refine goes_ Try.func51 (by kernel_rfl) rfl #[.agg #[.slice A1_0 l1_0.length c1_0, .slice A1_1 l1_1.length c1_1, .slice A1_2 l1_2.length c1_2, .slice A1_3 l1_3.length c1_3]] (by rfl) rfl rfl (by (try simp only [List.map_toArray, List.map_cons, List.map_nil]); first | done | rfl | (simp only [List.length_drop, List.length_take]; rfl)) ?_
      with_reducible refine (laws_toPlan.calls k _ _ l1_0 _ _ l1_1 _ _ l1_2 _ _ l1_3 t338 t341 t344 t347 _ ?side1 ?side2 ?side3 ?side4 ?side5 ?side6 ?side7 ?side8 A29.out).mono ?_
      (case side1 => exact cS (Kd.C_below HR1_0.out HB.out))
      (case side2 => exact HC1_0.out)
      (case side3 => exact cS (Kd.C_below HR1_1.out HB.out))
      (case side4 => exact HC1_1.out)
      (case side5 => exact cS (Kd.C_below HR1_2.out HB.out))
      (case side6 => exact HC1_2.out)
      (case side7 => exact cS (Kd.C_below HR1_3.out HB.out))
      (case side8 => exact HC1_3.out)
      rintro e w84 ⟨v339, v342, v345, v348, rfl, ho0, ho1, ho2, ho3, hb⟩
      refine ⟨_, rfl, ?_⟩
      replace HO313 := Aside0.mk (Kd.R_below (rS HO313.out) hb)
      replace HO316 := Aside0.mk (Kd.R_below (rS HO316.out) hb)
      replace HO319 := Aside0.mk (Kd.R_below (rS HO319.out) hb)
      replace HO322 := Aside0.mk (Kd.S_below (by (with_reducible repeat (first | apply Kd.S_alloc | apply Kd.S_drewN | apply Kd.S_drew)); exact HO322.out) hb)
      have HO340 := Aside0.mk (Kd.R_lower ho0 (below_size (bS HB.out)))
      have HO343 := Aside0.mk (Kd.R_lower ho1 (below_size (bS HB.out)))
      have HO346 := Aside0.mk (Kd.R_lower ho2 (below_size (bS HB.out)))
      have HO349 := Aside0.mk (Kd.S_lower ho3 (below_size (bS HB.out)))
      replace BK269 := Aside0.mk (kS BK269.out hb)
      replace BK270 := Aside0.mk (kS BK270.out hb)
      replace BK310 := Aside0.mk (kS BK310.out hb)
      replace BK323 := Aside0.mk (kS BK323.out hb)
      replace HB := Aside0.mk (below_step (bS HB.out) hb)
      (try clear hb)
      (try clear hb2)
      (try clear hk)
      (try clear hi)
      (try clear ho0)
      (try clear ho1)
      (try clear ho2)
      (try clear ho3)
      obtain ⟨Ao85, co85, eo85⟩ := Kd.R_slice HO340.out
      (first | subst eo85 | (injection eo85 with f1_ f2_ f3_; have f4_ := f1_.symm; have f5_ := f3_.symm; clear f1_ f2_ f3_; subst f4_; subst f5_))
      obtain ⟨Ao86, co86, eo86⟩ := Kd.R_slice HO343.out
      (first | subst eo86 | (injection eo86 with f1_ f2_ f3_; have f4_ := f1_.symm; have f5_ := f3_.symm; clear f1_ f2_ f3_; subst f4_; subst f5_))
      obtain ⟨Ao87, co87, eo87⟩ := Kd.R_slice HO346.out
      (first | subst eo87 | (injection eo87 with f1_ f2_ f3_; have f4_ := f1_.symm; have f5_ := f3_.symm; clear f1_ f2_ f3_; subst f4_; subst f5_))
      obtain ⟨Ao88, co88, eo88⟩ := Kd.S_slice HO349.out
      (first | subst eo88 | (injection eo88 with f1_ f2_ f3_; have f4_ := f1_.symm; have f5_ := f3_.symm; clear f1_ f2_ f3_; subst f4_; subst f5_))
      refine hK.out _ _ ⟨kC BK323.out 0 rfl, kC BK323.out 1 rfl, kC BK323.out 2 rfl, kC BK323.out 3 rfl, kC BK270.out 0 rfl, kC BK270.out 1 rfl, kC BK270.out 2 rfl, kC BK270.out 3 rfl⟩ (fun hHeld => ?_)
      clear hK K
      refine norm_ (a' := ?_) ?_ ?_
      rotate_left
      ·show Act.put _ (some 42) _ = _
       simp only [Act.put, List.setIfInBounds_toArray, List.set_cons_zero, List.set_cons_succ, i64_w, i32_w]
       rfl
      refine one_ (i := 3) (N := some 43) #[true, true, true, true, false] rfl rfl (by kernel_rfl) (by decide) (fun K hK => ?_)
      refine goes_ Try.func53 (by kernel_rfl) rfl #[.agg #[.slice Ao65 t311.length co65, .slice Ao70 t314.length co70, .slice Ao71 t317.length co71, .slice Ao72 t320.length co72], .agg #[.slice Ao85 t338.length co85, .slice Ao86 t341.length co86, .slice Ao87 t344.length co87, .slice Ao88 t347.length co88]] (by rfl) rfl rfl (by (try simp only [List.map_toArray, List.map_cons, List.map_nil]); first | done | rfl | (simp only [List.length_drop, List.length_take]; rfl)) ?_
      with_reducible refine (laws_eqPlan.calls k _ _ t311 _ _ t314 _ _ t317 _ _ t320 _ _ t338 _ _ t341 _ _ t344 _ _ t347 true _ ?side1 ?side2 ?side3 ?side4 ?side5 ?side6 ?side7 ?side8 ?side9 ?side10 ?side11 ?side12 ?side13 ?side14 ?side15 ?side16 A30.out).mono ?_
      (case side1 => exact cS (Kd.R_reads' HO313.out).2.2)
      (case side2 => exact (Kd.R_reads' HO313.out).2.1)
      (case side3 => exact cS (Kd.R_reads' HO316.out).2.2)
      (case side4 => exact (Kd.R_reads' HO316.out).2.1)
      (case side5 => exact cS (Kd.R_reads' HO319.out).2.2)
      (case side6 => exact (Kd.R_reads' HO319.out).2.1)
      (case side7 => repeat (first | exact (Kd.S_reads' HO322.out).2.2 | (with_reducible refine Kd.C_alloc ?_ _) | (with_reducible refine Kd.C_drewN ?_ _) | (with_reducible refine Kd.C_drew ?_)))
      (case side8 => exact (Kd.S_reads' HO322.out).2.1)
      (case side9 => exact cS (Kd.R_reads' HO340.out).2.2)
      (case side10 => exact (Kd.R_reads' HO340.out).2.1)
      (case side11 => exact cS (Kd.R_reads' HO343.out).2.2)
      (case side12 => exact (Kd.R_reads' HO343.out).2.1)
      (case side13 => exact cS (Kd.R_reads' HO346.out).2.2)
      (case side14 => exact (Kd.R_reads' HO346.out).2.1)
      (case side15 => repeat (first | exact (Kd.S_reads' HO349.out).2.2 | (with_reducible refine Kd.C_alloc ?_ _) | (with_reducible refine Kd.C_drewN ?_ _) | (with_reducible refine Kd.C_drew ?_)))
      (case side16 => exact (Kd.S_reads' HO349.out).2.1)
      rintro e w89 ⟨rfl, hb⟩
      refine ⟨_, rfl, ?_⟩
      replace HO313 := Aside0.mk (Kd.R_below (rS HO313.out) hb)
      replace HO316 := Aside0.mk (Kd.R_below (rS HO316.out) hb)
      replace HO319 := Aside0.mk (Kd.R_below (rS HO319.out) hb)
      replace HO322 := Aside0.mk (Kd.S_below (by (with_reducible repeat (first | apply Kd.S_alloc | apply Kd.S_drewN | apply Kd.S_drew)); exact HO322.out) hb)
      replace HO340 := Aside0.mk (Kd.R_below (rS HO340.out) hb)
      replace HO343 := Aside0.mk (Kd.R_below (rS HO343.out) hb)
      replace HO346 := Aside0.mk (Kd.R_below (rS HO346.out) hb)
      replace HO349 := Aside0.mk (Kd.S_below (by (with_reducible repeat (first | apply Kd.S_alloc | apply Kd.S_drewN | apply Kd.S_drew)); exact HO349.out) hb)
      replace BK269 := Aside0.mk (kS BK269.out hb)
      replace BK270 := Aside0.mk (kS BK270.out hb)
      replace BK310 := Aside0.mk (kS BK310.out hb)
      replace BK323 := Aside0.mk (kS BK323.out hb)
      replace HB := Aside0.mk (below_step (bS HB.out) hb)
      (try clear hb)
      (try clear hb2)
      (try clear hk)
      (try clear hi)
      refine hK.out _ _ ⟨kC BK323.out 0 rfl, kC BK323.out 1 rfl, kC BK323.out 2 rfl, kC BK323.out 3 rfl, kC BK270.out 0 rfl, kC BK270.out 1 rfl, kC BK270.out 2 rfl, kC BK270.out 3 rfl⟩ (fun hHeld => ?_)
      clear hK K
      refine norm_ (a' := ?_) ?_ ?_
      rotate_left
      ·show Act.put _ (some 43) _ = _
       simp only [Act.put, List.setIfInBounds_toArray, List.set_cons_zero, List.set_cons_succ, i64_w, i32_w]
       rfl
      refine pure_ (i := 4) (N := some 44) (v := ?_) (a' := ?_) #[true, true, true, true, true] rfl rfl (by kernel_rfl) (fun _ _ _ h => h) (Or.inl ⟨by rfl, ?_⟩) ?_ ?_
      rotate_left
      ·intro w'
       go_simp
       with_reducible rfl
      rotate_left
      ·simp only [Act.put, List.setIfInBounds_toArray, List.set_cons_zero, List.set_cons_succ, i64_w, i32_w]
       rfl
      refine done_ (by kernel_rfl) ?_
      try go_wp2
      go_ret
      exact ⟨by first | rfl | (simp [errW_none, errW_some] <;> rfl) | (simp [*, errW_none, errW_some] <;> rfl), by repeat (first | (with_reducible first | exact HB.out | apply below_alloc | apply pw_below_drewN | apply below_drew1 | refine below_set ?_ GE269.out | refine below_set ?_ GE270.out | refine below_set ?_ GE310.out | refine below_set ?_ GE323.out) | exact HB.out)⟩
     ·replace c31 := Bool.eq_false_iff.mpr c31
      subst c31
      have H1 : (none) = some r := by rw [if_neg (show ¬ (false = true) by decide)] at H; exact H
      clear H
      have H := H1
      clear H1
      exact absurd H (by simp)
    ·replace c28 := Bool.eq_false_iff.mpr c28
     subst c28
     have H1 : (none) = some r := by rw [if_neg (show ¬ (false = true) by decide)] at H; exact H
     clear H
     have H := H1
     clear H1
     exact absurd H (by simp)

end Go.Proofs.Ytnecbgeljanhiaa.PFnExactPlanSame
