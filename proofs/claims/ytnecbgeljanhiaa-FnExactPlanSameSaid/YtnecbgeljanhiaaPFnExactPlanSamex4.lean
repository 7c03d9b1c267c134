-- written by wip/tools/myprint.py out of the program's own print
import Derived.Test.YtnecbgeljanhiaaPFnExactPlanSamex0
import Derived.Test.YtnecbgeljanhiaaPFnExactPlanSamex1
import Derived.Test.YtnecbgeljanhiaaPFnExactPlanSamex2
import Derived.Test.YtnecbgeljanhiaaPFnExactPlanSamex3
namespace Go.Proofs.Ytnecbgeljanhiaa.PFnExactPlanSame
open Go.Proofs.Ytnecbgeljanhiaa.Own (rS cS bS rB rN rT kS kC kc10 kf10)
open Go.RowKit Go.Proofs.YtnecbgeljanhiaaW.PrintWords Go.Proofs.YtnecbgeljanhiaaW.PrintLast Go.Proofs.YtnecbgeljanhiaaW.PrintMore
attribute [local go_sem] max2_int min2_int max_two min_two max_three min_three max_four min_four   -- for this text's walks alone
set_option linter.unusedVariables false
set_option linter.unusedSimpArgs false

attribute [local go_sem high] eqA96
/-! ### spec_PlanSame: function 50 -/
mutual
def spec_PlanSame.j0 : Nat → Bool → List Int → List Int → List (S96) → List (S142) → List Int → List Int → List (S96) → List (S142) → Option (Bool)
 | 0, _, _, _, _, _, _, _, _, _ => none
 | k + 1, x38, x130000, x130001, x130002, x130003, x131000, x131001, x131002, x131003 => if x38 = true then (some false) else (spec_PlanSame.l0 k 0 x130000 x130001 x130002 x130003 x131000 x131001 x131002 x131003)
def spec_PlanSame.l0 : Nat → Int → List Int → List Int → List (S96) → List (S142) → List Int → List Int → List (S96) → List (S142) → Option (Bool)
 | 0, _, _, _, _, _, _, _, _, _ => none
 | k + 1, x5, x130000, x130001, x130002, x130003, x131000, x131001, x131002, x131003 => if x5 < (x130002.length : Int) then (if 0 ≤ x5 then (if x5 < (x131002.length : Int) then (if (!(((rd_T96 x130002 x5).f0) == ((rd_T96 x131002 x5).f0)) || (!(((rd_T96 x130002 x5).f1) == ((rd_T96 x131002 x5).f1)))) = true then (some false) else (spec_PlanSame.l0 k (wrap64 (x5 + 1)) x130000 x130001 x130002 x130003 x131000 x131001 x131002 x131003)) else (none)) else (none)) else (spec_PlanSame.l1 k 0 x130000 x130001 x130002 x130003 x131000 x131001 x131002 x131003)
def spec_PlanSame.l1 : Nat → Int → List Int → List Int → List (S96) → List (S142) → List Int → List Int → List (S96) → List (S142) → Option (Bool)
 | 0, _, _, _, _, _, _, _, _, _ => none
 | k + 1, x6, x130000, x130001, x130002, x130003, x131000, x131001, x131002, x131003 => if x6 < (x130003.length : Int) then (if 0 ≤ x6 then (if x6 < (x131003.length : Int) then ((spec_l17SameEffect.f k ((rd_T142 x130003 x6).f0) ((rd_T142 x130003 x6).f1) ((rd_T142 x130003 x6).f2) ((rd_T142 x130003 x6).f3) ((rd_T142 x130003 x6).f4) ((rd_T142 x130003 x6).f5) ((rd_T142 x130003 x6).f6) ((rd_T142 x130003 x6).f7) ((rd_T142 x130003 x6).f8) ((rd_T142 x130003 x6).f9) ((rd_T142 x131003 x6).f0) ((rd_T142 x131003 x6).f1) ((rd_T142 x131003 x6).f2) ((rd_T142 x131003 x6).f3) ((rd_T142 x131003 x6).f4) ((rd_T142 x131003 x6).f5) ((rd_T142 x131003 x6).f6) ((rd_T142 x131003 x6).f7) ((rd_T142 x131003 x6).f8) ((rd_T142 x131003 x6).f9)).bind fun t137 => (if t137 = true then (spec_PlanSame.l1 k (wrap64 (x6 + 1)) x130000 x130001 x130002 x130003 x131000 x131001 x131002 x131003) else (some false))) else (none)) else (none)) else (some true)
end
def spec_PlanSame.f (k : Nat) (l0_0 : List Int) (l0_1 : List Int) (l0_2 : List (S96)) (l0_3 : List (S142)) (l1_0 : List Int) (l1_1 : List Int) (l1_2 : List (S96)) (l1_3 : List (S142)) : Option (Bool) := (spec_l4Equal.f k l0_0 l1_0).bind fun t131 => (if t131 = true then ((spec_l4Equal.f k l0_1 l1_1).bind fun t132 => (if t132 = true then (if (l0_2.length : Int) = (l1_2.length : Int) then (spec_PlanSame.j0 k ((l0_3.length : Int) != (l1_3.length : Int)) l0_0 l0_1 l0_2 l0_3 l1_0 l1_1 l1_2 l1_3) else (spec_PlanSame.j0 k true l0_0 l0_1 l0_2 l0_3 l1_0 l1_1 l1_2 l1_3)) else (spec_PlanSame.j0 k true l0_0 l0_1 l0_2 l0_3 l1_0 l1_1 l1_2 l1_3))) else (spec_PlanSame.j0 k true l0_0 l0_1 l0_2 l0_3 l1_0 l1_1 l1_2 l1_3))
theorem spec_PlanSame.mono_l : ∀ k, (∀ y0 y1 y2 y3 y4 y5 y6 y7 y8, LeO (spec_PlanSame.j0 k y0 y1 y2 y3 y4 y5 y6 y7 y8) (spec_PlanSame.j0 (k + 1) y0 y1 y2 y3 y4 y5 y6 y7 y8)) ∧ (∀ y0 y1 y2 y3 y4 y5 y6 y7 y8, LeO (spec_PlanSame.l0 k y0 y1 y2 y3 y4 y5 y6 y7 y8) (spec_PlanSame.l0 (k + 1) y0 y1 y2 y3 y4 y5 y6 y7 y8)) ∧ (∀ y0 y1 y2 y3 y4 y5 y6 y7 y8, LeO (spec_PlanSame.l1 k y0 y1 y2 y3 y4 y5 y6 y7 y8) (spec_PlanSame.l1 (k + 1) y0 y1 y2 y3 y4 y5 y6 y7 y8))
 | 0 => ⟨fun _ _ _ _ _ _ _ _ _ r h => by simp [spec_PlanSame.j0] at h, fun _ _ _ _ _ _ _ _ _ r h => by simp [spec_PlanSame.l0] at h, fun _ _ _ _ _ _ _ _ _ r h => by simp [spec_PlanSame.l1] at h⟩
 | k + 1 => by
  obtain ⟨ih0, ih1, ih2⟩ := spec_PlanSame.mono_l k
  refine ⟨?_, ?_, ?_⟩
  ·intro y0 y1 y2 y3 y4 y5 y6 y7 y8
   unfold spec_PlanSame.j0
   repeat' first
   | (with_reducible exact ih0 _ _ _ _ _ _ _ _ _)
   | (with_reducible exact ih1 _ _ _ _ _ _ _ _ _)
   | (with_reducible exact ih2 _ _ _ _ _ _ _ _ _)
   | (with_reducible exact spec_l17SameEffect.mono _ _ _ _ _ _ _ _ _ _ _ _ _ _ _ _ _ _ _ _ _)
   | (with_reducible exact spec_l4Equal.mono _ _ _)
   | (with_reducible exact LeO.refl _)
   | (with_reducible exact LeO.none _)
   | (with_reducible refine LeO.ite ?_ ?_)
   | (with_reducible refine LeO.bind ?_ (fun _ => ?_))
   | exact ih0 _ _ _ _ _ _ _ _ _
   | exact ih1 _ _ _ _ _ _ _ _ _
   | exact ih2 _ _ _ _ _ _ _ _ _
   | exact spec_l17SameEffect.mono _ _ _ _ _ _ _ _ _ _ _ _ _ _ _ _ _ _ _ _ _
   | exact spec_l4Equal.mono _ _ _
   | exact LeO.none _
   | refine LeO.ite ?_ ?_
   | refine LeO.bind ?_ (fun _ => ?_)
  ·intro y0 y1 y2 y3 y4 y5 y6 y7 y8
   unfold spec_PlanSame.l0
   repeat' first
   | (with_reducible exact ih0 _ _ _ _ _ _ _ _ _)
   | (with_reducible exact ih1 _ _ _ _ _ _ _ _ _)
   | (with_reducible exact ih2 _ _ _ _ _ _ _ _ _)
   | (with_reducible exact spec_l17SameEffect.mono _ _ _ _ _ _ _ _ _ _ _ _ _ _ _ _ _ _ _ _ _)
   | (with_reducible exact spec_l4Equal.mono _ _ _)
   | (with_reducible exact LeO.refl _)
   | (with_reducible exact LeO.none _)
   | (with_reducible refine LeO.ite ?_ ?_)
   | (with_reducible refine LeO.bind ?_ (fun _ => ?_))
   | exact ih0 _ _ _ _ _ _ _ _ _
   | exact ih1 _ _ _ _ _ _ _ _ _
   | exact ih2 _ _ _ _ _ _ _ _ _
   | exact spec_l17SameEffect.mono _ _ _ _ _ _ _ _ _ _ _ _ _ _ _ _ _ _ _ _ _
   | exact spec_l4Equal.mono _ _ _
   | exact LeO.none _
   | refine LeO.ite ?_ ?_
   | refine LeO.bind ?_ (fun _ => ?_)
  ·intro y0 y1 y2 y3 y4 y5 y6 y7 y8
   unfold spec_PlanSame.l1
   repeat' first
   | (with_reducible exact ih0 _ _ _ _ _ _ _ _ _)
   | (with_reducible exact ih1 _ _ _ _ _ _ _ _ _)
   | (with_reducible exact ih2 _ _ _ _ _ _ _ _ _)
   | (with_reducible exact spec_l17SameEffect.mono _ _ _ _ _ _ _ _ _ _ _ _ _ _ _ _ _ _ _ _ _)
   | (with_reducible exact spec_l4Equal.mono _ _ _)
   | (with_reducible exact LeO.refl _)
   | (with_reducible exact LeO.none _)
   | (with_reducible refine LeO.ite ?_ ?_)
   | (with_reducible refine LeO.bind ?_ (fun _ => ?_))
   | exact ih0 _ _ _ _ _ _ _ _ _
   | exact ih1 _ _ _ _ _ _ _ _ _
   | exact ih2 _ _ _ _ _ _ _ _ _
   | exact spec_l17SameEffect.mono _ _ _ _ _ _ _ _ _ _ _ _ _ _ _ _ _ _ _ _ _
   | exact spec_l4Equal.mono _ _ _
   | exact LeO.none _
   | refine LeO.ite ?_ ?_
   | refine LeO.bind ?_ (fun _ => ?_)
theorem spec_PlanSame.mono : ∀ a0 a1 a2 a3 a4 a5 a6 a7 k, LeO (spec_PlanSame.f k a0 a1 a2 a3 a4 a5 a6 a7) (spec_PlanSame.f (k + 1) a0 a1 a2 a3 a4 a5 a6 a7) := by
 intro a0 a1 a2 a3 a4 a5 a6 a7 k
 obtain ⟨ih0, ih1, ih2⟩ := spec_PlanSame.mono_l k
 unfold spec_PlanSame.f
 repeat' first
   | (with_reducible exact ih0 _ _ _ _ _ _ _ _ _)
   | (with_reducible exact ih1 _ _ _ _ _ _ _ _ _)
   | (with_reducible exact ih2 _ _ _ _ _ _ _ _ _)
   | (with_reducible exact spec_l17SameEffect.mono _ _ _ _ _ _ _ _ _ _ _ _ _ _ _ _ _ _ _ _ _)
   | (with_reducible exact spec_l4Equal.mono _ _ _)
   | (with_reducible exact LeO.refl _)
   | (with_reducible exact LeO.none _)
   | (with_reducible refine LeO.ite ?_ ?_)
   | (with_reducible refine LeO.bind ?_ (fun _ => ?_))
   | exact ih0 _ _ _ _ _ _ _ _ _
   | exact ih1 _ _ _ _ _ _ _ _ _
   | exact ih2 _ _ _ _ _ _ _ _ _
   | exact spec_l17SameEffect.mono _ _ _ _ _ _ _ _ _ _ _ _ _ _ _ _ _ _ _ _ _
   | exact spec_l4Equal.mono _ _ _
   | exact LeO.none _
   | refine LeO.ite ?_ ?_
   | refine LeO.bind ?_ (fun _ => ?_)
def spec_PlanSame.T6 : Bool × List (List Nat × List Nat) := (true, [([], []), ([0], [0]), ([], []), ([1, 2], [1, 2]), ([3], [3]), ([], []), ([5], [5]), ([], []), ([6, 7], [6, 7]), ([8], [8]), ([4, 9], [4, 9])])
def spec_PlanSame.B6 : List Nat := [0, 1, 0, 7, 15, 0, 32, 0, 224, 480, 1023]
theorem spec_PlanSame.tab6 : rtab .any (opsOf Try.f50 6) = spec_PlanSame.T6 := by kernel_rfl
theorem spec_PlanSame.bits6 : waitsOk spec_PlanSame.T6.2 spec_PlanSame.B6 = true := by kernel_rfl
def spec_PlanSame.T11 : Bool × List (List Nat × List Nat) := (true, [([], []), ([0], [0]), ([], []), ([1, 2], [1, 2]), ([3], [3]), ([], []), ([5], [5]), ([], []), ([6, 7], [6, 7]), ([8], [8]), ([4, 9], [4, 9]), ([10], [10])])
def spec_PlanSame.B11 : List Nat := [0, 1, 0, 7, 15, 0, 32, 0, 224, 480, 1023, 2047]
theorem spec_PlanSame.tab11 : rtab .any (opsOf Try.f50 11) = spec_PlanSame.T11 := by kernel_rfl
theorem spec_PlanSame.bits11 : waitsOk spec_PlanSame.T11.2 spec_PlanSame.B11 = true := by kernel_rfl
set_option maxHeartbeats 8000000 in
set_option maxRecDepth 100000 in
theorem spec_PlanSame.calls (k : Nat) (A0_0 : Option Addr) (c0_0 : Nat) (l0_0 : List Int) (A0_1 : Option Addr) (c0_1 : Nat) (l0_1 : List Int) (A0_2 : Option Addr) (c0_2 : Nat) (l0_2 : List (S96)) (A0_3 : Option Addr) (c0_3 : Nat) (l0_3 : List (S142)) (A1_0 : Option Addr) (c1_0 : Nat) (l1_0 : List Int) (A1_1 : Option Addr) (c1_1 : Nat) (l1_1 : List Int) (A1_2 : Option Addr) (c1_2 : Nat) (l1_2 : List (S96)) (A1_3 : Option Addr) (c1_3 : Nat) (l1_3 : List (S142)) (r : Bool) (w : World) (hr0_0 : Kd.C (Kd.int .i64) w A0_0 l0_0.length l0_0) (hc0_0 : l0_0.length ≤ c0_0) (hr0_1 : Kd.C (Kd.int .i64) w A0_1 l0_1.length l0_1) (hc0_1 : l0_1.length ≤ c0_1) (hr0_2 : Kd.C k96 w A0_2 l0_2.length l0_2) (hc0_2 : l0_2.length ≤ c0_2) (hr0_3 : Kd.C k142 w A0_3 l0_3.length l0_3) (hc0_3 : l0_3.length ≤ c0_3) (hr1_0 : Kd.C (Kd.int .i64) w A1_0 l1_0.length l1_0) (hc1_0 : l1_0.length ≤ c1_0) (hr1_1 : Kd.C (Kd.int .i64) w A1_1 l1_1.length l1_1) (hc1_1 : l1_1.length ≤ c1_1) (hr1_2 : Kd.C k96 w A1_2 l1_2.length l1_2) (hc1_2 : l1_2.length ≤ c1_2) (hr1_3 : Kd.C k142 w A1_3 l1_3.length l1_3) (hc1_3 : l1_3.length ≤ c1_3) (h : spec_PlanSame.f k l0_0 l0_1 l0_2 l0_3 l1_0 l1_1 l1_2 l1_3 = some r) :
  Calls Try.prog 50 #[.agg #[.slice A0_0 l0_0.length c0_0, .slice A0_1 l0_1.length c0_1, .slice A0_2 l0_2.length c0_2, .slice A0_3 l0_3.length c0_3], .agg #[.slice A1_0 l1_0.length c1_0, .slice A1_1 l1_1.length c1_1, .slice A1_2 l1_2.length c1_2, .slice A1_3 l1_3.length c1_3]] w fun e w' => e = .returned (.bool r) ∧ Below w.heap.size w w' := by
 have hu69 := Try.underlying69
 have hu96 := Try.underlying96
 have hu142 := Try.underlying142
 have HR0_0 := Aside0.mk hr0_0
 have HC0_0 := Aside0.mk hc0_0
 clear hr0_0 hc0_0
 have HR0_1 := Aside0.mk hr0_1
 have HC0_1 := Aside0.mk hc0_1
 clear hr0_1 hc0_1
 have HR0_2 := Aside0.mk hr0_2
 have HC0_2 := Aside0.mk hc0_2
 clear hr0_2 hc0_2
 have HR0_3 := Aside0.mk hr0_3
 have HC0_3 := Aside0.mk hc0_3
 clear hr0_3 hc0_3
 have HR1_0 := Aside0.mk hr1_0
 have HC1_0 := Aside0.mk hc1_0
 clear hr1_0 hc1_0
 have HR1_1 := Aside0.mk hr1_1
 have HC1_1 := Aside0.mk hc1_1
 clear hr1_1 hc1_1
 have HR1_2 := Aside0.mk hr1_2
 have HC1_2 := Aside0.mk hc1_2
 clear hr1_2 hc1_2
 have HR1_3 := Aside0.mk hr1_3
 have HC1_3 := Aside0.mk hc1_3
 clear hr1_3 hc1_3
 have HB := Aside0.mk (Below.refl w.heap.size w)
 have H : ((spec_l4Equal.f k l0_0 l1_0).bind fun t131 => (if t131 = true then ((spec_l4Equal.f k l0_1 l1_1).bind fun t132 => (if t132 = true then (if (l0_2.length : Int) = (l1_2.length : Int) then (spec_PlanSame.j0 k ((l0_3.length : Int) != (l1_3.length : Int)) l0_0 l0_1 l0_2 l0_3 l1_0 l1_1 l1_2 l1_3) else (spec_PlanSame.j0 k true l0_0 l0_1 l0_2 l0_3 l1_0 l1_1 l1_2 l1_3)) else (spec_PlanSame.j0 k true l0_0 l0_1 l0_2 l0_3 l1_0 l1_1 l1_2 l1_3))) else (spec_PlanSame.j0 k true l0_0 l0_1 l0_2 l0_3 l1_0 l1_1 l1_2 l1_3))) = some r := h
 clear h
 have HC3 := Aside0.mk H
 clear H
 go_enter Try.func50, Try.ntmps50
 go_upto_region 1 with (first | ((with_reducible refine gate_dst (N := 2) rfl ?_); (try (refine gate_guard (by rfl) ?_; dsimp only)); refine box_event ?hg (N := 2) ?hd (cs := #[.slice A0_0 l0_0.length c0_0, .slice A0_1 l0_1.length c0_1, .slice A0_2 l0_2.length c0_2, .slice A0_3 l0_3.length c0_3]) (t := 69) ?hr ?_; (case hd => rfl); (case hg => rfl); (case hr => first | (go_simp; done) | (go_simp; rfl)); intro gb129 hg w4 hbox hb; have n0_ := Aside0.mk (below_step (bS HB.out) hb); have BK129 := Aside0.mk (hbox); have GW129 := Aside0.mk ((by rw [hg]; exact (below_size (bS HB.out)) : w.heap.size ≤ gb129)); have GE129 := Aside0.mk ((by rw [hg]; exact (below_size (bS HB.out)) : w.heap.size ≤ gb129)); clear HB; have HB := n0_; clear n0_; clear hb hbox hg) | ((with_reducible refine gate_dst (N := 3) rfl ?_); (try (refine gate_guard (by rfl) ?_; dsimp only)); refine box_event ?hg (N := 3) ?hd (cs := #[.slice A1_0 l1_0.length c1_0, .slice A1_1 l1_1.length c1_1, .slice A1_2 l1_2.length c1_2, .slice A1_3 l1_3.length c1_3]) (t := 69) ?hr ?_; (case hd => rfl); (case hg => rfl); (case hr => first | (go_simp; done) | (go_simp; rfl)); intro gb130 hg w5 hbox hb; have n0_ := Aside0.mk (kS BK129.out hb); have n1_ := Aside0.mk (below_step (by repeat (first | (with_reducible first | exact HB.out | apply below_alloc | apply pw_below_drewN | apply below_drew1 | refine below_set ?_ GE129.out) | exact HB.out)) hb); have BK130 := Aside0.mk (hbox); have GW130 := Aside0.mk ((by rw [hg]; exact (below_size (by repeat (first | (with_reducible first | exact HB.out | apply below_alloc | apply pw_below_drewN | apply below_drew1 | refine below_set ?_ GE129.out) | exact HB.out))) : w.heap.size ≤ gb130)); have GE130 := Aside0.mk ((by rw [hg]; exact (below_size (by repeat (first | (with_reducible first | exact HB.out | apply below_alloc | apply pw_below_drewN | apply below_drew1 | refine below_set ?_ GE129.out) | exact HB.out))) : w.heap.size ≤ gb130)); have NB129_130 := Aside0.mk ((by rw [hg]; exact Nat.ne_of_lt (blk_lt (g := gb129) (o := .cells #[.slice A0_0 l0_0.length c0_0, .slice A0_1 l0_1.length c0_1, .slice A0_2 l0_2.length c0_2, .slice A0_3 l0_3.length c0_3] 69 (0, 0)) (by (with_reducible repeat (first | refine blk_drewN ?_ _ | refine blk_drew ?_ | refine blk_alloc ?_ _)); exact BK129.out)) : gb129 ≠ gb130)); have NB130_129 := Aside0.mk ((by rw [hg]; exact Nat.ne_of_gt (blk_lt (g := gb129) (o := .cells #[.slice A0_0 l0_0.length c0_0, .slice A0_1 l0_1.length c0_1, .slice A0_2 l0_2.length c0_2, .slice A0_3 l0_3.length c0_3] 69 (0, 0)) (by (with_reducible repeat (first | refine blk_drewN ?_ _ | refine blk_drew ?_ | refine blk_alloc ?_ _)); exact BK129.out)) : gb130 ≠ gb129)); clear BK129; clear HB; have BK129 := n0_; have HB := n1_; clear n0_ n1_; clear hb hbox hg))
 (try simp only [Act.put, List.setIfInBounds_toArray, List.set_cons_zero, List.set_cons_succ])
 go_cut [38] (fun v38 wc => ∃ (kq : Nat) (x38_2 : Bool), v38 = .bool x38_2 ∧ Aside0 (spec_PlanSame.j0 kq x38_2 l0_0 l0_1 l0_2 l0_3 l1_0 l1_1 l1_2 l1_3 = some r) ∧ Aside0 (kq ≤ k) ∧ Aside0 (wc.heap[gb129]? = some (.cells #[(.slice A0_0 l0_0.length c0_0), (.slice A0_1 l0_1.length c0_1), (.slice A0_2 l0_2.length c0_2), (.slice A0_3 l0_3.length c0_3)] 69 (0, 0))) ∧ Aside0 (wc.heap[gb130]? = some (.cells #[(.slice A1_0 l1_0.length c1_0), (.slice A1_1 l1_1.length c1_1), (.slice A1_2 l1_2.length c1_2), (.slice A1_3 l1_3.length c1_3)] 69 (0, 0))) ∧ Aside0 (Below w.heap.size w wc))
 case first =>
  have H := HC3.out
  clear HC3
  replace H := Option.bind_eq_some_iff.mp H
  obtain ⟨t131, A60, H⟩ := H
  (try dsimp only at H)
  have A6 := Aside0.mk A60
  clear A60
  by_cases c7 : t131 = true
  ·subst c7
   have H1 : ((spec_l4Equal.f k l0_1 l1_1).bind fun t132 => (if t132 = true then (if (l0_2.length : Int) = (l1_2.length : Int) then (spec_PlanSame.j0 k ((l0_3.length : Int) != (l1_3.length : Int)) l0_0 l0_1 l0_2 l0_3 l1_0 l1_1 l1_2 l1_3) else (spec_PlanSame.j0 k true l0_0 l0_1 l0_2 l0_3 l1_0 l1_1 l1_2 l1_3)) else (spec_PlanSame.j0 k true l0_0 l0_1 l0_2 l0_3 l1_0 l1_1 l1_2 l1_3))) = some r := by rw [if_pos rfl] at H; exact H
   clear H
   have H := H1
   clear H1
   replace H := Option.bind_eq_some_iff.mp H
   obtain ⟨t132, A80, H⟩ := H
   (try dsimp only at H)
   have A8 := Aside0.mk A80
   clear A80
   by_cases c9 : t132 = true
   ·subst c9
    have H1 : (if (l0_2.length : Int) = (l1_2.length : Int) then (spec_PlanSame.j0 k ((l0_3.length : Int) != (l1_3.length : Int)) l0_0 l0_1 l0_2 l0_3 l1_0 l1_1 l1_2 l1_3) else (spec_PlanSame.j0 k true l0_0 l0_1 l0_2 l0_3 l1_0 l1_1 l1_2 l1_3)) = some r := by rw [if_pos rfl] at H; exact H
    clear H
    have H := H1
    clear H1
    by_cases c10 : (l0_2.length : Int) = (l1_2.length : Int)
    ·rw [if_pos c10] at H
     have c10b0 : ((l0_2.length : Int) == (l1_2.length : Int)) = true := beq_iff_eq.mpr c10
     have c10b1 : ((l0_2.length : Int) != (l1_2.length : Int)) = false := bne_eq_false_iff_eq.mpr c10
     have c10b2 : (l0_2.length == l1_2.length) = true := by first | simpa using c10 | (simp at c10 ⊢; omega)
     clear c10
     (first | rw [c10b0] | (simp only [i64_w, i32_w]; rw [c10b0]) | skip)
     have H' := Aside0.mk H
     clear H
     have hnb11 := NB129_130.out
     have hnc11 := NB130_129.out
     have hcz12_0 : w5.cell? ⟨gb129, 0, none⟩ = some (.slice A0_0 l0_0.length c0_0) := kC BK129.out 0 rfl
     have hcz12_1 : w5.cell? ⟨gb129, 1, none⟩ = some (.slice A0_1 l0_1.length c0_1) := kC BK129.out 1 rfl
     have hcz12_2 : w5.cell? ⟨gb129, 2, none⟩ = some (.slice A0_2 l0_2.length c0_2) := kC BK129.out 2 rfl
     have hcz12_3 : w5.cell? ⟨gb129, 3, none⟩ = some (.slice A0_3 l0_3.length c0_3) := kC BK129.out 3 rfl
     have hfz12_0 := blk_frozen BK129.out 0
     have hfz12_1 := blk_frozen BK129.out 1
     have hfz12_2 := blk_frozen BK129.out 2
     have hfz12_3 := blk_frozen BK129.out 3
     have hcz13_0 : w5.cell? ⟨gb130, 0, none⟩ = some (.slice A1_0 l1_0.length c1_0) := kC BK130.out 0 rfl
     have hcz13_1 : w5.cell? ⟨gb130, 1, none⟩ = some (.slice A1_1 l1_1.length c1_1) := kC BK130.out 1 rfl
     have hcz13_2 : w5.cell? ⟨gb130, 2, none⟩ = some (.slice A1_2 l1_2.length c1_2) := kC BK130.out 2 rfl
     have hcz13_3 : w5.cell? ⟨gb130, 3, none⟩ = some (.slice A1_3 l1_3.length c1_3) := kC BK130.out 3 rfl
     have hfz13_0 := blk_frozen BK130.out 0
     have hfz13_1 := blk_frozen BK130.out 1
     have hfz13_2 := blk_frozen BK130.out 2
     have hfz13_3 := blk_frozen BK130.out 3
     go_wp2_with (first | ((with_reducible refine gate_callee (f := 89) rfl ?_); refine goesL_ (some 11) rfl rfl Try.func89 (by kernel_rfl) rfl #[.slice A0_0 l0_0.length c0_0, .slice A1_0 l1_0.length c1_0] rfl (by (try simp only [List.map_toArray, List.map_cons, List.map_nil]); first | done | rfl | (simp only [List.length_drop, List.length_take]; rfl)) ?_; (with_reducible refine (spec_l4Equal.calls k _ _ l0_0 _ _ l1_0 true _ ?side1 ?side2 ?side3 ?side4 A6.out).mono ?_); (case side1 => exact cS (Kd.C_below HR0_0.out HB.out)); (case side2 => exact HC0_0.out); (case side3 => exact cS (Kd.C_below HR1_0.out HB.out)); (case side4 => exact HC1_0.out); rintro e w' ⟨rfl, ⟨nd, rfl⟩⟩; refine ⟨_, rfl, ?_⟩) | (go_at_call 89; (with_reducible refine (spec_l4Equal.calls k _ _ l0_1 _ _ l1_1 true _ ?side1 ?side2 ?side3 ?side4 A8.out).mono ?_); (case side1 => repeat (first | exact (Kd.C_below HR0_1.out (by repeat (first | (with_reducible first | exact HB.out | apply below_alloc | apply pw_below_drewN | apply below_drew1 | refine below_set ?_ GE129.out | refine below_set ?_ GE130.out) | exact HB.out))) | (with_reducible refine Kd.C_alloc ?_ _) | (with_reducible refine Kd.C_drewN ?_ _) | (with_reducible refine Kd.C_drew ?_))); (case side2 => exact HC0_1.out); (case side3 => repeat (first | exact (Kd.C_below HR1_1.out (by repeat (first | (with_reducible first | exact HB.out | apply below_alloc | apply pw_below_drewN | apply below_drew1 | refine below_set ?_ GE129.out | refine below_set ?_ GE130.out) | exact HB.out))) | (with_reducible refine Kd.C_alloc ?_ _) | (with_reducible refine Kd.C_drewN ?_ _) | (with_reducible refine Kd.C_drew ?_))); (case side4 => exact HC1_1.out); rintro e w' ⟨rfl, ⟨nd, rfl⟩⟩))
     go_meet
     case rel => exact ⟨_, (((l0_3.length : Int) != (l1_3.length : Int))), (by first | rfl | (simp; done) | (simp [*]; done)), H', ⟨by first | omega | exact Nat.le_refl _⟩, ⟨by (with_reducible repeat (first | refine blk_drewN ?_ _ | refine blk_drew ?_ | refine blk_alloc ?_ _)); exact BK129.out⟩, ⟨by (with_reducible repeat (first | refine blk_drewN ?_ _ | refine blk_drew ?_ | refine blk_alloc ?_ _)); exact BK130.out⟩, ⟨by repeat (first | (with_reducible first | exact HB.out | apply below_alloc | apply pw_below_drewN | apply below_drew1 | refine below_set ?_ GE129.out | refine below_set ?_ GE130.out) | exact HB.out)⟩⟩
    ·rw [if_neg c10] at H
     have c10b0 : ((l0_2.length : Int) == (l1_2.length : Int)) = false := beq_eq_false_iff_ne.mpr c10
     have c10b1 : ((l0_2.length : Int) != (l1_2.length : Int)) = true := bne_iff_ne.mpr c10
     have c10b2 : (l0_2.length == l1_2.length) = false := by first | simpa using c10 | (simp at c10 ⊢; omega)
     (first | rw [c10b0] | (simp only [i64_w, i32_w]; rw [c10b0]) | skip)
     have H' := Aside0.mk H
     clear H
     have hnb14 := NB129_130.out
     have hnc14 := NB130_129.out
     have hcz15_0 : w5.cell? ⟨gb129, 0, none⟩ = some (.slice A0_0 l0_0.length c0_0) := kC BK129.out 0 rfl
     have hcz15_1 : w5.cell? ⟨gb129, 1, none⟩ = some (.slice A0_1 l0_1.length c0_1) := kC BK129.out 1 rfl
     have hcz15_2 : w5.cell? ⟨gb129, 2, none⟩ = some (.slice A0_2 l0_2.length c0_2) := kC BK129.out 2 rfl
     have hcz15_3 : w5.cell? ⟨gb129, 3, none⟩ = some (.slice A0_3 l0_3.length c0_3) := kC BK129.out 3 rfl
     have hfz15_0 := blk_frozen BK129.out 0
     have hfz15_1 := blk_frozen BK129.out 1
     have hfz15_2 := blk_frozen BK129.out 2
     have hfz15_3 := blk_frozen BK129.out 3
     have hcz16_0 : w5.cell? ⟨gb130, 0, none⟩ = some (.slice A1_0 l1_0.length c1_0) := kC BK130.out 0 rfl
     have hcz16_1 : w5.cell? ⟨gb130, 1, none⟩ = some (.slice A1_1 l1_1.length c1_1) := kC BK130.out 1 rfl
     have hcz16_2 : w5.cell? ⟨gb130, 2, none⟩ = some (.slice A1_2 l1_2.length c1_2) := kC BK130.out 2 rfl
     have hcz16_3 : w5.cell? ⟨gb130, 3, none⟩ = some (.slice A1_3 l1_3.length c1_3) := kC BK130.out 3 rfl
     have hfz16_0 := blk_frozen BK130.out 0
     have hfz16_1 := blk_frozen BK130.out 1
     have hfz16_2 := blk_frozen BK130.out 2
     have hfz16_3 := blk_frozen BK130.out 3
     go_wp2_with (first | ((with_reducible refine gate_callee (f := 89) rfl ?_); refine goesL_ (some 11) rfl rfl Try.func89 (by kernel_rfl) rfl #[.slice A0_0 l0_0.length c0_0, .slice A1_0 l1_0.length c1_0] rfl (by (try simp only [List.map_toArray, List.map_cons, List.map_nil]); first | done | rfl | (simp only [List.length_drop, List.length_take]; rfl)) ?_; (with_reducible refine (spec_l4Equal.calls k _ _ l0_0 _ _ l1_0 true _ ?side1 ?side2 ?side3 ?side4 A6.out).mono ?_); (case side1 => exact cS (Kd.C_below HR0_0.out HB.out)); (case side2 => exact HC0_0.out); (case side3 => exact cS (Kd.C_below HR1_0.out HB.out)); (case side4 => exact HC1_0.out); rintro e w' ⟨rfl, ⟨nd, rfl⟩⟩; refine ⟨_, rfl, ?_⟩) | (go_at_call 89; (with_reducible refine (spec_l4Equal.calls k _ _ l0_1 _ _ l1_1 true _ ?side1 ?side2 ?side3 ?side4 A8.out).mono ?_); (case side1 => repeat (first | exact (Kd.C_below HR0_1.out (by repeat (first | (with_reducible first | exact HB.out | apply below_alloc | apply pw_below_drewN | apply below_drew1 | refine below_set ?_ GE129.out | refine below_set ?_ GE130.out) | exact HB.out))) | (with_reducible refine Kd.C_alloc ?_ _) | (with_reducible refine Kd.C_drewN ?_ _) | (with_reducible refine Kd.C_drew ?_))); (case side2 => exact HC0_1.out); (case side3 => repeat (first | exact (Kd.C_below HR1_1.out (by repeat (first | (with_reducible first | exact HB.out | apply below_alloc | apply pw_below_drewN | apply below_drew1 | refine below_set ?_ GE129.out | refine below_set ?_ GE130.out) | exact HB.out))) | (with_reducible refine Kd.C_alloc ?_ _) | (with_reducible refine Kd.C_drewN ?_ _) | (with_reducible refine Kd.C_drew ?_))); (case side4 => exact HC1_1.out); rintro e w' ⟨rfl, ⟨nd, rfl⟩⟩))
     go_meet
     case rel => exact ⟨_, (true), (by first | rfl | (simp; done) | (simp [*]; done)), H', ⟨by first | omega | exact Nat.le_refl _⟩, ⟨by (with_reducible repeat (first | refine blk_drewN ?_ _ | refine blk_drew ?_ | refine blk_alloc ?_ _)); exact BK129.out⟩, ⟨by (with_reducible repeat (first | refine blk_drewN ?_ _ | refine blk_drew ?_ | refine blk_alloc ?_ _)); exact BK130.out⟩, ⟨by repeat (first | (with_reducible first | exact HB.out | apply below_alloc | apply pw_below_drewN | apply below_drew1 | refine below_set ?_ GE129.out | refine below_set ?_ GE130.out) | exact HB.out)⟩⟩
   ·replace c9 := Bool.eq_false_iff.mpr c9
    subst c9
    have H1 : (spec_PlanSame.j0 k true l0_0 l0_1 l0_2 l0_3 l1_0 l1_1 l1_2 l1_3) = some r := by rw [if_neg (show ¬ (false = true) by decide)] at H; exact H
    clear H
    have H := H1
    clear H1
    have H' := Aside0.mk H
    clear H
    have hnb17 := NB129_130.out
    have hnc17 := NB130_129.out
    have hcz18_0 : w5.cell? ⟨gb129, 0, none⟩ = some (.slice A0_0 l0_0.length c0_0) := kC BK129.out 0 rfl
    have hcz18_1 : w5.cell? ⟨gb129, 1, none⟩ = some (.slice A0_1 l0_1.length c0_1) := kC BK129.out 1 rfl
    have hcz18_2 : w5.cell? ⟨gb129, 2, none⟩ = some (.slice A0_2 l0_2.length c0_2) := kC BK129.out 2 rfl
    have hcz18_3 : w5.cell? ⟨gb129, 3, none⟩ = some (.slice A0_3 l0_3.length c0_3) := kC BK129.out 3 rfl
    have hfz18_0 := blk_frozen BK129.out 0
    have hfz18_1 := blk_frozen BK129.out 1
    have hfz18_2 := blk_frozen BK129.out 2
    have hfz18_3 := blk_frozen BK129.out 3
    have hcz19_0 : w5.cell? ⟨gb130, 0, none⟩ = some (.slice A1_0 l1_0.length c1_0) := kC BK130.out 0 rfl
    have hcz19_1 : w5.cell? ⟨gb130, 1, none⟩ = some (.slice A1_1 l1_1.length c1_1) := kC BK130.out 1 rfl
    have hcz19_2 : w5.cell? ⟨gb130, 2, none⟩ = some (.slice A1_2 l1_2.length c1_2) := kC BK130.out 2 rfl
    have hcz19_3 : w5.cell? ⟨gb130, 3, none⟩ = some (.slice A1_3 l1_3.length c1_3) := kC BK130.out 3 rfl
    have hfz19_0 := blk_frozen BK130.out 0
    have hfz19_1 := blk_frozen BK130.out 1
    have hfz19_2 := blk_frozen BK130.out 2
    have hfz19_3 := blk_frozen BK130.out 3
    go_wp2_with (first | ((with_reducible refine gate_callee (f := 89) rfl ?_); refine goesL_ (some 11) rfl rfl Try.func89 (by kernel_rfl) rfl #[.slice A0_0 l0_0.length c0_0, .slice A1_0 l1_0.length c1_0] rfl (by (try simp only [List.map_toArray, List.map_cons, List.map_nil]); first | done | rfl | (simp only [List.length_drop, List.length_take]; rfl)) ?_; (with_reducible refine (spec_l4Equal.calls k _ _ l0_0 _ _ l1_0 true _ ?side1 ?side2 ?side3 ?side4 A6.out).mono ?_); (case side1 => exact cS (Kd.C_below HR0_0.out HB.out)); (case side2 => exact HC0_0.out); (case side3 => exact cS (Kd.C_below HR1_0.out HB.out)); (case side4 => exact HC1_0.out); rintro e w' ⟨rfl, ⟨nd, rfl⟩⟩; refine ⟨_, rfl, ?_⟩) | (go_at_call 89; (with_reducible refine (spec_l4Equal.calls k _ _ l0_1 _ _ l1_1 false _ ?side1 ?side2 ?side3 ?side4 A8.out).mono ?_); (case side1 => repeat (first | exact (Kd.C_below HR0_1.out (by repeat (first | (with_reducible first | exact HB.out | apply below_alloc | apply pw_below_drewN | apply below_drew1 | refine below_set ?_ GE129.out | refine below_set ?_ GE130.out) | exact HB.out))) | (with_reducible refine Kd.C_alloc ?_ _) | (with_reducible refine Kd.C_drewN ?_ _) | (with_reducible refine Kd.C_drew ?_))); (case side2 => exact HC0_1.out); (case side3 => repeat (first | exact (Kd.C_below HR1_1.out (by repeat (first | (with_reducible first | exact HB.out | apply below_alloc | apply pw_below_drewN | apply below_drew1 | refine below_set ?_ GE129.out | refine below_set ?_ GE130.out) | exact HB.out))) | (with_reducible refine Kd.C_alloc ?_ _) | (with_reducible refine Kd.C_drewN ?_ _) | (with_reducible refine Kd.C_drew ?_))); (case side4 => exact HC1_1.out); rintro e w' ⟨rfl, ⟨nd, rfl⟩⟩))
    go_meet
    case rel => exact ⟨_, (true), (by first | rfl | (simp; done) | (simp [*]; done)), H', ⟨by first | omega | exact Nat.le_refl _⟩, ⟨by (with_reducible repeat (first | refine blk_drewN ?_ _ | refine blk_drew ?_ | refine blk_alloc ?_ _)); exact BK129.out⟩, ⟨by (with_reducible repeat (first | refine blk_drewN ?_ _ | refine blk_drew ?_ | refine blk_alloc ?_ _)); exact BK130.out⟩, ⟨by repeat (first | (with_reducible first | exact HB.out | apply below_alloc | apply pw_below_drewN | apply below_drew1 | refine below_set ?_ GE129.out | refine below_set ?_ GE130.out) | exact HB.out)⟩⟩
  ·replace c7 := Bool.eq_false_iff.mpr c7
   subst c7
   have H1 : (spec_PlanSame.j0 k true l0_0 l0_1 l0_2 l0_3 l1_0 l1_1 l1_2 l1_3) = some r := by rw [if_neg (show ¬ (false = true) by decide)] at H; exact H
   clear H
   have H := H1
   clear H1
   have H' := Aside0.mk H
   clear H
   have hnb20 := NB129_130.out
   have hnc20 := NB130_129.out
   have hcz21_0 : w5.cell? ⟨gb129, 0, none⟩ = some (.slice A0_0 l0_0.length c0_0) := kC BK129.out 0 rfl
   have hcz21_1 : w5.cell? ⟨gb129, 1, none⟩ = some (.slice A0_1 l0_1.length c0_1) := kC BK129.out 1 rfl
   have hcz21_2 : w5.cell? ⟨gb129, 2, none⟩ = some (.slice A0_2 l0_2.length c0_2) := kC BK129.out 2 rfl
   have hcz21_3 : w5.cell? ⟨gb129, 3, none⟩ = some (.slice A0_3 l0_3.length c0_3) := kC BK129.out 3 rfl
   have hfz21_0 := blk_frozen BK129.out 0
   have hfz21_1 := blk_frozen BK129.out 1
   have hfz21_2 := blk_frozen BK129.out 2
   have hfz21_3 := blk_frozen BK129.out 3
   have hcz22_0 : w5.cell? ⟨gb130, 0, none⟩ = some (.slice A1_0 l1_0.length c1_0) := kC BK130.out 0 rfl
   have hcz22_1 : w5.cell? ⟨gb130, 1, none⟩ = some (.slice A1_1 l1_1.length c1_1) := kC BK130.out 1 rfl
   have hcz22_2 : w5.cell? ⟨gb130, 2, none⟩ = some (.slice A1_2 l1_2.length c1_2) := kC BK130.out 2 rfl
   have hcz22_3 : w5.cell? ⟨gb130, 3, none⟩ = some (.slice A1_3 l1_3.length c1_3) := kC BK130.out 3 rfl
   have hfz22_0 := blk_frozen BK130.out 0
   have hfz22_1 := blk_frozen BK130.out 1
   have hfz22_2 := blk_frozen BK130.out 2
   have hfz22_3 := blk_frozen BK130.out 3
   go_wp2_with (first | ((with_reducible refine gate_callee (f := 89) rfl ?_); refine goesL_ (some 11) rfl rfl Try.func89 (by kernel_rfl) rfl #[.slice A0_0 l0_0.length c0_0, .slice A1_0 l1_0.length c1_0] rfl (by (try simp only [List.map_toArray, List.map_cons, List.map_nil]); first | done | rfl | (simp only [List.length_drop, List.length_take]; rfl)) ?_; (with_reducible refine (spec_l4Equal.calls k _ _ l0_0 _ _ l1_0 false _ ?side1 ?side2 ?side3 ?side4 A6.out).mono ?_); (case side1 => exact cS (Kd.C_below HR0_0.out HB.out)); (case side2 => exact HC0_0.out); (case side3 => exact cS (Kd.C_below HR1_0.out HB.out)); (case side4 => exact HC1_0.out); rintro e w' ⟨rfl, ⟨nd, rfl⟩⟩; refine ⟨_, rfl, ?_⟩))
   go_meet
   case rel => exact ⟨_, (true), (by first | rfl | (simp; done) | (simp [*]; done)), H', ⟨by first | omega | exact Nat.le_refl _⟩, ⟨by (with_reducible repeat (first | refine blk_drewN ?_ _ | refine blk_drew ?_ | refine blk_alloc ?_ _)); exact BK129.out⟩, ⟨by (with_reducible repeat (first | refine blk_drewN ?_ _ | refine blk_drew ?_ | refine blk_alloc ?_ _)); exact BK130.out⟩, ⟨by repeat (first | (with_reducible first | exact HB.out | apply below_alloc | apply pw_below_drewN | apply below_drew1 | refine below_set ?_ GE129.out | refine below_set ?_ GE130.out) | exact HB.out)⟩⟩
 case rest =>
  clear HC3
  try clear c1
  try clear c2
  try clear p2
  try clear c5
  try clear c7
  try clear c8
  try clear c9
  try clear c10
  try clear c10b0
  try clear c10b1
  try clear c10b2
  try clear c11
  try clear c14
  try clear c17
  try clear c20
  try clear hcz12_0
  try clear hcz12_1
  try clear hcz12_2
  try clear hcz12_3
  try clear hcz13_0
  try clear hcz13_1
  try clear hcz13_2
  try clear hcz13_3
  try clear hcz15_0
  try clear hcz15_1
  try clear hcz15_2
  try clear hcz15_3
  try clear hcz16_0
  try clear hcz16_1
  try clear hcz16_2
  try clear hcz16_3
  try clear hcz18_0
  try clear hcz18_1
  try clear hcz18_2
  try clear hcz18_3
  try clear hcz19_0
  try clear hcz19_1
  try clear hcz19_2
  try clear hcz19_3
  try clear hcz21_0
  try clear hcz21_1
  try clear hcz21_2
  try clear hcz21_3
  try clear hcz22_0
  try clear hcz22_1
  try clear hcz22_2
  try clear hcz22_3
  try clear hfz12_0
  try clear hfz12_1
  try clear hfz12_2
  try clear hfz12_3
  try clear hfz13_0
  try clear hfz13_1
  try clear hfz13_2
  try clear hfz13_3
  try clear hfz15_0
  try clear hfz15_1
  try clear hfz15_2
  try clear hfz15_3
  try clear hfz16_0
  try clear hfz16_1
  try clear hfz16_2
  try clear hfz16_3
  try clear hfz18_0
  try clear hfz18_1
  try clear hfz18_2
  try clear hfz18_3
  try clear hfz19_0
  try clear hfz19_1
  try clear hfz19_2
  try clear hfz19_3
  try clear hfz21_0
  try clear hfz21_1
  try clear hfz21_2
  try clear hfz21_3
  try clear hfz22_0
  try clear hfz22_1
  try clear hfz22_2
  try clear hfz22_3
  obtain ⟨kq, x38_2, rfl, HA, HJ2, BK129, BK130, HB⟩ := hcut
  cases kq with
  | zero => exact absurd HA.out (by simp [spec_PlanSame.j0])
  | succ kj2 =>
   have H := HA.out
   clear HA
   simp only [spec_PlanSame.j0] at H
   by_cases c23 : x38_2 = true
   ·subst c23
    have H1 : (some false) = some r := by rw [if_pos rfl] at H; exact H
    clear H
    have H := H1
    clear H1
    obtain rfl := Option.some.inj H
    go_wp2
    go_ret
    exact ⟨by first | rfl | (simp [errW_none, errW_some] <;> rfl) | (simp [*, errW_none, errW_some] <;> rfl), by repeat (first | (with_reducible first | exact HB.out | apply below_alloc | apply pw_below_drewN | apply below_drew1 | refine below_set ?_ GE129.out | refine below_set ?_ GE130.out) | exact HB.out)⟩
   ·replace c23 := Bool.eq_false_iff.mpr c23
    subst c23
    have H1 : (spec_PlanSame.l0 kj2 0 l0_0 l0_1 l0_2 l0_3 l1_0 l1_1 l1_2 l1_3) = some r := by rw [if_neg (show ¬ (false = true) by decide)] at H; exact H
    clear H
    have H := H1
    clear H1
    have H' := Aside0.mk H
    clear H
    go_wp2
    go_loopg [5] kj2 (fun kq v5 w' => ∃ (x5_2 : Int), v5 = .int .i64 x5_2 ∧ Aside0 (spec_PlanSame.l0 kq x5_2 l0_0 l0_1 l0_2 l0_3 l1_0 l1_1 l1_2 l1_3 = some r) ∧ Aside0 (kq ≤ kj2) ∧ Aside0 (w'.heap[gb129]? = some (.cells #[(.slice A0_0 l0_0.length c0_0), (.slice A0_1 l0_1.length c0_1), (.slice A0_2 l0_2.length c0_2), (.slice A0_3 l0_3.length c0_3)] 69 (0, 0))) ∧ Aside0 (w'.heap[gb130]? = some (.cells #[(.slice A1_0 l1_0.length c1_0), (.slice A1_1 l1_1.length c1_1), (.slice A1_2 l1_2.length c1_2), (.slice A1_3 l1_3.length c1_3)] 69 (0, 0))) ∧ Aside0 (Below w.heap.size w w'))
    case atStart => exact ⟨(0), (by first | rfl | (simp; done) | (simp [*]; done)), H', ⟨Nat.le_refl _⟩, ⟨by (with_reducible repeat (first | refine blk_drewN ?_ _ | refine blk_drew ?_ | refine blk_alloc ?_ _)); exact BK129.out⟩, ⟨by (with_reducible repeat (first | refine blk_drewN ?_ _ | refine blk_drew ?_ | refine blk_alloc ?_ _)); exact BK130.out⟩, ⟨by repeat (first | (with_reducible first | exact HB.out | apply below_alloc | apply pw_below_drewN | apply below_drew1 | refine below_set ?_ GE129.out | refine below_set ?_ GE130.out) | exact HB.out)⟩⟩
    case round =>
     clear H'
     try clear c1
     try clear c2
     try clear p2
     try clear c5
     try clear c7
     try clear c8
     try clear c9
     try clear c10
     try clear c10b0
     try clear c10b1
     try clear c10b2
     try clear c11
     try clear c14
     try clear c17
     try clear c20
     try clear c23
     try clear hcz12_0
     try clear hcz12_1
     try clear hcz12_2
     try clear hcz12_3
     try clear hcz13_0
     try clear hcz13_1
     try clear hcz13_2
     try clear hcz13_3
     try clear hcz15_0
     try clear hcz15_1
     try clear hcz15_2
     try clear hcz15_3
     try clear hcz16_0
     try clear hcz16_1
     try clear hcz16_2
     try clear hcz16_3
     try clear hcz18_0
     try clear hcz18_1
     try clear hcz18_2
     try clear hcz18_3
     try clear hcz19_0
     try clear hcz19_1
     try clear hcz19_2
     try clear hcz19_3
     try clear hcz21_0
     try clear hcz21_1
     try clear hcz21_2
     try clear hcz21_3
     try clear hcz22_0
     try clear hcz22_1
     try clear hcz22_2
     try clear hcz22_3
     try clear hfz12_0
     try clear hfz12_1
     try clear hfz12_2
     try clear hfz12_3
     try clear hfz13_0
     try clear hfz13_1
     try clear hfz13_2
     try clear hfz13_3
     try clear hfz15_0
     try clear hfz15_1
     try clear hfz15_2
     try clear hfz15_3
     try clear hfz16_0
     try clear hfz16_1
     try clear hfz16_2
     try clear hfz16_3
     try clear hfz18_0
     try clear hfz18_1
     try clear hfz18_2
     try clear hfz18_3
     try clear hfz19_0
     try clear hfz19_1
     try clear hfz19_2
     try clear hfz19_3
     try clear hfz21_0
     try clear hfz21_1
     try clear hfz21_2
     try clear hfz21_3
     try clear hfz22_0
     try clear hfz22_1
     try clear hfz22_2
     try clear hfz22_3
     try clear p2
     obtain ⟨x5_2, rfl, HA, HK2, BK129, BK130, HB⟩ := hrel
     cases gk with
     | zero => exact absurd HA.out (by simp [spec_PlanSame.l0])
     | succ k2 =>
      have H := HA.out
      clear HA
      simp only [spec_PlanSame.l0] at H
      by_cases c24 : x5_2 < (l0_2.length : Int)
      ·rw [if_pos c24] at H
       have c24b0 : decide (x5_2 < (l0_2.length : Int)) = true := decide_eq_true c24
       clear c24
       by_cases c25 : 0 ≤ x5_2
       ·rw [if_pos c25] at H
        have c25b0 : decide (0 ≤ x5_2) = true := decide_eq_true c25
        clear c25
        by_cases c26 : x5_2 < (l1_2.length : Int)
        ·rw [if_pos c26] at H
         have c26b0 : decide (x5_2 < (l1_2.length : Int)) = true := decide_eq_true c26
         clear c26
         by_cases c27 : (!(((rd_T96 l0_2 x5_2).f0) == ((rd_T96 l1_2 x5_2).f0)) || (!(((rd_T96 l0_2 x5_2).f1) == ((rd_T96 l1_2 x5_2).f1)))) = true
         ·rw [if_pos c27] at H
          have c27b0 : (!(((rd_T96 l0_2 x5_2).f0) == ((rd_T96 l1_2 x5_2).f0)) || (!(((rd_T96 l0_2 x5_2).f1) == ((rd_T96 l1_2 x5_2).f1)))) = true := c27
          clear c27
          obtain rfl := Option.some.inj H
          have hnb28 := NB129_130.out
          have hnc28 := NB130_129.out
          have hcz29_0 : wr.cell? ⟨gb129, 0, none⟩ = some (.slice A0_0 l0_0.length c0_0) := kC BK129.out 0 rfl
          have hcz29_1 : wr.cell? ⟨gb129, 1, none⟩ = some (.slice A0_1 l0_1.length c0_1) := kC BK129.out 1 rfl
          have hcz29_2 : wr.cell? ⟨gb129, 2, none⟩ = some (.slice A0_2 l0_2.length c0_2) := kC BK129.out 2 rfl
          have hcz29_3 : wr.cell? ⟨gb129, 3, none⟩ = some (.slice A0_3 l0_3.length c0_3) := kC BK129.out 3 rfl
          have hfz29_0 := blk_frozen BK129.out 0
          have hfz29_1 := blk_frozen BK129.out 1
          have hfz29_2 := blk_frozen BK129.out 2
          have hfz29_3 := blk_frozen BK129.out 3
          try go_wp2
          replace BK129 := Aside0.mk (blk_drew BK129.out)
          replace BK130 := Aside0.mk (blk_drew BK130.out)
          replace HB := Aside0.mk (below_drew1 HB.out)
          have p133 : 0 ≤ (x5_2 : Int) := of_decide_eq_true (by first | (with_reducible assumption) | assumption)
          have q133 : x5_2 < (l0_2.length : Int) := of_decide_eq_true (by first | (with_reducible assumption) | assumption)
          obtain ⟨ad133, e133, hx133_0, hx133_1⟩ := at_T96 HR0_2.out x5_2 p133 q133
          have hw133_1 := hx133_1
          have hw133_0 := hx133_0
          cases e133
          replace hx133_0 := (HB.out.cell (World.block_lt_of_cell? w _ hx133_0)).trans hx133_0
          replace hx133_1 := (HB.out.cell (World.block_lt_of_cell? w _ hx133_1)).trans hx133_1
          replace p133 := eq_true p133
          replace q133 := eq_true q133
          have p134 : 0 ≤ (x5_2 : Int) := of_decide_eq_true (by first | (with_reducible assumption) | assumption)
          have q134 : x5_2 < (l1_2.length : Int) := of_decide_eq_true (by first | (with_reducible assumption) | assumption)
          obtain ⟨ad134, e134, hx134_0, hx134_1⟩ := at_T96 HR1_2.out x5_2 p134 q134
          have hw134_1 := hx134_1
          have hw134_0 := hx134_0
          cases e134
          replace hx134_0 := (HB.out.cell (World.block_lt_of_cell? w _ hx134_0)).trans hx134_0
          replace hx134_1 := (HB.out.cell (World.block_lt_of_cell? w _ hx134_1)).trans hx134_1
          replace p134 := eq_true p134
          replace q134 := eq_true q134
          refine start_ (n := 11) (S := fun w' => w'.cell? ⟨gb129, 0, none⟩ = some (.slice A0_0 l0_0.length c0_0) ∧ w'.cell? ⟨gb129, 1, none⟩ = some (.slice A0_1 l0_1.length c0_1) ∧ w'.cell? ⟨gb129, 2, none⟩ = some (.slice (some ad133) l0_2.length c0_2) ∧ w'.cell? ⟨gb129, 3, none⟩ = some (.slice A0_3 l0_3.length c0_3) ∧ w'.cell? ⟨gb130, 0, none⟩ = some (.slice A1_0 l1_0.length c1_0) ∧ w'.cell? ⟨gb130, 1, none⟩ = some (.slice A1_1 l1_1.length c1_1) ∧ w'.cell? ⟨gb130, 2, none⟩ = some (.slice (some ad134) l1_2.length c1_2) ∧ w'.cell? ⟨gb130, 3, none⟩ = some (.slice A1_3 l1_3.length c1_3) ∧ w'.cell? (ad133.add ((x5_2).toNat * 2)) = some (.int .i64 ((rd_T96 l0_2 x5_2).f0)) ∧ w'.cell? ⟨(ad133.add ((x5_2).toNat * 2)).block, (ad133.add ((x5_2).toNat * 2)).off + 1, none⟩ = some (.int .i64 ((rd_T96 l0_2 x5_2).f1)) ∧ w'.cell? (ad134.add ((x5_2).toNat * 2)) = some (.int .i64 ((rd_T96 l1_2 x5_2).f0)) ∧ w'.cell? ⟨(ad134.add ((x5_2).toNat * 2)).block, (ad134.add ((x5_2).toNat * 2)).off + 1, none⟩ = some (.int .i64 ((rd_T96 l1_2 x5_2).f1))) (ds := []) #[false, false, false, false, false, false, false, false, false, false, false] (by kernel_rfl) rfl rfl ⟨kC BK129.out 0 rfl, kC BK129.out 1 rfl, kC BK129.out 2 rfl, kC BK129.out 3 rfl, kC BK130.out 0 rfl, kC BK130.out 1 rfl, kC BK130.out 2 rfl, kC BK130.out 3 rfl, ((HB.out.cell (World.block_lt_of_cell? w _ hw133_0)).trans hw133_0), ((HB.out.cell (World.block_lt_of_cell? w _ hw133_1)).trans hw133_1), ((HB.out.cell (World.block_lt_of_cell? w _ hw134_0)).trans hw134_0), ((HB.out.cell (World.block_lt_of_cell? w _ hw134_1)).trans hw134_1)⟩ (fun hHeld => ?_); refine with_tabW spec_PlanSame.tab6 spec_PlanSame.bits6 (fun HT_ HW_ => ?_)
          generalize wr.drew = w30 at BK129 BK130 HB hx133_0 hx133_1 hx134_0 hx134_1 hHeld ⊢
          refine pure_ (i := 0) (N := some 46) (v := ?_) (a' := ?_) #[true, false, false, false, false, false, false, false, false, false, false] rfl rfl (any_of HT_.out (by kernel_rfl)) (fun _ _ _ h => h) (Or.inl ⟨by rfl, ?_⟩) ?_ ?_
          rotate_left
          ·intro w'
           go_simp
           with_reducible rfl
          rotate_left
          ·simp only [Act.put, List.setIfInBounds_toArray, List.set_cons_zero, List.set_cons_succ, i64_w, i32_w]
           rfl
          refine pure_ (i := 2) (N := some 48) (v := ?_) (a' := ?_) #[true, false, true, false, false, false, false, false, false, false, false] rfl rfl (any_of HT_.out (by kernel_rfl)) (fun _ _ _ h => h) (Or.inl ⟨by rfl, ?_⟩) ?_ ?_
          rotate_left
          ·intro w'
           go_simp
           with_reducible rfl
          rotate_left
          ·simp only [Act.put, List.setIfInBounds_toArray, List.set_cons_zero, List.set_cons_succ, i64_w, i32_w]
           rfl
          refine pure_ (i := 5) (N := some 51) (v := ?_) (a' := ?_) #[true, false, true, false, false, true, false, false, false, false, false] rfl rfl (any_of HT_.out (by kernel_rfl)) (fun _ _ _ h => h) (Or.inl ⟨by rfl, ?_⟩) ?_ ?_
          rotate_left
          ·intro w'
           go_simp
           with_reducible rfl
          rotate_left
          ·simp only [Act.put, List.setIfInBounds_toArray, List.set_cons_zero, List.set_cons_succ, i64_w, i32_w]
           rfl
          refine pure_ (i := 7) (N := some 53) (v := ?_) (a' := ?_) #[true, false, true, false, false, true, false, true, false, false, false] rfl rfl (any_of HT_.out (by kernel_rfl)) (fun _ _ _ h => h) (Or.inl ⟨by rfl, ?_⟩) ?_ ?_
          rotate_left
          ·intro w'
           go_simp
           with_reducible rfl
          rotate_left
          ·simp only [Act.put, List.setIfInBounds_toArray, List.set_cons_zero, List.set_cons_succ, i64_w, i32_w]
           rfl
          refine take_ (i := 1) (N := some 47) (v := ?_) (a' := ?_) #[true, true, true, false, false, true, false, true, false, false, false] rfl rfl (take_ofW HT_.out HW_.out (by kernel_rfl)) (fun _ _ _ h => h) (Or.inl ⟨by rfl, ?_⟩) hHeld ?_ ?_
          rotate_left
          ·rintro w' ⟨s0, s1, s2, s3, s4, s5, s6, s7, s8, s9, s10, s11⟩
           go_simp
           with_reducible rfl
          rotate_left
          ·simp only [Act.put, List.setIfInBounds_toArray, List.set_cons_zero, List.set_cons_succ, i64_w, i32_w]
           rfl
          refine pure_ (i := 3) (N := some 49) (v := ?_) (a' := ?_) #[true, true, true, true, false, true, false, true, false, false, false] rfl rfl (any_of HT_.out (by kernel_rfl)) (fun _ _ _ h => h) (Or.inl ⟨by rfl, ?_⟩) ?_ ?_
          rotate_left
          ·intro w'
           go_simp
           with_reducible rfl
          rotate_left
          ·simp only [Act.put, List.setIfInBounds_toArray, List.set_cons_zero, List.set_cons_succ, i64_w, i32_w]
           rfl
          refine take_ (i := 4) (N := some 50) (v := ?_) (a' := ?_) #[true, true, true, true, true, true, false, true, false, false, false] rfl rfl (take_ofW HT_.out HW_.out (by kernel_rfl)) (fun _ _ _ h => h) (Or.inl ⟨by rfl, ?_⟩) hHeld ?_ ?_
          rotate_left
          ·rintro w' ⟨s0, s1, s2, s3, s4, s5, s6, s7, s8, s9, s10, s11⟩
           go_simp
           with_reducible rfl
          rotate_left
          ·simp only [Act.put, List.setIfInBounds_toArray, List.set_cons_zero, List.set_cons_succ, i64_w, i32_w]
           rfl
          refine take_ (i := 6) (N := some 52) (v := ?_) (a' := ?_) #[true, true, true, true, true, true, true, true, false, false, false] rfl rfl (take_ofW HT_.out HW_.out (by kernel_rfl)) (fun _ _ _ h => h) (Or.inl ⟨by rfl, ?_⟩) hHeld ?_ ?_
          rotate_left
          ·rintro w' ⟨s0, s1, s2, s3, s4, s5, s6, s7, s8, s9, s10, s11⟩
           go_simp
           with_reducible rfl
          rotate_left
          ·simp only [Act.put, List.setIfInBounds_toArray, List.set_cons_zero, List.set_cons_succ, i64_w, i32_w]
           rfl
          refine pure_ (i := 8) (N := some 54) (v := ?_) (a' := ?_) #[true, true, true, true, true, true, true, true, true, false, false] rfl rfl (any_of HT_.out (by kernel_rfl)) (fun _ _ _ h => h) (Or.inl ⟨by rfl, ?_⟩) ?_ ?_
          rotate_left
          ·intro w'
           go_simp
           with_reducible rfl
          rotate_left
          ·simp only [Act.put, List.setIfInBounds_toArray, List.set_cons_zero, List.set_cons_succ, i64_w, i32_w]
           rfl
          refine take_ (i := 9) (N := some 55) (v := ?_) (a' := ?_) #[true, true, true, true, true, true, true, true, true, true, false] rfl rfl (take_ofW HT_.out HW_.out (by kernel_rfl)) (fun _ _ _ h => h) (Or.inl ⟨by rfl, ?_⟩) hHeld ?_ ?_
          rotate_left
          ·rintro w' ⟨s0, s1, s2, s3, s4, s5, s6, s7, s8, s9, s10, s11⟩
           go_simp
           with_reducible rfl
          rotate_left
          ·simp only [Act.put, List.setIfInBounds_toArray, List.set_cons_zero, List.set_cons_succ, i64_w, i32_w]
           rfl
          refine pure_ (i := 10) (N := some 56) (v := ?_) (a' := ?_) #[true, true, true, true, true, true, true, true, true, true, true] rfl rfl (any_of HT_.out (by kernel_rfl)) (fun _ _ _ h => h) (Or.inl ⟨by rfl, ?_⟩) ?_ ?_
          rotate_left
          ·intro w'
           go_simp
           with_reducible rfl
          rotate_left
          ·simp only [Act.put, List.setIfInBounds_toArray, List.set_cons_zero, List.set_cons_succ, i64_w, i32_w]
           rfl
          refine done_ (done_of HT_.out (by kernel_rfl)) ?_
          try go_wp2
          go_ret
          exact ⟨by first | rfl | (simp [errW_none, errW_some] <;> rfl) | (simp [*, errW_none, errW_some] <;> rfl), by repeat (first | (with_reducible first | exact HB.out | apply below_alloc | apply pw_below_drewN | apply below_drew1 | refine below_set ?_ GE129.out | refine below_set ?_ GE130.out) | exact HB.out)⟩
         ·rw [if_neg c27] at H
          have c27b0 : (!(((rd_T96 l0_2 x5_2).f0) == ((rd_T96 l1_2 x5_2).f0)) || (!(((rd_T96 l0_2 x5_2).f1) == ((rd_T96 l1_2 x5_2).f1)))) = false := by simpa using c27
          clear c27
          have H' := Aside0.mk H
          clear H
          have hnb31 := NB129_130.out
          have hnc31 := NB130_129.out
          have hcz32_0 : wr.cell? ⟨gb129, 0, none⟩ = some (.slice A0_0 l0_0.length c0_0) := kC BK129.out 0 rfl
          have hcz32_1 : wr.cell? ⟨gb129, 1, none⟩ = some (.slice A0_1 l0_1.length c0_1) := kC BK129.out 1 rfl
          have hcz32_2 : wr.cell? ⟨gb129, 2, none⟩ = some (.slice A0_2 l0_2.length c0_2) := kC BK129.out 2 rfl
          have hcz32_3 : wr.cell? ⟨gb129, 3, none⟩ = some (.slice A0_3 l0_3.length c0_3) := kC BK129.out 3 rfl
          have hfz32_0 := blk_frozen BK129.out 0
          have hfz32_1 := blk_frozen BK129.out 1
          have hfz32_2 := blk_frozen BK129.out 2
          have hfz32_3 := blk_frozen BK129.out 3
          try go_wp2
          replace BK129 := Aside0.mk (blk_drew BK129.out)
          replace BK130 := Aside0.mk (blk_drew BK130.out)
          replace HB := Aside0.mk (below_drew1 HB.out)
          have p133 : 0 ≤ (x5_2 : Int) := of_decide_eq_true (by first | (with_reducible assumption) | assumption)
          have q133 : x5_2 < (l0_2.length : Int) := of_decide_eq_true (by first | (with_reducible assumption) | assumption)
          obtain ⟨ad133, e133, hx133_0, hx133_1⟩ := at_T96 HR0_2.out x5_2 p133 q133
          have hw133_1 := hx133_1
          have hw133_0 := hx133_0
          cases e133
          replace hx133_0 := (HB.out.cell (World.block_lt_of_cell? w _ hx133_0)).trans hx133_0
          replace hx133_1 := (HB.out.cell (World.block_lt_of_cell? w _ hx133_1)).trans hx133_1
          replace p133 := eq_true p133
          replace q133 := eq_true q133
          have p134 : 0 ≤ (x5_2 : Int) := of_decide_eq_true (by first | (with_reducible assumption) | assumption)
          have q134 : x5_2 < (l1_2.length : Int) := of_decide_eq_true (by first | (with_reducible assumption) | assumption)
          obtain ⟨ad134, e134, hx134_0, hx134_1⟩ := at_T96 HR1_2.out x5_2 p134 q134
          have hw134_1 := hx134_1
          have hw134_0 := hx134_0
          cases e134
          replace hx134_0 := (HB.out.cell (World.block_lt_of_cell? w _ hx134_0)).trans hx134_0
          replace hx134_1 := (HB.out.cell (World.block_lt_of_cell? w _ hx134_1)).trans hx134_1
          replace p134 := eq_true p134
          replace q134 := eq_true q134
          refine start_ (n := 11) (S := fun w' => w'.cell? ⟨gb129, 0, none⟩ = some (.slice A0_0 l0_0.length c0_0) ∧ w'.cell? ⟨gb129, 1, none⟩ = some (.slice A0_1 l0_1.length c0_1) ∧ w'.cell? ⟨gb129, 2, none⟩ = some (.slice (some ad133) l0_2.length c0_2) ∧ w'.cell? ⟨gb129, 3, none⟩ = some (.slice A0_3 l0_3.length c0_3) ∧ w'.cell? ⟨gb130, 0, none⟩ = some (.slice A1_0 l1_0.length c1_0) ∧ w'.cell? ⟨gb130, 1, none⟩ = some (.slice A1_1 l1_1.length c1_1) ∧ w'.cell? ⟨gb130, 2, none⟩ = some (.slice (some ad134) l1_2.length c1_2) ∧ w'.cell? ⟨gb130, 3, none⟩ = some (.slice A1_3 l1_3.length c1_3) ∧ w'.cell? (ad133.add ((x5_2).toNat * 2)) = some (.int .i64 ((rd_T96 l0_2 x5_2).f0)) ∧ w'.cell? ⟨(ad133.add ((x5_2).toNat * 2)).block, (ad133.add ((x5_2).toNat * 2)).off + 1, none⟩ = some (.int .i64 ((rd_T96 l0_2 x5_2).f1)) ∧ w'.cell? (ad134.add ((x5_2).toNat * 2)) = some (.int .i64 ((rd_T96 l1_2 x5_2).f0)) ∧ w'.cell? ⟨(ad134.add ((x5_2).toNat * 2)).block, (ad134.add ((x5_2).toNat * 2)).off + 1, none⟩ = some (.int .i64 ((rd_T96 l1_2 x5_2).f1))) (ds := []) #[false, false, false, false, false, false, false, false, false, false, false] (by kernel_rfl) rfl rfl ⟨kC BK129.out 0 rfl, kC BK129.out 1 rfl, kC BK129.out 2 rfl, kC BK129.out 3 rfl, kC BK130.out 0 rfl, kC BK130.out 1 rfl, kC BK130.out 2 rfl, kC BK130.out 3 rfl, ((HB.out.cell (World.block_lt_of_cell? w _ hw133_0)).trans hw133_0), ((HB.out.cell (World.block_lt_of_cell? w _ hw133_1)).trans hw133_1), ((HB.out.cell (World.block_lt_of_cell? w _ hw134_0)).trans hw134_0), ((HB.out.cell (World.block_lt_of_cell? w _ hw134_1)).trans hw134_1)⟩ (fun hHeld => ?_); refine with_tabW spec_PlanSame.tab6 spec_PlanSame.bits6 (fun HT_ HW_ => ?_)
          generalize wr.drew = w33 at BK129 BK130 HB hx133_0 hx133_1 hx134_0 hx134_1 hHeld ⊢
          refine pure_ (i := 0) (N := some 46) (v := ?_) (a' := ?_) #[true, false, false, false, false, false, false, false, false, false, false] rfl rfl (any_of HT_.out (by kernel_rfl)) (fun _ _ _ h => h) (Or.inl ⟨by rfl, ?_⟩) ?_ ?_
          rotate_left
          ·intro w'
           go_simp
           with_reducible rfl
          rotate_left
          ·simp only [Act.put, List.setIfInBounds_toArray, List.set_cons_zero, List.set_cons_succ, i64_w, i32_w]
           rfl
          refine pure_ (i := 2) (N := some 48) (v := ?_) (a' := ?_) #[true, false, true, false, false, false, false, false, false, false, false] rfl rfl (any_of HT_.out (by kernel_rfl)) (fun _ _ _ h => h) (Or.inl ⟨by rfl, ?_⟩) ?_ ?_
          rotate_left
          ·intro w'
           go_simp
           with_reducible rfl
          rotate_left
          ·simp only [Act.put, List.setIfInBounds_toArray, List.set_cons_zero, List.set_cons_succ, i64_w, i32_w]
           rfl
          refine pure_ (i := 5) (N := some 51) (v := ?_) (a' := ?_) #[true, false, true, false, false, true, false, false, false, false, false] rfl rfl (any_of HT_.out (by kernel_rfl)) (fun _ _ _ h => h) (Or.inl ⟨by rfl, ?_⟩) ?_ ?_
          rotate_left
          ·intro w'
           go_simp
           with_reducible rfl
          rotate_left
          ·simp only [Act.put, List.setIfInBounds_toArray, List.set_cons_zero, List.set_cons_succ, i64_w, i32_w]
           rfl
          refine pure_ (i := 7) (N := some 53) (v := ?_) (a' := ?_) #[true, false, true, false, false, true, false, true, false, false, false] rfl rfl (any_of HT_.out (by kernel_rfl)) (fun _ _ _ h => h) (Or.inl ⟨by rfl, ?_⟩) ?_ ?_
          rotate_left
          ·intro w'
           go_simp
           with_reducible rfl
          rotate_left
          ·simp only [Act.put, List.setIfInBounds_toArray, List.set_cons_zero, List.set_cons_succ, i64_w, i32_w]
           rfl
          refine take_ (i := 1) (N := some 47) (v := ?_) (a' := ?_) #[true, true, true, false, false, true, false, true, false, false, false] rfl rfl (take_ofW HT_.out HW_.out (by kernel_rfl)) (fun _ _ _ h => h) (Or.inl ⟨by rfl, ?_⟩) hHeld ?_ ?_
          rotate_left
          ·rintro w' ⟨s0, s1, s2, s3, s4, s5, s6, s7, s8, s9, s10, s11⟩
           go_simp
           with_reducible rfl
          rotate_left
          ·simp only [Act.put, List.setIfInBounds_toArray, List.set_cons_zero, List.set_cons_succ, i64_w, i32_w]
           rfl
          refine pure_ (i := 3) (N := some 49) (v := ?_) (a' := ?_) #[true, true, true, true, false, true, false, true, false, false, false] rfl rfl (any_of HT_.out (by kernel_rfl)) (fun _ _ _ h => h) (Or.inl ⟨by rfl, ?_⟩) ?_ ?_
          rotate_left
          ·intro w'
           go_simp
           with_reducible rfl
          rotate_left
          ·simp only [Act.put, List.setIfInBounds_toArray, List.set_cons_zero, List.set_cons_succ, i64_w, i32_w]
           rfl
          refine take_ (i := 4) (N := some 50) (v := ?_) (a' := ?_) #[true, true, true, true, true, true, false, true, false, false, false] rfl rfl (take_ofW HT_.out HW_.out (by kernel_rfl)) (fun _ _ _ h => h) (Or.inl ⟨by rfl, ?_⟩) hHeld ?_ ?_
          rotate_left
          ·rintro w' ⟨s0, s1, s2, s3, s4, s5, s6, s7, s8, s9, s10, s11⟩
           go_simp
           with_reducible rfl
          rotate_left
          ·simp only [Act.put, List.setIfInBounds_toArray, List.set_cons_zero, List.set_cons_succ, i64_w, i32_w]
           rfl
          refine take_ (i := 6) (N := some 52) (v := ?_) (a' := ?_) #[true, true, true, true, true, true, true, true, false, false, false] rfl rfl (take_ofW HT_.out HW_.out (by kernel_rfl)) (fun _ _ _ h => h) (Or.inl ⟨by rfl, ?_⟩) hHeld ?_ ?_
          rotate_left
          ·rintro w' ⟨s0, s1, s2, s3, s4, s5, s6, s7, s8, s9, s10, s11⟩
           go_simp
           with_reducible rfl
          rotate_left
          ·simp only [Act.put, List.setIfInBounds_toArray, List.set_cons_zero, List.set_cons_succ, i64_w, i32_w]
           rfl
          refine pure_ (i := 8) (N := some 54) (v := ?_) (a' := ?_) #[true, true, true, true, true, true, true, true, true, false, false] rfl rfl (any_of HT_.out (by kernel_rfl)) (fun _ _ _ h => h) (Or.inl ⟨by rfl, ?_⟩) ?_ ?_
          rotate_left
          ·intro w'
           go_simp
           with_reducible rfl
          rotate_left
          ·simp only [Act.put, List.setIfInBounds_toArray, List.set_cons_zero, List.set_cons_succ, i64_w, i32_w]
           rfl
          refine take_ (i := 9) (N := some 55) (v := ?_) (a' := ?_) #[true, true, true, true, true, true, true, true, true, true, false] rfl rfl (take_ofW HT_.out HW_.out (by kernel_rfl)) (fun _ _ _ h => h) (Or.inl ⟨by rfl, ?_⟩) hHeld ?_ ?_
          rotate_left
          ·rintro w' ⟨s0, s1, s2, s3, s4, s5, s6, s7, s8, s9, s10, s11⟩
           go_simp
           with_reducible rfl
          rotate_left
          ·simp only [Act.put, List.setIfInBounds_toArray, List.set_cons_zero, List.set_cons_succ, i64_w, i32_w]
           rfl
          refine pure_ (i := 10) (N := some 56) (v := ?_) (a' := ?_) #[true, true, true, true, true, true, true, true, true, true, true] rfl rfl (any_of HT_.out (by kernel_rfl)) (fun _ _ _ h => h) (Or.inl ⟨by rfl, ?_⟩) ?_ ?_
          rotate_left
          ·intro w'
           go_simp
           with_reducible rfl
          rotate_left
          ·simp only [Act.put, List.setIfInBounds_toArray, List.set_cons_zero, List.set_cons_succ, i64_w, i32_w]
           rfl
          refine done_ (done_of HT_.out (by kernel_rfl)) ?_
          try go_wp2
          go_roundg k2
          case measure => have := HJ2.out; have := HK2.out; omega
          case rel => exact ⟨(wrap64 (x5_2 + 1)), (by first | rfl | (simp; done) | (simp [*]; done)), H', ⟨by have := HJ2.out; have := HK2.out; omega⟩, ⟨by (with_reducible repeat (first | refine blk_drewN ?_ _ | refine blk_drew ?_ | refine blk_alloc ?_ _)); exact BK129.out⟩, ⟨by (with_reducible repeat (first | refine blk_drewN ?_ _ | refine blk_drew ?_ | refine blk_alloc ?_ _)); exact BK130.out⟩, ⟨by repeat (first | (with_reducible first | exact HB.out | apply below_alloc | apply pw_below_drewN | apply below_drew1 | refine below_set ?_ GE129.out | refine below_set ?_ GE130.out) | exact HB.out)⟩⟩
        ·rw [if_neg c26] at H
         exact absurd H (by simp)
       ·rw [if_neg c25] at H
        exact absurd H (by simp)
      ·rw [if_neg c24] at H
       have c24b0 : decide (x5_2 < (l0_2.length : Int)) = false := decide_eq_false c24
       clear c24
       have H' := Aside0.mk H
       clear H
       have hnb34 := NB129_130.out
       have hnc34 := NB130_129.out
       have hcz35_0 : wr.cell? ⟨gb129, 0, none⟩ = some (.slice A0_0 l0_0.length c0_0) := kC BK129.out 0 rfl
       have hcz35_1 : wr.cell? ⟨gb129, 1, none⟩ = some (.slice A0_1 l0_1.length c0_1) := kC BK129.out 1 rfl
       have hcz35_2 : wr.cell? ⟨gb129, 2, none⟩ = some (.slice A0_2 l0_2.length c0_2) := kC BK129.out 2 rfl
       have hcz35_3 : wr.cell? ⟨gb129, 3, none⟩ = some (.slice A0_3 l0_3.length c0_3) := kC BK129.out 3 rfl
       have hfz35_0 := blk_frozen BK129.out 0
       have hfz35_1 := blk_frozen BK129.out 1
       have hfz35_2 := blk_frozen BK129.out 2
       have hfz35_3 := blk_frozen BK129.out 3
       go_wp2
       go_loopg [6] k2 (fun kq v6 w' => ∃ (x6_3 : Int), v6 = .int .i64 x6_3 ∧ Aside0 (spec_PlanSame.l1 kq x6_3 l0_0 l0_1 l0_2 l0_3 l1_0 l1_1 l1_2 l1_3 = some r) ∧ Aside0 (kq ≤ k2) ∧ Aside0 (w'.heap[gb129]? = some (.cells #[(.slice A0_0 l0_0.length c0_0), (.slice A0_1 l0_1.length c0_1), (.slice A0_2 l0_2.length c0_2), (.slice A0_3 l0_3.length c0_3)] 69 (0, 0))) ∧ Aside0 (w'.heap[gb130]? = some (.cells #[(.slice A1_0 l1_0.length c1_0), (.slice A1_1 l1_1.length c1_1), (.slice A1_2 l1_2.length c1_2), (.slice A1_3 l1_3.length c1_3)] 69 (0, 0))) ∧ Aside0 (Below w.heap.size w w'))
       case atStart => exact ⟨(0), (by first | rfl | (simp; done) | (simp [*]; done)), H', ⟨Nat.le_refl _⟩, ⟨by (with_reducible repeat (first | refine blk_drewN ?_ _ | refine blk_drew ?_ | refine blk_alloc ?_ _)); exact BK129.out⟩, ⟨by (with_reducible repeat (first | refine blk_drewN ?_ _ | refine blk_drew ?_ | refine blk_alloc ?_ _)); exact BK130.out⟩, ⟨by repeat (first | (with_reducible first | exact HB.out | apply below_alloc | apply pw_below_drewN | apply below_drew1 | refine below_set ?_ GE129.out | refine below_set ?_ GE130.out) | exact HB.out)⟩⟩
       case round =>
        clear H'
        try clear c1
        try clear p1
        try clear q1
        try clear hx1
        try clear c2
        try clear p2
        try clear c3
        try clear c5
        try clear p6
        try clear c7
        try clear c8
        try clear c9
        try clear c10
        try clear c10b0
        try clear c10b1
        try clear c10b2
        try clear c11
        try clear p13
        try clear q13
        try clear hx13
        try clear c14
        try clear c17
        try clear c20
        try clear c23
        try clear c24
        try clear c24b0
        try clear c25
        try clear c25b0
        try clear c26
        try clear c26b0
        try clear c27
        try clear c27b0
        try clear c28
        try clear c31
        try clear c34
        try clear hcz12_0
        try clear hcz12_1
        try clear hcz12_2
        try clear hcz12_3
        try clear hcz13_0
        try clear hcz13_1
        try clear hcz13_2
        try clear hcz13_3
        try clear hcz15_0
        try clear hcz15_1
        try clear hcz15_2
        try clear hcz15_3
        try clear hcz16_0
        try clear hcz16_1
        try clear hcz16_2
        try clear hcz16_3
        try clear hcz18_0
        try clear hcz18_1
        try clear hcz18_2
        try clear hcz18_3
        try clear hcz19_0
        try clear hcz19_1
        try clear hcz19_2
        try clear hcz19_3
        try clear hcz21_0
        try clear hcz21_1
        try clear hcz21_2
        try clear hcz21_3
        try clear hcz22_0
        try clear hcz22_1
        try clear hcz22_2
        try clear hcz22_3
        try clear hcz29_0
        try clear hcz29_1
        try clear hcz29_2
        try clear hcz29_3
        try clear hcz32_0
        try clear hcz32_1
        try clear hcz32_2
        try clear hcz32_3
        try clear hcz35_0
        try clear hcz35_1
        try clear hcz35_2
        try clear hcz35_3
        try clear hfz12_0
        try clear hfz12_1
        try clear hfz12_2
        try clear hfz12_3
        try clear hfz13_0
        try clear hfz13_1
        try clear hfz13_2
        try clear hfz13_3
        try clear hfz15_0
        try clear hfz15_1
        try clear hfz15_2
        try clear hfz15_3
        try clear hfz16_0
        try clear hfz16_1
        try clear hfz16_2
        try clear hfz16_3
        try clear hfz18_0
        try clear hfz18_1
        try clear hfz18_2
        try clear hfz18_3
        try clear hfz19_0
        try clear hfz19_1
        try clear hfz19_2
        try clear hfz19_3
        try clear hfz21_0
        try clear hfz21_1
        try clear hfz21_2
        try clear hfz21_3
        try clear hfz22_0
        try clear hfz22_1
        try clear hfz22_2
        try clear hfz22_3
        try clear hfz29_0
        try clear hfz29_1
        try clear hfz29_2
        try clear hfz29_3
        try clear hfz32_0
        try clear hfz32_1
        try clear hfz32_2
        try clear hfz32_3
        try clear hfz35_0
        try clear hfz35_1
        try clear hfz35_2
        try clear hfz35_3
        try clear hx133_0
        try clear hx133_1
        try clear hx134_0
        try clear hx134_1
        try clear p133
        try clear p134
        try clear p2
        try clear q133
        try clear q134
        obtain ⟨x6_3, rfl, HA, HK3, BK129, BK130, HB⟩ := hrel
        cases gk with
        | zero => exact absurd HA.out (by simp [spec_PlanSame.l1])
        | succ k3 =>
         have H := HA.out
         clear HA
         simp only [spec_PlanSame.l1] at H
         by_cases c36 : x6_3 < (l0_3.length : Int)
         ·rw [if_pos c36] at H
          have c36b0 : decide (x6_3 < (l0_3.length : Int)) = true := decide_eq_true c36
          clear c36
          by_cases c37 : 0 ≤ x6_3
          ·rw [if_pos c37] at H
           have c37b0 : decide (0 ≤ x6_3) = true := decide_eq_true c37
           clear c37
           by_cases c38 : x6_3 < (l1_3.length : Int)
           ·rw [if_pos c38] at H
            have c38b0 : decide (x6_3 < (l1_3.length : Int)) = true := decide_eq_true c38
            clear c38
            replace H := Option.bind_eq_some_iff.mp H
            obtain ⟨t137, A390, H⟩ := H
            (try dsimp only at H)
            have A39 := Aside0.mk A390
            clear A390
            by_cases c40 : t137 = true
            ·subst c40
             have H1 : (spec_PlanSame.l1 k3 (wrap64 (x6_3 + 1)) l0_0 l0_1 l0_2 l0_3 l1_0 l1_1 l1_2 l1_3) = some r := by rw [if_pos rfl] at H; exact H
             clear H
             have H := H1
             clear H1
             have H' := Aside0.mk H
             clear H
             have hnb41 := NB129_130.out
             have hnc41 := NB130_129.out
             have hcz42_0 : wr.cell? ⟨gb129, 0, none⟩ = some (.slice A0_0 l0_0.length c0_0) := kC BK129.out 0 rfl
             have hcz42_1 : wr.cell? ⟨gb129, 1, none⟩ = some (.slice A0_1 l0_1.length c0_1) := kC BK129.out 1 rfl
             have hcz42_2 : wr.cell? ⟨gb129, 2, none⟩ = some (.slice A0_2 l0_2.length c0_2) := kC BK129.out 2 rfl
             have hcz42_3 : wr.cell? ⟨gb129, 3, none⟩ = some (.slice A0_3 l0_3.length c0_3) := kC BK129.out 3 rfl
             have hfz42_0 := blk_frozen BK129.out 0
             have hfz42_1 := blk_frozen BK129.out 1
             have hfz42_2 := blk_frozen BK129.out 2
             have hfz42_3 := blk_frozen BK129.out 3
             try go_wp2
             replace BK129 := Aside0.mk (blk_drew BK129.out)
             replace BK130 := Aside0.mk (blk_drew BK130.out)
             replace HB := Aside0.mk (below_drew1 HB.out)
             have p135 : 0 ≤ (x6_3 : Int) := of_decide_eq_true (by first | (with_reducible assumption) | assumption)
             have q135 : x6_3 < (l0_3.length : Int) := of_decide_eq_true (by first | (with_reducible assumption) | assumption)
             obtain ⟨ad135, A135_0, c135_0, A135_1, c135_1, A135_2, c135_2, A135_3, c135_3, A135_4, c135_4, A135_5, c135_5, A135_6, c135_6, A135_7, c135_7, e135, hx135_0, hx135_1, hx135_2, hx135_3, hx135_4, hx135_5, hx135_6, hx135_7, hx135_8, hx135_9, hl135_0, hi135_0, hl135_1, hi135_1, hl135_2, hi135_2, hl135_3, hi135_3, hl135_4, hi135_4, hl135_5, hi135_5, hl135_6, hi135_6, hl135_7, hi135_7⟩ := at_T142 HR0_3.out x6_3 p135 q135
             have hw135_9 := hx135_9
             have hw135_8 := hx135_8
             have hw135_7 := hx135_7
             have hw135_6 := hx135_6
             have hw135_5 := hx135_5
             have hw135_4 := hx135_4
             have hw135_3 := hx135_3
             have hw135_2 := hx135_2
             have hw135_1 := hx135_1
             have hw135_0 := hx135_0
             cases e135
             replace hx135_0 := (HB.out.cell (World.block_lt_of_cell? w _ hx135_0)).trans hx135_0
             replace hx135_1 := (HB.out.cell (World.block_lt_of_cell? w _ hx135_1)).trans hx135_1
             replace hx135_2 := (HB.out.cell (World.block_lt_of_cell? w _ hx135_2)).trans hx135_2
             replace hx135_3 := (HB.out.cell (World.block_lt_of_cell? w _ hx135_3)).trans hx135_3
             replace hx135_4 := (HB.out.cell (World.block_lt_of_cell? w _ hx135_4)).trans hx135_4
             replace hx135_5 := (HB.out.cell (World.block_lt_of_cell? w _ hx135_5)).trans hx135_5
             replace hx135_6 := (HB.out.cell (World.block_lt_of_cell? w _ hx135_6)).trans hx135_6
             replace hx135_7 := (HB.out.cell (World.block_lt_of_cell? w _ hx135_7)).trans hx135_7
             replace hx135_8 := (HB.out.cell (World.block_lt_of_cell? w _ hx135_8)).trans hx135_8
             replace hx135_9 := (HB.out.cell (World.block_lt_of_cell? w _ hx135_9)).trans hx135_9
             have HR135_0 := Aside0.mk hi135_0
             have HC135_0 := Aside0.mk hl135_0
             clear hi135_0 hl135_0
             have HR135_1 := Aside0.mk hi135_1
             have HC135_1 := Aside0.mk hl135_1
             clear hi135_1 hl135_1
             have HR135_2 := Aside0.mk hi135_2
             have HC135_2 := Aside0.mk hl135_2
             clear hi135_2 hl135_2
             have HR135_3 := Aside0.mk hi135_3
             have HC135_3 := Aside0.mk hl135_3
             clear hi135_3 hl135_3
             have HR135_4 := Aside0.mk hi135_4
             have HC135_4 := Aside0.mk hl135_4
             clear hi135_4 hl135_4
             have HR135_5 := Aside0.mk hi135_5
             have HC135_5 := Aside0.mk hl135_5
             clear hi135_5 hl135_5
             have HR135_6 := Aside0.mk hi135_6
             have HC135_6 := Aside0.mk hl135_6
             clear hi135_6 hl135_6
             have HR135_7 := Aside0.mk hi135_7
             have HC135_7 := Aside0.mk hl135_7
             clear hi135_7 hl135_7
             replace p135 := eq_true p135
             replace q135 := eq_true q135
             have p136 : 0 ≤ (x6_3 : Int) := of_decide_eq_true (by first | (with_reducible assumption) | assumption)
             have q136 : x6_3 < (l1_3.length : Int) := of_decide_eq_true (by first | (with_reducible assumption) | assumption)
             obtain ⟨ad136, A136_0, c136_0, A136_1, c136_1, A136_2, c136_2, A136_3, c136_3, A136_4, c136_4, A136_5, c136_5, A136_6, c136_6, A136_7, c136_7, e136, hx136_0, hx136_1, hx136_2, hx136_3, hx136_4, hx136_5, hx136_6, hx136_7, hx136_8, hx136_9, hl136_0, hi136_0, hl136_1, hi136_1, hl136_2, hi136_2, hl136_3, hi136_3, hl136_4, hi136_4, hl136_5, hi136_5, hl136_6, hi136_6, hl136_7, hi136_7⟩ := at_T142 HR1_3.out x6_3 p136 q136
             have hw136_9 := hx136_9
             have hw136_8 := hx136_8
             have hw136_7 := hx136_7
             have hw136_6 := hx136_6
             have hw136_5 := hx136_5
             have hw136_4 := hx136_4
             have hw136_3 := hx136_3
             have hw136_2 := hx136_2
             have hw136_1 := hx136_1
             have hw136_0 := hx136_0
             cases e136
             replace hx136_0 := (HB.out.cell (World.block_lt_of_cell? w _ hx136_0)).trans hx136_0
             replace hx136_1 := (HB.out.cell (World.block_lt_of_cell? w _ hx136_1)).trans hx136_1
             replace hx136_2 := (HB.out.cell (World.block_lt_of_cell? w _ hx136_2)).trans hx136_2
             replace hx136_3 := (HB.out.cell (World.block_lt_of_cell? w _ hx136_3)).trans hx136_3
             replace hx136_4 := (HB.out.cell (World.block_lt_of_cell? w _ hx136_4)).trans hx136_4
             replace hx136_5 := (HB.out.cell (World.block_lt_of_cell? w _ hx136_5)).trans hx136_5
             replace hx136_6 := (HB.out.cell (World.block_lt_of_cell? w _ hx136_6)).trans hx136_6
             replace hx136_7 := (HB.out.cell (World.block_lt_of_cell? w _ hx136_7)).trans hx136_7
             replace hx136_8 := (HB.out.cell (World.block_lt_of_cell? w _ hx136_8)).trans hx136_8
             replace hx136_9 := (HB.out.cell (World.block_lt_of_cell? w _ hx136_9)).trans hx136_9
             have HR136_0 := Aside0.mk hi136_0
             have HC136_0 := Aside0.mk hl136_0
             clear hi136_0 hl136_0
             have HR136_1 := Aside0.mk hi136_1
             have HC136_1 := Aside0.mk hl136_1
             clear hi136_1 hl136_1
             have HR136_2 := Aside0.mk hi136_2
             have HC136_2 := Aside0.mk hl136_2
             clear hi136_2 hl136_2
             have HR136_3 := Aside0.mk hi136_3
             have HC136_3 := Aside0.mk hl136_3
             clear hi136_3 hl136_3
             have HR136_4 := Aside0.mk hi136_4
             have HC136_4 := Aside0.mk hl136_4
             clear hi136_4 hl136_4
             have HR136_5 := Aside0.mk hi136_5
             have HC136_5 := Aside0.mk hl136_5
             clear hi136_5 hl136_5
             have HR136_6 := Aside0.mk hi136_6
             have HC136_6 := Aside0.mk hl136_6
             clear hi136_6 hl136_6
             have HR136_7 := Aside0.mk hi136_7
             have HC136_7 := Aside0.mk hl136_7
             clear hi136_7 hl136_7
             replace p136 := eq_true p136
             replace q136 := eq_true q136
             refine start_ (n := 12) (S := fun w' => w'.cell? ⟨gb129, 0, none⟩ = some (.slice A0_0 l0_0.length c0_0) ∧ w'.cell? ⟨gb129, 1, none⟩ = some (.slice A0_1 l0_1.length c0_1) ∧ w'.cell? ⟨gb129, 2, none⟩ = some (.slice A0_2 l0_2.length c0_2) ∧ w'.cell? ⟨gb129, 3, none⟩ = some (.slice (some ad135) l0_3.length c0_3) ∧ w'.cell? ⟨gb130, 0, none⟩ = some (.slice A1_0 l1_0.length c1_0) ∧ w'.cell? ⟨gb130, 1, none⟩ = some (.slice A1_1 l1_1.length c1_1) ∧ w'.cell? ⟨gb130, 2, none⟩ = some (.slice A1_2 l1_2.length c1_2) ∧ w'.cell? ⟨gb130, 3, none⟩ = some (.slice (some ad136) l1_3.length c1_3) ∧ w'.cell? (ad135.add ((x6_3).toNat * 10)) = some (.slice A135_0 ((rd_T142 l0_3 x6_3).f0).length c135_0) ∧ w'.cell? ⟨(ad135.add ((x6_3).toNat * 10)).block, (ad135.add ((x6_3).toNat * 10)).off + 1, none⟩ = some (.slice A135_1 ((rd_T142 l0_3 x6_3).f1).length c135_1) ∧ w'.cell? ⟨(ad135.add ((x6_3).toNat * 10)).block, (ad135.add ((x6_3).toNat * 10)).off + 2, none⟩ = some (.slice A135_2 ((rd_T142 l0_3 x6_3).f2).length c135_2) ∧ w'.cell? ⟨(ad135.add ((x6_3).toNat * 10)).block, (ad135.add ((x6_3).toNat * 10)).off + 3, none⟩ = some (.slice A135_3 ((rd_T142 l0_3 x6_3).f3).length c135_3) ∧ w'.cell? ⟨(ad135.add ((x6_3).toNat * 10)).block, (ad135.add ((x6_3).toNat * 10)).off + 4, none⟩ = some (.slice A135_4 ((rd_T142 l0_3 x6_3).f4).length c135_4) ∧ w'.cell? ⟨(ad135.add ((x6_3).toNat * 10)).block, (ad135.add ((x6_3).toNat * 10)).off + 5, none⟩ = some (.slice A135_5 ((rd_T142 l0_3 x6_3).f5).length c135_5) ∧ w'.cell? ⟨(ad135.add ((x6_3).toNat * 10)).block, (ad135.add ((x6_3).toNat * 10)).off + 6, none⟩ = some (.slice A135_6 ((rd_T142 l0_3 x6_3).f6).length c135_6) ∧ w'.cell? ⟨(ad135.add ((x6_3).toNat * 10)).block, (ad135.add ((x6_3).toNat * 10)).off + 7, none⟩ = some (.slice A135_7 ((rd_T142 l0_3 x6_3).f7).length c135_7) ∧ w'.cell? ⟨(ad135.add ((x6_3).toNat * 10)).block, (ad135.add ((x6_3).toNat * 10)).off + 8, none⟩ = some (.bool ((rd_T142 l0_3 x6_3).f8)) ∧ w'.cell? ⟨(ad135.add ((x6_3).toNat * 10)).block, (ad135.add ((x6_3).toNat * 10)).off + 9, none⟩ = some (.bool ((rd_T142 l0_3 x6_3).f9)) ∧ w'.cell? (ad136.add ((x6_3).toNat * 10)) = some (.slice A136_0 ((rd_T142 l1_3 x6_3).f0).length c136_0) ∧ w'.cell? ⟨(ad136.add ((x6_3).toNat * 10)).block, (ad136.add ((x6_3).toNat * 10)).off + 1, none⟩ = some (.slice A136_1 ((rd_T142 l1_3 x6_3).f1).length c136_1) ∧ w'.cell? ⟨(ad136.add ((x6_3).toNat * 10)).block, (ad136.add ((x6_3).toNat * 10)).off + 2, none⟩ = some (.slice A136_2 ((rd_T142 l1_3 x6_3).f2).length c136_2) ∧ w'.cell? ⟨(ad136.add ((x6_3).toNat * 10)).block, (ad136.add ((x6_3).toNat * 10)).off + 3, none⟩ = some (.slice A136_3 ((rd_T142 l1_3 x6_3).f3).length c136_3) ∧ w'.cell? ⟨(ad136.add ((x6_3).toNat * 10)).block, (ad136.add ((x6_3).toNat * 10)).off + 4, none⟩ = some (.slice A136_4 ((rd_T142 l1_3 x6_3).f4).length c136_4) ∧ w'.cell? ⟨(ad136.add ((x6_3).toNat * 10)).block, (ad136.add ((x6_3).toNat * 10)).off + 5, none⟩ = some (.slice A136_5 ((rd_T142 l1_3 x6_3).f5).length c136_5) ∧ w'.cell? ⟨(ad136.add ((x6_3).toNat * 10)).block, (ad136.add ((x6_3).toNat * 10)).off + 6, none⟩ = some (.slice A136_6 ((rd_T142 l1_3 x6_3).f6).length c136_6) ∧ w'.cell? ⟨(ad136.add ((x6_3).toNat * 10)).block, (ad136.add ((x6_3).toNat * 10)).off + 7, none⟩ = some (.slice A136_7 ((rd_T142 l1_3 x6_3).f7).length c136_7) ∧ w'.cell? ⟨(ad136.add ((x6_3).toNat * 10)).block, (ad136.add ((x6_3).toNat * 10)).off + 8, none⟩ = some (.bool ((rd_T142 l1_3 x6_3).f8)) ∧ w'.cell? ⟨(ad136.add ((x6_3).toNat * 10)).block, (ad136.add ((x6_3).toNat * 10)).off + 9, none⟩ = some (.bool ((rd_T142 l1_3 x6_3).f9))) (ds := []) #[false, false, false, false, false, false, false, false, false, false, false, false] (by kernel_rfl) rfl rfl ⟨kC BK129.out 0 rfl, kC BK129.out 1 rfl, kC BK129.out 2 rfl, kC BK129.out 3 rfl, kC BK130.out 0 rfl, kC BK130.out 1 rfl, kC BK130.out 2 rfl, kC BK130.out 3 rfl, ((HB.out.cell (World.block_lt_of_cell? w _ hw135_0)).trans hw135_0), ((HB.out.cell (World.block_lt_of_cell? w _ hw135_1)).trans hw135_1), ((HB.out.cell (World.block_lt_of_cell? w _ hw135_2)).trans hw135_2), ((HB.out.cell (World.block_lt_of_cell? w _ hw135_3)).trans hw135_3), ((HB.out.cell (World.block_lt_of_cell? w _ hw135_4)).trans hw135_4), ((HB.out.cell (World.block_lt_of_cell? w _ hw135_5)).trans hw135_5), ((HB.out.cell (World.block_lt_of_cell? w _ hw135_6)).trans hw135_6), ((HB.out.cell (World.block_lt_of_cell? w _ hw135_7)).trans hw135_7), ((HB.out.cell (World.block_lt_of_cell? w _ hw135_8)).trans hw135_8), ((HB.out.cell (World.block_lt_of_cell? w _ hw135_9)).trans hw135_9), ((HB.out.cell (World.block_lt_of_cell? w _ hw136_0)).trans hw136_0), ((HB.out.cell (World.block_lt_of_cell? w _ hw136_1)).trans hw136_1), ((HB.out.cell (World.block_lt_of_cell? w _ hw136_2)).trans hw136_2), ((HB.out.cell (World.block_lt_of_cell? w _ hw136_3)).trans hw136_3), ((HB.out.cell (World.block_lt_of_cell? w _ hw136_4)).trans hw136_4), ((HB.out.cell (World.block_lt_of_cell? w _ hw136_5)).trans hw136_5), ((HB.out.cell (World.block_lt_of_cell? w _ hw136_6)).trans hw136_6), ((HB.out.cell (World.block_lt_of_cell? w _ hw136_7)).trans hw136_7), ((HB.out.cell (World.block_lt_of_cell? w _ hw136_8)).trans hw136_8), ((HB.out.cell (World.block_lt_of_cell? w _ hw136_9)).trans hw136_9)⟩ (fun hHeld => ?_); refine with_tabW spec_PlanSame.tab11 spec_PlanSame.bits11 (fun HT_ HW_ => ?_)
             generalize wr.drew = w43 at BK129 BK130 HB HR135_0 HR135_1 HR135_2 HR135_3 HR135_4 HR135_5 HR135_6 HR135_7 HR136_0 HR136_1 HR136_2 HR136_3 HR136_4 HR136_5 HR136_6 HR136_7 hx135_0 hx135_1 hx135_2 hx135_3 hx135_4 hx135_5 hx135_6 hx135_7 hx135_8 hx135_9 hx136_0 hx136_1 hx136_2 hx136_3 hx136_4 hx136_5 hx136_6 hx136_7 hx136_8 hx136_9 hHeld ⊢
             refine pure_ (i := 0) (N := some 64) (v := ?_) (a' := ?_) #[true, false, false, false, false, false, false, false, false, false, false, false] rfl rfl (any_of HT_.out (by kernel_rfl)) (fun _ _ _ h => h) (Or.inl ⟨by rfl, ?_⟩) ?_ ?_
             rotate_left
             ·intro w'
              go_simp
              with_reducible rfl
             rotate_left
             ·simp only [Act.put, List.setIfInBounds_toArray, List.set_cons_zero, List.set_cons_succ, i64_w, i32_w]
              rfl
             refine pure_ (i := 2) (N := some 66) (v := ?_) (a' := ?_) #[true, false, true, false, false, false, false, false, false, false, false, false] rfl rfl (any_of HT_.out (by kernel_rfl)) (fun _ _ _ h => h) (Or.inl ⟨by rfl, ?_⟩) ?_ ?_
             rotate_left
             ·intro w'
              go_simp
              with_reducible rfl
             rotate_left
             ·simp only [Act.put, List.setIfInBounds_toArray, List.set_cons_zero, List.set_cons_succ, i64_w, i32_w]
              rfl
             refine pure_ (i := 5) (N := some 69) (v := ?_) (a' := ?_) #[true, false, true, false, false, true, false, false, false, false, false, false] rfl rfl (any_of HT_.out (by kernel_rfl)) (fun _ _ _ h => h) (Or.inl ⟨by rfl, ?_⟩) ?_ ?_
             rotate_left
             ·intro w'
              go_simp
              with_reducible rfl
             rotate_left
             ·simp only [Act.put, List.setIfInBounds_toArray, List.set_cons_zero, List.set_cons_succ, i64_w, i32_w]
              rfl
             refine pure_ (i := 7) (N := some 71) (v := ?_) (a' := ?_) #[true, false, true, false, false, true, false, true, false, false, false, false] rfl rfl (any_of HT_.out (by kernel_rfl)) (fun _ _ _ h => h) (Or.inl ⟨by rfl, ?_⟩) ?_ ?_
             rotate_left
             ·intro w'
              go_simp
              with_reducible rfl
             rotate_left
             ·simp only [Act.put, List.setIfInBounds_toArray, List.set_cons_zero, List.set_cons_succ, i64_w, i32_w]
              rfl
             refine take_ (i := 1) (N := some 65) (v := ?_) (a' := ?_) #[true, true, true, false, false, true, false, true, false, false, false, false] rfl rfl (take_ofW HT_.out HW_.out (by kernel_rfl)) (fun _ _ _ h => h) (Or.inl ⟨by rfl, ?_⟩) hHeld ?_ ?_
             rotate_left
             ·rintro w' ⟨s0, s1, s2, s3, s4, s5, s6, s7, s8, s9, s10, s11, s12, s13, s14, s15, s16, s17, s18, s19, s20, s21, s22, s23, s24, s25, s26, s27⟩
              go_simp
              with_reducible rfl
             rotate_left
             ·simp only [Act.put, List.setIfInBounds_toArray, List.set_cons_zero, List.set_cons_succ, i64_w, i32_w]
              rfl
             refine pure_ (i := 3) (N := some 67) (v := ?_) (a' := ?_) #[true, true, true, true, false, true, false, true, false, false, false, false] rfl rfl (any_of HT_.out (by kernel_rfl)) (fun _ _ _ h => h) (Or.inl ⟨by rfl, ?_⟩) ?_ ?_
             rotate_left
             ·intro w'
              go_simp
              with_reducible rfl
             rotate_left
             ·simp only [Act.put, List.setIfInBounds_toArray, List.set_cons_zero, List.set_cons_succ, i64_w, i32_w]
              rfl
             refine take_ (i := 4) (N := some 68) (v := ?_) (a' := ?_) #[true, true, true, true, true, true, false, true, false, false, false, false] rfl rfl (take_ofW HT_.out HW_.out (by kernel_rfl)) (fun _ _ _ h => h) (Or.inl ⟨by rfl, ?_⟩) hHeld ?_ ?_
             rotate_left
             ·rintro w' ⟨s0, s1, s2, s3, s4, s5, s6, s7, s8, s9, s10, s11, s12, s13, s14, s15, s16, s17, s18, s19, s20, s21, s22, s23, s24, s25, s26, s27⟩
              go_simp
              with_reducible rfl
             rotate_left
             ·simp only [Act.put, List.setIfInBounds_toArray, List.set_cons_zero, List.set_cons_succ, i64_w, i32_w]
              rfl
             refine take_ (i := 6) (N := some 70) (v := ?_) (a' := ?_) #[true, true, true, true, true, true, true, true, false, false, false, false] rfl rfl (take_ofW HT_.out HW_.out (by kernel_rfl)) (fun _ _ _ h => h) (Or.inl ⟨by rfl, ?_⟩) hHeld ?_ ?_
             rotate_left
             ·rintro w' ⟨s0, s1, s2, s3, s4, s5, s6, s7, s8, s9, s10, s11, s12, s13, s14, s15, s16, s17, s18, s19, s20, s21, s22, s23, s24, s25, s26, s27⟩
              go_simp
              with_reducible rfl
             rotate_left
             ·simp only [Act.put, List.setIfInBounds_toArray, List.set_cons_zero, List.set_cons_succ, i64_w, i32_w]
              rfl
             refine pure_ (i := 8) (N := some 72) (v := ?_) (a' := ?_) #[true, true, true, true, true, true, true, true, true, false, false, false] rfl rfl (any_of HT_.out (by kernel_rfl)) (fun _ _ _ h => h) (Or.inl ⟨by rfl, ?_⟩) ?_ ?_
             rotate_left
             ·intro w'
              go_simp
              with_reducible rfl
             rotate_left
             ·simp only [Act.put, List.setIfInBounds_toArray, List.set_cons_zero, List.set_cons_succ, i64_w, i32_w]
              rfl
             refine take_ (i := 9) (N := some 73) (v := ?_) (a' := ?_) #[true, true, true, true, true, true, true, true, true, true, false, false] rfl rfl (take_ofW HT_.out HW_.out (by kernel_rfl)) (fun _ _ _ h => h) (Or.inl ⟨by rfl, ?_⟩) hHeld ?_ ?_
             rotate_left
             ·rintro w' ⟨s0, s1, s2, s3, s4, s5, s6, s7, s8, s9, s10, s11, s12, s13, s14, s15, s16, s17, s18, s19, s20, s21, s22, s23, s24, s25, s26, s27⟩
              go_simp
              with_reducible rfl
             rotate_left
             ·simp only [Act.put, List.setIfInBounds_toArray, List.set_cons_zero, List.set_cons_succ, i64_w, i32_w]
              rfl
             refine one_ (i := 10) (N := some 74) #[true, true, true, true, true, true, true, true, true, true, true, false] rfl rfl (one_of HT_.out (by kernel_rfl)) (by decide) (fun K hK => ?_)
             refine goes_ Try.func102 (by kernel_rfl) rfl #[.agg #[.slice A135_0 ((rd_T142 l0_3 x6_3).f0).length c135_0, .slice A135_1 ((rd_T142 l0_3 x6_3).f1).length c135_1, .slice A135_2 ((rd_T142 l0_3 x6_3).f2).length c135_2, .slice A135_3 ((rd_T142 l0_3 x6_3).f3).length c135_3, .slice A135_4 ((rd_T142 l0_3 x6_3).f4).length c135_4, .slice A135_5 ((rd_T142 l0_3 x6_3).f5).length c135_5, .slice A135_6 ((rd_T142 l0_3 x6_3).f6).length c135_6, .slice A135_7 ((rd_T142 l0_3 x6_3).f7).length c135_7, .bool ((rd_T142 l0_3 x6_3).f8), .bool ((rd_T142 l0_3 x6_3).f9)], .agg #[.slice A136_0 ((rd_T142 l1_3 x6_3).f0).length c136_0, .slice A136_1 ((rd_T142 l1_3 x6_3).f1).length c136_1, .slice A136_2 ((rd_T142 l1_3 x6_3).f2).length c136_2, .slice A136_3 ((rd_T142 l1_3 x6_3).f3).length c136_3, .slice A136_4 ((rd_T142 l1_3 x6_3).f4).length c136_4, .slice A136_5 ((rd_T142 l1_3 x6_3).f5).length c136_5, .slice A136_6 ((rd_T142 l1_3 x6_3).f6).length c136_6, .slice A136_7 ((rd_T142 l1_3 x6_3).f7).length c136_7, .bool ((rd_T142 l1_3 x6_3).f8), .bool ((rd_T142 l1_3 x6_3).f9)]] (by rfl) rfl rfl (by (try simp only [List.map_toArray, List.map_cons, List.map_nil]); first | done | rfl | (simp only [List.length_drop, List.length_take]; rfl)) ?_
             with_reducible refine (spec_l17SameEffect.calls k3 _ _ ((rd_T142 l0_3 x6_3).f0) _ _ ((rd_T142 l0_3 x6_3).f1) _ _ ((rd_T142 l0_3 x6_3).f2) _ _ ((rd_T142 l0_3 x6_3).f3) _ _ ((rd_T142 l0_3 x6_3).f4) _ _ ((rd_T142 l0_3 x6_3).f5) _ _ ((rd_T142 l0_3 x6_3).f6) _ _ ((rd_T142 l0_3 x6_3).f7) ((rd_T142 l0_3 x6_3).f8) ((rd_T142 l0_3 x6_3).f9) _ _ ((rd_T142 l1_3 x6_3).f0) _ _ ((rd_T142 l1_3 x6_3).f1) _ _ ((rd_T142 l1_3 x6_3).f2) _ _ ((rd_T142 l1_3 x6_3).f3) _ _ ((rd_T142 l1_3 x6_3).f4) _ _ ((rd_T142 l1_3 x6_3).f5) _ _ ((rd_T142 l1_3 x6_3).f6) _ _ ((rd_T142 l1_3 x6_3).f7) ((rd_T142 l1_3 x6_3).f8) ((rd_T142 l1_3 x6_3).f9) true _ ?side1 ?side2 ?side3 ?side4 ?side5 ?side6 ?side7 ?side8 ?side9 ?side10 ?side11 ?side12 ?side13 ?side14 ?side15 ?side16 ?side17 ?side18 ?side19 ?side20 ?side21 ?side22 ?side23 ?side24 ?side25 ?side26 ?side27 ?side28 ?side29 ?side30 ?side31 ?side32 A39.out).mono ?_
             (case side1 => exact cS (Kd.C_below HR135_0.out HB.out))
             (case side2 => exact HC135_0.out)
             (case side3 => exact cS (Kd.C_below HR135_1.out HB.out))
             (case side4 => exact HC135_1.out)
             (case side5 => exact cS (Kd.C_below HR135_2.out HB.out))
             (case side6 => exact HC135_2.out)
             (case side7 => exact cS (Kd.C_below HR135_3.out HB.out))
             (case side8 => exact HC135_3.out)
             (case side9 => exact cS (Kd.C_below HR135_4.out HB.out))
             (case side10 => exact HC135_4.out)
             (case side11 => exact cS (Kd.C_below HR135_5.out HB.out))
             (case side12 => exact HC135_5.out)
             (case side13 => exact cS (Kd.C_below HR135_6.out HB.out))
             (case side14 => exact HC135_6.out)
             (case side15 => exact cS (Kd.C_below HR135_7.out HB.out))
             (case side16 => exact HC135_7.out)
             (case side17 => exact cS (Kd.C_below HR136_0.out HB.out))
             (case side18 => exact HC136_0.out)
             (case side19 => exact cS (Kd.C_below HR136_1.out HB.out))
             (case side20 => exact HC136_1.out)
             (case side21 => exact cS (Kd.C_below HR136_2.out HB.out))
             (case side22 => exact HC136_2.out)
             (case side23 => exact cS (Kd.C_below HR136_3.out HB.out))
             (case side24 => exact HC136_3.out)
             (case side25 => exact cS (Kd.C_below HR136_4.out HB.out))
             (case side26 => exact HC136_4.out)
             (case side27 => exact cS (Kd.C_below HR136_5.out HB.out))
             (case side28 => exact HC136_5.out)
             (case side29 => exact cS (Kd.C_below HR136_6.out HB.out))
             (case side30 => exact HC136_6.out)
             (case side31 => exact cS (Kd.C_below HR136_7.out HB.out))
             (case side32 => exact HC136_7.out)
             rintro e w44 ⟨rfl, hb⟩
             refine ⟨_, rfl, ?_⟩
             replace BK129 := Aside0.mk (kS BK129.out hb)
             replace BK130 := Aside0.mk (kS BK130.out hb)
             replace HB := Aside0.mk (below_step (by repeat (first | (with_reducible first | exact HB.out | apply below_alloc | apply pw_below_drewN | apply below_drew1 | refine below_set ?_ GE129.out | refine below_set ?_ GE130.out) | exact HB.out)) hb)
             (try clear hb)
             (try clear hb2)
             (try clear hk)
             (try clear hi)
             refine hK.out _ _ ⟨kC BK129.out 0 rfl, kC BK129.out 1 rfl, kC BK129.out 2 rfl, kC BK129.out 3 rfl, kC BK130.out 0 rfl, kC BK130.out 1 rfl, kC BK130.out 2 rfl, kC BK130.out 3 rfl, ((HB.out.cell (World.block_lt_of_cell? w _ hw135_0)).trans hw135_0), ((HB.out.cell (World.block_lt_of_cell? w _ hw135_1)).trans hw135_1), ((HB.out.cell (World.block_lt_of_cell? w _ hw135_2)).trans hw135_2), ((HB.out.cell (World.block_lt_of_cell? w _ hw135_3)).trans hw135_3), ((HB.out.cell (World.block_lt_of_cell? w _ hw135_4)).trans hw135_4), ((HB.out.cell (World.block_lt_of_cell? w _ hw135_5)).trans hw135_5), ((HB.out.cell (World.block_lt_of_cell? w _ hw135_6)).trans hw135_6), ((HB.out.cell (World.block_lt_of_cell? w _ hw135_7)).trans hw135_7), ((HB.out.cell (World.block_lt_of_cell? w _ hw135_8)).trans hw135_8), ((HB.out.cell (World.block_lt_of_cell? w _ hw135_9)).trans hw135_9), ((HB.out.cell (World.block_lt_of_cell? w _ hw136_0)).trans hw136_0), ((HB.out.cell (World.block_lt_of_cell? w _ hw136_1)).trans hw136_1), ((HB.out.cell (World.block_lt_of_cell? w _ hw136_2)).trans hw136_2), ((HB.out.cell (World.block_lt_of_cell? w _ hw136_3)).trans hw136_3), ((HB.out.cell (World.block_lt_of_cell? w _ hw136_4)).trans hw136_4), ((HB.out.cell (World.block_lt_of_cell? w _ hw136_5)).trans hw136_5), ((HB.out.cell (World.block_lt_of_cell? w _ hw136_6)).trans hw136_6), ((HB.out.cell (World.block_lt_of_cell? w _ hw136_7)).trans hw136_7), ((HB.out.cell (World.block_lt_of_cell? w _ hw136_8)).trans hw136_8), ((HB.out.cell (World.block_lt_of_cell? w _ hw136_9)).trans hw136_9)⟩ (fun hHeld => ?_)
             clear hK K
             refine norm_ (a' := ?_) ?_ ?_
             rotate_left
             ·show Act.put _ (some 74) _ = _
              simp only [Act.put, List.setIfInBounds_toArray, List.set_cons_zero, List.set_cons_succ, i64_w, i32_w]
              rfl
             refine pure_ (i := 11) (N := some 75) (v := ?_) (a' := ?_) #[true, true, true, true, true, true, true, true, true, true, true, true] rfl rfl (any_of HT_.out (by kernel_rfl)) (fun _ _ _ h => h) (Or.inl ⟨by rfl, ?_⟩) ?_ ?_
             rotate_left
             ·intro w'
              go_simp
              with_reducible rfl
             rotate_left
             ·simp only [Act.put, List.setIfInBounds_toArray, List.set_cons_zero, List.set_cons_succ, i64_w, i32_w]
              rfl
             refine done_ (done_of HT_.out (by kernel_rfl)) ?_
             try go_wp2
             go_roundg k3
             case measure => have := HJ2.out; have := HK2.out; have := HK3.out; omega
             case rel => exact ⟨(wrap64 (x6_3 + 1)), (by first | rfl | (simp; done) | (simp [*]; done)), H', ⟨by have := HJ2.out; have := HK2.out; have := HK3.out; omega⟩, ⟨by (with_reducible repeat (first | refine blk_drewN ?_ _ | refine blk_drew ?_ | refine blk_alloc ?_ _)); exact BK129.out⟩, ⟨by (with_reducible repeat (first | refine blk_drewN ?_ _ | refine blk_drew ?_ | refine blk_alloc ?_ _)); exact BK130.out⟩, ⟨by repeat (first | (with_reducible first | exact HB.out | apply below_alloc | apply pw_below_drewN | apply below_drew1 | refine below_set ?_ GE129.out | refine below_set ?_ GE130.out) | exact HB.out)⟩⟩
            ·replace c40 := Bool.eq_false_iff.mpr c40
             subst c40
             have H1 : (some false) = some r := by rw [if_neg (show ¬ (false = true) by decide)] at H; exact H
             clear H
             have H := H1
             clear H1
             obtain rfl := Option.some.inj H
             have hnb45 := NB129_130.out
             have hnc45 := NB130_129.out
             have hcz46_0 : wr.cell? ⟨gb129, 0, none⟩ = some (.slice A0_0 l0_0.length c0_0) := kC BK129.out 0 rfl
             have hcz46_1 : wr.cell? ⟨gb129, 1, none⟩ = some (.slice A0_1 l0_1.length c0_1) := kC BK129.out 1 rfl
             have hcz46_2 : wr.cell? ⟨gb129, 2, none⟩ = some (.slice A0_2 l0_2.length c0_2) := kC BK129.out 2 rfl
             have hcz46_3 : wr.cell? ⟨gb129, 3, none⟩ = some (.slice A0_3 l0_3.length c0_3) := kC BK129.out 3 rfl
             have hfz46_0 := blk_frozen BK129.out 0
             have hfz46_1 := blk_frozen BK129.out 1
             have hfz46_2 := blk_frozen BK129.out 2
             have hfz46_3 := blk_frozen BK129.out 3
             try go_wp2
             replace BK129 := Aside0.mk (blk_drew BK129.out)
             replace BK130 := Aside0.mk (blk_drew BK130.out)
             replace HB := Aside0.mk (below_drew1 HB.out)
             have p135 : 0 ≤ (x6_3 : Int) := of_decide_eq_true (by first | (with_reducible assumption) | assumption)
             have q135 : x6_3 < (l0_3.length : Int) := of_decide_eq_true (by first | (with_reducible assumption) | assumption)
             obtain ⟨ad135, A135_0, c135_0, A135_1, c135_1, A135_2, c135_2, A135_3, c135_3, A135_4, c135_4, A135_5, c135_5, A135_6, c135_6, A135_7, c135_7, e135, hx135_0, hx135_1, hx135_2, hx135_3, hx135_4, hx135_5, hx135_6, hx135_7, hx135_8, hx135_9, hl135_0, hi135_0, hl135_1, hi135_1, hl135_2, hi135_2, hl135_3, hi135_3, hl135_4, hi135_4, hl135_5, hi135_5, hl135_6, hi135_6, hl135_7, hi135_7⟩ := at_T142 HR0_3.out x6_3 p135 q135
             have hw135_9 := hx135_9
             have hw135_8 := hx135_8
             have hw135_7 := hx135_7
             have hw135_6 := hx135_6
             have hw135_5 := hx135_5
             have hw135_4 := hx135_4
             have hw135_3 := hx135_3
             have hw135_2 := hx135_2
             have hw135_1 := hx135_1
             have hw135_0 := hx135_0
             cases e135
             replace hx135_0 := (HB.out.cell (World.block_lt_of_cell? w _ hx135_0)).trans hx135_0
             replace hx135_1 := (HB.out.cell (World.block_lt_of_cell? w _ hx135_1)).trans hx135_1
             replace hx135_2 := (HB.out.cell (World.block_lt_of_cell? w _ hx135_2)).trans hx135_2
             replace hx135_3 := (HB.out.cell (World.block_lt_of_cell? w _ hx135_3)).trans hx135_3
             replace hx135_4 := (HB.out.cell (World.block_lt_of_cell? w _ hx135_4)).trans hx135_4
             replace hx135_5 := (HB.out.cell (World.block_lt_of_cell? w _ hx135_5)).trans hx135_5
             replace hx135_6 := (HB.out.cell (World.block_lt_of_cell? w _ hx135_6)).trans hx135_6
             replace hx135_7 := (HB.out.cell (World.block_lt_of_cell? w _ hx135_7)).trans hx135_7
             replace hx135_8 := (HB.out.cell (World.block_lt_of_cell? w _ hx135_8)).trans hx135_8
             replace hx135_9 := (HB.out.cell (World.block_lt_of_cell? w _ hx135_9)).trans hx135_9
             have HR135_0 := Aside0.mk hi135_0
             have HC135_0 := Aside0.mk hl135_0
             clear hi135_0 hl135_0
             have HR135_1 := Aside0.mk hi135_1
             have HC135_1 := Aside0.mk hl135_1
             clear hi135_1 hl135_1
             have HR135_2 := Aside0.mk hi135_2
             have HC135_2 := Aside0.mk hl135_2
             clear hi135_2 hl135_2
             have HR135_3 := Aside0.mk hi135_3
             have HC135_3 := Aside0.mk hl135_3
             clear hi135_3 hl135_3
             have HR135_4 := Aside0.mk hi135_4
             have HC135_4 := Aside0.mk hl135_4
             clear hi135_4 hl135_4
             have HR135_5 := Aside0.mk hi135_5
             have HC135_5 := Aside0.mk hl135_5
             clear hi135_5 hl135_5
             have HR135_6 := Aside0.mk hi135_6
             have HC135_6 := Aside0.mk hl135_6
             clear hi135_6 hl135_6
             have HR135_7 := Aside0.mk hi135_7
             have HC135_7 := Aside0.mk hl135_7
             clear hi135_7 hl135_7
             replace p135 := eq_true p135
             replace q135 := eq_true q135
             have p136 : 0 ≤ (x6_3 : Int) := of_decide_eq_true (by first | (with_reducible assumption) | assumption)
             have q136 : x6_3 < (l1_3.length : Int) := of_decide_eq_true (by first | (with_reducible assumption) | assumption)
             obtain ⟨ad136, A136_0, c136_0, A136_1, c136_1, A136_2, c136_2, A136_3, c136_3, A136_4, c136_4, A136_5, c136_5, A136_6, c136_6, A136_7, c136_7, e136, hx136_0, hx136_1, hx136_2, hx136_3, hx136_4, hx136_5, hx136_6, hx136_7, hx136_8, hx136_9, hl136_0, hi136_0, hl136_1, hi136_1, hl136_2, hi136_2, hl136_3, hi136_3, hl136_4, hi136_4, hl136_5, hi136_5, hl136_6, hi136_6, hl136_7, hi136_7⟩ := at_T142 HR1_3.out x6_3 p136 q136
             have hw136_9 := hx136_9
             have hw136_8 := hx136_8
             have hw136_7 := hx136_7
             have hw136_6 := hx136_6
             have hw136_5 := hx136_5
             have hw136_4 := hx136_4
             have hw136_3 := hx136_3
             have hw136_2 := hx136_2
             have hw136_1 := hx136_1
             have hw136_0 := hx136_0
             cases e136
             replace hx136_0 := (HB.out.cell (World.block_lt_of_cell? w _ hx136_0)).trans hx136_0
             replace hx136_1 := (HB.out.cell (World.block_lt_of_cell? w _ hx136_1)).trans hx136_1
             replace hx136_2 := (HB.out.cell (World.block_lt_of_cell? w _ hx136_2)).trans hx136_2
             replace hx136_3 := (HB.out.cell (World.block_lt_of_cell? w _ hx136_3)).trans hx136_3
             replace hx136_4 := (HB.out.cell (World.block_lt_of_cell? w _ hx136_4)).trans hx136_4
             replace hx136_5 := (HB.out.cell (World.block_lt_of_cell? w _ hx136_5)).trans hx136_5
             replace hx136_6 := (HB.out.cell (World.block_lt_of_cell? w _ hx136_6)).trans hx136_6
             replace hx136_7 := (HB.out.cell (World.block_lt_of_cell? w _ hx136_7)).trans hx136_7
             replace hx136_8 := (HB.out.cell (World.block_lt_of_cell? w _ hx136_8)).trans hx136_8
             replace hx136_9 := (HB.out.cell (World.block_lt_of_cell? w _ hx136_9)).trans hx136_9
             have HR136_0 := Aside0.mk hi136_0
             have HC136_0 := Aside0.mk hl136_0
             clear hi136_0 hl136_0
             have HR136_1 := Aside0.mk hi136_1
             have HC136_1 := Aside0.mk hl136_1
             clear hi136_1 hl136_1
             have HR136_2 := Aside0.mk hi136_2
             have HC136_2 := Aside0.mk hl136_2
             clear hi136_2 hl136_2
             have HR136_3 := Aside0.mk hi136_3
             have HC136_3 := Aside0.mk hl136_3
             clear hi136_3 hl136_3
             have HR136_4 := Aside0.mk hi136_4
             have HC136_4 := Aside0.mk hl136_4
             clear hi136_4 hl136_4
             have HR136_5 := Aside0.mk hi136_5
             have HC136_5 := Aside0.mk hl136_5
             clear hi136_5 hl136_5
             have HR136_6 := Aside0.mk hi136_6
             have HC136_6 := Aside0.mk hl136_6
             clear hi136_6 hl136_6
             have HR136_7 := Aside0.mk hi136_7
             have HC136_7 := Aside0.mk hl136_7
             clear hi136_7 hl136_7
             replace p136 := eq_true p136
             replace q136 := eq_true q136
             refine start_ (n := 12) (S := fun w' => w'.cell? ⟨gb129, 0, none⟩ = some (.slice A0_0 l0_0.length c0_0) ∧ w'.cell? ⟨gb129, 1, none⟩ = some (.slice A0_1 l0_1.length c0_1) ∧ w'.cell? ⟨gb129, 2, none⟩ = some (.slice A0_2 l0_2.length c0_2) ∧ w'.cell? ⟨gb129, 3, none⟩ = some (.slice (some ad135) l0_3.length c0_3) ∧ w'.cell? ⟨gb130, 0, none⟩ = some (.slice A1_0 l1_0.length c1_0) ∧ w'.cell? ⟨gb130, 1, none⟩ = some (.slice A1_1 l1_1.length c1_1) ∧ w'.cell? ⟨gb130, 2, none⟩ = some (.slice A1_2 l1_2.length c1_2) ∧ w'.cell? ⟨gb130, 3, none⟩ = some (.slice (some ad136) l1_3.length c1_3) ∧ w'.cell? (ad135.add ((x6_3).toNat * 10)) = some (.slice A135_0 ((rd_T142 l0_3 x6_3).f0).length c135_0) ∧ w'.cell? ⟨(ad135.add ((x6_3).toNat * 10)).block, (ad135.add ((x6_3).toNat * 10)).off + 1, none⟩ = some (.slice A135_1 ((rd_T142 l0_3 x6_3).f1).length c135_1) ∧ w'.cell? ⟨(ad135.add ((x6_3).toNat * 10)).block, (ad135.add ((x6_3).toNat * 10)).off + 2, none⟩ = some (.slice A135_2 ((rd_T142 l0_3 x6_3).f2).length c135_2) ∧ w'.cell? ⟨(ad135.add ((x6_3).toNat * 10)).block, (ad135.add ((x6_3).toNat * 10)).off + 3, none⟩ = some (.slice A135_3 ((rd_T142 l0_3 x6_3).f3).length c135_3) ∧ w'.cell? ⟨(ad135.add ((x6_3).toNat * 10)).block, (ad135.add ((x6_3).toNat * 10)).off + 4, none⟩ = some (.slice A135_4 ((rd_T142 l0_3 x6_3).f4).length c135_4) ∧ w'.cell? ⟨(ad135.add ((x6_3).toNat * 10)).block, (ad135.add ((x6_3).toNat * 10)).off + 5, none⟩ = some (.slice A135_5 ((rd_T142 l0_3 x6_3).f5).length c135_5) ∧ w'.cell? ⟨(ad135.add ((x6_3).toNat * 10)).block, (ad135.add ((x6_3).toNat * 10)).off + 6, none⟩ = some (.slice A135_6 ((rd_T142 l0_3 x6_3).f6).length c135_6) ∧ w'.cell? ⟨(ad135.add ((x6_3).toNat * 10)).block, (ad135.add ((x6_3).toNat * 10)).off + 7, none⟩ = some (.slice A135_7 ((rd_T142 l0_3 x6_3).f7).length c135_7) ∧ w'.cell? ⟨(ad135.add ((x6_3).toNat * 10)).block, (ad135.add ((x6_3).toNat * 10)).off + 8, none⟩ = some (.bool ((rd_T142 l0_3 x6_3).f8)) ∧ w'.cell? ⟨(ad135.add ((x6_3).toNat * 10)).block, (ad135.add ((x6_3).toNat * 10)).off + 9, none⟩ = some (.bool ((rd_T142 l0_3 x6_3).f9)) ∧ w'.cell? (ad136.add ((x6_3).toNat * 10)) = some (.slice A136_0 ((rd_T142 l1_3 x6_3).f0).length c136_0) ∧ w'.cell? ⟨(ad136.add ((x6_3).toNat * 10)).block, (ad136.add ((x6_3).toNat * 10)).off + 1, none⟩ = some (.slice A136_1 ((rd_T142 l1_3 x6_3).f1).length c136_1) ∧ w'.cell? ⟨(ad136.add ((x6_3).toNat * 10)).block, (ad136.add ((x6_3).toNat * 10)).off + 2, none⟩ = some (.slice A136_2 ((rd_T142 l1_3 x6_3).f2).length c136_2) ∧ w'.cell? ⟨(ad136.add ((x6_3).toNat * 10)).block, (ad136.add ((x6_3).toNat * 10)).off + 3, none⟩ = some (.slice A136_3 ((rd_T142 l1_3 x6_3).f3).length c136_3) ∧ w'.cell? ⟨(ad136.add ((x6_3).toNat * 10)).block, (ad136.add ((x6_3).toNat * 10)).off + 4, none⟩ = some (.slice A136_4 ((rd_T142 l1_3 x6_3).f4).length c136_4) ∧ w'.cell? ⟨(ad136.add ((x6_3).toNat * 10)).block, (ad136.add ((x6_3).toNat * 10)).off + 5, none⟩ = some (.slice A136_5 ((rd_T142 l1_3 x6_3).f5).length c136_5) ∧ w'.cell? ⟨(ad136.add ((x6_3).toNat * 10)).block, (ad136.add ((x6_3).toNat * 10)).off + 6, none⟩ = some (.slice A136_6 ((rd_T142 l1_3 x6_3).f6).length c136_6) ∧ w'.cell? ⟨(ad136.add ((x6_3).toNat * 10)).block, (ad136.add ((x6_3).toNat * 10)).off + 7, none⟩ = some (.slice A136_7 ((rd_T142 l1_3 x6_3).f7).length c136_7) ∧ w'.cell? ⟨(ad136.add ((x6_3).toNat * 10)).block, (ad136.add ((x6_3).toNat * 10)).off + 8, none⟩ = some (.bool ((rd_T142 l1_3 x6_3).f8)) ∧ w'.cell? ⟨(ad136.add ((x6_3).toNat * 10)).block, (ad136.add ((x6_3).toNat * 10)).off + 9, none⟩ = some (.bool ((rd_T142 l1_3 x6_3).f9))) (ds := []) #[false, false, false, false, false, false, false, false, false, false, false, false] (by kernel_rfl) rfl rfl ⟨kC BK129.out 0 rfl, kC BK129.out 1 rfl, kC BK129.out 2 rfl, kC BK129.out 3 rfl, kC BK130.out 0 rfl, kC BK130.out 1 rfl, kC BK130.out 2 rfl, kC BK130.out 3 rfl, ((HB.out.cell (World.block_lt_of_cell? w _ hw135_0)).trans hw135_0), ((HB.out.cell (World.block_lt_of_cell? w _ hw135_1)).trans hw135_1), ((HB.out.cell (World.block_lt_of_cell? w _ hw135_2)).trans hw135_2), ((HB.out.cell (World.block_lt_of_cell? w _ hw135_3)).trans hw135_3), ((HB.out.cell (World.block_lt_of_cell? w _ hw135_4)).trans hw135_4), ((HB.out.cell (World.block_lt_of_cell? w _ hw135_5)).trans hw135_5), ((HB.out.cell (World.block_lt_of_cell? w _ hw135_6)).trans hw135_6), ((HB.out.cell (World.block_lt_of_cell? w _ hw135_7)).trans hw135_7), ((HB.out.cell (World.block_lt_of_cell? w _ hw135_8)).trans hw135_8), ((HB.out.cell (World.block_lt_of_cell? w _ hw135_9)).trans hw135_9), ((HB.out.cell (World.block_lt_of_cell? w _ hw136_0)).trans hw136_0), ((HB.out.cell (World.block_lt_of_cell? w _ hw136_1)).trans hw136_1), ((HB.out.cell (World.block_lt_of_cell? w _ hw136_2)).trans hw136_2), ((HB.out.cell (World.block_lt_of_cell? w _ hw136_3)).trans hw136_3), ((HB.out.cell (World.block_lt_of_cell? w _ hw136_4)).trans hw136_4), ((HB.out.cell (World.block_lt_of_cell? w _ hw136_5)).trans hw136_5), ((HB.out.cell (World.block_lt_of_cell? w _ hw136_6)).trans hw136_6), ((HB.out.cell (World.block_lt_of_cell? w _ hw136_7)).trans hw136_7), ((HB.out.cell (World.block_lt_of_cell? w _ hw136_8)).trans hw136_8), ((HB.out.cell (World.block_lt_of_cell? w _ hw136_9)).trans hw136_9)⟩ (fun hHeld => ?_); refine with_tabW spec_PlanSame.tab11 spec_PlanSame.bits11 (fun HT_ HW_ => ?_)
             generalize wr.drew = w47 at BK129 BK130 HB HR135_0 HR135_1 HR135_2 HR135_3 HR135_4 HR135_5 HR135_6 HR135_7 HR136_0 HR136_1 HR136_2 HR136_3 HR136_4 HR136_5 HR136_6 HR136_7 hx135_0 hx135_1 hx135_2 hx135_3 hx135_4 hx135_5 hx135_6 hx135_7 hx135_8 hx135_9 hx136_0 hx136_1 hx136_2 hx136_3 hx136_4 hx136_5 hx136_6 hx136_7 hx136_8 hx136_9 hHeld ⊢
             refine pure_ (i := 0) (N := some 64) (v := ?_) (a' := ?_) #[true, false, false, false, false, false, false, false, false, false, false, false] rfl rfl (any_of HT_.out (by kernel_rfl)) (fun _ _ _ h => h) (Or.inl ⟨by rfl, ?_⟩) ?_ ?_
             rotate_left
             ·intro w'
              go_simp
              with_reducible rfl
             rotate_left
             ·simp only [Act.put, List.setIfInBounds_toArray, List.set_cons_zero, List.set_cons_succ, i64_w, i32_w]
              rfl
             refine pure_ (i := 2) (N := some 66) (v := ?_) (a' := ?_) #[true, false, true, false, false, false, false, false, false, false, false, false] rfl rfl (any_of HT_.out (by kernel_rfl)) (fun _ _ _ h => h) (Or.inl ⟨by rfl, ?_⟩) ?_ ?_
             rotate_left
             ·intro w'
              go_simp
              with_reducible rfl
             rotate_left
             ·simp only [Act.put, List.setIfInBounds_toArray, List.set_cons_zero, List.set_cons_succ, i64_w, i32_w]
              rfl
             refine pure_ (i := 5) (N := some 69) (v := ?_) (a' := ?_) #[true, false, true, false, false, true, false, false, false, false, false, false] rfl rfl (any_of HT_.out (by kernel_rfl)) (fun _ _ _ h => h) (Or.inl ⟨by rfl, ?_⟩) ?_ ?_
             rotate_left
             ·intro w'
              go_simp
              with_reducible rfl
             rotate_left
             ·simp only [Act.put, List.setIfInBounds_toArray, List.set_cons_zero, List.set_cons_succ, i64_w, i32_w]
              rfl
             refine pure_ (i := 7) (N := some 71) (v := ?_) (a' := ?_) #[true, false, true, false, false, true, false, true, false, false, false, false] rfl rfl (any_of HT_.out (by kernel_rfl)) (fun _ _ _ h => h) (Or.inl ⟨by rfl, ?_⟩) ?_ ?_
             rotate_left
             ·intro w'
              go_simp
              with_reducible rfl
             rotate_left
             ·simp only [Act.put, List.setIfInBounds_toArray, List.set_cons_zero, List.set_cons_succ, i64_w, i32_w]
              rfl
             refine take_ (i := 1) (N := some 65) (v := ?_) (a' := ?_) #[true, true, true, false, false, true, false, true, false, false, false, false] rfl rfl (take_ofW HT_.out HW_.out (by kernel_rfl)) (fun _ _ _ h => h) (Or.inl ⟨by rfl, ?_⟩) hHeld ?_ ?_
             rotate_left
             ·rintro w' ⟨s0, s1, s2, s3, s4, s5, s6, s7, s8, s9, s10, s11, s12, s13, s14, s15, s16, s17, s18, s19, s20, s21, s22, s23, s24, s25, s26, s27⟩
              go_simp
              with_reducible rfl
             rotate_left
             ·simp only [Act.put, List.setIfInBounds_toArray, List.set_cons_zero, List.set_cons_succ, i64_w, i32_w]
              rfl
             refine pure_ (i := 3) (N := some 67) (v := ?_) (a' := ?_) #[true, true, true, true, false, true, false, true, false, false, false, false] rfl rfl (any_of HT_.out (by kernel_rfl)) (fun _ _ _ h => h) (Or.inl ⟨by rfl, ?_⟩) ?_ ?_
             rotate_left
             ·intro w'
              go_simp
              with_reducible rfl
             rotate_left
             ·simp only [Act.put, List.setIfInBounds_toArray, List.set_cons_zero, List.set_cons_succ, i64_w, i32_w]
              rfl
             refine take_ (i := 4) (N := some 68) (v := ?_) (a' := ?_) #[true, true, true, true, true, true, false, true, false, false, false, false] rfl rfl (take_ofW HT_.out HW_.out (by kernel_rfl)) (fun _ _ _ h => h) (Or.inl ⟨by rfl, ?_⟩) hHeld ?_ ?_
             rotate_left
             ·rintro w' ⟨s0, s1, s2, s3, s4, s5, s6, s7, s8, s9, s10, s11, s12, s13, s14, s15, s16, s17, s18, s19, s20, s21, s22, s23, s24, s25, s26, s27⟩
              go_simp
              with_reducible rfl
             rotate_left
             ·simp only [Act.put, List.setIfInBounds_toArray, List.set_cons_zero, List.set_cons_succ, i64_w, i32_w]
              rfl
             refine take_ (i := 6) (N := some 70) (v := ?_) (a' := ?_) #[true, true, true, true, true, true, true, true, false, false, false, false] rfl rfl (take_ofW HT_.out HW_.out (by kernel_rfl)) (fun _ _ _ h => h) (Or.inl ⟨by rfl, ?_⟩) hHeld ?_ ?_
             rotate_left
             ·rintro w' ⟨s0, s1, s2, s3, s4, s5, s6, s7, s8, s9, s10, s11, s12, s13, s14, s15, s16, s17, s18, s19, s20, s21, s22, s23, s24, s25, s26, s27⟩
              go_simp
              with_reducible rfl
             rotate_left
             ·simp only [Act.put, List.setIfInBounds_toArray, List.set_cons_zero, List.set_cons_succ, i64_w, i32_w]
              rfl
             refine pure_ (i := 8) (N := some 72) (v := ?_) (a' := ?_) #[true, true, true, true, true, true, true, true, true, false, false, false] rfl rfl (any_of HT_.out (by kernel_rfl)) (fun _ _ _ h => h) (Or.inl ⟨by rfl, ?_⟩) ?_ ?_
             rotate_left
             ·intro w'
              go_simp
              with_reducible rfl
             rotate_left
             ·simp only [Act.put, List.setIfInBounds_toArray, List.set_cons_zero, List.set_cons_succ, i64_w, i32_w]
              rfl
             refine take_ (i := 9) (N := some 73) (v := ?_) (a' := ?_) #[true, true, true, true, true, true, true, true, true, true, false, false] rfl rfl (take_ofW HT_.out HW_.out (by kernel_rfl)) (fun _ _ _ h => h) (Or.inl ⟨by rfl, ?_⟩) hHeld ?_ ?_
             rotate_left
             ·rintro w' ⟨s0, s1, s2, s3, s4, s5, s6, s7, s8, s9, s10, s11, s12, s13, s14, s15, s16, s17, s18, s19, s20, s21, s22, s23, s24, s25, s26, s27⟩
              go_simp
              with_reducible rfl
             rotate_left
             ·simp only [Act.put, List.setIfInBounds_toArray, List.set_cons_zero, List.set_cons_succ, i64_w, i32_w]
              rfl
             refine one_ (i := 10) (N := some 74) #[true, true, true, true, true, true, true, true, true, true, true, false] rfl rfl (one_of HT_.out (by kernel_rfl)) (by decide) (fun K hK => ?_)
             refine goes_ Try.func102 (by kernel_rfl) rfl #[.agg #[.slice A135_0 ((rd_T142 l0_3 x6_3).f0).length c135_0, .slice A135_1 ((rd_T142 l0_3 x6_3).f1).length c135_1, .slice A135_2 ((rd_T142 l0_3 x6_3).f2).length c135_2, .slice A135_3 ((rd_T142 l0_3 x6_3).f3).length c135_3, .slice A135_4 ((rd_T142 l0_3 x6_3).f4).length c135_4, .slice A135_5 ((rd_T142 l0_3 x6_3).f5).length c135_5, .slice A135_6 ((rd_T142 l0_3 x6_3).f6).length c135_6, .slice A135_7 ((rd_T142 l0_3 x6_3).f7).length c135_7, .bool ((rd_T142 l0_3 x6_3).f8), .bool ((rd_T142 l0_3 x6_3).f9)], .agg #[.slice A136_0 ((rd_T142 l1_3 x6_3).f0).length c136_0, .slice A136_1 ((rd_T142 l1_3 x6_3).f1).length c136_1, .slice A136_2 ((rd_T142 l1_3 x6_3).f2).length c136_2, .slice A136_3 ((rd_T142 l1_3 x6_3).f3).length c136_3, .slice A136_4 ((rd_T142 l1_3 x6_3).f4).length c136_4, .slice A136_5 ((rd_T142 l1_3 x6_3).f5).length c136_5, .slice A136_6 ((rd_T142 l1_3 x6_3).f6).length c136_6, .slice A136_7 ((rd_T142 l1_3 x6_3).f7).length c136_7, .bool ((rd_T142 l1_3 x6_3).f8), .bool ((rd_T142 l1_3 x6_3).f9)]] (by rfl) rfl rfl (by (try simp only [List.map_toArray, List.map_cons, List.map_nil]); first | done | rfl | (simp only [List.length_drop, List.length_take]; rfl)) ?_
             with_reducible refine (spec_l17SameEffect.calls k3 _ _ ((rd_T142 l0_3 x6_3).f0) _ _ ((rd_T142 l0_3 x6_3).f1) _ _ ((rd_T142 l0_3 x6_3).f2) _ _ ((rd_T142 l0_3 x6_3).f3) _ _ ((rd_T142 l0_3 x6_3).f4) _ _ ((rd_T142 l0_3 x6_3).f5) _ _ ((rd_T142 l0_3 x6_3).f6) _ _ ((rd_T142 l0_3 x6_3).f7) ((rd_T142 l0_3 x6_3).f8) ((rd_T142 l0_3 x6_3).f9) _ _ ((rd_T142 l1_3 x6_3).f0) _ _ ((rd_T142 l1_3 x6_3).f1) _ _ ((rd_T142 l1_3 x6_3).f2) _ _ ((rd_T142 l1_3 x6_3).f3) _ _ ((rd_T142 l1_3 x6_3).f4) _ _ ((rd_T142 l1_3 x6_3).f5) _ _ ((rd_T142 l1_3 x6_3).f6) _ _ ((rd_T142 l1_3 x6_3).f7) ((rd_T142 l1_3 x6_3).f8) ((rd_T142 l1_3 x6_3).f9) false _ ?side1 ?side2 ?side3 ?side4 ?side5 ?side6 ?side7 ?side8 ?side9 ?side10 ?side11 ?side12 ?side13 ?side14 ?side15 ?side16 ?side17 ?side18 ?side19 ?side20 ?side21 ?side22 ?side23 ?side24 ?side25 ?side26 ?side27 ?side28 ?side29 ?side30 ?side31 ?side32 A39.out).mono ?_
             (case side1 => exact cS (Kd.C_below HR135_0.out HB.out))
             (case side2 => exact HC135_0.out)
             (case side3 => exact cS (Kd.C_below HR135_1.out HB.out))
             (case side4 => exact HC135_1.out)
             (case side5 => exact cS (Kd.C_below HR135_2.out HB.out))
             (case side6 => exact HC135_2.out)
             (case side7 => exact cS (Kd.C_below HR135_3.out HB.out))
             (case side8 => exact HC135_3.out)
             (case side9 => exact cS (Kd.C_below HR135_4.out HB.out))
             (case side10 => exact HC135_4.out)
             (case side11 => exact cS (Kd.C_below HR135_5.out HB.out))
             (case side12 => exact HC135_5.out)
             (case side13 => exact cS (Kd.C_below HR135_6.out HB.out))
             (case side14 => exact HC135_6.out)
             (case side15 => exact cS (Kd.C_below HR135_7.out HB.out))
             (case side16 => exact HC135_7.out)
             (case side17 => exact cS (Kd.C_below HR136_0.out HB.out))
             (case side18 => exact HC136_0.out)
             (case side19 => exact cS (Kd.C_below HR136_1.out HB.out))
             (case side20 => exact HC136_1.out)
             (case side21 => exact cS (Kd.C_below HR136_2.out HB.out))
             (case side22 => exact HC136_2.out)
             (case side23 => exact cS (Kd.C_below HR136_3.out HB.out))
             (case side24 => exact HC136_3.out)
             (case side25 => exact cS (Kd.C_below HR136_4.out HB.out))
             (case side26 => exact HC136_4.out)
             (case side27 => exact cS (Kd.C_below HR136_5.out HB.out))
             (case side28 => exact HC136_5.out)
             (case side29 => exact cS (Kd.C_below HR136_6.out HB.out))
             (case side30 => exact HC136_6.out)
             (case side31 => exact cS (Kd.C_below HR136_7.out HB.out))
             (case side32 => exact HC136_7.out)
             rintro e w48 ⟨rfl, hb⟩
             refine ⟨_, rfl, ?_⟩
             replace BK129 := Aside0.mk (kS BK129.out hb)
             replace BK130 := Aside0.mk (kS BK130.out hb)
             replace HB := Aside0.mk (below_step (by repeat (first | (with_reducible first | exact HB.out | apply below_alloc | apply pw_below_drewN | apply below_drew1 | refine below_set ?_ GE129.out | refine below_set ?_ GE130.out) | exact HB.out)) hb)
             (try clear hb)
             (try clear hb2)
             (try clear hk)
             (try clear hi)
             refine hK.out _ _ ⟨kC BK129.out 0 rfl, kC BK129.out 1 rfl, kC BK129.out 2 rfl, kC BK129.out 3 rfl, kC BK130.out 0 rfl, kC BK130.out 1 rfl, kC BK130.out 2 rfl, kC BK130.out 3 rfl, ((HB.out.cell (World.block_lt_of_cell? w _ hw135_0)).trans hw135_0), ((HB.out.cell (World.block_lt_of_cell? w _ hw135_1)).trans hw135_1), ((HB.out.cell (World.block_lt_of_cell? w _ hw135_2)).trans hw135_2), ((HB.out.cell (World.block_lt_of_cell? w _ hw135_3)).trans hw135_3), ((HB.out.cell (World.block_lt_of_cell? w _ hw135_4)).trans hw135_4), ((HB.out.cell (World.block_lt_of_cell? w _ hw135_5)).trans hw135_5), ((HB.out.cell (World.block_lt_of_cell? w _ hw135_6)).trans hw135_6), ((HB.out.cell (World.block_lt_of_cell? w _ hw135_7)).trans hw135_7), ((HB.out.cell (World.block_lt_of_cell? w _ hw135_8)).trans hw135_8), ((HB.out.cell (World.block_lt_of_cell? w _ hw135_9)).trans hw135_9), ((HB.out.cell (World.block_lt_of_cell? w _ hw136_0)).trans hw136_0), ((HB.out.cell (World.block_lt_of_cell? w _ hw136_1)).trans hw136_1), ((HB.out.cell (World.block_lt_of_cell? w _ hw136_2)).trans hw136_2), ((HB.out.cell (World.block_lt_of_cell? w _ hw136_3)).trans hw136_3), ((HB.out.cell (World.block_lt_of_cell? w _ hw136_4)).trans hw136_4), ((HB.out.cell (World.block_lt_of_cell? w _ hw136_5)).trans hw136_5), ((HB.out.cell (World.block_lt_of_cell? w _ hw136_6)).trans hw136_6), ((HB.out.cell (World.block_lt_of_cell? w _ hw136_7)).trans hw136_7), ((HB.out.cell (World.block_lt_of_cell? w _ hw136_8)).trans hw136_8), ((HB.out.cell (World.block_lt_of_cell? w _ hw136_9)).trans hw136_9)⟩ (fun hHeld => ?_)
             clear hK K
             refine norm_ (a' := ?_) ?_ ?_
             rotate_left
             ·show Act.put _ (some 74) _ = _
              simp only [Act.put, List.setIfInBounds_toArray, List.set_cons_zero, List.set_cons_succ, i64_w, i32_w]
              rfl
             refine pure_ (i := 11) (N := some 75) (v := ?_) (a' := ?_) #[true, true, true, true, true, true, true, true, true, true, true, true] rfl rfl (any_of HT_.out (by kernel_rfl)) (fun _ _ _ h => h) (Or.inl ⟨by rfl, ?_⟩) ?_ ?_
             rotate_left
             ·intro w'
              go_simp
              with_reducible rfl
             rotate_left
             ·simp only [Act.put, List.setIfInBounds_toArray, List.set_cons_zero, List.set_cons_succ, i64_w, i32_w]
              rfl
             refine done_ (done_of HT_.out (by kernel_rfl)) ?_
             try go_wp2
             go_ret
             exact ⟨by first | rfl | (simp [errW_none, errW_some] <;> rfl) | (simp [*, errW_none, errW_some] <;> rfl), by repeat (first | (with_reducible first | exact HB.out | apply below_alloc | apply pw_below_drewN | apply below_drew1 | refine below_set ?_ GE129.out | refine below_set ?_ GE130.out) | exact HB.out)⟩
           ·rw [if_neg c38] at H
            exact absurd H (by simp)
          ·rw [if_neg c37] at H
           exact absurd H (by simp)
         ·rw [if_neg c36] at H
          have c36b0 : decide (x6_3 < (l0_3.length : Int)) = false := decide_eq_false c36
          clear c36
          obtain rfl := Option.some.inj H
          have hnb49 := NB129_130.out
          have hnc49 := NB130_129.out
          have hcz50_0 : wr.cell? ⟨gb129, 0, none⟩ = some (.slice A0_0 l0_0.length c0_0) := kC BK129.out 0 rfl
          have hcz50_1 : wr.cell? ⟨gb129, 1, none⟩ = some (.slice A0_1 l0_1.length c0_1) := kC BK129.out 1 rfl
          have hcz50_2 : wr.cell? ⟨gb129, 2, none⟩ = some (.slice A0_2 l0_2.length c0_2) := kC BK129.out 2 rfl
          have hcz50_3 : wr.cell? ⟨gb129, 3, none⟩ = some (.slice A0_3 l0_3.length c0_3) := kC BK129.out 3 rfl
          have hfz50_0 := blk_frozen BK129.out 0
          have hfz50_1 := blk_frozen BK129.out 1
          have hfz50_2 := blk_frozen BK129.out 2
          have hfz50_3 := blk_frozen BK129.out 3
          go_wp2
          go_ret
          exact ⟨by first | rfl | (simp [errW_none, errW_some] <;> rfl) | (simp [*, errW_none, errW_some] <;> rfl), by repeat (first | (with_reducible first | exact HB.out | apply below_alloc | apply pw_below_drewN | apply below_drew1 | refine below_set ?_ GE129.out | refine below_set ?_ GE130.out) | exact HB.out)⟩

end Go.Proofs.Ytnecbgeljanhiaa.PFnExactPlanSame
