-- written by wip/tools/myprint.py out of the program's own print
import Derived.Test.YtpdcgnfdffbolaaPFnExactStrictlyx0
import Derived.Test.YtpdcgnfdffbolaaPFnExactStrictlyx5
import Derived.Test.YtpdcgnfdffbolaaPFnExactStrictlyx6
import Derived.Test.YtpdcgnfdffbolaaPFnExactStrictlyx7
namespace Go.Proofs.Ytpdcgnfdffbolaa.PFnExactStrictly
open Go.Proofs.Ytpdcgnfdffbolaa.Own (rS cS bS rB rN rT kS kC kc10 kf10)
open Go.RowKit Go.Proofs.YtpdcgnfdffbolaaW.PrintWords Go.Proofs.YtpdcgnfdffbolaaW.PrintLast Go.Proofs.YtpdcgnfdffbolaaW.PrintMore
attribute [local go_sem] max2_int min2_int max_two min_two max_three min_three max_four min_four   -- for this text's walks alone
set_option linter.unusedVariables false
set_option linter.unusedSimpArgs false

/-! ### spec_Strictly: function 58 -/
def spec_Strictly.f (k : Nat) (l0_0 : List Int) (l0_1 : List Int) (l0_2 : List Int) (l0_3 : List Int) (l0_4 : List Int) (l0_5 : List Int) (l0_6 : List Int) (l0_7 : List Int) (a0_8 : Bool) (a0_9 : Bool) (l1_0 : List Int) (l1_1 : List Int) (l1_2 : List Int) (l1_3 : List Int) (l1_4 : List Int) (l1_5 : List Int) (l1_6 : List Int) (l1_7 : List Int) (a1_8 : Bool) (a1_9 : Bool) (a2 : Int) : Option ((List (S50))) := (spec_l1In.f a2 0 12).bind fun t429 => (if t429 = true then ((spec_l16Targets.f k l0_0 l0_1 l0_2 l0_3 l0_4 l0_5 l0_6 l0_7 a0_8 a0_9 a2).bind fun t430 => ((spec_l16Targets.f k l1_0 l1_1 l1_2 l1_3 l1_4 l1_5 l1_6 l1_7 a1_8 a1_9 a2).bind fun t433 => ((spec_l10Union.f k l0_0 l0_1).bind fun t436 => ((spec_l10Union.f k l0_2 t430).bind fun t439 => ((spec_l10Union.f k t436 t439).bind fun t442 => ((spec_l10Union.f k l1_0 l1_1).bind fun t445 => ((spec_l10Union.f k l1_2 t433).bind fun t448 => ((spec_l10Union.f k t445 t448).bind fun t451 => ((spec_l16Meet.f k t430 t451).bind fun t454 => ((spec_l16Meet.f k t433 t442).bind fun t457 => ((spec_l10Union.f k t454 t457).bind fun t460 => ((spec_Clashes.f k l0_0 l0_1 l0_2 l0_3 l0_4 l0_5 l0_6 l0_7 a0_8 a0_9 l1_0 l1_1 l1_2 l1_3 l1_4 l1_5 l1_6 l1_7 a1_8 a1_9).bind fun t463 => ((spec_l16Both.f k t463 4 t460).bind fun t466 => (some t466)))))))))))))) else (some ([] : List (S50))))
theorem spec_Strictly.mono : ∀ a0 a1 a2 a3 a4 a5 a6 a7 a8 a9 a10 a11 a12 a13 a14 a15 a16 a17 a18 a19 a20 k, LeO (spec_Strictly.f k a0 a1 a2 a3 a4 a5 a6 a7 a8 a9 a10 a11 a12 a13 a14 a15 a16 a17 a18 a19 a20) (spec_Strictly.f (k + 1) a0 a1 a2 a3 a4 a5 a6 a7 a8 a9 a10 a11 a12 a13 a14 a15 a16 a17 a18 a19 a20) := by
 intro a0 a1 a2 a3 a4 a5 a6 a7 a8 a9 a10 a11 a12 a13 a14 a15 a16 a17 a18 a19 a20 k
 unfold spec_Strictly.f
 repeat' first
   | (with_reducible exact spec_Clashes.mono _ _ _ _ _ _ _ _ _ _ _ _ _ _ _ _ _ _ _ _ _)
   | (with_reducible exact spec_l10Union.mono _ _ _)
   | (with_reducible exact spec_l16Both.mono _ _ _ _)
   | (with_reducible exact spec_l16Meet.mono _ _ _)
   | (with_reducible exact spec_l16Targets.mono _ _ _ _ _ _ _ _ _ _ _ _)
   | (with_reducible exact LeO.refl _)
   | (with_reducible exact LeO.none _)
   | (with_reducible refine LeO.ite ?_ ?_)
   | (with_reducible refine LeO.bind ?_ (fun _ => ?_))
   | exact spec_Clashes.mono _ _ _ _ _ _ _ _ _ _ _ _ _ _ _ _ _ _ _ _ _
   | exact spec_l10Union.mono _ _ _
   | exact spec_l16Both.mono _ _ _ _
   | exact spec_l16Meet.mono _ _ _
   | exact spec_l16Targets.mono _ _ _ _ _ _ _ _ _ _ _ _
   | exact LeO.none _
   | refine LeO.ite ?_ ?_
   | refine LeO.bind ?_ (fun _ => ?_)
def spec_Strictly.T3 : Bool × List (List Nat × List Nat) := (true, [([], []), ([], []), ([0, 1], [0, 1]), ([], []), ([], []), ([3, 4, 2], [3, 4]), ([2, 5, 0, 1, 2], [2]), ([5, 6, 0, 1, 2, 3, 4, 5, 6], [5])])
def spec_Strictly.B3 : List Nat := [0, 0, 3, 0, 0, 31, 63, 127]
theorem spec_Strictly.tab3 : rtab .any (opsOf Try.f58 3) = spec_Strictly.T3 := by kernel_rfl
theorem spec_Strictly.bits3 : waitsOk spec_Strictly.T3.2 spec_Strictly.B3 = true := by kernel_rfl
def spec_Strictly.T4 : Bool × List (List Nat × List Nat) := (true, [([], []), ([0], [0]), ([], []), ([2], [2]), ([1, 3], [1, 3]), ([], []), ([5], [5]), ([], []), ([6, 7, 4], [6, 7]), ([4, 8, 8], [4, 8]), ([9, 9, 0, 1, 2, 3, 4, 5, 6, 7, 8, 9], [9])])
def spec_Strictly.B4 : List Nat := [0, 1, 0, 4, 15, 0, 32, 0, 255, 511, 1023]
theorem spec_Strictly.tab4 : rtab .any (opsOf Try.f58 4) = spec_Strictly.T4 := by kernel_rfl
theorem spec_Strictly.bits4 : waitsOk spec_Strictly.T4.2 spec_Strictly.B4 = true := by kernel_rfl
def spec_Strictly.T5 : Bool × List (List Nat × List Nat) := (true, [([], []), ([0], [0]), ([], []), ([2], [2]), ([1, 3], [1, 3]), ([], []), ([5], [5]), ([], []), ([6, 7, 4], [6, 7]), ([4, 8, 8], [4, 8]), ([9, 9, 0, 1, 2, 3, 4, 5, 6, 7, 8, 9], [9])])
def spec_Strictly.B5 : List Nat := [0, 1, 0, 4, 15, 0, 32, 0, 255, 511, 1023]
theorem spec_Strictly.tab5 : rtab .any (opsOf Try.f58 5) = spec_Strictly.T5 := by kernel_rfl
theorem spec_Strictly.bits5 : waitsOk spec_Strictly.T5.2 spec_Strictly.B5 = true := by kernel_rfl
set_option maxHeartbeats 8000000 in
set_option maxRecDepth 100000 in
theorem spec_Strictly.calls (k : Nat) (A0_0 : Option Addr) (c0_0 : Nat) (l0_0 : List Int) (A0_1 : Option Addr) (c0_1 : Nat) (l0_1 : List Int) (A0_2 : Option Addr) (c0_2 : Nat) (l0_2 : List Int) (A0_3 : Option Addr) (c0_3 : Nat) (l0_3 : List Int) (A0_4 : Option Addr) (c0_4 : Nat) (l0_4 : List Int) (A0_5 : Option Addr) (c0_5 : Nat) (l0_5 : List Int) (A0_6 : Option Addr) (c0_6 : Nat) (l0_6 : List Int) (A0_7 : Option Addr) (c0_7 : Nat) (l0_7 : List Int) (a0_8 : Bool) (a0_9 : Bool) (A1_0 : Option Addr) (c1_0 : Nat) (l1_0 : List Int) (A1_1 : Option Addr) (c1_1 : Nat) (l1_1 : List Int) (A1_2 : Option Addr) (c1_2 : Nat) (l1_2 : List Int) (A1_3 : Option Addr) (c1_3 : Nat) (l1_3 : List Int) (A1_4 : Option Addr) (c1_4 : Nat) (l1_4 : List Int) (A1_5 : Option Addr) (c1_5 : Nat) (l1_5 : List Int) (A1_6 : Option Addr) (c1_6 : Nat) (l1_6 : List Int) (A1_7 : Option Addr) (c1_7 : Nat) (l1_7 : List Int) (a1_8 : Bool) (a1_9 : Bool) (a2 : Int) (r : List (S50)) (w : World) (hr0_0 : Kd.C (Kd.int .i64) w A0_0 l0_0.length l0_0) (hc0_0 : l0_0.length ≤ c0_0) (hr0_1 : Kd.C (Kd.int .i64) w A0_1 l0_1.length l0_1) (hc0_1 : l0_1.length ≤ c0_1) (hr0_2 : Kd.C (Kd.int .i64) w A0_2 l0_2.length l0_2) (hc0_2 : l0_2.length ≤ c0_2) (hr0_3 : Kd.C (Kd.int .i64) w A0_3 l0_3.length l0_3) (hc0_3 : l0_3.length ≤ c0_3) (hr0_4 : Kd.C (Kd.int .i64) w A0_4 l0_4.length l0_4) (hc0_4 : l0_4.length ≤ c0_4) (hr0_5 : Kd.C (Kd.int .i64) w A0_5 l0_5.length l0_5) (hc0_5 : l0_5.length ≤ c0_5) (hr0_6 : Kd.C (Kd.int .i64) w A0_6 l0_6.length l0_6) (hc0_6 : l0_6.length ≤ c0_6) (hr0_7 : Kd.C (Kd.int .i64) w A0_7 l0_7.length l0_7) (hc0_7 : l0_7.length ≤ c0_7) (hr1_0 : Kd.C (Kd.int .i64) w A1_0 l1_0.length l1_0) (hc1_0 : l1_0.length ≤ c1_0) (hr1_1 : Kd.C (Kd.int .i64) w A1_1 l1_1.length l1_1) (hc1_1 : l1_1.length ≤ c1_1) (hr1_2 : Kd.C (Kd.int .i64) w A1_2 l1_2.length l1_2) (hc1_2 : l1_2.length ≤ c1_2) (hr1_3 : Kd.C (Kd.int .i64) w A1_3 l1_3.length l1_3) (hc1_3 : l1_3.length ≤ c1_3) (hr1_4 : Kd.C (Kd.int .i64) w A1_4 l1_4.length l1_4) (hc1_4 : l1_4.length ≤ c1_4) (hr1_5 : Kd.C (Kd.int .i64) w A1_5 l1_5.length l1_5) (hc1_5 : l1_5.length ≤ c1_5) (hr1_6 : Kd.C (Kd.int .i64) w A1_6 l1_6.length l1_6) (hc1_6 : l1_6.length ≤ c1_6) (hr1_7 : Kd.C (Kd.int .i64) w A1_7 l1_7.length l1_7) (hc1_7 : l1_7.length ≤ c1_7) (h : spec_Strictly.f k l0_0 l0_1 l0_2 l0_3 l0_4 l0_5 l0_6 l0_7 a0_8 a0_9 l1_0 l1_1 l1_2 l1_3 l1_4 l1_5 l1_6 l1_7 a1_8 a1_9 a2 = some r) :
  Calls Try.prog 58 #[.agg #[.slice A0_0 l0_0.length c0_0, .slice A0_1 l0_1.length c0_1, .slice A0_2 l0_2.length c0_2, .slice A0_3 l0_3.length c0_3, .slice A0_4 l0_4.length c0_4, .slice A0_5 l0_5.length c0_5, .slice A0_6 l0_6.length c0_6, .slice A0_7 l0_7.length c0_7, .bool a0_8, .bool a0_9], .agg #[.slice A1_0 l1_0.length c1_0, .slice A1_1 l1_1.length c1_1, .slice A1_2 l1_2.length c1_2, .slice A1_3 l1_3.length c1_3, .slice A1_4 l1_4.length c1_4, .slice A1_5 l1_5.length c1_5, .slice A1_6 l1_6.length c1_6, .slice A1_7 l1_7.length c1_7, .bool a1_8, .bool a1_9], .int .i64 a2] w fun e w' => ∃ v0_ : Value, e = .returned (v0_) ∧ Kd.R k50 50 w' w.heap.size (fun _ => True) v0_ r ∧ Below w.heap.size w w' := by
 have hu43 := Try.underlying43
 have HR0_0 := Aside0.mk hr0_0
 have HC0_0 := Aside0.mk hc0_0
 clear hr0_0 hc0_0
 have HR0_1 := Aside0.mk hr0_1
 have HC0_1 := Aside0.mk hc0_1
 clear hr0_1 hc0_1
 have HR0_2 := Aside0.mk hr0_2
 have HC0_2 := Aside0.mk hc0_2
 clear hr0_2 hc0_2
 have HR0_3 := Aside0.mk hr0_3
 have HC0_3 := Aside0.mk hc0_3
 clear hr0_3 hc0_3
 have HR0_4 := Aside0.mk hr0_4
 have HC0_4 := Aside0.mk hc0_4
 clear hr0_4 hc0_4
 have HR0_5 := Aside0.mk hr0_5
 have HC0_5 := Aside0.mk hc0_5
 clear hr0_5 hc0_5
 have HR0_6 := Aside0.mk hr0_6
 have HC0_6 := Aside0.mk hc0_6
 clear hr0_6 hc0_6
 have HR0_7 := Aside0.mk hr0_7
 have HC0_7 := Aside0.mk hc0_7
 clear hr0_7 hc0_7
 have HR1_0 := Aside0.mk hr1_0
 have HC1_0 := Aside0.mk hc1_0
 clear hr1_0 hc1_0
 have HR1_1 := Aside0.mk hr1_1
 have HC1_1 := Aside0.mk hc1_1
 clear hr1_1 hc1_1
 have HR1_2 := Aside0.mk hr1_2
 have HC1_2 := Aside0.mk hc1_2
 clear hr1_2 hc1_2
 have HR1_3 := Aside0.mk hr1_3
 have HC1_3 := Aside0.mk hc1_3
 clear hr1_3 hc1_3
 have HR1_4 := Aside0.mk hr1_4
 have HC1_4 := Aside0.mk hc1_4
 clear hr1_4 hc1_4
 have HR1_5 := Aside0.mk hr1_5
 have HC1_5 := Aside0.mk hc1_5
 clear hr1_5 hc1_5
 have HR1_6 := Aside0.mk hr1_6
 have HC1_6 := Aside0.mk hc1_6
 clear hr1_6 hc1_6
 have HR1_7 := Aside0.mk hr1_7
 have HC1_7 := Aside0.mk hc1_7
 clear hr1_7 hc1_7
 have HB := Aside0.mk (Below.refl w.heap.size w)
 have H : ((spec_l1In.f a2 0 12).bind fun t429 => (if t429 = true then ((spec_l16Targets.f k l0_0 l0_1 l0_2 l0_3 l0_4 l0_5 l0_6 l0_7 a0_8 a0_9 a2).bind fun t430 => ((spec_l16Targets.f k l1_0 l1_1 l1_2 l1_3 l1_4 l1_5 l1_6 l1_7 a1_8 a1_9 a2).bind fun t433 => ((spec_l10Union.f k l0_0 l0_1).bind fun t436 => ((spec_l10Union.f k l0_2 t430).bind fun t439 => ((spec_l10Union.f k t436 t439).bind fun t442 => ((spec_l10Union.f k l1_0 l1_1).bind fun t445 => ((spec_l10Union.f k l1_2 t433).bind fun t448 => ((spec_l10Union.f k t445 t448).bind fun t451 => ((spec_l16Meet.f k t430 t451).bind fun t454 => ((spec_l16Meet.f k t433 t442).bind fun t457 => ((spec_l10Union.f k t454 t457).bind fun t460 => ((spec_Clashes.f k l0_0 l0_1 l0_2 l0_3 l0_4 l0_5 l0_6 l0_7 a0_8 a0_9 l1_0 l1_1 l1_2 l1_3 l1_4 l1_5 l1_6 l1_7 a1_8 a1_9).bind fun t463 => ((spec_l16Both.f k t463 4 t460).bind fun t466 => (some t466)))))))))))))) else (some ([] : List (S50))))) = some r := h
 clear h
 replace H := Option.bind_eq_some_iff.mp H
 obtain ⟨t429, A40, H⟩ := H
 (try dsimp only at H)
 have A4 := Aside0.mk A40
 clear A40
 by_cases c5 : t429 = true
 ·subst c5
  have H1 : ((spec_l16Targets.f k l0_0 l0_1 l0_2 l0_3 l0_4 l0_5 l0_6 l0_7 a0_8 a0_9 a2).bind fun t430 => ((spec_l16Targets.f k l1_0 l1_1 l1_2 l1_3 l1_4 l1_5 l1_6 l1_7 a1_8 a1_9 a2).bind fun t433 => ((spec_l10Union.f k l0_0 l0_1).bind fun t436 => ((spec_l10Union.f k l0_2 t430).bind fun t439 => ((spec_l10Union.f k t436 t439).bind fun t442 => ((spec_l10Union.f k l1_0 l1_1).bind fun t445 => ((spec_l10Union.f k l1_2 t433).bind fun t448 => ((spec_l10Union.f k t445 t448).bind fun t451 => ((spec_l16Meet.f k t430 t451).bind fun t454 => ((spec_l16Meet.f k t433 t442).bind fun t457 => ((spec_l10Union.f k t454 t457).bind fun t460 => ((spec_Clashes.f k l0_0 l0_1 l0_2 l0_3 l0_4 l0_5 l0_6 l0_7 a0_8 a0_9 l1_0 l1_1 l1_2 l1_3 l1_4 l1_5 l1_6 l1_7 a1_8 a1_9).bind fun t463 => ((spec_l16Both.f k t463 4 t460).bind fun t466 => (some t466)))))))))))))) = some r := by rw [if_pos rfl] at H; exact H
  clear H
  have H := H1
  clear H1
  replace H := Option.bind_eq_some_iff.mp H
  obtain ⟨t430, A60, H⟩ := H
  (try dsimp only at H)
  have A6 := Aside0.mk A60
  clear A60
  replace H := Option.bind_eq_some_iff.mp H
  obtain ⟨t433, A70, H⟩ := H
  (try dsimp only at H)
  have A7 := Aside0.mk A70
  clear A70
  replace H := Option.bind_eq_some_iff.mp H
  obtain ⟨t436, A80, H⟩ := H
  (try dsimp only at H)
  have A8 := Aside0.mk A80
  clear A80
  replace H := Option.bind_eq_some_iff.mp H
  obtain ⟨t439, A90, H⟩ := H
  (try dsimp only at H)
  have A9 := Aside0.mk A90
  clear A90
  replace H := Option.bind_eq_some_iff.mp H
  obtain ⟨t442, A100, H⟩ := H
  (try dsimp only at H)
  have A10 := Aside0.mk A100
  clear A100
  replace H := Option.bind_eq_some_iff.mp H
  obtain ⟨t445, A110, H⟩ := H
  (try dsimp only at H)
  have A11 := Aside0.mk A110
  clear A110
  replace H := Option.bind_eq_some_iff.mp H
  obtain ⟨t448, A120, H⟩ := H
  (try dsimp only at H)
  have A12 := Aside0.mk A120
  clear A120
  replace H := Option.bind_eq_some_iff.mp H
  obtain ⟨t451, A130, H⟩ := H
  (try dsimp only at H)
  have A13 := Aside0.mk A130
  clear A130
  replace H := Option.bind_eq_some_iff.mp H
  obtain ⟨t454, A140, H⟩ := H
  (try dsimp only at H)
  have A14 := Aside0.mk A140
  clear A140
  replace H := Option.bind_eq_some_iff.mp H
  obtain ⟨t457, A150, H⟩ := H
  (try dsimp only at H)
  have A15 := Aside0.mk A150
  clear A150
  replace H := Option.bind_eq_some_iff.mp H
  obtain ⟨t460, A160, H⟩ := H
  (try dsimp only at H)
  have A16 := Aside0.mk A160
  clear A160
  replace H := Option.bind_eq_some_iff.mp H
  obtain ⟨t463, A170, H⟩ := H
  (try dsimp only at H)
  have A17 := Aside0.mk A170
  clear A170
  replace H := Option.bind_eq_some_iff.mp H
  obtain ⟨t466, A180, H⟩ := H
  (try dsimp only at H)
  have A18 := Aside0.mk A180
  clear A180
  obtain rfl := Option.some.inj H
  go_enter Try.func58, Try.ntmps58
  try go_wp2_with (first | ((with_reducible refine gate_dst (N := 3) rfl ?_); refine box_event ?hg (N := 3) ?hd (cs := #[.slice A0_0 l0_0.length c0_0, .slice A0_1 l0_1.length c0_1, .slice A0_2 l0_2.length c0_2, .slice A0_3 l0_3.length c0_3, .slice A0_4 l0_4.length c0_4, .slice A0_5 l0_5.length c0_5, .slice A0_6 l0_6.length c0_6, .slice A0_7 l0_7.length c0_7, .bool a0_8, .bool a0_9]) (t := 43) ?hr ?_; (case hd => rfl); (case hg => rfl); (case hr => first | (go_simp; done) | (go_simp; rfl)); intro gb427 hg w19 hbox hb; have n0_ := Aside0.mk (below_step (bS HB.out) hb); have BK427 := Aside0.mk (hbox); have GW427 := Aside0.mk ((by rw [hg]; exact (below_size (bS HB.out)) : w.heap.size ≤ gb427)); have GE427 := Aside0.mk ((by rw [hg]; exact (below_size (bS HB.out)) : w.heap.size ≤ gb427)); clear HB; have HB := n0_; clear n0_; clear hb hbox hg) | ((with_reducible refine gate_dst (N := 4) rfl ?_); refine box_event ?hg (N := 4) ?hd (cs := #[.slice A1_0 l1_0.length c1_0, .slice A1_1 l1_1.length c1_1, .slice A1_2 l1_2.length c1_2, .slice A1_3 l1_3.length c1_3, .slice A1_4 l1_4.length c1_4, .slice A1_5 l1_5.length c1_5, .slice A1_6 l1_6.length c1_6, .slice A1_7 l1_7.length c1_7, .bool a1_8, .bool a1_9]) (t := 43) ?hr ?_; (case hd => rfl); (case hg => rfl); (case hr => first | (go_simp; done) | (go_simp; rfl)); intro gb428 hg w20 hbox hb; have n0_ := Aside0.mk (kS BK427.out hb); have n1_ := Aside0.mk (below_step (by repeat (first | (with_reducible first | exact HB.out | apply below_alloc | apply pw_below_drewN | apply below_drew1 | refine below_set ?_ GE427.out) | exact HB.out)) hb); have BK428 := Aside0.mk (hbox); have GW428 := Aside0.mk ((by rw [hg]; exact (below_size (by repeat (first | (with_reducible first | exact HB.out | apply below_alloc | apply pw_below_drewN | apply below_drew1 | refine below_set ?_ GE427.out) | exact HB.out))) : w.heap.size ≤ gb428)); have GE428 := Aside0.mk ((by rw [hg]; exact (below_size (by repeat (first | (with_reducible first | exact HB.out | apply below_alloc | apply pw_below_drewN | apply below_drew1 | refine below_set ?_ GE427.out) | exact HB.out))) : w.heap.size ≤ gb428)); have NB427_428 := Aside0.mk ((by rw [hg]; exact Nat.ne_of_lt (blk_lt (g := gb427) (o := .cells #[.slice A0_0 l0_0.length c0_0, .slice A0_1 l0_1.length c0_1, .slice A0_2 l0_2.length c0_2, .slice A0_3 l0_3.length c0_3, .slice A0_4 l0_4.length c0_4, .slice A0_5 l0_5.length c0_5, .slice A0_6 l0_6.length c0_6, .slice A0_7 l0_7.length c0_7, .bool a0_8, .bool a0_9] 43 (0, 0)) (by (with_reducible repeat (first | refine blk_drewN ?_ _ | refine blk_drew ?_ | refine blk_alloc ?_ _)); exact BK427.out)) : gb427 ≠ gb428)); have NB428_427 := Aside0.mk ((by rw [hg]; exact Nat.ne_of_gt (blk_lt (g := gb427) (o := .cells #[.slice A0_0 l0_0.length c0_0, .slice A0_1 l0_1.length c0_1, .slice A0_2 l0_2.length c0_2, .slice A0_3 l0_3.length c0_3, .slice A0_4 l0_4.length c0_4, .slice A0_5 l0_5.length c0_5, .slice A0_6 l0_6.length c0_6, .slice A0_7 l0_7.length c0_7, .bool a0_8, .bool a0_9] 43 (0, 0)) (by (with_reducible repeat (first | refine blk_drewN ?_ _ | refine blk_drew ?_ | refine blk_alloc ?_ _)); exact BK427.out)) : gb428 ≠ gb427)); clear BK427; clear HB; have BK427 := n0_; have HB := n1_; clear n0_ n1_; clear hb hbox hg) | ((with_reducible refine gate_callee (f := 66) rfl ?_); refine goesL_ (some 13) rfl rfl Try.func66 (by kernel_rfl) rfl #[.int .i64 a2, .int .i64 0, .int .i64 12] rfl (by (try simp only [List.map_toArray, List.map_cons, List.map_nil]); first | done | rfl | (simp only [List.length_drop, List.length_take]; rfl)) ?_; (with_reducible refine (spec_l1In.calls a2 0 12 true _ A4.out).mono ?_); rintro e w' ⟨rfl, ⟨nd, rfl⟩⟩; refine ⟨_, rfl, ?_⟩))
  (try (rw [drewN_self w20]; generalize hq_ : World.drewN w20 _ = w20; replace BK427 : Aside0 (w20.heap[gb427]? = some (.cells #[.slice A0_0 l0_0.length c0_0, .slice A0_1 l0_1.length c0_1, .slice A0_2 l0_2.length c0_2, .slice A0_3 l0_3.length c0_3, .slice A0_4 l0_4.length c0_4, .slice A0_5 l0_5.length c0_5, .slice A0_6 l0_6.length c0_6, .slice A0_7 l0_7.length c0_7, .bool a0_8, .bool a0_9] 43 (0, 0))) := ⟨by rw [← hq_]; exact (by (with_reducible repeat (first | refine blk_drewN ?_ _ | refine blk_drew ?_ | refine blk_alloc ?_ _)); exact BK427.out)⟩; replace BK428 : Aside0 (w20.heap[gb428]? = some (.cells #[.slice A1_0 l1_0.length c1_0, .slice A1_1 l1_1.length c1_1, .slice A1_2 l1_2.length c1_2, .slice A1_3 l1_3.length c1_3, .slice A1_4 l1_4.length c1_4, .slice A1_5 l1_5.length c1_5, .slice A1_6 l1_6.length c1_6, .slice A1_7 l1_7.length c1_7, .bool a1_8, .bool a1_9] 43 (0, 0))) := ⟨by rw [← hq_]; exact (by (with_reducible repeat (first | refine blk_drewN ?_ _ | refine blk_drew ?_ | refine blk_alloc ?_ _)); exact BK428.out)⟩; replace HB : Aside0 (Below w.heap.size w w20) := ⟨by rw [← hq_]; exact (by repeat (first | (with_reducible first | exact HB.out | apply below_alloc | apply pw_below_drewN | apply below_drew1 | refine below_set ?_ GE427.out | refine below_set ?_ GE428.out) | exact HB.out))⟩; clear hq_))
  replace BK427 := Aside0.mk (blk_drew BK427.out)
  replace BK428 := Aside0.mk (blk_drew BK428.out)
  replace HB := Aside0.mk (below_drew1 HB.out)
  refine start_ (n := 8) (S := fun w' => w'.cell? ⟨gb427, 0, none⟩ = some (.slice A0_0 l0_0.length c0_0) ∧ w'.cell? ⟨gb427, 1, none⟩ = some (.slice A0_1 l0_1.length c0_1) ∧ w'.cell? ⟨gb427, 2, none⟩ = some (.slice A0_2 l0_2.length c0_2) ∧ w'.cell? ⟨gb427, 3, none⟩ = some (.slice A0_3 l0_3.length c0_3) ∧ w'.cell? ⟨gb427, 4, none⟩ = some (.slice A0_4 l0_4.length c0_4) ∧ w'.cell? ⟨gb427, 5, none⟩ = some (.slice A0_5 l0_5.length c0_5) ∧ w'.cell? ⟨gb427, 6, none⟩ = some (.slice A0_6 l0_6.length c0_6) ∧ w'.cell? ⟨gb427, 7, none⟩ = some (.slice A0_7 l0_7.length c0_7) ∧ w'.cell? ⟨gb427, 8, none⟩ = some (.bool a0_8) ∧ w'.cell? ⟨gb427, 9, none⟩ = some (.bool a0_9) ∧ w'.cell? ⟨gb428, 0, none⟩ = some (.slice A1_0 l1_0.length c1_0) ∧ w'.cell? ⟨gb428, 1, none⟩ = some (.slice A1_1 l1_1.length c1_1) ∧ w'.cell? ⟨gb428, 2, none⟩ = some (.slice A1_2 l1_2.length c1_2) ∧ w'.cell? ⟨gb428, 3, none⟩ = some (.slice A1_3 l1_3.length c1_3) ∧ w'.cell? ⟨gb428, 4, none⟩ = some (.slice A1_4 l1_4.length c1_4) ∧ w'.cell? ⟨gb428, 5, none⟩ = some (.slice A1_5 l1_5.length c1_5) ∧ w'.cell? ⟨gb428, 6, none⟩ = some (.slice A1_6 l1_6.length c1_6) ∧ w'.cell? ⟨gb428, 7, none⟩ = some (.slice A1_7 l1_7.length c1_7) ∧ w'.cell? ⟨gb428, 8, none⟩ = some (.bool a1_8) ∧ w'.cell? ⟨gb428, 9, none⟩ = some (.bool a1_9)) (ds := []) #[false, false, false, false, false, false, false, false] (by kernel_rfl) rfl rfl ⟨kC BK427.out 0 rfl, kC BK427.out 1 rfl, kC BK427.out 2 rfl, kC BK427.out 3 rfl, kC BK427.out 4 rfl, kC BK427.out 5 rfl, kC BK427.out 6 rfl, kC BK427.out 7 rfl, kC BK427.out 8 rfl, kC BK427.out 9 rfl, kC BK428.out 0 rfl, kC BK428.out 1 rfl, kC BK428.out 2 rfl, kC BK428.out 3 rfl, kC BK428.out 4 rfl, kC BK428.out 5 rfl, kC BK428.out 6 rfl, kC BK428.out 7 rfl, kC BK428.out 8 rfl, kC BK428.out 9 rfl⟩ (fun hHeld => ?_); refine with_tabW spec_Strictly.tab3 spec_Strictly.bits3 (fun HT_ HW_ => ?_)
  generalize w20.drew = w21 at BK427 BK428 HB hHeld ⊢
  refine pure_ (i := 1) (N := some 16) (v := ?_) (a' := ?_) #[false, true, false, false, false, false, false, false] rfl rfl (any_of HT_.out (by kernel_rfl)) (fun _ _ _ h => h) (Or.inl ⟨by rfl, ?_⟩) ?_ ?_
  rotate_left
  ·intro w'
   go_simp
   with_reducible rfl
  rotate_left
  ·simp only [Act.put, List.setIfInBounds_toArray, List.set_cons_zero, List.set_cons_succ, i64_w, i32_w]
   rfl
  refine pure_ (i := 4) (N := some 19) (v := ?_) (a' := ?_) #[false, true, false, false, true, false, false, false] rfl rfl (any_of HT_.out (by kernel_rfl)) (fun _ _ _ h => h) (Or.inl ⟨by rfl, ?_⟩) ?_ ?_
  rotate_left
  ·intro w'
   go_simp
   with_reducible rfl
  rotate_left
  ·simp only [Act.put, List.setIfInBounds_toArray, List.set_cons_zero, List.set_cons_succ, i64_w, i32_w]
   rfl
  refine take_ (i := 0) (N := some 15) (v := ?_) (a' := ?_) #[true, true, false, false, true, false, false, false] rfl rfl (take_ofW HT_.out HW_.out (by kernel_rfl)) (fun _ _ _ h => h) (Or.inl ⟨by rfl, ?_⟩) hHeld ?_ ?_
  rotate_left
  ·rintro w' ⟨s0, s1, s2, s3, s4, s5, s6, s7, s8, s9, s10, s11, s12, s13, s14, s15, s16, s17, s18, s19⟩
   go_simp
   with_reducible rfl
  rotate_left
  ·simp only [Act.put, List.setIfInBounds_toArray, List.set_cons_zero, List.set_cons_succ, i64_w, i32_w]
   rfl
  refine take_ (i := 3) (N := some 18) (v := ?_) (a' := ?_) #[true, true, false, true, true, false, false, false] rfl rfl (take_ofW HT_.out HW_.out (by kernel_rfl)) (fun _ _ _ h => h) (Or.inl ⟨by rfl, ?_⟩) hHeld ?_ ?_
  rotate_left
  ·rintro w' ⟨s0, s1, s2, s3, s4, s5, s6, s7, s8, s9, s10, s11, s12, s13, s14, s15, s16, s17, s18, s19⟩
   go_simp
   with_reducible rfl
  rotate_left
  ·simp only [Act.put, List.setIfInBounds_toArray, List.set_cons_zero, List.set_cons_succ, i64_w, i32_w]
   rfl
  refine one_ (i := 2) (N := some 17) #[true, true, true, true, true, false, false, false] rfl rfl (one_of HT_.out (by kernel_rfl)) (by decide) (fun K hK => ?_)
  refine goes_ Try.func118 (by kernel_rfl) rfl #[.agg #[.slice A0_0 l0_0.length c0_0, .slice A0_1 l0_1.length c0_1, .slice A0_2 l0_2.length c0_2, .slice A0_3 l0_3.length c0_3, .slice A0_4 l0_4.length c0_4, .slice A0_5 l0_5.length c0_5, .slice A0_6 l0_6.length c0_6, .slice A0_7 l0_7.length c0_7, .bool a0_8, .bool a0_9], .int .i64 a2] (by rfl) rfl rfl (by (try simp only [List.map_toArray, List.map_cons, List.map_nil]); first | done | rfl | (simp only [List.length_drop, List.length_take]; rfl)) ?_
  with_reducible refine (spec_l16Targets.calls k _ _ l0_0 _ _ l0_1 _ _ l0_2 _ _ l0_3 _ _ l0_4 _ _ l0_5 _ _ l0_6 _ _ l0_7 a0_8 a0_9 a2 t430 _ ?side1 ?side2 ?side3 ?side4 ?side5 ?side6 ?side7 ?side8 ?side9 ?side10 ?side11 ?side12 ?side13 ?side14 ?side15 ?side16 A6.out).mono ?_
  (case side1 => exact cS (Kd.C_below HR0_0.out HB.out))
  (case side2 => exact HC0_0.out)
  (case side3 => exact cS (Kd.C_below HR0_1.out HB.out))
  (case side4 => exact HC0_1.out)
  (case side5 => exact cS (Kd.C_below HR0_2.out HB.out))
  (case side6 => exact HC0_2.out)
  (case side7 => exact cS (Kd.C_below HR0_3.out HB.out))
  (case side8 => exact HC0_3.out)
  (case side9 => exact cS (Kd.C_below HR0_4.out HB.out))
  (case side10 => exact HC0_4.out)
  (case side11 => exact cS (Kd.C_below HR0_5.out HB.out))
  (case side12 => exact HC0_5.out)
  (case side13 => exact cS (Kd.C_below HR0_6.out HB.out))
  (case side14 => exact HC0_6.out)
  (case side15 => exact cS (Kd.C_below HR0_7.out HB.out))
  (case side16 => exact HC0_7.out)
  rintro e w22 ⟨v431, rfl, ho0, hb⟩
  refine ⟨_, rfl, ?_⟩
  have HO432 := Aside0.mk (Kd.R_lower ho0 (below_size (by repeat (first | (with_reducible first | exact HB.out | apply below_alloc | apply pw_below_drewN | apply below_drew1 | refine below_set ?_ GE427.out | refine below_set ?_ GE428.out) | exact HB.out))))
  replace BK427 := Aside0.mk (kS BK427.out hb)
  replace BK428 := Aside0.mk (kS BK428.out hb)
  replace HB := Aside0.mk (below_step (by repeat (first | (with_reducible first | exact HB.out | apply below_alloc | apply pw_below_drewN | apply below_drew1 | refine below_set ?_ GE427.out | refine below_set ?_ GE428.out) | exact HB.out)) hb)
  (try clear hb)
  (try clear hb2)
  (try clear hk)
  (try clear hi)
  (try clear ho0)
  refine hK.out _ _ ⟨kC BK427.out 0 rfl, kC BK427.out 1 rfl, kC BK427.out 2 rfl, kC BK427.out 3 rfl, kC BK427.out 4 rfl, kC BK427.out 5 rfl, kC BK427.out 6 rfl, kC BK427.out 7 rfl, kC BK427.out 8 rfl, kC BK427.out 9 rfl, kC BK428.out 0 rfl, kC BK428.out 1 rfl, kC BK428.out 2 rfl, kC BK428.out 3 rfl, kC BK428.out 4 rfl, kC BK428.out 5 rfl, kC BK428.out 6 rfl, kC BK428.out 7 rfl, kC BK428.out 8 rfl, kC BK428.out 9 rfl⟩ (fun hHeld => ?_)
  clear hK K
  refine norm_ (a' := ?_) ?_ ?_
  rotate_left
  ·show Act.put _ (some 17) _ = _
   simp only [Act.put, List.setIfInBounds_toArray, List.set_cons_zero, List.set_cons_succ, i64_w, i32_w]
   rfl
  refine one_ (i := 5) (N := some 20) #[true, true, true, true, true, true, false, false] rfl rfl (one_of HT_.out (by kernel_rfl)) (by decide) (fun K hK => ?_)
  refine goes_ Try.func118 (by kernel_rfl) rfl #[.agg #[.slice A1_0 l1_0.length c1_0, .slice A1_1 l1_1.length c1_1, .slice A1_2 l1_2.length c1_2, .slice A1_3 l1_3.length c1_3, .slice A1_4 l1_4.length c1_4, .slice A1_5 l1_5.length c1_5, .slice A1_6 l1_6.length c1_6, .slice A1_7 l1_7.length c1_7, .bool a1_8, .bool a1_9], .int .i64 a2] (by rfl) rfl rfl (by (try simp only [List.map_toArray, List.map_cons, List.map_nil]); first | done | rfl | (simp only [List.length_drop, List.length_take]; rfl)) ?_
  with_reducible refine (spec_l16Targets.calls k _ _ l1_0 _ _ l1_1 _ _ l1_2 _ _ l1_3 _ _ l1_4 _ _ l1_5 _ _ l1_6 _ _ l1_7 a1_8 a1_9 a2 t433 _ ?side1 ?side2 ?side3 ?side4 ?side5 ?side6 ?side7 ?side8 ?side9 ?side10 ?side11 ?side12 ?side13 ?side14 ?side15 ?side16 A7.out).mono ?_
  (case side1 => exact cS (Kd.C_below HR1_0.out HB.out))
  (case side2 => exact HC1_0.out)
  (case side3 => exact cS (Kd.C_below HR1_1.out HB.out))
  (case side4 => exact HC1_1.out)
  (case side5 => exact cS (Kd.C_below HR1_2.out HB.out))
  (case side6 => exact HC1_2.out)
  (case side7 => exact cS (Kd.C_below HR1_3.out HB.out))
  (case side8 => exact HC1_3.out)
  (case side9 => exact cS (Kd.C_below HR1_4.out HB.out))
  (case side10 => exact HC1_4.out)
  (case side11 => exact cS (Kd.C_below HR1_5.out HB.out))
  (case side12 => exact HC1_5.out)
  (case side13 => exact cS (Kd.C_below HR1_6.out HB.out))
  (case side14 => exact HC1_6.out)
  (case side15 => exact cS (Kd.C_below HR1_7.out HB.out))
  (case side16 => exact HC1_7.out)
  rintro e w23 ⟨v434, rfl, ho0, hb⟩
  refine ⟨_, rfl, ?_⟩
  have n0_ := Aside0.mk (Kd.R_elder' (rS HO432.out) (Kd.R_base ho0) hb)
  have HO435 := Aside0.mk (Kd.R_lower (rN ho0 HO432.out) (below_size (by repeat (first | (with_reducible first | exact HB.out | apply below_alloc | apply pw_below_drewN | apply below_drew1 | refine below_set ?_ GE427.out | refine below_set ?_ GE428.out) | exact HB.out))))
  replace BK427 := Aside0.mk (kS BK427.out hb)
  replace BK428 := Aside0.mk (kS BK428.out hb)
  replace HB := Aside0.mk (below_step (by repeat (first | (with_reducible first | exact HB.out | apply below_alloc | apply pw_below_drewN | apply below_drew1 | refine below_set ?_ GE427.out | refine below_set ?_ GE428.out) | exact HB.out)) hb)
  clear HO432
  have HO432 := n0_
  clear n0_
  (try clear hb)
  (try clear hb2)
  (try clear hk)
  (try clear hi)
  (try clear ho0)
  refine hK.out _ _ ⟨kC BK427.out 0 rfl, kC BK427.out 1 rfl, kC BK427.out 2 rfl, kC BK427.out 3 rfl, kC BK427.out 4 rfl, kC BK427.out 5 rfl, kC BK427.out 6 rfl, kC BK427.out 7 rfl, kC BK427.out 8 rfl, kC BK427.out 9 rfl, kC BK428.out 0 rfl, kC BK428.out 1 rfl, kC BK428.out 2 rfl, kC BK428.out 3 rfl, kC BK428.out 4 rfl, kC BK428.out 5 rfl, kC BK428.out 6 rfl, kC BK428.out 7 rfl, kC BK428.out 8 rfl, kC BK428.out 9 rfl⟩ (fun hHeld => ?_)
  clear hK K
  refine norm_ (a' := ?_) ?_ ?_
  rotate_left
  ·show Act.put _ (some 20) _ = _
   simp only [Act.put, List.setIfInBounds_toArray, List.set_cons_zero, List.set_cons_succ, i64_w, i32_w]
   rfl
  refine pure_ (i := 6) (N := some 7) (v := ?_) (a' := ?_) #[true, true, true, true, true, true, true, false] rfl rfl (any_of HT_.out (by kernel_rfl)) (fun _ _ _ h => h) (Or.inl ⟨by rfl, ?_⟩) ?_ ?_
  rotate_left
  ·intro w'
   go_simp
   with_reducible rfl
  rotate_left
  ·simp only [Act.put, List.setIfInBounds_toArray, List.set_cons_zero, List.set_cons_succ, i64_w, i32_w]
   rfl
  refine pure_ (i := 7) (N := some 8) (v := ?_) (a' := ?_) #[true, true, true, true, true, true, true, true] rfl rfl (any_of HT_.out (by kernel_rfl)) (fun _ _ _ h => h) (Or.inl ⟨by rfl, ?_⟩) ?_ ?_
  rotate_left
  ·intro w'
   go_simp
   with_reducible rfl
  rotate_left
  ·simp only [Act.put, List.setIfInBounds_toArray, List.set_cons_zero, List.set_cons_succ, i64_w, i32_w]
   rfl
  refine done_ (done_of HT_.out (by kernel_rfl)) ?_
  try go_wp2
  replace HO432 := Aside0.mk (Kd.R_drew HO432.out)
  replace HO435 := Aside0.mk (Kd.R_drew HO435.out)
  replace BK427 := Aside0.mk (blk_drew BK427.out)
  replace BK428 := Aside0.mk (blk_drew BK428.out)
  replace HB := Aside0.mk (below_drew1 HB.out)
  refine start_ (n := 11) (S := fun w' => w'.cell? ⟨gb427, 0, none⟩ = some (.slice A0_0 l0_0.length c0_0) ∧ w'.cell? ⟨gb427, 1, none⟩ = some (.slice A0_1 l0_1.length c0_1) ∧ w'.cell? ⟨gb427, 2, none⟩ = some (.slice A0_2 l0_2.length c0_2) ∧ w'.cell? ⟨gb427, 3, none⟩ = some (.slice A0_3 l0_3.length c0_3) ∧ w'.cell? ⟨gb427, 4, none⟩ = some (.slice A0_4 l0_4.length c0_4) ∧ w'.cell? ⟨gb427, 5, none⟩ = some (.slice A0_5 l0_5.length c0_5) ∧ w'.cell? ⟨gb427, 6, none⟩ = some (.slice A0_6 l0_6.length c0_6) ∧ w'.cell? ⟨gb427, 7, none⟩ = some (.slice A0_7 l0_7.length c0_7) ∧ w'.cell? ⟨gb427, 8, none⟩ = some (.bool a0_8) ∧ w'.cell? ⟨gb427, 9, none⟩ = some (.bool a0_9)) (ds := []) #[false, false, false, false, false, false, false, false, false, false, false] (by kernel_rfl) rfl rfl ⟨kC BK427.out 0 rfl, kC BK427.out 1 rfl, kC BK427.out 2 rfl, kC BK427.out 3 rfl, kC BK427.out 4 rfl, kC BK427.out 5 rfl, kC BK427.out 6 rfl, kC BK427.out 7 rfl, kC BK427.out 8 rfl, kC BK427.out 9 rfl⟩ (fun hHeld => ?_); refine with_tabW spec_Strictly.tab4 spec_Strictly.bits4 (fun HT_ HW_ => ?_)
  generalize w23.drew = w24 at HO432 HO435 BK427 BK428 HB hHeld ⊢
  refine pure_ (i := 0) (N := some 21) (v := ?_) (a' := ?_) #[true, false, false, false, false, false, false, false, false, false, false] rfl rfl (any_of HT_.out (by kernel_rfl)) (fun _ _ _ h => h) (Or.inl ⟨by rfl, ?_⟩) ?_ ?_
  rotate_left
  ·intro w'
   go_simp
   with_reducible rfl
  rotate_left
  ·simp only [Act.put, List.setIfInBounds_toArray, List.set_cons_zero, List.set_cons_succ, i64_w, i32_w]
   rfl
  refine pure_ (i := 2) (N := some 23) (v := ?_) (a' := ?_) #[true, false, true, false, false, false, false, false, false, false, false] rfl rfl (any_of HT_.out (by kernel_rfl)) (fun _ _ _ h => h) (Or.inl ⟨by rfl, ?_⟩) ?_ ?_
  rotate_left
  ·intro w'
   go_simp
   with_reducible rfl
  rotate_left
  ·simp only [Act.put, List.setIfInBounds_toArray, List.set_cons_zero, List.set_cons_succ, i64_w, i32_w]
   rfl
  refine pure_ (i := 5) (N := some 26) (v := ?_) (a' := ?_) #[true, false, true, false, false, true, false, false, false, false, false] rfl rfl (any_of HT_.out (by kernel_rfl)) (fun _ _ _ h => h) (Or.inl ⟨by rfl, ?_⟩) ?_ ?_
  rotate_left
  ·intro w'
   go_simp
   with_reducible rfl
  rotate_left
  ·simp only [Act.put, List.setIfInBounds_toArray, List.set_cons_zero, List.set_cons_succ, i64_w, i32_w]
   rfl
  refine pure_ (i := 7) (N := some 28) (v := ?_) (a' := ?_) #[true, false, true, false, false, true, false, true, false, false, false] rfl rfl (any_of HT_.out (by kernel_rfl)) (fun _ _ _ h => h) (Or.inl ⟨by rfl, ?_⟩) ?_ ?_
  rotate_left
  ·intro w'
   go_simp
   with_reducible rfl
  rotate_left
  ·simp only [Act.put, List.setIfInBounds_toArray, List.set_cons_zero, List.set_cons_succ, i64_w, i32_w]
   rfl
  refine take_ (i := 1) (N := some 22) (v := ?_) (a' := ?_) #[true, true, true, false, false, true, false, true, false, false, false] rfl rfl (take_ofW HT_.out HW_.out (by kernel_rfl)) (fun _ _ _ h => h) (Or.inl ⟨by rfl, ?_⟩) hHeld ?_ ?_
  rotate_left
  ·rintro w' ⟨s0, s1, s2, s3, s4, s5, s6, s7, s8, s9⟩
   go_simp
   with_reducible rfl
  rotate_left
  ·simp only [Act.put, List.setIfInBounds_toArray, List.set_cons_zero, List.set_cons_succ, i64_w, i32_w]
   rfl
  refine take_ (i := 3) (N := some 24) (v := ?_) (a' := ?_) #[true, true, true, true, false, true, false, true, false, false, false] rfl rfl (take_ofW HT_.out HW_.out (by kernel_rfl)) (fun _ _ _ h => h) (Or.inl ⟨by rfl, ?_⟩) hHeld ?_ ?_
  rotate_left
  ·rintro w' ⟨s0, s1, s2, s3, s4, s5, s6, s7, s8, s9⟩
   go_simp
   with_reducible rfl
  rotate_left
  ·simp only [Act.put, List.setIfInBounds_toArray, List.set_cons_zero, List.set_cons_succ, i64_w, i32_w]
   rfl
  refine take_ (i := 6) (N := some 27) (v := ?_) (a' := ?_) #[true, true, true, true, false, true, true, true, false, false, false] rfl rfl (take_ofW HT_.out HW_.out (by kernel_rfl)) (fun _ _ _ h => h) (Or.inl ⟨by rfl, ?_⟩) hHeld ?_ ?_
  rotate_left
  ·rintro w' ⟨s0, s1, s2, s3, s4, s5, s6, s7, s8, s9⟩
   go_simp
   with_reducible rfl
  rotate_left
  ·simp only [Act.put, List.setIfInBounds_toArray, List.set_cons_zero, List.set_cons_succ, i64_w, i32_w]
   rfl
  refine one_ (i := 4) (N := some 25) #[true, true, true, true, true, true, true, true, false, false, false] rfl rfl (one_of HT_.out (by kernel_rfl)) (by decide) (fun K hK => ?_)
  refine goes_ Try.func119 (by kernel_rfl) rfl #[.slice A0_0 l0_0.length c0_0, .slice A0_1 l0_1.length c0_1] (by rfl) rfl rfl (by (try simp only [List.map_toArray, List.map_cons, List.map_nil]); first | done | rfl | (simp only [List.length_drop, List.length_take]; rfl)) ?_
  with_reducible refine (spec_l10Union.calls k _ _ l0_0 _ _ l0_1 t436 _ ?side1 ?side2 ?side3 ?side4 A8.out).mono ?_
  (case side1 => exact cS (Kd.C_below HR0_0.out HB.out))
  (case side2 => exact HC0_0.out)
  (case side3 => exact cS (Kd.C_below HR0_1.out HB.out))
  (case side4 => exact HC0_1.out)
  rintro e w25 ⟨v437, rfl, ho0, hb⟩
  refine ⟨_, rfl, ?_⟩
  have n0_ := Aside0.mk (Kd.R_elder' (rS HO432.out) (Kd.R_base ho0) hb)
  have n1_ := Aside0.mk (Kd.R_elder' (rS HO435.out) (Kd.R_base ho0) hb)
  have HO438 := Aside0.mk (Kd.R_lower (rN (rN ho0 HO432.out) HO435.out) (below_size (by repeat (first | (with_reducible first | exact HB.out | apply below_alloc | apply pw_below_drewN | apply below_drew1 | refine below_set ?_ GE427.out | refine below_set ?_ GE428.out) | exact HB.out))))
  replace BK427 := Aside0.mk (kS BK427.out hb)
  replace BK428 := Aside0.mk (kS BK428.out hb)
  replace HB := Aside0.mk (below_step (by repeat (first | (with_reducible first | exact HB.out | apply below_alloc | apply pw_below_drewN | apply below_drew1 | refine below_set ?_ GE427.out | refine below_set ?_ GE428.out) | exact HB.out)) hb)
  clear HO432
  clear HO435
  have HO432 := n0_
  have HO435 := n1_
  clear n0_ n1_
  (try clear hb)
  (try clear hb2)
  (try clear hk)
  (try clear hi)
  (try clear ho0)
  obtain ⟨Ao26, co26, eo26⟩ := Kd.R_slice HO432.out
  (first | subst eo26 | (injection eo26 with f1_ f2_ f3_; have f4_ := f1_.symm; have f5_ := f3_.symm; clear f1_ f2_ f3_; subst f4_; subst f5_))
  refine hK.out _ _ ⟨kC BK427.out 0 rfl, kC BK427.out 1 rfl, kC BK427.out 2 rfl, kC BK427.out 3 rfl, kC BK427.out 4 rfl, kC BK427.out 5 rfl, kC BK427.out 6 rfl, kC BK427.out 7 rfl, kC BK427.out 8 rfl, kC BK427.out 9 rfl⟩ (fun hHeld => ?_)
  clear hK K
  refine norm_ (a' := ?_) ?_ ?_
  rotate_left
  ·show Act.put _ (some 25) _ = _
   simp only [Act.put, List.setIfInBounds_toArray, List.set_cons_zero, List.set_cons_succ, i64_w, i32_w]
   rfl
  refine one_ (i := 8) (N := some 29) #[true, true, true, true, true, true, true, true, true, false, false] rfl rfl (one_of HT_.out (by kernel_rfl)) (by decide) (fun K hK => ?_)
  refine goes_ Try.func119 (by kernel_rfl) rfl #[.slice A0_2 l0_2.length c0_2, .slice Ao26 t430.length co26] (by rfl) rfl rfl (by (try simp only [List.map_toArray, List.map_cons, List.map_nil]); first | done | rfl | (simp only [List.length_drop, List.length_take]; rfl)) ?_
  with_reducible refine (spec_l10Union.calls k _ _ l0_2 _ _ t430 t439 _ ?side1 ?side2 ?side3 ?side4 A9.out).mono ?_
  (case side1 => exact cS (Kd.C_below HR0_2.out HB.out))
  (case side2 => exact HC0_2.out)
  (case side3 => exact cS (Kd.R_reads' HO432.out).2.2)
  (case side4 => exact (Kd.R_reads' HO432.out).2.1)
  rintro e w27 ⟨v440, rfl, ho0, hb⟩
  refine ⟨_, rfl, ?_⟩
  have n0_ := Aside0.mk (Kd.R_elder' (rS HO432.out) (Kd.R_base ho0) hb)
  have n1_ := Aside0.mk (Kd.R_elder' (rS HO435.out) (Kd.R_base ho0) hb)
  have n2_ := Aside0.mk (Kd.R_elder' (rS HO438.out) (Kd.R_base ho0) hb)
  have HO441 := Aside0.mk (Kd.R_lower (rN (rN (rN ho0 HO432.out) HO435.out) HO438.out) (below_size (by repeat (first | (with_reducible first | exact HB.out | apply below_alloc | apply pw_below_drewN | apply below_drew1 | refine below_set ?_ GE427.out | refine below_set ?_ GE428.out) | exact HB.out))))
  replace BK427 := Aside0.mk (kS BK427.out hb)
  replace BK428 := Aside0.mk (kS BK428.out hb)
  replace HB := Aside0.mk (below_step (by repeat (first | (with_reducible first | exact HB.out | apply below_alloc | apply pw_below_drewN | apply below_drew1 | refine below_set ?_ GE427.out | refine below_set ?_ GE428.out) | exact HB.out)) hb)
  clear HO432
  clear HO435
  clear HO438
  have HO432 := n0_
  have HO435 := n1_
  have HO438 := n2_
  clear n0_ n1_ n2_
  (try clear hb)
  (try clear hb2)
  (try clear hk)
  (try clear hi)
  (try clear ho0)
  obtain ⟨Ao28, co28, eo28⟩ := Kd.R_slice HO438.out
  (first | subst eo28 | (injection eo28 with f1_ f2_ f3_; have f4_ := f1_.symm; have f5_ := f3_.symm; clear f1_ f2_ f3_; subst f4_; subst f5_))
  obtain ⟨Ao29, co29, eo29⟩ := Kd.R_slice HO441.out
  (first | subst eo29 | (injection eo29 with f1_ f2_ f3_; have f4_ := f1_.symm; have f5_ := f3_.symm; clear f1_ f2_ f3_; subst f4_; subst f5_))
  refine hK.out _ _ ⟨kC BK427.out 0 rfl, kC BK427.out 1 rfl, kC BK427.out 2 rfl, kC BK427.out 3 rfl, kC BK427.out 4 rfl, kC BK427.out 5 rfl, kC BK427.out 6 rfl, kC BK427.out 7 rfl, kC BK427.out 8 rfl, kC BK427.out 9 rfl⟩ (fun hHeld => ?_)
  clear hK K
  refine norm_ (a' := ?_) ?_ ?_
  rotate_left
  ·show Act.put _ (some 29) _ = _
   simp only [Act.put, List.setIfInBounds_toArray, List.set_cons_zero, List.set_cons_succ, i64_w, i32_w]
   rfl
  refine one_ (i := 9) (N := some 30) #[true, true, true, true, true, true, true, true, true, true, false] rfl rfl (one_of HT_.out (by kernel_rfl)) (by decide) (fun K hK => ?_)
  refine goes_ Try.func119 (by kernel_rfl) rfl #[.slice Ao28 t436.length co28, .slice Ao29 t439.length co29] (by rfl) rfl rfl (by (try simp only [List.map_toArray, List.map_cons, List.map_nil]); first | done | rfl | (simp only [List.length_drop, List.length_take]; rfl)) ?_
  with_reducible refine (spec_l10Union.calls k _ _ t436 _ _ t439 t442 _ ?side1 ?side2 ?side3 ?side4 A10.out).mono ?_
  (case side1 => exact cS (Kd.R_reads' HO438.out).2.2)
  (case side2 => exact (Kd.R_reads' HO438.out).2.1)
  (case side3 => exact cS (Kd.R_reads' HO441.out).2.2)
  (case side4 => exact (Kd.R_reads' HO441.out).2.1)
  rintro e w30 ⟨v443, rfl, ho0, hb⟩
  refine ⟨_, rfl, ?_⟩
  have n0_ := Aside0.mk (Kd.R_elder' (rS HO432.out) (Kd.R_base ho0) hb)
  have n1_ := Aside0.mk (Kd.R_elder' (rS HO435.out) (Kd.R_base ho0) hb)
  have n2_ := Aside0.mk (Kd.R_elder' (rS HO438.out) (Kd.R_base ho0) hb)
  have n3_ := Aside0.mk (Kd.R_elder' (rS HO441.out) (Kd.R_base ho0) hb)
  have HO444 := Aside0.mk (Kd.R_lower (rN (rN (rN (rN ho0 HO432.out) HO435.out) HO438.out) HO441.out) (below_size (by repeat (first | (with_reducible first | exact HB.out | apply below_alloc | apply pw_below_drewN | apply below_drew1 | refine below_set ?_ GE427.out | refine below_set ?_ GE428.out) | exact HB.out))))
  replace BK427 := Aside0.mk (kS BK427.out hb)
  replace BK428 := Aside0.mk (kS BK428.out hb)
  replace HB := Aside0.mk (below_step (by repeat (first | (with_reducible first | exact HB.out | apply below_alloc | apply pw_below_drewN | apply below_drew1 | refine below_set ?_ GE427.out | refine below_set ?_ GE428.out) | exact HB.out)) hb)
  clear HO432
  clear HO435
  clear HO438
  clear HO441
  have HO432 := n0_
  have HO435 := n1_
  have HO438 := n2_
  have HO441 := n3_
  clear n0_ n1_ n2_ n3_
  (try clear hb)
  (try clear hb2)
  (try clear hk)
  (try clear hi)
  (try clear ho0)
  refine hK.out _ _ ⟨kC BK427.out 0 rfl, kC BK427.out 1 rfl, kC BK427.out 2 rfl, kC BK427.out 3 rfl, kC BK427.out 4 rfl, kC BK427.out 5 rfl, kC BK427.out 6 rfl, kC BK427.out 7 rfl, kC BK427.out 8 rfl, kC BK427.out 9 rfl⟩ (fun hHeld => ?_)
  clear hK K
  refine norm_ (a' := ?_) ?_ ?_
  rotate_left
  ·show Act.put _ (some 30) _ = _
   simp only [Act.put, List.setIfInBounds_toArray, List.set_cons_zero, List.set_cons_succ, i64_w, i32_w]
   rfl
  refine pure_ (i := 10) (N := some 9) (v := ?_) (a' := ?_) #[true, true, true, true, true, true, true, true, true, true, true] rfl rfl (any_of HT_.out (by kernel_rfl)) (fun _ _ _ h => h) (Or.inl ⟨by rfl, ?_⟩) ?_ ?_
  rotate_left
  ·intro w'
   go_simp
   with_reducible rfl
  rotate_left
  ·simp only [Act.put, List.setIfInBounds_toArray, List.set_cons_zero, List.set_cons_succ, i64_w, i32_w]
   rfl
  refine done_ (done_of HT_.out (by kernel_rfl)) ?_
  try go_wp2
  replace HO432 := Aside0.mk (Kd.R_drew HO432.out)
  replace HO435 := Aside0.mk (Kd.R_drew HO435.out)
  replace HO438 := Aside0.mk (Kd.R_drew HO438.out)
  replace HO441 := Aside0.mk (Kd.R_drew HO441.out)
  replace HO444 := Aside0.mk (Kd.R_drew HO444.out)
  replace BK427 := Aside0.mk (blk_drew BK427.out)
  replace BK428 := Aside0.mk (blk_drew BK428.out)
  replace HB := Aside0.mk (below_drew1 HB.out)
  refine start_ (n := 11) (S := fun w' => w'.cell? ⟨gb428, 0, none⟩ = some (.slice A1_0 l1_0.length c1_0) ∧ w'.cell? ⟨gb428, 1, none⟩ = some (.slice A1_1 l1_1.length c1_1) ∧ w'.cell? ⟨gb428, 2, none⟩ = some (.slice A1_2 l1_2.length c1_2) ∧ w'.cell? ⟨gb428, 3, none⟩ = some (.slice A1_3 l1_3.length c1_3) ∧ w'.cell? ⟨gb428, 4, none⟩ = some (.slice A1_4 l1_4.length c1_4) ∧ w'.cell? ⟨gb428, 5, none⟩ = some (.slice A1_5 l1_5.length c1_5) ∧ w'.cell? ⟨gb428, 6, none⟩ = some (.slice A1_6 l1_6.length c1_6) ∧ w'.cell? ⟨gb428, 7, none⟩ = some (.slice A1_7 l1_7.length c1_7) ∧ w'.cell? ⟨gb428, 8, none⟩ = some (.bool a1_8) ∧ w'.cell? ⟨gb428, 9, none⟩ = some (.bool a1_9)) (ds := []) #[false, false, false, false, false, false, false, false, false, false, false] (by kernel_rfl) rfl rfl ⟨kC BK428.out 0 rfl, kC BK428.out 1 rfl, kC BK428.out 2 rfl, kC BK428.out 3 rfl, kC BK428.out 4 rfl, kC BK428.out 5 rfl, kC BK428.out 6 rfl, kC BK428.out 7 rfl, kC BK428.out 8 rfl, kC BK428.out 9 rfl⟩ (fun hHeld => ?_); refine with_tabW spec_Strictly.tab5 spec_Strictly.bits5 (fun HT_ HW_ => ?_)
  generalize w30.drew = w31 at HO432 HO435 HO438 HO441 HO444 BK427 BK428 HB hHeld ⊢
  refine pure_ (i := 0) (N := some 31) (v := ?_) (a' := ?_) #[true, false, false, false, false, false, false, false, false, false, false] rfl rfl (any_of HT_.out (by kernel_rfl)) (fun _ _ _ h => h) (Or.inl ⟨by rfl, ?_⟩) ?_ ?_
  rotate_left
  ·intro w'
   go_simp
   with_reducible rfl
  rotate_left
  ·simp only [Act.put, List.setIfInBounds_toArray, List.set_cons_zero, List.set_cons_succ, i64_w, i32_w]
   rfl
  refine pure_ (i := 2) (N := some 33) (v := ?_) (a' := ?_) #[true, false, true, false, false, false, false, false, false, false, false] rfl rfl (any_of HT_.out (by kernel_rfl)) (fun _ _ _ h => h) (Or.inl ⟨by rfl, ?_⟩) ?_ ?_
  rotate_left
  ·intro w'
   go_simp
   with_reducible rfl
  rotate_left
  ·simp only [Act.put, List.setIfInBounds_toArray, List.set_cons_zero, List.set_cons_succ, i64_w, i32_w]
   rfl
  refine pure_ (i := 5) (N := some 36) (v := ?_) (a' := ?_) #[true, false, true, false, false, true, false, false, false, false, false] rfl rfl (any_of HT_.out (by kernel_rfl)) (fun _ _ _ h => h) (Or.inl ⟨by rfl, ?_⟩) ?_ ?_
  rotate_left
  ·intro w'
   go_simp
   with_reducible rfl
  rotate_left
  ·simp only [Act.put, List.setIfInBounds_toArray, List.set_cons_zero, List.set_cons_succ, i64_w, i32_w]
   rfl
  refine pure_ (i := 7) (N := some 38) (v := ?_) (a' := ?_) #[true, false, true, false, false, true, false, true, false, false, false] rfl rfl (any_of HT_.out (by kernel_rfl)) (fun _ _ _ h => h) (Or.inl ⟨by rfl, ?_⟩) ?_ ?_
  rotate_left
  ·intro w'
   go_simp
   with_reducible rfl
  rotate_left
  ·simp only [Act.put, List.setIfInBounds_toArray, List.set_cons_zero, List.set_cons_succ, i64_w, i32_w]
   rfl
  refine take_ (i := 1) (N := some 32) (v := ?_) (a' := ?_) #[true, true, true, false, false, true, false, true, false, false, false] rfl rfl (take_ofW HT_.out HW_.out (by kernel_rfl)) (fun _ _ _ h => h) (Or.inl ⟨by rfl, ?_⟩) hHeld ?_ ?_
  rotate_left
  ·rintro w' ⟨s0, s1, s2, s3, s4, s5, s6, s7, s8, s9⟩
   go_simp
   with_reducible rfl
  rotate_left
  ·simp only [Act.put, List.setIfInBounds_toArray, List.set_cons_zero, List.set_cons_succ, i64_w, i32_w]
   rfl
  refine take_ (i := 3) (N := some 34) (v := ?_) (a' := ?_) #[true, true, true, true, false, true, false, true, false, false, false] rfl rfl (take_ofW HT_.out HW_.out (by kernel_rfl)) (fun _ _ _ h => h) (Or.inl ⟨by rfl, ?_⟩) hHeld ?_ ?_
  rotate_left
  ·rintro w' ⟨s0, s1, s2, s3, s4, s5, s6, s7, s8, s9⟩
   go_simp
   with_reducible rfl
  rotate_left
  ·simp only [Act.put, List.setIfInBounds_toArray, List.set_cons_zero, List.set_cons_succ, i64_w, i32_w]
   rfl
  refine take_ (i := 6) (N := some 37) (v := ?_) (a' := ?_) #[true, true, true, true, false, true, true, true, false, false, false] rfl rfl (take_ofW HT_.out HW_.out (by kernel_rfl)) (fun _ _ _ h => h) (Or.inl ⟨by rfl, ?_⟩) hHeld ?_ ?_
  rotate_left
  ·rintro w' ⟨s0, s1, s2, s3, s4, s5, s6, s7, s8, s9⟩
   go_simp
   with_reducible rfl
  rotate_left
  ·simp only [Act.put, List.setIfInBounds_toArray, List.set_cons_zero, List.set_cons_succ, i64_w, i32_w]
   rfl
  refine one_ (i := 4) (N := some 35) #[true, true, true, true, true, true, true, true, false, false, false] rfl rfl (one_of HT_.out (by kernel_rfl)) (by decide) (fun K hK => ?_)
  refine goes_ Try.func119 (by kernel_rfl) rfl #[.slice A1_0 l1_0.length c1_0, .slice A1_1 l1_1.length c1_1] (by rfl) rfl rfl (by (try simp only [List.map_toArray, List.map_cons, List.map_nil]); first | done | rfl | (simp only [List.length_drop, List.length_take]; rfl)) ?_
  with_reducible refine (spec_l10Union.calls k _ _ l1_0 _ _ l1_1 t445 _ ?side1 ?side2 ?side3 ?side4 A11.out).mono ?_
  (case side1 => exact cS (Kd.C_below HR1_0.out HB.out))
  (case side2 => exact HC1_0.out)
  (case side3 => exact cS (Kd.C_below HR1_1.out HB.out))
  (case side4 => exact HC1_1.out)
  rintro e w32 ⟨v446, rfl, ho0, hb⟩
  refine ⟨_, rfl, ?_⟩
  have n0_ := Aside0.mk (Kd.R_elder' (rS HO432.out) (Kd.R_base ho0) hb)
  have n1_ := Aside0.mk (Kd.R_elder' (rS HO435.out) (Kd.R_base ho0) hb)
  have n2_ := Aside0.mk (Kd.R_elder' (rS HO438.out) (Kd.R_base ho0) hb)
  have n3_ := Aside0.mk (Kd.R_elder' (rS HO441.out) (Kd.R_base ho0) hb)
  have n4_ := Aside0.mk (Kd.R_elder' (rS HO444.out) (Kd.R_base ho0) hb)
  have HO447 := Aside0.mk (Kd.R_lower (rN (rN (rN (rN (rN ho0 HO432.out) HO435.out) HO438.out) HO441.out) HO444.out) (below_size (by repeat (first | (with_reducible first | exact HB.out | apply below_alloc | apply pw_below_drewN | apply below_drew1 | refine below_set ?_ GE427.out | refine below_set ?_ GE428.out) | exact HB.out))))
  replace BK427 := Aside0.mk (kS BK427.out hb)
  replace BK428 := Aside0.mk (kS BK428.out hb)
  replace HB := Aside0.mk (below_step (by repeat (first | (with_reducible first | exact HB.out | apply below_alloc | apply pw_below_drewN | apply below_drew1 | refine below_set ?_ GE427.out | refine below_set ?_ GE428.out) | exact HB.out)) hb)
  clear HO432
  clear HO435
  clear HO438
  clear HO441
  clear HO444
  have HO432 := n0_
  have HO435 := n1_
  have HO438 := n2_
  have HO441 := n3_
  have HO444 := n4_
  clear n0_ n1_ n2_ n3_ n4_
  (try clear hb)
  (try clear hb2)
  (try clear hk)
  (try clear hi)
  (try clear ho0)
  obtain ⟨Ao33, co33, eo33⟩ := Kd.R_slice HO435.out
  (first | subst eo33 | (injection eo33 with f1_ f2_ f3_; have f4_ := f1_.symm; have f5_ := f3_.symm; clear f1_ f2_ f3_; subst f4_; subst f5_))
  refine hK.out _ _ ⟨kC BK428.out 0 rfl, kC BK428.out 1 rfl, kC BK428.out 2 rfl, kC BK428.out 3 rfl, kC BK428.out 4 rfl, kC BK428.out 5 rfl, kC BK428.out 6 rfl, kC BK428.out 7 rfl, kC BK428.out 8 rfl, kC BK428.out 9 rfl⟩ (fun hHeld => ?_)
  clear hK K
  refine norm_ (a' := ?_) ?_ ?_
  rotate_left
  ·show Act.put _ (some 35) _ = _
   simp only [Act.put, List.setIfInBounds_toArray, List.set_cons_zero, List.set_cons_succ, i64_w, i32_w]
   rfl
  refine one_ (i := 8) (N := some 39) #[true, true, true, true, true, true, true, true, true, false, false] rfl rfl (one_of HT_.out (by kernel_rfl)) (by decide) (fun K hK => ?_)
  refine goes_ Try.func119 (by kernel_rfl) rfl #[.slice A1_2 l1_2.length c1_2, .slice Ao33 t433.length co33] (by rfl) rfl rfl (by (try simp only [List.map_toArray, List.map_cons, List.map_nil]); first | done | rfl | (simp only [List.length_drop, List.length_take]; rfl)) ?_
  with_reducible refine (spec_l10Union.calls k _ _ l1_2 _ _ t433 t448 _ ?side1 ?side2 ?side3 ?side4 A12.out).mono ?_
  (case side1 => exact cS (Kd.C_below HR1_2.out HB.out))
  (case side2 => exact HC1_2.out)
  (case side3 => exact cS (Kd.R_reads' HO435.out).2.2)
  (case side4 => exact (Kd.R_reads' HO435.out).2.1)
  rintro e w34 ⟨v449, rfl, ho0, hb⟩
  refine ⟨_, rfl, ?_⟩
  have n0_ := Aside0.mk (Kd.R_elder' (rS HO432.out) (Kd.R_base ho0) hb)
  have n1_ := Aside0.mk (Kd.R_elder' (rS HO435.out) (Kd.R_base ho0) hb)
  have n2_ := Aside0.mk (Kd.R_elder' (rS HO438.out) (Kd.R_base ho0) hb)
  have n3_ := Aside0.mk (Kd.R_elder' (rS HO441.out) (Kd.R_base ho0) hb)
  have n4_ := Aside0.mk (Kd.R_elder' (rS HO444.out) (Kd.R_base ho0) hb)
  have n5_ := Aside0.mk (Kd.R_elder' (rS HO447.out) (Kd.R_base ho0) hb)
  have HO450 := Aside0.mk (Kd.R_lower (rN (rN (rN (rN (rN (rN ho0 HO432.out) HO435.out) HO438.out) HO441.out) HO444.out) HO447.out) (below_size (by repeat (first | (with_reducible first | exact HB.out | apply below_alloc | apply pw_below_drewN | apply below_drew1 | refine below_set ?_ GE427.out | refine below_set ?_ GE428.out) | exact HB.out))))
  replace BK427 := Aside0.mk (kS BK427.out hb)
  replace BK428 := Aside0.mk (kS BK428.out hb)
  replace HB := Aside0.mk (below_step (by repeat (first | (with_reducible first | exact HB.out | apply below_alloc | apply pw_below_drewN | apply below_drew1 | refine below_set ?_ GE427.out | refine below_set ?_ GE428.out) | exact HB.out)) hb)
  clear HO432
  clear HO435
  clear HO438
  clear HO441
  clear HO444
  clear HO447
  have HO432 := n0_
  have HO435 := n1_
  have HO438 := n2_
  have HO441 := n3_
  have HO444 := n4_
  have HO447 := n5_
  clear n0_ n1_ n2_ n3_ n4_ n5_
  (try clear hb)
  (try clear hb2)
  (try clear hk)
  (try clear hi)
  (try clear ho0)
  obtain ⟨Ao35, co35, eo35⟩ := Kd.R_slice HO447.out
  (first | subst eo35 | (injection eo35 with f1_ f2_ f3_; have f4_ := f1_.symm; have f5_ := f3_.symm; clear f1_ f2_ f3_; subst f4_; subst f5_))
  obtain ⟨Ao36, co36, eo36⟩ := Kd.R_slice HO450.out
  (first | subst eo36 | (injection eo36 with f1_ f2_ f3_; have f4_ := f1_.symm; have f5_ := f3_.symm; clear f1_ f2_ f3_; subst f4_; subst f5_))
  refine hK.out _ _ ⟨kC BK428.out 0 rfl, kC BK428.out 1 rfl, kC BK428.out 2 rfl, kC BK428.out 3 rfl, kC BK428.out 4 rfl, kC BK428.out 5 rfl, kC BK428.out 6 rfl, kC BK428.out 7 rfl, kC BK428.out 8 rfl, kC BK428.out 9 rfl⟩ (fun hHeld => ?_)
  clear hK K
  refine norm_ (a' := ?_) ?_ ?_
  rotate_left
  ·show Act.put _ (some 39) _ = _
   simp only [Act.put, List.setIfInBounds_toArray, List.set_cons_zero, List.set_cons_succ, i64_w, i32_w]
   rfl
  refine one_ (i := 9) (N := some 40) #[true, true, true, true, true, true, true, true, true, true, false] rfl rfl (one_of HT_.out (by kernel_rfl)) (by decide) (fun K hK => ?_)
  refine goes_ Try.func119 (by kernel_rfl) rfl #[.slice Ao35 t445.length co35, .slice Ao36 t448.length co36] (by rfl) rfl rfl (by (try simp only [List.map_toArray, List.map_cons, List.map_nil]); first | done | rfl | (simp only [List.length_drop, List.length_take]; rfl)) ?_
  with_reducible refine (spec_l10Union.calls k _ _ t445 _ _ t448 t451 _ ?side1 ?side2 ?side3 ?side4 A13.out).mono ?_
  (case side1 => exact cS (Kd.R_reads' HO447.out).2.2)
  (case side2 => exact (Kd.R_reads' HO447.out).2.1)
  (case side3 => exact cS (Kd.R_reads' HO450.out).2.2)
  (case side4 => exact (Kd.R_reads' HO450.out).2.1)
  rintro e w37 ⟨v452, rfl, ho0, hb⟩
  refine ⟨_, rfl, ?_⟩
  have n0_ := Aside0.mk (Kd.R_elder' (rS HO432.out) (Kd.R_base ho0) hb)
  have n1_ := Aside0.mk (Kd.R_elder' (rS HO435.out) (Kd.R_base ho0) hb)
  have n2_ := Aside0.mk (Kd.R_elder' (rS HO438.out) (Kd.R_base ho0) hb)
  have n3_ := Aside0.mk (Kd.R_elder' (rS HO441.out) (Kd.R_base ho0) hb)
  have n4_ := Aside0.mk (Kd.R_elder' (rS HO444.out) (Kd.R_base ho0) hb)
  have n5_ := Aside0.mk (Kd.R_elder' (rS HO447.out) (Kd.R_base ho0) hb)
  have n6_ := Aside0.mk (Kd.R_elder' (rS HO450.out) (Kd.R_base ho0) hb)
  have HO453 := Aside0.mk (Kd.R_lower (rN (rN (rN (rN (rN (rN (rN ho0 HO432.out) HO435.out) HO438.out) HO441.out) HO444.out) HO447.out) HO450.out) (below_size (by repeat (first | (with_reducible first | exact HB.out | apply below_alloc | apply pw_below_drewN | apply below_drew1 | refine below_set ?_ GE427.out | refine below_set ?_ GE428.out) | exact HB.out))))
  replace BK427 := Aside0.mk (kS BK427.out hb)
  replace BK428 := Aside0.mk (kS BK428.out hb)
  replace HB := Aside0.mk (below_step (by repeat (first | (with_reducible first | exact HB.out | apply below_alloc | apply pw_below_drewN | apply below_drew1 | refine below_set ?_ GE427.out | refine below_set ?_ GE428.out) | exact HB.out)) hb)
  clear HO432
  clear HO435
  clear HO438
  clear HO441
  clear HO444
  clear HO447
  clear HO450
  have HO432 := n0_
  have HO435 := n1_
  have HO438 := n2_
  have HO441 := n3_
  have HO444 := n4_
  have HO447 := n5_
  have HO450 := n6_
  clear n0_ n1_ n2_ n3_ n4_ n5_ n6_
  (try clear hb)
  (try clear hb2)
  (try clear hk)
  (try clear hi)
  (try clear ho0)
  refine hK.out _ _ ⟨kC BK428.out 0 rfl, kC BK428.out 1 rfl, kC BK428.out 2 rfl, kC BK428.out 3 rfl, kC BK428.out 4 rfl, kC BK428.out 5 rfl, kC BK428.out 6 rfl, kC BK428.out 7 rfl, kC BK428.out 8 rfl, kC BK428.out 9 rfl⟩ (fun hHeld => ?_)
  clear hK K
  refine norm_ (a' := ?_) ?_ ?_
  rotate_left
  ·show Act.put _ (some 40) _ = _
   simp only [Act.put, List.setIfInBounds_toArray, List.set_cons_zero, List.set_cons_succ, i64_w, i32_w]
   rfl
  refine pure_ (i := 10) (N := some 10) (v := ?_) (a' := ?_) #[true, true, true, true, true, true, true, true, true, true, true] rfl rfl (any_of HT_.out (by kernel_rfl)) (fun _ _ _ h => h) (Or.inl ⟨by rfl, ?_⟩) ?_ ?_
  rotate_left
  ·intro w'
   go_simp
   with_reducible rfl
  rotate_left
  ·simp only [Act.put, List.setIfInBounds_toArray, List.set_cons_zero, List.set_cons_succ, i64_w, i32_w]
   rfl
  refine done_ (done_of HT_.out (by kernel_rfl)) ?_
  obtain ⟨Ao38, co38, eo38⟩ := Kd.R_slice HO453.out
  subst eo38
  try go_wp2_with (first | ((with_reducible refine gate_callee (f := 120) rfl ?_); refine goesL_ (some 43) rfl rfl Try.func120 (by kernel_rfl) rfl #[.slice Ao26 t430.length co26, .slice Ao38 t451.length co38] rfl (by (try simp only [List.map_toArray, List.map_cons, List.map_nil]); first | done | rfl | (simp only [List.length_drop, List.length_take]; rfl)) ?_; (with_reducible refine (spec_l16Meet.calls k _ _ t430 _ _ t451 t454 _ ?side1 ?side2 ?side3 ?side4 A14.out).mono ?_); (case side1 => exact cS (Kd.R_reads' HO432.out).2.2); (case side2 => exact (Kd.R_reads' HO432.out).2.1); (case side3 => exact cS (Kd.R_reads' HO453.out).2.2); (case side4 => exact (Kd.R_reads' HO453.out).2.1); rintro e w39 ⟨v455, rfl, ho0, hb⟩; refine ⟨_, rfl, ?_⟩; have n0_ := Aside0.mk (Kd.R_elder' (rS HO432.out) (Kd.R_base ho0) hb); have n1_ := Aside0.mk (Kd.R_elder' (rS HO435.out) (Kd.R_base ho0) hb); have n2_ := Aside0.mk (Kd.R_elder' (rS HO438.out) (Kd.R_base ho0) hb); have n3_ := Aside0.mk (Kd.R_elder' (rS HO441.out) (Kd.R_base ho0) hb); have n4_ := Aside0.mk (Kd.R_elder' (rS HO444.out) (Kd.R_base ho0) hb); have n5_ := Aside0.mk (Kd.R_elder' (rS HO447.out) (Kd.R_base ho0) hb); have n6_ := Aside0.mk (Kd.R_elder' (rS HO450.out) (Kd.R_base ho0) hb); have n7_ := Aside0.mk (Kd.R_elder' (rS HO453.out) (Kd.R_base ho0) hb); have HO456 := Aside0.mk (Kd.R_lower (rN (rN (rN (rN (rN (rN (rN (rN ho0 HO432.out) HO435.out) HO438.out) HO441.out) HO444.out) HO447.out) HO450.out) HO453.out) (below_size (by repeat (first | (with_reducible first | exact HB.out | apply below_alloc | apply pw_below_drewN | apply below_drew1 | refine below_set ?_ GE427.out | refine below_set ?_ GE428.out) | exact HB.out)))); replace BK427 := Aside0.mk (kS BK427.out hb); replace BK428 := Aside0.mk (kS BK428.out hb); replace HB := Aside0.mk (below_step (by repeat (first | (with_reducible first | exact HB.out | apply below_alloc | apply pw_below_drewN | apply below_drew1 | refine below_set ?_ GE427.out | refine below_set ?_ GE428.out) | exact HB.out)) hb); clear HO432; clear HO435; clear HO438; clear HO441; clear HO444; clear HO447; clear HO450; clear HO453; have HO432 := n0_; have HO435 := n1_; have HO438 := n2_; have HO441 := n3_; have HO444 := n4_; have HO447 := n5_; have HO450 := n6_; have HO453 := n7_; clear n0_ n1_ n2_ n3_ n4_ n5_ n6_ n7_; (try clear hb); (try clear hb2); (try clear hk); (try clear hi); (try clear ho0); obtain ⟨Ao40, co40, eo40⟩ := Kd.R_slice HO444.out; subst eo40) | ((with_reducible refine gate_callee (f := 120) rfl ?_); refine goesL_ (some 46) rfl rfl Try.func120 (by kernel_rfl) rfl #[.slice Ao33 t433.length co33, .slice Ao40 t442.length co40] rfl (by (try simp only [List.map_toArray, List.map_cons, List.map_nil]); first | done | rfl | (simp only [List.length_drop, List.length_take]; rfl)) ?_; (with_reducible refine (spec_l16Meet.calls k _ _ t433 _ _ t442 t457 _ ?side1 ?side2 ?side3 ?side4 A15.out).mono ?_); (case side1 => exact cS (Kd.R_reads' HO435.out).2.2); (case side2 => exact (Kd.R_reads' HO435.out).2.1); (case side3 => exact cS (Kd.R_reads' HO444.out).2.2); (case side4 => exact (Kd.R_reads' HO444.out).2.1); rintro e w41 ⟨v458, rfl, ho0, hb⟩; refine ⟨_, rfl, ?_⟩; have n0_ := Aside0.mk (Kd.R_elder' (rS HO432.out) (Kd.R_base ho0) hb); have n1_ := Aside0.mk (Kd.R_elder' (rS HO435.out) (Kd.R_base ho0) hb); have n2_ := Aside0.mk (Kd.R_elder' (rS HO438.out) (Kd.R_base ho0) hb); have n3_ := Aside0.mk (Kd.R_elder' (rS HO441.out) (Kd.R_base ho0) hb); have n4_ := Aside0.mk (Kd.R_elder' (rS HO444.out) (Kd.R_base ho0) hb); have n5_ := Aside0.mk (Kd.R_elder' (rS HO447.out) (Kd.R_base ho0) hb); have n6_ := Aside0.mk (Kd.R_elder' (rS HO450.out) (Kd.R_base ho0) hb); have n7_ := Aside0.mk (Kd.R_elder' (rS HO453.out) (Kd.R_base ho0) hb); have n8_ := Aside0.mk (Kd.R_elder' (rS HO456.out) (Kd.R_base ho0) hb); have HO459 := Aside0.mk (Kd.R_lower (rN (rN (rN (rN (rN (rN (rN (rN (rN ho0 HO432.out) HO435.out) HO438.out) HO441.out) HO444.out) HO447.out) HO450.out) HO453.out) HO456.out) (below_size (by repeat (first | (with_reducible first | exact HB.out | apply below_alloc | apply pw_below_drewN | apply below_drew1 | refine below_set ?_ GE427.out | refine below_set ?_ GE428.out) | exact HB.out)))); replace BK427 := Aside0.mk (kS BK427.out hb); replace BK428 := Aside0.mk (kS BK428.out hb); replace HB := Aside0.mk (below_step (by repeat (first | (with_reducible first | exact HB.out | apply below_alloc | apply pw_below_drewN | apply below_drew1 | refine below_set ?_ GE427.out | refine below_set ?_ GE428.out) | exact HB.out)) hb); clear HO432; clear HO435; clear HO438; clear HO441; clear HO444; clear HO447; clear HO450; clear HO453; clear HO456; have HO432 := n0_; have HO435 := n1_; have HO438 := n2_; have HO441 := n3_; have HO444 := n4_; have HO447 := n5_; have HO450 := n6_; have HO453 := n7_; have HO456 := n8_; clear n0_ n1_ n2_ n3_ n4_ n5_ n6_ n7_ n8_; (try clear hb); (try clear hb2); (try clear hk); (try clear hi); (try clear ho0); obtain ⟨Ao42, co42, eo42⟩ := Kd.R_slice HO456.out; subst eo42; obtain ⟨Ao43, co43, eo43⟩ := Kd.R_slice HO459.out; subst eo43) | ((with_reducible refine gate_callee (f := 119) rfl ?_); refine goesL_ (some 47) rfl rfl Try.func119 (by kernel_rfl) rfl #[.slice Ao42 t454.length co42, .slice Ao43 t457.length co43] rfl (by (try simp only [List.map_toArray, List.map_cons, List.map_nil]); first | done | rfl | (simp only [List.length_drop, List.length_take]; rfl)) ?_; (with_reducible refine (spec_l10Union.calls k _ _ t454 _ _ t457 t460 _ ?side1 ?side2 ?side3 ?side4 A16.out).mono ?_); (case side1 => exact cS (Kd.R_reads' HO456.out).2.2); (case side2 => exact (Kd.R_reads' HO456.out).2.1); (case side3 => exact cS (Kd.R_reads' HO459.out).2.2); (case side4 => exact (Kd.R_reads' HO459.out).2.1); rintro e w44 ⟨v461, rfl, ho0, hb⟩; refine ⟨_, rfl, ?_⟩; have n0_ := Aside0.mk (Kd.R_elder' (rS HO432.out) (Kd.R_base ho0) hb); have n1_ := Aside0.mk (Kd.R_elder' (rS HO435.out) (Kd.R_base ho0) hb); have n2_ := Aside0.mk (Kd.R_elder' (rS HO438.out) (Kd.R_base ho0) hb); have n3_ := Aside0.mk (Kd.R_elder' (rS HO441.out) (Kd.R_base ho0) hb); have n4_ := Aside0.mk (Kd.R_elder' (rS HO444.out) (Kd.R_base ho0) hb); have n5_ := Aside0.mk (Kd.R_elder' (rS HO447.out) (Kd.R_base ho0) hb); have n6_ := Aside0.mk (Kd.R_elder' (rS HO450.out) (Kd.R_base ho0) hb); have n7_ := Aside0.mk (Kd.R_elder' (rS HO453.out) (Kd.R_base ho0) hb); have n8_ := Aside0.mk (Kd.R_elder' (rS HO456.out) (Kd.R_base ho0) hb); have n9_ := Aside0.mk (Kd.R_elder' (rS HO459.out) (Kd.R_base ho0) hb); have HO462 := Aside0.mk (Kd.R_lower (rN (rN (rN (rN (rN (rN (rN (rN (rN (rN ho0 HO432.out) HO435.out) HO438.out) HO441.out) HO444.out) HO447.out) HO450.out) HO453.out) HO456.out) HO459.out) (below_size (by repeat (first | (with_reducible first | exact HB.out | apply below_alloc | apply pw_below_drewN | apply below_drew1 | refine below_set ?_ GE427.out | refine below_set ?_ GE428.out) | exact HB.out)))); replace BK427 := Aside0.mk (kS BK427.out hb); replace BK428 := Aside0.mk (kS BK428.out hb); replace HB := Aside0.mk (below_step (by repeat (first | (with_reducible first | exact HB.out | apply below_alloc | apply pw_below_drewN | apply below_drew1 | refine below_set ?_ GE427.out | refine below_set ?_ GE428.out) | exact HB.out)) hb); clear HO432; clear HO435; clear HO438; clear HO441; clear HO444; clear HO447; clear HO450; clear HO453; clear HO456; clear HO459; have HO432 := n0_; have HO435 := n1_; have HO438 := n2_; have HO441 := n3_; have HO444 := n4_; have HO447 := n5_; have HO450 := n6_; have HO453 := n7_; have HO456 := n8_; have HO459 := n9_; clear n0_ n1_ n2_ n3_ n4_ n5_ n6_ n7_ n8_ n9_; (try clear hb); (try clear hb2); (try clear hk); (try clear hi); (try clear ho0); have hnb45 := NB427_428.out; have hnc45 := NB428_427.out; obtain ⟨hcz46_0, hcz46_1, hcz46_2, hcz46_3, hcz46_4, hcz46_5, hcz46_6, hcz46_7, hcz46_8, hcz46_9⟩ := kc10 BK427.out; obtain ⟨hfz46_0, hfz46_1, hfz46_2, hfz46_3, hfz46_4, hfz46_5, hfz46_6, hfz46_7, hfz46_8, hfz46_9⟩ := kf10 BK427.out; obtain ⟨hcz47_0, hcz47_1, hcz47_2, hcz47_3, hcz47_4, hcz47_5, hcz47_6, hcz47_7, hcz47_8, hcz47_9⟩ := kc10 BK428.out; obtain ⟨hfz47_0, hfz47_1, hfz47_2, hfz47_3, hfz47_4, hfz47_5, hfz47_6, hfz47_7, hfz47_8, hfz47_9⟩ := kf10 BK428.out) | ((with_reducible refine gate_callee (f := 29) rfl ?_); refine goesL_ (some 50) rfl rfl Try.func29 (by kernel_rfl) rfl #[.agg #[.slice A0_0 l0_0.length c0_0, .slice A0_1 l0_1.length c0_1, .slice A0_2 l0_2.length c0_2, .slice A0_3 l0_3.length c0_3, .slice A0_4 l0_4.length c0_4, .slice A0_5 l0_5.length c0_5, .slice A0_6 l0_6.length c0_6, .slice A0_7 l0_7.length c0_7, .bool a0_8, .bool a0_9], .agg #[.slice A1_0 l1_0.length c1_0, .slice A1_1 l1_1.length c1_1, .slice A1_2 l1_2.length c1_2, .slice A1_3 l1_3.length c1_3, .slice A1_4 l1_4.length c1_4, .slice A1_5 l1_5.length c1_5, .slice A1_6 l1_6.length c1_6, .slice A1_7 l1_7.length c1_7, .bool a1_8, .bool a1_9]] rfl (by (try simp only [List.map_toArray, List.map_cons, List.map_nil]); first | done | rfl | (simp only [List.length_drop, List.length_take]; rfl)) ?_; (with_reducible refine (spec_Clashes.calls k _ _ l0_0 _ _ l0_1 _ _ l0_2 _ _ l0_3 _ _ l0_4 _ _ l0_5 _ _ l0_6 _ _ l0_7 a0_8 a0_9 _ _ l1_0 _ _ l1_1 _ _ l1_2 _ _ l1_3 _ _ l1_4 _ _ l1_5 _ _ l1_6 _ _ l1_7 a1_8 a1_9 t463 _ ?side1 ?side2 ?side3 ?side4 ?side5 ?side6 ?side7 ?side8 ?side9 ?side10 ?side11 ?side12 ?side13 ?side14 ?side15 ?side16 ?side17 ?side18 ?side19 ?side20 ?side21 ?side22 ?side23 ?side24 ?side25 ?side26 ?side27 ?side28 ?side29 ?side30 ?side31 ?side32 A17.out).mono ?_); (case side1 => exact cS (Kd.C_below HR0_0.out HB.out)); (case side2 => exact HC0_0.out); (case side3 => exact cS (Kd.C_below HR0_1.out HB.out)); (case side4 => exact HC0_1.out); (case side5 => exact cS (Kd.C_below HR0_2.out HB.out)); (case side6 => exact HC0_2.out); (case side7 => exact cS (Kd.C_below HR0_3.out HB.out)); (case side8 => exact HC0_3.out); (case side9 => exact cS (Kd.C_below HR0_4.out HB.out)); (case side10 => exact HC0_4.out); (case side11 => exact cS (Kd.C_below HR0_5.out HB.out)); (case side12 => exact HC0_5.out); (case side13 => exact cS (Kd.C_below HR0_6.out HB.out)); (case side14 => exact HC0_6.out); (case side15 => exact cS (Kd.C_below HR0_7.out HB.out)); (case side16 => exact HC0_7.out); (case side17 => exact cS (Kd.C_below HR1_0.out HB.out)); (case side18 => exact HC1_0.out); (case side19 => exact cS (Kd.C_below HR1_1.out HB.out)); (case side20 => exact HC1_1.out); (case side21 => exact cS (Kd.C_below HR1_2.out HB.out)); (case side22 => exact HC1_2.out); (case side23 => exact cS (Kd.C_below HR1_3.out HB.out)); (case side24 => exact HC1_3.out); (case side25 => exact cS (Kd.C_below HR1_4.out HB.out)); (case side26 => exact HC1_4.out); (case side27 => exact cS (Kd.C_below HR1_5.out HB.out)); (case side28 => exact HC1_5.out); (case side29 => exact cS (Kd.C_below HR1_6.out HB.out)); (case side30 => exact HC1_6.out); (case side31 => exact cS (Kd.C_below HR1_7.out HB.out)); (case side32 => exact HC1_7.out); rintro e w48 ⟨v464, rfl, ho0, hb⟩; refine ⟨_, rfl, ?_⟩; replace HO432 := Aside0.mk (Kd.R_below (rS HO432.out) hb); replace HO435 := Aside0.mk (Kd.R_below (rS HO435.out) hb); replace HO438 := Aside0.mk (Kd.R_below (rS HO438.out) hb); replace HO441 := Aside0.mk (Kd.R_below (rS HO441.out) hb); replace HO444 := Aside0.mk (Kd.R_below (rS HO444.out) hb); replace HO447 := Aside0.mk (Kd.R_below (rS HO447.out) hb); replace HO450 := Aside0.mk (Kd.R_below (rS HO450.out) hb); replace HO453 := Aside0.mk (Kd.R_below (rS HO453.out) hb); replace HO456 := Aside0.mk (Kd.R_below (rS HO456.out) hb); replace HO459 := Aside0.mk (Kd.R_below (rS HO459.out) hb); replace HO462 := Aside0.mk (Kd.R_below (rS HO462.out) hb); have HO465 := Aside0.mk (Kd.R_lower ho0 (below_size (by repeat (first | (with_reducible first | exact HB.out | apply below_alloc | apply pw_below_drewN | apply below_drew1 | refine below_set ?_ GE427.out | refine below_set ?_ GE428.out) | exact HB.out)))); replace BK427 := Aside0.mk (kS BK427.out hb); replace BK428 := Aside0.mk (kS BK428.out hb); replace HB := Aside0.mk (below_step (by repeat (first | (with_reducible first | exact HB.out | apply below_alloc | apply pw_below_drewN | apply below_drew1 | refine below_set ?_ GE427.out | refine below_set ?_ GE428.out) | exact HB.out)) hb); (try clear hb); (try clear hb2); (try clear hk); (try clear hi); (try clear ho0); obtain ⟨Ao49, co49, eo49⟩ := Kd.R_slice HO465.out; subst eo49; obtain ⟨Ao50, co50, eo50⟩ := Kd.R_slice HO462.out; subst eo50) | ((with_reducible refine gate_callee (f := 93) rfl ?_); refine goesL_ (some 52) rfl rfl Try.func93 (by kernel_rfl) rfl #[.slice Ao49 t463.length co49, .int .i64 4, .slice Ao50 t460.length co50] rfl (by (try simp only [List.map_toArray, List.map_cons, List.map_nil]); first | done | rfl | (simp only [List.length_drop, List.length_take]; rfl)) ?_; (with_reducible refine (spec_l16Both.calls k (fun k_ => some k_ = (.slice Ao49 t463.length co49 : Value).ownBlock) (.slice Ao49 t463.length co49) t463 4 _ _ t460 t466 w _ ?side1 ?side2 ?side3 ?side4 A18.out).mono ?_); (case side1 => repeat (first | (with_reducible first | exact HB.out | apply below_alloc | apply pw_below_drewN | apply below_drew1 | refine below_set ?_ GE427.out | refine below_set ?_ GE428.out) | exact HB.out)); (case side2 => exact Kd.R_tight rfl HO465.out); (case side3 => exact Kd.C_kept_own ((Kd.R_apart' HO462.out (Kd.R_typed HO465.out) (by decide))) (fun k_ hk_ hs_ => (hk_.2) hs_)); (case side4 => exact (Kd.R_reads' HO462.out).2.1); rintro e w51 ⟨v467, rfl, ho0, hb, hkp⟩; refine ⟨_, rfl, ?_⟩; replace BK427 := Aside0.mk (blk_kept (by (with_reducible repeat (first | refine blk_drewN ?_ _ | refine blk_drew ?_ | refine blk_alloc ?_ _)); exact BK427.out) hkp (fun hs_ => (fun e_ => (Kd.R_ne HO465.out BK427.out (by decide)) e_) hs_)); replace BK428 := Aside0.mk (blk_kept (by (with_reducible repeat (first | refine blk_drewN ?_ _ | refine blk_drew ?_ | refine blk_alloc ?_ _)); exact BK428.out) hkp (fun hs_ => (fun e_ => (Kd.R_ne HO465.out BK428.out (by decide)) e_) hs_)); replace HO432 := Aside0.mk (Kd.R_mono (ok' := fun k_ => some k_ ≠ (.slice Ao33 t433.length co33 : Value).ownBlock ∧ some k_ ≠ (.slice Ao28 t436.length co28 : Value).ownBlock ∧ some k_ ≠ (.slice Ao29 t439.length co29 : Value).ownBlock ∧ some k_ ≠ (.slice Ao40 t442.length co40 : Value).ownBlock ∧ some k_ ≠ (.slice Ao35 t445.length co35 : Value).ownBlock ∧ some k_ ≠ (.slice Ao36 t448.length co36 : Value).ownBlock ∧ some k_ ≠ (.slice Ao38 t451.length co38 : Value).ownBlock ∧ some k_ ≠ (.slice Ao42 t454.length co42 : Value).ownBlock ∧ some k_ ≠ (.slice Ao43 t457.length co43 : Value).ownBlock ∧ some k_ ≠ (.slice Ao50 t460.length co50 : Value).ownBlock) (Kd.R_keptB ((Kd.R_apart' HO432.out (Kd.R_typed HO465.out) (by decide))) hkp (fun k_ hk_ hs_ => (hk_.2) hs_)) (fun k_ hk_ => ⟨hk_.1.1.1.1.1.1.1.1.1.1.1.2, hk_.1.1.1.1.1.1.1.1.1.1.2, hk_.1.1.1.1.1.1.1.1.1.2, hk_.1.1.1.1.1.1.1.1.2, hk_.1.1.1.1.1.1.1.2, hk_.1.1.1.1.1.1.2, hk_.1.1.1.1.1.2, hk_.1.1.1.1.2, hk_.1.1.1.2, hk_.1.1.2⟩)); replace HO435 := Aside0.mk (Kd.R_mono (ok' := fun k_ => some k_ ≠ (.slice Ao26 t430.length co26 : Value).ownBlock ∧ some k_ ≠ (.slice Ao28 t436.length co28 : Value).ownBlock ∧ some k_ ≠ (.slice Ao29 t439.length co29 : Value).ownBlock ∧ some k_ ≠ (.slice Ao40 t442.length co40 : Value).ownBlock ∧ some k_ ≠ (.slice Ao35 t445.length co35 : Value).ownBlock ∧ some k_ ≠ (.slice Ao36 t448.length co36 : Value).ownBlock ∧ some k_ ≠ (.slice Ao38 t451.length co38 : Value).ownBlock ∧ some k_ ≠ (.slice Ao42 t454.length co42 : Value).ownBlock ∧ some k_ ≠ (.slice Ao43 t457.length co43 : Value).ownBlock ∧ some k_ ≠ (.slice Ao50 t460.length co50 : Value).ownBlock) (Kd.R_keptB ((Kd.R_apart' HO435.out (Kd.R_typed HO465.out) (by decide))) hkp (fun k_ hk_ hs_ => (hk_.2) hs_)) (fun k_ hk_ => ⟨hk_.1.1.1.1.1.1.1.1.1.1.1.2, hk_.1.1.1.1.1.1.1.1.1.1.2, hk_.1.1.1.1.1.1.1.1.1.2, hk_.1.1.1.1.1.1.1.1.2, hk_.1.1.1.1.1.1.1.2, hk_.1.1.1.1.1.1.2, hk_.1.1.1.1.1.2, hk_.1.1.1.1.2, hk_.1.1.1.2, hk_.1.1.2⟩)); replace HO438 := Aside0.mk (Kd.R_mono (ok' := fun k_ => some k_ ≠ (.slice Ao26 t430.length co26 : Value).ownBlock ∧ some k_ ≠ (.slice Ao33 t433.length co33 : Value).ownBlock ∧ some k_ ≠ (.slice Ao29 t439.length co29 : Value).ownBlock ∧ some k_ ≠ (.slice Ao40 t442.length co40 : Value).ownBlock ∧ some k_ ≠ (.slice Ao35 t445.length co35 : Value).ownBlock ∧ some k_ ≠ (.slice Ao36 t448.length co36 : Value).ownBlock ∧ some k_ ≠ (.slice Ao38 t451.length co38 : Value).ownBlock ∧ some k_ ≠ (.slice Ao42 t454.length co42 : Value).ownBlock ∧ some k_ ≠ (.slice Ao43 t457.length co43 : Value).ownBlock ∧ some k_ ≠ (.slice Ao50 t460.length co50 : Value).ownBlock) (Kd.R_keptB ((Kd.R_apart' HO438.out (Kd.R_typed HO465.out) (by decide))) hkp (fun k_ hk_ hs_ => (hk_.2) hs_)) (fun k_ hk_ => ⟨hk_.1.1.1.1.1.1.1.1.1.1.1.2, hk_.1.1.1.1.1.1.1.1.1.1.2, hk_.1.1.1.1.1.1.1.1.1.2, hk_.1.1.1.1.1.1.1.1.2, hk_.1.1.1.1.1.1.1.2, hk_.1.1.1.1.1.1.2, hk_.1.1.1.1.1.2, hk_.1.1.1.1.2, hk_.1.1.1.2, hk_.1.1.2⟩)); replace HO441 := Aside0.mk (Kd.R_mono (ok' := fun k_ => some k_ ≠ (.slice Ao26 t430.length co26 : Value).ownBlock ∧ some k_ ≠ (.slice Ao33 t433.length co33 : Value).ownBlock ∧ some k_ ≠ (.slice Ao28 t436.length co28 : Value).ownBlock ∧ some k_ ≠ (.slice Ao40 t442.length co40 : Value).ownBlock ∧ some k_ ≠ (.slice Ao35 t445.length co35 : Value).ownBlock ∧ some k_ ≠ (.slice Ao36 t448.length co36 : Value).ownBlock ∧ some k_ ≠ (.slice Ao38 t451.length co38 : Value).ownBlock ∧ some k_ ≠ (.slice Ao42 t454.length co42 : Value).ownBlock ∧ some k_ ≠ (.slice Ao43 t457.length co43 : Value).ownBlock ∧ some k_ ≠ (.slice Ao50 t460.length co50 : Value).ownBlock) (Kd.R_keptB ((Kd.R_apart' HO441.out (Kd.R_typed HO465.out) (by decide))) hkp (fun k_ hk_ hs_ => (hk_.2) hs_)) (fun k_ hk_ => ⟨hk_.1.1.1.1.1.1.1.1.1.1.1.2, hk_.1.1.1.1.1.1.1.1.1.1.2, hk_.1.1.1.1.1.1.1.1.1.2, hk_.1.1.1.1.1.1.1.1.2, hk_.1.1.1.1.1.1.1.2, hk_.1.1.1.1.1.1.2, hk_.1.1.1.1.1.2, hk_.1.1.1.1.2, hk_.1.1.1.2, hk_.1.1.2⟩)); replace HO444 := Aside0.mk (Kd.R_mono (ok' := fun k_ => some k_ ≠ (.slice Ao26 t430.length co26 : Value).ownBlock ∧ some k_ ≠ (.slice Ao33 t433.length co33 : Value).ownBlock ∧ some k_ ≠ (.slice Ao28 t436.length co28 : Value).ownBlock ∧ some k_ ≠ (.slice Ao29 t439.length co29 : Value).ownBlock ∧ some k_ ≠ (.slice Ao35 t445.length co35 : Value).ownBlock ∧ some k_ ≠ (.slice Ao36 t448.length co36 : Value).ownBlock ∧ some k_ ≠ (.slice Ao38 t451.length co38 : Value).ownBlock ∧ some k_ ≠ (.slice Ao42 t454.length co42 : Value).ownBlock ∧ some k_ ≠ (.slice Ao43 t457.length co43 : Value).ownBlock ∧ some k_ ≠ (.slice Ao50 t460.length co50 : Value).ownBlock) (Kd.R_keptB ((Kd.R_apart' HO444.out (Kd.R_typed HO465.out) (by decide))) hkp (fun k_ hk_ hs_ => (hk_.2) hs_)) (fun k_ hk_ => ⟨hk_.1.1.1.1.1.1.1.1.1.1.1.2, hk_.1.1.1.1.1.1.1.1.1.1.2, hk_.1.1.1.1.1.1.1.1.1.2, hk_.1.1.1.1.1.1.1.1.2, hk_.1.1.1.1.1.1.1.2, hk_.1.1.1.1.1.1.2, hk_.1.1.1.1.1.2, hk_.1.1.1.1.2, hk_.1.1.1.2, hk_.1.1.2⟩)); replace HO447 := Aside0.mk (Kd.R_mono (ok' := fun k_ => some k_ ≠ (.slice Ao26 t430.length co26 : Value).ownBlock ∧ some k_ ≠ (.slice Ao33 t433.length co33 : Value).ownBlock ∧ some k_ ≠ (.slice Ao28 t436.length co28 : Value).ownBlock ∧ some k_ ≠ (.slice Ao29 t439.length co29 : Value).ownBlock ∧ some k_ ≠ (.slice Ao40 t442.length co40 : Value).ownBlock ∧ some k_ ≠ (.slice Ao36 t448.length co36 : Value).ownBlock ∧ some k_ ≠ (.slice Ao38 t451.length co38 : Value).ownBlock ∧ some k_ ≠ (.slice Ao42 t454.length co42 : Value).ownBlock ∧ some k_ ≠ (.slice Ao43 t457.length co43 : Value).ownBlock ∧ some k_ ≠ (.slice Ao50 t460.length co50 : Value).ownBlock) (Kd.R_keptB ((Kd.R_apart' HO447.out (Kd.R_typed HO465.out) (by decide))) hkp (fun k_ hk_ hs_ => (hk_.2) hs_)) (fun k_ hk_ => ⟨hk_.1.1.1.1.1.1.1.1.1.1.1.2, hk_.1.1.1.1.1.1.1.1.1.1.2, hk_.1.1.1.1.1.1.1.1.1.2, hk_.1.1.1.1.1.1.1.1.2, hk_.1.1.1.1.1.1.1.2, hk_.1.1.1.1.1.1.2, hk_.1.1.1.1.1.2, hk_.1.1.1.1.2, hk_.1.1.1.2, hk_.1.1.2⟩)); replace HO450 := Aside0.mk (Kd.R_mono (ok' := fun k_ => some k_ ≠ (.slice Ao26 t430.length co26 : Value).ownBlock ∧ some k_ ≠ (.slice Ao33 t433.length co33 : Value).ownBlock ∧ some k_ ≠ (.slice Ao28 t436.length co28 : Value).ownBlock ∧ some k_ ≠ (.slice Ao29 t439.length co29 : Value).ownBlock ∧ some k_ ≠ (.slice Ao40 t442.length co40 : Value).ownBlock ∧ some k_ ≠ (.slice Ao35 t445.length co35 : Value).ownBlock ∧ some k_ ≠ (.slice Ao38 t451.length co38 : Value).ownBlock ∧ some k_ ≠ (.slice Ao42 t454.length co42 : Value).ownBlock ∧ some k_ ≠ (.slice Ao43 t457.length co43 : Value).ownBlock ∧ some k_ ≠ (.slice Ao50 t460.length co50 : Value).ownBlock) (Kd.R_keptB ((Kd.R_apart' HO450.out (Kd.R_typed HO465.out) (by decide))) hkp (fun k_ hk_ hs_ => (hk_.2) hs_)) (fun k_ hk_ => ⟨hk_.1.1.1.1.1.1.1.1.1.1.1.2, hk_.1.1.1.1.1.1.1.1.1.1.2, hk_.1.1.1.1.1.1.1.1.1.2, hk_.1.1.1.1.1.1.1.1.2, hk_.1.1.1.1.1.1.1.2, hk_.1.1.1.1.1.1.2, hk_.1.1.1.1.1.2, hk_.1.1.1.1.2, hk_.1.1.1.2, hk_.1.1.2⟩)); replace HO453 := Aside0.mk (Kd.R_mono (ok' := fun k_ => some k_ ≠ (.slice Ao26 t430.length co26 : Value).ownBlock ∧ some k_ ≠ (.slice Ao33 t433.length co33 : Value).ownBlock ∧ some k_ ≠ (.slice Ao28 t436.length co28 : Value).ownBlock ∧ some k_ ≠ (.slice Ao29 t439.length co29 : Value).ownBlock ∧ some k_ ≠ (.slice Ao40 t442.length co40 : Value).ownBlock ∧ some k_ ≠ (.slice Ao35 t445.length co35 : Value).ownBlock ∧ some k_ ≠ (.slice Ao36 t448.length co36 : Value).ownBlock ∧ some k_ ≠ (.slice Ao42 t454.length co42 : Value).ownBlock ∧ some k_ ≠ (.slice Ao43 t457.length co43 : Value).ownBlock ∧ some k_ ≠ (.slice Ao50 t460.length co50 : Value).ownBlock) (Kd.R_keptB ((Kd.R_apart' HO453.out (Kd.R_typed HO465.out) (by decide))) hkp (fun k_ hk_ hs_ => (hk_.2) hs_)) (fun k_ hk_ => ⟨hk_.1.1.1.1.1.1.1.1.1.1.1.2, hk_.1.1.1.1.1.1.1.1.1.1.2, hk_.1.1.1.1.1.1.1.1.1.2, hk_.1.1.1.1.1.1.1.1.2, hk_.1.1.1.1.1.1.1.2, hk_.1.1.1.1.1.1.2, hk_.1.1.1.1.1.2, hk_.1.1.1.1.2, hk_.1.1.1.2, hk_.1.1.2⟩)); replace HO456 := Aside0.mk (Kd.R_mono (ok' := fun k_ => some k_ ≠ (.slice Ao26 t430.length co26 : Value).ownBlock ∧ some k_ ≠ (.slice Ao33 t433.length co33 : Value).ownBlock ∧ some k_ ≠ (.slice Ao28 t436.length co28 : Value).ownBlock ∧ some k_ ≠ (.slice Ao29 t439.length co29 : Value).ownBlock ∧ some k_ ≠ (.slice Ao40 t442.length co40 : Value).ownBlock ∧ some k_ ≠ (.slice Ao35 t445.length co35 : Value).ownBlock ∧ some k_ ≠ (.slice Ao36 t448.length co36 : Value).ownBlock ∧ some k_ ≠ (.slice Ao38 t451.length co38 : Value).ownBlock ∧ some k_ ≠ (.slice Ao43 t457.length co43 : Value).ownBlock ∧ some k_ ≠ (.slice Ao50 t460.length co50 : Value).ownBlock) (Kd.R_keptB ((Kd.R_apart' HO456.out (Kd.R_typed HO465.out) (by decide))) hkp (fun k_ hk_ hs_ => (hk_.2) hs_)) (fun k_ hk_ => ⟨hk_.1.1.1.1.1.1.1.1.1.1.1.2, hk_.1.1.1.1.1.1.1.1.1.1.2, hk_.1.1.1.1.1.1.1.1.1.2, hk_.1.1.1.1.1.1.1.1.2, hk_.1.1.1.1.1.1.1.2, hk_.1.1.1.1.1.1.2, hk_.1.1.1.1.1.2, hk_.1.1.1.1.2, hk_.1.1.1.2, hk_.1.1.2⟩)); replace HO459 := Aside0.mk (Kd.R_mono (ok' := fun k_ => some k_ ≠ (.slice Ao26 t430.length co26 : Value).ownBlock ∧ some k_ ≠ (.slice Ao33 t433.length co33 : Value).ownBlock ∧ some k_ ≠ (.slice Ao28 t436.length co28 : Value).ownBlock ∧ some k_ ≠ (.slice Ao29 t439.length co29 : Value).ownBlock ∧ some k_ ≠ (.slice Ao40 t442.length co40 : Value).ownBlock ∧ some k_ ≠ (.slice Ao35 t445.length co35 : Value).ownBlock ∧ some k_ ≠ (.slice Ao36 t448.length co36 : Value).ownBlock ∧ some k_ ≠ (.slice Ao38 t451.length co38 : Value).ownBlock ∧ some k_ ≠ (.slice Ao42 t454.length co42 : Value).ownBlock ∧ some k_ ≠ (.slice Ao50 t460.length co50 : Value).ownBlock) (Kd.R_keptB ((Kd.R_apart' HO459.out (Kd.R_typed HO465.out) (by decide))) hkp (fun k_ hk_ hs_ => (hk_.2) hs_)) (fun k_ hk_ => ⟨hk_.1.1.1.1.1.1.1.1.1.1.1.2, hk_.1.1.1.1.1.1.1.1.1.1.2, hk_.1.1.1.1.1.1.1.1.1.2, hk_.1.1.1.1.1.1.1.1.2, hk_.1.1.1.1.1.1.1.2, hk_.1.1.1.1.1.1.2, hk_.1.1.1.1.1.2, hk_.1.1.1.1.2, hk_.1.1.1.2, hk_.1.1.2⟩)); replace HO462 := Aside0.mk (Kd.R_mono (ok' := fun k_ => some k_ ≠ (.slice Ao26 t430.length co26 : Value).ownBlock ∧ some k_ ≠ (.slice Ao33 t433.length co33 : Value).ownBlock ∧ some k_ ≠ (.slice Ao28 t436.length co28 : Value).ownBlock ∧ some k_ ≠ (.slice Ao29 t439.length co29 : Value).ownBlock ∧ some k_ ≠ (.slice Ao40 t442.length co40 : Value).ownBlock ∧ some k_ ≠ (.slice Ao35 t445.length co35 : Value).ownBlock ∧ some k_ ≠ (.slice Ao36 t448.length co36 : Value).ownBlock ∧ some k_ ≠ (.slice Ao38 t451.length co38 : Value).ownBlock ∧ some k_ ≠ (.slice Ao42 t454.length co42 : Value).ownBlock ∧ some k_ ≠ (.slice Ao43 t457.length co43 : Value).ownBlock) (Kd.R_keptB ((Kd.R_apart' HO462.out (Kd.R_typed HO465.out) (by decide))) hkp (fun k_ hk_ hs_ => (hk_.2) hs_)) (fun k_ hk_ => ⟨hk_.1.1.1.1.1.1.1.1.1.1.1.2, hk_.1.1.1.1.1.1.1.1.1.1.2, hk_.1.1.1.1.1.1.1.1.1.2, hk_.1.1.1.1.1.1.1.1.2, hk_.1.1.1.1.1.1.1.2, hk_.1.1.1.1.1.1.2, hk_.1.1.1.1.1.2, hk_.1.1.1.1.2, hk_.1.1.1.2, hk_.1.1.2⟩)); have HO468 := Aside0.mk (Kd.R_mono (ok' := fun k_ => True) ho0 (fun k_ hk_ => trivial)); replace HB := Aside0.mk (hb); clear HO465; (try clear hb); (try clear hkp); (try clear ho0)))
  go_ret
  exact ⟨_, by first | rfl | (simp [errW_none, errW_some] <;> rfl) | (simp [*, errW_none, errW_some] <;> rfl), by (with_reducible repeat (first | apply Kd.R_alloc | apply Kd.R_drewN | apply Kd.R_drew)); exact HO468.out, by repeat (first | (with_reducible first | exact HB.out | apply below_alloc | apply pw_below_drewN | apply below_drew1 | refine below_set ?_ GE427.out | refine below_set ?_ GE428.out) | exact HB.out)⟩
 ·replace c5 := Bool.eq_false_iff.mpr c5
  subst c5
  have H1 : (some ([] : List (S50))) = some r := by rw [if_neg (show ¬ (false = true) by decide)] at H; exact H
  clear H
  have H := H1
  clear H1
  obtain rfl := Option.some.inj H
  go_enter Try.func58, Try.ntmps58
  go_wp2_with (first | ((with_reducible refine gate_dst (N := 3) rfl ?_); refine box_event ?hg (N := 3) ?hd (cs := #[.slice A0_0 l0_0.length c0_0, .slice A0_1 l0_1.length c0_1, .slice A0_2 l0_2.length c0_2, .slice A0_3 l0_3.length c0_3, .slice A0_4 l0_4.length c0_4, .slice A0_5 l0_5.length c0_5, .slice A0_6 l0_6.length c0_6, .slice A0_7 l0_7.length c0_7, .bool a0_8, .bool a0_9]) (t := 43) ?hr ?_; (case hd => rfl); (case hg => rfl); (case hr => first | (go_simp; done) | (go_simp; rfl)); intro gb427 hg w52 hbox hb; have n0_ := Aside0.mk (below_step (bS HB.out) hb); have BK427 := Aside0.mk (hbox); have GW427 := Aside0.mk ((by rw [hg]; exact (below_size (bS HB.out)) : w.heap.size ≤ gb427)); have GE427 := Aside0.mk ((by rw [hg]; exact (below_size (bS HB.out)) : w.heap.size ≤ gb427)); clear HB; have HB := n0_; clear n0_; clear hb hbox hg) | ((with_reducible refine gate_dst (N := 4) rfl ?_); refine box_event ?hg (N := 4) ?hd (cs := #[.slice A1_0 l1_0.length c1_0, .slice A1_1 l1_1.length c1_1, .slice A1_2 l1_2.length c1_2, .slice A1_3 l1_3.length c1_3, .slice A1_4 l1_4.length c1_4, .slice A1_5 l1_5.length c1_5, .slice A1_6 l1_6.length c1_6, .slice A1_7 l1_7.length c1_7, .bool a1_8, .bool a1_9]) (t := 43) ?hr ?_; (case hd => rfl); (case hg => rfl); (case hr => first | (go_simp; done) | (go_simp; rfl)); intro gb428 hg w53 hbox hb; have n0_ := Aside0.mk (kS BK427.out hb); have n1_ := Aside0.mk (below_step (by repeat (first | (with_reducible first | exact HB.out | apply below_alloc | apply pw_below_drewN | apply below_drew1 | refine below_set ?_ GE427.out) | exact HB.out)) hb); have BK428 := Aside0.mk (hbox); have GW428 := Aside0.mk ((by rw [hg]; exact (below_size (by repeat (first | (with_reducible first | exact HB.out | apply below_alloc | apply pw_below_drewN | apply below_drew1 | refine below_set ?_ GE427.out) | exact HB.out))) : w.heap.size ≤ gb428)); have GE428 := Aside0.mk ((by rw [hg]; exact (below_size (by repeat (first | (with_reducible first | exact HB.out | apply below_alloc | apply pw_below_drewN | apply below_drew1 | refine below_set ?_ GE427.out) | exact HB.out))) : w.heap.size ≤ gb428)); have NB427_428 := Aside0.mk ((by rw [hg]; exact Nat.ne_of_lt (blk_lt (g := gb427) (o := .cells #[.slice A0_0 l0_0.length c0_0, .slice A0_1 l0_1.length c0_1, .slice A0_2 l0_2.length c0_2, .slice A0_3 l0_3.length c0_3, .slice A0_4 l0_4.length c0_4, .slice A0_5 l0_5.length c0_5, .slice A0_6 l0_6.length c0_6, .slice A0_7 l0_7.length c0_7, .bool a0_8, .bool a0_9] 43 (0, 0)) (by (with_reducible repeat (first | refine blk_drewN ?_ _ | refine blk_drew ?_ | refine blk_alloc ?_ _)); exact BK427.out)) : gb427 ≠ gb428)); have NB428_427 := Aside0.mk ((by rw [hg]; exact Nat.ne_of_gt (blk_lt (g := gb427) (o := .cells #[.slice A0_0 l0_0.length c0_0, .slice A0_1 l0_1.length c0_1, .slice A0_2 l0_2.length c0_2, .slice A0_3 l0_3.length c0_3, .slice A0_4 l0_4.length c0_4, .slice A0_5 l0_5.length c0_5, .slice A0_6 l0_6.length c0_6, .slice A0_7 l0_7.length c0_7, .bool a0_8, .bool a0_9] 43 (0, 0)) (by (with_reducible repeat (first | refine blk_drewN ?_ _ | refine blk_drew ?_ | refine blk_alloc ?_ _)); exact BK427.out)) : gb428 ≠ gb427)); clear BK427; clear HB; have BK427 := n0_; have HB := n1_; clear n0_ n1_; clear hb hbox hg) | ((with_reducible refine gate_callee (f := 66) rfl ?_); refine goesL_ (some 13) rfl rfl Try.func66 (by kernel_rfl) rfl #[.int .i64 a2, .int .i64 0, .int .i64 12] rfl (by (try simp only [List.map_toArray, List.map_cons, List.map_nil]); first | done | rfl | (simp only [List.length_drop, List.length_take]; rfl)) ?_; (with_reducible refine (spec_l1In.calls a2 0 12 false _ A4.out).mono ?_); rintro e w' ⟨rfl, ⟨nd, rfl⟩⟩; refine ⟨_, rfl, ?_⟩))
  go_ret
  exact ⟨_, by first | rfl | (simp [errW_none, errW_some] <;> rfl) | (simp [*, errW_none, errW_some] <;> rfl), by first | exact Kd.R_nil _ _ _ _ _ | exact Kd.N_nil _ _ _ _ _ | exact Kd.V_nil _ _ _ _ _ | exact Kd.Q_nil _ _ _ _ _ | exact Kd.S_nil _ _ _ _ _, by repeat (first | (with_reducible first | exact HB.out | apply below_alloc | apply pw_below_drewN | apply below_drew1 | refine below_set ?_ GE427.out | refine below_set ?_ GE428.out) | exact HB.out)⟩

end Go.Proofs.Ytpdcgnfdffbolaa.PFnExactStrictly
