-- written by wip/tools/myprint.py out of the program's own print
import Derived.Test.YtpdcgnfdffbolaaPFnExactApartx0
import Derived.Test.YtpdcgnfdffbolaaPFnExactApartx3
import Derived.Test.YtpdcgnfdffbolaaPFnExactApartx5
import Derived.Test.YtpdcgnfdffbolaaPFnExactApartx6
namespace Go.Proofs.Ytpdcgnfdffbolaa.PFnExactApart
open Go.Proofs.Ytpdcgnfdffbolaa.Own (rS cS bS rB)
open Go.RowKit Go.Proofs.YtpdcgnfdffbolaaW.PrintWords Go.Proofs.YtpdcgnfdffbolaaW.PrintLast Go.Proofs.YtpdcgnfdffbolaaW.PrintMore
attribute [local go_sem] max2_int min2_int max_two min_two max_three min_three max_four min_four   -- for this text's walks alone
set_option linter.unusedVariables false
set_option linter.unusedSimpArgs false

/-! ### laws_FnExactApart: function 7 -/
def laws_FnExactApart.f (k : Nat) (l0_0 : List Int) (l0_1 : List Int) (l0_2 : List Int) (l0_3 : List Int) (l0_4 : List Int) (l0_5 : List Int) (l0_6 : List Int) (l0_7 : List Int) (a0_8 : Bool) (a0_9 : Bool) (l1_0 : List Int) (l1_1 : List Int) (l1_2 : List Int) (l1_3 : List Int) (l1_4 : List Int) (l1_5 : List Int) (l1_6 : List Int) (l1_7 : List Int) (a1_8 : Bool) (a1_9 : Bool) : Option (Bool) := (laws_szEffect.f l0_0 l0_1 l0_2 l0_3 l0_4 l0_5 l0_6 l0_7 a0_8 a0_9 1048576).bind fun t342 => (if t342 < 0 then (some true) else ((laws_szEffect.f l1_0 l1_1 l1_2 l1_3 l1_4 l1_5 l1_6 l1_7 a1_8 a1_9 t342).bind fun t343 => (if t343 < 0 then (some true) else ((laws_toEffect.f k l0_0 l0_1 l0_2 l0_3 l0_4 l0_5 l0_6 l0_7 a0_8 a0_9).bind fun bt344 => ((laws_toEffect.f k l1_0 l1_1 l1_2 l1_3 l1_4 l1_5 l1_6 l1_7 a1_8 a1_9).bind fun bt370 => ((spec_Apart.f k bt344.1 bt344.2.1 bt344.2.2.1 bt344.2.2.2.1 bt344.2.2.2.2.1 bt344.2.2.2.2.2.1 bt344.2.2.2.2.2.2.1 bt344.2.2.2.2.2.2.2.1 bt344.2.2.2.2.2.2.2.2.1 bt344.2.2.2.2.2.2.2.2.2 bt370.1 bt370.2.1 bt370.2.2.1 bt370.2.2.2.1 bt370.2.2.2.2.1 bt370.2.2.2.2.2.1 bt370.2.2.2.2.2.2.1 bt370.2.2.2.2.2.2.2.1 bt370.2.2.2.2.2.2.2.2.1 bt370.2.2.2.2.2.2.2.2.2).bind fun t396 => ((laws_toEffect.f k l0_0 l0_1 l0_2 l0_3 l0_4 l0_5 l0_6 l0_7 a0_8 a0_9).bind fun bt397 => ((laws_toEffect.f k l1_0 l1_1 l1_2 l1_3 l1_4 l1_5 l1_6 l1_7 a1_8 a1_9).bind fun bt424 => ((impl_Apart.f k bt397.1 bt397.2.1 bt397.2.2.1 bt397.2.2.2.1 bt397.2.2.2.2.1 bt397.2.2.2.2.2.1 bt397.2.2.2.2.2.2.1 bt397.2.2.2.2.2.2.2.1 bt397.2.2.2.2.2.2.2.2.1 bt397.2.2.2.2.2.2.2.2.2 bt424.1 bt424.2.1 bt424.2.2.1 bt424.2.2.2.1 bt424.2.2.2.2.1 bt424.2.2.2.2.2.1 bt424.2.2.2.2.2.2.1 bt424.2.2.2.2.2.2.2.1 bt424.2.2.2.2.2.2.2.2.1 bt424.2.2.2.2.2.2.2.2.2).bind fun t451 => (if (t451 != t396) = true then (none) else ((laws_toEffect.f k l0_0 l0_1 l0_2 l0_3 l0_4 l0_5 l0_6 l0_7 a0_8 a0_9).bind fun bt452 => ((laws_eqEffect.f k bt397.1 bt397.2.1 bt397.2.2.1 bt397.2.2.2.1 bt397.2.2.2.2.1 bt397.2.2.2.2.2.1 bt397.2.2.2.2.2.2.1 bt397.2.2.2.2.2.2.2.1 bt397.2.2.2.2.2.2.2.2.1 bt397.2.2.2.2.2.2.2.2.2 bt452.1 bt452.2.1 bt452.2.2.1 bt452.2.2.2.1 bt452.2.2.2.2.1 bt452.2.2.2.2.2.1 bt452.2.2.2.2.2.2.1 bt452.2.2.2.2.2.2.2.1 bt452.2.2.2.2.2.2.2.2.1 bt452.2.2.2.2.2.2.2.2.2).bind fun t478 => (if t478 = true then ((laws_toEffect.f k l1_0 l1_1 l1_2 l1_3 l1_4 l1_5 l1_6 l1_7 a1_8 a1_9).bind fun bt479 => ((laws_eqEffect.f k bt424.1 bt424.2.1 bt424.2.2.1 bt424.2.2.2.1 bt424.2.2.2.2.1 bt424.2.2.2.2.2.1 bt424.2.2.2.2.2.2.1 bt424.2.2.2.2.2.2.2.1 bt424.2.2.2.2.2.2.2.2.1 bt424.2.2.2.2.2.2.2.2.2 bt479.1 bt479.2.1 bt479.2.2.1 bt479.2.2.2.1 bt479.2.2.2.2.1 bt479.2.2.2.2.2.1 bt479.2.2.2.2.2.2.1 bt479.2.2.2.2.2.2.2.1 bt479.2.2.2.2.2.2.2.2.1 bt479.2.2.2.2.2.2.2.2.2).bind fun t505 => (if t505 = true then (some true) else (none)))) else (none))))))))))))))
theorem laws_FnExactApart.mono : ∀ a0 a1 a2 a3 a4 a5 a6 a7 a8 a9 a10 a11 a12 a13 a14 a15 a16 a17 a18 a19 k, LeO (laws_FnExactApart.f k a0 a1 a2 a3 a4 a5 a6 a7 a8 a9 a10 a11 a12 a13 a14 a15 a16 a17 a18 a19) (laws_FnExactApart.f (k + 1) a0 a1 a2 a3 a4 a5 a6 a7 a8 a9 a10 a11 a12 a13 a14 a15 a16 a17 a18 a19) := by
  intro a0 a1 a2 a3 a4 a5 a6 a7 a8 a9 a10 a11 a12 a13 a14 a15 a16 a17 a18 a19 k
  unfold laws_FnExactApart.f
  repeat' first
      | (with_reducible exact impl_Apart.mono _ _ _ _ _ _ _ _ _ _ _ _ _ _ _ _ _ _ _ _ _)
      | (with_reducible exact laws_eqEffect.mono _ _ _ _ _ _ _ _ _ _ _ _ _ _ _ _ _ _ _ _ _)
      | (with_reducible exact laws_toEffect.mono _ _ _ _ _ _ _ _ _ _ _)
      | (with_reducible exact spec_Apart.mono _ _ _ _ _ _ _ _ _ _ _ _ _ _ _ _ _ _ _ _ _)
      | (with_reducible exact LeO.refl _)
      | (with_reducible exact LeO.none _)
      | (with_reducible refine LeO.ite ?_ ?_)
      | (with_reducible refine LeO.bind ?_ (fun _ => ?_))
      | exact impl_Apart.mono _ _ _ _ _ _ _ _ _ _ _ _ _ _ _ _ _ _ _ _ _
      | exact laws_eqEffect.mono _ _ _ _ _ _ _ _ _ _ _ _ _ _ _ _ _ _ _ _ _
      | exact laws_toEffect.mono _ _ _ _ _ _ _ _ _ _ _
      | exact spec_Apart.mono _ _ _ _ _ _ _ _ _ _ _ _ _ _ _ _ _ _ _ _ _
      | exact LeO.none _
      | refine LeO.ite ?_ ?_
      | refine LeO.bind ?_ (fun _ => ?_)
set_option maxHeartbeats 8000000 in
set_option maxRecDepth 100000 in
theorem laws_FnExactApart.calls (k : Nat) (A0_0 : Option Addr) (c0_0 : Nat) (l0_0 : List Int) (A0_1 : Option Addr) (c0_1 : Nat) (l0_1 : List Int) (A0_2 : Option Addr) (c0_2 : Nat) (l0_2 : List Int) (A0_3 : Option Addr) (c0_3 : Nat) (l0_3 : List Int) (A0_4 : Option Addr) (c0_4 : Nat) (l0_4 : List Int) (A0_5 : Option Addr) (c0_5 : Nat) (l0_5 : List Int) (A0_6 : Option Addr) (c0_6 : Nat) (l0_6 : List Int) (A0_7 : Option Addr) (c0_7 : Nat) (l0_7 : List Int) (a0_8 : Bool) (a0_9 : Bool) (A1_0 : Option Addr) (c1_0 : Nat) (l1_0 : List Int) (A1_1 : Option Addr) (c1_1 : Nat) (l1_1 : List Int) (A1_2 : Option Addr) (c1_2 : Nat) (l1_2 : List Int) (A1_3 : Option Addr) (c1_3 : Nat) (l1_3 : List Int) (A1_4 : Option Addr) (c1_4 : Nat) (l1_4 : List Int) (A1_5 : Option Addr) (c1_5 : Nat) (l1_5 : List Int) (A1_6 : Option Addr) (c1_6 : Nat) (l1_6 : List Int) (A1_7 : Option Addr) (c1_7 : Nat) (l1_7 : List Int) (a1_8 : Bool) (a1_9 : Bool) (r : Bool) (w : World) (hr0_0 : Kd.C (Kd.int .i64) w A0_0 l0_0.length l0_0) (hc0_0 : l0_0.length ≤ c0_0) (hr0_1 : Kd.C (Kd.int .i64) w A0_1 l0_1.length l0_1) (hc0_1 : l0_1.length ≤ c0_1) (hr0_2 : Kd.C (Kd.int .i64) w A0_2 l0_2.length l0_2) (hc0_2 : l0_2.length ≤ c0_2) (hr0_3 : Kd.C (Kd.int .i64) w A0_3 l0_3.length l0_3) (hc0_3 : l0_3.length ≤ c0_3) (hr0_4 : Kd.C (Kd.int .i64) w A0_4 l0_4.length l0_4) (hc0_4 : l0_4.length ≤ c0_4) (hr0_5 : Kd.C (Kd.int .i64) w A0_5 l0_5.length l0_5) (hc0_5 : l0_5.length ≤ c0_5) (hr0_6 : Kd.C (Kd.int .i64) w A0_6 l0_6.length l0_6) (hc0_6 : l0_6.length ≤ c0_6) (hr0_7 : Kd.C (Kd.int .i64) w A0_7 l0_7.length l0_7) (hc0_7 : l0_7.length ≤ c0_7) (hr1_0 : Kd.C (Kd.int .i64) w A1_0 l1_0.length l1_0) (hc1_0 : l1_0.length ≤ c1_0) (hr1_1 : Kd.C (Kd.int .i64) w A1_1 l1_1.length l1_1) (hc1_1 : l1_1.length ≤ c1_1) (hr1_2 : Kd.C (Kd.int .i64) w A1_2 l1_2.length l1_2) (hc1_2 : l1_2.length ≤ c1_2) (hr1_3 : Kd.C (Kd.int .i64) w A1_3 l1_3.length l1_3) (hc1_3 : l1_3.length ≤ c1_3) (hr1_4 : Kd.C (Kd.int .i64) w A1_4 l1_4.length l1_4) (hc1_4 : l1_4.length ≤ c1_4) (hr1_5 : Kd.C (Kd.int .i64) w A1_5 l1_5.length l1_5) (hc1_5 : l1_5.length ≤ c1_5) (hr1_6 : Kd.C (Kd.int .i64) w A1_6 l1_6.length l1_6) (hc1_6 : l1_6.length ≤ c1_6) (hr1_7 : Kd.C (Kd.int .i64) w A1_7 l1_7.length l1_7) (hc1_7 : l1_7.length ≤ c1_7) (h : laws_FnExactApart.f k l0_0 l0_1 l0_2 l0_3 l0_4 l0_5 l0_6 l0_7 a0_8 a0_9 l1_0 l1_1 l1_2 l1_3 l1_4 l1_5 l1_6 l1_7 a1_8 a1_9 = some r) :
    Calls Try.prog 7 #[.agg #[.slice A0_0 l0_0.length c0_0, .slice A0_1 l0_1.length c0_1, .slice A0_2 l0_2.length c0_2, .slice A0_3 l0_3.length c0_3, .slice A0_4 l0_4.length c0_4, .slice A0_5 l0_5.length c0_5, .slice A0_6 l0_6.length c0_6, .slice A0_7 l0_7.length c0_7, .bool a0_8, .bool a0_9], .agg #[.slice A1_0 l1_0.length c1_0, .slice A1_1 l1_1.length c1_1, .slice A1_2 l1_2.length c1_2, .slice A1_3 l1_3.length c1_3, .slice A1_4 l1_4.length c1_4, .slice A1_5 l1_5.length c1_5, .slice A1_6 l1_6.length c1_6, .slice A1_7 l1_7.length c1_7, .bool a1_8, .bool a1_9]] w fun e w' => e = .returned (.bool r) ∧ Below w.heap.size w w' := by
  have hu63 := Try.underlying63
  have hu43 := Try.underlying43
  have HR0_0 := Aside0.mk hr0_0
  have HC0_0 := Aside0.mk hc0_0
  clear hr0_0 hc0_0
  have HR0_1 := Aside0.mk hr0_1
  have HC0_1 := Aside0.mk hc0_1
  clear hr0_1 hc0_1
  have HR0_2 := Aside0.mk hr0_2
  have HC0_2 := Aside0.mk hc0_2
  clear hr0_2 hc0_2
  have HR0_3 := Aside0.mk hr0_3
  have HC0_3 := Aside0.mk hc0_3
  clear hr0_3 hc0_3
  have HR0_4 := Aside0.mk hr0_4
  have HC0_4 := Aside0.mk hc0_4
  clear hr0_4 hc0_4
  have HR0_5 := Aside0.mk hr0_5
  have HC0_5 := Aside0.mk hc0_5
  clear hr0_5 hc0_5
  have HR0_6 := Aside0.mk hr0_6
  have HC0_6 := Aside0.mk hc0_6
  clear hr0_6 hc0_6
  have HR0_7 := Aside0.mk hr0_7
  have HC0_7 := Aside0.mk hc0_7
  clear hr0_7 hc0_7
  have HR1_0 := Aside0.mk hr1_0
  have HC1_0 := Aside0.mk hc1_0
  clear hr1_0 hc1_0
  have HR1_1 := Aside0.mk hr1_1
  have HC1_1 := Aside0.mk hc1_1
  clear hr1_1 hc1_1
  have HR1_2 := Aside0.mk hr1_2
  have HC1_2 := Aside0.mk hc1_2
  clear hr1_2 hc1_2
  have HR1_3 := Aside0.mk hr1_3
  have HC1_3 := Aside0.mk hc1_3
  clear hr1_3 hc1_3
  have HR1_4 := Aside0.mk hr1_4
  have HC1_4 := Aside0.mk hc1_4
  clear hr1_4 hc1_4
  have HR1_5 := Aside0.mk hr1_5
  have HC1_5 := Aside0.mk hc1_5
  clear hr1_5 hc1_5
  have HR1_6 := Aside0.mk hr1_6
  have HC1_6 := Aside0.mk hc1_6
  clear hr1_6 hc1_6
  have HR1_7 := Aside0.mk hr1_7
  have HC1_7 := Aside0.mk hc1_7
  clear hr1_7 hc1_7
  have HB := Aside0.mk (Below.refl w.heap.size w)
  have H : ((laws_szEffect.f l0_0 l0_1 l0_2 l0_3 l0_4 l0_5 l0_6 l0_7 a0_8 a0_9 1048576).bind fun t342 => (if t342 < 0 then (some true) else ((laws_szEffect.f l1_0 l1_1 l1_2 l1_3 l1_4 l1_5 l1_6 l1_7 a1_8 a1_9 t342).bind fun t343 => (if t343 < 0 then (some true) else ((laws_toEffect.f k l0_0 l0_1 l0_2 l0_3 l0_4 l0_5 l0_6 l0_7 a0_8 a0_9).bind fun bt344 => ((laws_toEffect.f k l1_0 l1_1 l1_2 l1_3 l1_4 l1_5 l1_6 l1_7 a1_8 a1_9).bind fun bt370 => ((spec_Apart.f k bt344.1 bt344.2.1 bt344.2.2.1 bt344.2.2.2.1 bt344.2.2.2.2.1 bt344.2.2.2.2.2.1 bt344.2.2.2.2.2.2.1 bt344.2.2.2.2.2.2.2.1 bt344.2.2.2.2.2.2.2.2.1 bt344.2.2.2.2.2.2.2.2.2 bt370.1 bt370.2.1 bt370.2.2.1 bt370.2.2.2.1 bt370.2.2.2.2.1 bt370.2.2.2.2.2.1 bt370.2.2.2.2.2.2.1 bt370.2.2.2.2.2.2.2.1 bt370.2.2.2.2.2.2.2.2.1 bt370.2.2.2.2.2.2.2.2.2).bind fun t396 => ((laws_toEffect.f k l0_0 l0_1 l0_2 l0_3 l0_4 l0_5 l0_6 l0_7 a0_8 a0_9).bind fun bt397 => ((laws_toEffect.f k l1_0 l1_1 l1_2 l1_3 l1_4 l1_5 l1_6 l1_7 a1_8 a1_9).bind fun bt424 => ((impl_Apart.f k bt397.1 bt397.2.1 bt397.2.2.1 bt397.2.2.2.1 bt397.2.2.2.2.1 bt397.2.2.2.2.2.1 bt397.2.2.2.2.2.2.1 bt397.2.2.2.2.2.2.2.1 bt397.2.2.2.2.2.2.2.2.1 bt397.2.2.2.2.2.2.2.2.2 bt424.1 bt424.2.1 bt424.2.2.1 bt424.2.2.2.1 bt424.2.2.2.2.1 bt424.2.2.2.2.2.1 bt424.2.2.2.2.2.2.1 bt424.2.2.2.2.2.2.2.1 bt424.2.2.2.2.2.2.2.2.1 bt424.2.2.2.2.2.2.2.2.2).bind fun t451 => (if (t451 != t396) = true then (none) else ((laws_toEffect.f k l0_0 l0_1 l0_2 l0_3 l0_4 l0_5 l0_6 l0_7 a0_8 a0_9).bind fun bt452 => ((laws_eqEffect.f k bt397.1 bt397.2.1 bt397.2.2.1 bt397.2.2.2.1 bt397.2.2.2.2.1 bt397.2.2.2.2.2.1 bt397.2.2.2.2.2.2.1 bt397.2.2.2.2.2.2.2.1 bt397.2.2.2.2.2.2.2.2.1 bt397.2.2.2.2.2.2.2.2.2 bt452.1 bt452.2.1 bt452.2.2.1 bt452.2.2.2.1 bt452.2.2.2.2.1 bt452.2.2.2.2.2.1 bt452.2.2.2.2.2.2.1 bt452.2.2.2.2.2.2.2.1 bt452.2.2.2.2.2.2.2.2.1 bt452.2.2.2.2.2.2.2.2.2).bind fun t478 => (if t478 = true then ((laws_toEffect.f k l1_0 l1_1 l1_2 l1_3 l1_4 l1_5 l1_6 l1_7 a1_8 a1_9).bind fun bt479 => ((laws_eqEffect.f k bt424.1 bt424.2.1 bt424.2.2.1 bt424.2.2.2.1 bt424.2.2.2.2.1 bt424.2.2.2.2.2.1 bt424.2.2.2.2.2.2.1 bt424.2.2.2.2.2.2.2.1 bt424.2.2.2.2.2.2.2.2.1 bt424.2.2.2.2.2.2.2.2.2 bt479.1 bt479.2.1 bt479.2.2.1 bt479.2.2.2.1 bt479.2.2.2.2.1 bt479.2.2.2.2.2.1 bt479.2.2.2.2.2.2.1 bt479.2.2.2.2.2.2.2.1 bt479.2.2.2.2.2.2.2.2.1 bt479.2.2.2.2.2.2.2.2.2).bind fun t505 => (if t505 = true then (some true) else (none)))) else (none))))))))))))))) = some r := h
  clear h
  replace H := Option.bind_eq_some_iff.mp H
  obtain ⟨t342, A30, H⟩ := H
  (try dsimp only at H)
  have A3 := Aside0.mk A30
  clear A30
  by_cases c4 : t342 < 0
  · rw [if_pos c4] at H
    have c4b0 : decide (t342 < 0) = true := decide_eq_true c4
    clear c4
    obtain rfl := Option.some.inj H
    go_enter Try.func7, Try.ntmps7
    go_wp2_with (first | ((with_reducible refine gate_dst (N := 2) rfl ?_); refine box_event ?hg (N := 2) ?hd (cs := #[.slice A0_0 l0_0.length c0_0, .slice A0_1 l0_1.length c0_1, .slice A0_2 l0_2.length c0_2, .slice A0_3 l0_3.length c0_3, .slice A0_4 l0_4.length c0_4, .slice A0_5 l0_5.length c0_5, .slice A0_6 l0_6.length c0_6, .slice A0_7 l0_7.length c0_7, .bool a0_8, .bool a0_9]) (t := 63) ?hr ?_; (case hd => rfl); (case hg => rfl); (case hr => first | (go_simp; done) | (go_simp; rfl)); intro gb340 hg w5 hbox hb; have n0_ := Aside0.mk (below_step (bS HB.out) hb); have n1_ := Aside0.mk (hbox); have n2_ := Aside0.mk ((by rw [hg]; exact (below_size (bS HB.out)) : w.heap.size ≤ gb340)); have n3_ := Aside0.mk ((by rw [hg]; exact (below_size (bS HB.out)) : w.heap.size ≤ gb340)); clear HB; have HB := n0_; have BK340 := n1_; have GW340 := n2_; have GE340 := n3_; clear n0_ n1_ n2_ n3_; clear hb hbox hg) | ((with_reducible refine gate_dst (N := 3) rfl ?_); refine box_event ?hg (N := 3) ?hd (cs := #[.slice A1_0 l1_0.length c1_0, .slice A1_1 l1_1.length c1_1, .slice A1_2 l1_2.length c1_2, .slice A1_3 l1_3.length c1_3, .slice A1_4 l1_4.length c1_4, .slice A1_5 l1_5.length c1_5, .slice A1_6 l1_6.length c1_6, .slice A1_7 l1_7.length c1_7, .bool a1_8, .bool a1_9]) (t := 63) ?hr ?_; (case hd => rfl); (case hg => rfl); (case hr => first | (go_simp; done) | (go_simp; rfl)); intro gb341 hg w6 hbox hb; have n0_ := Aside0.mk (blk_below (g := gb340) (o := .cells #[.slice A0_0 l0_0.length c0_0, .slice A0_1 l0_1.length c0_1, .slice A0_2 l0_2.length c0_2, .slice A0_3 l0_3.length c0_3, .slice A0_4 l0_4.length c0_4, .slice A0_5 l0_5.length c0_5, .slice A0_6 l0_6.length c0_6, .slice A0_7 l0_7.length c0_7, .bool a0_8, .bool a0_9] 63 (0, 0)) (by (with_reducible repeat (first | refine blk_drewN ?_ _ | refine blk_drew ?_ | refine blk_alloc ?_ _)); exact BK340.out) hb); have n1_ := Aside0.mk (below_step (by repeat (first | (with_reducible first | exact HB.out | apply below_alloc | apply pw_below_drewN | apply below_drew1 | refine below_set ?_ GE340.out) | exact HB.out)) hb); have n2_ := Aside0.mk (hbox); have n3_ := Aside0.mk ((by rw [hg]; exact (below_size (by repeat (first | (with_reducible first | exact HB.out | apply below_alloc | apply pw_below_drewN | apply below_drew1 | refine below_set ?_ GE340.out) | exact HB.out))) : w.heap.size ≤ gb341)); have n4_ := Aside0.mk ((by rw [hg]; exact (below_size (by repeat (first | (with_reducible first | exact HB.out | apply below_alloc | apply pw_below_drewN | apply below_drew1 | refine below_set ?_ GE340.out) | exact HB.out))) : w.heap.size ≤ gb341)); have n5_ := Aside0.mk ((by rw [hg]; exact Nat.ne_of_lt (blk_lt (g := gb340) (o := .cells #[.slice A0_0 l0_0.length c0_0, .slice A0_1 l0_1.length c0_1, .slice A0_2 l0_2.length c0_2, .slice A0_3 l0_3.length c0_3, .slice A0_4 l0_4.length c0_4, .slice A0_5 l0_5.length c0_5, .slice A0_6 l0_6.length c0_6, .slice A0_7 l0_7.length c0_7, .bool a0_8, .bool a0_9] 63 (0, 0)) (by (with_reducible repeat (first | refine blk_drewN ?_ _ | refine blk_drew ?_ | refine blk_alloc ?_ _)); exact BK340.out)) : gb340 ≠ gb341)); have n6_ := Aside0.mk ((by rw [hg]; exact Nat.ne_of_gt (blk_lt (g := gb340) (o := .cells #[.slice A0_0 l0_0.length c0_0, .slice A0_1 l0_1.length c0_1, .slice A0_2 l0_2.length c0_2, .slice A0_3 l0_3.length c0_3, .slice A0_4 l0_4.length c0_4, .slice A0_5 l0_5.length c0_5, .slice A0_6 l0_6.length c0_6, .slice A0_7 l0_7.length c0_7, .bool a0_8, .bool a0_9] 63 (0, 0)) (by (with_reducible repeat (first | refine blk_drewN ?_ _ | refine blk_drew ?_ | refine blk_alloc ?_ _)); exact BK340.out)) : gb341 ≠ gb340)); clear BK340; clear HB; have BK340 := n0_; have HB := n1_; have BK341 := n2_; have GW341 := n3_; have GE341 := n4_; have NB340_341 := n5_; have NB341_340 := n6_; clear n0_ n1_ n2_ n3_ n4_ n5_ n6_; clear hb hbox hg; have hnb7 := NB340_341.out; have hnc7 := NB341_340.out; have hcz8_0 : w6.cell? ⟨gb340, 0, none⟩ = some (.slice A0_0 l0_0.length c0_0) := (blk_cell BK340.out 0).trans rfl; have hcz8_1 : w6.cell? ⟨gb340, 1, none⟩ = some (.slice A0_1 l0_1.length c0_1) := (blk_cell BK340.out 1).trans rfl; have hcz8_2 : w6.cell? ⟨gb340, 2, none⟩ = some (.slice A0_2 l0_2.length c0_2) := (blk_cell BK340.out 2).trans rfl; have hcz8_3 : w6.cell? ⟨gb340, 3, none⟩ = some (.slice A0_3 l0_3.length c0_3) := (blk_cell BK340.out 3).trans rfl; have hcz8_4 : w6.cell? ⟨gb340, 4, none⟩ = some (.slice A0_4 l0_4.length c0_4) := (blk_cell BK340.out 4).trans rfl; have hcz8_5 : w6.cell? ⟨gb340, 5, none⟩ = some (.slice A0_5 l0_5.length c0_5) := (blk_cell BK340.out 5).trans rfl; have hcz8_6 : w6.cell? ⟨gb340, 6, none⟩ = some (.slice A0_6 l0_6.length c0_6) := (blk_cell BK340.out 6).trans rfl; have hcz8_7 : w6.cell? ⟨gb340, 7, none⟩ = some (.slice A0_7 l0_7.length c0_7) := (blk_cell BK340.out 7).trans rfl; have hcz8_8 : w6.cell? ⟨gb340, 8, none⟩ = some (.bool a0_8) := (blk_cell BK340.out 8).trans rfl; have hcz8_9 : w6.cell? ⟨gb340, 9, none⟩ = some (.bool a0_9) := (blk_cell BK340.out 9).trans rfl; have hfz8_0 := blk_frozen BK340.out 0; have hfz8_1 := blk_frozen BK340.out 1; have hfz8_2 := blk_frozen BK340.out 2; have hfz8_3 := blk_frozen BK340.out 3; have hfz8_4 := blk_frozen BK340.out 4; have hfz8_5 := blk_frozen BK340.out 5; have hfz8_6 := blk_frozen BK340.out 6; have hfz8_7 := blk_frozen BK340.out 7; have hfz8_8 := blk_frozen BK340.out 8; have hfz8_9 := blk_frozen BK340.out 9) | ((with_reducible refine gate_callee (f := 37) rfl ?_); refine goesL_ (some 12) rfl rfl Try.func37 (by kernel_rfl) rfl #[.agg #[.slice A0_0 l0_0.length c0_0, .slice A0_1 l0_1.length c0_1, .slice A0_2 l0_2.length c0_2, .slice A0_3 l0_3.length c0_3, .slice A0_4 l0_4.length c0_4, .slice A0_5 l0_5.length c0_5, .slice A0_6 l0_6.length c0_6, .slice A0_7 l0_7.length c0_7, .bool a0_8, .bool a0_9], .int .i64 1048576] rfl (by (try simp only [List.map_toArray, List.map_cons, List.map_nil]); first | done | rfl | (simp only [List.length_drop, List.length_take]; rfl)) ?_; (with_reducible refine (laws_szEffect.calls _ _ l0_0 _ _ l0_1 _ _ l0_2 _ _ l0_3 _ _ l0_4 _ _ l0_5 _ _ l0_6 _ _ l0_7 a0_8 a0_9 1048576 t342 _ ?side1 ?side2 ?side3 ?side4 ?side5 ?side6 ?side7 ?side8 ?side9 ?side10 ?side11 ?side12 ?side13 ?side14 ?side15 ?side16 A3.out).mono ?_); (case side1 => exact cS (Kd.C_below HR0_0.out HB.out)); (case side2 => exact HC0_0.out); (case side3 => exact cS (Kd.C_below HR0_1.out HB.out)); (case side4 => exact HC0_1.out); (case side5 => exact cS (Kd.C_below HR0_2.out HB.out)); (case side6 => exact HC0_2.out); (case side7 => exact cS (Kd.C_below HR0_3.out HB.out)); (case side8 => exact HC0_3.out); (case side9 => exact cS (Kd.C_below HR0_4.out HB.out)); (case side10 => exact HC0_4.out); (case side11 => exact cS (Kd.C_below HR0_5.out HB.out)); (case side12 => exact HC0_5.out); (case side13 => exact cS (Kd.C_below HR0_6.out HB.out)); (case side14 => exact HC0_6.out); (case side15 => exact cS (Kd.C_below HR0_7.out HB.out)); (case side16 => exact HC0_7.out); rintro e w9 ⟨rfl, hb⟩; refine ⟨_, rfl, ?_⟩; have n0_ := Aside0.mk (blk_below (g := gb340) (o := .cells #[.slice A0_0 l0_0.length c0_0, .slice A0_1 l0_1.length c0_1, .slice A0_2 l0_2.length c0_2, .slice A0_3 l0_3.length c0_3, .slice A0_4 l0_4.length c0_4, .slice A0_5 l0_5.length c0_5, .slice A0_6 l0_6.length c0_6, .slice A0_7 l0_7.length c0_7, .bool a0_8, .bool a0_9] 63 (0, 0)) (by (with_reducible repeat (first | refine blk_drewN ?_ _ | refine blk_drew ?_ | refine blk_alloc ?_ _)); exact BK340.out) hb); have n1_ := Aside0.mk (blk_below (g := gb341) (o := .cells #[.slice A1_0 l1_0.length c1_0, .slice A1_1 l1_1.length c1_1, .slice A1_2 l1_2.length c1_2, .slice A1_3 l1_3.length c1_3, .slice A1_4 l1_4.length c1_4, .slice A1_5 l1_5.length c1_5, .slice A1_6 l1_6.length c1_6, .slice A1_7 l1_7.length c1_7, .bool a1_8, .bool a1_9] 63 (0, 0)) (by (with_reducible repeat (first | refine blk_drewN ?_ _ | refine blk_drew ?_ | refine blk_alloc ?_ _)); exact BK341.out) hb); have n2_ := Aside0.mk (below_step (by repeat (first | (with_reducible first | exact HB.out | apply below_alloc | apply pw_below_drewN | apply below_drew1 | refine below_set ?_ GE340.out | refine below_set ?_ GE341.out) | exact HB.out)) hb); clear BK340; clear BK341; clear HB; have BK340 := n0_; have BK341 := n1_; have HB := n2_; clear n0_ n1_ n2_; (try clear hb); (try clear hb2); (try clear hk); (try clear hi)))
    go_ret
    exact ⟨by first | rfl | (simp [errW_none, errW_some] <;> rfl) | (simp [*, errW_none, errW_some] <;> rfl), by repeat (first | (with_reducible first | exact HB.out | apply below_alloc | apply pw_below_drewN | apply below_drew1 | refine below_set ?_ GE340.out | refine below_set ?_ GE341.out) | exact HB.out)⟩
  · rw [if_neg c4] at H
    have c4b0 : decide (t342 < 0) = false := decide_eq_false c4
    clear c4
    replace H := Option.bind_eq_some_iff.mp H
    obtain ⟨t343, A100, H⟩ := H
    (try dsimp only at H)
    have A10 := Aside0.mk A100
    clear A100
    by_cases c11 : t343 < 0
    · rw [if_pos c11] at H
      have c11b0 : decide (t343 < 0) = true := decide_eq_true c11
      clear c11
      obtain rfl := Option.some.inj H
      go_enter Try.func7, Try.ntmps7
      go_wp2_with (first | ((with_reducible refine gate_dst (N := 2) rfl ?_); refine box_event ?hg (N := 2) ?hd (cs := #[.slice A0_0 l0_0.length c0_0, .slice A0_1 l0_1.length c0_1, .slice A0_2 l0_2.length c0_2, .slice A0_3 l0_3.length c0_3, .slice A0_4 l0_4.length c0_4, .slice A0_5 l0_5.length c0_5, .slice A0_6 l0_6.length c0_6, .slice A0_7 l0_7.length c0_7, .bool a0_8, .bool a0_9]) (t := 63) ?hr ?_; (case hd => rfl); (case hg => rfl); (case hr => first | (go_simp; done) | (go_simp; rfl)); intro gb340 hg w12 hbox hb; have n0_ := Aside0.mk (below_step (bS HB.out) hb); have n1_ := Aside0.mk (hbox); have n2_ := Aside0.mk ((by rw [hg]; exact (below_size (bS HB.out)) : w.heap.size ≤ gb340)); have n3_ := Aside0.mk ((by rw [hg]; exact (below_size (bS HB.out)) : w.heap.size ≤ gb340)); clear HB; have HB := n0_; have BK340 := n1_; have GW340 := n2_; have GE340 := n3_; clear n0_ n1_ n2_ n3_; clear hb hbox hg) | ((with_reducible refine gate_dst (N := 3) rfl ?_); refine box_event ?hg (N := 3) ?hd (cs := #[.slice A1_0 l1_0.length c1_0, .slice A1_1 l1_1.length c1_1, .slice A1_2 l1_2.length c1_2, .slice A1_3 l1_3.length c1_3, .slice A1_4 l1_4.length c1_4, .slice A1_5 l1_5.length c1_5, .slice A1_6 l1_6.length c1_6, .slice A1_7 l1_7.length c1_7, .bool a1_8, .bool a1_9]) (t := 63) ?hr ?_; (case hd => rfl); (case hg => rfl); (case hr => first | (go_simp; done) | (go_simp; rfl)); intro gb341 hg w13 hbox hb; have n0_ := Aside0.mk (blk_below (g := gb340) (o := .cells #[.slice A0_0 l0_0.length c0_0, .slice A0_1 l0_1.length c0_1, .slice A0_2 l0_2.length c0_2, .slice A0_3 l0_3.length c0_3, .slice A0_4 l0_4.length c0_4, .slice A0_5 l0_5.length c0_5, .slice A0_6 l0_6.length c0_6, .slice A0_7 l0_7.length c0_7, .bool a0_8, .bool a0_9] 63 (0, 0)) (by (with_reducible repeat (first | refine blk_drewN ?_ _ | refine blk_drew ?_ | refine blk_alloc ?_ _)); exact BK340.out) hb); have n1_ := Aside0.mk (below_step (by repeat (first | (with_reducible first | exact HB.out | apply below_alloc | apply pw_below_drewN | apply below_drew1 | refine below_set ?_ GE340.out) | exact HB.out)) hb); have n2_ := Aside0.mk (hbox); have n3_ := Aside0.mk ((by rw [hg]; exact (below_size (by repeat (first | (with_reducible first | exact HB.out | apply below_alloc | apply pw_below_drewN | apply below_drew1 | refine below_set ?_ GE340.out) | exact HB.out))) : w.heap.size ≤ gb341)); have n4_ := Aside0.mk ((by rw [hg]; exact (below_size (by repeat (first | (with_reducible first | exact HB.out | apply below_alloc | apply pw_below_drewN | apply below_drew1 | refine below_set ?_ GE340.out) | exact HB.out))) : w.heap.size ≤ gb341)); have n5_ := Aside0.mk ((by rw [hg]; exact Nat.ne_of_lt (blk_lt (g := gb340) (o := .cells #[.slice A0_0 l0_0.length c0_0, .slice A0_1 l0_1.length c0_1, .slice A0_2 l0_2.length c0_2, .slice A0_3 l0_3.length c0_3, .slice A0_4 l0_4.length c0_4, .slice A0_5 l0_5.length c0_5, .slice A0_6 l0_6.length c0_6, .slice A0_7 l0_7.length c0_7, .bool a0_8, .bool a0_9] 63 (0, 0)) (by (with_reducible repeat (first | refine blk_drewN ?_ _ | refine blk_drew ?_ | refine blk_alloc ?_ _)); exact BK340.out)) : gb340 ≠ gb341)); have n6_ := Aside0.mk ((by rw [hg]; exact Nat.ne_of_gt (blk_lt (g := gb340) (o := .cells #[.slice A0_0 l0_0.length c0_0, .slice A0_1 l0_1.length c0_1, .slice A0_2 l0_2.length c0_2, .slice A0_3 l0_3.length c0_3, .slice A0_4 l0_4.length c0_4, .slice A0_5 l0_5.length c0_5, .slice A0_6 l0_6.length c0_6, .slice A0_7 l0_7.length c0_7, .bool a0_8, .bool a0_9] 63 (0, 0)) (by (with_reducible repeat (first | refine blk_drewN ?_ _ | refine blk_drew ?_ | refine blk_alloc ?_ _)); exact BK340.out)) : gb341 ≠ gb340)); clear BK340; clear HB; have BK340 := n0_; have HB := n1_; have BK341 := n2_; have GW341 := n3_; have GE341 := n4_; have NB340_341 := n5_; have NB341_340 := n6_; clear n0_ n1_ n2_ n3_ n4_ n5_ n6_; clear hb hbox hg; have hnb14 := NB340_341.out; have hnc14 := NB341_340.out; have hcz15_0 : w13.cell? ⟨gb340, 0, none⟩ = some (.slice A0_0 l0_0.length c0_0) := (blk_cell BK340.out 0).trans rfl; have hcz15_1 : w13.cell? ⟨gb340, 1, none⟩ = some (.slice A0_1 l0_1.length c0_1) := (blk_cell BK340.out 1).trans rfl; have hcz15_2 : w13.cell? ⟨gb340, 2, none⟩ = some (.slice A0_2 l0_2.length c0_2) := (blk_cell BK340.out 2).trans rfl; have hcz15_3 : w13.cell? ⟨gb340, 3, none⟩ = some (.slice A0_3 l0_3.length c0_3) := (blk_cell BK340.out 3).trans rfl; have hcz15_4 : w13.cell? ⟨gb340, 4, none⟩ = some (.slice A0_4 l0_4.length c0_4) := (blk_cell BK340.out 4).trans rfl; have hcz15_5 : w13.cell? ⟨gb340, 5, none⟩ = some (.slice A0_5 l0_5.length c0_5) := (blk_cell BK340.out 5).trans rfl; have hcz15_6 : w13.cell? ⟨gb340, 6, none⟩ = some (.slice A0_6 l0_6.length c0_6) := (blk_cell BK340.out 6).trans rfl; have hcz15_7 : w13.cell? ⟨gb340, 7, none⟩ = some (.slice A0_7 l0_7.length c0_7) := (blk_cell BK340.out 7).trans rfl; have hcz15_8 : w13.cell? ⟨gb340, 8, none⟩ = some (.bool a0_8) := (blk_cell BK340.out 8).trans rfl; have hcz15_9 : w13.cell? ⟨gb340, 9, none⟩ = some (.bool a0_9) := (blk_cell BK340.out 9).trans rfl; have hfz15_0 := blk_frozen BK340.out 0; have hfz15_1 := blk_frozen BK340.out 1; have hfz15_2 := blk_frozen BK340.out 2; have hfz15_3 := blk_frozen BK340.out 3; have hfz15_4 := blk_frozen BK340.out 4; have hfz15_5 := blk_frozen BK340.out 5; have hfz15_6 := blk_frozen BK340.out 6; have hfz15_7 := blk_frozen BK340.out 7; have hfz15_8 := blk_frozen BK340.out 8; have hfz15_9 := blk_frozen BK340.out 9) | ((with_reducible refine gate_callee (f := 37) rfl ?_); refine goesL_ (some 12) rfl rfl Try.func37 (by kernel_rfl) rfl #[.agg #[.slice A0_0 l0_0.length c0_0, .slice A0_1 l0_1.length c0_1, .slice A0_2 l0_2.length c0_2, .slice A0_3 l0_3.length c0_3, .slice A0_4 l0_4.length c0_4, .slice A0_5 l0_5.length c0_5, .slice A0_6 l0_6.length c0_6, .slice A0_7 l0_7.length c0_7, .bool a0_8, .bool a0_9], .int .i64 1048576] rfl (by (try simp only [List.map_toArray, List.map_cons, List.map_nil]); first | done | rfl | (simp only [List.length_drop, List.length_take]; rfl)) ?_; (with_reducible refine (laws_szEffect.calls _ _ l0_0 _ _ l0_1 _ _ l0_2 _ _ l0_3 _ _ l0_4 _ _ l0_5 _ _ l0_6 _ _ l0_7 a0_8 a0_9 1048576 t342 _ ?side1 ?side2 ?side3 ?side4 ?side5 ?side6 ?side7 ?side8 ?side9 ?side10 ?side11 ?side12 ?side13 ?side14 ?side15 ?side16 A3.out).mono ?_); (case side1 => exact cS (Kd.C_below HR0_0.out HB.out)); (case side2 => exact HC0_0.out); (case side3 => exact cS (Kd.C_below HR0_1.out HB.out)); (case side4 => exact HC0_1.out); (case side5 => exact cS (Kd.C_below HR0_2.out HB.out)); (case side6 => exact HC0_2.out); (case side7 => exact cS (Kd.C_below HR0_3.out HB.out)); (case side8 => exact HC0_3.out); (case side9 => exact cS (Kd.C_below HR0_4.out HB.out)); (case side10 => exact HC0_4.out); (case side11 => exact cS (Kd.C_below HR0_5.out HB.out)); (case side12 => exact HC0_5.out); (case side13 => exact cS (Kd.C_below HR0_6.out HB.out)); (case side14 => exact HC0_6.out); (case side15 => exact cS (Kd.C_below HR0_7.out HB.out)); (case side16 => exact HC0_7.out); rintro e w16 ⟨rfl, hb⟩; refine ⟨_, rfl, ?_⟩; have n0_ := Aside0.mk (blk_below (g := gb340) (o := .cells #[.slice A0_0 l0_0.length c0_0, .slice A0_1 l0_1.length c0_1, .slice A0_2 l0_2.length c0_2, .slice A0_3 l0_3.length c0_3, .slice A0_4 l0_4.length c0_4, .slice A0_5 l0_5.length c0_5, .slice A0_6 l0_6.length c0_6, .slice A0_7 l0_7.length c0_7, .bool a0_8, .bool a0_9] 63 (0, 0)) (by (with_reducible repeat (first | refine blk_drewN ?_ _ | refine blk_drew ?_ | refine blk_alloc ?_ _)); exact BK340.out) hb); have n1_ := Aside0.mk (blk_below (g := gb341) (o := .cells #[.slice A1_0 l1_0.length c1_0, .slice A1_1 l1_1.length c1_1, .slice A1_2 l1_2.length c1_2, .slice A1_3 l1_3.length c1_3, .slice A1_4 l1_4.length c1_4, .slice A1_5 l1_5.length c1_5, .slice A1_6 l1_6.length c1_6, .slice A1_7 l1_7.length c1_7, .bool a1_8, .bool a1_9] 63 (0, 0)) (by (with_reducible repeat (first | refine blk_drewN ?_ _ | refine blk_drew ?_ | refine blk_alloc ?_ _)); exact BK341.out) hb); have n2_ := Aside0.mk (below_step (by repeat (first | (with_reducible first | exact HB.out | apply below_alloc | apply pw_below_drewN | apply below_drew1 | refine below_set ?_ GE340.out | refine below_set ?_ GE341.out) | exact HB.out)) hb); clear BK340; clear BK341; clear HB; have BK340 := n0_; have BK341 := n1_; have HB := n2_; clear n0_ n1_ n2_; (try clear hb); (try clear hb2); (try clear hk); (try clear hi); have hcz17_0 : w16.cell? ⟨gb341, 0, none⟩ = some (.slice A1_0 l1_0.length c1_0) := (blk_cell BK341.out 0).trans rfl; have hcz17_1 : w16.cell? ⟨gb341, 1, none⟩ = some (.slice A1_1 l1_1.length c1_1) := (blk_cell BK341.out 1).trans rfl; have hcz17_2 : w16.cell? ⟨gb341, 2, none⟩ = some (.slice A1_2 l1_2.length c1_2) := (blk_cell BK341.out 2).trans rfl; have hcz17_3 : w16.cell? ⟨gb341, 3, none⟩ = some (.slice A1_3 l1_3.length c1_3) := (blk_cell BK341.out 3).trans rfl; have hcz17_4 : w16.cell? ⟨gb341, 4, none⟩ = some (.slice A1_4 l1_4.length c1_4) := (blk_cell BK341.out 4).trans rfl; have hcz17_5 : w16.cell? ⟨gb341, 5, none⟩ = some (.slice A1_5 l1_5.length c1_5) := (blk_cell BK341.out 5).trans rfl; have hcz17_6 : w16.cell? ⟨gb341, 6, none⟩ = some (.slice A1_6 l1_6.length c1_6) := (blk_cell BK341.out 6).trans rfl; have hcz17_7 : w16.cell? ⟨gb341, 7, none⟩ = some (.slice A1_7 l1_7.length c1_7) := (blk_cell BK341.out 7).trans rfl; have hcz17_8 : w16.cell? ⟨gb341, 8, none⟩ = some (.bool a1_8) := (blk_cell BK341.out 8).trans rfl; have hcz17_9 : w16.cell? ⟨gb341, 9, none⟩ = some (.bool a1_9) := (blk_cell BK341.out 9).trans rfl; have hfz17_0 := blk_frozen BK341.out 0; have hfz17_1 := blk_frozen BK341.out 1; have hfz17_2 := blk_frozen BK341.out 2; have hfz17_3 := blk_frozen BK341.out 3; have hfz17_4 := blk_frozen BK341.out 4; have hfz17_5 := blk_frozen BK341.out 5; have hfz17_6 := blk_frozen BK341.out 6; have hfz17_7 := blk_frozen BK341.out 7; have hfz17_8 := blk_frozen BK341.out 8; have hfz17_9 := blk_frozen BK341.out 9) | ((with_reducible refine gate_callee (f := 37) rfl ?_); refine goesL_ (some 17) rfl rfl Try.func37 (by kernel_rfl) rfl #[.agg #[.slice A1_0 l1_0.length c1_0, .slice A1_1 l1_1.length c1_1, .slice A1_2 l1_2.length c1_2, .slice A1_3 l1_3.length c1_3, .slice A1_4 l1_4.length c1_4, .slice A1_5 l1_5.length c1_5, .slice A1_6 l1_6.length c1_6, .slice A1_7 l1_7.length c1_7, .bool a1_8, .bool a1_9], .int .i64 t342] rfl (by (try simp only [List.map_toArray, List.map_cons, List.map_nil]); first | done | rfl | (simp only [List.length_drop, List.length_take]; rfl)) ?_; (with_reducible refine (laws_szEffect.calls _ _ l1_0 _ _ l1_1 _ _ l1_2 _ _ l1_3 _ _ l1_4 _ _ l1_5 _ _ l1_6 _ _ l1_7 a1_8 a1_9 t342 t343 _ ?side1 ?side2 ?side3 ?side4 ?side5 ?side6 ?side7 ?side8 ?side9 ?side10 ?side11 ?side12 ?side13 ?side14 ?side15 ?side16 A10.out).mono ?_); (case side1 => exact cS (Kd.C_below HR1_0.out HB.out)); (case side2 => exact HC1_0.out); (case side3 => exact cS (Kd.C_below HR1_1.out HB.out)); (case side4 => exact HC1_1.out); (case side5 => exact cS (Kd.C_below HR1_2.out HB.out)); (case side6 => exact HC1_2.out); (case side7 => exact cS (Kd.C_below HR1_3.out HB.out)); (case side8 => exact HC1_3.out); (case side9 => exact cS (Kd.C_below HR1_4.out HB.out)); (case side10 => exact HC1_4.out); (case side11 => exact cS (Kd.C_below HR1_5.out HB.out)); (case side12 => exact HC1_5.out); (case side13 => exact cS (Kd.C_below HR1_6.out HB.out)); (case side14 => exact HC1_6.out); (case side15 => exact cS (Kd.C_below HR1_7.out HB.out)); (case side16 => exact HC1_7.out); rintro e w18 ⟨rfl, hb⟩; refine ⟨_, rfl, ?_⟩; have n0_ := Aside0.mk (blk_below (g := gb340) (o := .cells #[.slice A0_0 l0_0.length c0_0, .slice A0_1 l0_1.length c0_1, .slice A0_2 l0_2.length c0_2, .slice A0_3 l0_3.length c0_3, .slice A0_4 l0_4.length c0_4, .slice A0_5 l0_5.length c0_5, .slice A0_6 l0_6.length c0_6, .slice A0_7 l0_7.length c0_7, .bool a0_8, .bool a0_9] 63 (0, 0)) (by (with_reducible repeat (first | refine blk_drewN ?_ _ | refine blk_drew ?_ | refine blk_alloc ?_ _)); exact BK340.out) hb); have n1_ := Aside0.mk (blk_below (g := gb341) (o := .cells #[.slice A1_0 l1_0.length c1_0, .slice A1_1 l1_1.length c1_1, .slice A1_2 l1_2.length c1_2, .slice A1_3 l1_3.length c1_3, .slice A1_4 l1_4.length c1_4, .slice A1_5 l1_5.length c1_5, .slice A1_6 l1_6.length c1_6, .slice A1_7 l1_7.length c1_7, .bool a1_8, .bool a1_9] 63 (0, 0)) (by (with_reducible repeat (first | refine blk_drewN ?_ _ | refine blk_drew ?_ | refine blk_alloc ?_ _)); exact BK341.out) hb); have n2_ := Aside0.mk (below_step (by repeat (first | (with_reducible first | exact HB.out | apply below_alloc | apply pw_below_drewN | apply below_drew1 | refine below_set ?_ GE340.out | refine below_set ?_ GE341.out) | exact HB.out)) hb); clear BK340; clear BK341; clear HB; have BK340 := n0_; have BK341 := n1_; have HB := n2_; clear n0_ n1_ n2_; (try clear hb); (try clear hb2); (try clear hk); (try clear hi)))
      go_ret
      exact ⟨by first | rfl | (simp [errW_none, errW_some] <;> rfl) | (simp [*, errW_none, errW_some] <;> rfl), by repeat (first | (with_reducible first | exact HB.out | apply below_alloc | apply pw_below_drewN | apply below_drew1 | refine below_set ?_ GE340.out | refine below_set ?_ GE341.out) | exact HB.out)⟩
    · rw [if_neg c11] at H
      have c11b0 : decide (t343 < 0) = false := decide_eq_false c11
      clear c11
      replace H := Option.bind_eq_some_iff.mp H
      obtain ⟨⟨t344, t347, t350, t353, t356, t359, t362, t365, t368, t369⟩, A190, H⟩ := H
      (try dsimp only at H)
      have A19 := Aside0.mk A190
      clear A190
      replace H := Option.bind_eq_some_iff.mp H
      obtain ⟨⟨t370, t373, t376, t379, t382, t385, t388, t391, t394, t395⟩, A200, H⟩ := H
      (try dsimp only at H)
      have A20 := Aside0.mk A200
      clear A200
      replace H := Option.bind_eq_some_iff.mp H
      obtain ⟨t396, A210, H⟩ := H
      (try dsimp only at H)
      have A21 := Aside0.mk A210
      clear A210
      replace H := Option.bind_eq_some_iff.mp H
      obtain ⟨⟨t397, t400, t403, t406, t409, t412, t415, t418, t421, t422⟩, A220, H⟩ := H
      (try dsimp only at H)
      have A22 := Aside0.mk A220
      clear A220
      replace H := Option.bind_eq_some_iff.mp H
      obtain ⟨⟨t424, t427, t430, t433, t436, t439, t442, t445, t448, t449⟩, A230, H⟩ := H
      (try dsimp only at H)
      have A23 := Aside0.mk A230
      clear A230
      replace H := Option.bind_eq_some_iff.mp H
      obtain ⟨t451, A240, H⟩ := H
      (try dsimp only at H)
      have A24 := Aside0.mk A240
      clear A240
      by_cases c25 : (t451 != t396) = true
      · rw [if_pos c25] at H
        exact absurd H (by simp)
      · rw [if_neg c25] at H
        have c25b0 : (t451 != t396) = false := by simpa using c25
        (try (have c25b1 : decide (t451 = t396) = true := by simpa using c25))
        (try (have c25b2 : (t451 == t396) = true := by simpa using c25))
        clear c25
        replace H := Option.bind_eq_some_iff.mp H
        obtain ⟨⟨t452, t455, t458, t461, t464, t467, t470, t473, t476, t477⟩, A260, H⟩ := H
        (try dsimp only at H)
        have A26 := Aside0.mk A260
        clear A260
        replace H := Option.bind_eq_some_iff.mp H
        obtain ⟨t478, A270, H⟩ := H
        (try dsimp only at H)
        have A27 := Aside0.mk A270
        clear A270
        by_cases c28 : t478 = true
        · subst c28
          have H1 : ((laws_toEffect.f k l1_0 l1_1 l1_2 l1_3 l1_4 l1_5 l1_6 l1_7 a1_8 a1_9).bind fun bt479 => ((laws_eqEffect.f k t424 t427 t430 t433 t436 t439 t442 t445 t448 t449 bt479.1 bt479.2.1 bt479.2.2.1 bt479.2.2.2.1 bt479.2.2.2.2.1 bt479.2.2.2.2.2.1 bt479.2.2.2.2.2.2.1 bt479.2.2.2.2.2.2.2.1 bt479.2.2.2.2.2.2.2.2.1 bt479.2.2.2.2.2.2.2.2.2).bind fun t505 => (if t505 = true then (some true) else (none)))) = some r := by rw [if_pos rfl] at H; exact H
          clear H
          have H := H1
          clear H1
          replace H := Option.bind_eq_some_iff.mp H
          obtain ⟨⟨t479, t482, t485, t488, t491, t494, t497, t500, t503, t504⟩, A290, H⟩ := H
          (try dsimp only at H)
          have A29 := Aside0.mk A290
          clear A290
          replace H := Option.bind_eq_some_iff.mp H
          obtain ⟨t505, A300, H⟩ := H
          (try dsimp only at H)
          have A30 := Aside0.mk A300
          clear A300
          by_cases c31 : t505 = true
          · subst c31
            have H1 : (some true) = some r := by rw [if_pos rfl] at H; exact H
            clear H
            have H := H1
            clear H1
            obtain rfl := Option.some.inj H
            go_enter Try.func7, Try.ntmps7
            try go_wp2_with (first | ((with_reducible refine gate_dst (N := 2) rfl ?_); refine box_event ?hg (N := 2) ?hd (cs := #[.slice A0_0 l0_0.length c0_0, .slice A0_1 l0_1.length c0_1, .slice A0_2 l0_2.length c0_2, .slice A0_3 l0_3.length c0_3, .slice A0_4 l0_4.length c0_4, .slice A0_5 l0_5.length c0_5, .slice A0_6 l0_6.length c0_6, .slice A0_7 l0_7.length c0_7, .bool a0_8, .bool a0_9]) (t := 63) ?hr ?_; (case hd => rfl); (case hg => rfl); (case hr => first | (go_simp; done) | (go_simp; rfl)); intro gb340 hg w32 hbox hb; have n0_ := Aside0.mk (below_step (bS HB.out) hb); have n1_ := Aside0.mk (hbox); have n2_ := Aside0.mk ((by rw [hg]; exact (below_size (bS HB.out)) : w.heap.size ≤ gb340)); have n3_ := Aside0.mk ((by rw [hg]; exact (below_size (bS HB.out)) : w.heap.size ≤ gb340)); clear HB; have HB := n0_; have BK340 := n1_; have GW340 := n2_; have GE340 := n3_; clear n0_ n1_ n2_ n3_; clear hb hbox hg) | ((with_reducible refine gate_dst (N := 3) rfl ?_); refine box_event ?hg (N := 3) ?hd (cs := #[.slice A1_0 l1_0.length c1_0, .slice A1_1 l1_1.length c1_1, .slice A1_2 l1_2.length c1_2, .slice A1_3 l1_3.length c1_3, .slice A1_4 l1_4.length c1_4, .slice A1_5 l1_5.length c1_5, .slice A1_6 l1_6.length c1_6, .slice A1_7 l1_7.length c1_7, .bool a1_8, .bool a1_9]) (t := 63) ?hr ?_; (case hd => rfl); (case hg => rfl); (case hr => first | (go_simp; done) | (go_simp; rfl)); intro gb341 hg w33 hbox hb; have n0_ := Aside0.mk (blk_below (g := gb340) (o := .cells #[.slice A0_0 l0_0.length c0_0, .slice A0_1 l0_1.length c0_1, .slice A0_2 l0_2.length c0_2, .slice A0_3 l0_3.length c0_3, .slice A0_4 l0_4.length c0_4, .slice A0_5 l0_5.length c0_5, .slice A0_6 l0_6.length c0_6, .slice A0_7 l0_7.length c0_7, .bool a0_8, .bool a0_9] 63 (0, 0)) (by (with_reducible repeat (first | refine blk_drewN ?_ _ | refine blk_drew ?_ | refine blk_alloc ?_ _)); exact BK340.out) hb); have n1_ := Aside0.mk (below_step (by repeat (first | (with_reducible first | exact HB.out | apply below_alloc | apply pw_below_drewN | apply below_drew1 | refine below_set ?_ GE340.out) | exact HB.out)) hb); have n2_ := Aside0.mk (hbox); have n3_ := Aside0.mk ((by rw [hg]; exact (below_size (by repeat (first | (with_reducible first | exact HB.out | apply below_alloc | apply pw_below_drewN | apply below_drew1 | refine below_set ?_ GE340.out) | exact HB.out))) : w.heap.size ≤ gb341)); have n4_ := Aside0.mk ((by rw [hg]; exact (below_size (by repeat (first | (with_reducible first | exact HB.out | apply below_alloc | apply pw_below_drewN | apply below_drew1 | refine below_set ?_ GE340.out) | exact HB.out))) : w.heap.size ≤ gb341)); have n5_ := Aside0.mk ((by rw [hg]; exact Nat.ne_of_lt (blk_lt (g := gb340) (o := .cells #[.slice A0_0 l0_0.length c0_0, .slice A0_1 l0_1.length c0_1, .slice A0_2 l0_2.length c0_2, .slice A0_3 l0_3.length c0_3, .slice A0_4 l0_4.length c0_4, .slice A0_5 l0_5.length c0_5, .slice A0_6 l0_6.length c0_6, .slice A0_7 l0_7.length c0_7, .bool a0_8, .bool a0_9] 63 (0, 0)) (by (with_reducible repeat (first | refine blk_drewN ?_ _ | refine blk_drew ?_ | refine blk_alloc ?_ _)); exact BK340.out)) : gb340 ≠ gb341)); have n6_ := Aside0.mk ((by rw [hg]; exact Nat.ne_of_gt (blk_lt (g := gb340) (o := .cells #[.slice A0_0 l0_0.length c0_0, .slice A0_1 l0_1.length c0_1, .slice A0_2 l0_2.length c0_2, .slice A0_3 l0_3.length c0_3, .slice A0_4 l0_4.length c0_4, .slice A0_5 l0_5.length c0_5, .slice A0_6 l0_6.length c0_6, .slice A0_7 l0_7.length c0_7, .bool a0_8, .bool a0_9] 63 (0, 0)) (by (with_reducible repeat (first | refine blk_drewN ?_ _ | refine blk_drew ?_ | refine blk_alloc ?_ _)); exact BK340.out)) : gb341 ≠ gb340)); clear BK340; clear HB; have BK340 := n0_; have HB := n1_; have BK341 := n2_; have GW341 := n3_; have GE341 := n4_; have NB340_341 := n5_; have NB341_340 := n6_; clear n0_ n1_ n2_ n3_ n4_ n5_ n6_; clear hb hbox hg; have hnb34 := NB340_341.out; have hnc34 := NB341_340.out; have hcz35_0 : w33.cell? ⟨gb340, 0, none⟩ = some (.slice A0_0 l0_0.length c0_0) := (blk_cell BK340.out 0).trans rfl; have hcz35_1 : w33.cell? ⟨gb340, 1, none⟩ = some (.slice A0_1 l0_1.length c0_1) := (blk_cell BK340.out 1).trans rfl; have hcz35_2 : w33.cell? ⟨gb340, 2, none⟩ = some (.slice A0_2 l0_2.length c0_2) := (blk_cell BK340.out 2).trans rfl; have hcz35_3 : w33.cell? ⟨gb340, 3, none⟩ = some (.slice A0_3 l0_3.length c0_3) := (blk_cell BK340.out 3).trans rfl; have hcz35_4 : w33.cell? ⟨gb340, 4, none⟩ = some (.slice A0_4 l0_4.length c0_4) := (blk_cell BK340.out 4).trans rfl; have hcz35_5 : w33.cell? ⟨gb340, 5, none⟩ = some (.slice A0_5 l0_5.length c0_5) := (blk_cell BK340.out 5).trans rfl; have hcz35_6 : w33.cell? ⟨gb340, 6, none⟩ = some (.slice A0_6 l0_6.length c0_6) := (blk_cell BK340.out 6).trans rfl; have hcz35_7 : w33.cell? ⟨gb340, 7, none⟩ = some (.slice A0_7 l0_7.length c0_7) := (blk_cell BK340.out 7).trans rfl; have hcz35_8 : w33.cell? ⟨gb340, 8, none⟩ = some (.bool a0_8) := (blk_cell BK340.out 8).trans rfl; have hcz35_9 : w33.cell? ⟨gb340, 9, none⟩ = some (.bool a0_9) := (blk_cell BK340.out 9).trans rfl; have hfz35_0 := blk_frozen BK340.out 0; have hfz35_1 := blk_frozen BK340.out 1; have hfz35_2 := blk_frozen BK340.out 2; have hfz35_3 := blk_frozen BK340.out 3; have hfz35_4 := blk_frozen BK340.out 4; have hfz35_5 := blk_frozen BK340.out 5; have hfz35_6 := blk_frozen BK340.out 6; have hfz35_7 := blk_frozen BK340.out 7; have hfz35_8 := blk_frozen BK340.out 8; have hfz35_9 := blk_frozen BK340.out 9) | ((with_reducible refine gate_callee (f := 37) rfl ?_); refine goesL_ (some 12) rfl rfl Try.func37 (by kernel_rfl) rfl #[.agg #[.slice A0_0 l0_0.length c0_0, .slice A0_1 l0_1.length c0_1, .slice A0_2 l0_2.length c0_2, .slice A0_3 l0_3.length c0_3, .slice A0_4 l0_4.length c0_4, .slice A0_5 l0_5.length c0_5, .slice A0_6 l0_6.length c0_6, .slice A0_7 l0_7.length c0_7, .bool a0_8, .bool a0_9], .int .i64 1048576] rfl (by (try simp only [List.map_toArray, List.map_cons, List.map_nil]); first | done | rfl | (simp only [List.length_drop, List.length_take]; rfl)) ?_; (with_reducible refine (laws_szEffect.calls _ _ l0_0 _ _ l0_1 _ _ l0_2 _ _ l0_3 _ _ l0_4 _ _ l0_5 _ _ l0_6 _ _ l0_7 a0_8 a0_9 1048576 t342 _ ?side1 ?side2 ?side3 ?side4 ?side5 ?side6 ?side7 ?side8 ?side9 ?side10 ?side11 ?side12 ?side13 ?side14 ?side15 ?side16 A3.out).mono ?_); (case side1 => exact cS (Kd.C_below HR0_0.out HB.out)); (case side2 => exact HC0_0.out); (case side3 => exact cS (Kd.C_below HR0_1.out HB.out)); (case side4 => exact HC0_1.out); (case side5 => exact cS (Kd.C_below HR0_2.out HB.out)); (case side6 => exact HC0_2.out); (case side7 => exact cS (Kd.C_below HR0_3.out HB.out)); (case side8 => exact HC0_3.out); (case side9 => exact cS (Kd.C_below HR0_4.out HB.out)); (case side10 => exact HC0_4.out); (case side11 => exact cS (Kd.C_below HR0_5.out HB.out)); (case side12 => exact HC0_5.out); (case side13 => exact cS (Kd.C_below HR0_6.out HB.out)); (case side14 => exact HC0_6.out); (case side15 => exact cS (Kd.C_below HR0_7.out HB.out)); (case side16 => exact HC0_7.out); rintro e w36 ⟨rfl, hb⟩; refine ⟨_, rfl, ?_⟩; have n0_ := Aside0.mk (blk_below (g := gb340) (o := .cells #[.slice A0_0 l0_0.length c0_0, .slice A0_1 l0_1.length c0_1, .slice A0_2 l0_2.length c0_2, .slice A0_3 l0_3.length c0_3, .slice A0_4 l0_4.length c0_4, .slice A0_5 l0_5.length c0_5, .slice A0_6 l0_6.length c0_6, .slice A0_7 l0_7.length c0_7, .bool a0_8, .bool a0_9] 63 (0, 0)) (by (with_reducible repeat (first | refine blk_drewN ?_ _ | refine blk_drew ?_ | refine blk_alloc ?_ _)); exact BK340.out) hb); have n1_ := Aside0.mk (blk_below (g := gb341) (o := .cells #[.slice A1_0 l1_0.length c1_0, .slice A1_1 l1_1.length c1_1, .slice A1_2 l1_2.length c1_2, .slice A1_3 l1_3.length c1_3, .slice A1_4 l1_4.length c1_4, .slice A1_5 l1_5.length c1_5, .slice A1_6 l1_6.length c1_6, .slice A1_7 l1_7.length c1_7, .bool a1_8, .bool a1_9] 63 (0, 0)) (by (with_reducible repeat (first | refine blk_drewN ?_ _ | refine blk_drew ?_ | refine blk_alloc ?_ _)); exact BK341.out) hb); have n2_ := Aside0.mk (below_step (by repeat (first | (with_reducible first | exact HB.out | apply below_alloc | apply pw_below_drewN | apply below_drew1 | refine below_set ?_ GE340.out | refine below_set ?_ GE341.out) | exact HB.out)) hb); clear BK340; clear BK341; clear HB; have BK340 := n0_; have BK341 := n1_; have HB := n2_; clear n0_ n1_ n2_; (try clear hb); (try clear hb2); (try clear hk); (try clear hi); have hcz37_0 : w36.cell? ⟨gb341, 0, none⟩ = some (.slice A1_0 l1_0.length c1_0) := (blk_cell BK341.out 0).trans rfl; have hcz37_1 : w36.cell? ⟨gb341, 1, none⟩ = some (.slice A1_1 l1_1.length c1_1) := (blk_cell BK341.out 1).trans rfl; have hcz37_2 : w36.cell? ⟨gb341, 2, none⟩ = some (.slice A1_2 l1_2.length c1_2) := (blk_cell BK341.out 2).trans rfl; have hcz37_3 : w36.cell? ⟨gb341, 3, none⟩ = some (.slice A1_3 l1_3.length c1_3) := (blk_cell BK341.out 3).trans rfl; have hcz37_4 : w36.cell? ⟨gb341, 4, none⟩ = some (.slice A1_4 l1_4.length c1_4) := (blk_cell BK341.out 4).trans rfl; have hcz37_5 : w36.cell? ⟨gb341, 5, none⟩ = some (.slice A1_5 l1_5.length c1_5) := (blk_cell BK341.out 5).trans rfl; have hcz37_6 : w36.cell? ⟨gb341, 6, none⟩ = some (.slice A1_6 l1_6.length c1_6) := (blk_cell BK341.out 6).trans rfl; have hcz37_7 : w36.cell? ⟨gb341, 7, none⟩ = some (.slice A1_7 l1_7.length c1_7) := (blk_cell BK341.out 7).trans rfl; have hcz37_8 : w36.cell? ⟨gb341, 8, none⟩ = some (.bool a1_8) := (blk_cell BK341.out 8).trans rfl; have hcz37_9 : w36.cell? ⟨gb341, 9, none⟩ = some (.bool a1_9) := (blk_cell BK341.out 9).trans rfl; have hfz37_0 := blk_frozen BK341.out 0; have hfz37_1 := blk_frozen BK341.out 1; have hfz37_2 := blk_frozen BK341.out 2; have hfz37_3 := blk_frozen BK341.out 3; have hfz37_4 := blk_frozen BK341.out 4; have hfz37_5 := blk_frozen BK341.out 5; have hfz37_6 := blk_frozen BK341.out 6; have hfz37_7 := blk_frozen BK341.out 7; have hfz37_8 := blk_frozen BK341.out 8; have hfz37_9 := blk_frozen BK341.out 9) | ((with_reducible refine gate_callee (f := 37) rfl ?_); refine goesL_ (some 17) rfl rfl Try.func37 (by kernel_rfl) rfl #[.agg #[.slice A1_0 l1_0.length c1_0, .slice A1_1 l1_1.length c1_1, .slice A1_2 l1_2.length c1_2, .slice A1_3 l1_3.length c1_3, .slice A1_4 l1_4.length c1_4, .slice A1_5 l1_5.length c1_5, .slice A1_6 l1_6.length c1_6, .slice A1_7 l1_7.length c1_7, .bool a1_8, .bool a1_9], .int .i64 t342] rfl (by (try simp only [List.map_toArray, List.map_cons, List.map_nil]); first | done | rfl | (simp only [List.length_drop, List.length_take]; rfl)) ?_; (with_reducible refine (laws_szEffect.calls _ _ l1_0 _ _ l1_1 _ _ l1_2 _ _ l1_3 _ _ l1_4 _ _ l1_5 _ _ l1_6 _ _ l1_7 a1_8 a1_9 t342 t343 _ ?side1 ?side2 ?side3 ?side4 ?side5 ?side6 ?side7 ?side8 ?side9 ?side10 ?side11 ?side12 ?side13 ?side14 ?side15 ?side16 A10.out).mono ?_); (case side1 => exact cS (Kd.C_below HR1_0.out HB.out)); (case side2 => exact HC1_0.out); (case side3 => exact cS (Kd.C_below HR1_1.out HB.out)); (case side4 => exact HC1_1.out); (case side5 => exact cS (Kd.C_below HR1_2.out HB.out)); (case side6 => exact HC1_2.out); (case side7 => exact cS (Kd.C_below HR1_3.out HB.out)); (case side8 => exact HC1_3.out); (case side9 => exact cS (Kd.C_below HR1_4.out HB.out)); (case side10 => exact HC1_4.out); (case side11 => exact cS (Kd.C_below HR1_5.out HB.out)); (case side12 => exact HC1_5.out); (case side13 => exact cS (Kd.C_below HR1_6.out HB.out)); (case side14 => exact HC1_6.out); (case side15 => exact cS (Kd.C_below HR1_7.out HB.out)); (case side16 => exact HC1_7.out); rintro e w38 ⟨rfl, hb⟩; refine ⟨_, rfl, ?_⟩; have n0_ := Aside0.mk (blk_below (g := gb340) (o := .cells #[.slice A0_0 l0_0.length c0_0, .slice A0_1 l0_1.length c0_1, .slice A0_2 l0_2.length c0_2, .slice A0_3 l0_3.length c0_3, .slice A0_4 l0_4.length c0_4, .slice A0_5 l0_5.length c0_5, .slice A0_6 l0_6.length c0_6, .slice A0_7 l0_7.length c0_7, .bool a0_8, .bool a0_9] 63 (0, 0)) (by (with_reducible repeat (first | refine blk_drewN ?_ _ | refine blk_drew ?_ | refine blk_alloc ?_ _)); exact BK340.out) hb); have n1_ := Aside0.mk (blk_below (g := gb341) (o := .cells #[.slice A1_0 l1_0.length c1_0, .slice A1_1 l1_1.length c1_1, .slice A1_2 l1_2.length c1_2, .slice A1_3 l1_3.length c1_3, .slice A1_4 l1_4.length c1_4, .slice A1_5 l1_5.length c1_5, .slice A1_6 l1_6.length c1_6, .slice A1_7 l1_7.length c1_7, .bool a1_8, .bool a1_9] 63 (0, 0)) (by (with_reducible repeat (first | refine blk_drewN ?_ _ | refine blk_drew ?_ | refine blk_alloc ?_ _)); exact BK341.out) hb); have n2_ := Aside0.mk (below_step (by repeat (first | (with_reducible first | exact HB.out | apply below_alloc | apply pw_below_drewN | apply below_drew1 | refine below_set ?_ GE340.out | refine below_set ?_ GE341.out) | exact HB.out)) hb); clear BK340; clear BK341; clear HB; have BK340 := n0_; have BK341 := n1_; have HB := n2_; clear n0_ n1_ n2_; (try clear hb); (try clear hb2); (try clear hk); (try clear hi)))
            have n0_ := Aside0.mk (blk_drew BK340.out)
            have n1_ := Aside0.mk (blk_drew BK341.out)
            have n2_ := Aside0.mk (below_drew1 HB.out)
            clear BK340
            clear BK341
            clear HB
            have BK340 := n0_
            have BK341 := n1_
            have HB := n2_
            clear n0_ n1_ n2_
            refine start_ (n := 6) (S := fun w' => w'.cell? ⟨gb340, 0, none⟩ = some (.slice A0_0 l0_0.length c0_0) ∧ w'.cell? ⟨gb340, 1, none⟩ = some (.slice A0_1 l0_1.length c0_1) ∧ w'.cell? ⟨gb340, 2, none⟩ = some (.slice A0_2 l0_2.length c0_2) ∧ w'.cell? ⟨gb340, 3, none⟩ = some (.slice A0_3 l0_3.length c0_3) ∧ w'.cell? ⟨gb340, 4, none⟩ = some (.slice A0_4 l0_4.length c0_4) ∧ w'.cell? ⟨gb340, 5, none⟩ = some (.slice A0_5 l0_5.length c0_5) ∧ w'.cell? ⟨gb340, 6, none⟩ = some (.slice A0_6 l0_6.length c0_6) ∧ w'.cell? ⟨gb340, 7, none⟩ = some (.slice A0_7 l0_7.length c0_7) ∧ w'.cell? ⟨gb340, 8, none⟩ = some (.bool a0_8) ∧ w'.cell? ⟨gb340, 9, none⟩ = some (.bool a0_9) ∧ w'.cell? ⟨gb341, 0, none⟩ = some (.slice A1_0 l1_0.length c1_0) ∧ w'.cell? ⟨gb341, 1, none⟩ = some (.slice A1_1 l1_1.length c1_1) ∧ w'.cell? ⟨gb341, 2, none⟩ = some (.slice A1_2 l1_2.length c1_2) ∧ w'.cell? ⟨gb341, 3, none⟩ = some (.slice A1_3 l1_3.length c1_3) ∧ w'.cell? ⟨gb341, 4, none⟩ = some (.slice A1_4 l1_4.length c1_4) ∧ w'.cell? ⟨gb341, 5, none⟩ = some (.slice A1_5 l1_5.length c1_5) ∧ w'.cell? ⟨gb341, 6, none⟩ = some (.slice A1_6 l1_6.length c1_6) ∧ w'.cell? ⟨gb341, 7, none⟩ = some (.slice A1_7 l1_7.length c1_7) ∧ w'.cell? ⟨gb341, 8, none⟩ = some (.bool a1_8) ∧ w'.cell? ⟨gb341, 9, none⟩ = some (.bool a1_9)) (ds := []) #[false, false, false, false, false, false] (by kernel_rfl) rfl rfl ⟨(blk_cell BK340.out 0).trans rfl, (blk_cell BK340.out 1).trans rfl, (blk_cell BK340.out 2).trans rfl, (blk_cell BK340.out 3).trans rfl, (blk_cell BK340.out 4).trans rfl, (blk_cell BK340.out 5).trans rfl, (blk_cell BK340.out 6).trans rfl, (blk_cell BK340.out 7).trans rfl, (blk_cell BK340.out 8).trans rfl, (blk_cell BK340.out 9).trans rfl, (blk_cell BK341.out 0).trans rfl, (blk_cell BK341.out 1).trans rfl, (blk_cell BK341.out 2).trans rfl, (blk_cell BK341.out 3).trans rfl, (blk_cell BK341.out 4).trans rfl, (blk_cell BK341.out 5).trans rfl, (blk_cell BK341.out 6).trans rfl, (blk_cell BK341.out 7).trans rfl, (blk_cell BK341.out 8).trans rfl, (blk_cell BK341.out 9).trans rfl⟩ (fun hHeld => ?_)
            generalize w38.drew = w39 at BK340 BK341 HB hHeld ⊢
            refine take_ (i := 0) (N := some 20) (v := ?_) (a' := ?_) #[true, false, false, false, false, false] rfl rfl (by kernel_rfl) (fun _ _ _ h => h) (Or.inl ⟨by rfl, ?_⟩) hHeld ?_ ?_
            rotate_left
            · rintro w' ⟨s0, s1, s2, s3, s4, s5, s6, s7, s8, s9, s10, s11, s12, s13, s14, s15, s16, s17, s18, s19⟩
              go_simp
              with_reducible rfl
            rotate_left
            · simp only [Act.put, List.setIfInBounds_toArray, List.set_cons_zero, List.set_cons_succ, i64_w, i32_w]
              rfl
            refine take_ (i := 2) (N := some 22) (v := ?_) (a' := ?_) #[true, false, true, false, false, false] rfl rfl (by kernel_rfl) (fun _ _ _ h => h) (Or.inl ⟨by rfl, ?_⟩) hHeld ?_ ?_
            rotate_left
            · rintro w' ⟨s0, s1, s2, s3, s4, s5, s6, s7, s8, s9, s10, s11, s12, s13, s14, s15, s16, s17, s18, s19⟩
              go_simp
              with_reducible rfl
            rotate_left
            · simp only [Act.put, List.setIfInBounds_toArray, List.set_cons_zero, List.set_cons_succ, i64_w, i32_w]
              rfl
            refine one_ (i := 1) (N := some 21) #[true, true, true, false, false, false] rfl rfl (by kernel_rfl) (by decide) (fun K hK => ?_)
            refine goes_ Try.func39 (by kernel_rfl) rfl #[.agg #[.slice A0_0 l0_0.length c0_0, .slice A0_1 l0_1.length c0_1, .slice A0_2 l0_2.length c0_2, .slice A0_3 l0_3.length c0_3, .slice A0_4 l0_4.length c0_4, .slice A0_5 l0_5.length c0_5, .slice A0_6 l0_6.length c0_6, .slice A0_7 l0_7.length c0_7, .bool a0_8, .bool a0_9]] (by rfl) rfl rfl (by (try simp only [List.map_toArray, List.map_cons, List.map_nil]); first | done | rfl | (simp only [List.length_drop, List.length_take]; rfl)) ?_
            with_reducible refine (laws_toEffect.calls k _ _ l0_0 _ _ l0_1 _ _ l0_2 _ _ l0_3 _ _ l0_4 _ _ l0_5 _ _ l0_6 _ _ l0_7 a0_8 a0_9 t344 t347 t350 t353 t356 t359 t362 t365 t368 t369 _ ?side1 ?side2 ?side3 ?side4 ?side5 ?side6 ?side7 ?side8 ?side9 ?side10 ?side11 ?side12 ?side13 ?side14 ?side15 ?side16 A19.out).mono ?_
            (case side1 => exact cS (Kd.C_below HR0_0.out HB.out))
            (case side2 => exact HC0_0.out)
            (case side3 => exact cS (Kd.C_below HR0_1.out HB.out))
            (case side4 => exact HC0_1.out)
            (case side5 => exact cS (Kd.C_below HR0_2.out HB.out))
            (case side6 => exact HC0_2.out)
            (case side7 => exact cS (Kd.C_below HR0_3.out HB.out))
            (case side8 => exact HC0_3.out)
            (case side9 => exact cS (Kd.C_below HR0_4.out HB.out))
            (case side10 => exact HC0_4.out)
            (case side11 => exact cS (Kd.C_below HR0_5.out HB.out))
            (case side12 => exact HC0_5.out)
            (case side13 => exact cS (Kd.C_below HR0_6.out HB.out))
            (case side14 => exact HC0_6.out)
            (case side15 => exact cS (Kd.C_below HR0_7.out HB.out))
            (case side16 => exact HC0_7.out)
            rintro e w40 ⟨v345, v348, v351, v354, v357, v360, v363, v366, rfl, ho0, ho1, ho2, ho3, ho4, ho5, ho6, ho7, hb⟩
            refine ⟨_, rfl, ?_⟩
            have n0_ := Aside0.mk (Kd.R_lower ho0 (below_size (by repeat (first | (with_reducible first | exact HB.out | apply below_alloc | apply pw_below_drewN | apply below_drew1 | refine below_set ?_ GE340.out | refine below_set ?_ GE341.out) | exact HB.out))))
            have n1_ := Aside0.mk (Kd.R_lower ho1 (below_size (by repeat (first | (with_reducible first | exact HB.out | apply below_alloc | apply pw_below_drewN | apply below_drew1 | refine below_set ?_ GE340.out | refine below_set ?_ GE341.out) | exact HB.out))))
            have n2_ := Aside0.mk (Kd.R_lower ho2 (below_size (by repeat (first | (with_reducible first | exact HB.out | apply below_alloc | apply pw_below_drewN | apply below_drew1 | refine below_set ?_ GE340.out | refine below_set ?_ GE341.out) | exact HB.out))))
            have n3_ := Aside0.mk (Kd.R_lower ho3 (below_size (by repeat (first | (with_reducible first | exact HB.out | apply below_alloc | apply pw_below_drewN | apply below_drew1 | refine below_set ?_ GE340.out | refine below_set ?_ GE341.out) | exact HB.out))))
            have n4_ := Aside0.mk (Kd.R_lower ho4 (below_size (by repeat (first | (with_reducible first | exact HB.out | apply below_alloc | apply pw_below_drewN | apply below_drew1 | refine below_set ?_ GE340.out | refine below_set ?_ GE341.out) | exact HB.out))))
            have n5_ := Aside0.mk (Kd.R_lower ho5 (below_size (by repeat (first | (with_reducible first | exact HB.out | apply below_alloc | apply pw_below_drewN | apply below_drew1 | refine below_set ?_ GE340.out | refine below_set ?_ GE341.out) | exact HB.out))))
            have n6_ := Aside0.mk (Kd.R_lower ho6 (below_size (by repeat (first | (with_reducible first | exact HB.out | apply below_alloc | apply pw_below_drewN | apply below_drew1 | refine below_set ?_ GE340.out | refine below_set ?_ GE341.out) | exact HB.out))))
            have n7_ := Aside0.mk (Kd.R_lower ho7 (below_size (by repeat (first | (with_reducible first | exact HB.out | apply below_alloc | apply pw_below_drewN | apply below_drew1 | refine below_set ?_ GE340.out | refine below_set ?_ GE341.out) | exact HB.out))))
            have n8_ := Aside0.mk (blk_below (g := gb340) (o := .cells #[.slice A0_0 l0_0.length c0_0, .slice A0_1 l0_1.length c0_1, .slice A0_2 l0_2.length c0_2, .slice A0_3 l0_3.length c0_3, .slice A0_4 l0_4.length c0_4, .slice A0_5 l0_5.length c0_5, .slice A0_6 l0_6.length c0_6, .slice A0_7 l0_7.length c0_7, .bool a0_8, .bool a0_9] 63 (0, 0)) (by (with_reducible repeat (first | refine blk_drewN ?_ _ | refine blk_drew ?_ | refine blk_alloc ?_ _)); exact BK340.out) hb)
            have n9_ := Aside0.mk (blk_below (g := gb341) (o := .cells #[.slice A1_0 l1_0.length c1_0, .slice A1_1 l1_1.length c1_1, .slice A1_2 l1_2.length c1_2, .slice A1_3 l1_3.length c1_3, .slice A1_4 l1_4.length c1_4, .slice A1_5 l1_5.length c1_5, .slice A1_6 l1_6.length c1_6, .slice A1_7 l1_7.length c1_7, .bool a1_8, .bool a1_9] 63 (0, 0)) (by (with_reducible repeat (first | refine blk_drewN ?_ _ | refine blk_drew ?_ | refine blk_alloc ?_ _)); exact BK341.out) hb)
            have n10_ := Aside0.mk (below_step (by repeat (first | (with_reducible first | exact HB.out | apply below_alloc | apply pw_below_drewN | apply below_drew1 | refine below_set ?_ GE340.out | refine below_set ?_ GE341.out) | exact HB.out)) hb)
            clear BK340
            clear BK341
            clear HB
            have HO346 := n0_
            have HO349 := n1_
            have HO352 := n2_
            have HO355 := n3_
            have HO358 := n4_
            have HO361 := n5_
            have HO364 := n6_
            have HO367 := n7_
            have BK340 := n8_
            have BK341 := n9_
            have HB := n10_
            clear n0_ n1_ n2_ n3_ n4_ n5_ n6_ n7_ n8_ n9_ n10_
            (try clear hb)
            (try clear hb2)
            (try clear hk)
            (try clear hi)
            (try clear ho0)
            (try clear ho1)
            (try clear ho2)
            (try clear ho3)
            (try clear ho4)
            (try clear ho5)
            (try clear ho6)
            (try clear ho7)
            refine hK.out _ _ ⟨(blk_cell BK340.out 0).trans rfl, (blk_cell BK340.out 1).trans rfl, (blk_cell BK340.out 2).trans rfl, (blk_cell BK340.out 3).trans rfl, (blk_cell BK340.out 4).trans rfl, (blk_cell BK340.out 5).trans rfl, (blk_cell BK340.out 6).trans rfl, (blk_cell BK340.out 7).trans rfl, (blk_cell BK340.out 8).trans rfl, (blk_cell BK340.out 9).trans rfl, (blk_cell BK341.out 0).trans rfl, (blk_cell BK341.out 1).trans rfl, (blk_cell BK341.out 2).trans rfl, (blk_cell BK341.out 3).trans rfl, (blk_cell BK341.out 4).trans rfl, (blk_cell BK341.out 5).trans rfl, (blk_cell BK341.out 6).trans rfl, (blk_cell BK341.out 7).trans rfl, (blk_cell BK341.out 8).trans rfl, (blk_cell BK341.out 9).trans rfl⟩ (fun hHeld => ?_)
            clear hK K
            refine norm_ (a' := ?_) ?_ ?_
            rotate_left
            · show Act.put _ (some 21) _ = _
              simp only [Act.put, List.setIfInBounds_toArray, List.set_cons_zero, List.set_cons_succ, i64_w, i32_w]
              rfl
            refine one_ (i := 3) (N := some 23) #[true, true, true, true, false, false] rfl rfl (by kernel_rfl) (by decide) (fun K hK => ?_)
            refine goes_ Try.func39 (by kernel_rfl) rfl #[.agg #[.slice A1_0 l1_0.length c1_0, .slice A1_1 l1_1.length c1_1, .slice A1_2 l1_2.length c1_2, .slice A1_3 l1_3.length c1_3, .slice A1_4 l1_4.length c1_4, .slice A1_5 l1_5.length c1_5, .slice A1_6 l1_6.length c1_6, .slice A1_7 l1_7.length c1_7, .bool a1_8, .bool a1_9]] (by rfl) rfl rfl (by (try simp only [List.map_toArray, List.map_cons, List.map_nil]); first | done | rfl | (simp only [List.length_drop, List.length_take]; rfl)) ?_
            with_reducible refine (laws_toEffect.calls k _ _ l1_0 _ _ l1_1 _ _ l1_2 _ _ l1_3 _ _ l1_4 _ _ l1_5 _ _ l1_6 _ _ l1_7 a1_8 a1_9 t370 t373 t376 t379 t382 t385 t388 t391 t394 t395 _ ?side1 ?side2 ?side3 ?side4 ?side5 ?side6 ?side7 ?side8 ?side9 ?side10 ?side11 ?side12 ?side13 ?side14 ?side15 ?side16 A20.out).mono ?_
            (case side1 => exact cS (Kd.C_below HR1_0.out HB.out))
            (case side2 => exact HC1_0.out)
            (case side3 => exact cS (Kd.C_below HR1_1.out HB.out))
            (case side4 => exact HC1_1.out)
            (case side5 => exact cS (Kd.C_below HR1_2.out HB.out))
            (case side6 => exact HC1_2.out)
            (case side7 => exact cS (Kd.C_below HR1_3.out HB.out))
            (case side8 => exact HC1_3.out)
            (case side9 => exact cS (Kd.C_below HR1_4.out HB.out))
            (case side10 => exact HC1_4.out)
            (case side11 => exact cS (Kd.C_below HR1_5.out HB.out))
            (case side12 => exact HC1_5.out)
            (case side13 => exact cS (Kd.C_below HR1_6.out HB.out))
            (case side14 => exact HC1_6.out)
            (case side15 => exact cS (Kd.C_below HR1_7.out HB.out))
            (case side16 => exact HC1_7.out)
            rintro e w41 ⟨v371, v374, v377, v380, v383, v386, v389, v392, rfl, ho0, ho1, ho2, ho3, ho4, ho5, ho6, ho7, hb⟩
            refine ⟨_, rfl, ?_⟩
            have n0_ := Aside0.mk (Kd.R_below (rS HO346.out) hb)
            have n1_ := Aside0.mk (Kd.R_below (rS HO349.out) hb)
            have n2_ := Aside0.mk (Kd.R_below (rS HO352.out) hb)
            have n3_ := Aside0.mk (Kd.R_below (rS HO355.out) hb)
            have n4_ := Aside0.mk (Kd.R_below (rS HO358.out) hb)
            have n5_ := Aside0.mk (Kd.R_below (rS HO361.out) hb)
            have n6_ := Aside0.mk (Kd.R_below (rS HO364.out) hb)
            have n7_ := Aside0.mk (Kd.R_below (rS HO367.out) hb)
            have n8_ := Aside0.mk (Kd.R_lower ho0 (below_size (by repeat (first | (with_reducible first | exact HB.out | apply below_alloc | apply pw_below_drewN | apply below_drew1 | refine below_set ?_ GE340.out | refine below_set ?_ GE341.out) | exact HB.out))))
            have n9_ := Aside0.mk (Kd.R_lower ho1 (below_size (by repeat (first | (with_reducible first | exact HB.out | apply below_alloc | apply pw_below_drewN | apply below_drew1 | refine below_set ?_ GE340.out | refine below_set ?_ GE341.out) | exact HB.out))))
            have n10_ := Aside0.mk (Kd.R_lower ho2 (below_size (by repeat (first | (with_reducible first | exact HB.out | apply below_alloc | apply pw_below_drewN | apply below_drew1 | refine below_set ?_ GE340.out | refine below_set ?_ GE341.out) | exact HB.out))))
            have n11_ := Aside0.mk (Kd.R_lower ho3 (below_size (by repeat (first | (with_reducible first | exact HB.out | apply below_alloc | apply pw_below_drewN | apply below_drew1 | refine below_set ?_ GE340.out | refine below_set ?_ GE341.out) | exact HB.out))))
            have n12_ := Aside0.mk (Kd.R_lower ho4 (below_size (by repeat (first | (with_reducible first | exact HB.out | apply below_alloc | apply pw_below_drewN | apply below_drew1 | refine below_set ?_ GE340.out | refine below_set ?_ GE341.out) | exact HB.out))))
            have n13_ := Aside0.mk (Kd.R_lower ho5 (below_size (by repeat (first | (with_reducible first | exact HB.out | apply below_alloc | apply pw_below_drewN | apply below_drew1 | refine below_set ?_ GE340.out | refine below_set ?_ GE341.out) | exact HB.out))))
            have n14_ := Aside0.mk (Kd.R_lower ho6 (below_size (by repeat (first | (with_reducible first | exact HB.out | apply below_alloc | apply pw_below_drewN | apply below_drew1 | refine below_set ?_ GE340.out | refine below_set ?_ GE341.out) | exact HB.out))))
            have n15_ := Aside0.mk (Kd.R_lower ho7 (below_size (by repeat (first | (with_reducible first | exact HB.out | apply below_alloc | apply pw_below_drewN | apply below_drew1 | refine below_set ?_ GE340.out | refine below_set ?_ GE341.out) | exact HB.out))))
            have n16_ := Aside0.mk (blk_below (g := gb340) (o := .cells #[.slice A0_0 l0_0.length c0_0, .slice A0_1 l0_1.length c0_1, .slice A0_2 l0_2.length c0_2, .slice A0_3 l0_3.length c0_3, .slice A0_4 l0_4.length c0_4, .slice A0_5 l0_5.length c0_5, .slice A0_6 l0_6.length c0_6, .slice A0_7 l0_7.length c0_7, .bool a0_8, .bool a0_9] 63 (0, 0)) (by (with_reducible repeat (first | refine blk_drewN ?_ _ | refine blk_drew ?_ | refine blk_alloc ?_ _)); exact BK340.out) hb)
            have n17_ := Aside0.mk (blk_below (g := gb341) (o := .cells #[.slice A1_0 l1_0.length c1_0, .slice A1_1 l1_1.length c1_1, .slice A1_2 l1_2.length c1_2, .slice A1_3 l1_3.length c1_3, .slice A1_4 l1_4.length c1_4, .slice A1_5 l1_5.length c1_5, .slice A1_6 l1_6.length c1_6, .slice A1_7 l1_7.length c1_7, .bool a1_8, .bool a1_9] 63 (0, 0)) (by (with_reducible repeat (first | refine blk_drewN ?_ _ | refine blk_drew ?_ | refine blk_alloc ?_ _)); exact BK341.out) hb)
            have n18_ := Aside0.mk (below_step (by repeat (first | (with_reducible first | exact HB.out | apply below_alloc | apply pw_below_drewN | apply below_drew1 | refine below_set ?_ GE340.out | refine below_set ?_ GE341.out) | exact HB.out)) hb)
            clear HO346
            clear HO349
            clear HO352
            clear HO355
            clear HO358
            clear HO361
            clear HO364
            clear HO367
            clear BK340
            clear BK341
            clear HB
            have HO346 := n0_
            have HO349 := n1_
            have HO352 := n2_
            have HO355 := n3_
            have HO358 := n4_
            have HO361 := n5_
            have HO364 := n6_
            have HO367 := n7_
            have HO372 := n8_
            have HO375 := n9_
            have HO378 := n10_
            have HO381 := n11_
            have HO384 := n12_
            have HO387 := n13_
            have HO390 := n14_
            have HO393 := n15_
            have BK340 := n16_
            have BK341 := n17_
            have HB := n18_
            clear n0_ n1_ n2_ n3_ n4_ n5_ n6_ n7_ n8_ n9_ n10_ n11_ n12_ n13_ n14_ n15_ n16_ n17_ n18_
            (try clear hb)
            (try clear hb2)
            (try clear hk)
            (try clear hi)
            (try clear ho0)
            (try clear ho1)
            (try clear ho2)
            (try clear ho3)
            (try clear ho4)
            (try clear ho5)
            (try clear ho6)
            (try clear ho7)
            obtain ⟨Ao42, co42, eo42⟩ := Kd.R_slice HO346.out
            (first | subst eo42 | (injection eo42 with f1_ f2_ f3_; have f4_ := f1_.symm; have f5_ := f3_.symm; clear f1_ f2_ f3_; subst f4_; subst f5_))
            obtain ⟨Ao43, co43, eo43⟩ := Kd.R_slice HO349.out
            (first | subst eo43 | (injection eo43 with f1_ f2_ f3_; have f4_ := f1_.symm; have f5_ := f3_.symm; clear f1_ f2_ f3_; subst f4_; subst f5_))
            obtain ⟨Ao44, co44, eo44⟩ := Kd.R_slice HO352.out
            (first | subst eo44 | (injection eo44 with f1_ f2_ f3_; have f4_ := f1_.symm; have f5_ := f3_.symm; clear f1_ f2_ f3_; subst f4_; subst f5_))
            obtain ⟨Ao45, co45, eo45⟩ := Kd.R_slice HO355.out
            (first | subst eo45 | (injection eo45 with f1_ f2_ f3_; have f4_ := f1_.symm; have f5_ := f3_.symm; clear f1_ f2_ f3_; subst f4_; subst f5_))
            obtain ⟨Ao46, co46, eo46⟩ := Kd.R_slice HO358.out
            (first | subst eo46 | (injection eo46 with f1_ f2_ f3_; have f4_ := f1_.symm; have f5_ := f3_.symm; clear f1_ f2_ f3_; subst f4_; subst f5_))
            obtain ⟨Ao47, co47, eo47⟩ := Kd.R_slice HO361.out
            (first | subst eo47 | (injection eo47 with f1_ f2_ f3_; have f4_ := f1_.symm; have f5_ := f3_.symm; clear f1_ f2_ f3_; subst f4_; subst f5_))
            obtain ⟨Ao48, co48, eo48⟩ := Kd.R_slice HO364.out
            (first | subst eo48 | (injection eo48 with f1_ f2_ f3_; have f4_ := f1_.symm; have f5_ := f3_.symm; clear f1_ f2_ f3_; subst f4_; subst f5_))
            obtain ⟨Ao49, co49, eo49⟩ := Kd.R_slice HO367.out
            (first | subst eo49 | (injection eo49 with f1_ f2_ f3_; have f4_ := f1_.symm; have f5_ := f3_.symm; clear f1_ f2_ f3_; subst f4_; subst f5_))
            obtain ⟨Ao50, co50, eo50⟩ := Kd.R_slice HO372.out
            (first | subst eo50 | (injection eo50 with f1_ f2_ f3_; have f4_ := f1_.symm; have f5_ := f3_.symm; clear f1_ f2_ f3_; subst f4_; subst f5_))
            obtain ⟨Ao51, co51, eo51⟩ := Kd.R_slice HO375.out
            (first | subst eo51 | (injection eo51 with f1_ f2_ f3_; have f4_ := f1_.symm; have f5_ := f3_.symm; clear f1_ f2_ f3_; subst f4_; subst f5_))
            obtain ⟨Ao52, co52, eo52⟩ := Kd.R_slice HO378.out
            (first | subst eo52 | (injection eo52 with f1_ f2_ f3_; have f4_ := f1_.symm; have f5_ := f3_.symm; clear f1_ f2_ f3_; subst f4_; subst f5_))
            obtain ⟨Ao53, co53, eo53⟩ := Kd.R_slice HO381.out
            (first | subst eo53 | (injection eo53 with f1_ f2_ f3_; have f4_ := f1_.symm; have f5_ := f3_.symm; clear f1_ f2_ f3_; subst f4_; subst f5_))
            obtain ⟨Ao54, co54, eo54⟩ := Kd.R_slice HO384.out
            (first | subst eo54 | (injection eo54 with f1_ f2_ f3_; have f4_ := f1_.symm; have f5_ := f3_.symm; clear f1_ f2_ f3_; subst f4_; subst f5_))
            obtain ⟨Ao55, co55, eo55⟩ := Kd.R_slice HO387.out
            (first | subst eo55 | (injection eo55 with f1_ f2_ f3_; have f4_ := f1_.symm; have f5_ := f3_.symm; clear f1_ f2_ f3_; subst f4_; subst f5_))
            obtain ⟨Ao56, co56, eo56⟩ := Kd.R_slice HO390.out
            (first | subst eo56 | (injection eo56 with f1_ f2_ f3_; have f4_ := f1_.symm; have f5_ := f3_.symm; clear f1_ f2_ f3_; subst f4_; subst f5_))
            obtain ⟨Ao57, co57, eo57⟩ := Kd.R_slice HO393.out
            (first | subst eo57 | (injection eo57 with f1_ f2_ f3_; have f4_ := f1_.symm; have f5_ := f3_.symm; clear f1_ f2_ f3_; subst f4_; subst f5_))
            refine hK.out _ _ ⟨(blk_cell BK340.out 0).trans rfl, (blk_cell BK340.out 1).trans rfl, (blk_cell BK340.out 2).trans rfl, (blk_cell BK340.out 3).trans rfl, (blk_cell BK340.out 4).trans rfl, (blk_cell BK340.out 5).trans rfl, (blk_cell BK340.out 6).trans rfl, (blk_cell BK340.out 7).trans rfl, (blk_cell BK340.out 8).trans rfl, (blk_cell BK340.out 9).trans rfl, (blk_cell BK341.out 0).trans rfl, (blk_cell BK341.out 1).trans rfl, (blk_cell BK341.out 2).trans rfl, (blk_cell BK341.out 3).trans rfl, (blk_cell BK341.out 4).trans rfl, (blk_cell BK341.out 5).trans rfl, (blk_cell BK341.out 6).trans rfl, (blk_cell BK341.out 7).trans rfl, (blk_cell BK341.out 8).trans rfl, (blk_cell BK341.out 9).trans rfl⟩ (fun hHeld => ?_)
            clear hK K
            refine norm_ (a' := ?_) ?_ ?_
            rotate_left
            · show Act.put _ (some 23) _ = _
              simp only [Act.put, List.setIfInBounds_toArray, List.set_cons_zero, List.set_cons_succ, i64_w, i32_w]
              rfl
            refine one_ (i := 4) (N := some 24) #[true, true, true, true, true, false] rfl rfl (by kernel_rfl) (by decide) (fun K hK => ?_)
            refine goes_ Try.func38 (by kernel_rfl) rfl #[.agg #[.slice Ao42 t344.length co42, .slice Ao43 t347.length co43, .slice Ao44 t350.length co44, .slice Ao45 t353.length co45, .slice Ao46 t356.length co46, .slice Ao47 t359.length co47, .slice Ao48 t362.length co48, .slice Ao49 t365.length co49, .bool t368, .bool t369], .agg #[.slice Ao50 t370.length co50, .slice Ao51 t373.length co51, .slice Ao52 t376.length co52, .slice Ao53 t379.length co53, .slice Ao54 t382.length co54, .slice Ao55 t385.length co55, .slice Ao56 t388.length co56, .slice Ao57 t391.length co57, .bool t394, .bool t395]] (by rfl) rfl rfl (by (try simp only [List.map_toArray, List.map_cons, List.map_nil]); first | done | rfl | (simp only [List.length_drop, List.length_take]; rfl)) ?_
            with_reducible refine (spec_Apart.calls k _ _ t344 _ _ t347 _ _ t350 _ _ t353 _ _ t356 _ _ t359 _ _ t362 _ _ t365 t368 t369 _ _ t370 _ _ t373 _ _ t376 _ _ t379 _ _ t382 _ _ t385 _ _ t388 _ _ t391 t394 t395 t396 _ ?side1 ?side2 ?side3 ?side4 ?side5 ?side6 ?side7 ?side8 ?side9 ?side10 ?side11 ?side12 ?side13 ?side14 ?side15 ?side16 ?side17 ?side18 ?side19 ?side20 ?side21 ?side22 ?side23 ?side24 ?side25 ?side26 ?side27 ?side28 ?side29 ?side30 ?side31 ?side32 A21.out).mono ?_
            (case side1 => repeat (first | exact (Kd.R_reads' HO346.out).2.2 | (with_reducible refine Kd.C_alloc ?_ _) | (with_reducible refine Kd.C_drewN ?_ _) | (with_reducible refine Kd.C_drew ?_)))
            (case side2 => exact (Kd.R_reads' HO346.out).2.1)
            (case side3 => repeat (first | exact (Kd.R_reads' HO349.out).2.2 | (with_reducible refine Kd.C_alloc ?_ _) | (with_reducible refine Kd.C_drewN ?_ _) | (with_reducible refine Kd.C_drew ?_)))
            (case side4 => exact (Kd.R_reads' HO349.out).2.1)
            (case side5 => repeat (first | exact (Kd.R_reads' HO352.out).2.2 | (with_reducible refine Kd.C_alloc ?_ _) | (with_reducible refine Kd.C_drewN ?_ _) | (with_reducible refine Kd.C_drew ?_)))
            (case side6 => exact (Kd.R_reads' HO352.out).2.1)
            (case side7 => repeat (first | exact (Kd.R_reads' HO355.out).2.2 | (with_reducible refine Kd.C_alloc ?_ _) | (with_reducible refine Kd.C_drewN ?_ _) | (with_reducible refine Kd.C_drew ?_)))
            (case side8 => exact (Kd.R_reads' HO355.out).2.1)
            (case side9 => repeat (first | exact (Kd.R_reads' HO358.out).2.2 | (with_reducible refine Kd.C_alloc ?_ _) | (with_reducible refine Kd.C_drewN ?_ _) | (with_reducible refine Kd.C_drew ?_)))
            (case side10 => exact (Kd.R_reads' HO358.out).2.1)
            (case side11 => repeat (first | exact (Kd.R_reads' HO361.out).2.2 | (with_reducible refine Kd.C_alloc ?_ _) | (with_reducible refine Kd.C_drewN ?_ _) | (with_reducible refine Kd.C_drew ?_)))
            (case side12 => exact (Kd.R_reads' HO361.out).2.1)
            (case side13 => repeat (first | exact (Kd.R_reads' HO364.out).2.2 | (with_reducible refine Kd.C_alloc ?_ _) | (with_reducible refine Kd.C_drewN ?_ _) | (with_reducible refine Kd.C_drew ?_)))
            (case side14 => exact (Kd.R_reads' HO364.out).2.1)
            (case side15 => repeat (first | exact (Kd.R_reads' HO367.out).2.2 | (with_reducible refine Kd.C_alloc ?_ _) | (with_reducible refine Kd.C_drewN ?_ _) | (with_reducible refine Kd.C_drew ?_)))
            (case side16 => exact (Kd.R_reads' HO367.out).2.1)
            (case side17 => repeat (first | exact (Kd.R_reads' HO372.out).2.2 | (with_reducible refine Kd.C_alloc ?_ _) | (with_reducible refine Kd.C_drewN ?_ _) | (with_reducible refine Kd.C_drew ?_)))
            (case side18 => exact (Kd.R_reads' HO372.out).2.1)
            (case side19 => repeat (first | exact (Kd.R_reads' HO375.out).2.2 | (with_reducible refine Kd.C_alloc ?_ _) | (with_reducible refine Kd.C_drewN ?_ _) | (with_reducible refine Kd.C_drew ?_)))
            (case side20 => exact (Kd.R_reads' HO375.out).2.1)
            (case side21 => repeat (first | exact (Kd.R_reads' HO378.out).2.2 | (with_reducible refine Kd.C_alloc ?_ _) | (with_reducible refine Kd.C_drewN ?_ _) | (with_reducible refine Kd.C_drew ?_)))
            (case side22 => exact (Kd.R_reads' HO378.out).2.1)
            (case side23 => repeat (first | exact (Kd.R_reads' HO381.out).2.2 | (with_reducible refine Kd.C_alloc ?_ _) | (with_reducible refine Kd.C_drewN ?_ _) | (with_reducible refine Kd.C_drew ?_)))
            (case side24 => exact (Kd.R_reads' HO381.out).2.1)
            (case side25 => repeat (first | exact (Kd.R_reads' HO384.out).2.2 | (with_reducible refine Kd.C_alloc ?_ _) | (with_reducible refine Kd.C_drewN ?_ _) | (with_reducible refine Kd.C_drew ?_)))
            (case side26 => exact (Kd.R_reads' HO384.out).2.1)
            (case side27 => repeat (first | exact (Kd.R_reads' HO387.out).2.2 | (with_reducible refine Kd.C_alloc ?_ _) | (with_reducible refine Kd.C_drewN ?_ _) | (with_reducible refine Kd.C_drew ?_)))
            (case side28 => exact (Kd.R_reads' HO387.out).2.1)
            (case side29 => repeat (first | exact (Kd.R_reads' HO390.out).2.2 | (with_reducible refine Kd.C_alloc ?_ _) | (with_reducible refine Kd.C_drewN ?_ _) | (with_reducible refine Kd.C_drew ?_)))
            (case side30 => exact (Kd.R_reads' HO390.out).2.1)
            (case side31 => repeat (first | exact (Kd.R_reads' HO393.out).2.2 | (with_reducible refine Kd.C_alloc ?_ _) | (with_reducible refine Kd.C_drewN ?_ _) | (with_reducible refine Kd.C_drew ?_)))
            (case side32 => exact (Kd.R_reads' HO393.out).2.1)
            rintro e w58 ⟨rfl, hb⟩
            refine ⟨_, rfl, ?_⟩
            have n0_ := Aside0.mk (Kd.R_below (rS HO346.out) hb)
            have n1_ := Aside0.mk (Kd.R_below (rS HO349.out) hb)
            have n2_ := Aside0.mk (Kd.R_below (rS HO352.out) hb)
            have n3_ := Aside0.mk (Kd.R_below (rS HO355.out) hb)
            have n4_ := Aside0.mk (Kd.R_below (rS HO358.out) hb)
            have n5_ := Aside0.mk (Kd.R_below (rS HO361.out) hb)
            have n6_ := Aside0.mk (Kd.R_below (rS HO364.out) hb)
            have n7_ := Aside0.mk (Kd.R_below (rS HO367.out) hb)
            have n8_ := Aside0.mk (Kd.R_below (rS HO372.out) hb)
            have n9_ := Aside0.mk (Kd.R_below (rS HO375.out) hb)
            have n10_ := Aside0.mk (Kd.R_below (rS HO378.out) hb)
            have n11_ := Aside0.mk (Kd.R_below (rS HO381.out) hb)
            have n12_ := Aside0.mk (Kd.R_below (rS HO384.out) hb)
            have n13_ := Aside0.mk (Kd.R_below (rS HO387.out) hb)
            have n14_ := Aside0.mk (Kd.R_below (rS HO390.out) hb)
            have n15_ := Aside0.mk (Kd.R_below (rS HO393.out) hb)
            have n16_ := Aside0.mk (blk_below (g := gb340) (o := .cells #[.slice A0_0 l0_0.length c0_0, .slice A0_1 l0_1.length c0_1, .slice A0_2 l0_2.length c0_2, .slice A0_3 l0_3.length c0_3, .slice A0_4 l0_4.length c0_4, .slice A0_5 l0_5.length c0_5, .slice A0_6 l0_6.length c0_6, .slice A0_7 l0_7.length c0_7, .bool a0_8, .bool a0_9] 63 (0, 0)) (by (with_reducible repeat (first | refine blk_drewN ?_ _ | refine blk_drew ?_ | refine blk_alloc ?_ _)); exact BK340.out) hb)
            have n17_ := Aside0.mk (blk_below (g := gb341) (o := .cells #[.slice A1_0 l1_0.length c1_0, .slice A1_1 l1_1.length c1_1, .slice A1_2 l1_2.length c1_2, .slice A1_3 l1_3.length c1_3, .slice A1_4 l1_4.length c1_4, .slice A1_5 l1_5.length c1_5, .slice A1_6 l1_6.length c1_6, .slice A1_7 l1_7.length c1_7, .bool a1_8, .bool a1_9] 63 (0, 0)) (by (with_reducible repeat (first | refine blk_drewN ?_ _ | refine blk_drew ?_ | refine blk_alloc ?_ _)); exact BK341.out) hb)
            have n18_ := Aside0.mk (below_step (by repeat (first | (with_reducible first | exact HB.out | apply below_alloc | apply pw_below_drewN | apply below_drew1 | refine below_set ?_ GE340.out | refine below_set ?_ GE341.out) | exact HB.out)) hb)
            clear HO346
            clear HO349
            clear HO352
            clear HO355
            clear HO358
            clear HO361
            clear HO364
            clear HO367
            clear HO372
            clear HO375
            clear HO378
            clear HO381
            clear HO384
            clear HO387
            clear HO390
            clear HO393
            clear BK340
            clear BK341
            clear HB
            have HO346 := n0_
            have HO349 := n1_
            have HO352 := n2_
            have HO355 := n3_
            have HO358 := n4_
            have HO361 := n5_
            have HO364 := n6_
            have HO367 := n7_
            have HO372 := n8_
            have HO375 := n9_
            have HO378 := n10_
            have HO381 := n11_
            have HO384 := n12_
            have HO387 := n13_
            have HO390 := n14_
            have HO393 := n15_
            have BK340 := n16_
            have BK341 := n17_
            have HB := n18_
            clear n0_ n1_ n2_ n3_ n4_ n5_ n6_ n7_ n8_ n9_ n10_ n11_ n12_ n13_ n14_ n15_ n16_ n17_ n18_
            (try clear hb)
            (try clear hb2)
            (try clear hk)
            (try clear hi)
            refine hK.out _ _ ⟨(blk_cell BK340.out 0).trans rfl, (blk_cell BK340.out 1).trans rfl, (blk_cell BK340.out 2).trans rfl, (blk_cell BK340.out 3).trans rfl, (blk_cell BK340.out 4).trans rfl, (blk_cell BK340.out 5).trans rfl, (blk_cell BK340.out 6).trans rfl, (blk_cell BK340.out 7).trans rfl, (blk_cell BK340.out 8).trans rfl, (blk_cell BK340.out 9).trans rfl, (blk_cell BK341.out 0).trans rfl, (blk_cell BK341.out 1).trans rfl, (blk_cell BK341.out 2).trans rfl, (blk_cell BK341.out 3).trans rfl, (blk_cell BK341.out 4).trans rfl, (blk_cell BK341.out 5).trans rfl, (blk_cell BK341.out 6).trans rfl, (blk_cell BK341.out 7).trans rfl, (blk_cell BK341.out 8).trans rfl, (blk_cell BK341.out 9).trans rfl⟩ (fun hHeld => ?_)
            clear hK K
            refine norm_ (a' := ?_) ?_ ?_
            rotate_left
            · show Act.put _ (some 24) _ = _
              simp only [Act.put, List.setIfInBounds_toArray, List.set_cons_zero, List.set_cons_succ, i64_w, i32_w]
              rfl
            refine pure_ (i := 5) (N := some 6) (v := ?_) (a' := ?_) #[true, true, true, true, true, true] rfl rfl (by kernel_rfl) (fun _ _ _ h => h) (Or.inl ⟨by rfl, ?_⟩) ?_ ?_
            rotate_left
            · intro w'
              go_simp
              with_reducible rfl
            rotate_left
            · simp only [Act.put, List.setIfInBounds_toArray, List.set_cons_zero, List.set_cons_succ, i64_w, i32_w]
              rfl
            refine done_ (by kernel_rfl) ?_
            have hcz59_0 : w58.cell? ⟨gb340, 0, none⟩ = some (.slice A0_0 l0_0.length c0_0) := (blk_cell BK340.out 0).trans rfl
            have hcz59_1 : w58.cell? ⟨gb340, 1, none⟩ = some (.slice A0_1 l0_1.length c0_1) := (blk_cell BK340.out 1).trans rfl
            have hcz59_2 : w58.cell? ⟨gb340, 2, none⟩ = some (.slice A0_2 l0_2.length c0_2) := (blk_cell BK340.out 2).trans rfl
            have hcz59_3 : w58.cell? ⟨gb340, 3, none⟩ = some (.slice A0_3 l0_3.length c0_3) := (blk_cell BK340.out 3).trans rfl
            have hcz59_4 : w58.cell? ⟨gb340, 4, none⟩ = some (.slice A0_4 l0_4.length c0_4) := (blk_cell BK340.out 4).trans rfl
            have hcz59_5 : w58.cell? ⟨gb340, 5, none⟩ = some (.slice A0_5 l0_5.length c0_5) := (blk_cell BK340.out 5).trans rfl
            have hcz59_6 : w58.cell? ⟨gb340, 6, none⟩ = some (.slice A0_6 l0_6.length c0_6) := (blk_cell BK340.out 6).trans rfl
            have hcz59_7 : w58.cell? ⟨gb340, 7, none⟩ = some (.slice A0_7 l0_7.length c0_7) := (blk_cell BK340.out 7).trans rfl
            have hcz59_8 : w58.cell? ⟨gb340, 8, none⟩ = some (.bool a0_8) := (blk_cell BK340.out 8).trans rfl
            have hcz59_9 : w58.cell? ⟨gb340, 9, none⟩ = some (.bool a0_9) := (blk_cell BK340.out 9).trans rfl
            have hfz59_0 := blk_frozen BK340.out 0
            have hfz59_1 := blk_frozen BK340.out 1
            have hfz59_2 := blk_frozen BK340.out 2
            have hfz59_3 := blk_frozen BK340.out 3
            have hfz59_4 := blk_frozen BK340.out 4
            have hfz59_5 := blk_frozen BK340.out 5
            have hfz59_6 := blk_frozen BK340.out 6
            have hfz59_7 := blk_frozen BK340.out 7
            have hfz59_8 := blk_frozen BK340.out 8
            have hfz59_9 := blk_frozen BK340.out 9
            try go_wp2_with (first | ((with_reducible refine gate_callee (f := 39) rfl ?_); refine goesL_ (some 26) rfl rfl Try.func39 (by kernel_rfl) rfl #[.agg #[.slice A0_0 l0_0.length c0_0, .slice A0_1 l0_1.length c0_1, .slice A0_2 l0_2.length c0_2, .slice A0_3 l0_3.length c0_3, .slice A0_4 l0_4.length c0_4, .slice A0_5 l0_5.length c0_5, .slice A0_6 l0_6.length c0_6, .slice A0_7 l0_7.length c0_7, .bool a0_8, .bool a0_9]] rfl (by (try simp only [List.map_toArray, List.map_cons, List.map_nil]); first | done | rfl | (simp only [List.length_drop, List.length_take]; rfl)) ?_; (with_reducible refine (laws_toEffect.calls k _ _ l0_0 _ _ l0_1 _ _ l0_2 _ _ l0_3 _ _ l0_4 _ _ l0_5 _ _ l0_6 _ _ l0_7 a0_8 a0_9 t397 t400 t403 t406 t409 t412 t415 t418 t421 t422 _ ?side1 ?side2 ?side3 ?side4 ?side5 ?side6 ?side7 ?side8 ?side9 ?side10 ?side11 ?side12 ?side13 ?side14 ?side15 ?side16 A22.out).mono ?_); (case side1 => exact cS (Kd.C_below HR0_0.out HB.out)); (case side2 => exact HC0_0.out); (case side3 => exact cS (Kd.C_below HR0_1.out HB.out)); (case side4 => exact HC0_1.out); (case side5 => exact cS (Kd.C_below HR0_2.out HB.out)); (case side6 => exact HC0_2.out); (case side7 => exact cS (Kd.C_below HR0_3.out HB.out)); (case side8 => exact HC0_3.out); (case side9 => exact cS (Kd.C_below HR0_4.out HB.out)); (case side10 => exact HC0_4.out); (case side11 => exact cS (Kd.C_below HR0_5.out HB.out)); (case side12 => exact HC0_5.out); (case side13 => exact cS (Kd.C_below HR0_6.out HB.out)); (case side14 => exact HC0_6.out); (case side15 => exact cS (Kd.C_below HR0_7.out HB.out)); (case side16 => exact HC0_7.out); rintro e w60 ⟨v398, v401, v404, v407, v410, v413, v416, v419, rfl, ho0, ho1, ho2, ho3, ho4, ho5, ho6, ho7, hb⟩; refine ⟨_, rfl, ?_⟩; have n0_ := Aside0.mk (Kd.R_lower ho0 (below_size (by repeat (first | (with_reducible first | exact HB.out | apply below_alloc | apply pw_below_drewN | apply below_drew1 | refine below_set ?_ GE340.out | refine below_set ?_ GE341.out) | exact HB.out)))); have n1_ := Aside0.mk (Kd.R_lower ho1 (below_size (by repeat (first | (with_reducible first | exact HB.out | apply below_alloc | apply pw_below_drewN | apply below_drew1 | refine below_set ?_ GE340.out | refine below_set ?_ GE341.out) | exact HB.out)))); have n2_ := Aside0.mk (Kd.R_lower ho2 (below_size (by repeat (first | (with_reducible first | exact HB.out | apply below_alloc | apply pw_below_drewN | apply below_drew1 | refine below_set ?_ GE340.out | refine below_set ?_ GE341.out) | exact HB.out)))); have n3_ := Aside0.mk (Kd.R_lower ho3 (below_size (by repeat (first | (with_reducible first | exact HB.out | apply below_alloc | apply pw_below_drewN | apply below_drew1 | refine below_set ?_ GE340.out | refine below_set ?_ GE341.out) | exact HB.out)))); have n4_ := Aside0.mk (Kd.R_lower ho4 (below_size (by repeat (first | (with_reducible first | exact HB.out | apply below_alloc | apply pw_below_drewN | apply below_drew1 | refine below_set ?_ GE340.out | refine below_set ?_ GE341.out) | exact HB.out)))); have n5_ := Aside0.mk (Kd.R_lower ho5 (below_size (by repeat (first | (with_reducible first | exact HB.out | apply below_alloc | apply pw_below_drewN | apply below_drew1 | refine below_set ?_ GE340.out | refine below_set ?_ GE341.out) | exact HB.out)))); have n6_ := Aside0.mk (Kd.R_lower ho6 (below_size (by repeat (first | (with_reducible first | exact HB.out | apply below_alloc | apply pw_below_drewN | apply below_drew1 | refine below_set ?_ GE340.out | refine below_set ?_ GE341.out) | exact HB.out)))); have n7_ := Aside0.mk (Kd.R_lower ho7 (below_size (by repeat (first | (with_reducible first | exact HB.out | apply below_alloc | apply pw_below_drewN | apply below_drew1 | refine below_set ?_ GE340.out | refine below_set ?_ GE341.out) | exact HB.out)))); have n8_ := Aside0.mk (blk_below (g := gb340) (o := .cells #[.slice A0_0 l0_0.length c0_0, .slice A0_1 l0_1.length c0_1, .slice A0_2 l0_2.length c0_2, .slice A0_3 l0_3.length c0_3, .slice A0_4 l0_4.length c0_4, .slice A0_5 l0_5.length c0_5, .slice A0_6 l0_6.length c0_6, .slice A0_7 l0_7.length c0_7, .bool a0_8, .bool a0_9] 63 (0, 0)) (by (with_reducible repeat (first | refine blk_drewN ?_ _ | refine blk_drew ?_ | refine blk_alloc ?_ _)); exact BK340.out) hb); have n9_ := Aside0.mk (blk_below (g := gb341) (o := .cells #[.slice A1_0 l1_0.length c1_0, .slice A1_1 l1_1.length c1_1, .slice A1_2 l1_2.length c1_2, .slice A1_3 l1_3.length c1_3, .slice A1_4 l1_4.length c1_4, .slice A1_5 l1_5.length c1_5, .slice A1_6 l1_6.length c1_6, .slice A1_7 l1_7.length c1_7, .bool a1_8, .bool a1_9] 63 (0, 0)) (by (with_reducible repeat (first | refine blk_drewN ?_ _ | refine blk_drew ?_ | refine blk_alloc ?_ _)); exact BK341.out) hb); have n10_ := Aside0.mk (below_step (by repeat (first | (with_reducible first | exact HB.out | apply below_alloc | apply pw_below_drewN | apply below_drew1 | refine below_set ?_ GE340.out | refine below_set ?_ GE341.out) | exact HB.out)) hb); clear BK340; clear BK341; clear HB; have HO399 := n0_; have HO402 := n1_; have HO405 := n2_; have HO408 := n3_; have HO411 := n4_; have HO414 := n5_; have HO417 := n6_; have HO420 := n7_; have BK340 := n8_; have BK341 := n9_; have HB := n10_; clear n0_ n1_ n2_ n3_ n4_ n5_ n6_ n7_ n8_ n9_ n10_; (try clear hb); (try clear hb2); (try clear hk); (try clear hi); (try clear ho0); (try clear ho1); (try clear ho2); (try clear ho3); (try clear ho4); (try clear ho5); (try clear ho6); (try clear ho7)) | ((with_reducible refine gate_dst (N := 7) rfl ?_); refine box_event ?hg (N := 7) ?hd (cs := #[.slice none 0 0, .slice none 0 0, .slice none 0 0, .slice none 0 0, .slice none 0 0, .slice none 0 0, .slice none 0 0, .slice none 0 0, .bool false, .bool false]) (t := 43) ?hr ?_; (case hd => rfl); (case hg => rfl); (case hr => first | (go_simp; done) | (go_simp; rfl)); intro gb423 hg w61 hbox hb; have n0_ := Aside0.mk (Kd.R_below (rS HO399.out) hb); have n1_ := Aside0.mk (Kd.R_below (rS HO402.out) hb); have n2_ := Aside0.mk (Kd.R_below (rS HO405.out) hb); have n3_ := Aside0.mk (Kd.R_below (rS HO408.out) hb); have n4_ := Aside0.mk (Kd.R_below (rS HO411.out) hb); have n5_ := Aside0.mk (Kd.R_below (rS HO414.out) hb); have n6_ := Aside0.mk (Kd.R_below (rS HO417.out) hb); have n7_ := Aside0.mk (Kd.R_below (rS HO420.out) hb); have n8_ := Aside0.mk (blk_below (g := gb340) (o := .cells #[.slice A0_0 l0_0.length c0_0, .slice A0_1 l0_1.length c0_1, .slice A0_2 l0_2.length c0_2, .slice A0_3 l0_3.length c0_3, .slice A0_4 l0_4.length c0_4, .slice A0_5 l0_5.length c0_5, .slice A0_6 l0_6.length c0_6, .slice A0_7 l0_7.length c0_7, .bool a0_8, .bool a0_9] 63 (0, 0)) (by (with_reducible repeat (first | refine blk_drewN ?_ _ | refine blk_drew ?_ | refine blk_alloc ?_ _)); exact BK340.out) hb); have n9_ := Aside0.mk (blk_below (g := gb341) (o := .cells #[.slice A1_0 l1_0.length c1_0, .slice A1_1 l1_1.length c1_1, .slice A1_2 l1_2.length c1_2, .slice A1_3 l1_3.length c1_3, .slice A1_4 l1_4.length c1_4, .slice A1_5 l1_5.length c1_5, .slice A1_6 l1_6.length c1_6, .slice A1_7 l1_7.length c1_7, .bool a1_8, .bool a1_9] 63 (0, 0)) (by (with_reducible repeat (first | refine blk_drewN ?_ _ | refine blk_drew ?_ | refine blk_alloc ?_ _)); exact BK341.out) hb); have n10_ := Aside0.mk (below_step (by repeat (first | (with_reducible first | exact HB.out | apply below_alloc | apply pw_below_drewN | apply below_drew1 | refine below_set ?_ GE340.out | refine below_set ?_ GE341.out) | exact HB.out)) hb); have n11_ := Aside0.mk (hbox); have n12_ := Aside0.mk ((by rw [hg]; exact (below_size (by repeat (first | (with_reducible first | exact HB.out | apply below_alloc | apply pw_below_drewN | apply below_drew1 | refine below_set ?_ GE340.out | refine below_set ?_ GE341.out) | exact HB.out))) : w.heap.size ≤ gb423)); have n13_ := Aside0.mk ((by rw [hg]; exact (below_size (by repeat (first | (with_reducible first | exact HB.out | apply below_alloc | apply pw_below_drewN | apply below_drew1 | refine below_set ?_ GE340.out | refine below_set ?_ GE341.out) | exact HB.out))) : w.heap.size ≤ gb423)); have n14_ := Aside0.mk ((by rw [hg]; exact Nat.ne_of_lt (blk_lt (g := gb340) (o := .cells #[.slice A0_0 l0_0.length c0_0, .slice A0_1 l0_1.length c0_1, .slice A0_2 l0_2.length c0_2, .slice A0_3 l0_3.length c0_3, .slice A0_4 l0_4.length c0_4, .slice A0_5 l0_5.length c0_5, .slice A0_6 l0_6.length c0_6, .slice A0_7 l0_7.length c0_7, .bool a0_8, .bool a0_9] 63 (0, 0)) (by (with_reducible repeat (first | refine blk_drewN ?_ _ | refine blk_drew ?_ | refine blk_alloc ?_ _)); exact BK340.out)) : gb340 ≠ gb423)); have n15_ := Aside0.mk ((by rw [hg]; exact Nat.ne_of_gt (blk_lt (g := gb340) (o := .cells #[.slice A0_0 l0_0.length c0_0, .slice A0_1 l0_1.length c0_1, .slice A0_2 l0_2.length c0_2, .slice A0_3 l0_3.length c0_3, .slice A0_4 l0_4.length c0_4, .slice A0_5 l0_5.length c0_5, .slice A0_6 l0_6.length c0_6, .slice A0_7 l0_7.length c0_7, .bool a0_8, .bool a0_9] 63 (0, 0)) (by (with_reducible repeat (first | refine blk_drewN ?_ _ | refine blk_drew ?_ | refine blk_alloc ?_ _)); exact BK340.out)) : gb423 ≠ gb340)); have n16_ := Aside0.mk ((by rw [hg]; exact Nat.ne_of_lt (blk_lt (g := gb341) (o := .cells #[.slice A1_0 l1_0.length c1_0, .slice A1_1 l1_1.length c1_1, .slice A1_2 l1_2.length c1_2, .slice A1_3 l1_3.length c1_3, .slice A1_4 l1_4.length c1_4, .slice A1_5 l1_5.length c1_5, .slice A1_6 l1_6.length c1_6, .slice A1_7 l1_7.length c1_7, .bool a1_8, .bool a1_9] 63 (0, 0)) (by (with_reducible repeat (first | refine blk_drewN ?_ _ | refine blk_drew ?_ | refine blk_alloc ?_ _)); exact BK341.out)) : gb341 ≠ gb423)); have n17_ := Aside0.mk ((by rw [hg]; exact Nat.ne_of_gt (blk_lt (g := gb341) (o := .cells #[.slice A1_0 l1_0.length c1_0, .slice A1_1 l1_1.length c1_1, .slice A1_2 l1_2.length c1_2, .slice A1_3 l1_3.length c1_3, .slice A1_4 l1_4.length c1_4, .slice A1_5 l1_5.length c1_5, .slice A1_6 l1_6.length c1_6, .slice A1_7 l1_7.length c1_7, .bool a1_8, .bool a1_9] 63 (0, 0)) (by (with_reducible repeat (first | refine blk_drewN ?_ _ | refine blk_drew ?_ | refine blk_alloc ?_ _)); exact BK341.out)) : gb423 ≠ gb341)); clear HO399; clear HO402; clear HO405; clear HO408; clear HO411; clear HO414; clear HO417; clear HO420; clear BK340; clear BK341; clear HB; have HO399 := n0_; have HO402 := n1_; have HO405 := n2_; have HO408 := n3_; have HO411 := n4_; have HO414 := n5_; have HO417 := n6_; have HO420 := n7_; have BK340 := n8_; have BK341 := n9_; have HB := n10_; have BK423 := n11_; have GW423 := n12_; have GE423 := n13_; have NB340_423 := n14_; have NB423_340 := n15_; have NB341_423 := n16_; have NB423_341 := n17_; clear n0_ n1_ n2_ n3_ n4_ n5_ n6_ n7_ n8_ n9_ n10_ n11_ n12_ n13_ n14_ n15_ n16_ n17_; clear hb hbox hg; obtain ⟨Ao62, co62, eo62⟩ := Kd.R_slice HO399.out; subst eo62; have hnb63 := NB423_340.out; have hnc63 := NB340_423.out; have hnb64 := NB423_341.out; have hnc64 := NB341_423.out; have hcz65_0 : w61.cell? ⟨gb423, 0, none⟩ = some (.slice none 0 0) := (blk_cell BK423.out 0).trans rfl; have hcz65_1 : w61.cell? ⟨gb423, 1, none⟩ = some (.slice none 0 0) := (blk_cell BK423.out 1).trans rfl; have hcz65_2 : w61.cell? ⟨gb423, 2, none⟩ = some (.slice none 0 0) := (blk_cell BK423.out 2).trans rfl; have hcz65_3 : w61.cell? ⟨gb423, 3, none⟩ = some (.slice none 0 0) := (blk_cell BK423.out 3).trans rfl; have hcz65_4 : w61.cell? ⟨gb423, 4, none⟩ = some (.slice none 0 0) := (blk_cell BK423.out 4).trans rfl; have hcz65_5 : w61.cell? ⟨gb423, 5, none⟩ = some (.slice none 0 0) := (blk_cell BK423.out 5).trans rfl; have hcz65_6 : w61.cell? ⟨gb423, 6, none⟩ = some (.slice none 0 0) := (blk_cell BK423.out 6).trans rfl; have hcz65_7 : w61.cell? ⟨gb423, 7, none⟩ = some (.slice none 0 0) := (blk_cell BK423.out 7).trans rfl; have hcz65_8 : w61.cell? ⟨gb423, 8, none⟩ = some (.bool false) := (blk_cell BK423.out 8).trans rfl; have hcz65_9 : w61.cell? ⟨gb423, 9, none⟩ = some (.bool false) := (blk_cell BK423.out 9).trans rfl; have hfz65_0 := blk_frozen BK423.out 0; have hfz65_1 := blk_frozen BK423.out 1; have hfz65_2 := blk_frozen BK423.out 2; have hfz65_3 := blk_frozen BK423.out 3; have hfz65_4 := blk_frozen BK423.out 4; have hfz65_5 := blk_frozen BK423.out 5; have hfz65_6 := blk_frozen BK423.out 6; have hfz65_7 := blk_frozen BK423.out 7; have hfz65_8 := blk_frozen BK423.out 8; have hfz65_9 := blk_frozen BK423.out 9; obtain ⟨Ao66, co66, eo66⟩ := Kd.R_slice HO402.out; subst eo66; obtain ⟨Ao67, co67, eo67⟩ := Kd.R_slice HO405.out; subst eo67; obtain ⟨Ao68, co68, eo68⟩ := Kd.R_slice HO408.out; subst eo68; obtain ⟨Ao69, co69, eo69⟩ := Kd.R_slice HO411.out; subst eo69; obtain ⟨Ao70, co70, eo70⟩ := Kd.R_slice HO414.out; subst eo70; obtain ⟨Ao71, co71, eo71⟩ := Kd.R_slice HO417.out; subst eo71; obtain ⟨Ao72, co72, eo72⟩ := Kd.R_slice HO420.out; subst eo72; have hcz73_0 : w61.cell? ⟨gb341, 0, none⟩ = some (.slice A1_0 l1_0.length c1_0) := (blk_cell BK341.out 0).trans rfl; have hcz73_1 : w61.cell? ⟨gb341, 1, none⟩ = some (.slice A1_1 l1_1.length c1_1) := (blk_cell BK341.out 1).trans rfl; have hcz73_2 : w61.cell? ⟨gb341, 2, none⟩ = some (.slice A1_2 l1_2.length c1_2) := (blk_cell BK341.out 2).trans rfl; have hcz73_3 : w61.cell? ⟨gb341, 3, none⟩ = some (.slice A1_3 l1_3.length c1_3) := (blk_cell BK341.out 3).trans rfl; have hcz73_4 : w61.cell? ⟨gb341, 4, none⟩ = some (.slice A1_4 l1_4.length c1_4) := (blk_cell BK341.out 4).trans rfl; have hcz73_5 : w61.cell? ⟨gb341, 5, none⟩ = some (.slice A1_5 l1_5.length c1_5) := (blk_cell BK341.out 5).trans rfl; have hcz73_6 : w61.cell? ⟨gb341, 6, none⟩ = some (.slice A1_6 l1_6.length c1_6) := (blk_cell BK341.out 6).trans rfl; have hcz73_7 : w61.cell? ⟨gb341, 7, none⟩ = some (.slice A1_7 l1_7.length c1_7) := (blk_cell BK341.out 7).trans rfl; have hcz73_8 : w61.cell? ⟨gb341, 8, none⟩ = some (.bool a1_8) := (blk_cell BK341.out 8).trans rfl; have hcz73_9 : w61.cell? ⟨gb341, 9, none⟩ = some (.bool a1_9) := (blk_cell BK341.out 9).trans rfl; have hfz73_0 := blk_frozen BK341.out 0; have hfz73_1 := blk_frozen BK341.out 1; have hfz73_2 := blk_frozen BK341.out 2; have hfz73_3 := blk_frozen BK341.out 3; have hfz73_4 := blk_frozen BK341.out 4; have hfz73_5 := blk_frozen BK341.out 5; have hfz73_6 := blk_frozen BK341.out 6; have hfz73_7 := blk_frozen BK341.out 7; have hfz73_8 := blk_frozen BK341.out 8; have hfz73_9 := blk_frozen BK341.out 9) | ((with_reducible refine gate_callee (f := 39) rfl ?_); obtain ⟨w74, hW_⟩ : ∃ W_, W_ = ((((((((((w61.setCell ⟨gb423, 0, none⟩ (.slice Ao62 t397.length co62)).setCell ⟨gb423, 1, none⟩ (.slice Ao66 t400.length co66)).setCell ⟨gb423, 2, none⟩ (.slice Ao67 t403.length co67)).setCell ⟨gb423, 3, none⟩ (.slice Ao68 t406.length co68)).setCell ⟨gb423, 4, none⟩ (.slice Ao69 t409.length co69)).setCell ⟨gb423, 5, none⟩ (.slice Ao70 t412.length co70)).setCell ⟨gb423, 6, none⟩ (.slice Ao71 t415.length co71)).setCell ⟨gb423, 7, none⟩ (.slice Ao72 t418.length co72)).setCell ⟨gb423, 8, none⟩ (.bool t421)).setCell ⟨gb423, 9, none⟩ (.bool t422)) := ⟨_, rfl⟩; have n0_ : Aside0 (Kd.R (Kd.int .i64) 3 w74 w.heap.size (fun _ => True) (.slice Ao62 t397.length co62) t397) := ⟨by rw [hW_]; (with_reducible repeat (first | apply Kd.R_alloc | apply Kd.R_drewN | apply Kd.R_drew)); exact Kd.R_mono (Kd.R_far (p := ⟨gb423, 9, none⟩) (Kd.R_far (p := ⟨gb423, 8, none⟩) (Kd.R_far (p := ⟨gb423, 7, none⟩) (Kd.R_far (p := ⟨gb423, 6, none⟩) (Kd.R_far (p := ⟨gb423, 5, none⟩) (Kd.R_far (p := ⟨gb423, 4, none⟩) (Kd.R_far (p := ⟨gb423, 3, none⟩) (Kd.R_far (p := ⟨gb423, 2, none⟩) (Kd.R_far (p := ⟨gb423, 1, none⟩) (Kd.R_far (p := ⟨gb423, 0, none⟩) (Kd.R_types HO399.out BK423.out (by decide)) (fun _ hk => hk.2) (.slice Ao62 t397.length co62)) (fun _ hk => hk.2) (.slice Ao66 t400.length co66)) (fun _ hk => hk.2) (.slice Ao67 t403.length co67)) (fun _ hk => hk.2) (.slice Ao68 t406.length co68)) (fun _ hk => hk.2) (.slice Ao69 t409.length co69)) (fun _ hk => hk.2) (.slice Ao70 t412.length co70)) (fun _ hk => hk.2) (.slice Ao71 t415.length co71)) (fun _ hk => hk.2) (.slice Ao72 t418.length co72)) (fun _ hk => hk.2) (.bool t421)) (fun _ hk => hk.2) (.bool t422)) (fun _ hk => trivial)⟩; have n1_ : Aside0 (Kd.R (Kd.int .i64) 3 w74 w.heap.size (fun _ => True) (.slice Ao66 t400.length co66) t400) := ⟨by rw [hW_]; (with_reducible repeat (first | apply Kd.R_alloc | apply Kd.R_drewN | apply Kd.R_drew)); exact Kd.R_mono (Kd.R_far (p := ⟨gb423, 9, none⟩) (Kd.R_far (p := ⟨gb423, 8, none⟩) (Kd.R_far (p := ⟨gb423, 7, none⟩) (Kd.R_far (p := ⟨gb423, 6, none⟩) (Kd.R_far (p := ⟨gb423, 5, none⟩) (Kd.R_far (p := ⟨gb423, 4, none⟩) (Kd.R_far (p := ⟨gb423, 3, none⟩) (Kd.R_far (p := ⟨gb423, 2, none⟩) (Kd.R_far (p := ⟨gb423, 1, none⟩) (Kd.R_far (p := ⟨gb423, 0, none⟩) (Kd.R_types HO402.out BK423.out (by decide)) (fun _ hk => hk.2) (.slice Ao62 t397.length co62)) (fun _ hk => hk.2) (.slice Ao66 t400.length co66)) (fun _ hk => hk.2) (.slice Ao67 t403.length co67)) (fun _ hk => hk.2) (.slice Ao68 t406.length co68)) (fun _ hk => hk.2) (.slice Ao69 t409.length co69)) (fun _ hk => hk.2) (.slice Ao70 t412.length co70)) (fun _ hk => hk.2) (.slice Ao71 t415.length co71)) (fun _ hk => hk.2) (.slice Ao72 t418.length co72)) (fun _ hk => hk.2) (.bool t421)) (fun _ hk => hk.2) (.bool t422)) (fun _ hk => trivial)⟩; have n2_ : Aside0 (Kd.R (Kd.int .i64) 3 w74 w.heap.size (fun _ => True) (.slice Ao67 t403.length co67) t403) := ⟨by rw [hW_]; (with_reducible repeat (first | apply Kd.R_alloc | apply Kd.R_drewN | apply Kd.R_drew)); exact Kd.R_mono (Kd.R_far (p := ⟨gb423, 9, none⟩) (Kd.R_far (p := ⟨gb423, 8, none⟩) (Kd.R_far (p := ⟨gb423, 7, none⟩) (Kd.R_far (p := ⟨gb423, 6, none⟩) (Kd.R_far (p := ⟨gb423, 5, none⟩) (Kd.R_far (p := ⟨gb423, 4, none⟩) (Kd.R_far (p := ⟨gb423, 3, none⟩) (Kd.R_far (p := ⟨gb423, 2, none⟩) (Kd.R_far (p := ⟨gb423, 1, none⟩) (Kd.R_far (p := ⟨gb423, 0, none⟩) (Kd.R_types HO405.out BK423.out (by decide)) (fun _ hk => hk.2) (.slice Ao62 t397.length co62)) (fun _ hk => hk.2) (.slice Ao66 t400.length co66)) (fun _ hk => hk.2) (.slice Ao67 t403.length co67)) (fun _ hk => hk.2) (.slice Ao68 t406.length co68)) (fun _ hk => hk.2) (.slice Ao69 t409.length co69)) (fun _ hk => hk.2) (.slice Ao70 t412.length co70)) (fun _ hk => hk.2) (.slice Ao71 t415.length co71)) (fun _ hk => hk.2) (.slice Ao72 t418.length co72)) (fun _ hk => hk.2) (.bool t421)) (fun _ hk => hk.2) (.bool t422)) (fun _ hk => trivial)⟩; have n3_ : Aside0 (Kd.R (Kd.int .i64) 3 w74 w.heap.size (fun _ => True) (.slice Ao68 t406.length co68) t406) := ⟨by rw [hW_]; (with_reducible repeat (first | apply Kd.R_alloc | apply Kd.R_drewN | apply Kd.R_drew)); exact Kd.R_mono (Kd.R_far (p := ⟨gb423, 9, none⟩) (Kd.R_far (p := ⟨gb423, 8, none⟩) (Kd.R_far (p := ⟨gb423, 7, none⟩) (Kd.R_far (p := ⟨gb423, 6, none⟩) (Kd.R_far (p := ⟨gb423, 5, none⟩) (Kd.R_far (p := ⟨gb423, 4, none⟩) (Kd.R_far (p := ⟨gb423, 3, none⟩) (Kd.R_far (p := ⟨gb423, 2, none⟩) (Kd.R_far (p := ⟨gb423, 1, none⟩) (Kd.R_far (p := ⟨gb423, 0, none⟩) (Kd.R_types HO408.out BK423.out (by decide)) (fun _ hk => hk.2) (.slice Ao62 t397.length co62)) (fun _ hk => hk.2) (.slice Ao66 t400.length co66)) (fun _ hk => hk.2) (.slice Ao67 t403.length co67)) (fun _ hk => hk.2) (.slice Ao68 t406.length co68)) (fun _ hk => hk.2) (.slice Ao69 t409.length co69)) (fun _ hk => hk.2) (.slice Ao70 t412.length co70)) (fun _ hk => hk.2) (.slice Ao71 t415.length co71)) (fun _ hk => hk.2) (.slice Ao72 t418.length co72)) (fun _ hk => hk.2) (.bool t421)) (fun _ hk => hk.2) (.bool t422)) (fun _ hk => trivial)⟩; have n4_ : Aside0 (Kd.R (Kd.int .i64) 3 w74 w.heap.size (fun _ => True) (.slice Ao69 t409.length co69) t409) := ⟨by rw [hW_]; (with_reducible repeat (first | apply Kd.R_alloc | apply Kd.R_drewN | apply Kd.R_drew)); exact Kd.R_mono (Kd.R_far (p := ⟨gb423, 9, none⟩) (Kd.R_far (p := ⟨gb423, 8, none⟩) (Kd.R_far (p := ⟨gb423, 7, none⟩) (Kd.R_far (p := ⟨gb423, 6, none⟩) (Kd.R_far (p := ⟨gb423, 5, none⟩) (Kd.R_far (p := ⟨gb423, 4, none⟩) (Kd.R_far (p := ⟨gb423, 3, none⟩) (Kd.R_far (p := ⟨gb423, 2, none⟩) (Kd.R_far (p := ⟨gb423, 1, none⟩) (Kd.R_far (p := ⟨gb423, 0, none⟩) (Kd.R_types HO411.out BK423.out (by decide)) (fun _ hk => hk.2) (.slice Ao62 t397.length co62)) (fun _ hk => hk.2) (.slice Ao66 t400.length co66)) (fun _ hk => hk.2) (.slice Ao67 t403.length co67)) (fun _ hk => hk.2) (.slice Ao68 t406.length co68)) (fun _ hk => hk.2) (.slice Ao69 t409.length co69)) (fun _ hk => hk.2) (.slice Ao70 t412.length co70)) (fun _ hk => hk.2) (.slice Ao71 t415.length co71)) (fun _ hk => hk.2) (.slice Ao72 t418.length co72)) (fun _ hk => hk.2) (.bool t421)) (fun _ hk => hk.2) (.bool t422)) (fun _ hk => trivial)⟩; have n5_ : Aside0 (Kd.R (Kd.int .i64) 3 w74 w.heap.size (fun _ => True) (.slice Ao70 t412.length co70) t412) := ⟨by rw [hW_]; (with_reducible repeat (first | apply Kd.R_alloc | apply Kd.R_drewN | apply Kd.R_drew)); exact Kd.R_mono (Kd.R_far (p := ⟨gb423, 9, none⟩) (Kd.R_far (p := ⟨gb423, 8, none⟩) (Kd.R_far (p := ⟨gb423, 7, none⟩) (Kd.R_far (p := ⟨gb423, 6, none⟩) (Kd.R_far (p := ⟨gb423, 5, none⟩) (Kd.R_far (p := ⟨gb423, 4, none⟩) (Kd.R_far (p := ⟨gb423, 3, none⟩) (Kd.R_far (p := ⟨gb423, 2, none⟩) (Kd.R_far (p := ⟨gb423, 1, none⟩) (Kd.R_far (p := ⟨gb423, 0, none⟩) (Kd.R_types HO414.out BK423.out (by decide)) (fun _ hk => hk.2) (.slice Ao62 t397.length co62)) (fun _ hk => hk.2) (.slice Ao66 t400.length co66)) (fun _ hk => hk.2) (.slice Ao67 t403.length co67)) (fun _ hk => hk.2) (.slice Ao68 t406.length co68)) (fun _ hk => hk.2) (.slice Ao69 t409.length co69)) (fun _ hk => hk.2) (.slice Ao70 t412.length co70)) (fun _ hk => hk.2) (.slice Ao71 t415.length co71)) (fun _ hk => hk.2) (.slice Ao72 t418.length co72)) (fun _ hk => hk.2) (.bool t421)) (fun _ hk => hk.2) (.bool t422)) (fun _ hk => trivial)⟩; have n6_ : Aside0 (Kd.R (Kd.int .i64) 3 w74 w.heap.size (fun _ => True) (.slice Ao71 t415.length co71) t415) := ⟨by rw [hW_]; (with_reducible repeat (first | apply Kd.R_alloc | apply Kd.R_drewN | apply Kd.R_drew)); exact Kd.R_mono (Kd.R_far (p := ⟨gb423, 9, none⟩) (Kd.R_far (p := ⟨gb423, 8, none⟩) (Kd.R_far (p := ⟨gb423, 7, none⟩) (Kd.R_far (p := ⟨gb423, 6, none⟩) (Kd.R_far (p := ⟨gb423, 5, none⟩) (Kd.R_far (p := ⟨gb423, 4, none⟩) (Kd.R_far (p := ⟨gb423, 3, none⟩) (Kd.R_far (p := ⟨gb423, 2, none⟩) (Kd.R_far (p := ⟨gb423, 1, none⟩) (Kd.R_far (p := ⟨gb423, 0, none⟩) (Kd.R_types HO417.out BK423.out (by decide)) (fun _ hk => hk.2) (.slice Ao62 t397.length co62)) (fun _ hk => hk.2) (.slice Ao66 t400.length co66)) (fun _ hk => hk.2) (.slice Ao67 t403.length co67)) (fun _ hk => hk.2) (.slice Ao68 t406.length co68)) (fun _ hk => hk.2) (.slice Ao69 t409.length co69)) (fun _ hk => hk.2) (.slice Ao70 t412.length co70)) (fun _ hk => hk.2) (.slice Ao71 t415.length co71)) (fun _ hk => hk.2) (.slice Ao72 t418.length co72)) (fun _ hk => hk.2) (.bool t421)) (fun _ hk => hk.2) (.bool t422)) (fun _ hk => trivial)⟩; have n7_ : Aside0 (Kd.R (Kd.int .i64) 3 w74 w.heap.size (fun _ => True) (.slice Ao72 t418.length co72) t418) := ⟨by rw [hW_]; (with_reducible repeat (first | apply Kd.R_alloc | apply Kd.R_drewN | apply Kd.R_drew)); exact Kd.R_mono (Kd.R_far (p := ⟨gb423, 9, none⟩) (Kd.R_far (p := ⟨gb423, 8, none⟩) (Kd.R_far (p := ⟨gb423, 7, none⟩) (Kd.R_far (p := ⟨gb423, 6, none⟩) (Kd.R_far (p := ⟨gb423, 5, none⟩) (Kd.R_far (p := ⟨gb423, 4, none⟩) (Kd.R_far (p := ⟨gb423, 3, none⟩) (Kd.R_far (p := ⟨gb423, 2, none⟩) (Kd.R_far (p := ⟨gb423, 1, none⟩) (Kd.R_far (p := ⟨gb423, 0, none⟩) (Kd.R_types HO420.out BK423.out (by decide)) (fun _ hk => hk.2) (.slice Ao62 t397.length co62)) (fun _ hk => hk.2) (.slice Ao66 t400.length co66)) (fun _ hk => hk.2) (.slice Ao67 t403.length co67)) (fun _ hk => hk.2) (.slice Ao68 t406.length co68)) (fun _ hk => hk.2) (.slice Ao69 t409.length co69)) (fun _ hk => hk.2) (.slice Ao70 t412.length co70)) (fun _ hk => hk.2) (.slice Ao71 t415.length co71)) (fun _ hk => hk.2) (.slice Ao72 t418.length co72)) (fun _ hk => hk.2) (.bool t421)) (fun _ hk => hk.2) (.bool t422)) (fun _ hk => trivial)⟩; have n8_ : Aside0 (w74.heap[gb340]? = some (.cells #[.slice A0_0 l0_0.length c0_0, .slice A0_1 l0_1.length c0_1, .slice A0_2 l0_2.length c0_2, .slice A0_3 l0_3.length c0_3, .slice A0_4 l0_4.length c0_4, .slice A0_5 l0_5.length c0_5, .slice A0_6 l0_6.length c0_6, .slice A0_7 l0_7.length c0_7, .bool a0_8, .bool a0_9] 63 (0, 0))) := ⟨by rw [hW_]; (with_reducible repeat (first | refine blk_drewN ?_ _ | refine blk_drew ?_ | refine blk_alloc ?_ _)); refine blk_far ?_ NB340_423.out _; (with_reducible repeat (first | refine blk_drewN ?_ _ | refine blk_drew ?_ | refine blk_alloc ?_ _)); refine blk_far ?_ NB340_423.out _; (with_reducible repeat (first | refine blk_drewN ?_ _ | refine blk_drew ?_ | refine blk_alloc ?_ _)); refine blk_far ?_ NB340_423.out _; (with_reducible repeat (first | refine blk_drewN ?_ _ | refine blk_drew ?_ | refine blk_alloc ?_ _)); refine blk_far ?_ NB340_423.out _; (with_reducible repeat (first | refine blk_drewN ?_ _ | refine blk_drew ?_ | refine blk_alloc ?_ _)); refine blk_far ?_ NB340_423.out _; (with_reducible repeat (first | refine blk_drewN ?_ _ | refine blk_drew ?_ | refine blk_alloc ?_ _)); refine blk_far ?_ NB340_423.out _; (with_reducible repeat (first | refine blk_drewN ?_ _ | refine blk_drew ?_ | refine blk_alloc ?_ _)); refine blk_far ?_ NB340_423.out _; (with_reducible repeat (first | refine blk_drewN ?_ _ | refine blk_drew ?_ | refine blk_alloc ?_ _)); refine blk_far ?_ NB340_423.out _; (with_reducible repeat (first | refine blk_drewN ?_ _ | refine blk_drew ?_ | refine blk_alloc ?_ _)); refine blk_far ?_ NB340_423.out _; (with_reducible repeat (first | refine blk_drewN ?_ _ | refine blk_drew ?_ | refine blk_alloc ?_ _)); refine blk_far ?_ NB340_423.out _; (with_reducible repeat (first | refine blk_drewN ?_ _ | refine blk_drew ?_ | refine blk_alloc ?_ _)); exact BK340.out⟩; have n9_ : Aside0 (w74.heap[gb341]? = some (.cells #[.slice A1_0 l1_0.length c1_0, .slice A1_1 l1_1.length c1_1, .slice A1_2 l1_2.length c1_2, .slice A1_3 l1_3.length c1_3, .slice A1_4 l1_4.length c1_4, .slice A1_5 l1_5.length c1_5, .slice A1_6 l1_6.length c1_6, .slice A1_7 l1_7.length c1_7, .bool a1_8, .bool a1_9] 63 (0, 0))) := ⟨by rw [hW_]; (with_reducible repeat (first | refine blk_drewN ?_ _ | refine blk_drew ?_ | refine blk_alloc ?_ _)); refine blk_far ?_ NB341_423.out _; (with_reducible repeat (first | refine blk_drewN ?_ _ | refine blk_drew ?_ | refine blk_alloc ?_ _)); refine blk_far ?_ NB341_423.out _; (with_reducible repeat (first | refine blk_drewN ?_ _ | refine blk_drew ?_ | refine blk_alloc ?_ _)); refine blk_far ?_ NB341_423.out _; (with_reducible repeat (first | refine blk_drewN ?_ _ | refine blk_drew ?_ | refine blk_alloc ?_ _)); refine blk_far ?_ NB341_423.out _; (with_reducible repeat (first | refine blk_drewN ?_ _ | refine blk_drew ?_ | refine blk_alloc ?_ _)); refine blk_far ?_ NB341_423.out _; (with_reducible repeat (first | refine blk_drewN ?_ _ | refine blk_drew ?_ | refine blk_alloc ?_ _)); refine blk_far ?_ NB341_423.out _; (with_reducible repeat (first | refine blk_drewN ?_ _ | refine blk_drew ?_ | refine blk_alloc ?_ _)); refine blk_far ?_ NB341_423.out _; (with_reducible repeat (first | refine blk_drewN ?_ _ | refine blk_drew ?_ | refine blk_alloc ?_ _)); refine blk_far ?_ NB341_423.out _; (with_reducible repeat (first | refine blk_drewN ?_ _ | refine blk_drew ?_ | refine blk_alloc ?_ _)); refine blk_far ?_ NB341_423.out _; (with_reducible repeat (first | refine blk_drewN ?_ _ | refine blk_drew ?_ | refine blk_alloc ?_ _)); refine blk_far ?_ NB341_423.out _; (with_reducible repeat (first | refine blk_drewN ?_ _ | refine blk_drew ?_ | refine blk_alloc ?_ _)); exact BK341.out⟩; have n10_ : Aside0 (w74.heap[gb423]? = some (.cells #[.slice Ao62 t397.length co62, .slice Ao66 t400.length co66, .slice Ao67 t403.length co67, .slice Ao68 t406.length co68, .slice Ao69 t409.length co69, .slice Ao70 t412.length co70, .slice Ao71 t415.length co71, .slice Ao72 t418.length co72, .bool t421, .bool t422] 43 (0, 0))) := ⟨by rw [hW_]; (with_reducible repeat (first | refine blk_drewN ?_ _ | refine blk_drew ?_ | refine blk_alloc ?_ _)); refine blk_put (cs := #[.slice Ao62 t397.length co62, .slice Ao66 t400.length co66, .slice Ao67 t403.length co67, .slice Ao68 t406.length co68, .slice Ao69 t409.length co69, .slice Ao70 t412.length co70, .slice Ao71 t415.length co71, .slice Ao72 t418.length co72, .bool t421, .bool false]) ?_ 9 _ rfl; (with_reducible repeat (first | refine blk_drewN ?_ _ | refine blk_drew ?_ | refine blk_alloc ?_ _)); refine blk_put (cs := #[.slice Ao62 t397.length co62, .slice Ao66 t400.length co66, .slice Ao67 t403.length co67, .slice Ao68 t406.length co68, .slice Ao69 t409.length co69, .slice Ao70 t412.length co70, .slice Ao71 t415.length co71, .slice Ao72 t418.length co72, .bool false, .bool false]) ?_ 8 _ rfl; (with_reducible repeat (first | refine blk_drewN ?_ _ | refine blk_drew ?_ | refine blk_alloc ?_ _)); refine blk_put (cs := #[.slice Ao62 t397.length co62, .slice Ao66 t400.length co66, .slice Ao67 t403.length co67, .slice Ao68 t406.length co68, .slice Ao69 t409.length co69, .slice Ao70 t412.length co70, .slice Ao71 t415.length co71, .slice none 0 0, .bool false, .bool false]) ?_ 7 _ rfl; (with_reducible repeat (first | refine blk_drewN ?_ _ | refine blk_drew ?_ | refine blk_alloc ?_ _)); refine blk_put (cs := #[.slice Ao62 t397.length co62, .slice Ao66 t400.length co66, .slice Ao67 t403.length co67, .slice Ao68 t406.length co68, .slice Ao69 t409.length co69, .slice Ao70 t412.length co70, .slice none 0 0, .slice none 0 0, .bool false, .bool false]) ?_ 6 _ rfl; (with_reducible repeat (first | refine blk_drewN ?_ _ | refine blk_drew ?_ | refine blk_alloc ?_ _)); refine blk_put (cs := #[.slice Ao62 t397.length co62, .slice Ao66 t400.length co66, .slice Ao67 t403.length co67, .slice Ao68 t406.length co68, .slice Ao69 t409.length co69, .slice none 0 0, .slice none 0 0, .slice none 0 0, .bool false, .bool false]) ?_ 5 _ rfl; (with_reducible repeat (first | refine blk_drewN ?_ _ | refine blk_drew ?_ | refine blk_alloc ?_ _)); refine blk_put (cs := #[.slice Ao62 t397.length co62, .slice Ao66 t400.length co66, .slice Ao67 t403.length co67, .slice Ao68 t406.length co68, .slice none 0 0, .slice none 0 0, .slice none 0 0, .slice none 0 0, .bool false, .bool false]) ?_ 4 _ rfl; (with_reducible repeat (first | refine blk_drewN ?_ _ | refine blk_drew ?_ | refine blk_alloc ?_ _)); refine blk_put (cs := #[.slice Ao62 t397.length co62, .slice Ao66 t400.length co66, .slice Ao67 t403.length co67, .slice none 0 0, .slice none 0 0, .slice none 0 0, .slice none 0 0, .slice none 0 0, .bool false, .bool false]) ?_ 3 _ rfl; (with_reducible repeat (first | refine blk_drewN ?_ _ | refine blk_drew ?_ | refine blk_alloc ?_ _)); refine blk_put (cs := #[.slice Ao62 t397.length co62, .slice Ao66 t400.length co66, .slice none 0 0, .slice none 0 0, .slice none 0 0, .slice none 0 0, .slice none 0 0, .slice none 0 0, .bool false, .bool false]) ?_ 2 _ rfl; (with_reducible repeat (first | refine blk_drewN ?_ _ | refine blk_drew ?_ | refine blk_alloc ?_ _)); refine blk_put (cs := #[.slice Ao62 t397.length co62, .slice none 0 0, .slice none 0 0, .slice none 0 0, .slice none 0 0, .slice none 0 0, .slice none 0 0, .slice none 0 0, .bool false, .bool false]) ?_ 1 _ rfl; (with_reducible repeat (first | refine blk_drewN ?_ _ | refine blk_drew ?_ | refine blk_alloc ?_ _)); refine blk_put (cs := #[.slice none 0 0, .slice none 0 0, .slice none 0 0, .slice none 0 0, .slice none 0 0, .slice none 0 0, .slice none 0 0, .slice none 0 0, .bool false, .bool false]) ?_ 0 _ rfl; (with_reducible repeat (first | refine blk_drewN ?_ _ | refine blk_drew ?_ | refine blk_alloc ?_ _)); exact BK423.out⟩; have n11_ : Aside0 (Below w.heap.size w w74) := ⟨by rw [hW_]; repeat (first | (with_reducible first | exact HB.out | apply below_alloc | apply pw_below_drewN | apply below_drew1 | refine below_set ?_ GE340.out | refine below_set ?_ GE341.out | refine below_set ?_ GE423.out) | exact HB.out)⟩; (try clear HO399); (try clear HO402); (try clear HO405); (try clear HO408); (try clear HO411); (try clear HO414); (try clear HO417); (try clear HO420); (try clear BK340); (try clear BK341); (try clear BK423); (try clear HB); rw [← hW_]; clear hW_; have HO399 := n0_; have HO402 := n1_; have HO405 := n2_; have HO408 := n3_; have HO411 := n4_; have HO414 := n5_; have HO417 := n6_; have HO420 := n7_; have BK340 := n8_; have BK341 := n9_; have BK423 := n10_; have HB := n11_; clear n0_ n1_ n2_ n3_ n4_ n5_ n6_ n7_ n8_ n9_ n10_ n11_; refine goesL_ (some 28) rfl rfl Try.func39 (by kernel_rfl) rfl #[.agg #[.slice A1_0 l1_0.length c1_0, .slice A1_1 l1_1.length c1_1, .slice A1_2 l1_2.length c1_2, .slice A1_3 l1_3.length c1_3, .slice A1_4 l1_4.length c1_4, .slice A1_5 l1_5.length c1_5, .slice A1_6 l1_6.length c1_6, .slice A1_7 l1_7.length c1_7, .bool a1_8, .bool a1_9]] rfl (by (try simp only [List.map_toArray, List.map_cons, List.map_nil]); first | done | rfl | (simp only [List.length_drop, List.length_take]; rfl)) ?_; (with_reducible refine (laws_toEffect.calls k _ _ l1_0 _ _ l1_1 _ _ l1_2 _ _ l1_3 _ _ l1_4 _ _ l1_5 _ _ l1_6 _ _ l1_7 a1_8 a1_9 t424 t427 t430 t433 t436 t439 t442 t445 t448 t449 _ ?side1 ?side2 ?side3 ?side4 ?side5 ?side6 ?side7 ?side8 ?side9 ?side10 ?side11 ?side12 ?side13 ?side14 ?side15 ?side16 A23.out).mono ?_); (case side1 => exact cS (Kd.C_below HR1_0.out HB.out)); (case side2 => exact HC1_0.out); (case side3 => exact cS (Kd.C_below HR1_1.out HB.out)); (case side4 => exact HC1_1.out); (case side5 => exact cS (Kd.C_below HR1_2.out HB.out)); (case side6 => exact HC1_2.out); (case side7 => exact cS (Kd.C_below HR1_3.out HB.out)); (case side8 => exact HC1_3.out); (case side9 => exact cS (Kd.C_below HR1_4.out HB.out)); (case side10 => exact HC1_4.out); (case side11 => exact cS (Kd.C_below HR1_5.out HB.out)); (case side12 => exact HC1_5.out); (case side13 => exact cS (Kd.C_below HR1_6.out HB.out)); (case side14 => exact HC1_6.out); (case side15 => exact cS (Kd.C_below HR1_7.out HB.out)); (case side16 => exact HC1_7.out); rintro e w75 ⟨v425, v428, v431, v434, v437, v440, v443, v446, rfl, ho0, ho1, ho2, ho3, ho4, ho5, ho6, ho7, hb⟩; refine ⟨_, rfl, ?_⟩; have n0_ := Aside0.mk (Kd.R_below (rS HO399.out) hb); have n1_ := Aside0.mk (Kd.R_below (rS HO402.out) hb); have n2_ := Aside0.mk (Kd.R_below (rS HO405.out) hb); have n3_ := Aside0.mk (Kd.R_below (rS HO408.out) hb); have n4_ := Aside0.mk (Kd.R_below (rS HO411.out) hb); have n5_ := Aside0.mk (Kd.R_below (rS HO414.out) hb); have n6_ := Aside0.mk (Kd.R_below (rS HO417.out) hb); have n7_ := Aside0.mk (Kd.R_below (rS HO420.out) hb); have n8_ := Aside0.mk (Kd.R_lower ho0 (below_size (by repeat (first | (with_reducible first | exact HB.out | apply below_alloc | apply pw_below_drewN | apply below_drew1 | refine below_set ?_ GE340.out | refine below_set ?_ GE341.out | refine below_set ?_ GE423.out) | exact HB.out)))); have n9_ := Aside0.mk (Kd.R_lower ho1 (below_size (by repeat (first | (with_reducible first | exact HB.out | apply below_alloc | apply pw_below_drewN | apply below_drew1 | refine below_set ?_ GE340.out | refine below_set ?_ GE341.out | refine below_set ?_ GE423.out) | exact HB.out)))); have n10_ := Aside0.mk (Kd.R_lower ho2 (below_size (by repeat (first | (with_reducible first | exact HB.out | apply below_alloc | apply pw_below_drewN | apply below_drew1 | refine below_set ?_ GE340.out | refine below_set ?_ GE341.out | refine below_set ?_ GE423.out) | exact HB.out)))); have n11_ := Aside0.mk (Kd.R_lower ho3 (below_size (by repeat (first | (with_reducible first | exact HB.out | apply below_alloc | apply pw_below_drewN | apply below_drew1 | refine below_set ?_ GE340.out | refine below_set ?_ GE341.out | refine below_set ?_ GE423.out) | exact HB.out)))); have n12_ := Aside0.mk (Kd.R_lower ho4 (below_size (by repeat (first | (with_reducible first | exact HB.out | apply below_alloc | apply pw_below_drewN | apply below_drew1 | refine below_set ?_ GE340.out | refine below_set ?_ GE341.out | refine below_set ?_ GE423.out) | exact HB.out)))); have n13_ := Aside0.mk (Kd.R_lower ho5 (below_size (by repeat (first | (with_reducible first | exact HB.out | apply below_alloc | apply pw_below_drewN | apply below_drew1 | refine below_set ?_ GE340.out | refine below_set ?_ GE341.out | refine below_set ?_ GE423.out) | exact HB.out)))); have n14_ := Aside0.mk (Kd.R_lower ho6 (below_size (by repeat (first | (with_reducible first | exact HB.out | apply below_alloc | apply pw_below_drewN | apply below_drew1 | refine below_set ?_ GE340.out | refine below_set ?_ GE341.out | refine below_set ?_ GE423.out) | exact HB.out)))); have n15_ := Aside0.mk (Kd.R_lower ho7 (below_size (by repeat (first | (with_reducible first | exact HB.out | apply below_alloc | apply pw_below_drewN | apply below_drew1 | refine below_set ?_ GE340.out | refine below_set ?_ GE341.out | refine below_set ?_ GE423.out) | exact HB.out)))); have n16_ := Aside0.mk (blk_below (g := gb340) (o := .cells #[.slice A0_0 l0_0.length c0_0, .slice A0_1 l0_1.length c0_1, .slice A0_2 l0_2.length c0_2, .slice A0_3 l0_3.length c0_3, .slice A0_4 l0_4.length c0_4, .slice A0_5 l0_5.length c0_5, .slice A0_6 l0_6.length c0_6, .slice A0_7 l0_7.length c0_7, .bool a0_8, .bool a0_9] 63 (0, 0)) (by (with_reducible repeat (first | refine blk_drewN ?_ _ | refine blk_drew ?_ | refine blk_alloc ?_ _)); exact BK340.out) hb); have n17_ := Aside0.mk (blk_below (g := gb341) (o := .cells #[.slice A1_0 l1_0.length c1_0, .slice A1_1 l1_1.length c1_1, .slice A1_2 l1_2.length c1_2, .slice A1_3 l1_3.length c1_3, .slice A1_4 l1_4.length c1_4, .slice A1_5 l1_5.length c1_5, .slice A1_6 l1_6.length c1_6, .slice A1_7 l1_7.length c1_7, .bool a1_8, .bool a1_9] 63 (0, 0)) (by (with_reducible repeat (first | refine blk_drewN ?_ _ | refine blk_drew ?_ | refine blk_alloc ?_ _)); exact BK341.out) hb); have n18_ := Aside0.mk (blk_below (g := gb423) (o := .cells #[.slice Ao62 t397.length co62, .slice Ao66 t400.length co66, .slice Ao67 t403.length co67, .slice Ao68 t406.length co68, .slice Ao69 t409.length co69, .slice Ao70 t412.length co70, .slice Ao71 t415.length co71, .slice Ao72 t418.length co72, .bool t421, .bool t422] 43 (0, 0)) (by (with_reducible repeat (first | refine blk_drewN ?_ _ | refine blk_drew ?_ | refine blk_alloc ?_ _)); exact BK423.out) hb); have n19_ := Aside0.mk (below_step (by repeat (first | (with_reducible first | exact HB.out | apply below_alloc | apply pw_below_drewN | apply below_drew1 | refine below_set ?_ GE340.out | refine below_set ?_ GE341.out | refine below_set ?_ GE423.out) | exact HB.out)) hb); clear HO399; clear HO402; clear HO405; clear HO408; clear HO411; clear HO414; clear HO417; clear HO420; clear BK340; clear BK341; clear BK423; clear HB; have HO399 := n0_; have HO402 := n1_; have HO405 := n2_; have HO408 := n3_; have HO411 := n4_; have HO414 := n5_; have HO417 := n6_; have HO420 := n7_; have HO426 := n8_; have HO429 := n9_; have HO432 := n10_; have HO435 := n11_; have HO438 := n12_; have HO441 := n13_; have HO444 := n14_; have HO447 := n15_; have BK340 := n16_; have BK341 := n17_; have BK423 := n18_; have HB := n19_; clear n0_ n1_ n2_ n3_ n4_ n5_ n6_ n7_ n8_ n9_ n10_ n11_ n12_ n13_ n14_ n15_ n16_ n17_ n18_ n19_; (try clear hb); (try clear hb2); (try clear hk); (try clear hi); (try clear ho0); (try clear ho1); (try clear ho2); (try clear ho3); (try clear ho4); (try clear ho5); (try clear ho6); (try clear ho7)) | ((with_reducible refine gate_dst (N := 8) rfl ?_); refine box_event ?hg (N := 8) ?hd (cs := #[.slice none 0 0, .slice none 0 0, .slice none 0 0, .slice none 0 0, .slice none 0 0, .slice none 0 0, .slice none 0 0, .slice none 0 0, .bool false, .bool false]) (t := 43) ?hr ?_; (case hd => rfl); (case hg => rfl); (case hr => first | (go_simp; done) | (go_simp; rfl)); intro gb450 hg w76 hbox hb; have n0_ := Aside0.mk (Kd.R_below (rS HO399.out) hb); have n1_ := Aside0.mk (Kd.R_below (rS HO402.out) hb); have n2_ := Aside0.mk (Kd.R_below (rS HO405.out) hb); have n3_ := Aside0.mk (Kd.R_below (rS HO408.out) hb); have n4_ := Aside0.mk (Kd.R_below (rS HO411.out) hb); have n5_ := Aside0.mk (Kd.R_below (rS HO414.out) hb); have n6_ := Aside0.mk (Kd.R_below (rS HO417.out) hb); have n7_ := Aside0.mk (Kd.R_below (rS HO420.out) hb); have n8_ := Aside0.mk (Kd.R_below (rS HO426.out) hb); have n9_ := Aside0.mk (Kd.R_below (rS HO429.out) hb); have n10_ := Aside0.mk (Kd.R_below (rS HO432.out) hb); have n11_ := Aside0.mk (Kd.R_below (rS HO435.out) hb); have n12_ := Aside0.mk (Kd.R_below (rS HO438.out) hb); have n13_ := Aside0.mk (Kd.R_below (rS HO441.out) hb); have n14_ := Aside0.mk (Kd.R_below (rS HO444.out) hb); have n15_ := Aside0.mk (Kd.R_below (rS HO447.out) hb); have n16_ := Aside0.mk (blk_below (g := gb340) (o := .cells #[.slice A0_0 l0_0.length c0_0, .slice A0_1 l0_1.length c0_1, .slice A0_2 l0_2.length c0_2, .slice A0_3 l0_3.length c0_3, .slice A0_4 l0_4.length c0_4, .slice A0_5 l0_5.length c0_5, .slice A0_6 l0_6.length c0_6, .slice A0_7 l0_7.length c0_7, .bool a0_8, .bool a0_9] 63 (0, 0)) (by (with_reducible repeat (first | refine blk_drewN ?_ _ | refine blk_drew ?_ | refine blk_alloc ?_ _)); exact BK340.out) hb); have n17_ := Aside0.mk (blk_below (g := gb341) (o := .cells #[.slice A1_0 l1_0.length c1_0, .slice A1_1 l1_1.length c1_1, .slice A1_2 l1_2.length c1_2, .slice A1_3 l1_3.length c1_3, .slice A1_4 l1_4.length c1_4, .slice A1_5 l1_5.length c1_5, .slice A1_6 l1_6.length c1_6, .slice A1_7 l1_7.length c1_7, .bool a1_8, .bool a1_9] 63 (0, 0)) (by (with_reducible repeat (first | refine blk_drewN ?_ _ | refine blk_drew ?_ | refine blk_alloc ?_ _)); exact BK341.out) hb); have n18_ := Aside0.mk (blk_below (g := gb423) (o := .cells #[.slice Ao62 t397.length co62, .slice Ao66 t400.length co66, .slice Ao67 t403.length co67, .slice Ao68 t406.length co68, .slice Ao69 t409.length co69, .slice Ao70 t412.length co70, .slice Ao71 t415.length co71, .slice Ao72 t418.length co72, .bool t421, .bool t422] 43 (0, 0)) (by (with_reducible repeat (first | refine blk_drewN ?_ _ | refine blk_drew ?_ | refine blk_alloc ?_ _)); exact BK423.out) hb); have n19_ := Aside0.mk (below_step (by repeat (first | (with_reducible first | exact HB.out | apply below_alloc | apply pw_below_drewN | apply below_drew1 | refine below_set ?_ GE340.out | refine below_set ?_ GE341.out | refine below_set ?_ GE423.out) | exact HB.out)) hb); have n20_ := Aside0.mk (hbox); have n21_ := Aside0.mk ((by rw [hg]; exact (below_size (by repeat (first | (with_reducible first | exact HB.out | apply below_alloc | apply pw_below_drewN | apply below_drew1 | refine below_set ?_ GE340.out | refine below_set ?_ GE341.out | refine below_set ?_ GE423.out) | exact HB.out))) : w.heap.size ≤ gb450)); have n22_ := Aside0.mk ((by rw [hg]; exact (below_size (by repeat (first | (with_reducible first | exact HB.out | apply below_alloc | apply pw_below_drewN | apply below_drew1 | refine below_set ?_ GE340.out | refine below_set ?_ GE341.out | refine below_set ?_ GE423.out) | exact HB.out))) : w.heap.size ≤ gb450)); have n23_ := Aside0.mk ((by rw [hg]; exact Nat.ne_of_lt (blk_lt (g := gb340) (o := .cells #[.slice A0_0 l0_0.length c0_0, .slice A0_1 l0_1.length c0_1, .slice A0_2 l0_2.length c0_2, .slice A0_3 l0_3.length c0_3, .slice A0_4 l0_4.length c0_4, .slice A0_5 l0_5.length c0_5, .slice A0_6 l0_6.length c0_6, .slice A0_7 l0_7.length c0_7, .bool a0_8, .bool a0_9] 63 (0, 0)) (by (with_reducible repeat (first | refine blk_drewN ?_ _ | refine blk_drew ?_ | refine blk_alloc ?_ _)); exact BK340.out)) : gb340 ≠ gb450)); have n24_ := Aside0.mk ((by rw [hg]; exact Nat.ne_of_gt (blk_lt (g := gb340) (o := .cells #[.slice A0_0 l0_0.length c0_0, .slice A0_1 l0_1.length c0_1, .slice A0_2 l0_2.length c0_2, .slice A0_3 l0_3.length c0_3, .slice A0_4 l0_4.length c0_4, .slice A0_5 l0_5.length c0_5, .slice A0_6 l0_6.length c0_6, .slice A0_7 l0_7.length c0_7, .bool a0_8, .bool a0_9] 63 (0, 0)) (by (with_reducible repeat (first | refine blk_drewN ?_ _ | refine blk_drew ?_ | refine blk_alloc ?_ _)); exact BK340.out)) : gb450 ≠ gb340)); have n25_ := Aside0.mk ((by rw [hg]; exact Nat.ne_of_lt (blk_lt (g := gb341) (o := .cells #[.slice A1_0 l1_0.length c1_0, .slice A1_1 l1_1.length c1_1, .slice A1_2 l1_2.length c1_2, .slice A1_3 l1_3.length c1_3, .slice A1_4 l1_4.length c1_4, .slice A1_5 l1_5.length c1_5, .slice A1_6 l1_6.length c1_6, .slice A1_7 l1_7.length c1_7, .bool a1_8, .bool a1_9] 63 (0, 0)) (by (with_reducible repeat (first | refine blk_drewN ?_ _ | refine blk_drew ?_ | refine blk_alloc ?_ _)); exact BK341.out)) : gb341 ≠ gb450)); have n26_ := Aside0.mk ((by rw [hg]; exact Nat.ne_of_gt (blk_lt (g := gb341) (o := .cells #[.slice A1_0 l1_0.length c1_0, .slice A1_1 l1_1.length c1_1, .slice A1_2 l1_2.length c1_2, .slice A1_3 l1_3.length c1_3, .slice A1_4 l1_4.length c1_4, .slice A1_5 l1_5.length c1_5, .slice A1_6 l1_6.length c1_6, .slice A1_7 l1_7.length c1_7, .bool a1_8, .bool a1_9] 63 (0, 0)) (by (with_reducible repeat (first | refine blk_drewN ?_ _ | refine blk_drew ?_ | refine blk_alloc ?_ _)); exact BK341.out)) : gb450 ≠ gb341)); have n27_ := Aside0.mk ((by rw [hg]; exact Nat.ne_of_lt (blk_lt (g := gb423) (o := .cells #[.slice Ao62 t397.length co62, .slice Ao66 t400.length co66, .slice Ao67 t403.length co67, .slice Ao68 t406.length co68, .slice Ao69 t409.length co69, .slice Ao70 t412.length co70, .slice Ao71 t415.length co71, .slice Ao72 t418.length co72, .bool t421, .bool t422] 43 (0, 0)) (by (with_reducible repeat (first | refine blk_drewN ?_ _ | refine blk_drew ?_ | refine blk_alloc ?_ _)); exact BK423.out)) : gb423 ≠ gb450)); have n28_ := Aside0.mk ((by rw [hg]; exact Nat.ne_of_gt (blk_lt (g := gb423) (o := .cells #[.slice Ao62 t397.length co62, .slice Ao66 t400.length co66, .slice Ao67 t403.length co67, .slice Ao68 t406.length co68, .slice Ao69 t409.length co69, .slice Ao70 t412.length co70, .slice Ao71 t415.length co71, .slice Ao72 t418.length co72, .bool t421, .bool t422] 43 (0, 0)) (by (with_reducible repeat (first | refine blk_drewN ?_ _ | refine blk_drew ?_ | refine blk_alloc ?_ _)); exact BK423.out)) : gb450 ≠ gb423)); clear HO399; clear HO402; clear HO405; clear HO408; clear HO411; clear HO414; clear HO417; clear HO420; clear HO426; clear HO429; clear HO432; clear HO435; clear HO438; clear HO441; clear HO444; clear HO447; clear BK340; clear BK341; clear BK423; clear HB; have HO399 := n0_; have HO402 := n1_; have HO405 := n2_; have HO408 := n3_; have HO411 := n4_; have HO414 := n5_; have HO417 := n6_; have HO420 := n7_; have HO426 := n8_; have HO429 := n9_; have HO432 := n10_; have HO435 := n11_; have HO438 := n12_; have HO441 := n13_; have HO444 := n14_; have HO447 := n15_; have BK340 := n16_; have BK341 := n17_; have BK423 := n18_; have HB := n19_; have BK450 := n20_; have GW450 := n21_; have GE450 := n22_; have NB340_450 := n23_; have NB450_340 := n24_; have NB341_450 := n25_; have NB450_341 := n26_; have NB423_450 := n27_; have NB450_423 := n28_; clear n0_ n1_ n2_ n3_ n4_ n5_ n6_ n7_ n8_ n9_ n10_ n11_ n12_ n13_ n14_ n15_ n16_ n17_ n18_ n19_ n20_ n21_ n22_ n23_ n24_ n25_ n26_ n27_ n28_; clear hb hbox hg; obtain ⟨Ao77, co77, eo77⟩ := Kd.R_slice HO426.out; subst eo77; have hnb78 := NB450_340.out; have hnc78 := NB340_450.out; have hnb79 := NB450_341.out; have hnc79 := NB341_450.out; have hnb80 := NB450_423.out; have hnc80 := NB423_450.out; have hcz81_0 : w76.cell? ⟨gb450, 0, none⟩ = some (.slice none 0 0) := (blk_cell BK450.out 0).trans rfl; have hcz81_1 : w76.cell? ⟨gb450, 1, none⟩ = some (.slice none 0 0) := (blk_cell BK450.out 1).trans rfl; have hcz81_2 : w76.cell? ⟨gb450, 2, none⟩ = some (.slice none 0 0) := (blk_cell BK450.out 2).trans rfl; have hcz81_3 : w76.cell? ⟨gb450, 3, none⟩ = some (.slice none 0 0) := (blk_cell BK450.out 3).trans rfl; have hcz81_4 : w76.cell? ⟨gb450, 4, none⟩ = some (.slice none 0 0) := (blk_cell BK450.out 4).trans rfl; have hcz81_5 : w76.cell? ⟨gb450, 5, none⟩ = some (.slice none 0 0) := (blk_cell BK450.out 5).trans rfl; have hcz81_6 : w76.cell? ⟨gb450, 6, none⟩ = some (.slice none 0 0) := (blk_cell BK450.out 6).trans rfl; have hcz81_7 : w76.cell? ⟨gb450, 7, none⟩ = some (.slice none 0 0) := (blk_cell BK450.out 7).trans rfl; have hcz81_8 : w76.cell? ⟨gb450, 8, none⟩ = some (.bool false) := (blk_cell BK450.out 8).trans rfl; have hcz81_9 : w76.cell? ⟨gb450, 9, none⟩ = some (.bool false) := (blk_cell BK450.out 9).trans rfl; have hfz81_0 := blk_frozen BK450.out 0; have hfz81_1 := blk_frozen BK450.out 1; have hfz81_2 := blk_frozen BK450.out 2; have hfz81_3 := blk_frozen BK450.out 3; have hfz81_4 := blk_frozen BK450.out 4; have hfz81_5 := blk_frozen BK450.out 5; have hfz81_6 := blk_frozen BK450.out 6; have hfz81_7 := blk_frozen BK450.out 7; have hfz81_8 := blk_frozen BK450.out 8; have hfz81_9 := blk_frozen BK450.out 9; obtain ⟨Ao82, co82, eo82⟩ := Kd.R_slice HO429.out; subst eo82; obtain ⟨Ao83, co83, eo83⟩ := Kd.R_slice HO432.out; subst eo83; obtain ⟨Ao84, co84, eo84⟩ := Kd.R_slice HO435.out; subst eo84; obtain ⟨Ao85, co85, eo85⟩ := Kd.R_slice HO438.out; subst eo85; obtain ⟨Ao86, co86, eo86⟩ := Kd.R_slice HO441.out; subst eo86; obtain ⟨Ao87, co87, eo87⟩ := Kd.R_slice HO444.out; subst eo87; obtain ⟨Ao88, co88, eo88⟩ := Kd.R_slice HO447.out; subst eo88; have hcz89_0 : w76.cell? ⟨gb423, 0, none⟩ = some (.slice Ao62 t397.length co62) := (blk_cell BK423.out 0).trans rfl; have hcz89_1 : w76.cell? ⟨gb423, 1, none⟩ = some (.slice Ao66 t400.length co66) := (blk_cell BK423.out 1).trans rfl; have hcz89_2 : w76.cell? ⟨gb423, 2, none⟩ = some (.slice Ao67 t403.length co67) := (blk_cell BK423.out 2).trans rfl; have hcz89_3 : w76.cell? ⟨gb423, 3, none⟩ = some (.slice Ao68 t406.length co68) := (blk_cell BK423.out 3).trans rfl; have hcz89_4 : w76.cell? ⟨gb423, 4, none⟩ = some (.slice Ao69 t409.length co69) := (blk_cell BK423.out 4).trans rfl; have hcz89_5 : w76.cell? ⟨gb423, 5, none⟩ = some (.slice Ao70 t412.length co70) := (blk_cell BK423.out 5).trans rfl; have hcz89_6 : w76.cell? ⟨gb423, 6, none⟩ = some (.slice Ao71 t415.length co71) := (blk_cell BK423.out 6).trans rfl; have hcz89_7 : w76.cell? ⟨gb423, 7, none⟩ = some (.slice Ao72 t418.length co72) := (blk_cell BK423.out 7).trans rfl; have hcz89_8 : w76.cell? ⟨gb423, 8, none⟩ = some (.bool t421) := (blk_cell BK423.out 8).trans rfl; have hcz89_9 : w76.cell? ⟨gb423, 9, none⟩ = some (.bool t422) := (blk_cell BK423.out 9).trans rfl; have hfz89_0 := blk_frozen BK423.out 0; have hfz89_1 := blk_frozen BK423.out 1; have hfz89_2 := blk_frozen BK423.out 2; have hfz89_3 := blk_frozen BK423.out 3; have hfz89_4 := blk_frozen BK423.out 4; have hfz89_5 := blk_frozen BK423.out 5; have hfz89_6 := blk_frozen BK423.out 6; have hfz89_7 := blk_frozen BK423.out 7; have hfz89_8 := blk_frozen BK423.out 8; have hfz89_9 := blk_frozen BK423.out 9) | ((with_reducible refine gate_callee (f := 30) rfl ?_); obtain ⟨w90, hW_⟩ : ∃ W_, W_ = ((((((((((w76.setCell ⟨gb450, 0, none⟩ (.slice Ao77 t424.length co77)).setCell ⟨gb450, 1, none⟩ (.slice Ao82 t427.length co82)).setCell ⟨gb450, 2, none⟩ (.slice Ao83 t430.length co83)).setCell ⟨gb450, 3, none⟩ (.slice Ao84 t433.length co84)).setCell ⟨gb450, 4, none⟩ (.slice Ao85 t436.length co85)).setCell ⟨gb450, 5, none⟩ (.slice Ao86 t439.length co86)).setCell ⟨gb450, 6, none⟩ (.slice Ao87 t442.length co87)).setCell ⟨gb450, 7, none⟩ (.slice Ao88 t445.length co88)).setCell ⟨gb450, 8, none⟩ (.bool t448)).setCell ⟨gb450, 9, none⟩ (.bool t449)) := ⟨_, rfl⟩; have n0_ : Aside0 (Kd.R (Kd.int .i64) 3 w90 w.heap.size (fun _ => True) (.slice Ao62 t397.length co62) t397) := ⟨by rw [hW_]; (with_reducible repeat (first | apply Kd.R_alloc | apply Kd.R_drewN | apply Kd.R_drew)); exact Kd.R_mono (Kd.R_far (p := ⟨gb450, 9, none⟩) (Kd.R_far (p := ⟨gb450, 8, none⟩) (Kd.R_far (p := ⟨gb450, 7, none⟩) (Kd.R_far (p := ⟨gb450, 6, none⟩) (Kd.R_far (p := ⟨gb450, 5, none⟩) (Kd.R_far (p := ⟨gb450, 4, none⟩) (Kd.R_far (p := ⟨gb450, 3, none⟩) (Kd.R_far (p := ⟨gb450, 2, none⟩) (Kd.R_far (p := ⟨gb450, 1, none⟩) (Kd.R_far (p := ⟨gb450, 0, none⟩) (Kd.R_types HO399.out BK450.out (by decide)) (fun _ hk => hk.2) (.slice Ao77 t424.length co77)) (fun _ hk => hk.2) (.slice Ao82 t427.length co82)) (fun _ hk => hk.2) (.slice Ao83 t430.length co83)) (fun _ hk => hk.2) (.slice Ao84 t433.length co84)) (fun _ hk => hk.2) (.slice Ao85 t436.length co85)) (fun _ hk => hk.2) (.slice Ao86 t439.length co86)) (fun _ hk => hk.2) (.slice Ao87 t442.length co87)) (fun _ hk => hk.2) (.slice Ao88 t445.length co88)) (fun _ hk => hk.2) (.bool t448)) (fun _ hk => hk.2) (.bool t449)) (fun _ hk => trivial)⟩; have n1_ : Aside0 (Kd.R (Kd.int .i64) 3 w90 w.heap.size (fun _ => True) (.slice Ao66 t400.length co66) t400) := ⟨by rw [hW_]; (with_reducible repeat (first | apply Kd.R_alloc | apply Kd.R_drewN | apply Kd.R_drew)); exact Kd.R_mono (Kd.R_far (p := ⟨gb450, 9, none⟩) (Kd.R_far (p := ⟨gb450, 8, none⟩) (Kd.R_far (p := ⟨gb450, 7, none⟩) (Kd.R_far (p := ⟨gb450, 6, none⟩) (Kd.R_far (p := ⟨gb450, 5, none⟩) (Kd.R_far (p := ⟨gb450, 4, none⟩) (Kd.R_far (p := ⟨gb450, 3, none⟩) (Kd.R_far (p := ⟨gb450, 2, none⟩) (Kd.R_far (p := ⟨gb450, 1, none⟩) (Kd.R_far (p := ⟨gb450, 0, none⟩) (Kd.R_types HO402.out BK450.out (by decide)) (fun _ hk => hk.2) (.slice Ao77 t424.length co77)) (fun _ hk => hk.2) (.slice Ao82 t427.length co82)) (fun _ hk => hk.2) (.slice Ao83 t430.length co83)) (fun _ hk => hk.2) (.slice Ao84 t433.length co84)) (fun _ hk => hk.2) (.slice Ao85 t436.length co85)) (fun _ hk => hk.2) (.slice Ao86 t439.length co86)) (fun _ hk => hk.2) (.slice Ao87 t442.length co87)) (fun _ hk => hk.2) (.slice Ao88 t445.length co88)) (fun _ hk => hk.2) (.bool t448)) (fun _ hk => hk.2) (.bool t449)) (fun _ hk => trivial)⟩; have n2_ : Aside0 (Kd.R (Kd.int .i64) 3 w90 w.heap.size (fun _ => True) (.slice Ao67 t403.length co67) t403) := ⟨by rw [hW_]; (with_reducible repeat (first | apply Kd.R_alloc | apply Kd.R_drewN | apply Kd.R_drew)); exact Kd.R_mono (Kd.R_far (p := ⟨gb450, 9, none⟩) (Kd.R_far (p := ⟨gb450, 8, none⟩) (Kd.R_far (p := ⟨gb450, 7, none⟩) (Kd.R_far (p := ⟨gb450, 6, none⟩) (Kd.R_far (p := ⟨gb450, 5, none⟩) (Kd.R_far (p := ⟨gb450, 4, none⟩) (Kd.R_far (p := ⟨gb450, 3, none⟩) (Kd.R_far (p := ⟨gb450, 2, none⟩) (Kd.R_far (p := ⟨gb450, 1, none⟩) (Kd.R_far (p := ⟨gb450, 0, none⟩) (Kd.R_types HO405.out BK450.out (by decide)) (fun _ hk => hk.2) (.slice Ao77 t424.length co77)) (fun _ hk => hk.2) (.slice Ao82 t427.length co82)) (fun _ hk => hk.2) (.slice Ao83 t430.length co83)) (fun _ hk => hk.2) (.slice Ao84 t433.length co84)) (fun _ hk => hk.2) (.slice Ao85 t436.length co85)) (fun _ hk => hk.2) (.slice Ao86 t439.length co86)) (fun _ hk => hk.2) (.slice Ao87 t442.length co87)) (fun _ hk => hk.2) (.slice Ao88 t445.length co88)) (fun _ hk => hk.2) (.bool t448)) (fun _ hk => hk.2) (.bool t449)) (fun _ hk => trivial)⟩; have n3_ : Aside0 (Kd.R (Kd.int .i64) 3 w90 w.heap.size (fun _ => True) (.slice Ao68 t406.length co68) t406) := ⟨by rw [hW_]; (with_reducible repeat (first | apply Kd.R_alloc | apply Kd.R_drewN | apply Kd.R_drew)); exact Kd.R_mono (Kd.R_far (p := ⟨gb450, 9, none⟩) (Kd.R_far (p := ⟨gb450, 8, none⟩) (Kd.R_far (p := ⟨gb450, 7, none⟩) (Kd.R_far (p := ⟨gb450, 6, none⟩) (Kd.R_far (p := ⟨gb450, 5, none⟩) (Kd.R_far (p := ⟨gb450, 4, none⟩) (Kd.R_far (p := ⟨gb450, 3, none⟩) (Kd.R_far (p := ⟨gb450, 2, none⟩) (Kd.R_far (p := ⟨gb450, 1, none⟩) (Kd.R_far (p := ⟨gb450, 0, none⟩) (Kd.R_types HO408.out BK450.out (by decide)) (fun _ hk => hk.2) (.slice Ao77 t424.length co77)) (fun _ hk => hk.2) (.slice Ao82 t427.length co82)) (fun _ hk => hk.2) (.slice Ao83 t430.length co83)) (fun _ hk => hk.2) (.slice Ao84 t433.length co84)) (fun _ hk => hk.2) (.slice Ao85 t436.length co85)) (fun _ hk => hk.2) (.slice Ao86 t439.length co86)) (fun _ hk => hk.2) (.slice Ao87 t442.length co87)) (fun _ hk => hk.2) (.slice Ao88 t445.length co88)) (fun _ hk => hk.2) (.bool t448)) (fun _ hk => hk.2) (.bool t449)) (fun _ hk => trivial)⟩; have n4_ : Aside0 (Kd.R (Kd.int .i64) 3 w90 w.heap.size (fun _ => True) (.slice Ao69 t409.length co69) t409) := ⟨by rw [hW_]; (with_reducible repeat (first | apply Kd.R_alloc | apply Kd.R_drewN | apply Kd.R_drew)); exact Kd.R_mono (Kd.R_far (p := ⟨gb450, 9, none⟩) (Kd.R_far (p := ⟨gb450, 8, none⟩) (Kd.R_far (p := ⟨gb450, 7, none⟩) (Kd.R_far (p := ⟨gb450, 6, none⟩) (Kd.R_far (p := ⟨gb450, 5, none⟩) (Kd.R_far (p := ⟨gb450, 4, none⟩) (Kd.R_far (p := ⟨gb450, 3, none⟩) (Kd.R_far (p := ⟨gb450, 2, none⟩) (Kd.R_far (p := ⟨gb450, 1, none⟩) (Kd.R_far (p := ⟨gb450, 0, none⟩) (Kd.R_types HO411.out BK450.out (by decide)) (fun _ hk => hk.2) (.slice Ao77 t424.length co77)) (fun _ hk => hk.2) (.slice Ao82 t427.length co82)) (fun _ hk => hk.2) (.slice Ao83 t430.length co83)) (fun _ hk => hk.2) (.slice Ao84 t433.length co84)) (fun _ hk => hk.2) (.slice Ao85 t436.length co85)) (fun _ hk => hk.2) (.slice Ao86 t439.length co86)) (fun _ hk => hk.2) (.slice Ao87 t442.length co87)) (fun _ hk => hk.2) (.slice Ao88 t445.length co88)) (fun _ hk => hk.2) (.bool t448)) (fun _ hk => hk.2) (.bool t449)) (fun _ hk => trivial)⟩; have n5_ : Aside0 (Kd.R (Kd.int .i64) 3 w90 w.heap.size (fun _ => True) (.slice Ao70 t412.length co70) t412) := ⟨by rw [hW_]; (with_reducible repeat (first | apply Kd.R_alloc | apply Kd.R_drewN | apply Kd.R_drew)); exact Kd.R_mono (Kd.R_far (p := ⟨gb450, 9, none⟩) (Kd.R_far (p := ⟨gb450, 8, none⟩) (Kd.R_far (p := ⟨gb450, 7, none⟩) (Kd.R_far (p := ⟨gb450, 6, none⟩) (Kd.R_far (p := ⟨gb450, 5, none⟩) (Kd.R_far (p := ⟨gb450, 4, none⟩) (Kd.R_far (p := ⟨gb450, 3, none⟩) (Kd.R_far (p := ⟨gb450, 2, none⟩) (Kd.R_far (p := ⟨gb450, 1, none⟩) (Kd.R_far (p := ⟨gb450, 0, none⟩) (Kd.R_types HO414.out BK450.out (by decide)) (fun _ hk => hk.2) (.slice Ao77 t424.length co77)) (fun _ hk => hk.2) (.slice Ao82 t427.length co82)) (fun _ hk => hk.2) (.slice Ao83 t430.length co83)) (fun _ hk => hk.2) (.slice Ao84 t433.length co84)) (fun _ hk => hk.2) (.slice Ao85 t436.length co85)) (fun _ hk => hk.2) (.slice Ao86 t439.length co86)) (fun _ hk => hk.2) (.slice Ao87 t442.length co87)) (fun _ hk => hk.2) (.slice Ao88 t445.length co88)) (fun _ hk => hk.2) (.bool t448)) (fun _ hk => hk.2) (.bool t449)) (fun _ hk => trivial)⟩; have n6_ : Aside0 (Kd.R (Kd.int .i64) 3 w90 w.heap.size (fun _ => True) (.slice Ao71 t415.length co71) t415) := ⟨by rw [hW_]; (with_reducible repeat (first | apply Kd.R_alloc | apply Kd.R_drewN | apply Kd.R_drew)); exact Kd.R_mono (Kd.R_far (p := ⟨gb450, 9, none⟩) (Kd.R_far (p := ⟨gb450, 8, none⟩) (Kd.R_far (p := ⟨gb450, 7, none⟩) (Kd.R_far (p := ⟨gb450, 6, none⟩) (Kd.R_far (p := ⟨gb450, 5, none⟩) (Kd.R_far (p := ⟨gb450, 4, none⟩) (Kd.R_far (p := ⟨gb450, 3, none⟩) (Kd.R_far (p := ⟨gb450, 2, none⟩) (Kd.R_far (p := ⟨gb450, 1, none⟩) (Kd.R_far (p := ⟨gb450, 0, none⟩) (Kd.R_types HO417.out BK450.out (by decide)) (fun _ hk => hk.2) (.slice Ao77 t424.length co77)) (fun _ hk => hk.2) (.slice Ao82 t427.length co82)) (fun _ hk => hk.2) (.slice Ao83 t430.length co83)) (fun _ hk => hk.2) (.slice Ao84 t433.length co84)) (fun _ hk => hk.2) (.slice Ao85 t436.length co85)) (fun _ hk => hk.2) (.slice Ao86 t439.length co86)) (fun _ hk => hk.2) (.slice Ao87 t442.length co87)) (fun _ hk => hk.2) (.slice Ao88 t445.length co88)) (fun _ hk => hk.2) (.bool t448)) (fun _ hk => hk.2) (.bool t449)) (fun _ hk => trivial)⟩; have n7_ : Aside0 (Kd.R (Kd.int .i64) 3 w90 w.heap.size (fun _ => True) (.slice Ao72 t418.length co72) t418) := ⟨by rw [hW_]; (with_reducible repeat (first | apply Kd.R_alloc | apply Kd.R_drewN | apply Kd.R_drew)); exact Kd.R_mono (Kd.R_far (p := ⟨gb450, 9, none⟩) (Kd.R_far (p := ⟨gb450, 8, none⟩) (Kd.R_far (p := ⟨gb450, 7, none⟩) (Kd.R_far (p := ⟨gb450, 6, none⟩) (Kd.R_far (p := ⟨gb450, 5, none⟩) (Kd.R_far (p := ⟨gb450, 4, none⟩) (Kd.R_far (p := ⟨gb450, 3, none⟩) (Kd.R_far (p := ⟨gb450, 2, none⟩) (Kd.R_far (p := ⟨gb450, 1, none⟩) (Kd.R_far (p := ⟨gb450, 0, none⟩) (Kd.R_types HO420.out BK450.out (by decide)) (fun _ hk => hk.2) (.slice Ao77 t424.length co77)) (fun _ hk => hk.2) (.slice Ao82 t427.length co82)) (fun _ hk => hk.2) (.slice Ao83 t430.length co83)) (fun _ hk => hk.2) (.slice Ao84 t433.length co84)) (fun _ hk => hk.2) (.slice Ao85 t436.length co85)) (fun _ hk => hk.2) (.slice Ao86 t439.length co86)) (fun _ hk => hk.2) (.slice Ao87 t442.length co87)) (fun _ hk => hk.2) (.slice Ao88 t445.length co88)) (fun _ hk => hk.2) (.bool t448)) (fun _ hk => hk.2) (.bool t449)) (fun _ hk => trivial)⟩; have n8_ : Aside0 (Kd.R (Kd.int .i64) 3 w90 w.heap.size (fun _ => True) (.slice Ao77 t424.length co77) t424) := ⟨by rw [hW_]; (with_reducible repeat (first | apply Kd.R_alloc | apply Kd.R_drewN | apply Kd.R_drew)); exact Kd.R_mono (Kd.R_far (p := ⟨gb450, 9, none⟩) (Kd.R_far (p := ⟨gb450, 8, none⟩) (Kd.R_far (p := ⟨gb450, 7, none⟩) (Kd.R_far (p := ⟨gb450, 6, none⟩) (Kd.R_far (p := ⟨gb450, 5, none⟩) (Kd.R_far (p := ⟨gb450, 4, none⟩) (Kd.R_far (p := ⟨gb450, 3, none⟩) (Kd.R_far (p := ⟨gb450, 2, none⟩) (Kd.R_far (p := ⟨gb450, 1, none⟩) (Kd.R_far (p := ⟨gb450, 0, none⟩) (Kd.R_types HO426.out BK450.out (by decide)) (fun _ hk => hk.2) (.slice Ao77 t424.length co77)) (fun _ hk => hk.2) (.slice Ao82 t427.length co82)) (fun _ hk => hk.2) (.slice Ao83 t430.length co83)) (fun _ hk => hk.2) (.slice Ao84 t433.length co84)) (fun _ hk => hk.2) (.slice Ao85 t436.length co85)) (fun _ hk => hk.2) (.slice Ao86 t439.length co86)) (fun _ hk => hk.2) (.slice Ao87 t442.length co87)) (fun _ hk => hk.2) (.slice Ao88 t445.length co88)) (fun _ hk => hk.2) (.bool t448)) (fun _ hk => hk.2) (.bool t449)) (fun _ hk => trivial)⟩; have n9_ : Aside0 (Kd.R (Kd.int .i64) 3 w90 w.heap.size (fun _ => True) (.slice Ao82 t427.length co82) t427) := ⟨by rw [hW_]; (with_reducible repeat (first | apply Kd.R_alloc | apply Kd.R_drewN | apply Kd.R_drew)); exact Kd.R_mono (Kd.R_far (p := ⟨gb450, 9, none⟩) (Kd.R_far (p := ⟨gb450, 8, none⟩) (Kd.R_far (p := ⟨gb450, 7, none⟩) (Kd.R_far (p := ⟨gb450, 6, none⟩) (Kd.R_far (p := ⟨gb450, 5, none⟩) (Kd.R_far (p := ⟨gb450, 4, none⟩) (Kd.R_far (p := ⟨gb450, 3, none⟩) (Kd.R_far (p := ⟨gb450, 2, none⟩) (Kd.R_far (p := ⟨gb450, 1, none⟩) (Kd.R_far (p := ⟨gb450, 0, none⟩) (Kd.R_types HO429.out BK450.out (by decide)) (fun _ hk => hk.2) (.slice Ao77 t424.length co77)) (fun _ hk => hk.2) (.slice Ao82 t427.length co82)) (fun _ hk => hk.2) (.slice Ao83 t430.length co83)) (fun _ hk => hk.2) (.slice Ao84 t433.length co84)) (fun _ hk => hk.2) (.slice Ao85 t436.length co85)) (fun _ hk => hk.2) (.slice Ao86 t439.length co86)) (fun _ hk => hk.2) (.slice Ao87 t442.length co87)) (fun _ hk => hk.2) (.slice Ao88 t445.length co88)) (fun _ hk => hk.2) (.bool t448)) (fun _ hk => hk.2) (.bool t449)) (fun _ hk => trivial)⟩; have n10_ : Aside0 (Kd.R (Kd.int .i64) 3 w90 w.heap.size (fun _ => True) (.slice Ao83 t430.length co83) t430) := ⟨by rw [hW_]; (with_reducible repeat (first | apply Kd.R_alloc | apply Kd.R_drewN | apply Kd.R_drew)); exact Kd.R_mono (Kd.R_far (p := ⟨gb450, 9, none⟩) (Kd.R_far (p := ⟨gb450, 8, none⟩) (Kd.R_far (p := ⟨gb450, 7, none⟩) (Kd.R_far (p := ⟨gb450, 6, none⟩) (Kd.R_far (p := ⟨gb450, 5, none⟩) (Kd.R_far (p := ⟨gb450, 4, none⟩) (Kd.R_far (p := ⟨gb450, 3, none⟩) (Kd.R_far (p := ⟨gb450, 2, none⟩) (Kd.R_far (p := ⟨gb450, 1, none⟩) (Kd.R_far (p := ⟨gb450, 0, none⟩) (Kd.R_types HO432.out BK450.out (by decide)) (fun _ hk => hk.2) (.slice Ao77 t424.length co77)) (fun _ hk => hk.2) (.slice Ao82 t427.length co82)) (fun _ hk => hk.2) (.slice Ao83 t430.length co83)) (fun _ hk => hk.2) (.slice Ao84 t433.length co84)) (fun _ hk => hk.2) (.slice Ao85 t436.length co85)) (fun _ hk => hk.2) (.slice Ao86 t439.length co86)) (fun _ hk => hk.2) (.slice Ao87 t442.length co87)) (fun _ hk => hk.2) (.slice Ao88 t445.length co88)) (fun _ hk => hk.2) (.bool t448)) (fun _ hk => hk.2) (.bool t449)) (fun _ hk => trivial)⟩; have n11_ : Aside0 (Kd.R (Kd.int .i64) 3 w90 w.heap.size (fun _ => True) (.slice Ao84 t433.length co84) t433) := ⟨by rw [hW_]; (with_reducible repeat (first | apply Kd.R_alloc | apply Kd.R_drewN | apply Kd.R_drew)); exact Kd.R_mono (Kd.R_far (p := ⟨gb450, 9, none⟩) (Kd.R_far (p := ⟨gb450, 8, none⟩) (Kd.R_far (p := ⟨gb450, 7, none⟩) (Kd.R_far (p := ⟨gb450, 6, none⟩) (Kd.R_far (p := ⟨gb450, 5, none⟩) (Kd.R_far (p := ⟨gb450, 4, none⟩) (Kd.R_far (p := ⟨gb450, 3, none⟩) (Kd.R_far (p := ⟨gb450, 2, none⟩) (Kd.R_far (p := ⟨gb450, 1, none⟩) (Kd.R_far (p := ⟨gb450, 0, none⟩) (Kd.R_types HO435.out BK450.out (by decide)) (fun _ hk => hk.2) (.slice Ao77 t424.length co77)) (fun _ hk => hk.2) (.slice Ao82 t427.length co82)) (fun _ hk => hk.2) (.slice Ao83 t430.length co83)) (fun _ hk => hk.2) (.slice Ao84 t433.length co84)) (fun _ hk => hk.2) (.slice Ao85 t436.length co85)) (fun _ hk => hk.2) (.slice Ao86 t439.length co86)) (fun _ hk => hk.2) (.slice Ao87 t442.length co87)) (fun _ hk => hk.2) (.slice Ao88 t445.length co88)) (fun _ hk => hk.2) (.bool t448)) (fun _ hk => hk.2) (.bool t449)) (fun _ hk => trivial)⟩; have n12_ : Aside0 (Kd.R (Kd.int .i64) 3 w90 w.heap.size (fun _ => True) (.slice Ao85 t436.length co85) t436) := ⟨by rw [hW_]; (with_reducible repeat (first | apply Kd.R_alloc | apply Kd.R_drewN | apply Kd.R_drew)); exact Kd.R_mono (Kd.R_far (p := ⟨gb450, 9, none⟩) (Kd.R_far (p := ⟨gb450, 8, none⟩) (Kd.R_far (p := ⟨gb450, 7, none⟩) (Kd.R_far (p := ⟨gb450, 6, none⟩) (Kd.R_far (p := ⟨gb450, 5, none⟩) (Kd.R_far (p := ⟨gb450, 4, none⟩) (Kd.R_far (p := ⟨gb450, 3, none⟩) (Kd.R_far (p := ⟨gb450, 2, none⟩) (Kd.R_far (p := ⟨gb450, 1, none⟩) (Kd.R_far (p := ⟨gb450, 0, none⟩) (Kd.R_types HO438.out BK450.out (by decide)) (fun _ hk => hk.2) (.slice Ao77 t424.length co77)) (fun _ hk => hk.2) (.slice Ao82 t427.length co82)) (fun _ hk => hk.2) (.slice Ao83 t430.length co83)) (fun _ hk => hk.2) (.slice Ao84 t433.length co84)) (fun _ hk => hk.2) (.slice Ao85 t436.length co85)) (fun _ hk => hk.2) (.slice Ao86 t439.length co86)) (fun _ hk => hk.2) (.slice Ao87 t442.length co87)) (fun _ hk => hk.2) (.slice Ao88 t445.length co88)) (fun _ hk => hk.2) (.bool t448)) (fun _ hk => hk.2) (.bool t449)) (fun _ hk => trivial)⟩; have n13_ : Aside0 (Kd.R (Kd.int .i64) 3 w90 w.heap.size (fun _ => True) (.slice Ao86 t439.length co86) t439) := ⟨by rw [hW_]; (with_reducible repeat (first | apply Kd.R_alloc | apply Kd.R_drewN | apply Kd.R_drew)); exact Kd.R_mono (Kd.R_far (p := ⟨gb450, 9, none⟩) (Kd.R_far (p := ⟨gb450, 8, none⟩) (Kd.R_far (p := ⟨gb450, 7, none⟩) (Kd.R_far (p := ⟨gb450, 6, none⟩) (Kd.R_far (p := ⟨gb450, 5, none⟩) (Kd.R_far (p := ⟨gb450, 4, none⟩) (Kd.R_far (p := ⟨gb450, 3, none⟩) (Kd.R_far (p := ⟨gb450, 2, none⟩) (Kd.R_far (p := ⟨gb450, 1, none⟩) (Kd.R_far (p := ⟨gb450, 0, none⟩) (Kd.R_types HO441.out BK450.out (by decide)) (fun _ hk => hk.2) (.slice Ao77 t424.length co77)) (fun _ hk => hk.2) (.slice Ao82 t427.length co82)) (fun _ hk => hk.2) (.slice Ao83 t430.length co83)) (fun _ hk => hk.2) (.slice Ao84 t433.length co84)) (fun _ hk => hk.2) (.slice Ao85 t436.length co85)) (fun _ hk => hk.2) (.slice Ao86 t439.length co86)) (fun _ hk => hk.2) (.slice Ao87 t442.length co87)) (fun _ hk => hk.2) (.slice Ao88 t445.length co88)) (fun _ hk => hk.2) (.bool t448)) (fun _ hk => hk.2) (.bool t449)) (fun _ hk => trivial)⟩; have n14_ : Aside0 (Kd.R (Kd.int .i64) 3 w90 w.heap.size (fun _ => True) (.slice Ao87 t442.length co87) t442) := ⟨by rw [hW_]; (with_reducible repeat (first | apply Kd.R_alloc | apply Kd.R_drewN | apply Kd.R_drew)); exact Kd.R_mono (Kd.R_far (p := ⟨gb450, 9, none⟩) (Kd.R_far (p := ⟨gb450, 8, none⟩) (Kd.R_far (p := ⟨gb450, 7, none⟩) (Kd.R_far (p := ⟨gb450, 6, none⟩) (Kd.R_far (p := ⟨gb450, 5, none⟩) (Kd.R_far (p := ⟨gb450, 4, none⟩) (Kd.R_far (p := ⟨gb450, 3, none⟩) (Kd.R_far (p := ⟨gb450, 2, none⟩) (Kd.R_far (p := ⟨gb450, 1, none⟩) (Kd.R_far (p := ⟨gb450, 0, none⟩) (Kd.R_types HO444.out BK450.out (by decide)) (fun _ hk => hk.2) (.slice Ao77 t424.length co77)) (fun _ hk => hk.2) (.slice Ao82 t427.length co82)) (fun _ hk => hk.2) (.slice Ao83 t430.length co83)) (fun _ hk => hk.2) (.slice Ao84 t433.length co84)) (fun _ hk => hk.2) (.slice Ao85 t436.length co85)) (fun _ hk => hk.2) (.slice Ao86 t439.length co86)) (fun _ hk => hk.2) (.slice Ao87 t442.length co87)) (fun _ hk => hk.2) (.slice Ao88 t445.length co88)) (fun _ hk => hk.2) (.bool t448)) (fun _ hk => hk.2) (.bool t449)) (fun _ hk => trivial)⟩; have n15_ : Aside0 (Kd.R (Kd.int .i64) 3 w90 w.heap.size (fun _ => True) (.slice Ao88 t445.length co88) t445) := ⟨by rw [hW_]; (with_reducible repeat (first | apply Kd.R_alloc | apply Kd.R_drewN | apply Kd.R_drew)); exact Kd.R_mono (Kd.R_far (p := ⟨gb450, 9, none⟩) (Kd.R_far (p := ⟨gb450, 8, none⟩) (Kd.R_far (p := ⟨gb450, 7, none⟩) (Kd.R_far (p := ⟨gb450, 6, none⟩) (Kd.R_far (p := ⟨gb450, 5, none⟩) (Kd.R_far (p := ⟨gb450, 4, none⟩) (Kd.R_far (p := ⟨gb450, 3, none⟩) (Kd.R_far (p := ⟨gb450, 2, none⟩) (Kd.R_far (p := ⟨gb450, 1, none⟩) (Kd.R_far (p := ⟨gb450, 0, none⟩) (Kd.R_types HO447.out BK450.out (by decide)) (fun _ hk => hk.2) (.slice Ao77 t424.length co77)) (fun _ hk => hk.2) (.slice Ao82 t427.length co82)) (fun _ hk => hk.2) (.slice Ao83 t430.length co83)) (fun _ hk => hk.2) (.slice Ao84 t433.length co84)) (fun _ hk => hk.2) (.slice Ao85 t436.length co85)) (fun _ hk => hk.2) (.slice Ao86 t439.length co86)) (fun _ hk => hk.2) (.slice Ao87 t442.length co87)) (fun _ hk => hk.2) (.slice Ao88 t445.length co88)) (fun _ hk => hk.2) (.bool t448)) (fun _ hk => hk.2) (.bool t449)) (fun _ hk => trivial)⟩; have n16_ : Aside0 (w90.heap[gb340]? = some (.cells #[.slice A0_0 l0_0.length c0_0, .slice A0_1 l0_1.length c0_1, .slice A0_2 l0_2.length c0_2, .slice A0_3 l0_3.length c0_3, .slice A0_4 l0_4.length c0_4, .slice A0_5 l0_5.length c0_5, .slice A0_6 l0_6.length c0_6, .slice A0_7 l0_7.length c0_7, .bool a0_8, .bool a0_9] 63 (0, 0))) := ⟨by rw [hW_]; (with_reducible repeat (first | refine blk_drewN ?_ _ | refine blk_drew ?_ | refine blk_alloc ?_ _)); refine blk_far ?_ NB340_450.out _; (with_reducible repeat (first | refine blk_drewN ?_ _ | refine blk_drew ?_ | refine blk_alloc ?_ _)); refine blk_far ?_ NB340_450.out _; (with_reducible repeat (first | refine blk_drewN ?_ _ | refine blk_drew ?_ | refine blk_alloc ?_ _)); refine blk_far ?_ NB340_450.out _; (with_reducible repeat (first | refine blk_drewN ?_ _ | refine blk_drew ?_ | refine blk_alloc ?_ _)); refine blk_far ?_ NB340_450.out _; (with_reducible repeat (first | refine blk_drewN ?_ _ | refine blk_drew ?_ | refine blk_alloc ?_ _)); refine blk_far ?_ NB340_450.out _; (with_reducible repeat (first | refine blk_drewN ?_ _ | refine blk_drew ?_ | refine blk_alloc ?_ _)); refine blk_far ?_ NB340_450.out _; (with_reducible repeat (first | refine blk_drewN ?_ _ | refine blk_drew ?_ | refine blk_alloc ?_ _)); refine blk_far ?_ NB340_450.out _; (with_reducible repeat (first | refine blk_drewN ?_ _ | refine blk_drew ?_ | refine blk_alloc ?_ _)); refine blk_far ?_ NB340_450.out _; (with_reducible repeat (first | refine blk_drewN ?_ _ | refine blk_drew ?_ | refine blk_alloc ?_ _)); refine blk_far ?_ NB340_450.out _; (with_reducible repeat (first | refine blk_drewN ?_ _ | refine blk_drew ?_ | refine blk_alloc ?_ _)); refine blk_far ?_ NB340_450.out _; (with_reducible repeat (first | refine blk_drewN ?_ _ | refine blk_drew ?_ | refine blk_alloc ?_ _)); exact BK340.out⟩; have n17_ : Aside0 (w90.heap[gb341]? = some (.cells #[.slice A1_0 l1_0.length c1_0, .slice A1_1 l1_1.length c1_1, .slice A1_2 l1_2.length c1_2, .slice A1_3 l1_3.length c1_3, .slice A1_4 l1_4.length c1_4, .slice A1_5 l1_5.length c1_5, .slice A1_6 l1_6.length c1_6, .slice A1_7 l1_7.length c1_7, .bool a1_8, .bool a1_9] 63 (0, 0))) := ⟨by rw [hW_]; (with_reducible repeat (first | refine blk_drewN ?_ _ | refine blk_drew ?_ | refine blk_alloc ?_ _)); refine blk_far ?_ NB341_450.out _; (with_reducible repeat (first | refine blk_drewN ?_ _ | refine blk_drew ?_ | refine blk_alloc ?_ _)); refine blk_far ?_ NB341_450.out _; (with_reducible repeat (first | refine blk_drewN ?_ _ | refine blk_drew ?_ | refine blk_alloc ?_ _)); refine blk_far ?_ NB341_450.out _; (with_reducible repeat (first | refine blk_drewN ?_ _ | refine blk_drew ?_ | refine blk_alloc ?_ _)); refine blk_far ?_ NB341_450.out _; (with_reducible repeat (first | refine blk_drewN ?_ _ | refine blk_drew ?_ | refine blk_alloc ?_ _)); refine blk_far ?_ NB341_450.out _; (with_reducible repeat (first | refine blk_drewN ?_ _ | refine blk_drew ?_ | refine blk_alloc ?_ _)); refine blk_far ?_ NB341_450.out _; (with_reducible repeat (first | refine blk_drewN ?_ _ | refine blk_drew ?_ | refine blk_alloc ?_ _)); refine blk_far ?_ NB341_450.out _; (with_reducible repeat (first | refine blk_drewN ?_ _ | refine blk_drew ?_ | refine blk_alloc ?_ _)); refine blk_far ?_ NB341_450.out _; (with_reducible repeat (first | refine blk_drewN ?_ _ | refine blk_drew ?_ | refine blk_alloc ?_ _)); refine blk_far ?_ NB341_450.out _; (with_reducible repeat (first | refine blk_drewN ?_ _ | refine blk_drew ?_ | refine blk_alloc ?_ _)); refine blk_far ?_ NB341_450.out _; (with_reducible repeat (first | refine blk_drewN ?_ _ | refine blk_drew ?_ | refine blk_alloc ?_ _)); exact BK341.out⟩; have n18_ : Aside0 (w90.heap[gb423]? = some (.cells #[.slice Ao62 t397.length co62, .slice Ao66 t400.length co66, .slice Ao67 t403.length co67, .slice Ao68 t406.length co68, .slice Ao69 t409.length co69, .slice Ao70 t412.length co70, .slice Ao71 t415.length co71, .slice Ao72 t418.length co72, .bool t421, .bool t422] 43 (0, 0))) := ⟨by rw [hW_]; (with_reducible repeat (first | refine blk_drewN ?_ _ | refine blk_drew ?_ | refine blk_alloc ?_ _)); refine blk_far ?_ NB423_450.out _; (with_reducible repeat (first | refine blk_drewN ?_ _ | refine blk_drew ?_ | refine blk_alloc ?_ _)); refine blk_far ?_ NB423_450.out _; (with_reducible repeat (first | refine blk_drewN ?_ _ | refine blk_drew ?_ | refine blk_alloc ?_ _)); refine blk_far ?_ NB423_450.out _; (with_reducible repeat (first | refine blk_drewN ?_ _ | refine blk_drew ?_ | refine blk_alloc ?_ _)); refine blk_far ?_ NB423_450.out _; (with_reducible repeat (first | refine blk_drewN ?_ _ | refine blk_drew ?_ | refine blk_alloc ?_ _)); refine blk_far ?_ NB423_450.out _; (with_reducible repeat (first | refine blk_drewN ?_ _ | refine blk_drew ?_ | refine blk_alloc ?_ _)); refine blk_far ?_ NB423_450.out _; (with_reducible repeat (first | refine blk_drewN ?_ _ | refine blk_drew ?_ | refine blk_alloc ?_ _)); refine blk_far ?_ NB423_450.out _; (with_reducible repeat (first | refine blk_drewN ?_ _ | refine blk_drew ?_ | refine blk_alloc ?_ _)); refine blk_far ?_ NB423_450.out _; (with_reducible repeat (first | refine blk_drewN ?_ _ | refine blk_drew ?_ | refine blk_alloc ?_ _)); refine blk_far ?_ NB423_450.out _; (with_reducible repeat (first | refine blk_drewN ?_ _ | refine blk_drew ?_ | refine blk_alloc ?_ _)); refine blk_far ?_ NB423_450.out _; (with_reducible repeat (first | refine blk_drewN ?_ _ | refine blk_drew ?_ | refine blk_alloc ?_ _)); exact BK423.out⟩; have n19_ : Aside0 (w90.heap[gb450]? = some (.cells #[.slice Ao77 t424.length co77, .slice Ao82 t427.length co82, .slice Ao83 t430.length co83, .slice Ao84 t433.length co84, .slice Ao85 t436.length co85, .slice Ao86 t439.length co86, .slice Ao87 t442.length co87, .slice Ao88 t445.length co88, .bool t448, .bool t449] 43 (0, 0))) := ⟨by rw [hW_]; (with_reducible repeat (first | refine blk_drewN ?_ _ | refine blk_drew ?_ | refine blk_alloc ?_ _)); refine blk_put (cs := #[.slice Ao77 t424.length co77, .slice Ao82 t427.length co82, .slice Ao83 t430.length co83, .slice Ao84 t433.length co84, .slice Ao85 t436.length co85, .slice Ao86 t439.length co86, .slice Ao87 t442.length co87, .slice Ao88 t445.length co88, .bool t448, .bool false]) ?_ 9 _ rfl; (with_reducible repeat (first | refine blk_drewN ?_ _ | refine blk_drew ?_ | refine blk_alloc ?_ _)); refine blk_put (cs := #[.slice Ao77 t424.length co77, .slice Ao82 t427.length co82, .slice Ao83 t430.length co83, .slice Ao84 t433.length co84, .slice Ao85 t436.length co85, .slice Ao86 t439.length co86, .slice Ao87 t442.length co87, .slice Ao88 t445.length co88, .bool false, .bool false]) ?_ 8 _ rfl; (with_reducible repeat (first | refine blk_drewN ?_ _ | refine blk_drew ?_ | refine blk_alloc ?_ _)); refine blk_put (cs := #[.slice Ao77 t424.length co77, .slice Ao82 t427.length co82, .slice Ao83 t430.length co83, .slice Ao84 t433.length co84, .slice Ao85 t436.length co85, .slice Ao86 t439.length co86, .slice Ao87 t442.length co87, .slice none 0 0, .bool false, .bool false]) ?_ 7 _ rfl; (with_reducible repeat (first | refine blk_drewN ?_ _ | refine blk_drew ?_ | refine blk_alloc ?_ _)); refine blk_put (cs := #[.slice Ao77 t424.length co77, .slice Ao82 t427.length co82, .slice Ao83 t430.length co83, .slice Ao84 t433.length co84, .slice Ao85 t436.length co85, .slice Ao86 t439.length co86, .slice none 0 0, .slice none 0 0, .bool false, .bool false]) ?_ 6 _ rfl; (with_reducible repeat (first | refine blk_drewN ?_ _ | refine blk_drew ?_ | refine blk_alloc ?_ _)); refine blk_put (cs := #[.slice Ao77 t424.length co77, .slice Ao82 t427.length co82, .slice Ao83 t430.length co83, .slice Ao84 t433.length co84, .slice Ao85 t436.length co85, .slice none 0 0, .slice none 0 0, .slice none 0 0, .bool false, .bool false]) ?_ 5 _ rfl; (with_reducible repeat (first | refine blk_drewN ?_ _ | refine blk_drew ?_ | refine blk_alloc ?_ _)); refine blk_put (cs := #[.slice Ao77 t424.length co77, .slice Ao82 t427.length co82, .slice Ao83 t430.length co83, .slice Ao84 t433.length co84, .slice none 0 0, .slice none 0 0, .slice none 0 0, .slice none 0 0, .bool false, .bool false]) ?_ 4 _ rfl; (with_reducible repeat (first | refine blk_drewN ?_ _ | refine blk_drew ?_ | refine blk_alloc ?_ _)); refine blk_put (cs := #[.slice Ao77 t424.length co77, .slice Ao82 t427.length co82, .slice Ao83 t430.length co83, .slice none 0 0, .slice none 0 0, .slice none 0 0, .slice none 0 0, .slice none 0 0, .bool false, .bool false]) ?_ 3 _ rfl; (with_reducible repeat (first | refine blk_drewN ?_ _ | refine blk_drew ?_ | refine blk_alloc ?_ _)); refine blk_put (cs := #[.slice Ao77 t424.length co77, .slice Ao82 t427.length co82, .slice none 0 0, .slice none 0 0, .slice none 0 0, .slice none 0 0, .slice none 0 0, .slice none 0 0, .bool false, .bool false]) ?_ 2 _ rfl; (with_reducible repeat (first | refine blk_drewN ?_ _ | refine blk_drew ?_ | refine blk_alloc ?_ _)); refine blk_put (cs := #[.slice Ao77 t424.length co77, .slice none 0 0, .slice none 0 0, .slice none 0 0, .slice none 0 0, .slice none 0 0, .slice none 0 0, .slice none 0 0, .bool false, .bool false]) ?_ 1 _ rfl; (with_reducible repeat (first | refine blk_drewN ?_ _ | refine blk_drew ?_ | refine blk_alloc ?_ _)); refine blk_put (cs := #[.slice none 0 0, .slice none 0 0, .slice none 0 0, .slice none 0 0, .slice none 0 0, .slice none 0 0, .slice none 0 0, .slice none 0 0, .bool false, .bool false]) ?_ 0 _ rfl; (with_reducible repeat (first | refine blk_drewN ?_ _ | refine blk_drew ?_ | refine blk_alloc ?_ _)); exact BK450.out⟩; have n20_ : Aside0 (Below w.heap.size w w90) := ⟨by rw [hW_]; repeat (first | (with_reducible first | exact HB.out | apply below_alloc | apply pw_below_drewN | apply below_drew1 | refine below_set ?_ GE340.out | refine below_set ?_ GE341.out | refine below_set ?_ GE423.out | refine below_set ?_ GE450.out) | exact HB.out)⟩; (try clear HO399); (try clear HO402); (try clear HO405); (try clear HO408); (try clear HO411); (try clear HO414); (try clear HO417); (try clear HO420); (try clear HO426); (try clear HO429); (try clear HO432); (try clear HO435); (try clear HO438); (try clear HO441); (try clear HO444); (try clear HO447); (try clear BK340); (try clear BK341); (try clear BK423); (try clear BK450); (try clear HB); rw [← hW_]; clear hW_; have HO399 := n0_; have HO402 := n1_; have HO405 := n2_; have HO408 := n3_; have HO411 := n4_; have HO414 := n5_; have HO417 := n6_; have HO420 := n7_; have HO426 := n8_; have HO429 := n9_; have HO432 := n10_; have HO435 := n11_; have HO438 := n12_; have HO441 := n13_; have HO444 := n14_; have HO447 := n15_; have BK340 := n16_; have BK341 := n17_; have BK423 := n18_; have BK450 := n19_; have HB := n20_; clear n0_ n1_ n2_ n3_ n4_ n5_ n6_ n7_ n8_ n9_ n10_ n11_ n12_ n13_ n14_ n15_ n16_ n17_ n18_ n19_ n20_; refine goesL_ (some 31) rfl rfl Try.func30 (by kernel_rfl) rfl #[.agg #[.slice Ao62 t397.length co62, .slice Ao66 t400.length co66, .slice Ao67 t403.length co67, .slice Ao68 t406.length co68, .slice Ao69 t409.length co69, .slice Ao70 t412.length co70, .slice Ao71 t415.length co71, .slice Ao72 t418.length co72, .bool t421, .bool t422], .agg #[.slice Ao77 t424.length co77, .slice Ao82 t427.length co82, .slice Ao83 t430.length co83, .slice Ao84 t433.length co84, .slice Ao85 t436.length co85, .slice Ao86 t439.length co86, .slice Ao87 t442.length co87, .slice Ao88 t445.length co88, .bool t448, .bool t449]] rfl (by (try simp only [List.map_toArray, List.map_cons, List.map_nil]); first | done | rfl | (simp only [List.length_drop, List.length_take]; rfl)) ?_; (with_reducible refine (impl_Apart.calls k _ _ t397 _ _ t400 _ _ t403 _ _ t406 _ _ t409 _ _ t412 _ _ t415 _ _ t418 t421 t422 _ _ t424 _ _ t427 _ _ t430 _ _ t433 _ _ t436 _ _ t439 _ _ t442 _ _ t445 t448 t449 t451 _ ?side1 ?side2 ?side3 ?side4 ?side5 ?side6 ?side7 ?side8 ?side9 ?side10 ?side11 ?side12 ?side13 ?side14 ?side15 ?side16 ?side17 ?side18 ?side19 ?side20 ?side21 ?side22 ?side23 ?side24 ?side25 ?side26 ?side27 ?side28 ?side29 ?side30 ?side31 ?side32 A24.out).mono ?_); (case side1 => repeat (first | exact (Kd.R_reads' HO399.out).2.2 | (with_reducible refine Kd.C_alloc ?_ _) | (with_reducible refine Kd.C_drewN ?_ _) | (with_reducible refine Kd.C_drew ?_))); (case side2 => exact (Kd.R_reads' HO399.out).2.1); (case side3 => repeat (first | exact (Kd.R_reads' HO402.out).2.2 | (with_reducible refine Kd.C_alloc ?_ _) | (with_reducible refine Kd.C_drewN ?_ _) | (with_reducible refine Kd.C_drew ?_))); (case side4 => exact (Kd.R_reads' HO402.out).2.1); (case side5 => repeat (first | exact (Kd.R_reads' HO405.out).2.2 | (with_reducible refine Kd.C_alloc ?_ _) | (with_reducible refine Kd.C_drewN ?_ _) | (with_reducible refine Kd.C_drew ?_))); (case side6 => exact (Kd.R_reads' HO405.out).2.1); (case side7 => repeat (first | exact (Kd.R_reads' HO408.out).2.2 | (with_reducible refine Kd.C_alloc ?_ _) | (with_reducible refine Kd.C_drewN ?_ _) | (with_reducible refine Kd.C_drew ?_))); (case side8 => exact (Kd.R_reads' HO408.out).2.1); (case side9 => repeat (first | exact (Kd.R_reads' HO411.out).2.2 | (with_reducible refine Kd.C_alloc ?_ _) | (with_reducible refine Kd.C_drewN ?_ _) | (with_reducible refine Kd.C_drew ?_))); (case side10 => exact (Kd.R_reads' HO411.out).2.1); (case side11 => repeat (first | exact (Kd.R_reads' HO414.out).2.2 | (with_reducible refine Kd.C_alloc ?_ _) | (with_reducible refine Kd.C_drewN ?_ _) | (with_reducible refine Kd.C_drew ?_))); (case side12 => exact (Kd.R_reads' HO414.out).2.1); (case side13 => repeat (first | exact (Kd.R_reads' HO417.out).2.2 | (with_reducible refine Kd.C_alloc ?_ _) | (with_reducible refine Kd.C_drewN ?_ _) | (with_reducible refine Kd.C_drew ?_))); (case side14 => exact (Kd.R_reads' HO417.out).2.1); (case side15 => repeat (first | exact (Kd.R_reads' HO420.out).2.2 | (with_reducible refine Kd.C_alloc ?_ _) | (with_reducible refine Kd.C_drewN ?_ _) | (with_reducible refine Kd.C_drew ?_))); (case side16 => exact (Kd.R_reads' HO420.out).2.1); (case side17 => repeat (first | exact (Kd.R_reads' HO426.out).2.2 | (with_reducible refine Kd.C_alloc ?_ _) | (with_reducible refine Kd.C_drewN ?_ _) | (with_reducible refine Kd.C_drew ?_))); (case side18 => exact (Kd.R_reads' HO426.out).2.1); (case side19 => repeat (first | exact (Kd.R_reads' HO429.out).2.2 | (with_reducible refine Kd.C_alloc ?_ _) | (with_reducible refine Kd.C_drewN ?_ _) | (with_reducible refine Kd.C_drew ?_))); (case side20 => exact (Kd.R_reads' HO429.out).2.1); (case side21 => repeat (first | exact (Kd.R_reads' HO432.out).2.2 | (with_reducible refine Kd.C_alloc ?_ _) | (with_reducible refine Kd.C_drewN ?_ _) | (with_reducible refine Kd.C_drew ?_))); (case side22 => exact (Kd.R_reads' HO432.out).2.1); (case side23 => repeat (first | exact (Kd.R_reads' HO435.out).2.2 | (with_reducible refine Kd.C_alloc ?_ _) | (with_reducible refine Kd.C_drewN ?_ _) | (with_reducible refine Kd.C_drew ?_))); (case side24 => exact (Kd.R_reads' HO435.out).2.1); (case side25 => repeat (first | exact (Kd.R_reads' HO438.out).2.2 | (with_reducible refine Kd.C_alloc ?_ _) | (with_reducible refine Kd.C_drewN ?_ _) | (with_reducible refine Kd.C_drew ?_))); (case side26 => exact (Kd.R_reads' HO438.out).2.1); (case side27 => repeat (first | exact (Kd.R_reads' HO441.out).2.2 | (with_reducible refine Kd.C_alloc ?_ _) | (with_reducible refine Kd.C_drewN ?_ _) | (with_reducible refine Kd.C_drew ?_))); (case side28 => exact (Kd.R_reads' HO441.out).2.1); (case side29 => repeat (first | exact (Kd.R_reads' HO444.out).2.2 | (with_reducible refine Kd.C_alloc ?_ _) | (with_reducible refine Kd.C_drewN ?_ _) | (with_reducible refine Kd.C_drew ?_))); (case side30 => exact (Kd.R_reads' HO444.out).2.1); (case side31 => repeat (first | exact (Kd.R_reads' HO447.out).2.2 | (with_reducible refine Kd.C_alloc ?_ _) | (with_reducible refine Kd.C_drewN ?_ _) | (with_reducible refine Kd.C_drew ?_))); (case side32 => exact (Kd.R_reads' HO447.out).2.1); rintro e w91 ⟨rfl, hb⟩; refine ⟨_, rfl, ?_⟩; have n0_ := Aside0.mk (Kd.R_below (rS HO399.out) hb); have n1_ := Aside0.mk (Kd.R_below (rS HO402.out) hb); have n2_ := Aside0.mk (Kd.R_below (rS HO405.out) hb); have n3_ := Aside0.mk (Kd.R_below (rS HO408.out) hb); have n4_ := Aside0.mk (Kd.R_below (rS HO411.out) hb); have n5_ := Aside0.mk (Kd.R_below (rS HO414.out) hb); have n6_ := Aside0.mk (Kd.R_below (rS HO417.out) hb); have n7_ := Aside0.mk (Kd.R_below (rS HO420.out) hb); have n8_ := Aside0.mk (Kd.R_below (rS HO426.out) hb); have n9_ := Aside0.mk (Kd.R_below (rS HO429.out) hb); have n10_ := Aside0.mk (Kd.R_below (rS HO432.out) hb); have n11_ := Aside0.mk (Kd.R_below (rS HO435.out) hb); have n12_ := Aside0.mk (Kd.R_below (rS HO438.out) hb); have n13_ := Aside0.mk (Kd.R_below (rS HO441.out) hb); have n14_ := Aside0.mk (Kd.R_below (rS HO444.out) hb); have n15_ := Aside0.mk (Kd.R_below (rS HO447.out) hb); have n16_ := Aside0.mk (blk_below (g := gb340) (o := .cells #[.slice A0_0 l0_0.length c0_0, .slice A0_1 l0_1.length c0_1, .slice A0_2 l0_2.length c0_2, .slice A0_3 l0_3.length c0_3, .slice A0_4 l0_4.length c0_4, .slice A0_5 l0_5.length c0_5, .slice A0_6 l0_6.length c0_6, .slice A0_7 l0_7.length c0_7, .bool a0_8, .bool a0_9] 63 (0, 0)) (by (with_reducible repeat (first | refine blk_drewN ?_ _ | refine blk_drew ?_ | refine blk_alloc ?_ _)); exact BK340.out) hb); have n17_ := Aside0.mk (blk_below (g := gb341) (o := .cells #[.slice A1_0 l1_0.length c1_0, .slice A1_1 l1_1.length c1_1, .slice A1_2 l1_2.length c1_2, .slice A1_3 l1_3.length c1_3, .slice A1_4 l1_4.length c1_4, .slice A1_5 l1_5.length c1_5, .slice A1_6 l1_6.length c1_6, .slice A1_7 l1_7.length c1_7, .bool a1_8, .bool a1_9] 63 (0, 0)) (by (with_reducible repeat (first | refine blk_drewN ?_ _ | refine blk_drew ?_ | refine blk_alloc ?_ _)); exact BK341.out) hb); have n18_ := Aside0.mk (blk_below (g := gb423) (o := .cells #[.slice Ao62 t397.length co62, .slice Ao66 t400.length co66, .slice Ao67 t403.length co67, .slice Ao68 t406.length co68, .slice Ao69 t409.length co69, .slice Ao70 t412.length co70, .slice Ao71 t415.length co71, .slice Ao72 t418.length co72, .bool t421, .bool t422] 43 (0, 0)) (by (with_reducible repeat (first | refine blk_drewN ?_ _ | refine blk_drew ?_ | refine blk_alloc ?_ _)); exact BK423.out) hb); have n19_ := Aside0.mk (blk_below (g := gb450) (o := .cells #[.slice Ao77 t424.length co77, .slice Ao82 t427.length co82, .slice Ao83 t430.length co83, .slice Ao84 t433.length co84, .slice Ao85 t436.length co85, .slice Ao86 t439.length co86, .slice Ao87 t442.length co87, .slice Ao88 t445.length co88, .bool t448, .bool t449] 43 (0, 0)) (by (with_reducible repeat (first | refine blk_drewN ?_ _ | refine blk_drew ?_ | refine blk_alloc ?_ _)); exact BK450.out) hb); have n20_ := Aside0.mk (below_step (by repeat (first | (with_reducible first | exact HB.out | apply below_alloc | apply pw_below_drewN | apply below_drew1 | refine below_set ?_ GE340.out | refine below_set ?_ GE341.out | refine below_set ?_ GE423.out | refine below_set ?_ GE450.out) | exact HB.out)) hb); clear HO399; clear HO402; clear HO405; clear HO408; clear HO411; clear HO414; clear HO417; clear HO420; clear HO426; clear HO429; clear HO432; clear HO435; clear HO438; clear HO441; clear HO444; clear HO447; clear BK340; clear BK341; clear BK423; clear BK450; clear HB; have HO399 := n0_; have HO402 := n1_; have HO405 := n2_; have HO408 := n3_; have HO411 := n4_; have HO414 := n5_; have HO417 := n6_; have HO420 := n7_; have HO426 := n8_; have HO429 := n9_; have HO432 := n10_; have HO435 := n11_; have HO438 := n12_; have HO441 := n13_; have HO444 := n14_; have HO447 := n15_; have BK340 := n16_; have BK341 := n17_; have BK423 := n18_; have BK450 := n19_; have HB := n20_; clear n0_ n1_ n2_ n3_ n4_ n5_ n6_ n7_ n8_ n9_ n10_ n11_ n12_ n13_ n14_ n15_ n16_ n17_ n18_ n19_ n20_; (try clear hb); (try clear hb2); (try clear hk); (try clear hi)))
            have n0_ := Aside0.mk (Kd.R_drew HO399.out)
            have n1_ := Aside0.mk (Kd.R_drew HO402.out)
            have n2_ := Aside0.mk (Kd.R_drew HO405.out)
            have n3_ := Aside0.mk (Kd.R_drew HO408.out)
            have n4_ := Aside0.mk (Kd.R_drew HO411.out)
            have n5_ := Aside0.mk (Kd.R_drew HO414.out)
            have n6_ := Aside0.mk (Kd.R_drew HO417.out)
            have n7_ := Aside0.mk (Kd.R_drew HO420.out)
            have n8_ := Aside0.mk (Kd.R_drew HO426.out)
            have n9_ := Aside0.mk (Kd.R_drew HO429.out)
            have n10_ := Aside0.mk (Kd.R_drew HO432.out)
            have n11_ := Aside0.mk (Kd.R_drew HO435.out)
            have n12_ := Aside0.mk (Kd.R_drew HO438.out)
            have n13_ := Aside0.mk (Kd.R_drew HO441.out)
            have n14_ := Aside0.mk (Kd.R_drew HO444.out)
            have n15_ := Aside0.mk (Kd.R_drew HO447.out)
            have n16_ := Aside0.mk (blk_drew BK340.out)
            have n17_ := Aside0.mk (blk_drew BK341.out)
            have n18_ := Aside0.mk (blk_drew BK423.out)
            have n19_ := Aside0.mk (blk_drew BK450.out)
            have n20_ := Aside0.mk (below_drew1 HB.out)
            clear HO399
            clear HO402
            clear HO405
            clear HO408
            clear HO411
            clear HO414
            clear HO417
            clear HO420
            clear HO426
            clear HO429
            clear HO432
            clear HO435
            clear HO438
            clear HO441
            clear HO444
            clear HO447
            clear BK340
            clear BK341
            clear BK423
            clear BK450
            clear HB
            have HO399 := n0_
            have HO402 := n1_
            have HO405 := n2_
            have HO408 := n3_
            have HO411 := n4_
            have HO414 := n5_
            have HO417 := n6_
            have HO420 := n7_
            have HO426 := n8_
            have HO429 := n9_
            have HO432 := n10_
            have HO435 := n11_
            have HO438 := n12_
            have HO441 := n13_
            have HO444 := n14_
            have HO447 := n15_
            have BK340 := n16_
            have BK341 := n17_
            have BK423 := n18_
            have BK450 := n19_
            have HB := n20_
            clear n0_ n1_ n2_ n3_ n4_ n5_ n6_ n7_ n8_ n9_ n10_ n11_ n12_ n13_ n14_ n15_ n16_ n17_ n18_ n19_ n20_
            refine start_ (n := 5) (S := fun w' => w'.cell? ⟨gb423, 0, none⟩ = some (.slice Ao62 t397.length co62) ∧ w'.cell? ⟨gb423, 1, none⟩ = some (.slice Ao66 t400.length co66) ∧ w'.cell? ⟨gb423, 2, none⟩ = some (.slice Ao67 t403.length co67) ∧ w'.cell? ⟨gb423, 3, none⟩ = some (.slice Ao68 t406.length co68) ∧ w'.cell? ⟨gb423, 4, none⟩ = some (.slice Ao69 t409.length co69) ∧ w'.cell? ⟨gb423, 5, none⟩ = some (.slice Ao70 t412.length co70) ∧ w'.cell? ⟨gb423, 6, none⟩ = some (.slice Ao71 t415.length co71) ∧ w'.cell? ⟨gb423, 7, none⟩ = some (.slice Ao72 t418.length co72) ∧ w'.cell? ⟨gb423, 8, none⟩ = some (.bool t421) ∧ w'.cell? ⟨gb423, 9, none⟩ = some (.bool t422) ∧ w'.cell? ⟨gb340, 0, none⟩ = some (.slice A0_0 l0_0.length c0_0) ∧ w'.cell? ⟨gb340, 1, none⟩ = some (.slice A0_1 l0_1.length c0_1) ∧ w'.cell? ⟨gb340, 2, none⟩ = some (.slice A0_2 l0_2.length c0_2) ∧ w'.cell? ⟨gb340, 3, none⟩ = some (.slice A0_3 l0_3.length c0_3) ∧ w'.cell? ⟨gb340, 4, none⟩ = some (.slice A0_4 l0_4.length c0_4) ∧ w'.cell? ⟨gb340, 5, none⟩ = some (.slice A0_5 l0_5.length c0_5) ∧ w'.cell? ⟨gb340, 6, none⟩ = some (.slice A0_6 l0_6.length c0_6) ∧ w'.cell? ⟨gb340, 7, none⟩ = some (.slice A0_7 l0_7.length c0_7) ∧ w'.cell? ⟨gb340, 8, none⟩ = some (.bool a0_8) ∧ w'.cell? ⟨gb340, 9, none⟩ = some (.bool a0_9)) (ds := []) #[false, false, false, false, false] (by kernel_rfl) rfl rfl ⟨(blk_cell BK423.out 0).trans rfl, (blk_cell BK423.out 1).trans rfl, (blk_cell BK423.out 2).trans rfl, (blk_cell BK423.out 3).trans rfl, (blk_cell BK423.out 4).trans rfl, (blk_cell BK423.out 5).trans rfl, (blk_cell BK423.out 6).trans rfl, (blk_cell BK423.out 7).trans rfl, (blk_cell BK423.out 8).trans rfl, (blk_cell BK423.out 9).trans rfl, (blk_cell BK340.out 0).trans rfl, (blk_cell BK340.out 1).trans rfl, (blk_cell BK340.out 2).trans rfl, (blk_cell BK340.out 3).trans rfl, (blk_cell BK340.out 4).trans rfl, (blk_cell BK340.out 5).trans rfl, (blk_cell BK340.out 6).trans rfl, (blk_cell BK340.out 7).trans rfl, (blk_cell BK340.out 8).trans rfl, (blk_cell BK340.out 9).trans rfl⟩ (fun hHeld => ?_)
            generalize w91.drew = w92 at HO399 HO402 HO405 HO408 HO411 HO414 HO417 HO420 HO426 HO429 HO432 HO435 HO438 HO441 HO444 HO447 BK340 BK341 BK423 BK450 HB hHeld ⊢
            refine take_ (i := 0) (N := some 35) (v := ?_) (a' := ?_) #[true, false, false, false, false] rfl rfl (by kernel_rfl) (fun _ _ _ h => h) (Or.inl ⟨by rfl, ?_⟩) hHeld ?_ ?_
            rotate_left
            · rintro w' ⟨s0, s1, s2, s3, s4, s5, s6, s7, s8, s9, s10, s11, s12, s13, s14, s15, s16, s17, s18, s19⟩
              go_simp
              with_reducible rfl
            rotate_left
            · simp only [Act.put, List.setIfInBounds_toArray, List.set_cons_zero, List.set_cons_succ, i64_w, i32_w]
              rfl
            refine take_ (i := 1) (N := some 36) (v := ?_) (a' := ?_) #[true, true, false, false, false] rfl rfl (by kernel_rfl) (fun _ _ _ h => h) (Or.inl ⟨by rfl, ?_⟩) hHeld ?_ ?_
            rotate_left
            · rintro w' ⟨s0, s1, s2, s3, s4, s5, s6, s7, s8, s9, s10, s11, s12, s13, s14, s15, s16, s17, s18, s19⟩
              go_simp
              with_reducible rfl
            rotate_left
            · simp only [Act.put, List.setIfInBounds_toArray, List.set_cons_zero, List.set_cons_succ, i64_w, i32_w]
              rfl
            refine one_ (i := 2) (N := some 37) #[true, true, true, false, false] rfl rfl (by kernel_rfl) (by decide) (fun K hK => ?_)
            refine goes_ Try.func39 (by kernel_rfl) rfl #[.agg #[.slice A0_0 l0_0.length c0_0, .slice A0_1 l0_1.length c0_1, .slice A0_2 l0_2.length c0_2, .slice A0_3 l0_3.length c0_3, .slice A0_4 l0_4.length c0_4, .slice A0_5 l0_5.length c0_5, .slice A0_6 l0_6.length c0_6, .slice A0_7 l0_7.length c0_7, .bool a0_8, .bool a0_9]] (by rfl) rfl rfl (by (try simp only [List.map_toArray, List.map_cons, List.map_nil]); first | done | rfl | (simp only [List.length_drop, List.length_take]; rfl)) ?_
            with_reducible refine (laws_toEffect.calls k _ _ l0_0 _ _ l0_1 _ _ l0_2 _ _ l0_3 _ _ l0_4 _ _ l0_5 _ _ l0_6 _ _ l0_7 a0_8 a0_9 t452 t455 t458 t461 t464 t467 t470 t473 t476 t477 _ ?side1 ?side2 ?side3 ?side4 ?side5 ?side6 ?side7 ?side8 ?side9 ?side10 ?side11 ?side12 ?side13 ?side14 ?side15 ?side16 A26.out).mono ?_
            (case side1 => exact cS (Kd.C_below HR0_0.out HB.out))
            (case side2 => exact HC0_0.out)
            (case side3 => exact cS (Kd.C_below HR0_1.out HB.out))
            (case side4 => exact HC0_1.out)
            (case side5 => exact cS (Kd.C_below HR0_2.out HB.out))
            (case side6 => exact HC0_2.out)
            (case side7 => exact cS (Kd.C_below HR0_3.out HB.out))
            (case side8 => exact HC0_3.out)
            (case side9 => exact cS (Kd.C_below HR0_4.out HB.out))
            (case side10 => exact HC0_4.out)
            (case side11 => exact cS (Kd.C_below HR0_5.out HB.out))
            (case side12 => exact HC0_5.out)
            (case side13 => exact cS (Kd.C_below HR0_6.out HB.out))
            (case side14 => exact HC0_6.out)
            (case side15 => exact cS (Kd.C_below HR0_7.out HB.out))
            (case side16 => exact HC0_7.out)
            rintro e w93 ⟨v453, v456, v459, v462, v465, v468, v471, v474, rfl, ho0, ho1, ho2, ho3, ho4, ho5, ho6, ho7, hb⟩
            refine ⟨_, rfl, ?_⟩
            have n0_ := Aside0.mk (Kd.R_below (rS HO399.out) hb)
            have n1_ := Aside0.mk (Kd.R_below (rS HO402.out) hb)
            have n2_ := Aside0.mk (Kd.R_below (rS HO405.out) hb)
            have n3_ := Aside0.mk (Kd.R_below (rS HO408.out) hb)
            have n4_ := Aside0.mk (Kd.R_below (rS HO411.out) hb)
            have n5_ := Aside0.mk (Kd.R_below (rS HO414.out) hb)
            have n6_ := Aside0.mk (Kd.R_below (rS HO417.out) hb)
            have n7_ := Aside0.mk (Kd.R_below (rS HO420.out) hb)
            have n8_ := Aside0.mk (Kd.R_below (rS HO426.out) hb)
            have n9_ := Aside0.mk (Kd.R_below (rS HO429.out) hb)
            have n10_ := Aside0.mk (Kd.R_below (rS HO432.out) hb)
            have n11_ := Aside0.mk (Kd.R_below (rS HO435.out) hb)
            have n12_ := Aside0.mk (Kd.R_below (rS HO438.out) hb)
            have n13_ := Aside0.mk (Kd.R_below (rS HO441.out) hb)
            have n14_ := Aside0.mk (Kd.R_below (rS HO444.out) hb)
            have n15_ := Aside0.mk (Kd.R_below (rS HO447.out) hb)
            have n16_ := Aside0.mk (Kd.R_lower ho0 (below_size (by repeat (first | (with_reducible first | exact HB.out | apply below_alloc | apply pw_below_drewN | apply below_drew1 | refine below_set ?_ GE340.out | refine below_set ?_ GE341.out | refine below_set ?_ GE423.out | refine below_set ?_ GE450.out) | exact HB.out))))
            have n17_ := Aside0.mk (Kd.R_lower ho1 (below_size (by repeat (first | (with_reducible first | exact HB.out | apply below_alloc | apply pw_below_drewN | apply below_drew1 | refine below_set ?_ GE340.out | refine below_set ?_ GE341.out | refine below_set ?_ GE423.out | refine below_set ?_ GE450.out) | exact HB.out))))
            have n18_ := Aside0.mk (Kd.R_lower ho2 (below_size (by repeat (first | (with_reducible first | exact HB.out | apply below_alloc | apply pw_below_drewN | apply below_drew1 | refine below_set ?_ GE340.out | refine below_set ?_ GE341.out | refine below_set ?_ GE423.out | refine below_set ?_ GE450.out) | exact HB.out))))
            have n19_ := Aside0.mk (Kd.R_lower ho3 (below_size (by repeat (first | (with_reducible first | exact HB.out | apply below_alloc | apply pw_below_drewN | apply below_drew1 | refine below_set ?_ GE340.out | refine below_set ?_ GE341.out | refine below_set ?_ GE423.out | refine below_set ?_ GE450.out) | exact HB.out))))
            have n20_ := Aside0.mk (Kd.R_lower ho4 (below_size (by repeat (first | (with_reducible first | exact HB.out | apply below_alloc | apply pw_below_drewN | apply below_drew1 | refine below_set ?_ GE340.out | refine below_set ?_ GE341.out | refine below_set ?_ GE423.out | refine below_set ?_ GE450.out) | exact HB.out))))
            have n21_ := Aside0.mk (Kd.R_lower ho5 (below_size (by repeat (first | (with_reducible first | exact HB.out | apply below_alloc | apply pw_below_drewN | apply below_drew1 | refine below_set ?_ GE340.out | refine below_set ?_ GE341.out | refine below_set ?_ GE423.out | refine below_set ?_ GE450.out) | exact HB.out))))
            have n22_ := Aside0.mk (Kd.R_lower ho6 (below_size (by repeat (first | (with_reducible first | exact HB.out | apply below_alloc | apply pw_below_drewN | apply below_drew1 | refine below_set ?_ GE340.out | refine below_set ?_ GE341.out | refine below_set ?_ GE423.out | refine below_set ?_ GE450.out) | exact HB.out))))
            have n23_ := Aside0.mk (Kd.R_lower ho7 (below_size (by repeat (first | (with_reducible first | exact HB.out | apply below_alloc | apply pw_below_drewN | apply below_drew1 | refine below_set ?_ GE340.out | refine below_set ?_ GE341.out | refine below_set ?_ GE423.out | refine below_set ?_ GE450.out) | exact HB.out))))
            have n24_ := Aside0.mk (blk_below (g := gb340) (o := .cells #[.slice A0_0 l0_0.length c0_0, .slice A0_1 l0_1.length c0_1, .slice A0_2 l0_2.length c0_2, .slice A0_3 l0_3.length c0_3, .slice A0_4 l0_4.length c0_4, .slice A0_5 l0_5.length c0_5, .slice A0_6 l0_6.length c0_6, .slice A0_7 l0_7.length c0_7, .bool a0_8, .bool a0_9] 63 (0, 0)) (by (with_reducible repeat (first | refine blk_drewN ?_ _ | refine blk_drew ?_ | refine blk_alloc ?_ _)); exact BK340.out) hb)
            have n25_ := Aside0.mk (blk_below (g := gb341) (o := .cells #[.slice A1_0 l1_0.length c1_0, .slice A1_1 l1_1.length c1_1, .slice A1_2 l1_2.length c1_2, .slice A1_3 l1_3.length c1_3, .slice A1_4 l1_4.length c1_4, .slice A1_5 l1_5.length c1_5, .slice A1_6 l1_6.length c1_6, .slice A1_7 l1_7.length c1_7, .bool a1_8, .bool a1_9] 63 (0, 0)) (by (with_reducible repeat (first | refine blk_drewN ?_ _ | refine blk_drew ?_ | refine blk_alloc ?_ _)); exact BK341.out) hb)
            have n26_ := Aside0.mk (blk_below (g := gb423) (o := .cells #[.slice Ao62 t397.length co62, .slice Ao66 t400.length co66, .slice Ao67 t403.length co67, .slice Ao68 t406.length co68, .slice Ao69 t409.length co69, .slice Ao70 t412.length co70, .slice Ao71 t415.length co71, .slice Ao72 t418.length co72, .bool t421, .bool t422] 43 (0, 0)) (by (with_reducible repeat (first | refine blk_drewN ?_ _ | refine blk_drew ?_ | refine blk_alloc ?_ _)); exact BK423.out) hb)
            have n27_ := Aside0.mk (blk_below (g := gb450) (o := .cells #[.slice Ao77 t424.length co77, .slice Ao82 t427.length co82, .slice Ao83 t430.length co83, .slice Ao84 t433.length co84, .slice Ao85 t436.length co85, .slice Ao86 t439.length co86, .slice Ao87 t442.length co87, .slice Ao88 t445.length co88, .bool t448, .bool t449] 43 (0, 0)) (by (with_reducible repeat (first | refine blk_drewN ?_ _ | refine blk_drew ?_ | refine blk_alloc ?_ _)); exact BK450.out) hb)
            have n28_ := Aside0.mk (below_step (by repeat (first | (with_reducible first | exact HB.out | apply below_alloc | apply pw_below_drewN | apply below_drew1 | refine below_set ?_ GE340.out | refine below_set ?_ GE341.out | refine below_set ?_ GE423.out | refine below_set ?_ GE450.out) | exact HB.out)) hb)
            clear HO399
            clear HO402
            clear HO405
            clear HO408
            clear HO411
            clear HO414
            clear HO417
            clear HO420
            clear HO426
            clear HO429
            clear HO432
            clear HO435
            clear HO438
            clear HO441
            clear HO444
            clear HO447
            clear BK340
            clear BK341
            clear BK423
            clear BK450
            clear HB
            have HO399 := n0_
            have HO402 := n1_
            have HO405 := n2_
            have HO408 := n3_
            have HO411 := n4_
            have HO414 := n5_
            have HO417 := n6_
            have HO420 := n7_
            have HO426 := n8_
            have HO429 := n9_
            have HO432 := n10_
            have HO435 := n11_
            have HO438 := n12_
            have HO441 := n13_
            have HO444 := n14_
            have HO447 := n15_
            have HO454 := n16_
            have HO457 := n17_
            have HO460 := n18_
            have HO463 := n19_
            have HO466 := n20_
            have HO469 := n21_
            have HO472 := n22_
            have HO475 := n23_
            have BK340 := n24_
            have BK341 := n25_
            have BK423 := n26_
            have BK450 := n27_
            have HB := n28_
            clear n0_ n1_ n2_ n3_ n4_ n5_ n6_ n7_ n8_ n9_ n10_ n11_ n12_ n13_ n14_ n15_ n16_ n17_ n18_ n19_ n20_ n21_ n22_ n23_ n24_ n25_ n26_ n27_ n28_
            (try clear hb)
            (try clear hb2)
            (try clear hk)
            (try clear hi)
            (try clear ho0)
            (try clear ho1)
            (try clear ho2)
            (try clear ho3)
            (try clear ho4)
            (try clear ho5)
            (try clear ho6)
            (try clear ho7)
            obtain ⟨Ao94, co94, eo94⟩ := Kd.R_slice HO454.out
            (first | subst eo94 | (injection eo94 with f1_ f2_ f3_; have f4_ := f1_.symm; have f5_ := f3_.symm; clear f1_ f2_ f3_; subst f4_; subst f5_))
            obtain ⟨Ao95, co95, eo95⟩ := Kd.R_slice HO457.out
            (first | subst eo95 | (injection eo95 with f1_ f2_ f3_; have f4_ := f1_.symm; have f5_ := f3_.symm; clear f1_ f2_ f3_; subst f4_; subst f5_))
            obtain ⟨Ao96, co96, eo96⟩ := Kd.R_slice HO460.out
            (first | subst eo96 | (injection eo96 with f1_ f2_ f3_; have f4_ := f1_.symm; have f5_ := f3_.symm; clear f1_ f2_ f3_; subst f4_; subst f5_))
            obtain ⟨Ao97, co97, eo97⟩ := Kd.R_slice HO463.out
            (first | subst eo97 | (injection eo97 with f1_ f2_ f3_; have f4_ := f1_.symm; have f5_ := f3_.symm; clear f1_ f2_ f3_; subst f4_; subst f5_))
            obtain ⟨Ao98, co98, eo98⟩ := Kd.R_slice HO466.out
            (first | subst eo98 | (injection eo98 with f1_ f2_ f3_; have f4_ := f1_.symm; have f5_ := f3_.symm; clear f1_ f2_ f3_; subst f4_; subst f5_))
            obtain ⟨Ao99, co99, eo99⟩ := Kd.R_slice HO469.out
            (first | subst eo99 | (injection eo99 with f1_ f2_ f3_; have f4_ := f1_.symm; have f5_ := f3_.symm; clear f1_ f2_ f3_; subst f4_; subst f5_))
            obtain ⟨Ao100, co100, eo100⟩ := Kd.R_slice HO472.out
            (first | subst eo100 | (injection eo100 with f1_ f2_ f3_; have f4_ := f1_.symm; have f5_ := f3_.symm; clear f1_ f2_ f3_; subst f4_; subst f5_))
            obtain ⟨Ao101, co101, eo101⟩ := Kd.R_slice HO475.out
            (first | subst eo101 | (injection eo101 with f1_ f2_ f3_; have f4_ := f1_.symm; have f5_ := f3_.symm; clear f1_ f2_ f3_; subst f4_; subst f5_))
            refine hK.out _ _ ⟨(blk_cell BK423.out 0).trans rfl, (blk_cell BK423.out 1).trans rfl, (blk_cell BK423.out 2).trans rfl, (blk_cell BK423.out 3).trans rfl, (blk_cell BK423.out 4).trans rfl, (blk_cell BK423.out 5).trans rfl, (blk_cell BK423.out 6).trans rfl, (blk_cell BK423.out 7).trans rfl, (blk_cell BK423.out 8).trans rfl, (blk_cell BK423.out 9).trans rfl, (blk_cell BK340.out 0).trans rfl, (blk_cell BK340.out 1).trans rfl, (blk_cell BK340.out 2).trans rfl, (blk_cell BK340.out 3).trans rfl, (blk_cell BK340.out 4).trans rfl, (blk_cell BK340.out 5).trans rfl, (blk_cell BK340.out 6).trans rfl, (blk_cell BK340.out 7).trans rfl, (blk_cell BK340.out 8).trans rfl, (blk_cell BK340.out 9).trans rfl⟩ (fun hHeld => ?_)
            clear hK K
            refine norm_ (a' := ?_) ?_ ?_
            rotate_left
            · show Act.put _ (some 37) _ = _
              simp only [Act.put, List.setIfInBounds_toArray, List.set_cons_zero, List.set_cons_succ, i64_w, i32_w]
              rfl
            refine one_ (i := 3) (N := some 38) #[true, true, true, true, false] rfl rfl (by kernel_rfl) (by decide) (fun K hK => ?_)
            refine goes_ Try.func40 (by kernel_rfl) rfl #[.agg #[.slice Ao62 t397.length co62, .slice Ao66 t400.length co66, .slice Ao67 t403.length co67, .slice Ao68 t406.length co68, .slice Ao69 t409.length co69, .slice Ao70 t412.length co70, .slice Ao71 t415.length co71, .slice Ao72 t418.length co72, .bool t421, .bool t422], .agg #[.slice Ao94 t452.length co94, .slice Ao95 t455.length co95, .slice Ao96 t458.length co96, .slice Ao97 t461.length co97, .slice Ao98 t464.length co98, .slice Ao99 t467.length co99, .slice Ao100 t470.length co100, .slice Ao101 t473.length co101, .bool t476, .bool t477]] (by rfl) rfl rfl (by (try simp only [List.map_toArray, List.map_cons, List.map_nil]); first | done | rfl | (simp only [List.length_drop, List.length_take]; rfl)) ?_
            with_reducible refine (laws_eqEffect.calls k _ _ t397 _ _ t400 _ _ t403 _ _ t406 _ _ t409 _ _ t412 _ _ t415 _ _ t418 t421 t422 _ _ t452 _ _ t455 _ _ t458 _ _ t461 _ _ t464 _ _ t467 _ _ t470 _ _ t473 t476 t477 true _ ?side1 ?side2 ?side3 ?side4 ?side5 ?side6 ?side7 ?side8 ?side9 ?side10 ?side11 ?side12 ?side13 ?side14 ?side15 ?side16 ?side17 ?side18 ?side19 ?side20 ?side21 ?side22 ?side23 ?side24 ?side25 ?side26 ?side27 ?side28 ?side29 ?side30 ?side31 ?side32 A27.out).mono ?_
            (case side1 => repeat (first | exact (Kd.R_reads' HO399.out).2.2 | (with_reducible refine Kd.C_alloc ?_ _) | (with_reducible refine Kd.C_drewN ?_ _) | (with_reducible refine Kd.C_drew ?_)))
            (case side2 => exact (Kd.R_reads' HO399.out).2.1)
            (case side3 => repeat (first | exact (Kd.R_reads' HO402.out).2.2 | (with_reducible refine Kd.C_alloc ?_ _) | (with_reducible refine Kd.C_drewN ?_ _) | (with_reducible refine Kd.C_drew ?_)))
            (case side4 => exact (Kd.R_reads' HO402.out).2.1)
            (case side5 => repeat (first | exact (Kd.R_reads' HO405.out).2.2 | (with_reducible refine Kd.C_alloc ?_ _) | (with_reducible refine Kd.C_drewN ?_ _) | (with_reducible refine Kd.C_drew ?_)))
            (case side6 => exact (Kd.R_reads' HO405.out).2.1)
            (case side7 => repeat (first | exact (Kd.R_reads' HO408.out).2.2 | (with_reducible refine Kd.C_alloc ?_ _) | (with_reducible refine Kd.C_drewN ?_ _) | (with_reducible refine Kd.C_drew ?_)))
            (case side8 => exact (Kd.R_reads' HO408.out).2.1)
            (case side9 => repeat (first | exact (Kd.R_reads' HO411.out).2.2 | (with_reducible refine Kd.C_alloc ?_ _) | (with_reducible refine Kd.C_drewN ?_ _) | (with_reducible refine Kd.C_drew ?_)))
            (case side10 => exact (Kd.R_reads' HO411.out).2.1)
            (case side11 => repeat (first | exact (Kd.R_reads' HO414.out).2.2 | (with_reducible refine Kd.C_alloc ?_ _) | (with_reducible refine Kd.C_drewN ?_ _) | (with_reducible refine Kd.C_drew ?_)))
            (case side12 => exact (Kd.R_reads' HO414.out).2.1)
            (case side13 => repeat (first | exact (Kd.R_reads' HO417.out).2.2 | (with_reducible refine Kd.C_alloc ?_ _) | (with_reducible refine Kd.C_drewN ?_ _) | (with_reducible refine Kd.C_drew ?_)))
            (case side14 => exact (Kd.R_reads' HO417.out).2.1)
            (case side15 => repeat (first | exact (Kd.R_reads' HO420.out).2.2 | (with_reducible refine Kd.C_alloc ?_ _) | (with_reducible refine Kd.C_drewN ?_ _) | (with_reducible refine Kd.C_drew ?_)))
            (case side16 => exact (Kd.R_reads' HO420.out).2.1)
            (case side17 => repeat (first | exact (Kd.R_reads' HO454.out).2.2 | (with_reducible refine Kd.C_alloc ?_ _) | (with_reducible refine Kd.C_drewN ?_ _) | (with_reducible refine Kd.C_drew ?_)))
            (case side18 => exact (Kd.R_reads' HO454.out).2.1)
            (case side19 => repeat (first | exact (Kd.R_reads' HO457.out).2.2 | (with_reducible refine Kd.C_alloc ?_ _) | (with_reducible refine Kd.C_drewN ?_ _) | (with_reducible refine Kd.C_drew ?_)))
            (case side20 => exact (Kd.R_reads' HO457.out).2.1)
            (case side21 => repeat (first | exact (Kd.R_reads' HO460.out).2.2 | (with_reducible refine Kd.C_alloc ?_ _) | (with_reducible refine Kd.C_drewN ?_ _) | (with_reducible refine Kd.C_drew ?_)))
            (case side22 => exact (Kd.R_reads' HO460.out).2.1)
            (case side23 => repeat (first | exact (Kd.R_reads' HO463.out).2.2 | (with_reducible refine Kd.C_alloc ?_ _) | (with_reducible refine Kd.C_drewN ?_ _) | (with_reducible refine Kd.C_drew ?_)))
            (case side24 => exact (Kd.R_reads' HO463.out).2.1)
            (case side25 => repeat (first | exact (Kd.R_reads' HO466.out).2.2 | (with_reducible refine Kd.C_alloc ?_ _) | (with_reducible refine Kd.C_drewN ?_ _) | (with_reducible refine Kd.C_drew ?_)))
            (case side26 => exact (Kd.R_reads' HO466.out).2.1)
            (case side27 => repeat (first | exact (Kd.R_reads' HO469.out).2.2 | (with_reducible refine Kd.C_alloc ?_ _) | (with_reducible refine Kd.C_drewN ?_ _) | (with_reducible refine Kd.C_drew ?_)))
            (case side28 => exact (Kd.R_reads' HO469.out).2.1)
            (case side29 => repeat (first | exact (Kd.R_reads' HO472.out).2.2 | (with_reducible refine Kd.C_alloc ?_ _) | (with_reducible refine Kd.C_drewN ?_ _) | (with_reducible refine Kd.C_drew ?_)))
            (case side30 => exact (Kd.R_reads' HO472.out).2.1)
            (case side31 => repeat (first | exact (Kd.R_reads' HO475.out).2.2 | (with_reducible refine Kd.C_alloc ?_ _) | (with_reducible refine Kd.C_drewN ?_ _) | (with_reducible refine Kd.C_drew ?_)))
            (case side32 => exact (Kd.R_reads' HO475.out).2.1)
            rintro e w102 ⟨rfl, hb⟩
            refine ⟨_, rfl, ?_⟩
            have n0_ := Aside0.mk (Kd.R_below (rS HO399.out) hb)
            have n1_ := Aside0.mk (Kd.R_below (rS HO402.out) hb)
            have n2_ := Aside0.mk (Kd.R_below (rS HO405.out) hb)
            have n3_ := Aside0.mk (Kd.R_below (rS HO408.out) hb)
            have n4_ := Aside0.mk (Kd.R_below (rS HO411.out) hb)
            have n5_ := Aside0.mk (Kd.R_below (rS HO414.out) hb)
            have n6_ := Aside0.mk (Kd.R_below (rS HO417.out) hb)
            have n7_ := Aside0.mk (Kd.R_below (rS HO420.out) hb)
            have n8_ := Aside0.mk (Kd.R_below (rS HO426.out) hb)
            have n9_ := Aside0.mk (Kd.R_below (rS HO429.out) hb)
            have n10_ := Aside0.mk (Kd.R_below (rS HO432.out) hb)
            have n11_ := Aside0.mk (Kd.R_below (rS HO435.out) hb)
            have n12_ := Aside0.mk (Kd.R_below (rS HO438.out) hb)
            have n13_ := Aside0.mk (Kd.R_below (rS HO441.out) hb)
            have n14_ := Aside0.mk (Kd.R_below (rS HO444.out) hb)
            have n15_ := Aside0.mk (Kd.R_below (rS HO447.out) hb)
            have n16_ := Aside0.mk (Kd.R_below (rS HO454.out) hb)
            have n17_ := Aside0.mk (Kd.R_below (rS HO457.out) hb)
            have n18_ := Aside0.mk (Kd.R_below (rS HO460.out) hb)
            have n19_ := Aside0.mk (Kd.R_below (rS HO463.out) hb)
            have n20_ := Aside0.mk (Kd.R_below (rS HO466.out) hb)
            have n21_ := Aside0.mk (Kd.R_below (rS HO469.out) hb)
            have n22_ := Aside0.mk (Kd.R_below (rS HO472.out) hb)
            have n23_ := Aside0.mk (Kd.R_below (rS HO475.out) hb)
            have n24_ := Aside0.mk (blk_below (g := gb340) (o := .cells #[.slice A0_0 l0_0.length c0_0, .slice A0_1 l0_1.length c0_1, .slice A0_2 l0_2.length c0_2, .slice A0_3 l0_3.length c0_3, .slice A0_4 l0_4.length c0_4, .slice A0_5 l0_5.length c0_5, .slice A0_6 l0_6.length c0_6, .slice A0_7 l0_7.length c0_7, .bool a0_8, .bool a0_9] 63 (0, 0)) (by (with_reducible repeat (first | refine blk_drewN ?_ _ | refine blk_drew ?_ | refine blk_alloc ?_ _)); exact BK340.out) hb)
            have n25_ := Aside0.mk (blk_below (g := gb341) (o := .cells #[.slice A1_0 l1_0.length c1_0, .slice A1_1 l1_1.length c1_1, .slice A1_2 l1_2.length c1_2, .slice A1_3 l1_3.length c1_3, .slice A1_4 l1_4.length c1_4, .slice A1_5 l1_5.length c1_5, .slice A1_6 l1_6.length c1_6, .slice A1_7 l1_7.length c1_7, .bool a1_8, .bool a1_9] 63 (0, 0)) (by (with_reducible repeat (first | refine blk_drewN ?_ _ | refine blk_drew ?_ | refine blk_alloc ?_ _)); exact BK341.out) hb)
            have n26_ := Aside0.mk (blk_below (g := gb423) (o := .cells #[.slice Ao62 t397.length co62, .slice Ao66 t400.length co66, .slice Ao67 t403.length co67, .slice Ao68 t406.length co68, .slice Ao69 t409.length co69, .slice Ao70 t412.length co70, .slice Ao71 t415.length co71, .slice Ao72 t418.length co72, .bool t421, .bool t422] 43 (0, 0)) (by (with_reducible repeat (first | refine blk_drewN ?_ _ | refine blk_drew ?_ | refine blk_alloc ?_ _)); exact BK423.out) hb)
            have n27_ := Aside0.mk (blk_below (g := gb450) (o := .cells #[.slice Ao77 t424.length co77, .slice Ao82 t427.length co82, .slice Ao83 t430.length co83, .slice Ao84 t433.length co84, .slice Ao85 t436.length co85, .slice Ao86 t439.length co86, .slice Ao87 t442.length co87, .slice Ao88 t445.length co88, .bool t448, .bool t449] 43 (0, 0)) (by (with_reducible repeat (first | refine blk_drewN ?_ _ | refine blk_drew ?_ | refine blk_alloc ?_ _)); exact BK450.out) hb)
            have n28_ := Aside0.mk (below_step (by repeat (first | (with_reducible first | exact HB.out | apply below_alloc | apply pw_below_drewN | apply below_drew1 | refine below_set ?_ GE340.out | refine below_set ?_ GE341.out | refine below_set ?_ GE423.out | refine below_set ?_ GE450.out) | exact HB.out)) hb)
            clear HO399
            clear HO402
            clear HO405
            clear HO408
            clear HO411
            clear HO414
            clear HO417
            clear HO420
            clear HO426
            clear HO429
            clear HO432
            clear HO435
            clear HO438
            clear HO441
            clear HO444
            clear HO447
            clear HO454
            clear HO457
            clear HO460
            clear HO463
            clear HO466
            clear HO469
            clear HO472
            clear HO475
            clear BK340
            clear BK341
            clear BK423
            clear BK450
            clear HB
            have HO399 := n0_
            have HO402 := n1_
            have HO405 := n2_
            have HO408 := n3_
            have HO411 := n4_
            have HO414 := n5_
            have HO417 := n6_
            have HO420 := n7_
            have HO426 := n8_
            have HO429 := n9_
            have HO432 := n10_
            have HO435 := n11_
            have HO438 := n12_
            have HO441 := n13_
            have HO444 := n14_
            have HO447 := n15_
            have HO454 := n16_
            have HO457 := n17_
            have HO460 := n18_
            have HO463 := n19_
            have HO466 := n20_
            have HO469 := n21_
            have HO472 := n22_
            have HO475 := n23_
            have BK340 := n24_
            have BK341 := n25_
            have BK423 := n26_
            have BK450 := n27_
            have HB := n28_
            clear n0_ n1_ n2_ n3_ n4_ n5_ n6_ n7_ n8_ n9_ n10_ n11_ n12_ n13_ n14_ n15_ n16_ n17_ n18_ n19_ n20_ n21_ n22_ n23_ n24_ n25_ n26_ n27_ n28_
            (try clear hb)
            (try clear hb2)
            (try clear hk)
            (try clear hi)
            refine hK.out _ _ ⟨(blk_cell BK423.out 0).trans rfl, (blk_cell BK423.out 1).trans rfl, (blk_cell BK423.out 2).trans rfl, (blk_cell BK423.out 3).trans rfl, (blk_cell BK423.out 4).trans rfl, (blk_cell BK423.out 5).trans rfl, (blk_cell BK423.out 6).trans rfl, (blk_cell BK423.out 7).trans rfl, (blk_cell BK423.out 8).trans rfl, (blk_cell BK423.out 9).trans rfl, (blk_cell BK340.out 0).trans rfl, (blk_cell BK340.out 1).trans rfl, (blk_cell BK340.out 2).trans rfl, (blk_cell BK340.out 3).trans rfl, (blk_cell BK340.out 4).trans rfl, (blk_cell BK340.out 5).trans rfl, (blk_cell BK340.out 6).trans rfl, (blk_cell BK340.out 7).trans rfl, (blk_cell BK340.out 8).trans rfl, (blk_cell BK340.out 9).trans rfl⟩ (fun hHeld => ?_)
            clear hK K
            refine norm_ (a' := ?_) ?_ ?_
            rotate_left
            · show Act.put _ (some 38) _ = _
              simp only [Act.put, List.setIfInBounds_toArray, List.set_cons_zero, List.set_cons_succ, i64_w, i32_w]
              rfl
            refine pure_ (i := 4) (N := some 39) (v := ?_) (a' := ?_) #[true, true, true, true, true] rfl rfl (by kernel_rfl) (fun _ _ _ h => h) (Or.inl ⟨by rfl, ?_⟩) ?_ ?_
            rotate_left
            · intro w'
              go_simp
              with_reducible rfl
            rotate_left
            · simp only [Act.put, List.setIfInBounds_toArray, List.set_cons_zero, List.set_cons_succ, i64_w, i32_w]
              rfl
            refine done_ (by kernel_rfl) ?_
            try go_wp2
            have n0_ := Aside0.mk (Kd.R_drew HO426.out)
            have n1_ := Aside0.mk (Kd.R_drew HO429.out)
            have n2_ := Aside0.mk (Kd.R_drew HO432.out)
            have n3_ := Aside0.mk (Kd.R_drew HO435.out)
            have n4_ := Aside0.mk (Kd.R_drew HO438.out)
            have n5_ := Aside0.mk (Kd.R_drew HO441.out)
            have n6_ := Aside0.mk (Kd.R_drew HO444.out)
            have n7_ := Aside0.mk (Kd.R_drew HO447.out)
            have n8_ := Aside0.mk (blk_drew BK340.out)
            have n9_ := Aside0.mk (blk_drew BK341.out)
            have n10_ := Aside0.mk (blk_drew BK423.out)
            have n11_ := Aside0.mk (blk_drew BK450.out)
            have n12_ := Aside0.mk (below_drew1 HB.out)
            clear HO426
            clear HO429
            clear HO432
            clear HO435
            clear HO438
            clear HO441
            clear HO444
            clear HO447
            clear BK340
            clear BK341
            clear BK423
            clear BK450
            clear HB
            have HO426 := n0_
            have HO429 := n1_
            have HO432 := n2_
            have HO435 := n3_
            have HO438 := n4_
            have HO441 := n5_
            have HO444 := n6_
            have HO447 := n7_
            have BK340 := n8_
            have BK341 := n9_
            have BK423 := n10_
            have BK450 := n11_
            have HB := n12_
            clear n0_ n1_ n2_ n3_ n4_ n5_ n6_ n7_ n8_ n9_ n10_ n11_ n12_
            refine start_ (n := 5) (S := fun w' => w'.cell? ⟨gb450, 0, none⟩ = some (.slice Ao77 t424.length co77) ∧ w'.cell? ⟨gb450, 1, none⟩ = some (.slice Ao82 t427.length co82) ∧ w'.cell? ⟨gb450, 2, none⟩ = some (.slice Ao83 t430.length co83) ∧ w'.cell? ⟨gb450, 3, none⟩ = some (.slice Ao84 t433.length co84) ∧ w'.cell? ⟨gb450, 4, none⟩ = some (.slice Ao85 t436.length co85) ∧ w'.cell? ⟨gb450, 5, none⟩ = some (.slice Ao86 t439.length co86) ∧ w'.cell? ⟨gb450, 6, none⟩ = some (.slice Ao87 t442.length co87) ∧ w'.cell? ⟨gb450, 7, none⟩ = some (.slice Ao88 t445.length co88) ∧ w'.cell? ⟨gb450, 8, none⟩ = some (.bool t448) ∧ w'.cell? ⟨gb450, 9, none⟩ = some (.bool t449) ∧ w'.cell? ⟨gb341, 0, none⟩ = some (.slice A1_0 l1_0.length c1_0) ∧ w'.cell? ⟨gb341, 1, none⟩ = some (.slice A1_1 l1_1.length c1_1) ∧ w'.cell? ⟨gb341, 2, none⟩ = some (.slice A1_2 l1_2.length c1_2) ∧ w'.cell? ⟨gb341, 3, none⟩ = some (.slice A1_3 l1_3.length c1_3) ∧ w'.cell? ⟨gb341, 4, none⟩ = some (.slice A1_4 l1_4.length c1_4) ∧ w'.cell? ⟨gb341, 5, none⟩ = some (.slice A1_5 l1_5.length c1_5) ∧ w'.cell? ⟨gb341, 6, none⟩ = some (.slice A1_6 l1_6.length c1_6) ∧ w'.cell? ⟨gb341, 7, none⟩ = some (.slice A1_7 l1_7.length c1_7) ∧ w'.cell? ⟨gb341, 8, none⟩ = some (.bool a1_8) ∧ w'.cell? ⟨gb341, 9, none⟩ = some (.bool a1_9)) (ds := []) #[false, false, false, false, false] (by kernel_rfl) rfl rfl ⟨(blk_cell BK450.out 0).trans rfl, (blk_cell BK450.out 1).trans rfl, (blk_cell BK450.out 2).trans rfl, (blk_cell BK450.out 3).trans rfl, (blk_cell BK450.out 4).trans rfl, (blk_cell BK450.out 5).trans rfl, (blk_cell BK450.out 6).trans rfl, (blk_cell BK450.out 7).trans rfl, (blk_cell BK450.out 8).trans rfl, (blk_cell BK450.out 9).trans rfl, (blk_cell BK341.out 0).trans rfl, (blk_cell BK341.out 1).trans rfl, (blk_cell BK341.out 2).trans rfl, (blk_cell BK341.out 3).trans rfl, (blk_cell BK341.out 4).trans rfl, (blk_cell BK341.out 5).trans rfl, (blk_cell BK341.out 6).trans rfl, (blk_cell BK341.out 7).trans rfl, (blk_cell BK341.out 8).trans rfl, (blk_cell BK341.out 9).trans rfl⟩ (fun hHeld => ?_)
            generalize w102.drew = w103 at HO426 HO429 HO432 HO435 HO438 HO441 HO444 HO447 BK340 BK341 BK423 BK450 HB hHeld ⊢
            refine take_ (i := 0) (N := some 40) (v := ?_) (a' := ?_) #[true, false, false, false, false] rfl rfl (by kernel_rfl) (fun _ _ _ h => h) (Or.inl ⟨by rfl, ?_⟩) hHeld ?_ ?_
            rotate_left
            · rintro w' ⟨s0, s1, s2, s3, s4, s5, s6, s7, s8, s9, s10, s11, s12, s13, s14, s15, s16, s17, s18, s19⟩
              go_simp
              with_reducible rfl
            rotate_left
            · simp only [Act.put, List.setIfInBounds_toArray, List.set_cons_zero, List.set_cons_succ, i64_w, i32_w]
              rfl
            refine take_ (i := 1) (N := some 41) (v := ?_) (a' := ?_) #[true, true, false, false, false] rfl rfl (by kernel_rfl) (fun _ _ _ h => h) (Or.inl ⟨by rfl, ?_⟩) hHeld ?_ ?_
            rotate_left
            · rintro w' ⟨s0, s1, s2, s3, s4, s5, s6, s7, s8, s9, s10, s11, s12, s13, s14, s15, s16, s17, s18, s19⟩
              go_simp
              with_reducible rfl
            rotate_left
            · simp only [Act.put, List.setIfInBounds_toArray, List.set_cons_zero, List.set_cons_succ, i64_w, i32_w]
              rfl
            refine one_ (i := 2) (N := some 42) #[true, true, true, false, false] rfl rfl (by kernel_rfl) (by decide) (fun K hK => ?_)
            refine goes_ Try.func39 (by kernel_rfl) rfl #[.agg #[.slice A1_0 l1_0.length c1_0, .slice A1_1 l1_1.length c1_1, .slice A1_2 l1_2.length c1_2, .slice A1_3 l1_3.length c1_3, .slice A1_4 l1_4.length c1_4, .slice A1_5 l1_5.length c1_5, .slice A1_6 l1_6.length c1_6, .slice A1_7 l1_7.length c1_7, .bool a1_8, .bool a1_9]] (by rfl) rfl rfl (by (try simp only [List.map_toArray, List.map_cons, List.map_nil]); first | done | rfl | (simp only [List.length_drop, List.length_take]; rfl)) ?_
            with_reducible refine (laws_toEffect.calls k _ _ l1_0 _ _ l1_1 _ _ l1_2 _ _ l1_3 _ _ l1_4 _ _ l1_5 _ _ l1_6 _ _ l1_7 a1_8 a1_9 t479 t482 t485 t488 t491 t494 t497 t500 t503 t504 _ ?side1 ?side2 ?side3 ?side4 ?side5 ?side6 ?side7 ?side8 ?side9 ?side10 ?side11 ?side12 ?side13 ?side14 ?side15 ?side16 A29.out).mono ?_
            (case side1 => exact cS (Kd.C_below HR1_0.out HB.out))
            (case side2 => exact HC1_0.out)
            (case side3 => exact cS (Kd.C_below HR1_1.out HB.out))
            (case side4 => exact HC1_1.out)
            (case side5 => exact cS (Kd.C_below HR1_2.out HB.out))
            (case side6 => exact HC1_2.out)
            (case side7 => exact cS (Kd.C_below HR1_3.out HB.out))
            (case side8 => exact HC1_3.out)
            (case side9 => exact cS (Kd.C_below HR1_4.out HB.out))
            (case side10 => exact HC1_4.out)
            (case side11 => exact cS (Kd.C_below HR1_5.out HB.out))
            (case side12 => exact HC1_5.out)
            (case side13 => exact cS (Kd.C_below HR1_6.out HB.out))
            (case side14 => exact HC1_6.out)
            (case side15 => exact cS (Kd.C_below HR1_7.out HB.out))
            (case side16 => exact HC1_7.out)
            rintro e w104 ⟨v480, v483, v486, v489, v492, v495, v498, v501, rfl, ho0, ho1, ho2, ho3, ho4, ho5, ho6, ho7, hb⟩
            refine ⟨_, rfl, ?_⟩
            have n0_ := Aside0.mk (Kd.R_below (rS HO426.out) hb)
            have n1_ := Aside0.mk (Kd.R_below (rS HO429.out) hb)
            have n2_ := Aside0.mk (Kd.R_below (rS HO432.out) hb)
            have n3_ := Aside0.mk (Kd.R_below (rS HO435.out) hb)
            have n4_ := Aside0.mk (Kd.R_below (rS HO438.out) hb)
            have n5_ := Aside0.mk (Kd.R_below (rS HO441.out) hb)
            have n6_ := Aside0.mk (Kd.R_below (rS HO444.out) hb)
            have n7_ := Aside0.mk (Kd.R_below (rS HO447.out) hb)
            have n8_ := Aside0.mk (Kd.R_lower ho0 (below_size (by repeat (first | (with_reducible first | exact HB.out | apply below_alloc | apply pw_below_drewN | apply below_drew1 | refine below_set ?_ GE340.out | refine below_set ?_ GE341.out | refine below_set ?_ GE423.out | refine below_set ?_ GE450.out) | exact HB.out))))
            have n9_ := Aside0.mk (Kd.R_lower ho1 (below_size (by repeat (first | (with_reducible first | exact HB.out | apply below_alloc | apply pw_below_drewN | apply below_drew1 | refine below_set ?_ GE340.out | refine below_set ?_ GE341.out | refine below_set ?_ GE423.out | refine below_set ?_ GE450.out) | exact HB.out))))
            have n10_ := Aside0.mk (Kd.R_lower ho2 (below_size (by repeat (first | (with_reducible first | exact HB.out | apply below_alloc | apply pw_below_drewN | apply below_drew1 | refine below_set ?_ GE340.out | refine below_set ?_ GE341.out | refine below_set ?_ GE423.out | refine below_set ?_ GE450.out) | exact HB.out))))
            have n11_ := Aside0.mk (Kd.R_lower ho3 (below_size (by repeat (first | (with_reducible first | exact HB.out | apply below_alloc | apply pw_below_drewN | apply below_drew1 | refine below_set ?_ GE340.out | refine below_set ?_ GE341.out | refine below_set ?_ GE423.out | refine below_set ?_ GE450.out) | exact HB.out))))
            have n12_ := Aside0.mk (Kd.R_lower ho4 (below_size (by repeat (first | (with_reducible first | exact HB.out | apply below_alloc | apply pw_below_drewN | apply below_drew1 | refine below_set ?_ GE340.out | refine below_set ?_ GE341.out | refine below_set ?_ GE423.out | refine below_set ?_ GE450.out) | exact HB.out))))
            have n13_ := Aside0.mk (Kd.R_lower ho5 (below_size (by repeat (first | (with_reducible first | exact HB.out | apply below_alloc | apply pw_below_drewN | apply below_drew1 | refine below_set ?_ GE340.out | refine below_set ?_ GE341.out | refine below_set ?_ GE423.out | refine below_set ?_ GE450.out) | exact HB.out))))
            have n14_ := Aside0.mk (Kd.R_lower ho6 (below_size (by repeat (first | (with_reducible first | exact HB.out | apply below_alloc | apply pw_below_drewN | apply below_drew1 | refine below_set ?_ GE340.out | refine below_set ?_ GE341.out | refine below_set ?_ GE423.out | refine below_set ?_ GE450.out) | exact HB.out))))
            have n15_ := Aside0.mk (Kd.R_lower ho7 (below_size (by repeat (first | (with_reducible first | exact HB.out | apply below_alloc | apply pw_below_drewN | apply below_drew1 | refine below_set ?_ GE340.out | refine below_set ?_ GE341.out | refine below_set ?_ GE423.out | refine below_set ?_ GE450.out) | exact HB.out))))
            have n16_ := Aside0.mk (blk_below (g := gb340) (o := .cells #[.slice A0_0 l0_0.length c0_0, .slice A0_1 l0_1.length c0_1, .slice A0_2 l0_2.length c0_2, .slice A0_3 l0_3.length c0_3, .slice A0_4 l0_4.length c0_4, .slice A0_5 l0_5.length c0_5, .slice A0_6 l0_6.length c0_6, .slice A0_7 l0_7.length c0_7, .bool a0_8, .bool a0_9] 63 (0, 0)) (by (with_reducible repeat (first | refine blk_drewN ?_ _ | refine blk_drew ?_ | refine blk_alloc ?_ _)); exact BK340.out) hb)
            have n17_ := Aside0.mk (blk_below (g := gb341) (o := .cells #[.slice A1_0 l1_0.length c1_0, .slice A1_1 l1_1.length c1_1, .slice A1_2 l1_2.length c1_2, .slice A1_3 l1_3.length c1_3, .slice A1_4 l1_4.length c1_4, .slice A1_5 l1_5.length c1_5, .slice A1_6 l1_6.length c1_6, .slice A1_7 l1_7.length c1_7, .bool a1_8, .bool a1_9] 63 (0, 0)) (by (with_reducible repeat (first | refine blk_drewN ?_ _ | refine blk_drew ?_ | refine blk_alloc ?_ _)); exact BK341.out) hb)
            have n18_ := Aside0.mk (blk_below (g := gb423) (o := .cells #[.slice Ao62 t397.length co62, .slice Ao66 t400.length co66, .slice Ao67 t403.length co67, .slice Ao68 t406.length co68, .slice Ao69 t409.length co69, .slice Ao70 t412.length co70, .slice Ao71 t415.length co71, .slice Ao72 t418.length co72, .bool t421, .bool t422] 43 (0, 0)) (by (with_reducible repeat (first | refine blk_drewN ?_ _ | refine blk_drew ?_ | refine blk_alloc ?_ _)); exact BK423.out) hb)
            have n19_ := Aside0.mk (blk_below (g := gb450) (o := .cells #[.slice Ao77 t424.length co77, .slice Ao82 t427.length co82, .slice Ao83 t430.length co83, .slice Ao84 t433.length co84, .slice Ao85 t436.length co85, .slice Ao86 t439.length co86, .slice Ao87 t442.length co87, .slice Ao88 t445.length co88, .bool t448, .bool t449] 43 (0, 0)) (by (with_reducible repeat (first | refine blk_drewN ?_ _ | refine blk_drew ?_ | refine blk_alloc ?_ _)); exact BK450.out) hb)
            have n20_ := Aside0.mk (below_step (by repeat (first | (with_reducible first | exact HB.out | apply below_alloc | apply pw_below_drewN | apply below_drew1 | refine below_set ?_ GE340.out | refine below_set ?_ GE341.out | refine below_set ?_ GE423.out | refine below_set ?_ GE450.out) | exact HB.out)) hb)
            clear HO426
            clear HO429
            clear HO432
            clear HO435
            clear HO438
            clear HO441
            clear HO444
            clear HO447
            clear BK340
            clear BK341
            clear BK423
            clear BK450
            clear HB
            have HO426 := n0_
            have HO429 := n1_
            have HO432 := n2_
            have HO435 := n3_
            have HO438 := n4_
            have HO441 := n5_
            have HO444 := n6_
            have HO447 := n7_
            have HO481 := n8_
            have HO484 := n9_
            have HO487 := n10_
            have HO490 := n11_
            have HO493 := n12_
            have HO496 := n13_
            have HO499 := n14_
            have HO502 := n15_
            have BK340 := n16_
            have BK341 := n17_
            have BK423 := n18_
            have BK450 := n19_
            have HB := n20_
            clear n0_ n1_ n2_ n3_ n4_ n5_ n6_ n7_ n8_ n9_ n10_ n11_ n12_ n13_ n14_ n15_ n16_ n17_ n18_ n19_ n20_
            (try clear hb)
            (try clear hb2)
            (try clear hk)
            (try clear hi)
            (try clear ho0)
            (try clear ho1)
            (try clear ho2)
            (try clear ho3)
            (try clear ho4)
            (try clear ho5)
            (try clear ho6)
            (try clear ho7)
            obtain ⟨Ao105, co105, eo105⟩ := Kd.R_slice HO481.out
            (first | subst eo105 | (injection eo105 with f1_ f2_ f3_; have f4_ := f1_.symm; have f5_ := f3_.symm; clear f1_ f2_ f3_; subst f4_; subst f5_))
            obtain ⟨Ao106, co106, eo106⟩ := Kd.R_slice HO484.out
            (first | subst eo106 | (injection eo106 with f1_ f2_ f3_; have f4_ := f1_.symm; have f5_ := f3_.symm; clear f1_ f2_ f3_; subst f4_; subst f5_))
            obtain ⟨Ao107, co107, eo107⟩ := Kd.R_slice HO487.out
            (first | subst eo107 | (injection eo107 with f1_ f2_ f3_; have f4_ := f1_.symm; have f5_ := f3_.symm; clear f1_ f2_ f3_; subst f4_; subst f5_))
            obtain ⟨Ao108, co108, eo108⟩ := Kd.R_slice HO490.out
            (first | subst eo108 | (injection eo108 with f1_ f2_ f3_; have f4_ := f1_.symm; have f5_ := f3_.symm; clear f1_ f2_ f3_; subst f4_; subst f5_))
            obtain ⟨Ao109, co109, eo109⟩ := Kd.R_slice HO493.out
            (first | subst eo109 | (injection eo109 with f1_ f2_ f3_; have f4_ := f1_.symm; have f5_ := f3_.symm; clear f1_ f2_ f3_; subst f4_; subst f5_))
            obtain ⟨Ao110, co110, eo110⟩ := Kd.R_slice HO496.out
            (first | subst eo110 | (injection eo110 with f1_ f2_ f3_; have f4_ := f1_.symm; have f5_ := f3_.symm; clear f1_ f2_ f3_; subst f4_; subst f5_))
            obtain ⟨Ao111, co111, eo111⟩ := Kd.R_slice HO499.out
            (first | subst eo111 | (injection eo111 with f1_ f2_ f3_; have f4_ := f1_.symm; have f5_ := f3_.symm; clear f1_ f2_ f3_; subst f4_; subst f5_))
            obtain ⟨Ao112, co112, eo112⟩ := Kd.R_slice HO502.out
            (first | subst eo112 | (injection eo112 with f1_ f2_ f3_; have f4_ := f1_.symm; have f5_ := f3_.symm; clear f1_ f2_ f3_; subst f4_; subst f5_))
            refine hK.out _ _ ⟨(blk_cell BK450.out 0).trans rfl, (blk_cell BK450.out 1).trans rfl, (blk_cell BK450.out 2).trans rfl, (blk_cell BK450.out 3).trans rfl, (blk_cell BK450.out 4).trans rfl, (blk_cell BK450.out 5).trans rfl, (blk_cell BK450.out 6).trans rfl, (blk_cell BK450.out 7).trans rfl, (blk_cell BK450.out 8).trans rfl, (blk_cell BK450.out 9).trans rfl, (blk_cell BK341.out 0).trans rfl, (blk_cell BK341.out 1).trans rfl, (blk_cell BK341.out 2).trans rfl, (blk_cell BK341.out 3).trans rfl, (blk_cell BK341.out 4).trans rfl, (blk_cell BK341.out 5).trans rfl, (blk_cell BK341.out 6).trans rfl, (blk_cell BK341.out 7).trans rfl, (blk_cell BK341.out 8).trans rfl, (blk_cell BK341.out 9).trans rfl⟩ (fun hHeld => ?_)
            clear hK K
            refine norm_ (a' := ?_) ?_ ?_
            rotate_left
            · show Act.put _ (some 42) _ = _
              simp only [Act.put, List.setIfInBounds_toArray, List.set_cons_zero, List.set_cons_succ, i64_w, i32_w]
              rfl
            refine one_ (i := 3) (N := some 43) #[true, true, true, true, false] rfl rfl (by kernel_rfl) (by decide) (fun K hK => ?_)
            refine goes_ Try.func40 (by kernel_rfl) rfl #[.agg #[.slice Ao77 t424.length co77, .slice Ao82 t427.length co82, .slice Ao83 t430.length co83, .slice Ao84 t433.length co84, .slice Ao85 t436.length co85, .slice Ao86 t439.length co86, .slice Ao87 t442.length co87, .slice Ao88 t445.length co88, .bool t448, .bool t449], .agg #[.slice Ao105 t479.length co105, .slice Ao106 t482.length co106, .slice Ao107 t485.length co107, .slice Ao108 t488.length co108, .slice Ao109 t491.length co109, .slice Ao110 t494.length co110, .slice Ao111 t497.length co111, .slice Ao112 t500.length co112, .bool t503, .bool t504]] (by rfl) rfl rfl (by (try simp only [List.map_toArray, List.map_cons, List.map_nil]); first | done | rfl | (simp only [List.length_drop, List.length_take]; rfl)) ?_
            with_reducible refine (laws_eqEffect.calls k _ _ t424 _ _ t427 _ _ t430 _ _ t433 _ _ t436 _ _ t439 _ _ t442 _ _ t445 t448 t449 _ _ t479 _ _ t482 _ _ t485 _ _ t488 _ _ t491 _ _ t494 _ _ t497 _ _ t500 t503 t504 true _ ?side1 ?side2 ?side3 ?side4 ?side5 ?side6 ?side7 ?side8 ?side9 ?side10 ?side11 ?side12 ?side13 ?side14 ?side15 ?side16 ?side17 ?side18 ?side19 ?side20 ?side21 ?side22 ?side23 ?side24 ?side25 ?side26 ?side27 ?side28 ?side29 ?side30 ?side31 ?side32 A30.out).mono ?_
            (case side1 => repeat (first | exact (Kd.R_reads' HO426.out).2.2 | (with_reducible refine Kd.C_alloc ?_ _) | (with_reducible refine Kd.C_drewN ?_ _) | (with_reducible refine Kd.C_drew ?_)))
            (case side2 => exact (Kd.R_reads' HO426.out).2.1)
            (case side3 => repeat (first | exact (Kd.R_reads' HO429.out).2.2 | (with_reducible refine Kd.C_alloc ?_ _) | (with_reducible refine Kd.C_drewN ?_ _) | (with_reducible refine Kd.C_drew ?_)))
            (case side4 => exact (Kd.R_reads' HO429.out).2.1)
            (case side5 => repeat (first | exact (Kd.R_reads' HO432.out).2.2 | (with_reducible refine Kd.C_alloc ?_ _) | (with_reducible refine Kd.C_drewN ?_ _) | (with_reducible refine Kd.C_drew ?_)))
            (case side6 => exact (Kd.R_reads' HO432.out).2.1)
            (case side7 => repeat (first | exact (Kd.R_reads' HO435.out).2.2 | (with_reducible refine Kd.C_alloc ?_ _) | (with_reducible refine Kd.C_drewN ?_ _) | (with_reducible refine Kd.C_drew ?_)))
            (case side8 => exact (Kd.R_reads' HO435.out).2.1)
            (case side9 => repeat (first | exact (Kd.R_reads' HO438.out).2.2 | (with_reducible refine Kd.C_alloc ?_ _) | (with_reducible refine Kd.C_drewN ?_ _) | (with_reducible refine Kd.C_drew ?_)))
            (case side10 => exact (Kd.R_reads' HO438.out).2.1)
            (case side11 => repeat (first | exact (Kd.R_reads' HO441.out).2.2 | (with_reducible refine Kd.C_alloc ?_ _) | (with_reducible refine Kd.C_drewN ?_ _) | (with_reducible refine Kd.C_drew ?_)))
            (case side12 => exact (Kd.R_reads' HO441.out).2.1)
            (case side13 => repeat (first | exact (Kd.R_reads' HO444.out).2.2 | (with_reducible refine Kd.C_alloc ?_ _) | (with_reducible refine Kd.C_drewN ?_ _) | (with_reducible refine Kd.C_drew ?_)))
            (case side14 => exact (Kd.R_reads' HO444.out).2.1)
            (case side15 => repeat (first | exact (Kd.R_reads' HO447.out).2.2 | (with_reducible refine Kd.C_alloc ?_ _) | (with_reducible refine Kd.C_drewN ?_ _) | (with_reducible refine Kd.C_drew ?_)))
            (case side16 => exact (Kd.R_reads' HO447.out).2.1)
            (case side17 => repeat (first | exact (Kd.R_reads' HO481.out).2.2 | (with_reducible refine Kd.C_alloc ?_ _) | (with_reducible refine Kd.C_drewN ?_ _) | (with_reducible refine Kd.C_drew ?_)))
            (case side18 => exact (Kd.R_reads' HO481.out).2.1)
            (case side19 => repeat (first | exact (Kd.R_reads' HO484.out).2.2 | (with_reducible refine Kd.C_alloc ?_ _) | (with_reducible refine Kd.C_drewN ?_ _) | (with_reducible refine Kd.C_drew ?_)))
            (case side20 => exact (Kd.R_reads' HO484.out).2.1)
            (case side21 => repeat (first | exact (Kd.R_reads' HO487.out).2.2 | (with_reducible refine Kd.C_alloc ?_ _) | (with_reducible refine Kd.C_drewN ?_ _) | (with_reducible refine Kd.C_drew ?_)))
            (case side22 => exact (Kd.R_reads' HO487.out).2.1)
            (case side23 => repeat (first | exact (Kd.R_reads' HO490.out).2.2 | (with_reducible refine Kd.C_alloc ?_ _) | (with_reducible refine Kd.C_drewN ?_ _) | (with_reducible refine Kd.C_drew ?_)))
            (case side24 => exact (Kd.R_reads' HO490.out).2.1)
            (case side25 => repeat (first | exact (Kd.R_reads' HO493.out).2.2 | (with_reducible refine Kd.C_alloc ?_ _) | (with_reducible refine Kd.C_drewN ?_ _) | (with_reducible refine Kd.C_drew ?_)))
            (case side26 => exact (Kd.R_reads' HO493.out).2.1)
            (case side27 => repeat (first | exact (Kd.R_reads' HO496.out).2.2 | (with_reducible refine Kd.C_alloc ?_ _) | (with_reducible refine Kd.C_drewN ?_ _) | (with_reducible refine Kd.C_drew ?_)))
            (case side28 => exact (Kd.R_reads' HO496.out).2.1)
            (case side29 => repeat (first | exact (Kd.R_reads' HO499.out).2.2 | (with_reducible refine Kd.C_alloc ?_ _) | (with_reducible refine Kd.C_drewN ?_ _) | (with_reducible refine Kd.C_drew ?_)))
            (case side30 => exact (Kd.R_reads' HO499.out).2.1)
            (case side31 => repeat (first | exact (Kd.R_reads' HO502.out).2.2 | (with_reducible refine Kd.C_alloc ?_ _) | (with_reducible refine Kd.C_drewN ?_ _) | (with_reducible refine Kd.C_drew ?_)))
            (case side32 => exact (Kd.R_reads' HO502.out).2.1)
            rintro e w113 ⟨rfl, hb⟩
            refine ⟨_, rfl, ?_⟩
            have n0_ := Aside0.mk (Kd.R_below (rS HO426.out) hb)
            have n1_ := Aside0.mk (Kd.R_below (rS HO429.out) hb)
            have n2_ := Aside0.mk (Kd.R_below (rS HO432.out) hb)
            have n3_ := Aside0.mk (Kd.R_below (rS HO435.out) hb)
            have n4_ := Aside0.mk (Kd.R_below (rS HO438.out) hb)
            have n5_ := Aside0.mk (Kd.R_below (rS HO441.out) hb)
            have n6_ := Aside0.mk (Kd.R_below (rS HO444.out) hb)
            have n7_ := Aside0.mk (Kd.R_below (rS HO447.out) hb)
            have n8_ := Aside0.mk (Kd.R_below (rS HO481.out) hb)
            have n9_ := Aside0.mk (Kd.R_below (rS HO484.out) hb)
            have n10_ := Aside0.mk (Kd.R_below (rS HO487.out) hb)
            have n11_ := Aside0.mk (Kd.R_below (rS HO490.out) hb)
            have n12_ := Aside0.mk (Kd.R_below (rS HO493.out) hb)
            have n13_ := Aside0.mk (Kd.R_below (rS HO496.out) hb)
            have n14_ := Aside0.mk (Kd.R_below (rS HO499.out) hb)
            have n15_ := Aside0.mk (Kd.R_below (rS HO502.out) hb)
            have n16_ := Aside0.mk (blk_below (g := gb340) (o := .cells #[.slice A0_0 l0_0.length c0_0, .slice A0_1 l0_1.length c0_1, .slice A0_2 l0_2.length c0_2, .slice A0_3 l0_3.length c0_3, .slice A0_4 l0_4.length c0_4, .slice A0_5 l0_5.length c0_5, .slice A0_6 l0_6.length c0_6, .slice A0_7 l0_7.length c0_7, .bool a0_8, .bool a0_9] 63 (0, 0)) (by (with_reducible repeat (first | refine blk_drewN ?_ _ | refine blk_drew ?_ | refine blk_alloc ?_ _)); exact BK340.out) hb)
            have n17_ := Aside0.mk (blk_below (g := gb341) (o := .cells #[.slice A1_0 l1_0.length c1_0, .slice A1_1 l1_1.length c1_1, .slice A1_2 l1_2.length c1_2, .slice A1_3 l1_3.length c1_3, .slice A1_4 l1_4.length c1_4, .slice A1_5 l1_5.length c1_5, .slice A1_6 l1_6.length c1_6, .slice A1_7 l1_7.length c1_7, .bool a1_8, .bool a1_9] 63 (0, 0)) (by (with_reducible repeat (first | refine blk_drewN ?_ _ | refine blk_drew ?_ | refine blk_alloc ?_ _)); exact BK341.out) hb)
            have n18_ := Aside0.mk (blk_below (g := gb423) (o := .cells #[.slice Ao62 t397.length co62, .slice Ao66 t400.length co66, .slice Ao67 t403.length co67, .slice Ao68 t406.length co68, .slice Ao69 t409.length co69, .slice Ao70 t412.length co70, .slice Ao71 t415.length co71, .slice Ao72 t418.length co72, .bool t421, .bool t422] 43 (0, 0)) (by (with_reducible repeat (first | refine blk_drewN ?_ _ | refine blk_drew ?_ | refine blk_alloc ?_ _)); exact BK423.out) hb)
            have n19_ := Aside0.mk (blk_below (g := gb450) (o := .cells #[.slice Ao77 t424.length co77, .slice Ao82 t427.length co82, .slice Ao83 t430.length co83, .slice Ao84 t433.length co84, .slice Ao85 t436.length co85, .slice Ao86 t439.length co86, .slice Ao87 t442.length co87, .slice Ao88 t445.length co88, .bool t448, .bool t449] 43 (0, 0)) (by (with_reducible repeat (first | refine blk_drewN ?_ _ | refine blk_drew ?_ | refine blk_alloc ?_ _)); exact BK450.out) hb)
            have n20_ := Aside0.mk (below_step (by repeat (first | (with_reducible first | exact HB.out | apply below_alloc | apply pw_below_drewN | apply below_drew1 | refine below_set ?_ GE340.out | refine below_set ?_ GE341.out | refine below_set ?_ GE423.out | refine below_set ?_ GE450.out) | exact HB.out)) hb)
            clear HO426
            clear HO429
            clear HO432
            clear HO435
            clear HO438
            clear HO441
            clear HO444
            clear HO447
            clear HO481
            clear HO484
            clear HO487
            clear HO490
            clear HO493
            clear HO496
            clear HO499
            clear HO502
            clear BK340
            clear BK341
            clear BK423
            clear BK450
            clear HB
            have HO426 := n0_
            have HO429 := n1_
            have HO432 := n2_
            have HO435 := n3_
            have HO438 := n4_
            have HO441 := n5_
            have HO444 := n6_
            have HO447 := n7_
            have HO481 := n8_
            have HO484 := n9_
            have HO487 := n10_
            have HO490 := n11_
            have HO493 := n12_
            have HO496 := n13_
            have HO499 := n14_
            have HO502 := n15_
            have BK340 := n16_
            have BK341 := n17_
            have BK423 := n18_
            have BK450 := n19_
            have HB := n20_
            clear n0_ n1_ n2_ n3_ n4_ n5_ n6_ n7_ n8_ n9_ n10_ n11_ n12_ n13_ n14_ n15_ n16_ n17_ n18_ n19_ n20_
            (try clear hb)
            (try clear hb2)
            (try clear hk)
            (try clear hi)
            refine hK.out _ _ ⟨(blk_cell BK450.out 0).trans rfl, (blk_cell BK450.out 1).trans rfl, (blk_cell BK450.out 2).trans rfl, (blk_cell BK450.out 3).trans rfl, (blk_cell BK450.out 4).trans rfl, (blk_cell BK450.out 5).trans rfl, (blk_cell BK450.out 6).trans rfl, (blk_cell BK450.out 7).trans rfl, (blk_cell BK450.out 8).trans rfl, (blk_cell BK450.out 9).trans rfl, (blk_cell BK341.out 0).trans rfl, (blk_cell BK341.out 1).trans rfl, (blk_cell BK341.out 2).trans rfl, (blk_cell BK341.out 3).trans rfl, (blk_cell BK341.out 4).trans rfl, (blk_cell BK341.out 5).trans rfl, (blk_cell BK341.out 6).trans rfl, (blk_cell BK341.out 7).trans rfl, (blk_cell BK341.out 8).trans rfl, (blk_cell BK341.out 9).trans rfl⟩ (fun hHeld => ?_)
            clear hK K
            refine norm_ (a' := ?_) ?_ ?_
            rotate_left
            · show Act.put _ (some 43) _ = _
              simp only [Act.put, List.setIfInBounds_toArray, List.set_cons_zero, List.set_cons_succ, i64_w, i32_w]
              rfl
            refine pure_ (i := 4) (N := some 44) (v := ?_) (a' := ?_) #[true, true, true, true, true] rfl rfl (by kernel_rfl) (fun _ _ _ h => h) (Or.inl ⟨by rfl, ?_⟩) ?_ ?_
            rotate_left
            · intro w'
              go_simp
              with_reducible rfl
            rotate_left
            · simp only [Act.put, List.setIfInBounds_toArray, List.set_cons_zero, List.set_cons_succ, i64_w, i32_w]
              rfl
            refine done_ (by kernel_rfl) ?_
            try go_wp2
            go_ret
            exact ⟨by first | rfl | (simp [errW_none, errW_some] <;> rfl) | (simp [*, errW_none, errW_some] <;> rfl), by repeat (first | (with_reducible first | exact HB.out | apply below_alloc | apply pw_below_drewN | apply below_drew1 | refine below_set ?_ GE340.out | refine below_set ?_ GE341.out | refine below_set ?_ GE423.out | refine below_set ?_ GE450.out) | exact HB.out)⟩
          · replace c31 := Bool.eq_false_iff.mpr c31
            subst c31
            have H1 : (none) = some r := by rw [if_neg (show ¬ (false = true) by decide)] at H; exact H
            clear H
            have H := H1
            clear H1
            exact absurd H (by simp)
        · replace c28 := Bool.eq_false_iff.mpr c28
          subst c28
          have H1 : (none) = some r := by rw [if_neg (show ¬ (false = true) by decide)] at H; exact H
          clear H
          have H := H1
          clear H1
          exact absurd H (by simp)

end Go.Proofs.Ytpdcgnfdffbolaa.PFnExactApart
