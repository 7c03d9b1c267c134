-- written by wip/tools/myprint.py out of the program's own print
import Derived.Test.YtpdcgnfdffbolaaPFnNoStuckx0
import Derived.Test.YtpdcgnfdffbolaaPFnNoStuckx1
import Derived.Test.YtpdcgnfdffbolaaPFnNoStuckx7
namespace Go.Proofs.Ytpdcgnfdffbolaa.PFnNoStuck
open Go.Proofs.Ytpdcgnfdffbolaa.Own (rS cS bS rB rN rT kS kC kc10 kf10)
open Go.RowKit Go.Proofs.YtpdcgnfdffbolaaW.PrintWords Go.Proofs.YtpdcgnfdffbolaaW.PrintLast Go.Proofs.YtpdcgnfdffbolaaW.PrintMore
attribute [local go_sem] max2_int min2_int max_two min_two max_three min_three max_four min_four   -- for this text's walks alone
set_option linter.unusedVariables false
set_option linter.unusedSimpArgs false

/-! ### spec_PoolRun: function 61 -/
mutual
def spec_PoolRun.j0 : Nat → Int → List (S96) → Int → List Int → Bool → Option ((List (S94)) × Bool)
  | 0, _, _, _, _, _ => none
  | k + 1, x0, x1, x2, x3, x28 => if x28 = true then (some (([] : List (S94)), false)) else (if 0 ≤ x0 then (if (x0 : Int).toNat ≤ 35184372088832 then (spec_PoolRun.l0 k x0 x1 x2 x3 (([] : List (S94))) (List.replicate (x0 : Int).toNat 0) 0) else (none)) else (none))
def spec_PoolRun.l0 : Nat → Int → List (S96) → Int → List Int → List (S94) → List Int → Int → Option ((List (S94)) × Bool)
  | 0, _, _, _, _, _, _, _ => none
  | k + 1, x0, x1, x2, x3, x10, x11, x12 => if x12 < (wrap64 (2 * x0)) then ((spec_l18Moves.f k x1 x2 x11).bind fun t377 => (if (t377.length : Int) = 0 then (some (x10, true)) else ((spec_l18Pick.f x3 x12 (t377.length : Int)).bind fun t380 => (if 0 ≤ t380 then (if t380 < (t377.length : Int) then ((spec_l18Do.f x11 ((rd_T94 t377 t380).f0) ((rd_T94 t377 t380).f1)).bind fun t383 => (if x10.length < 8796093022208 then (spec_PoolRun.l0 k x0 x1 x2 x3 (x10 ++ [(⟨(rd_T94 t377 t380).f0, (rd_T94 t377 t380).f1⟩ : S94)]) t383 (wrap64 (x12 + 1))) else (none))) else (none)) else (none))))) else (some (x10, true))
end
def spec_PoolRun.f (k : Nat) (a0 : Int) (l1 : List (S96)) (a2 : Int) (l3 : List Int) : Option ((List (S94)) × Bool) := (spec_GraphOk.f k a0 l1).bind fun t369 => (if t369 = true then ((spec_l1In.f a2 1 8).bind fun t370 => (if t370 = true then (spec_PoolRun.j0 k a0 l1 a2 l3 (decide ((l3.length : Int) > 2000))) else (spec_PoolRun.j0 k a0 l1 a2 l3 true))) else (spec_PoolRun.j0 k a0 l1 a2 l3 true))
theorem spec_PoolRun.mono_l : ∀ k, (∀ y0 y1 y2 y3 y4, LeO (spec_PoolRun.j0 k y0 y1 y2 y3 y4) (spec_PoolRun.j0 (k + 1) y0 y1 y2 y3 y4)) ∧ (∀ y0 y1 y2 y3 y4 y5 y6, LeO (spec_PoolRun.l0 k y0 y1 y2 y3 y4 y5 y6) (spec_PoolRun.l0 (k + 1) y0 y1 y2 y3 y4 y5 y6))
  | 0 => ⟨fun _ _ _ _ _ r h => by simp [spec_PoolRun.j0] at h, fun _ _ _ _ _ _ _ r h => by simp [spec_PoolRun.l0] at h⟩
  | k + 1 => by
    obtain ⟨ih0, ih1⟩ := spec_PoolRun.mono_l k
    refine ⟨?_, ?_⟩
    · intro y0 y1 y2 y3 y4
      unfold spec_PoolRun.j0
      repeat' first
      | (with_reducible exact ih0 _ _ _ _ _)
      | (with_reducible exact ih1 _ _ _ _ _ _ _)
      | (with_reducible exact spec_GraphOk.mono _ _ _)
      | (with_reducible exact spec_l18Moves.mono _ _ _ _)
      | (with_reducible exact LeO.refl _)
      | (with_reducible exact LeO.none _)
      | (with_reducible refine LeO.ite ?_ ?_)
      | (with_reducible refine LeO.bind ?_ (fun _ => ?_))
      | exact ih0 _ _ _ _ _
      | exact ih1 _ _ _ _ _ _ _
      | exact spec_GraphOk.mono _ _ _
      | exact spec_l18Moves.mono _ _ _ _
      | exact LeO.none _
      | refine LeO.ite ?_ ?_
      | refine LeO.bind ?_ (fun _ => ?_)
    · intro y0 y1 y2 y3 y4 y5 y6
      unfold spec_PoolRun.l0
      repeat' first
      | (with_reducible exact ih0 _ _ _ _ _)
      | (with_reducible exact ih1 _ _ _ _ _ _ _)
      | (with_reducible exact spec_GraphOk.mono _ _ _)
      | (with_reducible exact spec_l18Moves.mono _ _ _ _)
      | (with_reducible exact LeO.refl _)
      | (with_reducible exact LeO.none _)
      | (with_reducible refine LeO.ite ?_ ?_)
      | (with_reducible refine LeO.bind ?_ (fun _ => ?_))
      | exact ih0 _ _ _ _ _
      | exact ih1 _ _ _ _ _ _ _
      | exact spec_GraphOk.mono _ _ _
      | exact spec_l18Moves.mono _ _ _ _
      | exact LeO.none _
      | refine LeO.ite ?_ ?_
      | refine LeO.bind ?_ (fun _ => ?_)
theorem spec_PoolRun.mono : ∀ a0 a1 a2 a3 k, LeO (spec_PoolRun.f k a0 a1 a2 a3) (spec_PoolRun.f (k + 1) a0 a1 a2 a3) := by
  intro a0 a1 a2 a3 k
  obtain ⟨ih0, ih1⟩ := spec_PoolRun.mono_l k
  unfold spec_PoolRun.f
  repeat' first
      | (with_reducible exact ih0 _ _ _ _ _)
      | (with_reducible exact ih1 _ _ _ _ _ _ _)
      | (with_reducible exact spec_GraphOk.mono _ _ _)
      | (with_reducible exact spec_l18Moves.mono _ _ _ _)
      | (with_reducible exact LeO.refl _)
      | (with_reducible exact LeO.none _)
      | (with_reducible refine LeO.ite ?_ ?_)
      | (with_reducible refine LeO.bind ?_ (fun _ => ?_))
      | exact ih0 _ _ _ _ _
      | exact ih1 _ _ _ _ _ _ _
      | exact spec_GraphOk.mono _ _ _
      | exact spec_l18Moves.mono _ _ _ _
      | exact LeO.none _
      | refine LeO.ite ?_ ?_
      | refine LeO.bind ?_ (fun _ => ?_)
set_option maxHeartbeats 8000000 in
set_option maxRecDepth 100000 in
theorem spec_PoolRun.calls (k : Nat) (a0 : Int) (A1 : Option Addr) (c1 : Nat) (l1 : List (S96)) (a2 : Int) (A3 : Option Addr) (c3 : Nat) (l3 : List Int) (r1 : List (S94)) (r2 : Bool) (w : World) (hr1 : Kd.C k96 w A1 l1.length l1) (hc1 : l1.length ≤ c1) (hr3 : Kd.C (Kd.int .i64) w A3 l3.length l3) (hc3 : l3.length ≤ c3) (h : spec_PoolRun.f k a0 l1 a2 l3 = some (r1, r2)) :
    Calls Try.prog 61 #[.int .i64 a0, .slice A1 l1.length c1, .int .i64 a2, .slice A3 l3.length c3] w fun e w' => ∃ v0_ : Value, e = .returned (.tuple #[v0_, .bool r2]) ∧ Kd.R k94 94 w' w.heap.size (fun _ => True) v0_ r1 ∧ Below w.heap.size w w' := by
  have hu94 := Try.underlying94
  have HR1 := Aside0.mk hr1
  have HC1 := Aside0.mk hc1
  clear hr1 hc1
  have HR3 := Aside0.mk hr3
  have HC3 := Aside0.mk hc3
  clear hr3 hc3
  have HB := Aside0.mk (Below.refl w.heap.size w)
  have H : ((spec_GraphOk.f k a0 l1).bind fun t369 => (if t369 = true then ((spec_l1In.f a2 1 8).bind fun t370 => (if t370 = true then (spec_PoolRun.j0 k a0 l1 a2 l3 (decide ((l3.length : Int) > 2000))) else (spec_PoolRun.j0 k a0 l1 a2 l3 true))) else (spec_PoolRun.j0 k a0 l1 a2 l3 true))) = some (r1, r2) := h
  clear h
  have HC5 := Aside0.mk H
  clear H
  go_enter Try.func61, Try.ntmps61
  go_upto_region 1 with (fail)
  go_cut [28] (fun v28 wc => ∃ (kq : Nat) (x28_4 : Bool), v28 = .bool x28_4 ∧ Aside0 (spec_PoolRun.j0 kq a0 l1 a2 l3 x28_4 = some (r1, r2)) ∧ Aside0 (kq ≤ k) ∧ Aside0 (Below w.heap.size w wc))
  case first =>
    have H := HC5.out
    clear HC5
    replace H := Option.bind_eq_some_iff.mp H
    obtain ⟨t369, A60, H⟩ := H
    replace H : (if t369 = true then ((spec_l1In.f a2 1 8).bind fun t370 => (if t370 = true then (spec_PoolRun.j0 k a0 l1 a2 l3 (decide ((l3.length : Int) > 2000))) else (spec_PoolRun.j0 k a0 l1 a2 l3 true))) else (spec_PoolRun.j0 k a0 l1 a2 l3 true)) = some (r1, r2) := H
    have A6 := Aside0.mk A60
    clear A60
    by_cases c7 : t369 = true
    · subst c7
      have H1 : ((spec_l1In.f a2 1 8).bind fun t370 => (if t370 = true then (spec_PoolRun.j0 k a0 l1 a2 l3 (decide ((l3.length : Int) > 2000))) else (spec_PoolRun.j0 k a0 l1 a2 l3 true))) = some (r1, r2) := by rw [if_pos rfl] at H; exact H
      clear H
      have H := H1
      clear H1
      replace H := Option.bind_eq_some_iff.mp H
      obtain ⟨t370, A80, H⟩ := H
      replace H : (if t370 = true then (spec_PoolRun.j0 k a0 l1 a2 l3 (decide ((l3.length : Int) > 2000))) else (spec_PoolRun.j0 k a0 l1 a2 l3 true)) = some (r1, r2) := H
      have A8 := Aside0.mk A80
      clear A80
      by_cases c9 : t370 = true
      · subst c9
        have H1 : (spec_PoolRun.j0 k a0 l1 a2 l3 (decide ((l3.length : Int) > 2000))) = some (r1, r2) := by rw [if_pos rfl] at H; exact H
        clear H
        have H := H1
        clear H1
        have H' := Aside0.mk H
        clear H
        go_wp2_with (first | ((with_reducible refine gate_callee (f := 81) rfl ?_); refine goesL_ (some 17) rfl rfl Try.func81 (by kernel_rfl) rfl #[.int .i64 a0, .slice A1 l1.length c1] rfl (by (try simp only [List.map_toArray, List.map_cons, List.map_nil]); first | done | rfl | (simp only [List.length_drop, List.length_take]; rfl)) ?_; (with_reducible refine (spec_GraphOk.calls k a0 _ _ l1 true _ ?side1 ?side2 A6.out).mono ?_); (case side1 => repeat (first | exact (Kd.C_below HR1.out HB.out) | (with_reducible refine Kd.C_alloc ?_ _) | (with_reducible refine Kd.C_drewN ?_ _) | (with_reducible refine Kd.C_drew ?_))); (case side2 => exact HC1.out); rintro e w' ⟨rfl, ⟨nd, rfl⟩⟩; refine ⟨_, rfl, ?_⟩) | (go_at_call 66; (with_reducible refine (spec_l1In.calls a2 1 8 true _ A8.out).mono ?_); rintro e w' ⟨rfl, ⟨nd, rfl⟩⟩))
        go_meet
        case rel => exact ⟨_, (decide ((l3.length : Int) > 2000)), (by first | rfl | (simp; done) | (simp [*]; done)), H', ⟨by first | omega | exact Nat.le_refl _⟩, ⟨by repeat (first | (with_reducible first | exact HB.out | apply below_alloc | apply pw_below_drewN | apply below_drew1) | exact HB.out)⟩⟩
      · replace c9 := Bool.eq_false_iff.mpr c9
        subst c9
        have H1 : (spec_PoolRun.j0 k a0 l1 a2 l3 true) = some (r1, r2) := by rw [if_neg (show ¬ (false = true) by decide)] at H; exact H
        clear H
        have H := H1
        clear H1
        have H' := Aside0.mk H
        clear H
        go_wp2_with (first | ((with_reducible refine gate_callee (f := 81) rfl ?_); refine goesL_ (some 17) rfl rfl Try.func81 (by kernel_rfl) rfl #[.int .i64 a0, .slice A1 l1.length c1] rfl (by (try simp only [List.map_toArray, List.map_cons, List.map_nil]); first | done | rfl | (simp only [List.length_drop, List.length_take]; rfl)) ?_; (with_reducible refine (spec_GraphOk.calls k a0 _ _ l1 true _ ?side1 ?side2 A6.out).mono ?_); (case side1 => repeat (first | exact (Kd.C_below HR1.out HB.out) | (with_reducible refine Kd.C_alloc ?_ _) | (with_reducible refine Kd.C_drewN ?_ _) | (with_reducible refine Kd.C_drew ?_))); (case side2 => exact HC1.out); rintro e w' ⟨rfl, ⟨nd, rfl⟩⟩; refine ⟨_, rfl, ?_⟩) | (go_at_call 66; (with_reducible refine (spec_l1In.calls a2 1 8 false _ A8.out).mono ?_); rintro e w' ⟨rfl, ⟨nd, rfl⟩⟩))
        go_meet
        case rel => exact ⟨_, (true), (by first | rfl | (simp; done) | (simp [*]; done)), H', ⟨by first | omega | exact Nat.le_refl _⟩, ⟨by repeat (first | (with_reducible first | exact HB.out | apply below_alloc | apply pw_below_drewN | apply below_drew1) | exact HB.out)⟩⟩
    · replace c7 := Bool.eq_false_iff.mpr c7
      subst c7
      have H1 : (spec_PoolRun.j0 k a0 l1 a2 l3 true) = some (r1, r2) := by rw [if_neg (show ¬ (false = true) by decide)] at H; exact H
      clear H
      have H := H1
      clear H1
      have H' := Aside0.mk H
      clear H
      go_wp2_with (first | ((with_reducible refine gate_callee (f := 81) rfl ?_); refine goesL_ (some 17) rfl rfl Try.func81 (by kernel_rfl) rfl #[.int .i64 a0, .slice A1 l1.length c1] rfl (by (try simp only [List.map_toArray, List.map_cons, List.map_nil]); first | done | rfl | (simp only [List.length_drop, List.length_take]; rfl)) ?_; (with_reducible refine (spec_GraphOk.calls k a0 _ _ l1 false _ ?side1 ?side2 A6.out).mono ?_); (case side1 => repeat (first | exact (Kd.C_below HR1.out HB.out) | (with_reducible refine Kd.C_alloc ?_ _) | (with_reducible refine Kd.C_drewN ?_ _) | (with_reducible refine Kd.C_drew ?_))); (case side2 => exact HC1.out); rintro e w' ⟨rfl, ⟨nd, rfl⟩⟩; refine ⟨_, rfl, ?_⟩))
      go_meet
      case rel => exact ⟨_, (true), (by first | rfl | (simp; done) | (simp [*]; done)), H', ⟨by first | omega | exact Nat.le_refl _⟩, ⟨by repeat (first | (with_reducible first | exact HB.out | apply below_alloc | apply pw_below_drewN | apply below_drew1) | exact HB.out)⟩⟩
  case rest =>
    clear HC5
    try clear c1
    try clear p2
    try clear c3
    try clear c6
    try clear c7
    try clear c8
    try clear c9
    obtain ⟨kq, x28_4, rfl, HA, HJ4, HB⟩ := hcut
    cases kq with
    | zero => exact absurd HA.out (by simp [spec_PoolRun.j0])
    | succ kj4 =>
      have H := HA.out
      clear HA
      simp only [spec_PoolRun.j0] at H
      by_cases c10 : x28_4 = true
      · subst c10
        have H1 : (some (([] : List (S94)), false)) = some (r1, r2) := by rw [if_pos rfl] at H; exact H
        clear H
        have H := H1
        clear H1
        simp only [Option.some.injEq, Prod.mk.injEq] at H
        obtain ⟨rfl, rfl⟩ := H
        go_wp2
        go_ret2
        exact ⟨_, by first | rfl | (simp [errW_none, errW_some] <;> rfl) | (simp [*, errW_none, errW_some] <;> rfl), by first | exact Kd.R_nil _ _ _ _ _ | exact Kd.N_nil _ _ _ _ _ | exact Kd.V_nil _ _ _ _ _ | exact Kd.Q_nil _ _ _ _ _ | exact Kd.S_nil _ _ _ _ _, by repeat (first | (with_reducible first | exact HB.out | apply below_alloc | apply pw_below_drewN | apply below_drew1) | exact HB.out)⟩
      · replace c10 := Bool.eq_false_iff.mpr c10
        subst c10
        have H1 : (if 0 ≤ a0 then (if (a0 : Int).toNat ≤ 35184372088832 then (spec_PoolRun.l0 kj4 a0 l1 a2 l3 (([] : List (S94))) (List.replicate (a0 : Int).toNat 0) 0) else (none)) else (none)) = some (r1, r2) := by rw [if_neg (show ¬ (false = true) by decide)] at H; exact H
        clear H
        have H := H1
        clear H1
        obtain ⟨y371, hy371⟩ : ∃ y_ : List (S94), y_ = (([] : List (S94))) := ⟨_, rfl⟩
        replace H : (if 0 ≤ a0 then (if (a0 : Int).toNat ≤ 35184372088832 then (spec_PoolRun.l0 kj4 a0 l1 a2 l3 y371 (List.replicate (a0 : Int).toNat 0) 0) else (none)) else (none)) = some (r1, r2) := by first | (rw [hy371]; with_reducible exact H) | (have H2_ := (Option.bind_some _ _).symm.trans H; rw [hy371]; with_reducible exact H2_) | (have H2_ := (Option.bind_some _ _).symm.trans H; with_reducible exact H2_) | with_reducible exact H | (rw [hy371]; exact H) | exact H
        have Ny371 := Aside0.mk hy371
        clear hy371
        by_cases c11 : 0 ≤ a0
        · rw [if_pos c11] at H
          have c11b0 := eq_true c11
          have c11b1 : decide (0 ≤ a0) = true := decide_eq_true c11
          clear c11
          by_cases c12 : (a0 : Int).toNat ≤ 35184372088832
          · rw [if_pos c12] at H
            have c12b0 := eq_true c12
            have c12b1 : decide ((a0 : Int).toNat ≤ 35184372088832) = true := decide_eq_true c12
            clear c12
            obtain ⟨y374, hy374⟩ : ∃ y_ : List Int, y_ = (List.replicate (a0 : Int).toNat 0) := ⟨_, rfl⟩
            replace H : (spec_PoolRun.l0 kj4 a0 l1 a2 l3 y371 y374 0) = some (r1, r2) := by first | (rw [hy374]; with_reducible exact H) | (have H2_ := (Option.bind_some _ _).symm.trans H; rw [hy374]; with_reducible exact H2_) | (have H2_ := (Option.bind_some _ _).symm.trans H; with_reducible exact H2_) | with_reducible exact H | (rw [hy374]; exact H) | exact H
            have Ny374 := Aside0.mk hy374
            clear hy374
            have H' := Aside0.mk H
            clear H
            go_wp2_with (first | ((with_reducible refine gate_dst (N := 29) rfl ?_); (try (refine gate_guard (by rfl) ?_; dsimp only)); refine Kd.R_lit k94 _ 94 ?hg (N := 29) ?hd (xs := ([] : List (S94))) (inner := []) (ok := fun _ => True) (okp := fun _ => True) ?hr ?hp (fun _ hk => hk) trivial (Below.refl _ _) (Nat.le_refl _) (by simp) ?_; (case hd => rfl); (case hg => rfl); (case hr => first | (go_simp; done) | (go_simp; rfl)); (case hp => exact (Reps.none _ _)); intro v372 w13 ho14 hb hg_ hnew_; clear hg_ hnew_; (first | rw [← Ny371.out] at ho14 | (simp only [Int.reduceToNat] at ho14; rw [← Ny371.out] at ho14)); have n0_ := Aside0.mk (Kd.R_lower ho14 (below_size (by repeat (first | (with_reducible first | exact HB.out | apply below_alloc | apply pw_below_drewN | apply below_drew1) | exact HB.out)))); have n1_ := Aside0.mk (below_step (by repeat (first | (with_reducible first | exact HB.out | apply below_alloc | apply pw_below_drewN | apply below_drew1) | exact HB.out)) hb); clear HB; have HO373 := n0_; have HB := n1_; clear n0_ n1_; clear hb ho14) | ((with_reducible refine gate_dst (N := 31) rfl ?_); (try (refine gate_guard (by rfl) ?_; dsimp only)); refine Kd.R_make (Kd.int .i64) _ 3 rfl (N := 31) rfl 35 _ _ rfl a0 rfl rfl Try.underlying35 (.int .i64 0) 8 info3 rfl (by decide) (by omega) 0 (ok := fun _ => True) (okp := fun _ => True) rfl (fun _ hk => hk) trivial (of_decide_eq_true (by first | (with_reducible assumption) | assumption)) (Nat.le_trans (Nat.mul_le_mul_right _ (of_decide_eq_true (by first | (with_reducible assumption) | assumption) : a0.toNat ≤ 35184372088832)) (by omega)) (Below.refl _ _) (Nat.le_refl _) ?_; intro v375 w15 ho16 hb hg_ hnew_; clear hg_ hnew_; (first | rw [← Ny374.out] at ho16 | (simp only [Int.reduceToNat] at ho16; rw [← Ny374.out] at ho16)); have n0_ := Aside0.mk (Kd.R_below (by (with_reducible repeat (first | apply Kd.R_alloc | apply Kd.R_drewN | apply Kd.R_drew)); exact HO373.out) hb); have n1_ := Aside0.mk (Kd.R_lower ho16 (below_size (by repeat (first | (with_reducible first | exact HB.out | apply below_alloc | apply pw_below_drewN | apply below_drew1) | exact HB.out)))); have n2_ := Aside0.mk (below_step (by repeat (first | (with_reducible first | exact HB.out | apply below_alloc | apply pw_below_drewN | apply below_drew1) | exact HB.out)) hb); clear HO373; clear HB; have HO373 := n0_; have HO376 := n1_; have HB := n2_; clear n0_ n1_ n2_; clear hb ho16))
            go_loopg [10, 11, 12] kj4 (fun kq v10 v11 v12 w' => ∃ (x10_2 : List (S94)) (x11_2 : List Int) (x12_2 : Int), v12 = .int .i64 x12_2 ∧ Aside0 (spec_PoolRun.l0 kq a0 l1 a2 l3 x10_2 x11_2 x12_2 = some (r1, r2)) ∧ Aside0 (kq ≤ kj4) ∧ Aside0 (Kd.R k94 94 w' w.heap.size (fun _ => True) v10 x10_2) ∧ Aside0 (Kd.R (Kd.int .i64) 3 w' w.heap.size (fun _ => True) v11 x11_2) ∧ Aside0 (Below w.heap.size w w'))
            case atStart => exact ⟨(y371), (y374), (0), (by first | rfl | (simp; done) | (simp [*]; done)), H', ⟨Nat.le_refl _⟩, ⟨by (with_reducible repeat (first | apply Kd.R_alloc | apply Kd.R_drewN | apply Kd.R_drew)); exact HO373.out⟩, ⟨by (with_reducible repeat (first | apply Kd.R_alloc | apply Kd.R_drewN | apply Kd.R_drew)); exact HO376.out⟩, ⟨by repeat (first | (with_reducible first | exact HB.out | apply below_alloc | apply pw_below_drewN | apply below_drew1) | exact HB.out)⟩⟩
            case round =>
              clear H'
              try clear c1
              try clear p2
              try clear c3
              try clear c6
              try clear c7
              try clear c8
              try clear c9
              try clear c10
              try clear c11
              try clear c11b0
              try clear c11b1
              try clear c12
              try clear c12b0
              try clear c12b1
              try clear p2
              obtain ⟨x10_2, x11_2, x12_2, rfl, HA, HK2, HO_10, HO_11, HB⟩ := hrel
              cases gk with
              | zero => exact absurd HA.out (by simp [spec_PoolRun.l0])
              | succ k2 =>
                have H := HA.out
                clear HA
                simp only [spec_PoolRun.l0] at H
                by_cases c17 : x12_2 < (wrap64 (2 * a0))
                · rw [if_pos c17] at H
                  have c17b0 : decide (x12_2 < (wrap64 (2 * a0))) = true := decide_eq_true c17
                  clear c17
                  replace H := Option.bind_eq_some_iff.mp H
                  obtain ⟨t377, A180, H⟩ := H
                  replace H : (if (t377.length : Int) = 0 then (some (x10_2, true)) else ((spec_l18Pick.f l3 x12_2 (t377.length : Int)).bind fun t380 => (if 0 ≤ t380 then (if t380 < (t377.length : Int) then ((spec_l18Do.f x11_2 ((rd_T94 t377 t380).f0) ((rd_T94 t377 t380).f1)).bind fun t383 => (if x10_2.length < 8796093022208 then (spec_PoolRun.l0 k2 a0 l1 a2 l3 (x10_2 ++ [(⟨(rd_T94 t377 t380).f0, (rd_T94 t377 t380).f1⟩ : S94)]) t383 (wrap64 (x12_2 + 1))) else (none))) else (none)) else (none)))) = some (r1, r2) := H
                  have A18 := Aside0.mk A180
                  clear A180
                  by_cases c19 : (t377.length : Int) = 0
                  · rw [if_pos c19] at H
                    have c19b0 : ((t377.length : Int) == 0) = true := beq_iff_eq.mpr c19
                    have c19b1 : ((t377.length : Int) != 0) = false := bne_eq_false_iff_eq.mpr c19
                    clear c19
                    simp only [Option.some.injEq, Prod.mk.injEq] at H
                    obtain ⟨rfl, rfl⟩ := H
                    obtain ⟨Ao20, co20, eo20⟩ := Kd.R_slice HO_11.out
                    subst eo20
                    go_wp2_with (first | ((with_reducible refine gate_callee (f := 83) rfl ?_); refine goesL_ (some 41) rfl rfl Try.func83 (by kernel_rfl) rfl #[.slice A1 l1.length c1, .int .i64 a2, .slice Ao20 x11_2.length co20] rfl (by (try simp only [List.map_toArray, List.map_cons, List.map_nil]); first | done | rfl | (simp only [List.length_drop, List.length_take]; rfl)) ?_; (with_reducible refine (spec_l18Moves.calls k2 _ _ l1 a2 _ _ x11_2 t377 _ ?side1 ?side2 ?side3 ?side4 A18.out).mono ?_); (case side1 => repeat (first | exact (Kd.C_below HR1.out HB.out) | (with_reducible refine Kd.C_alloc ?_ _) | (with_reducible refine Kd.C_drewN ?_ _) | (with_reducible refine Kd.C_drew ?_))); (case side2 => exact HC1.out); (case side3 => repeat (first | exact (Kd.R_reads' HO_11.out).2.2 | (with_reducible refine Kd.C_alloc ?_ _) | (with_reducible refine Kd.C_drewN ?_ _) | (with_reducible refine Kd.C_drew ?_))); (case side4 => exact (Kd.R_reads' HO_11.out).2.1); rintro e w21 ⟨v378, rfl, ho0, hb⟩; refine ⟨_, rfl, ?_⟩; have n0_ := Aside0.mk (Kd.R_elder' (by (with_reducible repeat (first | apply Kd.R_alloc | apply Kd.R_drewN | apply Kd.R_drew)); exact HO_10.out) (Kd.R_base ho0) hb); have n1_ := Aside0.mk (Kd.R_below (by (with_reducible repeat (first | apply Kd.R_alloc | apply Kd.R_drewN | apply Kd.R_drew)); exact HO_11.out) hb); have n2_ := Aside0.mk (Kd.R_lower (Kd.R_new' ho0 (Kd.R_lt (by (with_reducible repeat (first | apply Kd.R_alloc | apply Kd.R_drewN | apply Kd.R_drew)); exact HO_10.out))) (below_size (by repeat (first | (with_reducible first | exact HB.out | apply below_alloc | apply pw_below_drewN | apply below_drew1) | exact HB.out)))); have n3_ := Aside0.mk (below_step (by repeat (first | (with_reducible first | exact HB.out | apply below_alloc | apply pw_below_drewN | apply below_drew1) | exact HB.out)) hb); clear HO_10; clear HO_11; clear HB; have HO_10 := n0_; have HO_11 := n1_; have HO379 := n2_; have HB := n3_; clear n0_ n1_ n2_ n3_; (try clear hb); (try clear hb2); (try clear hk); (try clear hi); (try clear ho0); obtain ⟨Ao22, co22, eo22⟩ := Kd.R_slice HO379.out; subst eo22))
                    go_ret2
                    exact ⟨_, by first | rfl | (simp [errW_none, errW_some] <;> rfl) | (simp [*, errW_none, errW_some] <;> rfl), by (with_reducible repeat (first | apply Kd.R_alloc | apply Kd.R_drewN | apply Kd.R_drew)); exact Kd.R_mono HO_10.out (fun _ hk => trivial), by repeat (first | (with_reducible first | exact HB.out | apply below_alloc | apply pw_below_drewN | apply below_drew1) | exact HB.out)⟩
                  · rw [if_neg c19] at H
                    have c19b0 : ((t377.length : Int) == 0) = false := beq_eq_false_iff_ne.mpr c19
                    have c19b1 : ((t377.length : Int) != 0) = true := bne_iff_ne.mpr c19
                    have c19b2 : ¬ (t377 = []) := fun h_ => c19 (by rw [h_]; rfl)
                    replace H := Option.bind_eq_some_iff.mp H
                    obtain ⟨t380, A230, H⟩ := H
                    replace H : (if 0 ≤ t380 then (if t380 < (t377.length : Int) then ((spec_l18Do.f x11_2 ((rd_T94 t377 t380).f0) ((rd_T94 t377 t380).f1)).bind fun t383 => (if x10_2.length < 8796093022208 then (spec_PoolRun.l0 k2 a0 l1 a2 l3 (x10_2 ++ [(⟨(rd_T94 t377 t380).f0, (rd_T94 t377 t380).f1⟩ : S94)]) t383 (wrap64 (x12_2 + 1))) else (none))) else (none)) else (none)) = some (r1, r2) := H
                    have A23 := Aside0.mk A230
                    clear A230
                    by_cases c24 : 0 ≤ t380
                    · rw [if_pos c24] at H
                      have c24b0 : decide (0 ≤ t380) = true := decide_eq_true c24
                      clear c24
                      by_cases c25 : t380 < (t377.length : Int)
                      · rw [if_pos c25] at H
                        have c25b0 : decide (t380 < (t377.length : Int)) = true := decide_eq_true c25
                        clear c25
                        replace H := Option.bind_eq_some_iff.mp H
                        obtain ⟨t383, A260, H⟩ := H
                        replace H : (if x10_2.length < 8796093022208 then (spec_PoolRun.l0 k2 a0 l1 a2 l3 (x10_2 ++ [(⟨(rd_T94 t377 t380).f0, (rd_T94 t377 t380).f1⟩ : S94)]) t383 (wrap64 (x12_2 + 1))) else (none)) = some (r1, r2) := H
                        have A26 := Aside0.mk A260
                        clear A260
                        by_cases c27 : x10_2.length < 8796093022208
                        · rw [if_pos c27] at H
                          have LMc27 := Aside0.mk c27
                          clear c27
                          obtain ⟨y386, hy386⟩ : ∃ y_ : List (S94), y_ = (x10_2 ++ [(⟨(rd_T94 t377 t380).f0, (rd_T94 t377 t380).f1⟩ : S94)]) := ⟨_, rfl⟩
                          replace H : (spec_PoolRun.l0 k2 a0 l1 a2 l3 y386 t383 (wrap64 (x12_2 + 1))) = some (r1, r2) := by first | (rw [hy386]; with_reducible exact H) | (have H2_ := (Option.bind_some _ _).symm.trans H; rw [hy386]; with_reducible exact H2_) | (have H2_ := (Option.bind_some _ _).symm.trans H; with_reducible exact H2_) | with_reducible exact H | (rw [hy386]; exact H) | exact H
                          have Ny386 := Aside0.mk hy386
                          clear hy386
                          have H' := Aside0.mk H
                          clear H
                          obtain ⟨Ao28, co28, eo28⟩ := Kd.R_slice HO_11.out
                          subst eo28
                          go_wp2_with (first | ((with_reducible refine gate_callee (f := 83) rfl ?_); refine goesL_ (some 41) rfl rfl Try.func83 (by kernel_rfl) rfl #[.slice A1 l1.length c1, .int .i64 a2, .slice Ao28 x11_2.length co28] rfl (by (try simp only [List.map_toArray, List.map_cons, List.map_nil]); first | done | rfl | (simp only [List.length_drop, List.length_take]; rfl)) ?_; (with_reducible refine (spec_l18Moves.calls k2 _ _ l1 a2 _ _ x11_2 t377 _ ?side1 ?side2 ?side3 ?side4 A18.out).mono ?_); (case side1 => repeat (first | exact (Kd.C_below HR1.out HB.out) | (with_reducible refine Kd.C_alloc ?_ _) | (with_reducible refine Kd.C_drewN ?_ _) | (with_reducible refine Kd.C_drew ?_))); (case side2 => exact HC1.out); (case side3 => repeat (first | exact (Kd.R_reads' HO_11.out).2.2 | (with_reducible refine Kd.C_alloc ?_ _) | (with_reducible refine Kd.C_drewN ?_ _) | (with_reducible refine Kd.C_drew ?_))); (case side4 => exact (Kd.R_reads' HO_11.out).2.1); rintro e w29 ⟨v378, rfl, ho0, hb⟩; refine ⟨_, rfl, ?_⟩; have n0_ := Aside0.mk (Kd.R_elder' (by (with_reducible repeat (first | apply Kd.R_alloc | apply Kd.R_drewN | apply Kd.R_drew)); exact HO_10.out) (Kd.R_base ho0) hb); have n1_ := Aside0.mk (Kd.R_below (by (with_reducible repeat (first | apply Kd.R_alloc | apply Kd.R_drewN | apply Kd.R_drew)); exact HO_11.out) hb); have n2_ := Aside0.mk (Kd.R_lower (Kd.R_new' ho0 (Kd.R_lt (by (with_reducible repeat (first | apply Kd.R_alloc | apply Kd.R_drewN | apply Kd.R_drew)); exact HO_10.out))) (below_size (by repeat (first | (with_reducible first | exact HB.out | apply below_alloc | apply pw_below_drewN | apply below_drew1) | exact HB.out)))); have n3_ := Aside0.mk (below_step (by repeat (first | (with_reducible first | exact HB.out | apply below_alloc | apply pw_below_drewN | apply below_drew1) | exact HB.out)) hb); clear HO_10; clear HO_11; clear HB; have HO_10 := n0_; have HO_11 := n1_; have HO379 := n2_; have HB := n3_; clear n0_ n1_ n2_ n3_; (try clear hb); (try clear hb2); (try clear hk); (try clear hi); (try clear ho0); obtain ⟨Ao30, co30, eo30⟩ := Kd.R_slice HO379.out; subst eo30) | ((with_reducible refine gate_callee (f := 123) rfl ?_); refine goesL_ (some 50) rfl rfl Try.func123 (by kernel_rfl) rfl #[.slice A3 l3.length c3, .int .i64 x12_2, .int .i64 (t377.length : Int)] rfl (by (try simp only [List.map_toArray, List.map_cons, List.map_nil]); first | done | rfl | (simp only [List.length_drop, List.length_take]; rfl)) ?_; (with_reducible refine (spec_l18Pick.calls _ _ l3 x12_2 (t377.length : Int) t380 _ ?side1 ?side2 A23.out).mono ?_); (case side1 => repeat (first | exact (Kd.C_below HR3.out HB.out) | (with_reducible refine Kd.C_alloc ?_ _) | (with_reducible refine Kd.C_drewN ?_ _) | (with_reducible refine Kd.C_drew ?_))); (case side2 => exact HC3.out); rintro e w' ⟨rfl, ⟨nd, rfl⟩⟩; refine ⟨_, rfl, ?_⟩; (try (rw [drewN_self w29]; generalize hq_ : World.drewN w29 _ = w29; have n0_ : Aside0 (Kd.R k94 94 w29 w.heap.size (fun k_ => some k_ ≠ (u10 : Value).ownBlock) (.slice Ao30 t377.length co30) t377) := ⟨by rw [← hq_]; exact (by (with_reducible repeat (first | apply Kd.R_alloc | apply Kd.R_drewN | apply Kd.R_drew)); exact Kd.R_mono HO379.out (fun _ hk => hk.2))⟩; have n1_ : Aside0 (Kd.R k94 94 w29 w.heap.size (fun k_ => some k_ ≠ (.slice Ao30 t377.length co30 : Value).ownBlock) u10 x10_2) := ⟨by rw [← hq_]; exact (by (with_reducible repeat (first | apply Kd.R_alloc | apply Kd.R_drewN | apply Kd.R_drew)); exact Kd.R_mono HO_10.out (fun _ hk => hk.2))⟩; have n2_ : Aside0 (Kd.R (Kd.int .i64) 3 w29 w.heap.size (fun _ => True) (.slice Ao28 x11_2.length co28) x11_2) := ⟨by rw [← hq_]; exact (by (with_reducible repeat (first | apply Kd.R_alloc | apply Kd.R_drewN | apply Kd.R_drew)); exact HO_11.out)⟩; have n3_ : Aside0 (Below w.heap.size w w29) := ⟨by rw [← hq_]; exact (by repeat (first | (with_reducible first | exact HB.out | apply below_alloc | apply pw_below_drewN | apply below_drew1) | exact HB.out))⟩; clear HO379 HO_10 HO_11 HB hq_; have HO379 := n0_; have HO_10 := n1_; have HO_11 := n2_; have HB := n3_; clear n0_ n1_ n2_ n3_)); have p381 : 0 ≤ (t380 : Int) := of_decide_eq_true (by first | (with_reducible assumption) | assumption); have q381 : t380 < (t377.length : Int) := of_decide_eq_true (by first | (with_reducible assumption) | assumption); obtain ⟨ad381, e381, hx381_0, hx381_1⟩ := at_T94 (Kd.R_reads' HO379.out).2.2 t380 p381 q381; cases e381; replace p381 := eq_true p381; replace q381 := eq_true q381) | ((with_reducible refine gate_dst (N := 14) rfl ?_); (try (refine gate_guard (by rfl) ?_; dsimp only)); refine box_event ?hg (N := 14) ?hd (cs := #[.int .i64 0, .int .i64 0]) (t := 94) ?hr ?_; (case hd => rfl); (case hg => rfl); (case hr => first | (go_simp; done) | (go_simp; rfl)); intro gb382 hg w31 hbox hb; have n0_ := Aside0.mk (Kd.R_below (Kd.R_elderB (by (with_reducible repeat (first | apply Kd.R_alloc | apply Kd.R_drewN | apply Kd.R_drew)); exact HO_10.out) gb382 (Nat.le_of_eq hg.symm)) hb); have n1_ := Aside0.mk (Kd.R_below (by (with_reducible repeat (first | apply Kd.R_alloc | apply Kd.R_drewN | apply Kd.R_drew)); exact HO_11.out) hb); have n2_ := Aside0.mk (Kd.R_below (Kd.R_elderB (by (with_reducible repeat (first | apply Kd.R_alloc | apply Kd.R_drewN | apply Kd.R_drew)); exact HO379.out) gb382 (Nat.le_of_eq hg.symm)) hb); have n3_ := Aside0.mk (below_step (by repeat (first | (with_reducible first | exact HB.out | apply below_alloc | apply pw_below_drewN | apply below_drew1) | exact HB.out)) hb); have n4_ := Aside0.mk (hbox); have n5_ := Aside0.mk ((by rw [hg]; exact (below_size (by repeat (first | (with_reducible first | exact HB.out | apply below_alloc | apply pw_below_drewN | apply below_drew1) | exact HB.out))) : w.heap.size ≤ gb382)); have n6_ := Aside0.mk ((by rw [hg]; exact (below_size (by repeat (first | (with_reducible first | exact HB.out | apply below_alloc | apply pw_below_drewN | apply below_drew1) | exact HB.out))) : w.heap.size ≤ gb382)); clear HO_10; clear HO_11; clear HO379; clear HB; have HO_10 := n0_; have HO_11 := n1_; have HO379 := n2_; have HB := n3_; have BK382 := n4_; have GW382 := n5_; have GE382 := n6_; clear n0_ n1_ n2_ n3_ n4_ n5_ n6_; clear hb hbox hg; have hcz32_0 : w31.cell? ⟨gb382, 0, none⟩ = some (.int .i64 0) := (blk_cell BK382.out 0).trans rfl; have hcz32_1 : w31.cell? ⟨gb382, 1, none⟩ = some (.int .i64 0) := (blk_cell BK382.out 1).trans rfl; have hfz32_0 := blk_frozen BK382.out 0; have hfz32_1 := blk_frozen BK382.out 1) | ((with_reducible refine gate_callee (f := 84) rfl ?_); refine goesL_ (some 55) rfl rfl Try.func84 (by kernel_rfl) rfl #[.slice Ao28 x11_2.length co28, .agg #[.int .i64 ((rd_T94 t377 t380).f0), .int .i64 ((rd_T94 t377 t380).f1)]] rfl (by (try simp only [List.map_toArray, List.map_cons, List.map_nil]); first | done | rfl | (simp only [List.length_drop, List.length_take]; rfl)) ?_; (with_reducible refine (spec_l18Do.calls _ _ x11_2 ((rd_T94 t377 t380).f0) ((rd_T94 t377 t380).f1) t383 _ ?side1 ?side2 A26.out).mono ?_); (case side1 => refine (Kd.R_reads' (e := 3) (base := w.heap.size) (ok := fun k_ => True) (n := x11_2.length) (c := co28) ?_).2.2; exact (by (with_reducible repeat (first | apply Kd.R_alloc | apply Kd.R_drewN | apply Kd.R_drew)); exact (Kd.R_mono (Kd.R_far (p := ⟨gb382, 1, none⟩) (Kd.R_far (p := ⟨gb382, 0, none⟩) (Kd.R_types HO_11.out BK382.out (by decide)) (fun _ hk => hk.2) (.int .i64 ((rd_T94 t377 t380).f0))) (fun _ hk => hk.2) (.int .i64 ((rd_T94 t377 t380).f1))) (fun _ h_ => h_.1)))); (case side2 => exact (Kd.R_reads' HO_11.out).2.1); rintro e w33 ⟨v384, rfl, ho0, hb⟩; refine ⟨_, rfl, ?_⟩; have n0_ := Aside0.mk (Kd.R_below (by (with_reducible repeat (first | apply Kd.R_alloc | apply Kd.R_drewN | apply Kd.R_drew)); exact (Kd.R_mono (Kd.R_far (p := ⟨gb382, 1, none⟩) (Kd.R_far (p := ⟨gb382, 0, none⟩) (Kd.R_mono HO_10.out (fun k_ hk => (⟨hk, hk.2⟩ : _ ∧ k_ ≠ gb382))) (fun _ hk => hk.2) (.int .i64 ((rd_T94 t377 t380).f0))) (fun _ hk => hk.2) (.int .i64 ((rd_T94 t377 t380).f1))) (fun _ h_ => h_.1))) hb); have n1_ := Aside0.mk (Kd.R_elder' (by (with_reducible repeat (first | apply Kd.R_alloc | apply Kd.R_drewN | apply Kd.R_drew)); exact (Kd.R_mono (Kd.R_far (p := ⟨gb382, 1, none⟩) (Kd.R_far (p := ⟨gb382, 0, none⟩) (Kd.R_types HO_11.out BK382.out (by decide)) (fun _ hk => hk.2) (.int .i64 ((rd_T94 t377 t380).f0))) (fun _ hk => hk.2) (.int .i64 ((rd_T94 t377 t380).f1))) (fun _ h_ => h_.1))) (Kd.R_base ho0) hb); have n2_ := Aside0.mk (Kd.R_below (by (with_reducible repeat (first | apply Kd.R_alloc | apply Kd.R_drewN | apply Kd.R_drew)); exact (Kd.R_mono (Kd.R_far (p := ⟨gb382, 1, none⟩) (Kd.R_far (p := ⟨gb382, 0, none⟩) (Kd.R_mono HO379.out (fun k_ hk => (⟨hk, hk.2⟩ : _ ∧ k_ ≠ gb382))) (fun _ hk => hk.2) (.int .i64 ((rd_T94 t377 t380).f0))) (fun _ hk => hk.2) (.int .i64 ((rd_T94 t377 t380).f1))) (fun _ h_ => h_.1))) hb); have n3_ := Aside0.mk (Kd.R_lower (Kd.R_new' ho0 (Kd.R_lt (by (with_reducible repeat (first | apply Kd.R_alloc | apply Kd.R_drewN | apply Kd.R_drew)); exact (Kd.R_mono (Kd.R_far (p := ⟨gb382, 1, none⟩) (Kd.R_far (p := ⟨gb382, 0, none⟩) (Kd.R_types HO_11.out BK382.out (by decide)) (fun _ hk => hk.2) (.int .i64 ((rd_T94 t377 t380).f0))) (fun _ hk => hk.2) (.int .i64 ((rd_T94 t377 t380).f1))) (fun _ h_ => h_.1))))) (below_size (by repeat (first | (with_reducible first | exact HB.out | apply below_alloc | apply pw_below_drewN | apply below_drew1 | refine below_set ?_ GE382.out) | exact HB.out)))); have n4_ := Aside0.mk (blk_below (g := gb382) (o := .cells #[.int .i64 ((rd_T94 t377 t380).f0), .int .i64 ((rd_T94 t377 t380).f1)] 94 (0, 0)) (by (with_reducible repeat (first | refine blk_drewN ?_ _ | refine blk_drew ?_ | refine blk_alloc ?_ _)); refine blk_put (cs := #[.int .i64 ((rd_T94 t377 t380).f0), .int .i64 0]) ?_ 1 _ rfl; (with_reducible repeat (first | refine blk_drewN ?_ _ | refine blk_drew ?_ | refine blk_alloc ?_ _)); refine blk_put (cs := #[.int .i64 0, .int .i64 0]) ?_ 0 _ rfl; (with_reducible repeat (first | refine blk_drewN ?_ _ | refine blk_drew ?_ | refine blk_alloc ?_ _)); exact BK382.out) hb); have n5_ := Aside0.mk (below_step (by repeat (first | (with_reducible first | exact HB.out | apply below_alloc | apply pw_below_drewN | apply below_drew1 | refine below_set ?_ GE382.out) | exact HB.out)) hb); clear HO_10; clear HO_11; clear HO379; clear BK382; clear HB; have HO_10 := n0_; have HO_11 := n1_; have HO379 := n2_; have HO385 := n3_; have BK382 := n4_; have HB := n5_; clear n0_ n1_ n2_ n3_ n4_ n5_; (try clear hb); (try clear hb2); (try clear hk); (try clear hi); (try clear ho0); have hcz34_0 : w33.cell? ⟨gb382, 0, none⟩ = some (.int .i64 ((rd_T94 t377 t380).f0)) := (blk_cell BK382.out 0).trans rfl; have hcz34_1 : w33.cell? ⟨gb382, 1, none⟩ = some (.int .i64 ((rd_T94 t377 t380).f1)) := (blk_cell BK382.out 1).trans rfl; have hfz34_0 := blk_frozen BK382.out 0; have hfz34_1 := blk_frozen BK382.out 1) | ((with_reducible refine gate_builtin (b := .append) (xs := #[.tmp 56, .tmp 58]) rfl ?_); (try (refine gate_guard (by rfl) ?_; dsimp only)); at_builtin; refine Kd.R_append k94 (w0 := w) w.heap.size rfl (.tmp 56) (.tmp 58) 32 94 (.agg #[(.int .i64 0), (.int .i64 0)]) 16 rfl Try.underlying32 info94 rfl (by decide) (by omega) u10 x10_2 (⟨(rd_T94 t377 t380).f0, (rd_T94 t377 t380).f1⟩ : S94) [.int .i64 ((rd_T94 t377 t380).f0), .int .i64 ((rd_T94 t377 t380).f1)] (fun k_ => some k_ ≠ (.slice (some ad381) t377.length co30 : Value).ownBlock ∧ k_ ≠ gb382) (fun _ => False) rfl rfl ?aP (fun _ hk => hk.elim) ?aF ?aO ?aB ?aS ?aL ?_; (case aP => exact k94_mkM _ _ _ (⟨(rd_T94 t377 t380).f0, (rd_T94 t377 t380).f1⟩ : S94)); (case aB => exact (by repeat (first | (with_reducible first | exact HB.out | apply below_alloc | apply pw_below_drewN | apply below_drew1 | refine below_set ?_ GE382.out) | exact HB.out))); (case aF => exact (fun k_ hk => ⟨Kd.fresh' (Kd.R_lt (by (with_reducible repeat (first | apply Kd.R_alloc | apply Kd.R_drewN | apply Kd.R_drew)); exact HO379.out)) k_ hk, Kd.freshB (g := gb382) (o := .cells #[.int .i64 ((rd_T94 t377 t380).f0), .int .i64 ((rd_T94 t377 t380).f1)] 94 (0, 0)) (by (with_reducible repeat (first | refine blk_drewN ?_ _ | refine blk_drew ?_ | refine blk_alloc ?_ _)); exact BK382.out) k_ hk⟩)); (case aO => exact (by (with_reducible repeat (first | apply Kd.R_alloc | apply Kd.R_drewN | apply Kd.R_drew)); exact Kd.R_mono HO_10.out (fun _ hk => by first | exact ⟨hk.1.2, hk.2⟩ | exact hk | exact ⟨hk.2, hk.1⟩))); (case aS => exact (below_size (by repeat (first | (with_reducible first | exact HB.out | apply below_alloc | apply pw_below_drewN | apply below_drew1 | refine below_set ?_ GE382.out) | exact HB.out)))); (case aL => have := LMc27.out; omega); intro v387 w35 ho hb hg hat; rw [← Ny386.out] at ho; have n0_ := Aside0.mk (Kd.R_over' (by (with_reducible repeat (first | apply Kd.R_alloc | apply Kd.R_drewN | apply Kd.R_drew)); exact HO_11.out) (Kd.R_typed (by (with_reducible repeat (first | apply Kd.R_alloc | apply Kd.R_drewN | apply Kd.R_drew)); exact HO_10.out)) (by decide) hg); have n1_ := Aside0.mk (Kd.R_after (ok := (fun k_ => k_ ≠ gb382)) (by (with_reducible repeat (first | apply Kd.R_alloc | apply Kd.R_drewN | apply Kd.R_drew)); exact Kd.R_mono HO379.out (fun _ hk => by first | exact ⟨hk.2, hk.1.2⟩ | exact hk | exact ⟨hk.2, hk.1⟩)) hg hat); have n2_ := Aside0.mk (blk_grown (g := gb382) (o := .cells #[.int .i64 ((rd_T94 t377 t380).f0), .int .i64 ((rd_T94 t377 t380).f1)] 94 (0, 0)) (by (with_reducible repeat (first | refine blk_drewN ?_ _ | refine blk_drew ?_ | refine blk_alloc ?_ _)); exact BK382.out) hg (Kd.R_away HO_10.out (fun _ hk => hk.2))); have n3_ := Aside0.mk (Kd.R_over' (by (with_reducible repeat (first | apply Kd.R_alloc | apply Kd.R_drewN | apply Kd.R_drew)); exact HO385.out) (Kd.R_typed (by (with_reducible repeat (first | apply Kd.R_alloc | apply Kd.R_drewN | apply Kd.R_drew)); exact HO_10.out)) (by decide) hg); have n4_ := Aside0.mk (hb); have n5_ := Aside0.mk (ho); clear HO_11; clear HO379; clear BK382; clear HO385; clear HB; clear HO_10; have HO_11 := n0_; have HO379 := n1_; have BK382 := n2_; have HO385 := n3_; have HB := n4_; have HO388 := n5_; clear n0_ n1_ n2_ n3_ n4_ n5_; clear ho hb hg hat))
                          go_roundg k2
                          case measure => have := HJ4.out; have := HK2.out; omega
                          case rel => exact ⟨(y386), (t383), (wrap64 (x12_2 + 1)), (by first | rfl | (simp; done) | (simp [*]; done)), H', ⟨by have := HJ4.out; have := HK2.out; omega⟩, ⟨by (with_reducible repeat (first | apply Kd.R_alloc | apply Kd.R_drewN | apply Kd.R_drew)); exact Kd.R_mono HO388.out (fun _ hk => trivial)⟩, ⟨by (with_reducible repeat (first | apply Kd.R_alloc | apply Kd.R_drewN | apply Kd.R_drew)); exact Kd.R_mono HO385.out (fun _ hk => trivial)⟩, ⟨by repeat (first | (with_reducible first | exact HB.out | apply below_alloc | apply pw_below_drewN | apply below_drew1 | refine below_set ?_ GE382.out) | exact HB.out)⟩⟩
                        · rw [if_neg c27] at H
                          exact absurd H (by simp)
                      · rw [if_neg c25] at H
                        exact absurd H (by simp)
                    · rw [if_neg c24] at H
                      exact absurd H (by simp)
                · rw [if_neg c17] at H
                  have c17b0 : decide (x12_2 < (wrap64 (2 * a0))) = false := decide_eq_false c17
                  clear c17
                  simp only [Option.some.injEq, Prod.mk.injEq] at H
                  obtain ⟨rfl, rfl⟩ := H
                  go_wp2
                  go_ret2
                  exact ⟨_, by first | rfl | (simp [errW_none, errW_some] <;> rfl) | (simp [*, errW_none, errW_some] <;> rfl), by (with_reducible repeat (first | apply Kd.R_alloc | apply Kd.R_drewN | apply Kd.R_drew)); exact HO_10.out, by repeat (first | (with_reducible first | exact HB.out | apply below_alloc | apply pw_below_drewN | apply below_drew1) | exact HB.out)⟩
          · rw [if_neg c12] at H
            exact absurd H (by simp)
        · rw [if_neg c11] at H
          exact absurd H (by simp)

/-! ### impl_ascending: function 136 -/
def lays189_ren : Go.Shelf.Ren := ⟨fun | 189 => 175 | 125 => 204 | 257 => 203 | 128 => 237 | 129 => 238 | 294 => 228 | 295 => 229 | 296 => 230 | 297 => 231 | 298 => 232 | 299 => 233 | 216 => 234 | 300 => 235 | 301 => 236 | 328 => 250 | 329 => 251 | 330 => 252 | 331 => 253 | 332 => 254 | 215 => 255 | 343 => 259 | n => n, fun | 28 => 35 | 3 => 3 | 46 => 199 | 0 => 0 | 51 => 238 | 53 => 240 | 4 => 4 | 183 => 231 | 182 => 230 | 131 => 168 | 5 => 5 | 9 => 9 | 218 => 245 | 222 => 249 | 228 => 251 | 229 => 252 | n => n, fun | n => n⟩
theorem lays189 : Go.Proofs.Lays.n189 Try.prog lays189_ren := {
  mixed := by kernel_rfl,
  f125 := Try.func204.trans (congrArg some (by kernel_rfl)),
  f128 := Try.func237.trans (congrArg some (by kernel_rfl)),
  f129 := Try.func238.trans (congrArg some (by kernel_rfl)),
  f189 := Try.func175.trans (congrArg some (by kernel_rfl)),
  f215 := Try.func255.trans (congrArg some (by kernel_rfl)),
  f216 := Try.func234.trans (congrArg some (by kernel_rfl)),
  f257 := Try.func203.trans (congrArg some (by kernel_rfl)),
  f294 := Try.func228.trans (congrArg some (by kernel_rfl)),
  f295 := Try.func229.trans (congrArg some (by kernel_rfl)),
  f296 := Try.func230.trans (congrArg some (by kernel_rfl)),
  f297 := Try.func231.trans (congrArg some (by kernel_rfl)),
  f298 := Try.func232.trans (congrArg some (by kernel_rfl)),
  f299 := Try.func233.trans (congrArg some (by kernel_rfl)),
  f300 := Try.func235.trans (congrArg some (by kernel_rfl)),
  f301 := Try.func236.trans (congrArg some (by kernel_rfl)),
  f328 := Try.func250.trans (congrArg some (by kernel_rfl)),
  f329 := Try.func251.trans (congrArg some (by kernel_rfl)),
  f330 := Try.func252.trans (congrArg some (by kernel_rfl)),
  f331 := Try.func253.trans (congrArg some (by kernel_rfl)),
  f332 := Try.func254.trans (congrArg some (by kernel_rfl)),
  f343 := Try.func259.trans (congrArg some (by kernel_rfl)),
  t0 := Try.underlying0,
  a0 := Try.isAgg0,
  z0 := Try.sizeOf0,
  v0 := Try.zeroValue0,
  t3 := Try.underlying3,
  a3 := Try.isAgg3,
  z3 := Try.sizeOf3,
  v3 := Try.zeroValue3,
  t4 := Try.underlying4,
  a4 := Try.isAgg4,
  z4 := Try.sizeOf4,
  v4 := Try.zeroValue4,
  t5 := Try.underlying5,
  a5 := Try.isAgg5,
  z5 := Try.sizeOf5,
  v5 := Try.zeroValue5,
  t9 := Try.underlying9,
  a9 := Try.isAgg9,
  z9 := Try.sizeOf9,
  v9 := Try.zeroValue9,
  t28 := Try.underlying35,
  a28 := Try.isAgg35,
  z28 := Try.sizeOf35,
  v28 := Try.zeroValue35,
  t46 := Try.underlying199,
  a46 := Try.isAgg199,
  z46 := Try.sizeOf199,
  v46 := Try.zeroValue199,
  t51 := Try.underlying238,
  a51 := Try.isAgg238,
  z51 := Try.sizeOf238,
  v51 := Try.zeroValue238,
  t53 := Try.underlying240,
  a53 := Try.isAgg240,
  z53 := Try.sizeOf240,
  v53 := Try.zeroValue240,
  t131 := Try.underlying168,
  a131 := Try.isAgg168,
  z131 := Try.sizeOf168,
  v131 := Try.zeroValue168,
  t182 := Try.underlying230,
  a182 := Try.isAgg230,
  z182 := Try.sizeOf230,
  v182 := Try.zeroValue230,
  t183 := Try.underlying231,
  a183 := Try.isAgg231,
  z183 := Try.sizeOf231,
  v183 := Try.zeroValue231,
  t218 := Try.underlying245,
  a218 := Try.isAgg245,
  z218 := Try.sizeOf245,
  v218 := Try.zeroValue245,
  t222 := Try.underlying249,
  a222 := Try.isAgg249,
  z222 := Try.sizeOf249,
  v222 := Try.zeroValue249,
  t228 := Try.underlying251,
  a228 := Try.isAgg251,
  z228 := Try.sizeOf251,
  v228 := Try.zeroValue251,
  t229 := Try.underlying252,
  a229 := Try.isAgg252,
  z229 := Try.sizeOf252,
  v229 := Try.zeroValue252 }

def lays2_20_ren : Go.Shelf.Ren := ⟨fun | 20 => 176 | n => n, fun | 22 => 35 | 3 => 3 | 4 => 4 | 0 => 0 | n => n, fun | n => n⟩
theorem lays2_20 : Go.Proofs.Lays2.n20 Try.prog lays2_20_ren := {
  mixed := by kernel_rfl,
  f20 := Try.func176.trans (congrArg some (by kernel_rfl)),
  t0 := Try.underlying0,
  a0 := Try.isAgg0,
  z0 := Try.sizeOf0,
  v0 := Try.zeroValue0,
  t3 := Try.underlying3,
  a3 := Try.isAgg3,
  z3 := Try.sizeOf3,
  v3 := Try.zeroValue3,
  t4 := Try.underlying4,
  a4 := Try.isAgg4,
  z4 := Try.sizeOf4,
  v4 := Try.zeroValue4,
  t22 := Try.underlying35,
  a22 := Try.isAgg35,
  z22 := Try.sizeOf35,
  v22 := Try.zeroValue35,
  i3 := by kernel_rfl }

theorem int_put {e g cap n : Nat} {w w2 : World} {base : Nat} {ok : Nat → Prop} {l l2 : List Int} (h : Kd.R (Kd.int .i64) e w base ok (.slice (some ⟨g, 0, none⟩) n cap) l) (cur2 : Array Value) (hb : w2.heap[g]? = some (.cells cur2 e (0, 0))) (hs : cur2.size = cap) (hl : l2.length ≤ n) (ht : cur2.toList.take l2.length = l2.map (Value.int .i64)) : Kd.R (Kd.int .i64) e w2 base ok (.slice (some ⟨g, 0, none⟩) l2.length cap) l2 := by
  obtain ⟨h0, inner, ⟨_, ho⟩, _⟩ := h
  have hsz : (Kd.int .i64).sz = 1 := rfl
  refine ⟨fun k hk => h0 k hk, l2.map (Value.int .i64), ⟨by rw [List.length_map, hsz, Nat.mul_one], .inr ?_⟩, ⟨by rw [List.length_map, hsz, Nat.mul_one], fun j p hp => ?_⟩⟩
  · rcases ho with ⟨hv, _⟩ | ⟨g', cap', cur, hv, hbase, hheap, hn, hm, hz, _⟩
    · cases hv
    · injection hv with h1 h2 h3
      injection h1 with h1
      injection h1 with h1
      subst h1; subst h3
      exact ⟨g, cap, cur2, rfl, hbase, hb, by omega, hm, by rw [hsz, Nat.mul_one]; exact hs, by rw [hsz, Nat.mul_one]; exact ht⟩
  · rw [hsz, Nat.mul_one]
    have hj : j < l2.length := (List.getElem?_eq_some_iff.1 hp).1
    have e1 : ((l2.map (Value.int .i64)).drop j).take 1 = [Value.int .i64 p] := by
      rw [List.drop_eq_getElem_cons (by simpa using hj)]
      simp only [List.take_succ_cons, List.take_zero, List.getElem_map]
      rw [(List.getElem?_eq_some_iff.1 hp).2]
    rw [e1]
    rfl
theorem putCells_take (l2 : List Int) (d : Array Int) (cur : Array Value) (m : Nat) (hm : m ≤ d.size) (hc : d.size ≤ cur.size) (hd : d.toList.take m = l2) : (Sort.putCells (Value.int .i64) 0 d cur).toList.take m = l2.map (Value.int .i64) := by
  subst hd
  apply List.ext_getElem?
  intro j
  rw [List.getElem?_take]
  by_cases hj : j < m
  · rw [if_pos hj, List.getElem?_map, List.getElem?_take, if_pos hj]
    have h1 : (Sort.putCells (Value.int .i64) 0 d cur)[j]? = some (.int .i64 (d[j]'(by omega))) := by
      unfold Sort.putCells
      rw [Array.getElem?_mapIdx, Array.getElem?_eq_getElem (by omega)]
      simp only [Option.map_some]
      rw [if_pos (by omega)]
      simp [Nat.sub_zero, getElem!_pos d j (by omega)]
    rw [Array.getElem?_toList, h1, Array.getElem?_toList, Array.getElem?_eq_getElem (by omega)]
    rfl
  · rw [if_neg hj, List.getElem?_map, List.getElem?_take, if_neg hj]
    rfl
theorem putRow_block {w : World} {g e : Nat} {cur : Array Value} (d : Array Int) (h : w.heap[g]? = some (.cells cur e (0, 0))) : (Sort.putRow (Value.int .i64) w g 0 d).heap[g]? = some (.cells (Sort.putCells (Value.int .i64) 0 d cur) e (0, 0)) := by
  unfold Sort.putRow Sort.mapBlock
  simp [Array.getElem?_modify, h, Sort.onCells]
theorem putRow_else {w : World} {g k : Nat} (d : Array Int) (h : k ≠ g) : (Sort.putRow (Value.int .i64) w g 0 d).heap[k]? = w.heap[k]? := by
  unfold Sort.putRow Sort.mapBlock
  simp [Array.getElem?_modify, Ne.symm h]
theorem grow_block (w : World) (os : Array Obj) {k : Nat} (h : k < w.heap.size) : (Sort.grow w os).heap[k]? = w.heap[k]? := by
  unfold Sort.grow
  exact Array.getElem?_append_left h
def ascL (l : List Int) : List Int := Lib.compact (l.mergeSort fun x y => decide (x ≤ y))
theorem compact_len (l : List Int) : (Lib.compact l).length ≤ l.length := by
  unfold Lib.compact Lib.compactUpTo
  rw [List.length_map]
  exact Nat.le_trans (List.length_filter_le _ _) (by simp)
theorem asc_len (l : List Int) : (ascL l).length ≤ l.length := by
  have := compact_len (l.mergeSort fun x y => decide (x ≤ y))
  rw [List.length_mergeSort] at this
  exact this
def impl_ascending.f (l0 : List Int) : Option (List Int) := if l0.length < 4611686018427387904 then some (ascL l0) else none
set_option maxHeartbeats 4000000 in
theorem impl_ascending.calls (P0_ : Nat → Prop) (u9000_ : Value) (l0 : List Int) (r : List Int) (w0 w : World) (hB : Below w0.heap.size w0 w) (ho0 : Kd.R (Kd.int .i64) 3 w w0.heap.size P0_ u9000_ l0) (h : impl_ascending.f l0 = some r) :
    Calls Try.prog 136 #[u9000_] w fun e w' => ∃ v0_ : Value, e = .returned (v0_) ∧ Kd.R (Kd.int .i64) 3 w' w0.heap.size (fun k_ => (P0_ k_ ∨ w.heap.size ≤ k_)) v0_ r ∧ Below w0.heap.size w0 w' ∧ Kept w w' (fun k_ => P0_ k_) := by
  unfold impl_ascending.f at h
  by_cases hlen : l0.length < 4611686018427387904
  · rw [if_pos hlen] at h
    obtain rfl := Option.some.inj h
    by_cases hz : l0 = []
    · subst hz
      obtain ⟨A, c, rfl⟩ := Kd.R_slice ho0
      have hs := fun W => Any.slices_Sort_int_none lays189 A c W
      have hc := fun W => Any.slices_Compact_int_empty lays2_20 A c W
      change ∀ W, Calls Try.prog 175 _ _ _ at hs
      change ∀ W, Calls Try.prog 176 _ _ _ at hc
      have HR := Aside0.mk ho0
      have HB := Aside0.mk hB
      clear ho0 hB
      go_enter Try.func136, Try.ntmps136
      go_wp2_with (first | (go_at_call 175; refine (hs _).mono ?_; rintro e w' ⟨rfl, rfl⟩) | (go_at_call 176; refine (hc _).mono ?_; rintro e w' ⟨rfl, rfl⟩))
      go_ret
      have e0 : ascL [] = [] := by simp [ascL, Lib.compact, Lib.compactUpTo]
      rw [e0]
      exact ⟨_, rfl, Kd.R_mono HR.out (fun k hk => .inl hk), HB.out, Kept.refl _ _⟩
    · obtain ⟨g, cap, rfl, hg0, hg1, cells, hcells⟩ := Kd.R_form ho0 (List.length_pos_iff.2 hz)
      obtain ⟨_, hcap, hC⟩ := Kd.R_reads' ho0
      have hP : P0_ g := ho0.1 g rfl
      have hcs : cells.size = cap := by
        obtain ⟨_, inner, ⟨_, ho⟩, _⟩ := ho0
        rcases ho with ⟨hv, _⟩ | ⟨g', cap', cur, hv, hbase, hheap, hn, hm, hz, _⟩
        · cases hv
        · injection hv with h1 h2 h3
          injection h1 with h1
          injection h1 with h1
          subst h1; subst h3
          rw [hcells] at hheap
          injection hheap with hheap
          injection hheap with h4
          rw [h4]
          have h5 : (Kd.int .i64).sz = 1 := rfl
          rw [h5, Nat.mul_one] at hz
          exact hz
      have hH : Sort.Holds (Value.int .i64) w g 0 l0.toArray := by
        intro j hj
        have hj' : j < l0.length := by simpa using hj
        obtain ⟨ad, ead, hx⟩ := Kd.at_int hC (j : Int) (by omega) (by omega)
        cases ead
        refine ⟨?_, blk_frozen hcells _⟩
        have e1 : rd l0 (j : Int) = l0.toArray[j]! := by
          unfold rd
          rw [Int.toNat_natCast, List.getD_eq_getElem?_getD, List.getElem?_eq_getElem hj', getElem!_pos l0.toArray j hj]
          simp
        rw [e1] at hx
        rw [← hx]
        congr 1
        by_cases hj0 : j = 0 <;> simp [Addr.add, hj0]
      obtain ⟨s, hs⟩ : ∃ s, s = l0.mergeSort fun x y => decide (x ≤ y) := ⟨_, rfl⟩
      have hsl : s.length = l0.length := by rw [hs, List.length_mergeSort]
      have hsort := fun W hH hb => Any.slices_Sort_int lays189 g 0 cap l0 W hH hb hlen
      change ∀ W, _ → _ → Calls Try.prog 175 _ _ _ at hsort
      rw [← hs] at hsort
      have hcomp := fun W hH => Any.slices_Compact_int lays2_20 g 0 cap s W hH (by omega) (by omega)
      change ∀ W, _ → Calls Try.prog 176 _ _ _ at hcomp
      rw [hsl] at hcomp
      have hH1 : ∀ n os, Sort.Holds (Value.int .i64) (Sort.grow (Sort.putRow (Value.int .i64) (Sort.ahead w n) g 0 s.toArray) os) g 0 s.toArray := by
        intro n os j hj
        have h1 := Sort.holds_putRow (Value.int .i64) (Sort.ahead w n) g 0 l0.toArray s.toArray (Sort.holds_ahead (Value.int .i64) w n g 0 l0.toArray hH) (by simpa using hsl) j hj
        have hb1 : (Sort.grow (Sort.putRow (Value.int .i64) (Sort.ahead w n) g 0 s.toArray) os).heap[g]? = some (.cells (Sort.putCells (Value.int .i64) 0 s.toArray cells) 3 (0, 0)) := by
          rw [grow_block _ _ (by simpa [Sort.ahead] using hg1)]
          exact putRow_block _ hcells
        refine ⟨?_, blk_frozen hb1 _⟩
        have hb2 : (Sort.putRow (Value.int .i64) (Sort.ahead w n) g 0 s.toArray).heap[g]? = some (.cells (Sort.putCells (Value.int .i64) 0 s.toArray cells) 3 (0, 0)) := putRow_block _ hcells
        rw [blk_cell hb1, ← blk_cell hb2]
        exact h1.1
      have HEND : Aside0 (∀ n os q, ∃ v0_ : Value, Ending.returned (Value.slice (some ⟨g, 0, none⟩) (Lib.compact s).length cap) = .returned v0_ ∧ Kd.R (Kd.int .i64) 3 (Sort.putRow (Value.int .i64) (Sort.ahead (Sort.grow (Sort.putRow (Value.int .i64) (Sort.ahead w n) g 0 s.toArray) os) q) g 0 (Lib.compact s ++ List.replicate (l0.length - (Lib.compact s).length) 0).toArray) w0.heap.size (fun k_ => (P0_ k_ ∨ w.heap.size ≤ k_)) v0_ (ascL l0) ∧ Below w0.heap.size w0 (Sort.putRow (Value.int .i64) (Sort.ahead (Sort.grow (Sort.putRow (Value.int .i64) (Sort.ahead w n) g 0 s.toArray) os) q) g 0 (Lib.compact s ++ List.replicate (l0.length - (Lib.compact s).length) 0).toArray) ∧ Kept w (Sort.putRow (Value.int .i64) (Sort.ahead (Sort.grow (Sort.putRow (Value.int .i64) (Sort.ahead w n) g 0 s.toArray) os) q) g 0 (Lib.compact s ++ List.replicate (l0.length - (Lib.compact s).length) 0).toArray) (fun k_ => P0_ k_)) := by
        rw [← hsl]
        refine ⟨fun n os q => ?_⟩
        have hcl := compact_len s
        have hb1 : (Sort.grow (Sort.putRow (Value.int .i64) (Sort.ahead w n) g 0 s.toArray) os).heap[g]? = some (.cells (Sort.putCells (Value.int .i64) 0 s.toArray cells) 3 (0, 0)) := by
          rw [grow_block _ _ (by simpa [Sort.ahead] using hg1)]
          exact putRow_block _ hcells
        have hb2 := putRow_block (w := Sort.ahead (Sort.grow (Sort.putRow (Value.int .i64) (Sort.ahead w n) g 0 s.toArray) os) q) (Lib.compact s ++ List.replicate (s.length - (Lib.compact s).length) 0).toArray hb1
        have hsz1 : ∀ d : Array Int, ∀ c : Array Value, (Sort.putCells (Value.int .i64) 0 d c).size = c.size := fun d c => by simp [Sort.putCells]
        have hka : ∀ k, k < w.heap.size → k ≠ g → (Sort.putRow (Value.int .i64) (Sort.ahead (Sort.grow (Sort.putRow (Value.int .i64) (Sort.ahead w n) g 0 s.toArray) os) q) g 0 (Lib.compact s ++ List.replicate (s.length - (Lib.compact s).length) 0).toArray).heap[k]? = w.heap[k]? := by
          intro k hk hne
          rw [putRow_else _ hne]
          show (Sort.grow _ os).heap[k]? = _
          rw [grow_block _ _ (by simpa [Sort.ahead] using hk), putRow_else _ hne]
          rfl
        have hsz : w.heap.size ≤ (Sort.putRow (Value.int .i64) (Sort.ahead (Sort.grow (Sort.putRow (Value.int .i64) (Sort.ahead w n) g 0 s.toArray) os) q) g 0 (Lib.compact s ++ List.replicate (s.length - (Lib.compact s).length) 0).toArray).heap.size := by
          simp [Sort.ahead, Sort.grow]
        refine ⟨_, rfl, ?_, ⟨hB.os, hB.tape, hB.output, Nat.le_trans hB.size hsz, fun k hk => ?_⟩, ⟨hsz, fun k hk hn => hka k hk (fun e => hn (e ▸ hP))⟩⟩
        · have e1 : ascL l0 = Lib.compact s := by rw [hs]; rfl
          rw [e1]
          refine Kd.R_mono (int_put ho0 _ hb2 (by rw [hsz1, hsz1, hcs]) (by omega) ?_) (fun k hk => .inl hk)
          refine putCells_take _ _ _ _ (by simp) (by rw [hsz1]; simp; omega) ?_
          simp
        · rw [hka k (by have := hB.size; omega) (by omega)]
          exact hB.block k hk
      have HH := Aside0.mk hH
      have HH1 := Aside0.mk hH1
      have HG := Aside0.mk hg1
      clear ho0 hB hC hH1 hH hg1 hg0 hcells hP hcs hs hsl hlen hz hcap
      go_enter Try.func136, Try.ntmps136
      go_wp2_with (first | (go_at_call 175; refine (hsort _ HH.out HG.out).mono ?_; rintro e w' ⟨rfl, n, os, rfl⟩) | (go_at_call 176; refine (hcomp _ (HH1.out _ _)).mono ?_; rintro e w' ⟨rfl, q, rfl⟩))
      go_ret
      exact HEND.out _ _ _
  · rw [if_neg hlen] at h
    cases h

-- NOT PRINTED: function 192 (slices_IndexFunc_int_int)

-- NOT PRINTED: function 165 (slices_DeleteFunc_int_int)

-- NOT PRINTED: function 166 (impl_Running_1)

/-! ### impl_Running: function 124 -/
def laysH_10_ren : Go.Shelf.Ren := ⟨fun | 10 => 165 | 6 => 192 | n => n, fun | 22 => 35 | 23 => 3 | 25 => 172 | 3 => 3 | 4 => 4 | 0 => 0 | n => n, fun | n => n⟩
theorem laysH_10 : Go.Proofs.SlLaysH.n10 Try.prog laysH_10_ren := {
  mixed := by kernel_rfl,
  f6 := ⟨"slices.IndexFunc[[]int,int]", by decide, Try.func192.trans (congrArg some (by kernel_rfl))⟩,
  f10 := ⟨"slices.DeleteFunc[[]int,int]", by decide, Try.func165.trans (congrArg some (by kernel_rfl))⟩,
  t0 := Try.underlying0,
  a0 := Try.isAgg0,
  z0 := Try.sizeOf0,
  v0 := Try.zeroValue0,
  t3 := Try.underlying3,
  a3 := Try.isAgg3,
  z3 := Try.sizeOf3,
  v3 := Try.zeroValue3,
  t4 := Try.underlying4,
  a4 := Try.isAgg4,
  z4 := Try.sizeOf4,
  v4 := Try.zeroValue4,
  t22 := Try.underlying35,
  a22 := Try.isAgg35,
  z22 := Try.sizeOf35,
  v22 := Try.zeroValue35,
  a23 := Try.isAgg3,
  z23 := Try.sizeOf3,
  t25 := Try.underlying172,
  a25 := Try.isAgg172,
  z25 := Try.sizeOf172,
  v25 := Try.zeroValue172 }

theorem enterR {P : Program} {f : FuncId} {fn : Func} {c : Code} (hf : P.funcs[f]? = some fn) (hname : (fn.name == "runtime.NumGoroutine") = false) (hb : fn.body = some c) (args : Array Value) (w : World) : (callFunc f args).run P w = .ok (.enter f args) w := by
  have h1 : fn.name ≠ "runtime.NumGoroutine" := by simpa using hname
  simp [callFunc, hf, h1, hb, mark]
theorem eRun1 : ∀ args w, (callFunc 166 args).run Try.prog w = .ok (.enter 166 args) w := enterR Try.func166 (by kernel_rfl) rfl
theorem givesRun (task x : Int) (B : Nat) (W : World) (hc : W.cell? ⟨B, 1, none⟩ = some (.int .i64 task)) :
    FnGives Try.prog 166 #[.pointer (some ⟨B, 0, none⟩)] #[.int .i64 x] (.bool (x == task)) W := by
  show Calls Try.prog 166 #[.int .i64 x, .pointer (some ⟨B, 0, none⟩)] W _
  go_enter Try.func166, Try.ntmps166
  go_wp2
  go_ret
  exact ⟨rfl, 0, rfl⟩
def delL (task : Int) (l : List Int) : List Int := l.filter fun x => !(x == task)
theorem del_len (task : Int) (l : List Int) : (delL task l).length ≤ l.length := List.length_filter_le _ _
set_option maxHeartbeats 4000000 in
theorem delF.calls (task : Int) (B : Nat) (ok : Nat → Prop) (v : Value) (l : List Int) (w0 w : World) (hB : Below w0.heap.size w0 w) (ho : Kd.R (Kd.int .i64) 3 w w0.heap.size ok v l) (hlen : l.length ≤ 100000) (hc : w.cell? ⟨B, 1, none⟩ = some (.int .i64 task)) (hne : some B ≠ v.ownBlock) :
    Calls Try.prog 165 #[v, .func (.func 166) #[] #[.pointer (some ⟨B, 0, none⟩)]] w fun e w' => ∃ v' : Value, e = .returned v' ∧ Kd.R (Kd.int .i64) 3 w' w0.heap.size ok v' (delL task l) ∧ Below w0.heap.size w0 w' := by
  have hBlt : B < w.heap.size := World.block_lt_of_cell? w ⟨B, 1, none⟩ hc
  by_cases hz : l = []
  · subst hz
    obtain ⟨A, c, rfl⟩ := Kd.R_slice ho
    have HR := Aside0.mk ho
    have HB := Aside0.mk hB
    clear ho hB
    have hi := fun W => AnyE.slices_IndexFunc_empty (P := Try.prog) (ρ := laysH_10_ren) { laysH_10 with } A c (.func (.func 166) #[] #[.pointer (some ⟨B, 0, none⟩)]) W
    change ∀ W, Calls Try.prog 192 _ _ _ at hi
    clear hc
    go_enter Try.func165, Try.ntmps165
    go_wp2_with (go_at_call 192; refine (hi _).mono ?_; rintro e w' ⟨rfl, rfl⟩)
    go_ret
    exact ⟨_, rfl, HR.out, HB.out⟩
  · obtain ⟨g, cap, rfl, hg0, hg1, cells, hcells⟩ := Kd.R_form ho (List.length_pos_iff.2 hz)
    obtain ⟨_, hcap, hC⟩ := Kd.R_reads' ho
    have hcs : cells.size = cap := by
      obtain ⟨_, inner, ⟨_, ho⟩, _⟩ := ho
      rcases ho with ⟨hv, _⟩ | ⟨g', cap', cur, hv, hbase, hheap, hn, hm, hz, _⟩
      · cases hv
      · injection hv with h1 h2 h3
        injection h1 with h1
        injection h1 with h1
        subst h1; subst h3
        rw [hcells] at hheap
        injection hheap with hheap
        injection hheap with h4
        rw [h4]
        have h5 : (Kd.int .i64).sz = 1 := rfl
        rw [h5, Nat.mul_one] at hz
        exact hz
    have hH : Sort.Holds (Value.int .i64) w g 0 l.toArray := by
      intro j hj
      have hj' : j < l.length := by simpa using hj
      obtain ⟨ad, ead, hx⟩ := Kd.at_int hC (j : Int) (by omega) (by omega)
      cases ead
      refine ⟨?_, blk_frozen hcells _⟩
      have e1 : rd l (j : Int) = l.toArray[j]! := by
        unfold rd
        rw [Int.toNat_natCast, List.getD_eq_getElem?_getD, List.getElem?_eq_getElem hj', getElem!_pos l.toArray j hj]
        simp
      rw [e1] at hx
      rw [← hx]
      congr 1
      by_cases hj0 : j = 0 <;> simp [Addr.add, hj0]
    have hBg : B ≠ g := fun e => hne (by rw [e]; rfl)
    have hcon := AnyE.slices_DeleteFunc laysH_10 (Value.int .i64) (fun _ => rfl) (fun x => x == task) 166 #[.pointer (some ⟨B, 0, none⟩)] eRun1 0 (fun w => laysH_10.v3 w) g 0 cap l.toArray w
      (fun W x hb => givesRun task x B W ((hb.cell (p := ⟨B, 1, none⟩) hBlt).trans hc))
      (fun n os dk x _ => givesRun task x B _ (by
        unfold sortWorld
        rw [Sort.cell?_grow _ _ _ (by show B < (Sort.putRow _ _ _ _ _).heap.size; rw [Sort.size_putRow]; exact hBlt), Sort.cell?_putRow_other _ _ g 0 _ _ (Or.inl hBg)]
        exact hc)) hH (by simp; omega) (by simpa using hcap)
    change Calls Try.prog 165 _ _ _ at hcon
    refine hcon.mono ?_
    rintro e w' ⟨rfl, q, rfl⟩
    have hl0 := del_len task l
    have hfl : (l.toArray.toList.filter fun x => !(fun x => x == task) x) = delL task l := rfl
    rw [hfl, List.size_toArray]
    have hb2 := putRow_block (w := Sort.ahead w q) (delL task l ++ List.replicate (l.length - (delL task l).length) 0).toArray hcells
    have hsz1 : ∀ d : Array Int, ∀ c : Array Value, (Sort.putCells (Value.int .i64) 0 d c).size = c.size := fun d c => by simp [Sort.putCells]
    have hka : ∀ k, k < w.heap.size → k ≠ g → (Sort.putRow (Value.int .i64) (Sort.ahead w q) g 0 (delL task l ++ List.replicate (l.length - (delL task l).length) 0).toArray).heap[k]? = w.heap[k]? := by
      intro k hk hne
      rw [putRow_else _ hne]
      rfl
    have hsz : w.heap.size ≤ (Sort.putRow (Value.int .i64) (Sort.ahead w q) g 0 (delL task l ++ List.replicate (l.length - (delL task l).length) 0).toArray).heap.size := by
      simp [Sort.ahead]
    refine ⟨_, rfl, ?_, ⟨hB.os, hB.tape, hB.output, Nat.le_trans hB.size hsz, fun k hk => ?_⟩⟩
    · refine int_put ho _ hb2 (by rw [hsz1, hcs]) hl0 ?_
      refine putCells_take _ _ _ _ (by simp) (by simp; omega) ?_
      simp
    · rw [hka k (by have := hB.size; omega) (by omega)]
      exact hB.block k hk
theorem own_new {wr : World} {base : Nat} {ok : Nat → Prop} {v : Value} {l : List Int} (h : Kd.R (Kd.int .i64) 3 wr base ok v l) : some wr.heap.size ≠ v.ownBlock := fun e => by
  have := (Kd.R_bound h).1 _ e.symm
  omega
theorem runW (i : Nat) (h : i ≤ 9223372036854775806) : wrap64 ((i : Int) + 1) = ((i + 1 : Nat) : Int) := by
  unfold wrap64
  omega
def nowStep (o : List Int) (m : S94) : List Int := if m.f0 = 2 then o ++ [m.f1] else if m.f0 = 1 then delL m.f1 o else o
def nowL (l : List S94) : List Int := l.foldl nowStep []
theorem nowStep_len (o : List Int) (m : S94) : (nowStep o m).length ≤ o.length + 1 := by
  unfold nowStep
  split
  · simp
  · split
    · have := del_len m.f1 o; omega
    · omega
theorem nowL_len (l : List S94) : (nowL l).length ≤ l.length := by
  have h : ∀ (l : List S94) (o : List Int), (l.foldl nowStep o).length ≤ o.length + l.length := by
    intro l
    induction l with
    | nil => intro o; simp
    | cons m l ih => intro o; have := ih (nowStep o m); have := nowStep_len o m; simp only [List.foldl_cons, List.length_cons]; omega
  have := h l []
  simpa [nowL] using this
theorem nowL_take (l : List S94) (i : Nat) (h : i < l.length) : nowL (l.take (i + 1)) = nowStep (nowL (l.take i)) l[i] := by
  unfold nowL
  rw [List.take_succ_eq_append_getElem h, List.foldl_append]
  rfl
def impl_Running.f (l0 : List S94) : Option (List Int) := if 200 < l0.length then some [] else some (ascL (nowL l0))
set_option maxHeartbeats 4000000 in
set_option maxRecDepth 100000 in
theorem impl_Running.calls (A0 : Option Addr) (c0 : Nat) (l0 : List S94) (r : List Int) (w : World) (hr0 : Kd.C k94 w A0 l0.length l0) (hc0 : l0.length ≤ c0) (h : impl_Running.f l0 = some r) :
    Calls Try.prog 124 #[.slice A0 l0.length c0] w fun e w' => ∃ v0_ : Value, e = .returned (v0_) ∧ Kd.R (Kd.int .i64) 3 w' w.heap.size (fun _ => True) v0_ r ∧ Below w.heap.size w w' := by
  have HR0 := Aside0.mk hr0
  have HC0 := Aside0.mk hc0
  clear hr0 hc0
  have HB := Aside0.mk (Below.refl w.heap.size w)
  unfold impl_Running.f at h
  by_cases c : 200 < l0.length
  · rw [if_pos c] at h
    obtain rfl := Option.some.inj h
    have cb : decide (200 < l0.length) = true := decide_eq_true c
    have cb2 : decide (200 < (l0.length : Int)) = true := decide_eq_true (by omega)
    clear c h
    go_enter Try.func124, Try.ntmps124
    go_wp2_with (first | ((with_reducible refine gate_dst (N := 6) rfl ?_); refine Kd.R_lit (Kd.int .i64) _ 3 ?hg (N := 6) ?hd (xs := ([] : List Int)) (inner := []) (ok := fun _ => True) (okp := fun _ => True) ?hr ?hp (fun _ hk => hk) trivial (Below.refl _ _) (Nat.le_refl _) (by simp) ?_; (case hd => rfl); (case hg => rfl); (case hr => first | (go_simp; done) | (go_simp; rfl)); (case hp => exact (Reps.none _ _)); intro v1 w3 ho hb hg_ hnew_; clear hg_ hnew_; have HO := Aside0.mk ho; have HBq := Aside0.mk hb; clear HB; have HB := HBq; clear HBq ho hb))
    go_ret
    exact ⟨_, rfl, HO.out, HB.out⟩
  · rw [if_neg c] at h
    obtain rfl := Option.some.inj h
    have cb : decide (200 < l0.length) = false := decide_eq_false c
    have cb2 : decide (200 < (l0.length : Int)) = false := decide_eq_false (by omega)
    have HL := Aside0.mk (show l0.length ≤ 200 by omega)
    clear c h
    go_enter Try.func124, Try.ntmps124
    go_wp2_with (first | ((with_reducible refine gate_dst (N := 6) rfl ?_); refine Kd.R_lit (Kd.int .i64) _ 3 ?hg (N := 6) ?hd (xs := ([] : List Int)) (inner := []) (ok := fun _ => True) (okp := fun _ => True) ?hr ?hp (fun _ hk => hk) trivial (Below.refl _ _) (Nat.le_refl _) (by simp) ?_; (case hd => rfl); (case hg => rfl); (case hr => first | (go_simp; done) | (go_simp; rfl)); (case hp => exact (Reps.none _ _)); intro v1 w3 ho hb hg_ hnew_; clear hg_ hnew_; have HO := Aside0.mk ho; have HBq := Aside0.mk hb; clear HB; have HB := HBq; clear HBq ho hb))
    go_loopg [3, 13] l0.length (fun kq v3 v13 w' => ∃ i : Nat, v13 = .int .i64 (i : Int) ∧ Aside0 (i + kq = l0.length) ∧ Aside0 (Kd.R (Kd.int .i64) 3 w' w.heap.size (fun _ => True) v3 (nowL (l0.take i))) ∧ Aside0 (Below w.heap.size w w'))
    case atStart => exact ⟨0, rfl, ⟨by omega⟩, HO, HB⟩
    case round =>
      clear HO HB
      obtain ⟨i, rfl, HI, HO, HB⟩ := hrel
      by_cases c : i < l0.length
      · have cb : decide ((i : Int) < (l0.length : Int)) = true := by simpa using c
        obtain ⟨ad, ead, hx0, hx1⟩ := at_T94 HR0.out (i : Int) (by omega) (by omega)
        cases ead
        rw [Int.toNat_natCast] at hx0 hx1
        replace hx0 := (HB.out.cell (World.block_lt_of_cell? w _ hx0)).trans hx0
        replace hx1 := (HB.out.cell (World.block_lt_of_cell? w _ hx1)).trans hx1
        have hrd : rd_T94 l0 (i : Int) = l0[i] := by
          unfold rd_T94
          rw [Int.toNat_natCast, List.getD_eq_getElem?_getD, List.getElem?_eq_getElem c]
          rfl
        rw [hrd] at hx0 hx1
        have HN := Aside0.mk (nowL_take l0 i c)
        clear hrd
        generalize l0[i] = m at hx0 hx1 HN
        have HIB := Aside0.mk (show i ≤ 300 by have := HL.out; omega)
        have HLN := Aside0.mk (nowL_len (l0.take i))
        have HLT := Aside0.mk (show (l0.take i).length ≤ i from List.length_take_le _ _)
        generalize nowL (l0.take i) = o at HO HN HLN
        by_cases c2 : m.f0 = 2
        · have cb2 : (m.f0 == 2) = true := beq_iff_eq.2 c2
          have HS := Aside0.mk (show nowStep o m = o ++ [m.f1] by unfold nowStep; rw [if_pos c2])
          clear c2
          go_wp2_with (first | (at_builtin; refine Kd.R_append (Kd.int .i64) (w0 := w) w.heap.size rfl (.tmp 21) (.tmp 24) 35 3 (.int .i64 0) 8 rfl Try.underlying35 info3 rfl (by decide) (by omega) _ o m.f1 [.int .i64 m.f1] (fun _ => True) (fun _ => False) rfl ?aX ?aP (fun _ hk => hk.elim) ?aF ?aO ?aB ?aS ?aL ?_; (case aX => (simp only [World.alloc, Array.size_push]; rfl)); (case aP => exact rfl); (case aF => exact fun _ _ => trivial); (case aO => exact Kd.R_alloc HO.out _); (case aB => exact below_alloc HB.out _); (case aS => exact below_size (below_alloc HB.out _)); (case aL => have := HLN.out; have := HLT.out; have := HL.out; omega); intro v1 w1 ho hb hg hat; have HO2 := Aside0.mk ho; have HB2 := Aside0.mk hb; clear ho hb hg hat))
          go_roundg (l0.length - (i + 1))
          case measure => have := HI.out; omega
          case rel => exact ⟨i + 1, (by first | rfl | rw [runW i (by have := HIB.out; omega)]), ⟨by have := HI.out; omega⟩, ⟨by rw [HN.out, HS.out]; exact HO2.out⟩, HB2⟩
        · have cb2 : (m.f0 == 2) = false := beq_eq_false_iff_ne.2 c2
          by_cases c3 : m.f0 = 1
          · have cb3 : (m.f0 == 1) = true := beq_iff_eq.2 c3
            have HS := Aside0.mk (show nowStep o m = delL m.f1 o by unfold nowStep; rw [if_neg c2, if_pos c3])
            clear c2 c3
            have hne := own_new (wr := wr) HO.out
            go_wp2_with (first | (go_at_call 165; refine (delF.calls m.f1 wr.heap.size (fun _ => True) _ o w _ (below_alloc HB.out _) (Kd.R_alloc HO.out _) (by have := HLN.out; have := HLT.out; have := HL.out; omega) (by simp) hne).mono ?_; rintro e w1 ⟨v1, rfl, ho, hb⟩; have HO2 := Aside0.mk ho; have HB2 := Aside0.mk hb; clear ho hb))
            go_roundg (l0.length - (i + 1))
            case measure => have := HI.out; omega
            case rel => exact ⟨i + 1, (by first | rfl | rw [runW i (by have := HIB.out; omega)]), ⟨by have := HI.out; omega⟩, ⟨by rw [HN.out, HS.out]; exact HO2.out⟩, HB2⟩
          · have cb3 : (m.f0 == 1) = false := beq_eq_false_iff_ne.2 c3
            have HS := Aside0.mk (show nowStep o m = o by unfold nowStep; rw [if_neg c2, if_neg c3])
            clear c2 c3
            go_wp2
            go_roundg (l0.length - (i + 1))
            case measure => have := HI.out; omega
            case rel => exact ⟨i + 1, (by first | rfl | rw [runW i (by have := HIB.out; omega)]), ⟨by have := HI.out; omega⟩, ⟨by rw [HN.out, HS.out]; exact Kd.R_alloc HO.out _⟩, ⟨below_alloc HB.out _⟩⟩
      · have cb : decide ((i : Int) < (l0.length : Int)) = false := by simpa using c
        have ei : i = l0.length := by have := HI.out; omega
        subst ei
        rw [List.take_length] at HO
        have hasc : impl_ascending.f (nowL l0) = some (ascL (nowL l0)) := by
          unfold impl_ascending.f
          rw [if_pos (by have := nowL_len l0; have := HL.out; omega)]
        have HA := Aside0.mk hasc
        clear hasc
        go_wp2_with (first | (go_at_call 136; refine (impl_ascending.calls (fun _ => True) _ _ _ w _ HB.out HO.out HA.out).mono ?_; rintro e w1 ⟨v1, rfl, ho, hb, _⟩; have HO2 := Aside0.mk ho; have HB2 := Aside0.mk hb; clear ho hb))
        go_ret
        exact ⟨_, rfl, Kd.R_mono HO2.out (fun _ _ => trivial), HB2.out⟩

end Go.Proofs.Ytpdcgnfdffbolaa.PFnNoStuck
