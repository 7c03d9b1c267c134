-- written by wip/tools/myprint.py out of the program's own print
import Derived.Test.YtnecbgeljanhiaaPFnExactRunningx0
import Derived.Test.YtnecbgeljanhiaaPFnExactRunningx2
namespace Go.Proofs.Ytnecbgeljanhiaa.PFnExactRunning
open Go.Proofs.Ytnecbgeljanhiaa.Own (rS cS bS rB rN rT kS kC kc10 kf10)
open Go.RowKit Go.Proofs.YtnecbgeljanhiaaW.PrintWords Go.Proofs.YtnecbgeljanhiaaW.PrintLast Go.Proofs.YtnecbgeljanhiaaW.PrintMore
attribute [local go_sem] max2_int min2_int max_two min_two max_three min_three max_four min_four   -- for this text's walks alone
set_option linter.unusedVariables false
set_option linter.unusedSimpArgs false

/-! ### spec_Running: function 61 -/
def spec_Running.l0 : Nat → List (S46) → List Int → List Int → Int → Option (List Int)
  | 0, _, _, _, _ => none
  | k + 1, x0, x3, x4, x5 => if x5 ≥ 0 then (if 0 ≤ x5 then (if x5 < (x0.length : Int) then (if ((rd_T46 x0 x5).f0) = 1 then (if x4.length < 17592186044416 then (spec_Running.l0 k x0 x3 (x4 ++ [(rd_T46 x0 x5).f1]) (wrap64 (x5 - 1))) else (none)) else (if ((rd_T46 x0 x5).f0) = 2 then ((spec_l4At.f k x4 ((rd_T46 x0 x5).f1)).bind fun t171 => (if t171 < 0 then (if x3.length < 17592186044416 then (spec_Running.l0 k x0 (x3 ++ [(rd_T46 x0 x5).f1]) x4 (wrap64 (x5 - 1))) else (none)) else (spec_Running.l0 k x0 x3 x4 (wrap64 (x5 - 1))))) else (spec_Running.l0 k x0 x3 x4 (wrap64 (x5 - 1))))) else (none)) else (none)) else ((spec_l10Sorted.f k x3).bind fun t163 => (some t163))
def spec_Running.f (k : Nat) (l0 : List (S46)) : Option (List Int) := (some (([] : List Int) : List Int)).bind fun y157 => (if (l0.length : Int) > 200 then (some y157) else (spec_Running.l0 k l0 y157 (([] : List Int)) (wrap64 ((l0.length : Int) - 1))))
theorem spec_Running.mono_l : ∀ k, (∀ y0 y1 y2 y3, LeO (spec_Running.l0 k y0 y1 y2 y3) (spec_Running.l0 (k + 1) y0 y1 y2 y3))
  | 0 => fun _ _ _ _ r h => by simp [spec_Running.l0] at h
  | k + 1 => by
    have ih0 := spec_Running.mono_l k
    · intro y0 y1 y2 y3
      unfold spec_Running.l0
      repeat' first
      | (with_reducible exact ih0 _ _ _ _)
      | (with_reducible exact spec_l10Sorted.mono _ _)
      | (with_reducible exact spec_l4At.mono _ _ _)
      | (with_reducible exact LeO.refl _)
      | (with_reducible exact LeO.none _)
      | (with_reducible refine LeO.ite ?_ ?_)
      | (with_reducible refine LeO.bind ?_ (fun _ => ?_))
      | exact ih0 _ _ _ _
      | exact spec_l10Sorted.mono _ _
      | exact spec_l4At.mono _ _ _
      | exact LeO.none _
      | refine LeO.ite ?_ ?_
      | refine LeO.bind ?_ (fun _ => ?_)
theorem spec_Running.mono : ∀ a0 k, LeO (spec_Running.f k a0) (spec_Running.f (k + 1) a0) := by
  intro a0 k
  have ih0 := spec_Running.mono_l k
  unfold spec_Running.f
  repeat' first
      | (with_reducible exact ih0 _ _ _ _)
      | (with_reducible exact spec_l10Sorted.mono _ _)
      | (with_reducible exact spec_l4At.mono _ _ _)
      | (with_reducible exact LeO.refl _)
      | (with_reducible exact LeO.none _)
      | (with_reducible refine LeO.ite ?_ ?_)
      | (with_reducible refine LeO.bind ?_ (fun _ => ?_))
      | exact ih0 _ _ _ _
      | exact spec_l10Sorted.mono _ _
      | exact spec_l4At.mono _ _ _
      | exact LeO.none _
      | refine LeO.ite ?_ ?_
      | refine LeO.bind ?_ (fun _ => ?_)
set_option maxHeartbeats 8000000 in
set_option maxRecDepth 100000 in
theorem spec_Running.calls (k : Nat) (A0 : Option Addr) (c0 : Nat) (l0 : List (S46)) (r : List Int) (w : World) (hr0 : Kd.C k46 w A0 l0.length l0) (hc0 : l0.length ≤ c0) (h : spec_Running.f k l0 = some r) :
    Calls Try.prog 61 #[.slice A0 l0.length c0] w fun e w' => ∃ v0_ : Value, e = .returned (v0_) ∧ Kd.R (Kd.int .i64) 3 w' w.heap.size (fun _ => True) v0_ r ∧ Below w.heap.size w w' := by
  have HR0 := Aside0.mk hr0
  have HC0 := Aside0.mk hc0
  clear hr0 hc0
  have HB := Aside0.mk (Below.refl w.heap.size w)
  have H : ((some (([] : List Int) : List Int)).bind fun y157 => (if (l0.length : Int) > 200 then (some y157) else (spec_Running.l0 k l0 y157 (([] : List Int)) (wrap64 ((l0.length : Int) - 1))))) = some r := h
  clear h
  obtain ⟨y157, hy157⟩ : ∃ y_ : List Int, y_ = (([] : List Int)) := ⟨_, rfl⟩
  replace H : (if (l0.length : Int) > 200 then (some y157) else (spec_Running.l0 k l0 y157 (([] : List Int)) (wrap64 ((l0.length : Int) - 1)))) = some r := by first | (rw [hy157]; with_reducible exact H) | (have H2_ := (Option.bind_some _ _).symm.trans H; rw [hy157]; with_reducible exact H2_) | (have H2_ := (Option.bind_some _ _).symm.trans H; with_reducible exact H2_) | with_reducible exact H | (rw [hy157]; exact H) | exact H
  have Ny157 := Aside0.mk hy157
  clear hy157
  obtain ⟨y160, hy160⟩ : ∃ y_ : List Int, y_ = (([] : List Int)) := ⟨_, rfl⟩
  replace H : (if (l0.length : Int) > 200 then (some y157) else (spec_Running.l0 k l0 y157 y160 (wrap64 ((l0.length : Int) - 1)))) = some r := by first | (rw [hy160]; with_reducible exact H) | (have H2_ := (Option.bind_some _ _).symm.trans H; rw [hy160]; with_reducible exact H2_) | (have H2_ := (Option.bind_some _ _).symm.trans H; with_reducible exact H2_) | with_reducible exact H | (rw [hy160]; exact H) | exact H
  have Ny160 := Aside0.mk hy160
  clear hy160
  by_cases c2 : (l0.length : Int) > 200
  · rw [if_pos c2] at H
    have c2b0 : decide (200 < (l0.length : Int)) = true := decide_eq_true c2
    have c2b1 : decide (200 < l0.length) = true := decide_eq_true (by omega)
    clear c2
    obtain rfl := Option.some.inj H
    go_enter Try.func61, Try.ntmps61
    go_wp2_with (first | ((with_reducible refine gate_dst (N := 7) rfl ?_); refine Kd.R_lit (Kd.int .i64) _ 3 ?hg (N := 7) ?hd (xs := ([] : List Int)) (inner := []) (ok := fun _ => True) (okp := fun _ => True) ?hr ?hp (fun _ hk => hk) trivial (Below.refl _ _) (Nat.le_refl _) (by simp) ?_; (case hd => rfl); (case hg => rfl); (case hr => first | (go_simp; done) | (go_simp; rfl)); (case hp => exact (Reps.none _ _)); intro v158 w3 ho4 hb hg_ hnew_; clear hg_ hnew_; (first | rw [← Ny157.out] at ho4 | (simp only [Int.reduceToNat] at ho4; rw [← Ny157.out] at ho4)); have n0_ := Aside0.mk (Kd.R_lower ho4 (below_size (by repeat (first | (with_reducible first | exact HB.out | apply below_alloc | apply pw_below_drewN | apply below_drew1) | exact HB.out)))); have n1_ := Aside0.mk (below_step (by repeat (first | (with_reducible first | exact HB.out | apply below_alloc | apply pw_below_drewN | apply below_drew1) | exact HB.out)) hb); clear HB; have HO159 := n0_; have HB := n1_; clear n0_ n1_; clear hb ho4) | ((with_reducible refine gate_dst (N := 8) rfl ?_); refine Kd.R_lit (Kd.int .i64) _ 3 ?hg (N := 8) ?hd (xs := ([] : List Int)) (inner := []) (ok := fun _ => True) (okp := fun _ => True) ?hr ?hp (fun _ hk => hk) trivial (Below.refl _ _) (Nat.le_refl _) (by simp) ?_; (case hd => rfl); (case hg => rfl); (case hr => first | (go_simp; done) | (go_simp; rfl)); (case hp => exact (Reps.none _ _)); intro v161 w5 ho6 hb hg_ hnew_; clear hg_ hnew_; (first | rw [← Ny160.out] at ho6 | (simp only [Int.reduceToNat] at ho6; rw [← Ny160.out] at ho6)); have n0_ := Aside0.mk (Kd.R_elder' (by (with_reducible repeat (first | apply Kd.R_alloc | apply Kd.R_drewN | apply Kd.R_drew)); exact HO159.out) (Kd.R_base ho6) hb); have n1_ := Aside0.mk (Kd.R_lower (Kd.R_new' ho6 (Kd.R_lt (by (with_reducible repeat (first | apply Kd.R_alloc | apply Kd.R_drewN | apply Kd.R_drew)); exact HO159.out))) (below_size (by repeat (first | (with_reducible first | exact HB.out | apply below_alloc | apply pw_below_drewN | apply below_drew1) | exact HB.out)))); have n2_ := Aside0.mk (below_step (by repeat (first | (with_reducible first | exact HB.out | apply below_alloc | apply pw_below_drewN | apply below_drew1) | exact HB.out)) hb); clear HO159; clear HB; have HO159 := n0_; have HO162 := n1_; have HB := n2_; clear n0_ n1_ n2_; clear hb ho6))
    go_ret
    exact ⟨_, by first | rfl | (simp [errW_none, errW_some] <;> rfl) | (simp [*, errW_none, errW_some] <;> rfl), by (with_reducible repeat (first | apply Kd.R_alloc | apply Kd.R_drewN | apply Kd.R_drew)); exact Kd.R_mono HO159.out (fun _ hk => trivial), by repeat (first | (with_reducible first | exact HB.out | apply below_alloc | apply pw_below_drewN | apply below_drew1) | exact HB.out)⟩
  · rw [if_neg c2] at H
    have c2b0 : decide (200 < (l0.length : Int)) = false := decide_eq_false c2
    have c2b1 : decide (200 < l0.length) = false := decide_eq_false (by omega)
    clear c2
    have H' := Aside0.mk H
    clear H
    go_enter Try.func61, Try.ntmps61
    go_wp2_with (first | ((with_reducible refine gate_dst (N := 7) rfl ?_); refine Kd.R_lit (Kd.int .i64) _ 3 ?hg (N := 7) ?hd (xs := ([] : List Int)) (inner := []) (ok := fun _ => True) (okp := fun _ => True) ?hr ?hp (fun _ hk => hk) trivial (Below.refl _ _) (Nat.le_refl _) (by simp) ?_; (case hd => rfl); (case hg => rfl); (case hr => first | (go_simp; done) | (go_simp; rfl)); (case hp => exact (Reps.none _ _)); intro v158 w7 ho8 hb hg_ hnew_; clear hg_ hnew_; (first | rw [← Ny157.out] at ho8 | (simp only [Int.reduceToNat] at ho8; rw [← Ny157.out] at ho8)); have n0_ := Aside0.mk (Kd.R_lower ho8 (below_size (by repeat (first | (with_reducible first | exact HB.out | apply below_alloc | apply pw_below_drewN | apply below_drew1) | exact HB.out)))); have n1_ := Aside0.mk (below_step (by repeat (first | (with_reducible first | exact HB.out | apply below_alloc | apply pw_below_drewN | apply below_drew1) | exact HB.out)) hb); clear HB; have HO159 := n0_; have HB := n1_; clear n0_ n1_; clear hb ho8) | ((with_reducible refine gate_dst (N := 8) rfl ?_); refine Kd.R_lit (Kd.int .i64) _ 3 ?hg (N := 8) ?hd (xs := ([] : List Int)) (inner := []) (ok := fun _ => True) (okp := fun _ => True) ?hr ?hp (fun _ hk => hk) trivial (Below.refl _ _) (Nat.le_refl _) (by simp) ?_; (case hd => rfl); (case hg => rfl); (case hr => first | (go_simp; done) | (go_simp; rfl)); (case hp => exact (Reps.none _ _)); intro v161 w9 ho10 hb hg_ hnew_; clear hg_ hnew_; (first | rw [← Ny160.out] at ho10 | (simp only [Int.reduceToNat] at ho10; rw [← Ny160.out] at ho10)); have n0_ := Aside0.mk (Kd.R_elder' (by (with_reducible repeat (first | apply Kd.R_alloc | apply Kd.R_drewN | apply Kd.R_drew)); exact HO159.out) (Kd.R_base ho10) hb); have n1_ := Aside0.mk (Kd.R_lower (Kd.R_new' ho10 (Kd.R_lt (by (with_reducible repeat (first | apply Kd.R_alloc | apply Kd.R_drewN | apply Kd.R_drew)); exact HO159.out))) (below_size (by repeat (first | (with_reducible first | exact HB.out | apply below_alloc | apply pw_below_drewN | apply below_drew1) | exact HB.out)))); have n2_ := Aside0.mk (below_step (by repeat (first | (with_reducible first | exact HB.out | apply below_alloc | apply pw_below_drewN | apply below_drew1) | exact HB.out)) hb); clear HO159; clear HB; have HO159 := n0_; have HO162 := n1_; have HB := n2_; clear n0_ n1_ n2_; clear hb ho10))
    go_loopg [3, 4, 5] k (fun kq v3 v4 v5 w' => ∃ (x3_1 : List Int) (x4_1 : List Int) (x5_1 : Int), v5 = .int .i64 x5_1 ∧ Aside0 (spec_Running.l0 kq l0 x3_1 x4_1 x5_1 = some r) ∧ Aside0 (kq ≤ k) ∧ Aside0 (Kd.R (Kd.int .i64) 3 w' w.heap.size (fun k_ => some k_ ≠ (v4 : Value).ownBlock) v3 x3_1) ∧ Aside0 (Kd.R (Kd.int .i64) 3 w' w.heap.size (fun k_ => some k_ ≠ (v3 : Value).ownBlock) v4 x4_1) ∧ Aside0 (Below w.heap.size w w'))
    case atStart => exact ⟨(y157), (y160), (wrap64 ((l0.length : Int) - 1)), (by first | rfl | (simp; done) | (simp [*]; done)), H', ⟨Nat.le_refl _⟩, ⟨by (with_reducible repeat (first | apply Kd.R_alloc | apply Kd.R_drewN | apply Kd.R_drew)); exact Kd.R_mono HO159.out (fun _ hk => hk.2)⟩, ⟨by (with_reducible repeat (first | apply Kd.R_alloc | apply Kd.R_drewN | apply Kd.R_drew)); exact Kd.R_mono HO162.out (fun _ hk => hk.2)⟩, ⟨by repeat (first | (with_reducible first | exact HB.out | apply below_alloc | apply pw_below_drewN | apply below_drew1) | exact HB.out)⟩⟩
    case round =>
      clear H'
      try clear c2
      try clear c2b0
      try clear c2b1
      try clear p2
      try clear c6
      try clear p6
      obtain ⟨x3_1, x4_1, x5_1, rfl, HA, HK1, HO_3, HO_4, HB⟩ := hrel
      cases gk with
      | zero => exact absurd HA.out (by simp [spec_Running.l0])
      | succ k1 =>
        have H := HA.out
        clear HA
        simp only [spec_Running.l0] at H
        by_cases c11 : x5_1 ≥ 0
        · rw [if_pos c11] at H
          have c11b0 : decide (0 ≤ x5_1) = true := decide_eq_true c11
          clear c11
          by_cases c12 : 0 ≤ x5_1
          · rw [if_pos c12] at H
            have c12b0 : decide (0 ≤ x5_1) = true := decide_eq_true c12
            clear c12
            by_cases c13 : x5_1 < (l0.length : Int)
            · rw [if_pos c13] at H
              have c13b0 : decide (x5_1 < (l0.length : Int)) = true := decide_eq_true c13
              clear c13
              by_cases c14 : ((rd_T46 l0 x5_1).f0) = 1
              · rw [if_pos c14] at H
                have c14b0 : (((rd_T46 l0 x5_1).f0) == 1) = true := beq_iff_eq.mpr c14
                have c14b1 : (((rd_T46 l0 x5_1).f0) != 1) = false := bne_eq_false_iff_eq.mpr c14
                clear c14
                by_cases c15 : x4_1.length < 17592186044416
                · rw [if_pos c15] at H
                  have LMc15 := Aside0.mk c15
                  clear c15
                  obtain ⟨y168, hy168⟩ : ∃ y_ : List Int, y_ = (x4_1 ++ [(rd_T46 l0 x5_1).f1]) := ⟨_, rfl⟩
                  replace H : (spec_Running.l0 k1 l0 x3_1 y168 (wrap64 (x5_1 - 1))) = some r := by first | (rw [hy168]; with_reducible exact H) | (have H2_ := (Option.bind_some _ _).symm.trans H; rw [hy168]; with_reducible exact H2_) | (have H2_ := (Option.bind_some _ _).symm.trans H; with_reducible exact H2_) | with_reducible exact H | (rw [hy168]; exact H) | exact H
                  have Ny168 := Aside0.mk hy168
                  clear hy168
                  have H' := Aside0.mk H
                  clear H
                  have p166 : 0 ≤ (x5_1 : Int) := of_decide_eq_true (by first | (with_reducible assumption) | assumption)
                  have q166 : x5_1 < (l0.length : Int) := of_decide_eq_true (by first | (with_reducible assumption) | assumption)
                  obtain ⟨ad166, e166, hx166_0, hx166_1⟩ := at_T46 HR0.out x5_1 p166 q166
                  cases e166
                  replace hx166_0 := (HB.out.cell (World.block_lt_of_cell? w _ hx166_0)).trans hx166_0
                  replace hx166_1 := (HB.out.cell (World.block_lt_of_cell? w _ hx166_1)).trans hx166_1
                  replace p166 := eq_true p166
                  replace q166 := eq_true q166
                  have p167 : 0 ≤ (x5_1 : Int) := of_decide_eq_true (by first | (with_reducible assumption) | assumption)
                  have q167 : x5_1 < (l0.length : Int) := of_decide_eq_true (by first | (with_reducible assumption) | assumption)
                  obtain ⟨ad167, e167, hx167_0, hx167_1⟩ := at_T46 HR0.out x5_1 p167 q167
                  obtain rfl : ad166 = ad167 := (by injection e167)
                  replace hx167_0 := (HB.out.cell (World.block_lt_of_cell? w _ hx167_0)).trans hx167_0
                  replace hx167_1 := (HB.out.cell (World.block_lt_of_cell? w _ hx167_1)).trans hx167_1
                  replace p167 := eq_true p167
                  replace q167 := eq_true q167
                  go_wp2_with (first | ((with_reducible refine gate_builtin (b := .append) (xs := #[.tmp 32, .tmp 34]) rfl ?_); at_builtin; refine Kd.R_append (Kd.int .i64) (w0 := w) w.heap.size rfl (.tmp 32) (.tmp 34) 41 3 (.int .i64 0) 8 rfl Try.underlying41 info3 rfl (by decide) (by omega) u4 x4_1 ((rd_T46 l0 x5_1).f1) [.int .i64 ((rd_T46 l0 x5_1).f1)] (fun k_ => some k_ ≠ (u3 : Value).ownBlock) (fun _ => False) rfl rfl ?aP (fun _ hk => hk.elim) ?aF ?aO ?aB ?aS ?aL ?_; (case aP => exact rfl); (case aB => exact (by repeat (first | (with_reducible first | exact HB.out | apply below_alloc | apply pw_below_drewN | apply below_drew1) | exact HB.out))); (case aF => exact (fun k_ hk => Kd.fresh' (Kd.R_lt (by (with_reducible repeat (first | apply Kd.R_alloc | apply Kd.R_drewN | apply Kd.R_drew)); exact HO_3.out)) k_ hk)); (case aO => exact (by (with_reducible repeat (first | apply Kd.R_alloc | apply Kd.R_drewN | apply Kd.R_drew)); exact HO_4.out)); (case aS => exact (below_size (by repeat (first | (with_reducible first | exact HB.out | apply below_alloc | apply pw_below_drewN | apply below_drew1) | exact HB.out)))); (case aL => have := LMc15.out; omega); intro v169 w16 ho hb hg hat; rw [← Ny168.out] at ho; have n0_ := Aside0.mk (Kd.R_after (ok := (fun _ => True)) (by (with_reducible repeat (first | apply Kd.R_alloc | apply Kd.R_drewN | apply Kd.R_drew)); exact Kd.R_mono HO_3.out (fun _ hk => ⟨trivial, hk⟩)) hg hat); have n1_ := Aside0.mk (hb); have n2_ := Aside0.mk (ho); clear HO_3; clear HB; clear HO_4; have HO_3 := n0_; have HB := n1_; have HO170 := n2_; clear n0_ n1_ n2_; clear ho hb hg hat))
                  go_roundg k1
                  case measure => have := HK1.out; omega
                  case rel => exact ⟨(x3_1), (y168), (wrap64 (x5_1 - 1)), (by first | rfl | (simp; done) | (simp [*]; done)), H', ⟨by have := HK1.out; omega⟩, ⟨by (with_reducible repeat (first | apply Kd.R_alloc | apply Kd.R_drewN | apply Kd.R_drew)); exact Kd.R_mono HO_3.out (fun _ hk => hk.2)⟩, ⟨by (with_reducible repeat (first | apply Kd.R_alloc | apply Kd.R_drewN | apply Kd.R_drew)); exact HO170.out⟩, ⟨by repeat (first | (with_reducible first | exact HB.out | apply below_alloc | apply pw_below_drewN | apply below_drew1) | exact HB.out)⟩⟩
                · rw [if_neg c15] at H
                  exact absurd H (by simp)
              · rw [if_neg c14] at H
                have c14b0 : (((rd_T46 l0 x5_1).f0) == 1) = false := beq_eq_false_iff_ne.mpr c14
                have c14b1 : (((rd_T46 l0 x5_1).f0) != 1) = true := bne_iff_ne.mpr c14
                by_cases c17 : ((rd_T46 l0 x5_1).f0) = 2
                · rw [if_pos c17] at H
                  have c17b0 : (((rd_T46 l0 x5_1).f0) == 2) = true := beq_iff_eq.mpr c17
                  have c17b1 : (((rd_T46 l0 x5_1).f0) != 2) = false := bne_eq_false_iff_eq.mpr c17
                  clear c17
                  replace H := Option.bind_eq_some_iff.mp H
                  obtain ⟨t171, A180, H⟩ := H
                  replace H : (if t171 < 0 then (if x3_1.length < 17592186044416 then (spec_Running.l0 k1 l0 (x3_1 ++ [(rd_T46 l0 x5_1).f1]) x4_1 (wrap64 (x5_1 - 1))) else (none)) else (spec_Running.l0 k1 l0 x3_1 x4_1 (wrap64 (x5_1 - 1)))) = some r := H
                  have A18 := Aside0.mk A180
                  clear A180
                  by_cases c19 : t171 < 0
                  · rw [if_pos c19] at H
                    have c19b0 : decide (t171 < 0) = true := decide_eq_true c19
                    clear c19
                    by_cases c20 : x3_1.length < 17592186044416
                    · rw [if_pos c20] at H
                      have LMc20 := Aside0.mk c20
                      clear c20
                      obtain ⟨y172, hy172⟩ : ∃ y_ : List Int, y_ = (x3_1 ++ [(rd_T46 l0 x5_1).f1]) := ⟨_, rfl⟩
                      replace H : (spec_Running.l0 k1 l0 y172 x4_1 (wrap64 (x5_1 - 1))) = some r := by first | (rw [hy172]; with_reducible exact H) | (have H2_ := (Option.bind_some _ _).symm.trans H; rw [hy172]; with_reducible exact H2_) | (have H2_ := (Option.bind_some _ _).symm.trans H; with_reducible exact H2_) | with_reducible exact H | (rw [hy172]; exact H) | exact H
                      have Ny172 := Aside0.mk hy172
                      clear hy172
                      have H' := Aside0.mk H
                      clear H
                      have p166 : 0 ≤ (x5_1 : Int) := of_decide_eq_true (by first | (with_reducible assumption) | assumption)
                      have q166 : x5_1 < (l0.length : Int) := of_decide_eq_true (by first | (with_reducible assumption) | assumption)
                      obtain ⟨ad166, e166, hx166_0, hx166_1⟩ := at_T46 HR0.out x5_1 p166 q166
                      cases e166
                      replace hx166_0 := (HB.out.cell (World.block_lt_of_cell? w _ hx166_0)).trans hx166_0
                      replace hx166_1 := (HB.out.cell (World.block_lt_of_cell? w _ hx166_1)).trans hx166_1
                      replace p166 := eq_true p166
                      replace q166 := eq_true q166
                      have p167 : 0 ≤ (x5_1 : Int) := of_decide_eq_true (by first | (with_reducible assumption) | assumption)
                      have q167 : x5_1 < (l0.length : Int) := of_decide_eq_true (by first | (with_reducible assumption) | assumption)
                      obtain ⟨ad167, e167, hx167_0, hx167_1⟩ := at_T46 HR0.out x5_1 p167 q167
                      obtain rfl : ad166 = ad167 := (by injection e167)
                      replace hx167_0 := (HB.out.cell (World.block_lt_of_cell? w _ hx167_0)).trans hx167_0
                      replace hx167_1 := (HB.out.cell (World.block_lt_of_cell? w _ hx167_1)).trans hx167_1
                      replace p167 := eq_true p167
                      replace q167 := eq_true q167
                      obtain ⟨Ao21, co21, eo21⟩ := Kd.R_slice HO_4.out
                      subst eo21
                      go_wp2_with (first | ((with_reducible refine gate_callee (f := 115) rfl ?_); refine goesL_ (some 40) rfl rfl Try.func115 (by kernel_rfl) rfl #[.slice Ao21 x4_1.length co21, .int .i64 ((rd_T46 l0 x5_1).f1)] rfl (by (try simp only [List.map_toArray, List.map_cons, List.map_nil]); first | done | rfl | (simp only [List.length_drop, List.length_take]; rfl)) ?_; (with_reducible refine (spec_l4At.calls k1 _ _ x4_1 ((rd_T46 l0 x5_1).f1) t171 _ ?side1 ?side2 A18.out).mono ?_); (case side1 => repeat (first | exact (Kd.R_reads' HO_4.out).2.2 | (with_reducible refine Kd.C_alloc ?_ _) | (with_reducible refine Kd.C_drewN ?_ _) | (with_reducible refine Kd.C_drew ?_))); (case side2 => exact (Kd.R_reads' HO_4.out).2.1); rintro e w' ⟨rfl, ⟨nd, rfl⟩⟩; refine ⟨_, rfl, ?_⟩) | ((with_reducible refine gate_builtin (b := .append) (xs := #[.tmp 42, .tmp 44]) rfl ?_); at_builtin; refine Kd.R_append (Kd.int .i64) (w0 := w) w.heap.size rfl (.tmp 42) (.tmp 44) 41 3 (.int .i64 0) 8 rfl Try.underlying41 info3 rfl (by decide) (by omega) u3 x3_1 ((rd_T46 l0 x5_1).f1) [.int .i64 ((rd_T46 l0 x5_1).f1)] (fun k_ => some k_ ≠ (.slice Ao21 x4_1.length co21 : Value).ownBlock) (fun _ => False) rfl rfl ?aP (fun _ hk => hk.elim) ?aF ?aO ?aB ?aS ?aL ?_; (case aP => exact rfl); (case aB => exact (by repeat (first | (with_reducible first | exact HB.out | apply below_alloc | apply pw_below_drewN | apply below_drew1) | exact HB.out))); (case aF => exact (fun k_ hk => Kd.fresh' (Kd.R_lt (by (with_reducible repeat (first | apply Kd.R_alloc | apply Kd.R_drewN | apply Kd.R_drew)); exact HO_4.out)) k_ hk)); (case aO => exact (by (with_reducible repeat (first | apply Kd.R_alloc | apply Kd.R_drewN | apply Kd.R_drew)); exact HO_3.out)); (case aS => exact (below_size (by repeat (first | (with_reducible first | exact HB.out | apply below_alloc | apply pw_below_drewN | apply below_drew1) | exact HB.out)))); (case aL => have := LMc20.out; omega); intro v173 w22 ho hb hg hat; rw [← Ny172.out] at ho; have n0_ := Aside0.mk (Kd.R_after (ok := (fun _ => True)) (by (with_reducible repeat (first | apply Kd.R_alloc | apply Kd.R_drewN | apply Kd.R_drew)); exact Kd.R_mono HO_4.out (fun _ hk => ⟨trivial, hk⟩)) hg hat); have n1_ := Aside0.mk (hb); have n2_ := Aside0.mk (ho); clear HO_4; clear HB; clear HO_3; have HO_4 := n0_; have HB := n1_; have HO174 := n2_; clear n0_ n1_ n2_; clear ho hb hg hat))
                      go_roundg k1
                      case measure => have := HK1.out; omega
                      case rel => exact ⟨(y172), (x4_1), (wrap64 (x5_1 - 1)), (by first | rfl | (simp; done) | (simp [*]; done)), H', ⟨by have := HK1.out; omega⟩, ⟨by (with_reducible repeat (first | apply Kd.R_alloc | apply Kd.R_drewN | apply Kd.R_drew)); exact HO174.out⟩, ⟨by (with_reducible repeat (first | apply Kd.R_alloc | apply Kd.R_drewN | apply Kd.R_drew)); exact Kd.R_mono HO_4.out (fun _ hk => hk.2)⟩, ⟨by repeat (first | (with_reducible first | exact HB.out | apply below_alloc | apply pw_below_drewN | apply below_drew1) | exact HB.out)⟩⟩
                    · rw [if_neg c20] at H
                      exact absurd H (by simp)
                  · rw [if_neg c19] at H
                    have c19b0 : decide (t171 < 0) = false := decide_eq_false c19
                    clear c19
                    have H' := Aside0.mk H
                    clear H
                    have p166 : 0 ≤ (x5_1 : Int) := of_decide_eq_true (by first | (with_reducible assumption) | assumption)
                    have q166 : x5_1 < (l0.length : Int) := of_decide_eq_true (by first | (with_reducible assumption) | assumption)
                    obtain ⟨ad166, e166, hx166_0, hx166_1⟩ := at_T46 HR0.out x5_1 p166 q166
                    cases e166
                    replace hx166_0 := (HB.out.cell (World.block_lt_of_cell? w _ hx166_0)).trans hx166_0
                    replace hx166_1 := (HB.out.cell (World.block_lt_of_cell? w _ hx166_1)).trans hx166_1
                    replace p166 := eq_true p166
                    replace q166 := eq_true q166
                    have p167 : 0 ≤ (x5_1 : Int) := of_decide_eq_true (by first | (with_reducible assumption) | assumption)
                    have q167 : x5_1 < (l0.length : Int) := of_decide_eq_true (by first | (with_reducible assumption) | assumption)
                    obtain ⟨ad167, e167, hx167_0, hx167_1⟩ := at_T46 HR0.out x5_1 p167 q167
                    obtain rfl : ad166 = ad167 := (by injection e167)
                    replace hx167_0 := (HB.out.cell (World.block_lt_of_cell? w _ hx167_0)).trans hx167_0
                    replace hx167_1 := (HB.out.cell (World.block_lt_of_cell? w _ hx167_1)).trans hx167_1
                    replace p167 := eq_true p167
                    replace q167 := eq_true q167
                    obtain ⟨Ao23, co23, eo23⟩ := Kd.R_slice HO_4.out
                    subst eo23
                    go_wp2_with (first | ((with_reducible refine gate_callee (f := 115) rfl ?_); refine goesL_ (some 40) rfl rfl Try.func115 (by kernel_rfl) rfl #[.slice Ao23 x4_1.length co23, .int .i64 ((rd_T46 l0 x5_1).f1)] rfl (by (try simp only [List.map_toArray, List.map_cons, List.map_nil]); first | done | rfl | (simp only [List.length_drop, List.length_take]; rfl)) ?_; (with_reducible refine (spec_l4At.calls k1 _ _ x4_1 ((rd_T46 l0 x5_1).f1) t171 _ ?side1 ?side2 A18.out).mono ?_); (case side1 => repeat (first | exact (Kd.R_reads' HO_4.out).2.2 | (with_reducible refine Kd.C_alloc ?_ _) | (with_reducible refine Kd.C_drewN ?_ _) | (with_reducible refine Kd.C_drew ?_))); (case side2 => exact (Kd.R_reads' HO_4.out).2.1); rintro e w' ⟨rfl, ⟨nd, rfl⟩⟩; refine ⟨_, rfl, ?_⟩))
                    go_roundg k1
                    case measure => have := HK1.out; omega
                    case rel => exact ⟨(x3_1), (x4_1), (wrap64 (x5_1 - 1)), (by first | rfl | (simp; done) | (simp [*]; done)), H', ⟨by have := HK1.out; omega⟩, ⟨by (with_reducible repeat (first | apply Kd.R_alloc | apply Kd.R_drewN | apply Kd.R_drew)); exact HO_3.out⟩, ⟨by (with_reducible repeat (first | apply Kd.R_alloc | apply Kd.R_drewN | apply Kd.R_drew)); exact HO_4.out⟩, ⟨by repeat (first | (with_reducible first | exact HB.out | apply below_alloc | apply pw_below_drewN | apply below_drew1) | exact HB.out)⟩⟩
                · rw [if_neg c17] at H
                  have c17b0 : (((rd_T46 l0 x5_1).f0) == 2) = false := beq_eq_false_iff_ne.mpr c17
                  have c17b1 : (((rd_T46 l0 x5_1).f0) != 2) = true := bne_iff_ne.mpr c17
                  have H' := Aside0.mk H
                  clear H
                  have p166 : 0 ≤ (x5_1 : Int) := of_decide_eq_true (by first | (with_reducible assumption) | assumption)
                  have q166 : x5_1 < (l0.length : Int) := of_decide_eq_true (by first | (with_reducible assumption) | assumption)
                  obtain ⟨ad166, e166, hx166_0, hx166_1⟩ := at_T46 HR0.out x5_1 p166 q166
                  cases e166
                  replace hx166_0 := (HB.out.cell (World.block_lt_of_cell? w _ hx166_0)).trans hx166_0
                  replace hx166_1 := (HB.out.cell (World.block_lt_of_cell? w _ hx166_1)).trans hx166_1
                  replace p166 := eq_true p166
                  replace q166 := eq_true q166
                  have p167 : 0 ≤ (x5_1 : Int) := of_decide_eq_true (by first | (with_reducible assumption) | assumption)
                  have q167 : x5_1 < (l0.length : Int) := of_decide_eq_true (by first | (with_reducible assumption) | assumption)
                  obtain ⟨ad167, e167, hx167_0, hx167_1⟩ := at_T46 HR0.out x5_1 p167 q167
                  obtain rfl : ad166 = ad167 := (by injection e167)
                  replace hx167_0 := (HB.out.cell (World.block_lt_of_cell? w _ hx167_0)).trans hx167_0
                  replace hx167_1 := (HB.out.cell (World.block_lt_of_cell? w _ hx167_1)).trans hx167_1
                  replace p167 := eq_true p167
                  replace q167 := eq_true q167
                  go_wp2
                  go_roundg k1
                  case measure => have := HK1.out; omega
                  case rel => exact ⟨(x3_1), (x4_1), (wrap64 (x5_1 - 1)), (by first | rfl | (simp; done) | (simp [*]; done)), H', ⟨by have := HK1.out; omega⟩, ⟨by (with_reducible repeat (first | apply Kd.R_alloc | apply Kd.R_drewN | apply Kd.R_drew)); exact HO_3.out⟩, ⟨by (with_reducible repeat (first | apply Kd.R_alloc | apply Kd.R_drewN | apply Kd.R_drew)); exact HO_4.out⟩, ⟨by repeat (first | (with_reducible first | exact HB.out | apply below_alloc | apply pw_below_drewN | apply below_drew1) | exact HB.out)⟩⟩
            · rw [if_neg c13] at H
              exact absurd H (by simp)
          · rw [if_neg c12] at H
            exact absurd H (by simp)
        · rw [if_neg c11] at H
          have c11b0 : decide (0 ≤ x5_1) = false := decide_eq_false c11
          clear c11
          replace H := Option.bind_eq_some_iff.mp H
          obtain ⟨t163, A240, H⟩ := H
          replace H : (some t163) = some r := H
          have A24 := Aside0.mk A240
          clear A240
          obtain rfl := Option.some.inj H
          obtain ⟨Ao25, co25, eo25⟩ := Kd.R_slice HO_3.out
          subst eo25
          go_wp2_with (first | ((with_reducible refine gate_callee (f := 116) rfl ?_); refine goesL_ (some 47) rfl rfl Try.func116 (by kernel_rfl) rfl #[.slice Ao25 x3_1.length co25] rfl (by (try simp only [List.map_toArray, List.map_cons, List.map_nil]); first | done | rfl | (simp only [List.length_drop, List.length_take]; rfl)) ?_; (with_reducible refine (spec_l10Sorted.calls k1 _ _ x3_1 t163 _ ?side1 ?side2 A24.out).mono ?_); (case side1 => repeat (first | exact (Kd.R_reads' HO_3.out).2.2 | (with_reducible refine Kd.C_alloc ?_ _) | (with_reducible refine Kd.C_drewN ?_ _) | (with_reducible refine Kd.C_drew ?_))); (case side2 => exact (Kd.R_reads' HO_3.out).2.1); rintro e w26 ⟨v164, rfl, ho0, hb⟩; refine ⟨_, rfl, ?_⟩; have n0_ := Aside0.mk (Kd.R_elder' (by (with_reducible repeat (first | apply Kd.R_alloc | apply Kd.R_drewN | apply Kd.R_drew)); exact HO_3.out) (Kd.R_base ho0) hb); have n1_ := Aside0.mk (Kd.R_elder' (by (with_reducible repeat (first | apply Kd.R_alloc | apply Kd.R_drewN | apply Kd.R_drew)); exact HO_4.out) (Kd.R_base ho0) hb); have n2_ := Aside0.mk (Kd.R_lower (Kd.R_new' (Kd.R_new' ho0 (Kd.R_lt (by (with_reducible repeat (first | apply Kd.R_alloc | apply Kd.R_drewN | apply Kd.R_drew)); exact HO_3.out))) (Kd.R_lt (by (with_reducible repeat (first | apply Kd.R_alloc | apply Kd.R_drewN | apply Kd.R_drew)); exact HO_4.out))) (below_size (by repeat (first | (with_reducible first | exact HB.out | apply below_alloc | apply pw_below_drewN | apply below_drew1) | exact HB.out)))); have n3_ := Aside0.mk (below_step (by repeat (first | (with_reducible first | exact HB.out | apply below_alloc | apply pw_below_drewN | apply below_drew1) | exact HB.out)) hb); clear HO_3; clear HO_4; clear HB; have HO_3 := n0_; have HO_4 := n1_; have HO165 := n2_; have HB := n3_; clear n0_ n1_ n2_ n3_; (try clear hb); (try clear hb2); (try clear hk); (try clear hi); (try clear ho0)))
          go_ret
          exact ⟨_, by first | rfl | (simp [errW_none, errW_some] <;> rfl) | (simp [*, errW_none, errW_some] <;> rfl), by (with_reducible repeat (first | apply Kd.R_alloc | apply Kd.R_drewN | apply Kd.R_drew)); exact Kd.R_mono HO165.out (fun _ hk => trivial), by repeat (first | (with_reducible first | exact HB.out | apply below_alloc | apply pw_below_drewN | apply below_drew1) | exact HB.out)⟩

-- NOT PRINTED: function 154 (slices_IndexFunc_int_int)

-- NOT PRINTED: function 117 (slices_DeleteFunc_int_int)

-- NOT PRINTED: function 118 (impl_Running_1)

/-! ### impl_ascending: function 119 -/
def lays189_ren : Go.Shelf.Ren := ⟨fun | 189 => 155 | 125 => 179 | 257 => 178 | 128 => 196 | 129 => 197 | 294 => 187 | 295 => 188 | 296 => 189 | 297 => 190 | 298 => 191 | 299 => 192 | 216 => 193 | 300 => 194 | 301 => 195 | 328 => 199 | 329 => 200 | 330 => 201 | 331 => 202 | 332 => 203 | 215 => 204 | 343 => 205 | n => n, fun | 28 => 41 | 3 => 3 | 46 => 200 | 0 => 0 | 51 => 220 | 53 => 222 | 4 => 4 | 183 => 213 | 182 => 212 | 131 => 160 | 5 => 5 | 9 => 9 | 218 => 224 | 222 => 228 | 228 => 230 | 229 => 231 | n => n, fun | n => n⟩
theorem lays189 : Go.Proofs.Lays.n189 Try.prog lays189_ren := {
  mixed := by kernel_rfl,
  f125 := Try.func179.trans (congrArg some (by kernel_rfl)),
  f128 := Try.func196.trans (congrArg some (by kernel_rfl)),
  f129 := Try.func197.trans (congrArg some (by kernel_rfl)),
  f189 := Try.func155.trans (congrArg some (by kernel_rfl)),
  f215 := Try.func204.trans (congrArg some (by kernel_rfl)),
  f216 := Try.func193.trans (congrArg some (by kernel_rfl)),
  f257 := Try.func178.trans (congrArg some (by kernel_rfl)),
  f294 := Try.func187.trans (congrArg some (by kernel_rfl)),
  f295 := Try.func188.trans (congrArg some (by kernel_rfl)),
  f296 := Try.func189.trans (congrArg some (by kernel_rfl)),
  f297 := Try.func190.trans (congrArg some (by kernel_rfl)),
  f298 := Try.func191.trans (congrArg some (by kernel_rfl)),
  f299 := Try.func192.trans (congrArg some (by kernel_rfl)),
  f300 := Try.func194.trans (congrArg some (by kernel_rfl)),
  f301 := Try.func195.trans (congrArg some (by kernel_rfl)),
  f328 := Try.func199.trans (congrArg some (by kernel_rfl)),
  f329 := Try.func200.trans (congrArg some (by kernel_rfl)),
  f330 := Try.func201.trans (congrArg some (by kernel_rfl)),
  f331 := Try.func202.trans (congrArg some (by kernel_rfl)),
  f332 := Try.func203.trans (congrArg some (by kernel_rfl)),
  f343 := Try.func205.trans (congrArg some (by kernel_rfl)),
  t0 := Try.underlying0,
  a0 := Try.isAgg0,
  z0 := Try.sizeOf0,
  v0 := Try.zeroValue0,
  t3 := Try.underlying3,
  a3 := Try.isAgg3,
  z3 := Try.sizeOf3,
  v3 := Try.zeroValue3,
  t4 := Try.underlying4,
  a4 := Try.isAgg4,
  z4 := Try.sizeOf4,
  v4 := Try.zeroValue4,
  t5 := Try.underlying5,
  a5 := Try.isAgg5,
  z5 := Try.sizeOf5,
  v5 := Try.zeroValue5,
  t9 := Try.underlying9,
  a9 := Try.isAgg9,
  z9 := Try.sizeOf9,
  v9 := Try.zeroValue9,
  t28 := Try.underlying41,
  a28 := Try.isAgg41,
  z28 := Try.sizeOf41,
  v28 := Try.zeroValue41,
  t46 := Try.underlying200,
  a46 := Try.isAgg200,
  z46 := Try.sizeOf200,
  v46 := Try.zeroValue200,
  t51 := Try.underlying220,
  a51 := Try.isAgg220,
  z51 := Try.sizeOf220,
  v51 := Try.zeroValue220,
  t53 := Try.underlying222,
  a53 := Try.isAgg222,
  z53 := Try.sizeOf222,
  v53 := Try.zeroValue222,
  t131 := Try.underlying160,
  a131 := Try.isAgg160,
  z131 := Try.sizeOf160,
  v131 := Try.zeroValue160,
  t182 := Try.underlying212,
  a182 := Try.isAgg212,
  z182 := Try.sizeOf212,
  v182 := Try.zeroValue212,
  t183 := Try.underlying213,
  a183 := Try.isAgg213,
  z183 := Try.sizeOf213,
  v183 := Try.zeroValue213,
  t218 := Try.underlying224,
  a218 := Try.isAgg224,
  z218 := Try.sizeOf224,
  v218 := Try.zeroValue224,
  t222 := Try.underlying228,
  a222 := Try.isAgg228,
  z222 := Try.sizeOf228,
  v222 := Try.zeroValue228,
  t228 := Try.underlying230,
  a228 := Try.isAgg230,
  z228 := Try.sizeOf230,
  v228 := Try.zeroValue230,
  t229 := Try.underlying231,
  a229 := Try.isAgg231,
  z229 := Try.sizeOf231,
  v229 := Try.zeroValue231 }

def lays2_20_ren : Go.Shelf.Ren := ⟨fun | 20 => 156 | n => n, fun | 22 => 41 | 3 => 3 | 4 => 4 | 0 => 0 | n => n, fun | n => n⟩
theorem lays2_20 : Go.Proofs.Lays2.n20 Try.prog lays2_20_ren := {
  mixed := by kernel_rfl,
  f20 := Try.func156.trans (congrArg some (by kernel_rfl)),
  t0 := Try.underlying0,
  a0 := Try.isAgg0,
  z0 := Try.sizeOf0,
  v0 := Try.zeroValue0,
  t3 := Try.underlying3,
  a3 := Try.isAgg3,
  z3 := Try.sizeOf3,
  v3 := Try.zeroValue3,
  t4 := Try.underlying4,
  a4 := Try.isAgg4,
  z4 := Try.sizeOf4,
  v4 := Try.zeroValue4,
  t22 := Try.underlying41,
  a22 := Try.isAgg41,
  z22 := Try.sizeOf41,
  v22 := Try.zeroValue41,
  i3 := by kernel_rfl }

theorem int_put {e g cap n : Nat} {w w2 : World} {base : Nat} {ok : Nat → Prop} {l l2 : List Int} (h : Kd.R (Kd.int .i64) e w base ok (.slice (some ⟨g, 0, none⟩) n cap) l) (cur2 : Array Value) (hb : w2.heap[g]? = some (.cells cur2 e (0, 0))) (hs : cur2.size = cap) (hl : l2.length ≤ n) (ht : cur2.toList.take l2.length = l2.map (Value.int .i64)) : Kd.R (Kd.int .i64) e w2 base ok (.slice (some ⟨g, 0, none⟩) l2.length cap) l2 := by
  obtain ⟨h0, inner, ⟨_, ho⟩, _⟩ := h
  have hsz : (Kd.int .i64).sz = 1 := rfl
  refine ⟨fun k hk => h0 k hk, l2.map (Value.int .i64), ⟨by rw [List.length_map, hsz, Nat.mul_one], .inr ?_⟩, ⟨by rw [List.length_map, hsz, Nat.mul_one], fun j p hp => ?_⟩⟩
  · rcases ho with ⟨hv, _⟩ | ⟨g', cap', cur, hv, hbase, hheap, hn, hm, hz, _⟩
    · cases hv
    · injection hv with h1 h2 h3
      injection h1 with h1
      injection h1 with h1
      subst h1; subst h3
      exact ⟨g, cap, cur2, rfl, hbase, hb, by omega, hm, by rw [hsz, Nat.mul_one]; exact hs, by rw [hsz, Nat.mul_one]; exact ht⟩
  · rw [hsz, Nat.mul_one]
    have hj : j < l2.length := (List.getElem?_eq_some_iff.1 hp).1
    have e1 : ((l2.map (Value.int .i64)).drop j).take 1 = [Value.int .i64 p] := by
      rw [List.drop_eq_getElem_cons (by simpa using hj)]
      simp only [List.take_succ_cons, List.take_zero, List.getElem_map]
      rw [(List.getElem?_eq_some_iff.1 hp).2]
    rw [e1]
    rfl
theorem putCells_take (l2 : List Int) (d : Array Int) (cur : Array Value) (m : Nat) (hm : m ≤ d.size) (hc : d.size ≤ cur.size) (hd : d.toList.take m = l2) : (Sort.putCells (Value.int .i64) 0 d cur).toList.take m = l2.map (Value.int .i64) := by
  subst hd
  apply List.ext_getElem?
  intro j
  rw [List.getElem?_take]
  by_cases hj : j < m
  · rw [if_pos hj, List.getElem?_map, List.getElem?_take, if_pos hj]
    have h1 : (Sort.putCells (Value.int .i64) 0 d cur)[j]? = some (.int .i64 (d[j]'(by omega))) := by
      unfold Sort.putCells
      rw [Array.getElem?_mapIdx, Array.getElem?_eq_getElem (by omega)]
      simp only [Option.map_some]
      rw [if_pos (by omega)]
      simp [Nat.sub_zero, getElem!_pos d j (by omega)]
    rw [Array.getElem?_toList, h1, Array.getElem?_toList, Array.getElem?_eq_getElem (by omega)]
    rfl
  · rw [if_neg hj, List.getElem?_map, List.getElem?_take, if_neg hj]
    rfl
theorem putRow_block {w : World} {g e : Nat} {cur : Array Value} (d : Array Int) (h : w.heap[g]? = some (.cells cur e (0, 0))) : (Sort.putRow (Value.int .i64) w g 0 d).heap[g]? = some (.cells (Sort.putCells (Value.int .i64) 0 d cur) e (0, 0)) := by
  unfold Sort.putRow Sort.mapBlock
  simp [Array.getElem?_modify, h, Sort.onCells]
theorem putRow_else {w : World} {g k : Nat} (d : Array Int) (h : k ≠ g) : (Sort.putRow (Value.int .i64) w g 0 d).heap[k]? = w.heap[k]? := by
  unfold Sort.putRow Sort.mapBlock
  simp [Array.getElem?_modify, Ne.symm h]
theorem grow_block (w : World) (os : Array Obj) {k : Nat} (h : k < w.heap.size) : (Sort.grow w os).heap[k]? = w.heap[k]? := by
  unfold Sort.grow
  exact Array.getElem?_append_left h
def ascL (l : List Int) : List Int := Lib.compact (l.mergeSort fun x y => decide (x ≤ y))
theorem compact_len (l : List Int) : (Lib.compact l).length ≤ l.length := by
  unfold Lib.compact Lib.compactUpTo
  rw [List.length_map]
  exact Nat.le_trans (List.length_filter_le _ _) (by simp)
theorem asc_len (l : List Int) : (ascL l).length ≤ l.length := by
  have := compact_len (l.mergeSort fun x y => decide (x ≤ y))
  rw [List.length_mergeSort] at this
  exact this
def impl_ascending.f (l0 : List Int) : Option (List Int) := if l0.length < 4611686018427387904 then some (ascL l0) else none
set_option maxHeartbeats 4000000 in
theorem impl_ascending.calls (P0_ : Nat → Prop) (u9000_ : Value) (l0 : List Int) (r : List Int) (w0 w : World) (hB : Below w0.heap.size w0 w) (ho0 : Kd.R (Kd.int .i64) 3 w w0.heap.size P0_ u9000_ l0) (h : impl_ascending.f l0 = some r) :
    Calls Try.prog 119 #[u9000_] w fun e w' => ∃ v0_ : Value, e = .returned (v0_) ∧ Kd.R (Kd.int .i64) 3 w' w0.heap.size (fun k_ => (P0_ k_ ∨ w.heap.size ≤ k_)) v0_ r ∧ Below w0.heap.size w0 w' ∧ Kept w w' (fun k_ => P0_ k_) := by
  unfold impl_ascending.f at h
  by_cases hlen : l0.length < 4611686018427387904
  · rw [if_pos hlen] at h
    obtain rfl := Option.some.inj h
    by_cases hz : l0 = []
    · subst hz
      obtain ⟨A, c, rfl⟩ := Kd.R_slice ho0
      have hs := fun W => Any.slices_Sort_int_none lays189 A c W
      have hc := fun W => Any.slices_Compact_int_empty lays2_20 A c W
      change ∀ W, Calls Try.prog 155 _ _ _ at hs
      change ∀ W, Calls Try.prog 156 _ _ _ at hc
      have HR := Aside0.mk ho0
      have HB := Aside0.mk hB
      clear ho0 hB
      go_enter Try.func119, Try.ntmps119
      go_wp2_with (first | (go_at_call 155; refine (hs _).mono ?_; rintro e w' ⟨rfl, rfl⟩) | (go_at_call 156; refine (hc _).mono ?_; rintro e w' ⟨rfl, rfl⟩))
      go_ret
      have e0 : ascL [] = [] := by simp [ascL, Lib.compact, Lib.compactUpTo]
      rw [e0]
      exact ⟨_, rfl, Kd.R_mono HR.out (fun k hk => .inl hk), HB.out, Kept.refl _ _⟩
    · obtain ⟨g, cap, rfl, hg0, hg1, cells, hcells⟩ := Kd.R_form ho0 (List.length_pos_iff.2 hz)
      obtain ⟨_, hcap, hC⟩ := Kd.R_reads' ho0
      have hP : P0_ g := ho0.1 g rfl
      have hcs : cells.size = cap := by
        obtain ⟨_, inner, ⟨_, ho⟩, _⟩ := ho0
        rcases ho with ⟨hv, _⟩ | ⟨g', cap', cur, hv, hbase, hheap, hn, hm, hz, _⟩
        · cases hv
        · injection hv with h1 h2 h3
          injection h1 with h1
          injection h1 with h1
          subst h1; subst h3
          rw [hcells] at hheap
          injection hheap with hheap
          injection hheap with h4
          rw [h4]
          have h5 : (Kd.int .i64).sz = 1 := rfl
          rw [h5, Nat.mul_one] at hz
          exact hz
      have hH : Sort.Holds (Value.int .i64) w g 0 l0.toArray := by
        intro j hj
        have hj' : j < l0.length := by simpa using hj
        obtain ⟨ad, ead, hx⟩ := Kd.at_int hC (j : Int) (by omega) (by omega)
        cases ead
        refine ⟨?_, blk_frozen hcells _⟩
        have e1 : rd l0 (j : Int) = l0.toArray[j]! := by
          unfold rd
          rw [Int.toNat_natCast, List.getD_eq_getElem?_getD, List.getElem?_eq_getElem hj', getElem!_pos l0.toArray j hj]
          simp
        rw [e1] at hx
        rw [← hx]
        congr 1
        by_cases hj0 : j = 0 <;> simp [Addr.add, hj0]
      obtain ⟨s, hs⟩ : ∃ s, s = l0.mergeSort fun x y => decide (x ≤ y) := ⟨_, rfl⟩
      have hsl : s.length = l0.length := by rw [hs, List.length_mergeSort]
      have hsort := fun W hH hb => Any.slices_Sort_int lays189 g 0 cap l0 W hH hb hlen
      change ∀ W, _ → _ → Calls Try.prog 155 _ _ _ at hsort
      rw [← hs] at hsort
      have hcomp := fun W hH => Any.slices_Compact_int lays2_20 g 0 cap s W hH (by omega) (by omega)
      change ∀ W, _ → Calls Try.prog 156 _ _ _ at hcomp
      rw [hsl] at hcomp
      have hH1 : ∀ n os, Sort.Holds (Value.int .i64) (Sort.grow (Sort.putRow (Value.int .i64) (Sort.ahead w n) g 0 s.toArray) os) g 0 s.toArray := by
        intro n os j hj
        have h1 := Sort.holds_putRow (Value.int .i64) (Sort.ahead w n) g 0 l0.toArray s.toArray (Sort.holds_ahead (Value.int .i64) w n g 0 l0.toArray hH) (by simpa using hsl) j hj
        have hb1 : (Sort.grow (Sort.putRow (Value.int .i64) (Sort.ahead w n) g 0 s.toArray) os).heap[g]? = some (.cells (Sort.putCells (Value.int .i64) 0 s.toArray cells) 3 (0, 0)) := by
          rw [grow_block _ _ (by simpa [Sort.ahead] using hg1)]
          exact putRow_block _ hcells
        refine ⟨?_, blk_frozen hb1 _⟩
        have hb2 : (Sort.putRow (Value.int .i64) (Sort.ahead w n) g 0 s.toArray).heap[g]? = some (.cells (Sort.putCells (Value.int .i64) 0 s.toArray cells) 3 (0, 0)) := putRow_block _ hcells
        rw [blk_cell hb1, ← blk_cell hb2]
        exact h1.1
      have HEND : Aside0 (∀ n os q, ∃ v0_ : Value, Ending.returned (Value.slice (some ⟨g, 0, none⟩) (Lib.compact s).length cap) = .returned v0_ ∧ Kd.R (Kd.int .i64) 3 (Sort.putRow (Value.int .i64) (Sort.ahead (Sort.grow (Sort.putRow (Value.int .i64) (Sort.ahead w n) g 0 s.toArray) os) q) g 0 (Lib.compact s ++ List.replicate (l0.length - (Lib.compact s).length) 0).toArray) w0.heap.size (fun k_ => (P0_ k_ ∨ w.heap.size ≤ k_)) v0_ (ascL l0) ∧ Below w0.heap.size w0 (Sort.putRow (Value.int .i64) (Sort.ahead (Sort.grow (Sort.putRow (Value.int .i64) (Sort.ahead w n) g 0 s.toArray) os) q) g 0 (Lib.compact s ++ List.replicate (l0.length - (Lib.compact s).length) 0).toArray) ∧ Kept w (Sort.putRow (Value.int .i64) (Sort.ahead (Sort.grow (Sort.putRow (Value.int .i64) (Sort.ahead w n) g 0 s.toArray) os) q) g 0 (Lib.compact s ++ List.replicate (l0.length - (Lib.compact s).length) 0).toArray) (fun k_ => P0_ k_)) := by
        rw [← hsl]
        refine ⟨fun n os q => ?_⟩
        have hcl := compact_len s
        have hb1 : (Sort.grow (Sort.putRow (Value.int .i64) (Sort.ahead w n) g 0 s.toArray) os).heap[g]? = some (.cells (Sort.putCells (Value.int .i64) 0 s.toArray cells) 3 (0, 0)) := by
          rw [grow_block _ _ (by simpa [Sort.ahead] using hg1)]
          exact putRow_block _ hcells
        have hb2 := putRow_block (w := Sort.ahead (Sort.grow (Sort.putRow (Value.int .i64) (Sort.ahead w n) g 0 s.toArray) os) q) (Lib.compact s ++ List.replicate (s.length - (Lib.compact s).length) 0).toArray hb1
        have hsz1 : ∀ d : Array Int, ∀ c : Array Value, (Sort.putCells (Value.int .i64) 0 d c).size = c.size := fun d c => by simp [Sort.putCells]
        have hka : ∀ k, k < w.heap.size → k ≠ g → (Sort.putRow (Value.int .i64) (Sort.ahead (Sort.grow (Sort.putRow (Value.int .i64) (Sort.ahead w n) g 0 s.toArray) os) q) g 0 (Lib.compact s ++ List.replicate (s.length - (Lib.compact s).length) 0).toArray).heap[k]? = w.heap[k]? := by
          intro k hk hne
          rw [putRow_else _ hne]
          show (Sort.grow _ os).heap[k]? = _
          rw [grow_block _ _ (by simpa [Sort.ahead] using hk), putRow_else _ hne]
          rfl
        have hsz : w.heap.size ≤ (Sort.putRow (Value.int .i64) (Sort.ahead (Sort.grow (Sort.putRow (Value.int .i64) (Sort.ahead w n) g 0 s.toArray) os) q) g 0 (Lib.compact s ++ List.replicate (s.length - (Lib.compact s).length) 0).toArray).heap.size := by
          simp [Sort.ahead, Sort.grow]
        refine ⟨_, rfl, ?_, ⟨hB.os, hB.tape, hB.output, Nat.le_trans hB.size hsz, fun k hk => ?_⟩, ⟨hsz, fun k hk hn => hka k hk (fun e => hn (e ▸ hP))⟩⟩
        · have e1 : ascL l0 = Lib.compact s := by rw [hs]; rfl
          rw [e1]
          refine Kd.R_mono (int_put ho0 _ hb2 (by rw [hsz1, hsz1, hcs]) (by omega) ?_) (fun k hk => .inl hk)
          refine putCells_take _ _ _ _ (by simp) (by rw [hsz1]; simp; omega) ?_
          simp
        · rw [hka k (by have := hB.size; omega) (by omega)]
          exact hB.block k hk
      have HH := Aside0.mk hH
      have HH1 := Aside0.mk hH1
      have HG := Aside0.mk hg1
      clear ho0 hB hC hH1 hH hg1 hg0 hcells hP hcs hs hsl hlen hz hcap
      go_enter Try.func119, Try.ntmps119
      go_wp2_with (first | (go_at_call 155; refine (hsort _ HH.out HG.out).mono ?_; rintro e w' ⟨rfl, n, os, rfl⟩) | (go_at_call 156; refine (hcomp _ (HH1.out _ _)).mono ?_; rintro e w' ⟨rfl, q, rfl⟩))
      go_ret
      exact HEND.out _ _ _
  · rw [if_neg hlen] at h
    cases h

/-! ### impl_Running: function 62 -/
def laysH_10_ren : Go.Shelf.Ren := ⟨fun | 10 => 117 | 6 => 154 | n => n, fun | 22 => 41 | 23 => 3 | 25 => 158 | 3 => 3 | 4 => 4 | 0 => 0 | n => n, fun | n => n⟩
theorem laysH_10 : Go.Proofs.SlLaysH.n10 Try.prog laysH_10_ren := {
  mixed := by kernel_rfl,
  f6 := ⟨"slices.IndexFunc[[]int,int]", by decide, Try.func154.trans (congrArg some (by kernel_rfl))⟩,
  f10 := ⟨"slices.DeleteFunc[[]int,int]", by decide, Try.func117.trans (congrArg some (by kernel_rfl))⟩,
  t0 := Try.underlying0,
  a0 := Try.isAgg0,
  z0 := Try.sizeOf0,
  v0 := Try.zeroValue0,
  t3 := Try.underlying3,
  a3 := Try.isAgg3,
  z3 := Try.sizeOf3,
  v3 := Try.zeroValue3,
  t4 := Try.underlying4,
  a4 := Try.isAgg4,
  z4 := Try.sizeOf4,
  v4 := Try.zeroValue4,
  t22 := Try.underlying41,
  a22 := Try.isAgg41,
  z22 := Try.sizeOf41,
  v22 := Try.zeroValue41,
  a23 := Try.isAgg3,
  z23 := Try.sizeOf3,
  t25 := Try.underlying158,
  a25 := Try.isAgg158,
  z25 := Try.sizeOf158,
  v25 := Try.zeroValue158 }

theorem enterR {P : Program} {f : FuncId} {fn : Func} {c : Code} (hf : P.funcs[f]? = some fn) (hname : (fn.name == "runtime.NumGoroutine") = false) (hb : fn.body = some c) (args : Array Value) (w : World) : (callFunc f args).run P w = .ok (.enter f args) w := by
  have h1 : fn.name ≠ "runtime.NumGoroutine" := by simpa using hname
  simp [callFunc, hf, h1, hb, mark]
theorem eRun1 : ∀ args w, (callFunc 118 args).run Try.prog w = .ok (.enter 118 args) w := enterR Try.func118 (by kernel_rfl) rfl
theorem givesRun (task x : Int) (B : Nat) (W : World) (hc : W.cell? ⟨B, 1, none⟩ = some (.int .i64 task)) :
    FnGives Try.prog 118 #[.pointer (some ⟨B, 0, none⟩)] #[.int .i64 x] (.bool (x == task)) W := by
  show Calls Try.prog 118 #[.int .i64 x, .pointer (some ⟨B, 0, none⟩)] W _
  go_enter Try.func118, Try.ntmps118
  go_wp2
  go_ret
  exact ⟨rfl, 0, rfl⟩
def delL (task : Int) (l : List Int) : List Int := l.filter fun x => !(x == task)
theorem del_len (task : Int) (l : List Int) : (delL task l).length ≤ l.length := List.length_filter_le _ _
set_option maxHeartbeats 4000000 in
theorem delF.calls (task : Int) (B : Nat) (ok : Nat → Prop) (v : Value) (l : List Int) (w0 w : World) (hB : Below w0.heap.size w0 w) (ho : Kd.R (Kd.int .i64) 3 w w0.heap.size ok v l) (hlen : l.length ≤ 100000) (hc : w.cell? ⟨B, 1, none⟩ = some (.int .i64 task)) (hne : some B ≠ v.ownBlock) :
    Calls Try.prog 117 #[v, .func (.func 118) #[] #[.pointer (some ⟨B, 0, none⟩)]] w fun e w' => ∃ v' : Value, e = .returned v' ∧ Kd.R (Kd.int .i64) 3 w' w0.heap.size ok v' (delL task l) ∧ Below w0.heap.size w0 w' := by
  have hBlt : B < w.heap.size := World.block_lt_of_cell? w ⟨B, 1, none⟩ hc
  by_cases hz : l = []
  · subst hz
    obtain ⟨A, c, rfl⟩ := Kd.R_slice ho
    have HR := Aside0.mk ho
    have HB := Aside0.mk hB
    clear ho hB
    have hi := fun W => AnyE.slices_IndexFunc_empty (P := Try.prog) (ρ := laysH_10_ren) { laysH_10 with } A c (.func (.func 118) #[] #[.pointer (some ⟨B, 0, none⟩)]) W
    change ∀ W, Calls Try.prog 154 _ _ _ at hi
    clear hc
    go_enter Try.func117, Try.ntmps117
    go_wp2_with (go_at_call 154; refine (hi _).mono ?_; rintro e w' ⟨rfl, rfl⟩)
    go_ret
    exact ⟨_, rfl, HR.out, HB.out⟩
  · obtain ⟨g, cap, rfl, hg0, hg1, cells, hcells⟩ := Kd.R_form ho (List.length_pos_iff.2 hz)
    obtain ⟨_, hcap, hC⟩ := Kd.R_reads' ho
    have hcs : cells.size = cap := by
      obtain ⟨_, inner, ⟨_, ho⟩, _⟩ := ho
      rcases ho with ⟨hv, _⟩ | ⟨g', cap', cur, hv, hbase, hheap, hn, hm, hz, _⟩
      · cases hv
      · injection hv with h1 h2 h3
        injection h1 with h1
        injection h1 with h1
        subst h1; subst h3
        rw [hcells] at hheap
        injection hheap with hheap
        injection hheap with h4
        rw [h4]
        have h5 : (Kd.int .i64).sz = 1 := rfl
        rw [h5, Nat.mul_one] at hz
        exact hz
    have hH : Sort.Holds (Value.int .i64) w g 0 l.toArray := by
      intro j hj
      have hj' : j < l.length := by simpa using hj
      obtain ⟨ad, ead, hx⟩ := Kd.at_int hC (j : Int) (by omega) (by omega)
      cases ead
      refine ⟨?_, blk_frozen hcells _⟩
      have e1 : rd l (j : Int) = l.toArray[j]! := by
        unfold rd
        rw [Int.toNat_natCast, List.getD_eq_getElem?_getD, List.getElem?_eq_getElem hj', getElem!_pos l.toArray j hj]
        simp
      rw [e1] at hx
      rw [← hx]
      congr 1
      by_cases hj0 : j = 0 <;> simp [Addr.add, hj0]
    have hBg : B ≠ g := fun e => hne (by rw [e]; rfl)
    have hcon := AnyE.slices_DeleteFunc laysH_10 (Value.int .i64) (fun _ => rfl) (fun x => x == task) 118 #[.pointer (some ⟨B, 0, none⟩)] eRun1 0 (fun w => laysH_10.v3 w) g 0 cap l.toArray w
      (fun W x hb => givesRun task x B W ((hb.cell (p := ⟨B, 1, none⟩) hBlt).trans hc))
      (fun n os dk x _ => givesRun task x B _ (by
        unfold sortWorld
        rw [Sort.cell?_grow _ _ _ (by show B < (Sort.putRow _ _ _ _ _).heap.size; rw [Sort.size_putRow]; exact hBlt), Sort.cell?_putRow_other _ _ g 0 _ _ (Or.inl hBg)]
        exact hc)) hH (by simp; omega) (by simpa using hcap)
    change Calls Try.prog 117 _ _ _ at hcon
    refine hcon.mono ?_
    rintro e w' ⟨rfl, q, rfl⟩
    have hl0 := del_len task l
    have hfl : (l.toArray.toList.filter fun x => !(fun x => x == task) x) = delL task l := rfl
    rw [hfl, List.size_toArray]
    have hb2 := putRow_block (w := Sort.ahead w q) (delL task l ++ List.replicate (l.length - (delL task l).length) 0).toArray hcells
    have hsz1 : ∀ d : Array Int, ∀ c : Array Value, (Sort.putCells (Value.int .i64) 0 d c).size = c.size := fun d c => by simp [Sort.putCells]
    have hka : ∀ k, k < w.heap.size → k ≠ g → (Sort.putRow (Value.int .i64) (Sort.ahead w q) g 0 (delL task l ++ List.replicate (l.length - (delL task l).length) 0).toArray).heap[k]? = w.heap[k]? := by
      intro k hk hne
      rw [putRow_else _ hne]
      rfl
    have hsz : w.heap.size ≤ (Sort.putRow (Value.int .i64) (Sort.ahead w q) g 0 (delL task l ++ List.replicate (l.length - (delL task l).length) 0).toArray).heap.size := by
      simp [Sort.ahead]
    refine ⟨_, rfl, ?_, ⟨hB.os, hB.tape, hB.output, Nat.le_trans hB.size hsz, fun k hk => ?_⟩⟩
    · refine int_put ho _ hb2 (by rw [hsz1, hcs]) hl0 ?_
      refine putCells_take _ _ _ _ (by simp) (by simp; omega) ?_
      simp
    · rw [hka k (by have := hB.size; omega) (by omega)]
      exact hB.block k hk
theorem own_new {wr : World} {base : Nat} {ok : Nat → Prop} {v : Value} {l : List Int} (h : Kd.R (Kd.int .i64) 3 wr base ok v l) : some wr.heap.size ≠ v.ownBlock := fun e => by
  have := (Kd.R_bound h).1 _ e.symm
  omega
theorem runW (i : Nat) (h : i ≤ 9223372036854775806) : wrap64 ((i : Int) + 1) = ((i + 1 : Nat) : Int) := by
  unfold wrap64
  omega
def nowStep (o : List Int) (m : S46) : List Int := if m.f0 = 2 then o ++ [m.f1] else if m.f0 = 1 then delL m.f1 o else o
def nowL (l : List S46) : List Int := l.foldl nowStep []
theorem nowStep_len (o : List Int) (m : S46) : (nowStep o m).length ≤ o.length + 1 := by
  unfold nowStep
  split
  · simp
  · split
    · have := del_len m.f1 o; omega
    · omega
theorem nowL_len (l : List S46) : (nowL l).length ≤ l.length := by
  have h : ∀ (l : List S46) (o : List Int), (l.foldl nowStep o).length ≤ o.length + l.length := by
    intro l
    induction l with
    | nil => intro o; simp
    | cons m l ih => intro o; have := ih (nowStep o m); have := nowStep_len o m; simp only [List.foldl_cons, List.length_cons]; omega
  have := h l []
  simpa [nowL] using this
theorem nowL_take (l : List S46) (i : Nat) (h : i < l.length) : nowL (l.take (i + 1)) = nowStep (nowL (l.take i)) l[i] := by
  unfold nowL
  rw [List.take_succ_eq_append_getElem h, List.foldl_append]
  rfl
def impl_Running.f (l0 : List S46) : Option (List Int) := if 200 < l0.length then some [] else some (ascL (nowL l0))
set_option maxHeartbeats 4000000 in
set_option maxRecDepth 100000 in
theorem impl_Running.calls (A0 : Option Addr) (c0 : Nat) (l0 : List S46) (r : List Int) (w : World) (hr0 : Kd.C k46 w A0 l0.length l0) (hc0 : l0.length ≤ c0) (h : impl_Running.f l0 = some r) :
    Calls Try.prog 62 #[.slice A0 l0.length c0] w fun e w' => ∃ v0_ : Value, e = .returned (v0_) ∧ Kd.R (Kd.int .i64) 3 w' w.heap.size (fun _ => True) v0_ r ∧ Below w.heap.size w w' := by
  have HR0 := Aside0.mk hr0
  have HC0 := Aside0.mk hc0
  clear hr0 hc0
  have HB := Aside0.mk (Below.refl w.heap.size w)
  unfold impl_Running.f at h
  by_cases c : 200 < l0.length
  · rw [if_pos c] at h
    obtain rfl := Option.some.inj h
    have cb : decide (200 < l0.length) = true := decide_eq_true c
    have cb2 : decide (200 < (l0.length : Int)) = true := decide_eq_true (by omega)
    clear c h
    go_enter Try.func62, Try.ntmps62
    go_wp2_with (first | ((with_reducible refine gate_dst (N := 6) rfl ?_); refine Kd.R_lit (Kd.int .i64) _ 3 ?hg (N := 6) ?hd (xs := ([] : List Int)) (inner := []) (ok := fun _ => True) (okp := fun _ => True) ?hr ?hp (fun _ hk => hk) trivial (Below.refl _ _) (Nat.le_refl _) (by simp) ?_; (case hd => rfl); (case hg => rfl); (case hr => first | (go_simp; done) | (go_simp; rfl)); (case hp => exact (Reps.none _ _)); intro v1 w3 ho hb hg_ hnew_; clear hg_ hnew_; have HO := Aside0.mk ho; have HBq := Aside0.mk hb; clear HB; have HB := HBq; clear HBq ho hb))
    go_ret
    exact ⟨_, rfl, HO.out, HB.out⟩
  · rw [if_neg c] at h
    obtain rfl := Option.some.inj h
    have cb : decide (200 < l0.length) = false := decide_eq_false c
    have cb2 : decide (200 < (l0.length : Int)) = false := decide_eq_false (by omega)
    have HL := Aside0.mk (show l0.length ≤ 200 by omega)
    clear c h
    go_enter Try.func62, Try.ntmps62
    go_wp2_with (first | ((with_reducible refine gate_dst (N := 6) rfl ?_); refine Kd.R_lit (Kd.int .i64) _ 3 ?hg (N := 6) ?hd (xs := ([] : List Int)) (inner := []) (ok := fun _ => True) (okp := fun _ => True) ?hr ?hp (fun _ hk => hk) trivial (Below.refl _ _) (Nat.le_refl _) (by simp) ?_; (case hd => rfl); (case hg => rfl); (case hr => first | (go_simp; done) | (go_simp; rfl)); (case hp => exact (Reps.none _ _)); intro v1 w3 ho hb hg_ hnew_; clear hg_ hnew_; have HO := Aside0.mk ho; have HBq := Aside0.mk hb; clear HB; have HB := HBq; clear HBq ho hb))
    go_loopg [3, 13] l0.length (fun kq v3 v13 w' => ∃ i : Nat, v13 = .int .i64 (i : Int) ∧ Aside0 (i + kq = l0.length) ∧ Aside0 (Kd.R (Kd.int .i64) 3 w' w.heap.size (fun _ => True) v3 (nowL (l0.take i))) ∧ Aside0 (Below w.heap.size w w'))
    case atStart => exact ⟨0, rfl, ⟨by omega⟩, HO, HB⟩
    case round =>
      clear HO HB
      obtain ⟨i, rfl, HI, HO, HB⟩ := hrel
      by_cases c : i < l0.length
      · have cb : decide ((i : Int) < (l0.length : Int)) = true := by simpa using c
        obtain ⟨ad, ead, hx0, hx1⟩ := at_T46 HR0.out (i : Int) (by omega) (by omega)
        cases ead
        rw [Int.toNat_natCast] at hx0 hx1
        replace hx0 := (HB.out.cell (World.block_lt_of_cell? w _ hx0)).trans hx0
        replace hx1 := (HB.out.cell (World.block_lt_of_cell? w _ hx1)).trans hx1
        have hrd : rd_T46 l0 (i : Int) = l0[i] := by
          unfold rd_T46
          rw [Int.toNat_natCast, List.getD_eq_getElem?_getD, List.getElem?_eq_getElem c]
          rfl
        rw [hrd] at hx0 hx1
        have HN := Aside0.mk (nowL_take l0 i c)
        clear hrd
        generalize l0[i] = m at hx0 hx1 HN
        have HIB := Aside0.mk (show i ≤ 300 by have := HL.out; omega)
        have HLN := Aside0.mk (nowL_len (l0.take i))
        have HLT := Aside0.mk (show (l0.take i).length ≤ i from List.length_take_le _ _)
        generalize nowL (l0.take i) = o at HO HN HLN
        by_cases c2 : m.f0 = 2
        · have cb2 : (m.f0 == 2) = true := beq_iff_eq.2 c2
          have HS := Aside0.mk (show nowStep o m = o ++ [m.f1] by unfold nowStep; rw [if_pos c2])
          clear c2
          go_wp2_with (first | (at_builtin; refine Kd.R_append (Kd.int .i64) (w0 := w) w.heap.size rfl (.tmp 21) (.tmp 24) 41 3 (.int .i64 0) 8 rfl Try.underlying41 info3 rfl (by decide) (by omega) _ o m.f1 [.int .i64 m.f1] (fun _ => True) (fun _ => False) rfl ?aX ?aP (fun _ hk => hk.elim) ?aF ?aO ?aB ?aS ?aL ?_; (case aX => (simp only [World.alloc, Array.size_push]; rfl)); (case aP => exact rfl); (case aF => exact fun _ _ => trivial); (case aO => exact Kd.R_alloc HO.out _); (case aB => exact below_alloc HB.out _); (case aS => exact below_size (below_alloc HB.out _)); (case aL => have := HLN.out; have := HLT.out; have := HL.out; omega); intro v1 w1 ho hb hg hat; have HO2 := Aside0.mk ho; have HB2 := Aside0.mk hb; clear ho hb hg hat))
          go_roundg (l0.length - (i + 1))
          case measure => have := HI.out; omega
          case rel => exact ⟨i + 1, (by first | rfl | rw [runW i (by have := HIB.out; omega)]), ⟨by have := HI.out; omega⟩, ⟨by rw [HN.out, HS.out]; exact HO2.out⟩, HB2⟩
        · have cb2 : (m.f0 == 2) = false := beq_eq_false_iff_ne.2 c2
          by_cases c3 : m.f0 = 1
          · have cb3 : (m.f0 == 1) = true := beq_iff_eq.2 c3
            have HS := Aside0.mk (show nowStep o m = delL m.f1 o by unfold nowStep; rw [if_neg c2, if_pos c3])
            clear c2 c3
            have hne := own_new (wr := wr) HO.out
            go_wp2_with (first | (go_at_call 117; refine (delF.calls m.f1 wr.heap.size (fun _ => True) _ o w _ (below_alloc HB.out _) (Kd.R_alloc HO.out _) (by have := HLN.out; have := HLT.out; have := HL.out; omega) (by simp) hne).mono ?_; rintro e w1 ⟨v1, rfl, ho, hb⟩; have HO2 := Aside0.mk ho; have HB2 := Aside0.mk hb; clear ho hb))
            go_roundg (l0.length - (i + 1))
            case measure => have := HI.out; omega
            case rel => exact ⟨i + 1, (by first | rfl | rw [runW i (by have := HIB.out; omega)]), ⟨by have := HI.out; omega⟩, ⟨by rw [HN.out, HS.out]; exact HO2.out⟩, HB2⟩
          · have cb3 : (m.f0 == 1) = false := beq_eq_false_iff_ne.2 c3
            have HS := Aside0.mk (show nowStep o m = o by unfold nowStep; rw [if_neg c2, if_neg c3])
            clear c2 c3
            go_wp2
            go_roundg (l0.length - (i + 1))
            case measure => have := HI.out; omega
            case rel => exact ⟨i + 1, (by first | rfl | rw [runW i (by have := HIB.out; omega)]), ⟨by have := HI.out; omega⟩, ⟨by rw [HN.out, HS.out]; exact Kd.R_alloc HO.out _⟩, ⟨below_alloc HB.out _⟩⟩
      · have cb : decide ((i : Int) < (l0.length : Int)) = false := by simpa using c
        have ei : i = l0.length := by have := HI.out; omega
        subst ei
        rw [List.take_length] at HO
        have hasc : impl_ascending.f (nowL l0) = some (ascL (nowL l0)) := by
          unfold impl_ascending.f
          rw [if_pos (by have := nowL_len l0; have := HL.out; omega)]
        have HA := Aside0.mk hasc
        clear hasc
        go_wp2_with (first | (go_at_call 119; refine (impl_ascending.calls (fun _ => True) _ _ _ w _ HB.out HO.out HA.out).mono ?_; rintro e w1 ⟨v1, rfl, ho, hb, _⟩; have HO2 := Aside0.mk ho; have HB2 := Aside0.mk hb; clear ho hb))
        go_ret
        exact ⟨_, rfl, Kd.R_mono HO2.out (fun _ _ => trivial), HB2.out⟩

/-! ### laws_heldIntS: function 63 -/
def laws_heldIntS.l0 : Nat → List Int → Int → Int → Option (Int)
  | 0, _, _, _ => none
  | k + 1, x0, x1, x5 => if x5 < (x0.length : Int) then (if 0 ≤ x5 then (if (rd x0 x5) = x1 then (laws_heldIntS.l0 k x0 (wrap64 (x1 + 1)) (wrap64 (x5 + 1))) else (none)) else (none)) else (some x1)
def laws_heldIntS.f (k : Nat) (l0 : List Int) (a1 : Int) : Option (Int) := laws_heldIntS.l0 k l0 a1 0
theorem laws_heldIntS.mono_l : ∀ k, (∀ y0 y1 y2, LeO (laws_heldIntS.l0 k y0 y1 y2) (laws_heldIntS.l0 (k + 1) y0 y1 y2))
  | 0 => fun _ _ _ r h => by simp [laws_heldIntS.l0] at h
  | k + 1 => by
    have ih0 := laws_heldIntS.mono_l k
    · intro y0 y1 y2
      unfold laws_heldIntS.l0
      repeat' first
      | (with_reducible exact ih0 _ _ _)
      | (with_reducible exact LeO.refl _)
      | (with_reducible exact LeO.none _)
      | (with_reducible refine LeO.ite ?_ ?_)
      | (with_reducible refine LeO.bind ?_ (fun _ => ?_))
      | exact ih0 _ _ _
      | exact LeO.none _
      | refine LeO.ite ?_ ?_
      | refine LeO.bind ?_ (fun _ => ?_)
theorem laws_heldIntS.mono : ∀ a0 a1 k, LeO (laws_heldIntS.f k a0 a1) (laws_heldIntS.f (k + 1) a0 a1) := by
  intro a0 a1 k
  have ih0 := laws_heldIntS.mono_l k
  unfold laws_heldIntS.f
  repeat' first
      | (with_reducible exact ih0 _ _ _)
      | (with_reducible exact LeO.refl _)
      | (with_reducible exact LeO.none _)
      | (with_reducible refine LeO.ite ?_ ?_)
      | (with_reducible refine LeO.bind ?_ (fun _ => ?_))
      | exact ih0 _ _ _
      | exact LeO.none _
      | refine LeO.ite ?_ ?_
      | refine LeO.bind ?_ (fun _ => ?_)
set_option maxHeartbeats 8000000 in
set_option maxRecDepth 100000 in
theorem laws_heldIntS.calls (k : Nat) (A0 : Option Addr) (c0 : Nat) (l0 : List Int) (a1 : Int) (r : Int) (w : World) (hr0 : Kd.C (Kd.int .i64) w A0 l0.length l0) (hc0 : l0.length ≤ c0) (h : laws_heldIntS.f k l0 a1 = some r) :
    Calls Try.prog 63 #[.slice A0 l0.length c0, .int .i64 a1] w fun e w' => e = .returned (.int .i64 r) ∧ Drawn0 w w' := by
  have HR0 := Aside0.mk hr0
  have HC0 := Aside0.mk hc0
  clear hr0 hc0
  have H : (laws_heldIntS.l0 k l0 a1 0) = some r := h
  clear h
  have H' := Aside0.mk H
  clear H
  go_enter Try.func63, Try.ntmps63
  go_wp2
  go_loopg [1, 5] k (fun kq v1 v5 w' => ∃ (x1_1 : Int) (x5_1 : Int), v1 = .int .i64 x1_1 ∧ v5 = .int .i64 x5_1 ∧ Aside0 (laws_heldIntS.l0 kq l0 x1_1 x5_1 = some r) ∧ Aside0 (kq ≤ k) ∧ Drawn0 w w')
  case atStart => exact ⟨(a1), (0), (by first | rfl | (simp; done) | (simp [*]; done)), (by first | rfl | (simp; done) | (simp [*]; done)), H', ⟨Nat.le_refl _⟩, by repeat (first | exact Drawn0.refl _ | apply Drawn0.step)⟩
  case round =>
    clear H'
    try clear p2
    obtain ⟨x1_1, x5_1, rfl, rfl, HA, HK1, ⟨m1, rfl⟩⟩ := hrel
    cases gk with
    | zero => exact absurd HA.out (by simp [laws_heldIntS.l0])
    | succ k1 =>
      have H := HA.out
      clear HA
      simp only [laws_heldIntS.l0] at H
      by_cases c3 : x5_1 < (l0.length : Int)
      · rw [if_pos c3] at H
        have c3b0 : decide (x5_1 < (l0.length : Int)) = true := decide_eq_true c3
        clear c3
        by_cases c4 : 0 ≤ x5_1
        · rw [if_pos c4] at H
          have c4b0 : decide (0 ≤ x5_1) = true := decide_eq_true c4
          clear c4
          by_cases c5 : (rd l0 x5_1) = x1_1
          · rw [if_pos c5] at H
            have c5b0 : ((rd l0 x5_1) == x1_1) = true := beq_iff_eq.mpr c5
            have c5b1 : ((rd l0 x5_1) != x1_1) = false := bne_eq_false_iff_eq.mpr c5
            clear c5
            have H' := Aside0.mk H
            clear H
            have p175 : 0 ≤ (x5_1 : Int) := of_decide_eq_true (by first | (with_reducible assumption) | assumption)
            have q175 : x5_1 < (l0.length : Int) := of_decide_eq_true (by first | (with_reducible assumption) | assumption)
            obtain ⟨ad175, e175, hx175_0⟩ := Kd.at_int HR0.out x5_1 p175 q175
            cases e175
            replace p175 := eq_true p175
            replace q175 := eq_true q175
            go_wp2
            go_roundg k1
            case measure => have := HK1.out; omega
            case rel => exact ⟨(wrap64 (x1_1 + 1)), (wrap64 (x5_1 + 1)), (by first | rfl | (simp; done) | (simp [*]; done)), (by first | rfl | (simp; done) | (simp [*]; done)), H', ⟨by have := HK1.out; omega⟩, by repeat (first | exact Drawn0.refl _ | apply Drawn0.step)⟩
          · rw [if_neg c5] at H
            exact absurd H (by simp)
        · rw [if_neg c4] at H
          exact absurd H (by simp)
      · rw [if_neg c3] at H
        have c3b0 : decide (x5_1 < (l0.length : Int)) = false := decide_eq_false c3
        clear c3
        obtain rfl := Option.some.inj H
        go_wp2
        go_ret
        exact ⟨by first | rfl | (simp; done) | (simp [*]; done), by repeat (first | exact Drawn0.refl _ | apply Drawn0.step)⟩

end Go.Proofs.Ytnecbgeljanhiaa.PFnExactRunning
