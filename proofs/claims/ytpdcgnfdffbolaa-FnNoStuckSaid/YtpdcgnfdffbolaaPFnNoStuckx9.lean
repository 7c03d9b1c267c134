-- written by wip/tools/myprint.py out of the program's own print
import Derived.Test.YtpdcgnfdffbolaaPFnNoStuckx0
import Derived.Test.YtpdcgnfdffbolaaPFnNoStuckx1
import Derived.Test.YtpdcgnfdffbolaaPFnNoStuckx3
import Derived.Test.YtpdcgnfdffbolaaPFnNoStuckx5
import Derived.Test.YtpdcgnfdffbolaaPFnNoStuckx6
import Derived.Test.YtpdcgnfdffbolaaPFnNoStuckx8
namespace Go.Proofs.Ytpdcgnfdffbolaa.PFnNoStuck
open Go.Proofs.Ytpdcgnfdffbolaa.Own (rS cS bS rB rN rT kS kC kc10 kf10)
open Go.RowKit Go.Proofs.YtpdcgnfdffbolaaW.PrintWords Go.Proofs.YtpdcgnfdffbolaaW.PrintLast Go.Proofs.YtpdcgnfdffbolaaW.PrintMore
attribute [local go_sem] max2_int min2_int max_two min_two max_three min_three max_four min_four   -- for this text's walks alone
set_option linter.unusedVariables false
set_option linter.unusedSimpArgs false

/-! ### impl_Widest: function 62 -/
def impl_Widest.l0 : Nat → List (S94) → Int → Int → Int → Option (Int)
  | 0, _, _, _, _ => none
  | k + 1, x0, x3, x10, x11 => if x11 < x10 then (if 0 ≤ (wrap64 (x11 + 1)) then (if (wrap64 (x11 + 1)) ≤ (x0.length : Int) then ((impl_Running.f (x0.take ((wrap64 (x11 + 1)) : Int).toNat)).bind fun t393 => (impl_Widest.l0 k x0 (mx x3 (t393.length : Int)) x10 (wrap64 (x11 + 1)))) else (none)) else (none)) else (some x3)
def impl_Widest.f (k : Nat) (l0 : List (S94)) : Option (Int) := if (l0.length : Int) > 200 then (some 0) else (impl_Widest.l0 k l0 0 (l0.length : Int) 0)
theorem impl_Widest.mono_l : ∀ k, (∀ y0 y1 y2 y3, LeO (impl_Widest.l0 k y0 y1 y2 y3) (impl_Widest.l0 (k + 1) y0 y1 y2 y3))
  | 0 => fun _ _ _ _ r h => by simp [impl_Widest.l0] at h
  | k + 1 => by
    have ih0 := impl_Widest.mono_l k
    · intro y0 y1 y2 y3
      unfold impl_Widest.l0
      repeat' first
      | (with_reducible exact ih0 _ _ _ _)
      | (with_reducible exact LeO.refl _)
      | (with_reducible exact LeO.none _)
      | (with_reducible refine LeO.ite ?_ ?_)
      | (with_reducible refine LeO.bind ?_ (fun _ => ?_))
      | exact ih0 _ _ _ _
      | exact LeO.none _
      | refine LeO.ite ?_ ?_
      | refine LeO.bind ?_ (fun _ => ?_)
theorem impl_Widest.mono : ∀ a0 k, LeO (impl_Widest.f k a0) (impl_Widest.f (k + 1) a0) := by
  intro a0 k
  have ih0 := impl_Widest.mono_l k
  unfold impl_Widest.f
  repeat' first
      | (with_reducible exact ih0 _ _ _ _)
      | (with_reducible exact LeO.refl _)
      | (with_reducible exact LeO.none _)
      | (with_reducible refine LeO.ite ?_ ?_)
      | (with_reducible refine LeO.bind ?_ (fun _ => ?_))
      | exact ih0 _ _ _ _
      | exact LeO.none _
      | refine LeO.ite ?_ ?_
      | refine LeO.bind ?_ (fun _ => ?_)
set_option maxHeartbeats 8000000 in
set_option maxRecDepth 100000 in
theorem impl_Widest.calls (k : Nat) (A0 : Option Addr) (c0 : Nat) (l0 : List (S94)) (r : Int) (w : World) (hr0 : Kd.C k94 w A0 l0.length l0) (hc0 : l0.length ≤ c0) (h : impl_Widest.f k l0 = some r) :
    Calls Try.prog 62 #[.slice A0 l0.length c0] w fun e w' => e = .returned (.int .i64 r) ∧ Below w.heap.size w w' := by
  have HR0 := Aside0.mk hr0
  have HC0 := Aside0.mk hc0
  clear hr0 hc0
  have HB := Aside0.mk (Below.refl w.heap.size w)
  have H : (if (l0.length : Int) > 200 then (some 0) else (impl_Widest.l0 k l0 0 (l0.length : Int) 0)) = some r := h
  clear h
  by_cases c2 : (l0.length : Int) > 200
  · rw [if_pos c2] at H
    have c2b0 : decide (200 < (l0.length : Int)) = true := decide_eq_true c2
    have c2b1 : decide (200 < l0.length) = true := decide_eq_true (by omega)
    clear c2
    obtain rfl := Option.some.inj H
    go_enter Try.func62, Try.ntmps62
    go_wp2
    go_ret
    exact ⟨by first | rfl | (simp [errW_none, errW_some] <;> rfl) | (simp [*, errW_none, errW_some] <;> rfl), by repeat (first | (with_reducible first | exact HB.out | apply below_alloc | apply pw_below_drewN | apply below_drew1) | exact HB.out)⟩
  · rw [if_neg c2] at H
    have c2b0 : decide (200 < (l0.length : Int)) = false := decide_eq_false c2
    have c2b1 : decide (200 < l0.length) = false := decide_eq_false (by omega)
    clear c2
    have H' := Aside0.mk H
    clear H
    go_enter Try.func62, Try.ntmps62
    go_wp2
    go_loopg [3, 11] k (fun kq v3 v11 w' => ∃ (x3_1 : Int) (x11_1 : Int), v3 = .int .i64 x3_1 ∧ v11 = .int .i64 x11_1 ∧ Aside0 (impl_Widest.l0 kq l0 x3_1 (l0.length : Int) x11_1 = some r) ∧ Aside0 (kq ≤ k) ∧ Aside0 (Below w.heap.size w w'))
    case atStart => exact ⟨(0), (0), (by first | rfl | (simp; done) | (simp [*]; done)), (by first | rfl | (simp; done) | (simp [*]; done)), H', ⟨Nat.le_refl _⟩, ⟨by repeat (first | (with_reducible first | exact HB.out | apply below_alloc | apply pw_below_drewN | apply below_drew1) | exact HB.out)⟩⟩
    case round =>
      clear H'
      try clear c2
      try clear c2b0
      try clear c2b1
      try clear p2
      obtain ⟨x3_1, x11_1, rfl, rfl, HA, HK1, HB⟩ := hrel
      cases gk with
      | zero => exact absurd HA.out (by simp [impl_Widest.l0])
      | succ k1 =>
        have H := HA.out
        clear HA
        simp only [impl_Widest.l0] at H
        by_cases c3 : x11_1 < (l0.length : Int)
        · rw [if_pos c3] at H
          have c3b0 : decide (x11_1 < (l0.length : Int)) = true := decide_eq_true c3
          clear c3
          obtain ⟨ji4, hji4⟩ : ∃ j_ : Int, (wrap64 (x11_1 + 1)) = j_ := ⟨_, rfl⟩
          replace H : (if 0 ≤ (ji4) then (if (ji4) ≤ (l0.length : Int) then ((impl_Running.f (l0.take ((ji4) : Int).toNat)).bind fun t393 => (impl_Widest.l0 k1 l0 (mx x3_1 (t393.length : Int)) (l0.length : Int) ji4)) else (none)) else (none)) = some r := by first | (rw [hji4] at H; exact H) | (simp only [hji4] at H ⊢; exact H)
          have hji4w : (IntKind.i64.wrap (x11_1 + 1)) = ji4 := (i64_w _).trans hji4
          by_cases c5 : 0 ≤ (ji4)
          · rw [if_pos c5] at H
            have c5b0 := eq_true c5
            have c5b1 : decide (0 ≤ (ji4)) = true := decide_eq_true c5
            clear c5
            by_cases c6 : (ji4) ≤ (l0.length : Int)
            · rw [if_pos c6] at H
              have c6b0 := eq_true c6
              have c6b1 : decide ((ji4) ≤ (l0.length : Int)) = true := decide_eq_true c6
              clear c6
              obtain ⟨y389, hy389⟩ : ∃ y_ : List (S94), y_ = (l0.take ((ji4) : Int).toNat) := ⟨_, rfl⟩
              replace H : ((impl_Running.f y389).bind fun t393 => (impl_Widest.l0 k1 l0 (mx x3_1 (t393.length : Int)) (l0.length : Int) ji4)) = some r := by first | (rw [hy389]; with_reducible exact H) | (have H2_ := (Option.bind_some _ _).symm.trans H; rw [hy389]; with_reducible exact H2_) | (have H2_ := (Option.bind_some _ _).symm.trans H; with_reducible exact H2_) | with_reducible exact H | (rw [hy389]; exact H) | exact H
              have Ny389 := Aside0.mk hy389
              clear hy389
              replace H := Option.bind_eq_some_iff.mp H
              obtain ⟨t393, A70, H⟩ := H
              replace H : (impl_Widest.l0 k1 l0 (mx x3_1 (t393.length : Int)) (l0.length : Int) ji4) = some r := H
              have A7 := Aside0.mk A70
              clear A70
              obtain ⟨ji8, hji8⟩ : ∃ j_ : Int, (mx x3_1 (t393.length : Int)) = j_ := ⟨_, rfl⟩
              replace H : (impl_Widest.l0 k1 l0 ji8 (l0.length : Int) ji4) = some r := by first | (rw [hji8] at H; exact H) | (simp only [hji8] at H ⊢; exact H)
              (try rw [hji8] at A7)
              have hji8_ : (if x3_1 < (t393.length : Int) then (t393.length : Int) else x3_1) = ji8 := hji8
              have H' := Aside0.mk H
              clear H
              have q9 : ((ji4) : Int) ≤ ((l0.length : Int) : Int) := of_decide_eq_true (by first | (with_reducible assumption) | assumption)
              obtain ⟨i09, hi09, _, hsz9, _⟩ := info_parts info94
              have hroom9 : l0.length ≤ c0 := HC0.out
              have hC9 : Kd.C k94 _ A0 l0.length l0 := HR0.out
              have hcut9 := cut_to (P := Try.prog) 32 94 .i64 Try.underlying32 hi09 A0 l0.length c0 (ji4) (of_decide_eq_true (by first | (with_reducible assumption) | assumption)) q9 hroom9
              have hr9 := Kd.C_take (m := ((ji4) : Int).toNat) hC9 (by omega)
              have hy9 : y389.length = ((ji4) : Int).toNat := (by rw [Ny389.out, List.length_take]; omega)
              rw [← Ny389.out] at hr9
              rw [← hy9] at hcut9
              have HR392 := Aside0.mk hr9
              have HC392 := Aside0.mk (show y389.length ≤ c0 from by omega)
              clear hr9 hC9 hroom9 hi09 hsz9
              have KY9 := Aside0.mk hy9
              clear hy9
              replace q9 := eq_true q9
              go_wp2_with (first | ((with_reducible refine gate_callee (f := 124) rfl ?_); refine goesL_ (some 19) rfl rfl Try.func124 (by kernel_rfl) rfl #[.slice A0 y389.length c0] rfl (by (try simp only [List.map_toArray, List.map_cons, List.map_nil]); first | done | rfl | (simp only [List.length_drop, List.length_take]; rfl)) ?_; (with_reducible refine (impl_Running.calls _ _ y389 t393 _ ?side1 ?side2 A7.out).mono ?_); (case side1 => repeat (first | exact (Kd.C_below HR392.out HB.out) | (with_reducible refine Kd.C_alloc ?_ _) | (with_reducible refine Kd.C_drewN ?_ _) | (with_reducible refine Kd.C_drew ?_))); (case side2 => exact HC392.out); rintro e w10 ⟨v394, rfl, ho0, hb⟩; refine ⟨_, rfl, ?_⟩; have n0_ := Aside0.mk (Kd.R_lower ho0 (below_size (by repeat (first | (with_reducible first | exact HB.out | apply below_alloc | apply pw_below_drewN | apply below_drew1) | exact HB.out)))); have n1_ := Aside0.mk (below_step (by repeat (first | (with_reducible first | exact HB.out | apply below_alloc | apply pw_below_drewN | apply below_drew1) | exact HB.out)) hb); clear HB; have HO395 := n0_; have HB := n1_; clear n0_ n1_; (try clear hb); (try clear hb2); (try clear hk); (try clear hi); (try clear ho0); obtain ⟨Ao11, co11, eo11⟩ := Kd.R_slice HO395.out; subst eo11))
              go_roundg k1
              case measure => have := HK1.out; omega
              case rel => exact ⟨(ji8), (ji4), (by first | rfl | (simp; done) | (simp only [← hji8] <;> (first | rfl | simp)) | (simp [*]; done)), (by first | rfl | (simp; done) | (simp only [← hji4] <;> (first | rfl | simp)) | (simp [*]; done)), H', ⟨by have := HK1.out; omega⟩, ⟨by repeat (first | (with_reducible first | exact HB.out | apply below_alloc | apply pw_below_drewN | apply below_drew1) | exact HB.out)⟩⟩
            · rw [if_neg c6] at H
              exact absurd H (by simp)
          · rw [if_neg c5] at H
            exact absurd H (by simp)
        · rw [if_neg c3] at H
          have c3b0 : decide (x11_1 < (l0.length : Int)) = false := decide_eq_false c3
          clear c3
          obtain rfl := Option.some.inj H
          go_wp2
          go_ret
          exact ⟨by first | rfl | (simp [errW_none, errW_some] <;> rfl) | (simp [*, errW_none, errW_some] <;> rfl), by repeat (first | (with_reducible first | exact HB.out | apply below_alloc | apply pw_below_drewN | apply below_drew1) | exact HB.out)⟩

/-! ### laws_FnNoStuck: function 13 -/
mutual
def laws_FnNoStuck.l0 : Nat → Int → List (S96) → List (S94) → List Bool → List Bool → Int → Option (Bool)
 | 0, _, _, _, _, _, _ => none
 | k + 1, x3, x4, x7, x13, x14, x15 => if x15 < (x7.length : Int) then (if 0 ≤ x15 then (if ((rd_T94 x7 x15).f1) < 0 then (none) else (if ((rd_T94 x7 x15).f1) ≥ x3 then (none) else (if ((rd_T94 x7 x15).f0) = 1 then (if 0 ≤ ((rd_T94 x7 x15).f1) then (if ((rd_T94 x7 x15).f1) < (x14.length : Int) then (if (rdOf false x14 ((rd_T94 x7 x15).f1) = true) then (if ((rd_T94 x7 x15).f1) < (x13.length : Int) then (if rdOf false x13 ((rd_T94 x7 x15).f1) = true then (none) else (laws_FnNoStuck.l0 k x3 x4 x7 (x13.set (((rd_T94 x7 x15).f1) : Int).toNat true) x14 (wrap64 (x15 + 1)))) else (none)) else (none)) else (none)) else (none)) else (if 0 ≤ ((rd_T94 x7 x15).f1) then (if ((rd_T94 x7 x15).f1) < (x14.length : Int) then (if rdOf false x14 ((rd_T94 x7 x15).f1) = true then (none) else (laws_FnNoStuck.l1 k x3 x4 x7 x13 (x14.set (((rd_T94 x7 x15).f1) : Int).toNat true) x15 ((rd_T94 x7 x15).f1) 0)) else (none)) else (none))))) else (none)) else (some true)
def laws_FnNoStuck.l1 : Nat → Int → List (S96) → List (S94) → List Bool → List Bool → Int → Int → Int → Option (Bool)
 | 0, _, _, _, _, _, _, _, _ => none
 | k + 1, x3, x4, x7, x13, x14, x15, x16, x17 => if x17 < (x4.length : Int) then (if 0 ≤ x17 then (if ((rd_T96 x4 x17).f1) = x16 then (if 0 ≤ ((rd_T96 x4 x17).f0) then (if ((rd_T96 x4 x17).f0) < (x13.length : Int) then (if (rdOf false x13 ((rd_T96 x4 x17).f0) = true) then (laws_FnNoStuck.l1 k x3 x4 x7 x13 x14 x15 x16 (wrap64 (x17 + 1))) else (none)) else (none)) else (none)) else (laws_FnNoStuck.l1 k x3 x4 x7 x13 x14 x15 x16 (wrap64 (x17 + 1)))) else (none)) else (laws_FnNoStuck.l0 k x3 x4 x7 x13 x14 (wrap64 (x15 + 1)))
end
def laws_FnNoStuck.f (k : Nat) (l0 : List Int) : Option (Bool) := (laws_big.f l0).bind fun t396 => (if t396 = true then (some true) else ((spec_DrawPoolRun.f k l0).bind fun bt397 => ((impl_PoolRun.f k bt397.1 bt397.2.1 bt397.2.2.1 bt397.2.2.2).bind fun bt405 => ((spec_PoolRun.f k bt397.1 bt397.2.1 bt397.2.2.1 bt397.2.2.2).bind fun bt409 => ((spec_Canon.f k bt397.1 bt397.2.1).bind fun bt413 => (if bt409.2 = true then (if bt413.2 = true then (if bt405.2 = true then (if (bt405.1.length : Int) = (wrap64 (2 * bt397.1)) then ((impl_Widest.f k bt405.1).bind fun t417 => (if t417 > bt397.2.2.1 then (none) else ((spec_Running.f k bt405.1).bind fun t418 => (if (t418.length : Int) = 0 then (if 0 ≤ bt397.1 then (if (bt397.1 : Int).toNat ≤ 281474976710656 then (laws_FnNoStuck.l0 k bt397.1 bt397.2.1 bt405.1 (List.replicate (bt397.1 : Int).toNat false) (List.replicate (bt397.1 : Int).toNat false) 0) else (none)) else (none)) else (none))))) else (none)) else (none)) else (some (bt405.2 == bt409.2))) else (some (bt405.2 == bt409.2))))))))
theorem laws_FnNoStuck.mono_l : ∀ k, (∀ y0 y1 y2 y3 y4 y5, LeO (laws_FnNoStuck.l0 k y0 y1 y2 y3 y4 y5) (laws_FnNoStuck.l0 (k + 1) y0 y1 y2 y3 y4 y5)) ∧ (∀ y0 y1 y2 y3 y4 y5 y6 y7, LeO (laws_FnNoStuck.l1 k y0 y1 y2 y3 y4 y5 y6 y7) (laws_FnNoStuck.l1 (k + 1) y0 y1 y2 y3 y4 y5 y6 y7))
 | 0 => ⟨fun _ _ _ _ _ _ r h => by simp [laws_FnNoStuck.l0] at h, fun _ _ _ _ _ _ _ _ r h => by simp [laws_FnNoStuck.l1] at h⟩
 | k + 1 => by
  obtain ⟨ih0, ih1⟩ := laws_FnNoStuck.mono_l k
  refine ⟨?_, ?_⟩
  ·intro y0 y1 y2 y3 y4 y5
   unfold laws_FnNoStuck.l0
   repeat' first
   | (with_reducible exact ih0 _ _ _ _ _ _)
   | (with_reducible exact ih1 _ _ _ _ _ _ _ _)
   | (with_reducible exact impl_PoolRun.mono _ _ _ _ _)
   | (with_reducible exact impl_Widest.mono _ _)
   | (with_reducible exact spec_Canon.mono _ _ _)
   | (with_reducible exact spec_DrawPoolRun.mono _ _)
   | (with_reducible exact spec_PoolRun.mono _ _ _ _ _)
   | (with_reducible exact spec_Running.mono _ _)
   | (with_reducible exact LeO.refl _)
   | (with_reducible exact LeO.none _)
   | (with_reducible refine LeO.ite ?_ ?_)
   | (with_reducible refine LeO.bind ?_ (fun _ => ?_))
   | exact ih0 _ _ _ _ _ _
   | exact ih1 _ _ _ _ _ _ _ _
   | exact impl_PoolRun.mono _ _ _ _ _
   | exact impl_Widest.mono _ _
   | exact spec_Canon.mono _ _ _
   | exact spec_DrawPoolRun.mono _ _
   | exact spec_PoolRun.mono _ _ _ _ _
   | exact spec_Running.mono _ _
   | exact LeO.none _
   | refine LeO.ite ?_ ?_
   | refine LeO.bind ?_ (fun _ => ?_)
  ·intro y0 y1 y2 y3 y4 y5 y6 y7
   unfold laws_FnNoStuck.l1
   repeat' first
   | (with_reducible exact ih0 _ _ _ _ _ _)
   | (with_reducible exact ih1 _ _ _ _ _ _ _ _)
   | (with_reducible exact impl_PoolRun.mono _ _ _ _ _)
   | (with_reducible exact impl_Widest.mono _ _)
   | (with_reducible exact spec_Canon.mono _ _ _)
   | (with_reducible exact spec_DrawPoolRun.mono _ _)
   | (with_reducible exact spec_PoolRun.mono _ _ _ _ _)
   | (with_reducible exact spec_Running.mono _ _)
   | (with_reducible exact LeO.refl _)
   | (with_reducible exact LeO.none _)
   | (with_reducible refine LeO.ite ?_ ?_)
   | (with_reducible refine LeO.bind ?_ (fun _ => ?_))
   | exact ih0 _ _ _ _ _ _
   | exact ih1 _ _ _ _ _ _ _ _
   | exact impl_PoolRun.mono _ _ _ _ _
   | exact impl_Widest.mono _ _
   | exact spec_Canon.mono _ _ _
   | exact spec_DrawPoolRun.mono _ _
   | exact spec_PoolRun.mono _ _ _ _ _
   | exact spec_Running.mono _ _
   | exact LeO.none _
   | refine LeO.ite ?_ ?_
   | refine LeO.bind ?_ (fun _ => ?_)
theorem laws_FnNoStuck.mono : ∀ a0 k, LeO (laws_FnNoStuck.f k a0) (laws_FnNoStuck.f (k + 1) a0) := by
 intro a0 k
 obtain ⟨ih0, ih1⟩ := laws_FnNoStuck.mono_l k
 unfold laws_FnNoStuck.f
 repeat' first
   | (with_reducible exact ih0 _ _ _ _ _ _)
   | (with_reducible exact ih1 _ _ _ _ _ _ _ _)
   | (with_reducible exact impl_PoolRun.mono _ _ _ _ _)
   | (with_reducible exact impl_Widest.mono _ _)
   | (with_reducible exact spec_Canon.mono _ _ _)
   | (with_reducible exact spec_DrawPoolRun.mono _ _)
   | (with_reducible exact spec_PoolRun.mono _ _ _ _ _)
   | (with_reducible exact spec_Running.mono _ _)
   | (with_reducible exact LeO.refl _)
   | (with_reducible exact LeO.none _)
   | (with_reducible refine LeO.ite ?_ ?_)
   | (with_reducible refine LeO.bind ?_ (fun _ => ?_))
   | exact ih0 _ _ _ _ _ _
   | exact ih1 _ _ _ _ _ _ _ _
   | exact impl_PoolRun.mono _ _ _ _ _
   | exact impl_Widest.mono _ _
   | exact spec_Canon.mono _ _ _
   | exact spec_DrawPoolRun.mono _ _
   | exact spec_PoolRun.mono _ _ _ _ _
   | exact spec_Running.mono _ _
   | exact LeO.none _
   | refine LeO.ite ?_ ?_
   | refine LeO.bind ?_ (fun _ => ?_)
set_option maxHeartbeats 8000000 in
set_option maxRecDepth 100000 in
theorem laws_FnNoStuck.calls (k : Nat) (A0 : Option Addr) (c0 : Nat) (l0 : List Int) (r : Bool) (w : World) (hr0 : Kd.C (Kd.int .u8) w A0 l0.length l0) (hc0 : l0.length ≤ c0) (h : laws_FnNoStuck.f k l0 = some r) :
  Calls Try.prog 13 #[.slice A0 l0.length c0] w fun e w' => e = .returned (.bool r) ∧ Below w.heap.size w w' := by
 have HR0 := Aside0.mk hr0
 have HC0 := Aside0.mk hc0
 clear hr0 hc0
 have HB := Aside0.mk (Below.refl w.heap.size w)
 have H : ((laws_big.f l0).bind fun t396 => (if t396 = true then (some true) else ((spec_DrawPoolRun.f k l0).bind fun bt397 => ((impl_PoolRun.f k bt397.1 bt397.2.1 bt397.2.2.1 bt397.2.2.2).bind fun bt405 => ((spec_PoolRun.f k bt397.1 bt397.2.1 bt397.2.2.1 bt397.2.2.2).bind fun bt409 => ((spec_Canon.f k bt397.1 bt397.2.1).bind fun bt413 => (if bt409.2 = true then (if bt413.2 = true then (if bt405.2 = true then (if (bt405.1.length : Int) = (wrap64 (2 * bt397.1)) then ((impl_Widest.f k bt405.1).bind fun t417 => (if t417 > bt397.2.2.1 then (none) else ((spec_Running.f k bt405.1).bind fun t418 => (if (t418.length : Int) = 0 then (if 0 ≤ bt397.1 then (if (bt397.1 : Int).toNat ≤ 281474976710656 then (laws_FnNoStuck.l0 k bt397.1 bt397.2.1 bt405.1 (List.replicate (bt397.1 : Int).toNat false) (List.replicate (bt397.1 : Int).toNat false) 0) else (none)) else (none)) else (none))))) else (none)) else (none)) else (some (bt405.2 == bt409.2))) else (some (bt405.2 == bt409.2))))))))) = some r := h
 clear h
 replace H := Option.bind_eq_some_iff.mp H
 obtain ⟨t396, A20, H⟩ := H
 (try dsimp only at H)
 have A2 := Aside0.mk A20
 clear A20
 by_cases c3 : t396 = true
 ·subst c3
  have H1 : (some true) = some r := by rw [if_pos rfl] at H; exact H
  clear H
  have H := H1
  clear H1
  obtain rfl := Option.some.inj H
  go_enter Try.func13, Try.ntmps13
  go_wp2_with (first | ((with_reducible refine gate_callee (f := 18) rfl ?_); refine goesL_ (some 19) rfl rfl Try.func18 (by kernel_rfl) rfl #[.slice A0 l0.length c0] rfl (by (try simp only [List.map_toArray, List.map_cons, List.map_nil]); first | done | rfl | (simp only [List.length_drop, List.length_take]; rfl)) ?_; (with_reducible refine (laws_big.calls _ _ l0 true _ ?side1 ?side2 A2.out).mono ?_); (case side1 => exact cS HR0.out); (case side2 => exact HC0.out); rintro e w' ⟨rfl, ⟨nd, rfl⟩⟩; refine ⟨_, rfl, ?_⟩))
  go_ret
  exact ⟨by first | rfl | (simp [errW_none, errW_some] <;> rfl) | (simp [*, errW_none, errW_some] <;> rfl), by repeat (first | (with_reducible first | exact HB.out | apply below_alloc | apply pw_below_drewN | apply below_drew1) | exact HB.out)⟩
 ·replace c3 := Bool.eq_false_iff.mpr c3
  subst c3
  have H1 : ((spec_DrawPoolRun.f k l0).bind fun bt397 => ((impl_PoolRun.f k bt397.1 bt397.2.1 bt397.2.2.1 bt397.2.2.2).bind fun bt405 => ((spec_PoolRun.f k bt397.1 bt397.2.1 bt397.2.2.1 bt397.2.2.2).bind fun bt409 => ((spec_Canon.f k bt397.1 bt397.2.1).bind fun bt413 => (if bt409.2 = true then (if bt413.2 = true then (if bt405.2 = true then (if (bt405.1.length : Int) = (wrap64 (2 * bt397.1)) then ((impl_Widest.f k bt405.1).bind fun t417 => (if t417 > bt397.2.2.1 then (none) else ((spec_Running.f k bt405.1).bind fun t418 => (if (t418.length : Int) = 0 then (if 0 ≤ bt397.1 then (if (bt397.1 : Int).toNat ≤ 281474976710656 then (laws_FnNoStuck.l0 k bt397.1 bt397.2.1 bt405.1 (List.replicate (bt397.1 : Int).toNat false) (List.replicate (bt397.1 : Int).toNat false) 0) else (none)) else (none)) else (none))))) else (none)) else (none)) else (some (bt405.2 == bt409.2))) else (some (bt405.2 == bt409.2))))))) = some r := by rw [if_neg (show ¬ (false = true) by decide)] at H; exact H
  clear H
  have H := H1
  clear H1
  replace H := Option.bind_eq_some_iff.mp H
  obtain ⟨⟨t397, t398, t399, t400⟩, A40, H⟩ := H
  (try dsimp only at H)
  have A4 := Aside0.mk A40
  clear A40
  replace H := Option.bind_eq_some_iff.mp H
  obtain ⟨⟨t405, t406⟩, A50, H⟩ := H
  (try dsimp only at H)
  have A5 := Aside0.mk A50
  clear A50
  replace H := Option.bind_eq_some_iff.mp H
  obtain ⟨⟨t409, t410⟩, A60, H⟩ := H
  (try dsimp only at H)
  have A6 := Aside0.mk A60
  clear A60
  replace H := Option.bind_eq_some_iff.mp H
  obtain ⟨⟨t413, t414⟩, A70, H⟩ := H
  (try dsimp only at H)
  have A7 := Aside0.mk A70
  clear A70
  by_cases c8 : t410 = true
  ·subst c8
   have H1 : (if t414 = true then (if t406 = true then (if (t405.length : Int) = (wrap64 (2 * t397)) then ((impl_Widest.f k t405).bind fun t417 => (if t417 > t399 then (none) else ((spec_Running.f k t405).bind fun t418 => (if (t418.length : Int) = 0 then (if 0 ≤ t397 then (if (t397 : Int).toNat ≤ 281474976710656 then (laws_FnNoStuck.l0 k t397 t398 t405 (List.replicate (t397 : Int).toNat false) (List.replicate (t397 : Int).toNat false) 0) else (none)) else (none)) else (none))))) else (none)) else (none)) else (some (t406 == true))) = some r := by rw [if_pos rfl] at H; exact H
   clear H
   have H := H1
   clear H1
   by_cases c9 : t414 = true
   ·subst c9
    have H1 : (if t406 = true then (if (t405.length : Int) = (wrap64 (2 * t397)) then ((impl_Widest.f k t405).bind fun t417 => (if t417 > t399 then (none) else ((spec_Running.f k t405).bind fun t418 => (if (t418.length : Int) = 0 then (if 0 ≤ t397 then (if (t397 : Int).toNat ≤ 281474976710656 then (laws_FnNoStuck.l0 k t397 t398 t405 (List.replicate (t397 : Int).toNat false) (List.replicate (t397 : Int).toNat false) 0) else (none)) else (none)) else (none))))) else (none)) else (none)) = some r := by rw [if_pos rfl] at H; exact H
    clear H
    have H := H1
    clear H1
    by_cases c10 : t406 = true
    ·subst c10
     have H1 : (if (t405.length : Int) = (wrap64 (2 * t397)) then ((impl_Widest.f k t405).bind fun t417 => (if t417 > t399 then (none) else ((spec_Running.f k t405).bind fun t418 => (if (t418.length : Int) = 0 then (if 0 ≤ t397 then (if (t397 : Int).toNat ≤ 281474976710656 then (laws_FnNoStuck.l0 k t397 t398 t405 (List.replicate (t397 : Int).toNat false) (List.replicate (t397 : Int).toNat false) 0) else (none)) else (none)) else (none))))) else (none)) = some r := by rw [if_pos rfl] at H; exact H
     clear H
     have H := H1
     clear H1
     by_cases c11 : (t405.length : Int) = (wrap64 (2 * t397))
     ·rw [if_pos c11] at H
      have c11b0 : ((t405.length : Int) == (wrap64 (2 * t397))) = true := beq_iff_eq.mpr c11
      have c11b1 : ((t405.length : Int) != (wrap64 (2 * t397))) = false := bne_eq_false_iff_eq.mpr c11
      clear c11
      replace H := Option.bind_eq_some_iff.mp H
      obtain ⟨t417, A120, H⟩ := H
      (try dsimp only at H)
      have A12 := Aside0.mk A120
      clear A120
      by_cases c13 : t417 > t399
      ·rw [if_pos c13] at H
       exact absurd H (by simp)
      ·rw [if_neg c13] at H
       have c13b0 : decide (t399 < t417) = false := decide_eq_false c13
       clear c13
       replace H := Option.bind_eq_some_iff.mp H
       obtain ⟨t418, A140, H⟩ := H
       (try dsimp only at H)
       have A14 := Aside0.mk A140
       clear A140
       by_cases c15 : (t418.length : Int) = 0
       ·rw [if_pos c15] at H
        have c15b0 : ((t418.length : Int) == 0) = true := beq_iff_eq.mpr c15
        have c15b1 : ((t418.length : Int) != 0) = false := bne_eq_false_iff_eq.mpr c15
        clear c15
        by_cases c16 : 0 ≤ t397
        ·rw [if_pos c16] at H
         have c16b0 := eq_true c16
         have c16b1 : decide (0 ≤ t397) = true := decide_eq_true c16
         clear c16
         by_cases c17 : (t397 : Int).toNat ≤ 281474976710656
         ·rw [if_pos c17] at H
          have c17b0 := eq_true c17
          have c17b1 : decide ((t397 : Int).toNat ≤ 281474976710656) = true := decide_eq_true c17
          clear c17
          obtain ⟨y421, hy421⟩ : ∃ y_ : List Bool, y_ = (List.replicate (t397 : Int).toNat false) := ⟨_, rfl⟩
          replace H : (laws_FnNoStuck.l0 k t397 t398 t405 y421 (List.replicate (t397 : Int).toNat false) 0) = some r := by first | (rw [hy421]; with_reducible exact H) | (have H2_ := (Option.bind_some _ _).symm.trans H; rw [hy421]; with_reducible exact H2_) | (have H2_ := (Option.bind_some _ _).symm.trans H; with_reducible exact H2_) | with_reducible exact H | (rw [hy421]; exact H) | exact H
          have Ny421 := Aside0.mk hy421
          clear hy421
          obtain ⟨y424, hy424⟩ : ∃ y_ : List Bool, y_ = (List.replicate (t397 : Int).toNat false) := ⟨_, rfl⟩
          replace H : (laws_FnNoStuck.l0 k t397 t398 t405 y421 y424 0) = some r := by first | (rw [hy424]; with_reducible exact H) | (have H2_ := (Option.bind_some _ _).symm.trans H; rw [hy424]; with_reducible exact H2_) | (have H2_ := (Option.bind_some _ _).symm.trans H; with_reducible exact H2_) | with_reducible exact H | (rw [hy424]; exact H) | exact H
          have Ny424 := Aside0.mk hy424
          clear hy424
          have H' := Aside0.mk H
          clear H
          go_enter Try.func13, Try.ntmps13
          go_wp2_with (first | ((with_reducible refine gate_callee (f := 18) rfl ?_); refine goesL_ (some 19) rfl rfl Try.func18 (by kernel_rfl) rfl #[.slice A0 l0.length c0] rfl (by (try simp only [List.map_toArray, List.map_cons, List.map_nil]); first | done | rfl | (simp only [List.length_drop, List.length_take]; rfl)) ?_; (with_reducible refine (laws_big.calls _ _ l0 false _ ?side1 ?side2 A2.out).mono ?_); (case side1 => exact cS HR0.out); (case side2 => exact HC0.out); rintro e w' ⟨rfl, ⟨nd, rfl⟩⟩; refine ⟨_, rfl, ?_⟩) | ((with_reducible refine gate_callee (f := 59) rfl ?_); refine goesL_ (some 22) rfl rfl Try.func59 (by kernel_rfl) rfl #[.slice A0 l0.length c0] rfl (by (try simp only [List.map_toArray, List.map_cons, List.map_nil]); first | done | rfl | (simp only [List.length_drop, List.length_take]; rfl)) ?_; (with_reducible refine (spec_DrawPoolRun.calls k _ _ l0 t397 t398 t399 t400 _ ?side1 ?side2 A4.out).mono ?_); (case side1 => exact cS HR0.out); (case side2 => exact HC0.out); rintro e w18 ⟨v401, v403, rfl, ho0, ho1, hb⟩; refine ⟨_, rfl, ?_⟩; have HO402 := Aside0.mk (Kd.R_lower ho0 (below_size (bS HB.out))); have HO404 := Aside0.mk (Kd.R_lower ho1 (below_size (bS HB.out))); replace HB := Aside0.mk (below_step (bS HB.out) hb); (try clear hb); (try clear hb2); (try clear hk); (try clear hi); (try clear ho0); (try clear ho1); obtain ⟨Ao19, co19, eo19⟩ := Kd.R_slice HO402.out; subst eo19; obtain ⟨Ao20, co20, eo20⟩ := Kd.R_slice HO404.out; subst eo20) | ((with_reducible refine gate_callee (f := 60) rfl ?_); refine goesL_ (some 32) rfl rfl Try.func60 (by kernel_rfl) rfl #[.int .i64 t397, .slice Ao19 t398.length co19, .int .i64 t399, .slice Ao20 t400.length co20] rfl (by (try simp only [List.map_toArray, List.map_cons, List.map_nil]); first | done | rfl | (simp only [List.length_drop, List.length_take]; rfl)) ?_; (with_reducible refine (impl_PoolRun.calls k t397 _ _ t398 t399 _ _ t400 t405 true _ ?side1 ?side2 ?side3 ?side4 A5.out).mono ?_); (case side1 => exact cS (Kd.R_reads' HO402.out).2.2); (case side2 => exact (Kd.R_reads' HO402.out).2.1); (case side3 => exact cS (Kd.R_reads' HO404.out).2.2); (case side4 => exact (Kd.R_reads' HO404.out).2.1); rintro e w21 ⟨v407, rfl, ho0, hb⟩; refine ⟨_, rfl, ?_⟩; replace HO402 := Aside0.mk (Kd.R_below (rS HO402.out) hb); replace HO404 := Aside0.mk (Kd.R_below (rS HO404.out) hb); have HO408 := Aside0.mk (Kd.R_lower ho0 (below_size (bS HB.out))); replace HB := Aside0.mk (below_step (bS HB.out) hb); (try clear hb); (try clear hb2); (try clear hk); (try clear hi); (try clear ho0)) | ((with_reducible refine gate_callee (f := 61) rfl ?_); refine goesL_ (some 40) rfl rfl Try.func61 (by kernel_rfl) rfl #[.int .i64 t397, .slice Ao19 t398.length co19, .int .i64 t399, .slice Ao20 t400.length co20] rfl (by (try simp only [List.map_toArray, List.map_cons, List.map_nil]); first | done | rfl | (simp only [List.length_drop, List.length_take]; rfl)) ?_; (with_reducible refine (spec_PoolRun.calls k t397 _ _ t398 t399 _ _ t400 t409 true _ ?side1 ?side2 ?side3 ?side4 A6.out).mono ?_); (case side1 => exact cS (Kd.R_reads' HO402.out).2.2); (case side2 => exact (Kd.R_reads' HO402.out).2.1); (case side3 => exact cS (Kd.R_reads' HO404.out).2.2); (case side4 => exact (Kd.R_reads' HO404.out).2.1); rintro e w22 ⟨v411, rfl, ho0, hb⟩; refine ⟨_, rfl, ?_⟩; replace HO402 := Aside0.mk (Kd.R_below (rS HO402.out) hb); replace HO404 := Aside0.mk (Kd.R_below (rS HO404.out) hb); have n2_ := Aside0.mk (Kd.R_elder' (rS HO408.out) (Kd.R_base ho0) hb); have HO412 := Aside0.mk (Kd.R_lower (rN ho0 HO408.out) (below_size (bS HB.out))); replace HB := Aside0.mk (below_step (bS HB.out) hb); clear HO408; have HO408 := n2_; clear n2_; (try clear hb); (try clear hb2); (try clear hk); (try clear hi); (try clear ho0)) | ((with_reducible refine gate_callee (f := 21) rfl ?_); refine goesL_ (some 46) rfl rfl Try.func21 (by kernel_rfl) rfl #[.int .i64 t397, .slice Ao19 t398.length co19] rfl (by (try simp only [List.map_toArray, List.map_cons, List.map_nil]); first | done | rfl | (simp only [List.length_drop, List.length_take]; rfl)) ?_; (with_reducible refine (spec_Canon.calls k t397 _ _ t398 t413 true _ ?side1 ?side2 A7.out).mono ?_); (case side1 => exact cS (Kd.R_reads' HO402.out).2.2); (case side2 => exact (Kd.R_reads' HO402.out).2.1); rintro e w23 ⟨v415, rfl, ho0, hb⟩; refine ⟨_, rfl, ?_⟩; replace HO402 := Aside0.mk (Kd.R_below (rS HO402.out) hb); have n1_ := Aside0.mk (Kd.R_elder' (rS HO404.out) (Kd.R_base ho0) hb); replace HO408 := Aside0.mk (Kd.R_below (rS HO408.out) hb); replace HO412 := Aside0.mk (Kd.R_below (rS HO412.out) hb); have HO416 := Aside0.mk (Kd.R_lower (rN ho0 HO404.out) (below_size (bS HB.out))); replace HB := Aside0.mk (below_step (bS HB.out) hb); clear HO404; have HO404 := n1_; clear n1_; (try clear hb); (try clear hb2); (try clear hk); (try clear hi); (try clear ho0); obtain ⟨Ao24, co24, eo24⟩ := Kd.R_slice HO408.out; subst eo24) | (go_at_call 62; (with_reducible refine (impl_Widest.calls k _ _ t405 t417 _ ?side1 ?side2 A12.out).mono ?_); (case side1 => exact cS (Kd.R_reads' HO408.out).2.2); (case side2 => exact (Kd.R_reads' HO408.out).2.1); rintro e w25 ⟨rfl, hb⟩; replace HO402 := Aside0.mk (Kd.R_below (rS HO402.out) hb); replace HO404 := Aside0.mk (Kd.R_below (rS HO404.out) hb); replace HO408 := Aside0.mk (Kd.R_below (rS HO408.out) hb); replace HO412 := Aside0.mk (Kd.R_below (rS HO412.out) hb); replace HO416 := Aside0.mk (Kd.R_below (rS HO416.out) hb); replace HB := Aside0.mk (below_step (bS HB.out) hb); (try clear hb); (try clear hb2); (try clear hk); (try clear hi)) | (go_at_call 25; (with_reducible refine (spec_Running.calls k _ _ t405 t418 _ ?side1 ?side2 A14.out).mono ?_); (case side1 => exact cS (Kd.R_reads' HO408.out).2.2); (case side2 => exact (Kd.R_reads' HO408.out).2.1); rintro e w26 ⟨v419, rfl, ho0, hb⟩; replace HO402 := Aside0.mk (Kd.R_below (rS HO402.out) hb); have n1_ := Aside0.mk (Kd.R_elder' (rS HO404.out) (Kd.R_base ho0) hb); replace HO408 := Aside0.mk (Kd.R_below (rS HO408.out) hb); replace HO412 := Aside0.mk (Kd.R_below (rS HO412.out) hb); have n4_ := Aside0.mk (Kd.R_elder' (rS HO416.out) (Kd.R_base ho0) hb); have HO420 := Aside0.mk (Kd.R_lower (rN (rN ho0 HO404.out) HO416.out) (below_size (bS HB.out))); replace HB := Aside0.mk (below_step (bS HB.out) hb); clear HO404; clear HO416; have HO404 := n1_; have HO416 := n4_; clear n1_ n4_; (try clear hb); (try clear hb2); (try clear hk); (try clear hi); (try clear ho0); obtain ⟨Ao27, co27, eo27⟩ := Kd.R_slice HO420.out; subst eo27) | ((with_reducible refine gate_dst (N := 80) rfl ?_); (try (refine gate_guard (by rfl) ?_; dsimp only)); refine Kd.R_make Kd.bool _ 4 rfl (N := 80) rfl 92 _ _ rfl t397 rfl rfl Try.underlying92 (.bool false) 1 info4 rfl (by decide) (by omega) false (ok := fun _ => True) (okp := fun _ => True) rfl (fun _ hk => hk) trivial (of_decide_eq_true (by first | (with_reducible assumption) | assumption)) (Nat.le_trans (Nat.mul_le_mul_right _ (of_decide_eq_true (by first | (with_reducible assumption) | assumption) : t397.toNat ≤ 281474976710656)) (by omega)) (Below.refl _ _) (Nat.le_refl _) ?_; intro v422 w28 ho29 hb hg_ hnew_; clear hg_ hnew_; (first | rw [← Ny421.out] at ho29 | (simp only [Int.reduceToNat] at ho29; rw [← Ny421.out] at ho29)); replace HO402 := Aside0.mk (Kd.R_below (rS HO402.out) hb); replace HO404 := Aside0.mk (Kd.R_below (rS HO404.out) hb); replace HO408 := Aside0.mk (Kd.R_below (rS HO408.out) hb); replace HO412 := Aside0.mk (Kd.R_below (rS HO412.out) hb); replace HO416 := Aside0.mk (Kd.R_below (rS HO416.out) hb); replace HO420 := Aside0.mk (Kd.R_below (rS HO420.out) hb); have HO423 := Aside0.mk (Kd.R_lower ho29 (below_size (bS HB.out))); replace HB := Aside0.mk (below_step (bS HB.out) hb); clear hb ho29) | ((with_reducible refine gate_dst (N := 82) rfl ?_); (try (refine gate_guard (by rfl) ?_; dsimp only)); refine Kd.R_make Kd.bool _ 4 rfl (N := 82) rfl 92 _ _ rfl t397 rfl rfl Try.underlying92 (.bool false) 1 info4 rfl (by decide) (by omega) false (ok := fun _ => True) (okp := fun _ => True) rfl (fun _ hk => hk) trivial (of_decide_eq_true (by first | (with_reducible assumption) | assumption)) (Nat.le_trans (Nat.mul_le_mul_right _ (of_decide_eq_true (by first | (with_reducible assumption) | assumption) : t397.toNat ≤ 281474976710656)) (by omega)) (Below.refl _ _) (Nat.le_refl _) ?_; intro v425 w30 ho31 hb hg_ hnew_; clear hg_ hnew_; (first | rw [← Ny424.out] at ho31 | (simp only [Int.reduceToNat] at ho31; rw [← Ny424.out] at ho31)); replace HO402 := Aside0.mk (Kd.R_below (rS HO402.out) hb); replace HO404 := Aside0.mk (Kd.R_below (rS HO404.out) hb); replace HO408 := Aside0.mk (Kd.R_below (rS HO408.out) hb); replace HO412 := Aside0.mk (Kd.R_below (rS HO412.out) hb); replace HO416 := Aside0.mk (Kd.R_below (rS HO416.out) hb); replace HO420 := Aside0.mk (Kd.R_below (rS HO420.out) hb); have n6_ := Aside0.mk (Kd.R_elder' (rS HO423.out) (Kd.R_base ho31) hb); have HO426 := Aside0.mk (Kd.R_lower (rN ho31 HO423.out) (below_size (bS HB.out))); replace HB := Aside0.mk (below_step (bS HB.out) hb); clear HO423; have HO423 := n6_; clear n6_; clear hb ho31))
          go_loopg [15] k (fun kq v15 w' => ∃ (x13_1 : List Bool) (x14_1 : List Bool) (x15_1 : Int), v15 = .int .i64 x15_1 ∧ Aside0 (laws_FnNoStuck.l0 kq t397 t398 t405 x13_1 x14_1 x15_1 = some r) ∧ Aside0 (kq ≤ k) ∧ Aside0 (Kd.R k96 96 w' w.heap.size (fun _ => True) (.slice Ao19 t398.length co19) t398) ∧ Aside0 (Kd.R k94 94 w' w.heap.size (fun _ => True) (.slice Ao24 t405.length co24) t405) ∧ Aside0 (Kd.R Kd.bool 4 w' w.heap.size (fun k_ => some k_ ≠ (v425 : Value).ownBlock) v422 x13_1) ∧ Aside0 (Kd.R Kd.bool 4 w' w.heap.size (fun k_ => some k_ ≠ (v422 : Value).ownBlock) v425 x14_1) ∧ Aside0 (Below w.heap.size w w'))
          case atStart => exact ⟨(y421), (y424), (0), (by first | rfl | (simp; done) | (simp [*]; done)), H', ⟨Nat.le_refl _⟩, ⟨by (with_reducible repeat (first | apply Kd.R_alloc | apply Kd.R_drewN | apply Kd.R_drew)); exact HO402.out⟩, ⟨by (with_reducible repeat (first | apply Kd.R_alloc | apply Kd.R_drewN | apply Kd.R_drew)); exact Kd.R_mono HO408.out (fun _ hk => trivial)⟩, ⟨by (with_reducible repeat (first | apply Kd.R_alloc | apply Kd.R_drewN | apply Kd.R_drew)); exact Kd.R_mono HO423.out (fun _ hk => hk.2)⟩, ⟨by (with_reducible repeat (first | apply Kd.R_alloc | apply Kd.R_drewN | apply Kd.R_drew)); exact Kd.R_mono HO426.out (fun _ hk => hk.2)⟩, ⟨by repeat (first | (with_reducible first | exact HB.out | apply below_alloc | apply pw_below_drewN | apply below_drew1) | exact HB.out)⟩⟩
          case round =>
           clear H'
           try clear c1
           try clear c2
           try clear p2
           try clear c3
           try clear c5
           try clear c6
           try clear p6
           try clear c8
           try clear c9
           try clear c10
           try clear c11
           try clear c11b0
           try clear c11b1
           try clear c13
           try clear c13b0
           try clear c15
           try clear c15b0
           try clear c15b1
           try clear c16
           try clear c16b0
           try clear c16b1
           try clear c17
           try clear c17b0
           try clear c17b1
           try clear c18
           try clear c21
           obtain ⟨x13_1, x14_1, x15_1, rfl, HA, HK1, HO_4, HO_7, HO_13, HO_14, HB⟩ := hrel
           cases gk with
           | zero => exact absurd HA.out (by simp [laws_FnNoStuck.l0])
           | succ k1 =>
            have H := HA.out
            clear HA
            simp only [laws_FnNoStuck.l0] at H
            by_cases c32 : x15_1 < (t405.length : Int)
            ·rw [if_pos c32] at H
             have c32b0 : decide (x15_1 < (t405.length : Int)) = true := decide_eq_true c32
             clear c32
             by_cases c33 : 0 ≤ x15_1
             ·rw [if_pos c33] at H
              have c33b0 : decide (0 ≤ x15_1) = true := decide_eq_true c33
              clear c33
              by_cases c34 : ((rd_T94 t405 x15_1).f1) < 0
              ·rw [if_pos c34] at H
               exact absurd H (by simp)
              ·rw [if_neg c34] at H
               have c34b0 : decide (((rd_T94 t405 x15_1).f1) < 0) = false := decide_eq_false c34
               clear c34
               by_cases c35 : ((rd_T94 t405 x15_1).f1) ≥ t397
               ·rw [if_pos c35] at H
                exact absurd H (by simp)
               ·rw [if_neg c35] at H
                have c35b0 : decide (t397 ≤ ((rd_T94 t405 x15_1).f1)) = false := decide_eq_false c35
                clear c35
                by_cases c36 : ((rd_T94 t405 x15_1).f0) = 1
                ·rw [if_pos c36] at H
                 have c36b0 : (((rd_T94 t405 x15_1).f0) == 1) = true := beq_iff_eq.mpr c36
                 have c36b1 : (((rd_T94 t405 x15_1).f0) != 1) = false := bne_eq_false_iff_eq.mpr c36
                 clear c36
                 by_cases c37 : 0 ≤ ((rd_T94 t405 x15_1).f1)
                 ·rw [if_pos c37] at H
                  have c37b0 : decide (0 ≤ ((rd_T94 t405 x15_1).f1)) = true := decide_eq_true c37
                  clear c37
                  by_cases c38 : ((rd_T94 t405 x15_1).f1) < (x14_1.length : Int)
                  ·rw [if_pos c38] at H
                   have c38b0 : decide (((rd_T94 t405 x15_1).f1) < (x14_1.length : Int)) = true := decide_eq_true c38
                   clear c38
                   obtain ⟨bq39, hbq39⟩ : ∃ b_ : Bool, b_ = (rdOf false x14_1 ((rd_T94 t405 x15_1).f1)) := ⟨_, rfl⟩
                   replace H : (if (bq39 = true) then (if ((rd_T94 t405 x15_1).f1) < (x13_1.length : Int) then (if rdOf false x13_1 ((rd_T94 t405 x15_1).f1) = true then (none) else (laws_FnNoStuck.l0 k1 t397 t398 t405 (x13_1.set (((rd_T94 t405 x15_1).f1) : Int).toNat true) x14_1 (wrap64 (x15_1 + 1)))) else (none)) else (none)) = some r := by rw [← hbq39] at H; exact H
                   have Nbq39 := Aside0.mk hbq39
                   clear hbq39
                   by_cases c40 : (bq39 = true)
                   ·subst c40
                    have H1 : (if ((rd_T94 t405 x15_1).f1) < (x13_1.length : Int) then (if rdOf false x13_1 ((rd_T94 t405 x15_1).f1) = true then (none) else (laws_FnNoStuck.l0 k1 t397 t398 t405 (x13_1.set (((rd_T94 t405 x15_1).f1) : Int).toNat true) x14_1 (wrap64 (x15_1 + 1)))) else (none)) = some r := by rw [if_pos rfl] at H; exact H
                    clear H
                    have H := H1
                    clear H1
                    by_cases c41 : ((rd_T94 t405 x15_1).f1) < (x13_1.length : Int)
                    ·rw [if_pos c41] at H
                     have c41b0 : decide (((rd_T94 t405 x15_1).f1) < (x13_1.length : Int)) = true := decide_eq_true c41
                     clear c41
                     obtain ⟨bq42, hbq42⟩ : ∃ b_ : Bool, b_ = (rdOf false x13_1 ((rd_T94 t405 x15_1).f1)) := ⟨_, rfl⟩
                     replace H : (if bq42 = true then (none) else (laws_FnNoStuck.l0 k1 t397 t398 t405 (x13_1.set (((rd_T94 t405 x15_1).f1) : Int).toNat true) x14_1 (wrap64 (x15_1 + 1)))) = some r := by rw [← hbq42] at H; exact H
                     have Nbq42 := Aside0.mk hbq42
                     clear hbq42
                     by_cases c43 : bq42 = true
                     ·subst c43
                      have H1 : (none) = some r := by rw [if_pos rfl] at H; exact H
                      clear H
                      have H := H1
                      clear H1
                      exact absurd H (by simp)
                     ·replace c43 := Bool.eq_false_iff.mpr c43
                      subst c43
                      have H1 : (laws_FnNoStuck.l0 k1 t397 t398 t405 (x13_1.set (((rd_T94 t405 x15_1).f1) : Int).toNat true) x14_1 (wrap64 (x15_1 + 1))) = some r := by rw [if_neg (show ¬ (false = true) by decide)] at H; exact H
                      clear H
                      have H := H1
                      clear H1
                      obtain ⟨y431, hy431⟩ : ∃ y_ : List Bool, y_ = (x13_1.set (((rd_T94 t405 x15_1).f1) : Int).toNat true) := ⟨_, rfl⟩
                      replace H : (laws_FnNoStuck.l0 k1 t397 t398 t405 y431 x14_1 (wrap64 (x15_1 + 1))) = some r := by first | (rw [hy431]; with_reducible exact H) | (have H2_ := (Option.bind_some _ _).symm.trans H; rw [hy431]; with_reducible exact H2_) | (have H2_ := (Option.bind_some _ _).symm.trans H; with_reducible exact H2_) | with_reducible exact H | (rw [hy431]; exact H) | exact H
                      have Ny431 := Aside0.mk hy431
                      clear hy431
                      have H' := Aside0.mk H
                      clear H
                      have p427 : 0 ≤ (x15_1 : Int) := of_decide_eq_true (by first | (with_reducible assumption) | assumption)
                      have q427 : x15_1 < (t405.length : Int) := of_decide_eq_true (by first | (with_reducible assumption) | assumption)
                      obtain ⟨ad427, e427, hx427_0, hx427_1⟩ := at_T94 (Kd.R_reads' HO_7.out).2.2 x15_1 p427 q427
                      cases e427
                      replace p427 := eq_true p427
                      replace q427 := eq_true q427
                      have p428 : 0 ≤ (x15_1 : Int) := of_decide_eq_true (by first | (with_reducible assumption) | assumption)
                      have q428 : x15_1 < (t405.length : Int) := of_decide_eq_true (by first | (with_reducible assumption) | assumption)
                      obtain ⟨ad428, e428, hx428_0, hx428_1⟩ := at_T94 (Kd.R_reads' HO_7.out).2.2 x15_1 p428 q428
                      obtain rfl : ad427 = ad428 := (by injection e428)
                      replace p428 := eq_true p428
                      replace q428 := eq_true q428
                      obtain ⟨Ao45, co45, eo45⟩ := Kd.R_slice HO_14.out
                      subst eo45
                      have p429 : 0 ≤ (((rd_T94 t405 x15_1).f1) : Int) := of_decide_eq_true (by first | (with_reducible assumption) | assumption)
                      have q429 : ((rd_T94 t405 x15_1).f1) < (x14_1.length : Int) := of_decide_eq_true (by first | (with_reducible assumption) | assumption)
                      obtain ⟨ad429, e429, hx429_0⟩ := Kd.at_bool (Kd.R_reads' HO_14.out).2.2 ((rd_T94 t405 x15_1).f1) p429 q429
                      (try rw [← Nbq39.out] at hx429_0)
                      (try rw [← Nbq42.out] at hx429_0)
                      cases e429
                      replace p429 := eq_true p429
                      replace q429 := eq_true q429
                      obtain ⟨Ao46, co46, eo46⟩ := Kd.R_slice HO_13.out
                      subst eo46
                      have p430 : 0 ≤ (((rd_T94 t405 x15_1).f1) : Int) := of_decide_eq_true (by first | (with_reducible assumption) | assumption)
                      have q430 : ((rd_T94 t405 x15_1).f1) < (x13_1.length : Int) := of_decide_eq_true (by first | (with_reducible assumption) | assumption)
                      obtain ⟨ad430, e430, hx430_0⟩ := Kd.at_bool (Kd.R_reads' HO_13.out).2.2 ((rd_T94 t405 x15_1).f1) p430 q430
                      (try rw [← Nbq39.out] at hx430_0)
                      (try rw [← Nbq42.out] at hx430_0)
                      cases e430
                      replace p430 := eq_true p430
                      replace q430 := eq_true q430
                      have p44 : 0 ≤ (((rd_T94 t405 x15_1).f1) : Int) := of_decide_eq_true (by first | (with_reducible assumption) | assumption)
                      have q44 : (((rd_T94 t405 x15_1).f1) : Int) < ((x13_1.length : Int) : Int) := of_decide_eq_true (by first | (with_reducible assumption) | assumption)
                      obtain ⟨go44, co44, eo44, gb44, gl44, cl44, HG44⟩ := Kd.R_form HO_13.out (by omega)
                      (first | cases eo44 | (injection eo44 with ea_ en_ ec_; (first | subst ea_ | (injection ea_ with ea_; subst ea_)); subst ec_; clear en_))
                      have GB44 := Aside0.mk gb44
                      have GG44 := Aside0.mk HG44
                      clear gb44 gl44 HG44
                      (first | simp only [add_plain] at hx430_0 | skip)
                      obtain ⟨hx44_0, hf44_0⟩ := Kd.R_celln false HO_13.out (((rd_T94 t405 x15_1).f1) : Int) p44 q44
                      replace p44 := eq_true p44
                      replace q44 := eq_true q44
                      have HP47 := Kd.R_putg HO_13.out (((rd_T94 t405 x15_1).f1) : Int) true
                      go_wp2_with (first | ((with_reducible refine gate_store (t := 4) (p := 120) rfl ?_); refine store_event (t := 4) (p := 120) (v := ?vo_w48) (w1 := (wr.setCell ⟨go44, (((rd_T94 t405 x15_1).f1) : Int).toNat, none⟩ (.bool true))) ?hg ?ho ?hn ?hr ?_; (case ho => rfl); (case hg => rfl); (case hn => rfl); (case hr => first | (go_simp; done) | (go_simp; rfl)); intro w48 hw; have hg : wr.grownBy w48 (some go44) := (by rw [hw]; exact HP47.2); have hp_ : Kd.R Kd.bool 4 w48 w.heap.size (fun k_ => some k_ ≠ (.slice (some ad429) x14_1.length co45 : Value).ownBlock) (.slice (some ⟨go44, 0, none⟩) x13_1.length co46) y431 := (by rw [hw, Ny431.out]; exact HP47.1); clear HP47; replace HO_4 := Aside0.mk (Kd.R_over' (v := (.slice (some ⟨go44, 0, none⟩) x13_1.length co46)) (rS HO_4.out) (Kd.R_typed HO_13.out) (by decide) hg); replace HO_7 := Aside0.mk (Kd.R_over' (v := (.slice (some ⟨go44, 0, none⟩) x13_1.length co46)) (rS HO_7.out) (Kd.R_typed HO_13.out) (by decide) hg); replace HO_13 := Aside0.mk (hp_); replace HO_14 := Aside0.mk (Kd.R_after (v := (.slice (some ⟨go44, 0, none⟩) x13_1.length co46)) (v1 := (.slice (some ⟨go44, 0, none⟩) x13_1.length co46)) (ok := (fun _ => True)) (by (with_reducible repeat (first | apply Kd.R_alloc | apply Kd.R_drewN | apply Kd.R_drew)); exact Kd.R_mono HO_14.out (fun _ hk => ⟨trivial, hk⟩)) hg (.inl rfl)); replace HB := Aside0.mk ((by rw [hw]; exact below_set (HB.out) GB44.out : Below w.heap.size w w48)); clear hg hw hp_))
                      go_roundg k1
                      case measure => have := HK1.out; omega
                      case rel => exact ⟨(y431), (x14_1), (wrap64 (x15_1 + 1)), (by first | rfl | (simp; done) | (simp [*]; done)), H', ⟨by have := HK1.out; omega⟩, ⟨by (with_reducible repeat (first | apply Kd.R_alloc | apply Kd.R_drewN | apply Kd.R_drew)); exact HO_4.out⟩, ⟨by (with_reducible repeat (first | apply Kd.R_alloc | apply Kd.R_drewN | apply Kd.R_drew)); exact HO_7.out⟩, ⟨by (with_reducible repeat (first | apply Kd.R_alloc | apply Kd.R_drewN | apply Kd.R_drew)); exact HO_13.out⟩, ⟨by (with_reducible repeat (first | apply Kd.R_alloc | apply Kd.R_drewN | apply Kd.R_drew)); exact Kd.R_mono HO_14.out (fun _ hk => hk.2)⟩, ⟨by repeat (first | (with_reducible first | exact HB.out | apply below_alloc | apply pw_below_drewN | apply below_drew1) | exact HB.out)⟩⟩
                    ·rw [if_neg c41] at H
                     exact absurd H (by simp)
                   ·replace c40 := Bool.eq_false_iff.mpr c40
                    subst c40
                    have H1 : (none) = some r := by rw [if_neg (show ¬ (false = true) by decide)] at H; exact H
                    clear H
                    have H := H1
                    clear H1
                    exact absurd H (by simp)
                  ·rw [if_neg c38] at H
                   exact absurd H (by simp)
                 ·rw [if_neg c37] at H
                  exact absurd H (by simp)
                ·rw [if_neg c36] at H
                 have c36b0 : (((rd_T94 t405 x15_1).f0) == 1) = false := beq_eq_false_iff_ne.mpr c36
                 have c36b1 : (((rd_T94 t405 x15_1).f0) != 1) = true := bne_iff_ne.mpr c36
                 by_cases c49 : 0 ≤ ((rd_T94 t405 x15_1).f1)
                 ·rw [if_pos c49] at H
                  have c49b0 : decide (0 ≤ ((rd_T94 t405 x15_1).f1)) = true := decide_eq_true c49
                  clear c49
                  by_cases c50 : ((rd_T94 t405 x15_1).f1) < (x14_1.length : Int)
                  ·rw [if_pos c50] at H
                   have c50b0 : decide (((rd_T94 t405 x15_1).f1) < (x14_1.length : Int)) = true := decide_eq_true c50
                   clear c50
                   obtain ⟨bq51, hbq51⟩ : ∃ b_ : Bool, b_ = (rdOf false x14_1 ((rd_T94 t405 x15_1).f1)) := ⟨_, rfl⟩
                   replace H : (if bq51 = true then (none) else (laws_FnNoStuck.l1 k1 t397 t398 t405 x13_1 (x14_1.set (((rd_T94 t405 x15_1).f1) : Int).toNat true) x15_1 ((rd_T94 t405 x15_1).f1) 0)) = some r := by rw [← hbq51] at H; exact H
                   have Nbq51 := Aside0.mk hbq51
                   clear hbq51
                   by_cases c52 : bq51 = true
                   ·subst c52
                    have H1 : (none) = some r := by rw [if_pos rfl] at H; exact H
                    clear H
                    have H := H1
                    clear H1
                    exact absurd H (by simp)
                   ·replace c52 := Bool.eq_false_iff.mpr c52
                    subst c52
                    have H1 : (laws_FnNoStuck.l1 k1 t397 t398 t405 x13_1 (x14_1.set (((rd_T94 t405 x15_1).f1) : Int).toNat true) x15_1 ((rd_T94 t405 x15_1).f1) 0) = some r := by rw [if_neg (show ¬ (false = true) by decide)] at H; exact H
                    clear H
                    have H := H1
                    clear H1
                    obtain ⟨y433, hy433⟩ : ∃ y_ : List Bool, y_ = (x14_1.set (((rd_T94 t405 x15_1).f1) : Int).toNat true) := ⟨_, rfl⟩
                    replace H : (laws_FnNoStuck.l1 k1 t397 t398 t405 x13_1 y433 x15_1 ((rd_T94 t405 x15_1).f1) 0) = some r := by first | (rw [hy433]; with_reducible exact H) | (have H2_ := (Option.bind_some _ _).symm.trans H; rw [hy433]; with_reducible exact H2_) | (have H2_ := (Option.bind_some _ _).symm.trans H; with_reducible exact H2_) | with_reducible exact H | (rw [hy433]; exact H) | exact H
                    have Ny433 := Aside0.mk hy433
                    clear hy433
                    have H' := Aside0.mk H
                    clear H
                    have p427 : 0 ≤ (x15_1 : Int) := of_decide_eq_true (by first | (with_reducible assumption) | assumption)
                    have q427 : x15_1 < (t405.length : Int) := of_decide_eq_true (by first | (with_reducible assumption) | assumption)
                    obtain ⟨ad427, e427, hx427_0, hx427_1⟩ := at_T94 (Kd.R_reads' HO_7.out).2.2 x15_1 p427 q427
                    cases e427
                    replace p427 := eq_true p427
                    replace q427 := eq_true q427
                    have p428 : 0 ≤ (x15_1 : Int) := of_decide_eq_true (by first | (with_reducible assumption) | assumption)
                    have q428 : x15_1 < (t405.length : Int) := of_decide_eq_true (by first | (with_reducible assumption) | assumption)
                    obtain ⟨ad428, e428, hx428_0, hx428_1⟩ := at_T94 (Kd.R_reads' HO_7.out).2.2 x15_1 p428 q428
                    obtain rfl : ad427 = ad428 := (by injection e428)
                    replace p428 := eq_true p428
                    replace q428 := eq_true q428
                    obtain ⟨Ao54, co54, eo54⟩ := Kd.R_slice HO_14.out
                    subst eo54
                    have p432 : 0 ≤ (((rd_T94 t405 x15_1).f1) : Int) := of_decide_eq_true (by first | (with_reducible assumption) | assumption)
                    have q432 : ((rd_T94 t405 x15_1).f1) < (x14_1.length : Int) := of_decide_eq_true (by first | (with_reducible assumption) | assumption)
                    obtain ⟨ad432, e432, hx432_0⟩ := Kd.at_bool (Kd.R_reads' HO_14.out).2.2 ((rd_T94 t405 x15_1).f1) p432 q432
                    (try rw [← Nbq51.out] at hx432_0)
                    cases e432
                    replace p432 := eq_true p432
                    replace q432 := eq_true q432
                    have p53 : 0 ≤ (((rd_T94 t405 x15_1).f1) : Int) := of_decide_eq_true (by first | (with_reducible assumption) | assumption)
                    have q53 : (((rd_T94 t405 x15_1).f1) : Int) < ((x14_1.length : Int) : Int) := of_decide_eq_true (by first | (with_reducible assumption) | assumption)
                    obtain ⟨go53, co53, eo53, gb53, gl53, cl53, HG53⟩ := Kd.R_form HO_14.out (by omega)
                    (first | cases eo53 | (injection eo53 with ea_ en_ ec_; (first | subst ea_ | (injection ea_ with ea_; subst ea_)); subst ec_; clear en_))
                    have GB53 := Aside0.mk gb53
                    have GG53 := Aside0.mk HG53
                    clear gb53 gl53 HG53
                    (first | simp only [add_plain] at hx432_0 | skip)
                    obtain ⟨hx53_0, hf53_0⟩ := Kd.R_celln false HO_14.out (((rd_T94 t405 x15_1).f1) : Int) p53 q53
                    replace p53 := eq_true p53
                    replace q53 := eq_true q53
                    have HP55 := Kd.R_putg HO_14.out (((rd_T94 t405 x15_1).f1) : Int) true
                    go_wp2_with (first | ((with_reducible refine gate_store (t := 4) (p := 127) rfl ?_); refine store_event (t := 4) (p := 127) (v := ?vo_w56) (w1 := (wr.setCell ⟨go53, (((rd_T94 t405 x15_1).f1) : Int).toNat, none⟩ (.bool true))) ?hg ?ho ?hn ?hr ?_; (case ho => rfl); (case hg => rfl); (case hn => rfl); (case hr => first | (go_simp; done) | (go_simp; rfl)); intro w56 hw; have hg : wr.grownBy w56 (some go53) := (by rw [hw]; exact HP55.2); have hp_ : Kd.R Kd.bool 4 w56 w.heap.size (fun k_ => some k_ ≠ (v422 : Value).ownBlock) (.slice (some ⟨go53, 0, none⟩) x14_1.length co54) y433 := (by rw [hw, Ny433.out]; exact HP55.1); clear HP55; replace HO_4 := Aside0.mk (Kd.R_over' (v := (.slice (some ⟨go53, 0, none⟩) x14_1.length co54)) (rS HO_4.out) (Kd.R_typed HO_14.out) (by decide) hg); replace HO_7 := Aside0.mk (Kd.R_over' (v := (.slice (some ⟨go53, 0, none⟩) x14_1.length co54)) (rS HO_7.out) (Kd.R_typed HO_14.out) (by decide) hg); replace HO_13 := Aside0.mk (Kd.R_after (v := (.slice (some ⟨go53, 0, none⟩) x14_1.length co54)) (v1 := (.slice (some ⟨go53, 0, none⟩) x14_1.length co54)) (ok := (fun _ => True)) (by (with_reducible repeat (first | apply Kd.R_alloc | apply Kd.R_drewN | apply Kd.R_drew)); exact Kd.R_mono HO_13.out (fun _ hk => ⟨trivial, hk⟩)) hg (.inl rfl)); replace HO_14 := Aside0.mk (hp_); replace HB := Aside0.mk ((by rw [hw]; exact below_set (HB.out) GB53.out : Below w.heap.size w w56)); clear hg hw hp_))
                    go_loopg [17] k1 (fun kq v17 w' => ∃ (x17_2 : Int), v17 = .int .i64 x17_2 ∧ Aside0 (laws_FnNoStuck.l1 kq t397 t398 t405 x13_1 y433 x15_1 ((rd_T94 t405 x15_1).f1) x17_2 = some r) ∧ Aside0 (kq ≤ k1) ∧ Aside0 (Kd.R k96 96 w' w.heap.size (fun _ => True) (.slice Ao19 t398.length co19) t398) ∧ Aside0 (Kd.R k94 94 w' w.heap.size (fun _ => True) (.slice (some ad427) t405.length co24) t405) ∧ Aside0 (Kd.R Kd.bool 4 w' w.heap.size (fun k_ => some k_ ≠ ((.slice (some ⟨go53, 0, none⟩) x14_1.length co54) : Value).ownBlock) v422 x13_1) ∧ Aside0 (Kd.R Kd.bool 4 w' w.heap.size (fun k_ => some k_ ≠ (v422 : Value).ownBlock) (.slice (some ⟨go53, 0, none⟩) x14_1.length co54) y433) ∧ Aside0 (Below w.heap.size w w'))
                    case atStart => exact ⟨(0), (by first | rfl | (simp; done) | (simp [*]; done)), H', ⟨Nat.le_refl _⟩, ⟨by (with_reducible repeat (first | apply Kd.R_alloc | apply Kd.R_drewN | apply Kd.R_drew)); exact HO_4.out⟩, ⟨by (with_reducible repeat (first | apply Kd.R_alloc | apply Kd.R_drewN | apply Kd.R_drew)); exact HO_7.out⟩, ⟨by (with_reducible repeat (first | apply Kd.R_alloc | apply Kd.R_drewN | apply Kd.R_drew)); exact Kd.R_mono HO_13.out (fun _ hk => hk.2)⟩, ⟨by (with_reducible repeat (first | apply Kd.R_alloc | apply Kd.R_drewN | apply Kd.R_drew)); exact HO_14.out⟩, ⟨by repeat (first | (with_reducible first | exact HB.out | apply below_alloc | apply pw_below_drewN | apply below_drew1) | exact HB.out)⟩⟩
                    case round =>
                     clear H'
                     try clear c1
                     try clear c2
                     try clear p2
                     try clear c3
                     try clear q3
                     try clear c4
                     try clear p4
                     try clear q4
                     try clear hx4
                     try clear hf4
                     try clear c5
                     try clear p5
                     try clear q5
                     try clear hx5
                     try clear hf5
                     try clear c6
                     try clear p6
                     try clear c8
                     try clear c9
                     try clear c10
                     try clear c11
                     try clear c11b0
                     try clear c11b1
                     try clear c13
                     try clear c13b0
                     try clear c15
                     try clear c15b0
                     try clear c15b1
                     try clear c16
                     try clear c16b0
                     try clear c16b1
                     try clear c17
                     try clear c17b0
                     try clear c17b1
                     try clear c18
                     try clear c21
                     try clear c32
                     try clear c32b0
                     try clear c33
                     try clear c33b0
                     try clear c34
                     try clear c34b0
                     try clear c35
                     try clear c35b0
                     try clear c36
                     try clear c36b0
                     try clear c36b1
                     try clear c37
                     try clear c37b0
                     try clear c38
                     try clear c38b0
                     try clear q39
                     try clear c40
                     try clear c41
                     try clear c41b0
                     try clear p42
                     try clear q42
                     try clear hx42
                     try clear c43
                     try clear p43
                     try clear q43
                     try clear hx43
                     try clear p44
                     try clear q44
                     try clear hx44
                     try clear hf44
                     try clear c49
                     try clear c49b0
                     try clear c50
                     try clear c50b0
                     try clear q51
                     try clear c52
                     try clear p53
                     try clear q53
                     try clear hx53
                     try clear hf53
                     try clear hx427_0
                     try clear hx427_1
                     try clear hx428_0
                     try clear hx428_1
                     try clear hx429_0
                     try clear hx430_0
                     try clear hx432_0
                     try clear hx44_0
                     try clear hx53_0
                     try clear p2
                     try clear p427
                     try clear p428
                     try clear p429
                     try clear p430
                     try clear p432
                     try clear p44
                     try clear p53
                     try clear p6
                     try clear q427
                     try clear q428
                     try clear q429
                     try clear q430
                     try clear q432
                     try clear q44
                     try clear q53
                     obtain ⟨x17_2, rfl, HA, HK2, HO_4, HO_7, HO_13, HO_14, HB⟩ := hrel
                     have hl14_2 := (Kd.R_reads' HO_14.out).1
                     rw [hl14_2] at HO_14
                     (try simp only [hl14_2])
                     (try simp only [hl14_2] at HO_4)
                     (try simp only [hl14_2] at HO_7)
                     (try simp only [hl14_2] at HO_13)
                     cases gk with
                     | zero => exact absurd HA.out (by simp [laws_FnNoStuck.l1])
                     | succ k2 =>
                      have H := HA.out
                      clear HA
                      simp only [laws_FnNoStuck.l1] at H
                      by_cases c57 : x17_2 < (t398.length : Int)
                      ·rw [if_pos c57] at H
                       have c57b0 : decide (x17_2 < (t398.length : Int)) = true := decide_eq_true c57
                       clear c57
                       by_cases c58 : 0 ≤ x17_2
                       ·rw [if_pos c58] at H
                        have c58b0 : decide (0 ≤ x17_2) = true := decide_eq_true c58
                        clear c58
                        by_cases c59 : ((rd_T96 t398 x17_2).f1) = ((rd_T94 t405 x15_1).f1)
                        ·rw [if_pos c59] at H
                         have c59b0 : (((rd_T96 t398 x17_2).f1) == ((rd_T94 t405 x15_1).f1)) = true := beq_iff_eq.mpr c59
                         have c59b1 : (((rd_T96 t398 x17_2).f1) != ((rd_T94 t405 x15_1).f1)) = false := bne_eq_false_iff_eq.mpr c59
                         clear c59
                         by_cases c60 : 0 ≤ ((rd_T96 t398 x17_2).f0)
                         ·rw [if_pos c60] at H
                          have c60b0 : decide (0 ≤ ((rd_T96 t398 x17_2).f0)) = true := decide_eq_true c60
                          clear c60
                          by_cases c61 : ((rd_T96 t398 x17_2).f0) < (x13_1.length : Int)
                          ·rw [if_pos c61] at H
                           have c61b0 : decide (((rd_T96 t398 x17_2).f0) < (x13_1.length : Int)) = true := decide_eq_true c61
                           clear c61
                           obtain ⟨bq62, hbq62⟩ : ∃ b_ : Bool, b_ = (rdOf false x13_1 ((rd_T96 t398 x17_2).f0)) := ⟨_, rfl⟩
                           replace H : (if (bq62 = true) then (laws_FnNoStuck.l1 k2 t397 t398 t405 x13_1 y433 x15_1 ((rd_T94 t405 x15_1).f1) (wrap64 (x17_2 + 1))) else (none)) = some r := by rw [← hbq62] at H; exact H
                           have Nbq62 := Aside0.mk hbq62
                           clear hbq62
                           by_cases c63 : (bq62 = true)
                           ·subst c63
                            have H1 : (laws_FnNoStuck.l1 k2 t397 t398 t405 x13_1 y433 x15_1 ((rd_T94 t405 x15_1).f1) (wrap64 (x17_2 + 1))) = some r := by rw [if_pos rfl] at H; exact H
                            clear H
                            have H := H1
                            clear H1
                            have H' := Aside0.mk H
                            clear H
                            have p434 : 0 ≤ (x17_2 : Int) := of_decide_eq_true (by first | (with_reducible assumption) | assumption)
                            have q434 : x17_2 < (t398.length : Int) := of_decide_eq_true (by first | (with_reducible assumption) | assumption)
                            obtain ⟨ad434, e434, hx434_0, hx434_1⟩ := at_T96 (Kd.R_reads' HO_4.out).2.2 x17_2 p434 q434
                            cases e434
                            replace p434 := eq_true p434
                            replace q434 := eq_true q434
                            have p435 : 0 ≤ (x17_2 : Int) := of_decide_eq_true (by first | (with_reducible assumption) | assumption)
                            have q435 : x17_2 < (t398.length : Int) := of_decide_eq_true (by first | (with_reducible assumption) | assumption)
                            obtain ⟨ad435, e435, hx435_0, hx435_1⟩ := at_T96 (Kd.R_reads' HO_4.out).2.2 x17_2 p435 q435
                            obtain rfl : ad434 = ad435 := (by injection e435)
                            replace p435 := eq_true p435
                            replace q435 := eq_true q435
                            obtain ⟨Ao64, co64, eo64⟩ := Kd.R_slice HO_13.out
                            subst eo64
                            have p436 : 0 ≤ (((rd_T96 t398 x17_2).f0) : Int) := of_decide_eq_true (by first | (with_reducible assumption) | assumption)
                            have q436 : ((rd_T96 t398 x17_2).f0) < (x13_1.length : Int) := of_decide_eq_true (by first | (with_reducible assumption) | assumption)
                            obtain ⟨ad436, e436, hx436_0⟩ := Kd.at_bool (Kd.R_reads' HO_13.out).2.2 ((rd_T96 t398 x17_2).f0) p436 q436
                            (try rw [← Nbq51.out] at hx436_0)
                            (try rw [← Nbq62.out] at hx436_0)
                            cases e436
                            replace p436 := eq_true p436
                            replace q436 := eq_true q436
                            go_wp2
                            (try simp only [← hl14_2])
                            go_roundg k2
                            case measure => have := HK1.out; have := HK2.out; omega
                            case rel => exact ⟨(wrap64 (x17_2 + 1)), (by first | rfl | (simp; done) | (simp [*]; done)), H', ⟨by have := HK1.out; have := HK2.out; omega⟩, ⟨by (try simp only [hl14_2]); (with_reducible repeat (first | apply Kd.R_alloc | apply Kd.R_drewN | apply Kd.R_drew)); exact HO_4.out⟩, ⟨by (try simp only [hl14_2]); (with_reducible repeat (first | apply Kd.R_alloc | apply Kd.R_drewN | apply Kd.R_drew)); exact HO_7.out⟩, ⟨by (try simp only [hl14_2]); (with_reducible repeat (first | apply Kd.R_alloc | apply Kd.R_drewN | apply Kd.R_drew)); exact HO_13.out⟩, ⟨by (try simp only [hl14_2]); (with_reducible repeat (first | apply Kd.R_alloc | apply Kd.R_drewN | apply Kd.R_drew)); exact HO_14.out⟩, ⟨by repeat (first | (with_reducible first | exact HB.out | apply below_alloc | apply pw_below_drewN | apply below_drew1) | exact HB.out)⟩⟩
                           ·replace c63 := Bool.eq_false_iff.mpr c63
                            subst c63
                            have H1 : (none) = some r := by rw [if_neg (show ¬ (false = true) by decide)] at H; exact H
                            clear H
                            have H := H1
                            clear H1
                            exact absurd H (by simp)
                          ·rw [if_neg c61] at H
                           exact absurd H (by simp)
                         ·rw [if_neg c60] at H
                          exact absurd H (by simp)
                        ·rw [if_neg c59] at H
                         have c59b0 : (((rd_T96 t398 x17_2).f1) == ((rd_T94 t405 x15_1).f1)) = false := beq_eq_false_iff_ne.mpr c59
                         have c59b1 : (((rd_T96 t398 x17_2).f1) != ((rd_T94 t405 x15_1).f1)) = true := bne_iff_ne.mpr c59
                         have H' := Aside0.mk H
                         clear H
                         have p434 : 0 ≤ (x17_2 : Int) := of_decide_eq_true (by first | (with_reducible assumption) | assumption)
                         have q434 : x17_2 < (t398.length : Int) := of_decide_eq_true (by first | (with_reducible assumption) | assumption)
                         obtain ⟨ad434, e434, hx434_0, hx434_1⟩ := at_T96 (Kd.R_reads' HO_4.out).2.2 x17_2 p434 q434
                         cases e434
                         replace p434 := eq_true p434
                         replace q434 := eq_true q434
                         go_wp2
                         (try simp only [← hl14_2])
                         go_roundg k2
                         case measure => have := HK1.out; have := HK2.out; omega
                         case rel => exact ⟨(wrap64 (x17_2 + 1)), (by first | rfl | (simp; done) | (simp [*]; done)), H', ⟨by have := HK1.out; have := HK2.out; omega⟩, ⟨by (try simp only [hl14_2]); (with_reducible repeat (first | apply Kd.R_alloc | apply Kd.R_drewN | apply Kd.R_drew)); exact HO_4.out⟩, ⟨by (try simp only [hl14_2]); (with_reducible repeat (first | apply Kd.R_alloc | apply Kd.R_drewN | apply Kd.R_drew)); exact HO_7.out⟩, ⟨by (try simp only [hl14_2]); (with_reducible repeat (first | apply Kd.R_alloc | apply Kd.R_drewN | apply Kd.R_drew)); exact HO_13.out⟩, ⟨by (try simp only [hl14_2]); (with_reducible repeat (first | apply Kd.R_alloc | apply Kd.R_drewN | apply Kd.R_drew)); exact HO_14.out⟩, ⟨by repeat (first | (with_reducible first | exact HB.out | apply below_alloc | apply pw_below_drewN | apply below_drew1) | exact HB.out)⟩⟩
                       ·rw [if_neg c58] at H
                        exact absurd H (by simp)
                      ·rw [if_neg c57] at H
                       have c57b0 : decide (x17_2 < (t398.length : Int)) = false := decide_eq_false c57
                       clear c57
                       have H' := Aside0.mk H
                       clear H
                       go_wp2
                       (try simp only [← hl14_2])
                       go_roundg k2
                       case measure => have := HK1.out; have := HK2.out; omega
                       case rel => exact ⟨(x13_1), (y433), (wrap64 (x15_1 + 1)), (by first | rfl | (simp; done) | (simp [*]; done)), H', ⟨by have := HK1.out; have := HK2.out; omega⟩, ⟨by (try simp only [hl14_2]); (with_reducible repeat (first | apply Kd.R_alloc | apply Kd.R_drewN | apply Kd.R_drew)); exact HO_4.out⟩, ⟨by (try simp only [hl14_2]); (with_reducible repeat (first | apply Kd.R_alloc | apply Kd.R_drewN | apply Kd.R_drew)); exact HO_7.out⟩, ⟨by (try simp only [hl14_2]); (with_reducible repeat (first | apply Kd.R_alloc | apply Kd.R_drewN | apply Kd.R_drew)); exact HO_13.out⟩, ⟨by (try simp only [hl14_2]); (with_reducible repeat (first | apply Kd.R_alloc | apply Kd.R_drewN | apply Kd.R_drew)); exact HO_14.out⟩, ⟨by repeat (first | (with_reducible first | exact HB.out | apply below_alloc | apply pw_below_drewN | apply below_drew1) | exact HB.out)⟩⟩
                  ·rw [if_neg c50] at H
                   exact absurd H (by simp)
                 ·rw [if_neg c49] at H
                  exact absurd H (by simp)
             ·rw [if_neg c33] at H
              exact absurd H (by simp)
            ·rw [if_neg c32] at H
             have c32b0 : decide (x15_1 < (t405.length : Int)) = false := decide_eq_false c32
             clear c32
             obtain rfl := Option.some.inj H
             go_wp2
             go_ret
             exact ⟨by first | rfl | (simp [errW_none, errW_some] <;> rfl) | (simp [*, errW_none, errW_some] <;> rfl), by repeat (first | (with_reducible first | exact HB.out | apply below_alloc | apply pw_below_drewN | apply below_drew1) | exact HB.out)⟩
         ·rw [if_neg c17] at H
          exact absurd H (by simp)
        ·rw [if_neg c16] at H
         exact absurd H (by simp)
       ·rw [if_neg c15] at H
        exact absurd H (by simp)
     ·rw [if_neg c11] at H
      exact absurd H (by simp)
    ·replace c10 := Bool.eq_false_iff.mpr c10
     subst c10
     have H1 : (none) = some r := by rw [if_neg (show ¬ (false = true) by decide)] at H; exact H
     clear H
     have H := H1
     clear H1
     exact absurd H (by simp)
   ·replace c9 := Bool.eq_false_iff.mpr c9
    subst c9
    have H1 : (some (t406 == true)) = some r := by rw [if_neg (show ¬ (false = true) by decide)] at H; exact H
    clear H
    have H := H1
    clear H1
    obtain rfl := Option.some.inj H
    go_enter Try.func13, Try.ntmps13
    go_wp2_with (first | ((with_reducible refine gate_callee (f := 18) rfl ?_); refine goesL_ (some 19) rfl rfl Try.func18 (by kernel_rfl) rfl #[.slice A0 l0.length c0] rfl (by (try simp only [List.map_toArray, List.map_cons, List.map_nil]); first | done | rfl | (simp only [List.length_drop, List.length_take]; rfl)) ?_; (with_reducible refine (laws_big.calls _ _ l0 false _ ?side1 ?side2 A2.out).mono ?_); (case side1 => exact cS HR0.out); (case side2 => exact HC0.out); rintro e w' ⟨rfl, ⟨nd, rfl⟩⟩; refine ⟨_, rfl, ?_⟩) | ((with_reducible refine gate_callee (f := 59) rfl ?_); refine goesL_ (some 22) rfl rfl Try.func59 (by kernel_rfl) rfl #[.slice A0 l0.length c0] rfl (by (try simp only [List.map_toArray, List.map_cons, List.map_nil]); first | done | rfl | (simp only [List.length_drop, List.length_take]; rfl)) ?_; (with_reducible refine (spec_DrawPoolRun.calls k _ _ l0 t397 t398 t399 t400 _ ?side1 ?side2 A4.out).mono ?_); (case side1 => exact cS HR0.out); (case side2 => exact HC0.out); rintro e w65 ⟨v401, v403, rfl, ho0, ho1, hb⟩; refine ⟨_, rfl, ?_⟩; have HO402 := Aside0.mk (Kd.R_lower ho0 (below_size (bS HB.out))); have HO404 := Aside0.mk (Kd.R_lower ho1 (below_size (bS HB.out))); replace HB := Aside0.mk (below_step (bS HB.out) hb); (try clear hb); (try clear hb2); (try clear hk); (try clear hi); (try clear ho0); (try clear ho1); obtain ⟨Ao66, co66, eo66⟩ := Kd.R_slice HO402.out; subst eo66; obtain ⟨Ao67, co67, eo67⟩ := Kd.R_slice HO404.out; subst eo67) | ((with_reducible refine gate_callee (f := 60) rfl ?_); refine goesL_ (some 32) rfl rfl Try.func60 (by kernel_rfl) rfl #[.int .i64 t397, .slice Ao66 t398.length co66, .int .i64 t399, .slice Ao67 t400.length co67] rfl (by (try simp only [List.map_toArray, List.map_cons, List.map_nil]); first | done | rfl | (simp only [List.length_drop, List.length_take]; rfl)) ?_; (with_reducible refine (impl_PoolRun.calls k t397 _ _ t398 t399 _ _ t400 t405 t406 _ ?side1 ?side2 ?side3 ?side4 A5.out).mono ?_); (case side1 => exact cS (Kd.R_reads' HO402.out).2.2); (case side2 => exact (Kd.R_reads' HO402.out).2.1); (case side3 => exact cS (Kd.R_reads' HO404.out).2.2); (case side4 => exact (Kd.R_reads' HO404.out).2.1); rintro e w68 ⟨v407, rfl, ho0, hb⟩; refine ⟨_, rfl, ?_⟩; replace HO402 := Aside0.mk (Kd.R_below (rS HO402.out) hb); replace HO404 := Aside0.mk (Kd.R_below (rS HO404.out) hb); have HO408 := Aside0.mk (Kd.R_lower ho0 (below_size (bS HB.out))); replace HB := Aside0.mk (below_step (bS HB.out) hb); (try clear hb); (try clear hb2); (try clear hk); (try clear hi); (try clear ho0)) | ((with_reducible refine gate_callee (f := 61) rfl ?_); refine goesL_ (some 40) rfl rfl Try.func61 (by kernel_rfl) rfl #[.int .i64 t397, .slice Ao66 t398.length co66, .int .i64 t399, .slice Ao67 t400.length co67] rfl (by (try simp only [List.map_toArray, List.map_cons, List.map_nil]); first | done | rfl | (simp only [List.length_drop, List.length_take]; rfl)) ?_; (with_reducible refine (spec_PoolRun.calls k t397 _ _ t398 t399 _ _ t400 t409 true _ ?side1 ?side2 ?side3 ?side4 A6.out).mono ?_); (case side1 => exact cS (Kd.R_reads' HO402.out).2.2); (case side2 => exact (Kd.R_reads' HO402.out).2.1); (case side3 => exact cS (Kd.R_reads' HO404.out).2.2); (case side4 => exact (Kd.R_reads' HO404.out).2.1); rintro e w69 ⟨v411, rfl, ho0, hb⟩; refine ⟨_, rfl, ?_⟩; replace HO402 := Aside0.mk (Kd.R_below (rS HO402.out) hb); replace HO404 := Aside0.mk (Kd.R_below (rS HO404.out) hb); have n2_ := Aside0.mk (Kd.R_elder' (rS HO408.out) (Kd.R_base ho0) hb); have HO412 := Aside0.mk (Kd.R_lower (rN ho0 HO408.out) (below_size (bS HB.out))); replace HB := Aside0.mk (below_step (bS HB.out) hb); clear HO408; have HO408 := n2_; clear n2_; (try clear hb); (try clear hb2); (try clear hk); (try clear hi); (try clear ho0)) | ((with_reducible refine gate_callee (f := 21) rfl ?_); refine goesL_ (some 46) rfl rfl Try.func21 (by kernel_rfl) rfl #[.int .i64 t397, .slice Ao66 t398.length co66] rfl (by (try simp only [List.map_toArray, List.map_cons, List.map_nil]); first | done | rfl | (simp only [List.length_drop, List.length_take]; rfl)) ?_; (with_reducible refine (spec_Canon.calls k t397 _ _ t398 t413 false _ ?side1 ?side2 A7.out).mono ?_); (case side1 => exact cS (Kd.R_reads' HO402.out).2.2); (case side2 => exact (Kd.R_reads' HO402.out).2.1); rintro e w70 ⟨v415, rfl, ho0, hb⟩; refine ⟨_, rfl, ?_⟩; replace HO402 := Aside0.mk (Kd.R_below (rS HO402.out) hb); have n1_ := Aside0.mk (Kd.R_elder' (rS HO404.out) (Kd.R_base ho0) hb); replace HO408 := Aside0.mk (Kd.R_below (rS HO408.out) hb); replace HO412 := Aside0.mk (Kd.R_below (rS HO412.out) hb); have HO416 := Aside0.mk (Kd.R_lower (rN ho0 HO404.out) (below_size (bS HB.out))); replace HB := Aside0.mk (below_step (bS HB.out) hb); clear HO404; have HO404 := n1_; clear n1_; (try clear hb); (try clear hb2); (try clear hk); (try clear hi); (try clear ho0)))
    go_ret
    exact ⟨by first | rfl | (simp [errW_none, errW_some] <;> rfl) | (simp [*, errW_none, errW_some] <;> rfl), by repeat (first | (with_reducible first | exact HB.out | apply below_alloc | apply pw_below_drewN | apply below_drew1) | exact HB.out)⟩
  ·replace c8 := Bool.eq_false_iff.mpr c8
   subst c8
   have H1 : (some (t406 == false)) = some r := by rw [if_neg (show ¬ (false = true) by decide)] at H; exact H
   clear H
   have H := H1
   clear H1
   obtain rfl := Option.some.inj H
   go_enter Try.func13, Try.ntmps13
   go_wp2_with (first | ((with_reducible refine gate_callee (f := 18) rfl ?_); refine goesL_ (some 19) rfl rfl Try.func18 (by kernel_rfl) rfl #[.slice A0 l0.length c0] rfl (by (try simp only [List.map_toArray, List.map_cons, List.map_nil]); first | done | rfl | (simp only [List.length_drop, List.length_take]; rfl)) ?_; (with_reducible refine (laws_big.calls _ _ l0 false _ ?side1 ?side2 A2.out).mono ?_); (case side1 => exact cS HR0.out); (case side2 => exact HC0.out); rintro e w' ⟨rfl, ⟨nd, rfl⟩⟩; refine ⟨_, rfl, ?_⟩) | ((with_reducible refine gate_callee (f := 59) rfl ?_); refine goesL_ (some 22) rfl rfl Try.func59 (by kernel_rfl) rfl #[.slice A0 l0.length c0] rfl (by (try simp only [List.map_toArray, List.map_cons, List.map_nil]); first | done | rfl | (simp only [List.length_drop, List.length_take]; rfl)) ?_; (with_reducible refine (spec_DrawPoolRun.calls k _ _ l0 t397 t398 t399 t400 _ ?side1 ?side2 A4.out).mono ?_); (case side1 => exact cS HR0.out); (case side2 => exact HC0.out); rintro e w71 ⟨v401, v403, rfl, ho0, ho1, hb⟩; refine ⟨_, rfl, ?_⟩; have HO402 := Aside0.mk (Kd.R_lower ho0 (below_size (bS HB.out))); have HO404 := Aside0.mk (Kd.R_lower ho1 (below_size (bS HB.out))); replace HB := Aside0.mk (below_step (bS HB.out) hb); (try clear hb); (try clear hb2); (try clear hk); (try clear hi); (try clear ho0); (try clear ho1); obtain ⟨Ao72, co72, eo72⟩ := Kd.R_slice HO402.out; subst eo72; obtain ⟨Ao73, co73, eo73⟩ := Kd.R_slice HO404.out; subst eo73) | ((with_reducible refine gate_callee (f := 60) rfl ?_); refine goesL_ (some 32) rfl rfl Try.func60 (by kernel_rfl) rfl #[.int .i64 t397, .slice Ao72 t398.length co72, .int .i64 t399, .slice Ao73 t400.length co73] rfl (by (try simp only [List.map_toArray, List.map_cons, List.map_nil]); first | done | rfl | (simp only [List.length_drop, List.length_take]; rfl)) ?_; (with_reducible refine (impl_PoolRun.calls k t397 _ _ t398 t399 _ _ t400 t405 t406 _ ?side1 ?side2 ?side3 ?side4 A5.out).mono ?_); (case side1 => exact cS (Kd.R_reads' HO402.out).2.2); (case side2 => exact (Kd.R_reads' HO402.out).2.1); (case side3 => exact cS (Kd.R_reads' HO404.out).2.2); (case side4 => exact (Kd.R_reads' HO404.out).2.1); rintro e w74 ⟨v407, rfl, ho0, hb⟩; refine ⟨_, rfl, ?_⟩; replace HO402 := Aside0.mk (Kd.R_below (rS HO402.out) hb); replace HO404 := Aside0.mk (Kd.R_below (rS HO404.out) hb); have HO408 := Aside0.mk (Kd.R_lower ho0 (below_size (bS HB.out))); replace HB := Aside0.mk (below_step (bS HB.out) hb); (try clear hb); (try clear hb2); (try clear hk); (try clear hi); (try clear ho0)) | ((with_reducible refine gate_callee (f := 61) rfl ?_); refine goesL_ (some 40) rfl rfl Try.func61 (by kernel_rfl) rfl #[.int .i64 t397, .slice Ao72 t398.length co72, .int .i64 t399, .slice Ao73 t400.length co73] rfl (by (try simp only [List.map_toArray, List.map_cons, List.map_nil]); first | done | rfl | (simp only [List.length_drop, List.length_take]; rfl)) ?_; (with_reducible refine (spec_PoolRun.calls k t397 _ _ t398 t399 _ _ t400 t409 false _ ?side1 ?side2 ?side3 ?side4 A6.out).mono ?_); (case side1 => exact cS (Kd.R_reads' HO402.out).2.2); (case side2 => exact (Kd.R_reads' HO402.out).2.1); (case side3 => exact cS (Kd.R_reads' HO404.out).2.2); (case side4 => exact (Kd.R_reads' HO404.out).2.1); rintro e w75 ⟨v411, rfl, ho0, hb⟩; refine ⟨_, rfl, ?_⟩; replace HO402 := Aside0.mk (Kd.R_below (rS HO402.out) hb); replace HO404 := Aside0.mk (Kd.R_below (rS HO404.out) hb); have n2_ := Aside0.mk (Kd.R_elder' (rS HO408.out) (Kd.R_base ho0) hb); have HO412 := Aside0.mk (Kd.R_lower (rN ho0 HO408.out) (below_size (bS HB.out))); replace HB := Aside0.mk (below_step (bS HB.out) hb); clear HO408; have HO408 := n2_; clear n2_; (try clear hb); (try clear hb2); (try clear hk); (try clear hi); (try clear ho0)) | ((with_reducible refine gate_callee (f := 21) rfl ?_); refine goesL_ (some 46) rfl rfl Try.func21 (by kernel_rfl) rfl #[.int .i64 t397, .slice Ao72 t398.length co72] rfl (by (try simp only [List.map_toArray, List.map_cons, List.map_nil]); first | done | rfl | (simp only [List.length_drop, List.length_take]; rfl)) ?_; (with_reducible refine (spec_Canon.calls k t397 _ _ t398 t413 t414 _ ?side1 ?side2 A7.out).mono ?_); (case side1 => exact cS (Kd.R_reads' HO402.out).2.2); (case side2 => exact (Kd.R_reads' HO402.out).2.1); rintro e w76 ⟨v415, rfl, ho0, hb⟩; refine ⟨_, rfl, ?_⟩; replace HO402 := Aside0.mk (Kd.R_below (rS HO402.out) hb); have n1_ := Aside0.mk (Kd.R_elder' (rS HO404.out) (Kd.R_base ho0) hb); replace HO408 := Aside0.mk (Kd.R_below (rS HO408.out) hb); replace HO412 := Aside0.mk (Kd.R_below (rS HO412.out) hb); have HO416 := Aside0.mk (Kd.R_lower (rN ho0 HO404.out) (below_size (bS HB.out))); replace HB := Aside0.mk (below_step (bS HB.out) hb); clear HO404; have HO404 := n1_; clear n1_; (try clear hb); (try clear hb2); (try clear hk); (try clear hi); (try clear ho0)))
   go_ret
   exact ⟨by first | rfl | (simp [errW_none, errW_some] <;> rfl) | (simp [*, errW_none, errW_some] <;> rfl), by repeat (first | (with_reducible first | exact HB.out | apply below_alloc | apply pw_below_drewN | apply below_drew1) | exact HB.out)⟩

end Go.Proofs.Ytpdcgnfdffbolaa.PFnNoStuck
