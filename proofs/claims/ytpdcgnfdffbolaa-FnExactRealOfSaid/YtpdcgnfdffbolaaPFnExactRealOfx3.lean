-- written by wip/tools/myprint.py out of the program's own print
import Derived.Test.YtpdcgnfdffbolaaPFnExactRealOfx0
import Derived.Test.YtpdcgnfdffbolaaPFnExactRealOfx1
import Derived.Test.YtpdcgnfdffbolaaPFnExactRealOfx2
namespace Go.Proofs.Ytpdcgnfdffbolaa.PFnExactRealOf
open Go.RowKit Go.Proofs.YtpdcgnfdffbolaaW.PrintWords Go.Proofs.YtpdcgnfdffbolaaW.PrintLast Go.Proofs.YtpdcgnfdffbolaaW.PrintMore
attribute [local go_sem] max2_int min2_int max_two min_two max_three min_three max_four min_four   -- for this text's walks alone
set_option linter.unusedVariables false
set_option linter.unusedSimpArgs false

/-! ### laws_sameFloat: function 17 -/
def laws_sameFloat.j0 : Nat → Nat → Nat → Bool → Option (Bool)
  | 0, _, _, _ => none
  | k + 1, x0, x1, x12 => if x12 = true then (if (FloatKind.f64.format.order x0 x0 != some Ordering.eq) = true then (some (FloatKind.f64.format.order x1 x1 != some Ordering.eq)) else (some false)) else (if (FloatKind.f64.format.order x0 0 == some Ordering.eq) = true then (if (FloatKind.f64.format.order x1 0 == some Ordering.eq) = true then (if (floatBits .quo .f64 4607182418800017408 x0).isSome = true then (if (floatBits .quo .f64 4607182418800017408 x1).isSome = true then (some ((FloatKind.f64.format.order ((floatBits .quo .f64 4607182418800017408 x0).getD 0) 0 == some Ordering.gt) == (FloatKind.f64.format.order ((floatBits .quo .f64 4607182418800017408 x1).getD 0) 0 == some Ordering.gt))) else (none)) else (none)) else (some (FloatKind.f64.format.order x0 x1 == some Ordering.eq))) else (some (FloatKind.f64.format.order x0 x1 == some Ordering.eq)))
def laws_sameFloat.f (k : Nat) (a0 : Nat) (a1 : Nat) : Option (Bool) := if (FloatKind.f64.format.order a0 a0 != some Ordering.eq) = true then (laws_sameFloat.j0 k a0 a1 true) else (laws_sameFloat.j0 k a0 a1 (FloatKind.f64.format.order a1 a1 != some Ordering.eq))
theorem laws_sameFloat.mono_l : ∀ k, (∀ y0 y1 y2, LeO (laws_sameFloat.j0 k y0 y1 y2) (laws_sameFloat.j0 (k + 1) y0 y1 y2))
  | 0 => fun _ _ _ r h => by simp [laws_sameFloat.j0] at h
  | k + 1 => by
    have ih0 := laws_sameFloat.mono_l k
    · intro y0 y1 y2
      unfold laws_sameFloat.j0
      repeat' first
      | (with_reducible exact ih0 _ _ _)
      | (with_reducible exact LeO.refl _)
      | (with_reducible exact LeO.none _)
      | (with_reducible refine LeO.ite ?_ ?_)
      | (with_reducible refine LeO.bind ?_ (fun _ => ?_))
      | exact ih0 _ _ _
      | exact LeO.none _
      | refine LeO.ite ?_ ?_
      | refine LeO.bind ?_ (fun _ => ?_)
theorem laws_sameFloat.mono : ∀ a0 a1 k, LeO (laws_sameFloat.f k a0 a1) (laws_sameFloat.f (k + 1) a0 a1) := by
  intro a0 a1 k
  have ih0 := laws_sameFloat.mono_l k
  unfold laws_sameFloat.f
  repeat' first
      | (with_reducible exact ih0 _ _ _)
      | (with_reducible exact LeO.refl _)
      | (with_reducible exact LeO.none _)
      | (with_reducible refine LeO.ite ?_ ?_)
      | (with_reducible refine LeO.bind ?_ (fun _ => ?_))
      | exact ih0 _ _ _
      | exact LeO.none _
      | refine LeO.ite ?_ ?_
      | refine LeO.bind ?_ (fun _ => ?_)
set_option maxHeartbeats 8000000 in
set_option maxRecDepth 100000 in
theorem laws_sameFloat.calls (k : Nat) (a0 : Nat) (a1 : Nat) (r : Bool) (w : World) (h : laws_sameFloat.f k a0 a1 = some r) :
    Calls Try.prog 17 #[.float .f64 a0, .float .f64 a1] w fun e w' => e = .returned (.bool r) ∧ Drawn0 w w' := by
  have H : (if (FloatKind.f64.format.order a0 a0 != some Ordering.eq) = true then (laws_sameFloat.j0 k a0 a1 true) else (laws_sameFloat.j0 k a0 a1 (FloatKind.f64.format.order a1 a1 != some Ordering.eq))) = some r := h
  clear h
  have HC3 := Aside0.mk H
  clear H
  go_enter Try.func17, Try.ntmps17
  go_upto_region 1 with (fail)
  go_cut [12] (fun v12 wc => ∃ (kq : Nat) (x12_2 : Bool), v12 = .bool x12_2 ∧ Aside0 (laws_sameFloat.j0 kq a0 a1 x12_2 = some r) ∧ Aside0 (kq ≤ k) ∧ Drawn0 w wc)
  case first =>
    have H := HC3.out
    clear HC3
    by_cases c4 : (FloatKind.f64.format.order a0 a0 != some Ordering.eq) = true
    · rw [if_pos c4] at H
      have c4b0 : (FloatKind.f64.format.order a0 a0 != some Ordering.eq) = true := c4
      (try (have c4b1 : decide (FloatKind.f64.format.order a0 a0 = some Ordering.eq) = false := by simpa using c4))
      (try (have c4b2 : (FloatKind.f64.format.order a0 a0 == some Ordering.eq) = false := by simpa using c4))
      (try (have c4b3 : ¬ (FloatKind.f64.format.order a0 a0 = some Ordering.eq) := by simpa using c4))
      clear c4
      (first | rw [c4b0] | (simp only [i64_w, i32_w]; rw [c4b0]) | skip)
      have H' := Aside0.mk H
      clear H
      go_wp2
      go_meet
      case rel => exact ⟨_, (true), (by first | rfl | (simp; done) | (simp [*]; done)), H', ⟨by first | omega | exact Nat.le_refl _⟩, by repeat (first | exact Drawn0.refl _ | apply Drawn0.step)⟩
    · rw [if_neg c4] at H
      have c4b0 : (FloatKind.f64.format.order a0 a0 != some Ordering.eq) = false := by simpa using c4
      (try (have c4b1 : decide (FloatKind.f64.format.order a0 a0 = some Ordering.eq) = true := by simpa using c4))
      (try (have c4b2 : (FloatKind.f64.format.order a0 a0 == some Ordering.eq) = true := by simpa using c4))
      clear c4
      (first | rw [c4b0] | (simp only [i64_w, i32_w]; rw [c4b0]) | skip)
      have H' := Aside0.mk H
      clear H
      go_wp2
      go_meet
      case rel => exact ⟨_, ((FloatKind.f64.format.order a1 a1 != some Ordering.eq)), (by first | rfl | (simp; done) | (simp [*]; done)), H', ⟨by first | omega | exact Nat.le_refl _⟩, by repeat (first | exact Drawn0.refl _ | apply Drawn0.step)⟩
  case rest =>
    clear HC3
    try clear c1
    try clear p2
    try clear c4
    try clear c4b0
    try clear c4b1
    try clear c4b2
    obtain ⟨kq, x12_2, rfl, HA, HJ2, ⟨mc2, rfl⟩⟩ := hcut
    cases kq with
    | zero => exact absurd HA.out (by simp [laws_sameFloat.j0])
    | succ kj2 =>
      have H := HA.out
      clear HA
      simp only [laws_sameFloat.j0] at H
      by_cases c5 : x12_2 = true
      · subst c5
        have H1 : (if (FloatKind.f64.format.order a0 a0 != some Ordering.eq) = true then (some (FloatKind.f64.format.order a1 a1 != some Ordering.eq)) else (some false)) = some r := by rw [if_pos rfl] at H; exact H
        clear H
        have H := H1
        clear H1
        by_cases c6 : (FloatKind.f64.format.order a0 a0 != some Ordering.eq) = true
        · rw [if_pos c6] at H
          have c6b0 : (FloatKind.f64.format.order a0 a0 != some Ordering.eq) = true := c6
          (try (have c6b1 : decide (FloatKind.f64.format.order a0 a0 = some Ordering.eq) = false := by simpa using c6))
          (try (have c6b2 : (FloatKind.f64.format.order a0 a0 == some Ordering.eq) = false := by simpa using c6))
          (try (have c6b3 : ¬ (FloatKind.f64.format.order a0 a0 = some Ordering.eq) := by simpa using c6))
          clear c6
          obtain rfl := Option.some.inj H
          go_wp2
          go_ret
          exact ⟨by first | rfl | (simp; done) | (simp [*]; done), by repeat (first | exact Drawn0.refl _ | apply Drawn0.step)⟩
        · rw [if_neg c6] at H
          have c6b0 : (FloatKind.f64.format.order a0 a0 != some Ordering.eq) = false := by simpa using c6
          (try (have c6b1 : decide (FloatKind.f64.format.order a0 a0 = some Ordering.eq) = true := by simpa using c6))
          (try (have c6b2 : (FloatKind.f64.format.order a0 a0 == some Ordering.eq) = true := by simpa using c6))
          clear c6
          obtain rfl := Option.some.inj H
          go_wp2
          go_ret
          exact ⟨by first | rfl | (simp; done) | (simp [*]; done), by repeat (first | exact Drawn0.refl _ | apply Drawn0.step)⟩
      · replace c5 := Bool.eq_false_iff.mpr c5
        subst c5
        have H1 : (if (FloatKind.f64.format.order a0 0 == some Ordering.eq) = true then (if (FloatKind.f64.format.order a1 0 == some Ordering.eq) = true then (if (floatBits .quo .f64 4607182418800017408 a0).isSome = true then (if (floatBits .quo .f64 4607182418800017408 a1).isSome = true then (some ((FloatKind.f64.format.order ((floatBits .quo .f64 4607182418800017408 a0).getD 0) 0 == some Ordering.gt) == (FloatKind.f64.format.order ((floatBits .quo .f64 4607182418800017408 a1).getD 0) 0 == some Ordering.gt))) else (none)) else (none)) else (some (FloatKind.f64.format.order a0 a1 == some Ordering.eq))) else (some (FloatKind.f64.format.order a0 a1 == some Ordering.eq))) = some r := by rw [if_neg (show ¬ (false = true) by decide)] at H; exact H
        clear H
        have H := H1
        clear H1
        by_cases c7 : (FloatKind.f64.format.order a0 0 == some Ordering.eq) = true
        · rw [if_pos c7] at H
          have c7b0 : (FloatKind.f64.format.order a0 0 == some Ordering.eq) = true := c7
          (try (have c7b1 : decide (FloatKind.f64.format.order a0 0 = some Ordering.eq) = true := by simpa using c7))
          (try (have c7b2 : (FloatKind.f64.format.order a0 0 == some Ordering.eq) = true := by simpa using c7))
          clear c7
          by_cases c8 : (FloatKind.f64.format.order a1 0 == some Ordering.eq) = true
          · rw [if_pos c8] at H
            have c8b0 : (FloatKind.f64.format.order a1 0 == some Ordering.eq) = true := c8
            (try (have c8b1 : decide (FloatKind.f64.format.order a1 0 = some Ordering.eq) = true := by simpa using c8))
            (try (have c8b2 : (FloatKind.f64.format.order a1 0 == some Ordering.eq) = true := by simpa using c8))
            clear c8
            by_cases c9 : (floatBits .quo .f64 4607182418800017408 a0).isSome = true
            · rw [if_pos c9] at H
              have c9b0 := fun (t_ : TypeId) (w_ : World) => run_float_arith (P := Try.prog) w_ .quo t_ .f64 _ _ _ (Go.Proofs.Ytpdcgnfdffbolaa.Own.some_of (d := 0) c9)
              clear c9
              by_cases c10 : (floatBits .quo .f64 4607182418800017408 a1).isSome = true
              · rw [if_pos c10] at H
                have c10b0 := fun (t_ : TypeId) (w_ : World) => run_float_arith (P := Try.prog) w_ .quo t_ .f64 _ _ _ (Go.Proofs.Ytpdcgnfdffbolaa.Own.some_of (d := 0) c10)
                clear c10
                obtain rfl := Option.some.inj H
                go_wp2
                go_ret
                exact ⟨by first | rfl | (simp; done) | (simp [*]; done), by repeat (first | exact Drawn0.refl _ | apply Drawn0.step)⟩
              · rw [if_neg c10] at H
                exact absurd H (by simp)
            · rw [if_neg c9] at H
              exact absurd H (by simp)
          · rw [if_neg c8] at H
            have c8b0 : (FloatKind.f64.format.order a1 0 == some Ordering.eq) = false := by simpa using c8
            (try (have c8b1 : decide (FloatKind.f64.format.order a1 0 = some Ordering.eq) = false := by simpa using c8))
            (try (have c8b2 : (FloatKind.f64.format.order a1 0 == some Ordering.eq) = false := by simpa using c8))
            (try (have c8b3 : ¬ (FloatKind.f64.format.order a1 0 = some Ordering.eq) := by simpa using c8))
            clear c8
            obtain rfl := Option.some.inj H
            go_wp2
            go_ret
            exact ⟨by first | rfl | (simp; done) | (simp [*]; done), by repeat (first | exact Drawn0.refl _ | apply Drawn0.step)⟩
        · rw [if_neg c7] at H
          have c7b0 : (FloatKind.f64.format.order a0 0 == some Ordering.eq) = false := by simpa using c7
          (try (have c7b1 : decide (FloatKind.f64.format.order a0 0 = some Ordering.eq) = false := by simpa using c7))
          (try (have c7b2 : (FloatKind.f64.format.order a0 0 == some Ordering.eq) = false := by simpa using c7))
          (try (have c7b3 : ¬ (FloatKind.f64.format.order a0 0 = some Ordering.eq) := by simpa using c7))
          clear c7
          obtain rfl := Option.some.inj H
          go_wp2
          go_ret
          exact ⟨by first | rfl | (simp; done) | (simp [*]; done), by repeat (first | exact Drawn0.refl _ | apply Drawn0.step)⟩

/-! ### laws_FnExactRealOf: function 3 -/
def laws_FnExactRealOf.f (k : Nat) (a0 : ByteArray) : Option (Bool) := if (a0.size : Int) > 1048576 then (some true) else ((spec_RealOf.f k a0).bind fun bt116 => ((impl_RealOf.f k a0).bind fun bt118 => ((laws_sameFloat.f k bt118.1 bt116.1).bind fun t120 => (if t120 = true then (if (bt118.2 != bt116.2) = true then (some false) else (some true)) else (some false)))))
theorem laws_FnExactRealOf.mono : ∀ a0 k, LeO (laws_FnExactRealOf.f k a0) (laws_FnExactRealOf.f (k + 1) a0) := by
  intro a0 k
  unfold laws_FnExactRealOf.f
  repeat' first
      | (with_reducible exact impl_RealOf.mono _ _)
      | (with_reducible exact laws_sameFloat.mono _ _ _)
      | (with_reducible exact spec_RealOf.mono _ _)
      | (with_reducible exact LeO.refl _)
      | (with_reducible exact LeO.none _)
      | (with_reducible refine LeO.ite ?_ ?_)
      | (with_reducible refine LeO.bind ?_ (fun _ => ?_))
      | exact impl_RealOf.mono _ _
      | exact laws_sameFloat.mono _ _ _
      | exact spec_RealOf.mono _ _
      | exact LeO.none _
      | refine LeO.ite ?_ ?_
      | refine LeO.bind ?_ (fun _ => ?_)
set_option maxHeartbeats 8000000 in
set_option maxRecDepth 100000 in
theorem laws_FnExactRealOf.calls (k : Nat) (a0 : ByteArray) (r : Bool) (w : World) (h : laws_FnExactRealOf.f k a0 = some r) :
    Calls Try.prog 3 #[.string a0] w fun e w' => e = .returned (.bool r) ∧ Drawn0 w w' := by
  have H : (if (a0.size : Int) > 1048576 then (some true) else ((spec_RealOf.f k a0).bind fun bt116 => ((impl_RealOf.f k a0).bind fun bt118 => ((laws_sameFloat.f k bt118.1 bt116.1).bind fun t120 => (if t120 = true then (if (bt118.2 != bt116.2) = true then (some false) else (some true)) else (some false)))))) = some r := h
  clear h
  by_cases c2 : (a0.size : Int) > 1048576
  · rw [if_pos c2] at H
    have c2b0 : decide (1048576 < (a0.size : Int)) = true := decide_eq_true c2
    have c2b1 : decide (1048576 < a0.size) = true := decide_eq_true (by omega)
    clear c2
    obtain rfl := Option.some.inj H
    go_enter Try.func3, Try.ntmps3
    go_wp2
    go_ret
    exact ⟨by first | rfl | (simp; done) | (simp [*]; done), by repeat (first | exact Drawn0.refl _ | apply Drawn0.step)⟩
  · rw [if_neg c2] at H
    have c2b0 : decide (1048576 < (a0.size : Int)) = false := decide_eq_false c2
    have c2b1 : decide (1048576 < a0.size) = false := decide_eq_false (by omega)
    clear c2
    replace H := Option.bind_eq_some_iff.mp H
    obtain ⟨⟨t116, t117⟩, A30, H⟩ := H
    replace H : ((impl_RealOf.f k a0).bind fun bt118 => ((laws_sameFloat.f k bt118.1 t116).bind fun t120 => (if t120 = true then (if (bt118.2 != t117) = true then (some false) else (some true)) else (some false)))) = some r := H
    have A3 := Aside0.mk A30
    clear A30
    replace H := Option.bind_eq_some_iff.mp H
    obtain ⟨⟨t118, t119⟩, A40, H⟩ := H
    replace H : ((laws_sameFloat.f k t118 t116).bind fun t120 => (if t120 = true then (if (t119 != t117) = true then (some false) else (some true)) else (some false))) = some r := H
    have A4 := Aside0.mk A40
    clear A40
    replace H := Option.bind_eq_some_iff.mp H
    obtain ⟨t120, A50, H⟩ := H
    replace H : (if t120 = true then (if (t119 != t117) = true then (some false) else (some true)) else (some false)) = some r := H
    have A5 := Aside0.mk A50
    clear A50
    by_cases c6 : t120 = true
    · subst c6
      have H1 : (if (t119 != t117) = true then (some false) else (some true)) = some r := by rw [if_pos rfl] at H; exact H
      clear H
      have H := H1
      clear H1
      by_cases c7 : (t119 != t117) = true
      · rw [if_pos c7] at H
        have c7b0 : (t119 != t117) = true := c7
        (try (have c7b1 : decide (t119 = t117) = false := by simpa using c7))
        (try (have c7b2 : (t119 == t117) = false := by simpa using c7))
        (try (have c7b3 : ¬ (t119 = t117) := by simpa using c7))
        clear c7
        obtain rfl := Option.some.inj H
        go_enter Try.func3, Try.ntmps3
        go_wp2_with (first | ((with_reducible refine gate_callee (f := 15) rfl ?_); refine goesL_ (some 12) rfl rfl Try.func15 (by kernel_rfl) rfl #[.string a0] rfl (by (try simp only [List.map_toArray, List.map_cons, List.map_nil]); first | done | rfl | (simp only [List.length_drop, List.length_take]; rfl)) ?_; (with_reducible refine (spec_RealOf.calls k a0 t116 t117 _ A3.out).mono ?_); rintro e w' ⟨rfl, ⟨nd, rfl⟩⟩; refine ⟨_, rfl, ?_⟩) | ((with_reducible refine gate_callee (f := 16) rfl ?_); refine goesL_ (some 17) rfl rfl Try.func16 (by kernel_rfl) rfl #[.string a0] rfl (by (try simp only [List.map_toArray, List.map_cons, List.map_nil]); first | done | rfl | (simp only [List.length_drop, List.length_take]; rfl)) ?_; (with_reducible refine (impl_RealOf.calls k a0 t118 t119 _ A4.out).mono ?_); rintro e w' ⟨rfl, ⟨nd, rfl⟩⟩; refine ⟨_, rfl, ?_⟩) | ((with_reducible refine gate_callee (f := 17) rfl ?_); refine goesL_ (some 22) rfl rfl Try.func17 (by kernel_rfl) rfl #[.float .f64 t118, .float .f64 t116] rfl (by (try simp only [List.map_toArray, List.map_cons, List.map_nil]); first | done | rfl | (simp only [List.length_drop, List.length_take]; rfl)) ?_; (with_reducible refine (laws_sameFloat.calls k t118 t116 true _ A5.out).mono ?_); rintro e w' ⟨rfl, ⟨nd, rfl⟩⟩; refine ⟨_, rfl, ?_⟩))
        go_ret
        exact ⟨by first | rfl | (simp; done) | (simp [*]; done), by repeat (first | exact Drawn0.refl _ | apply Drawn0.step)⟩
      · rw [if_neg c7] at H
        have c7b0 : (t119 != t117) = false := by simpa using c7
        (try (have c7b1 : decide (t119 = t117) = true := by simpa using c7))
        (try (have c7b2 : (t119 == t117) = true := by simpa using c7))
        clear c7
        obtain rfl := Option.some.inj H
        go_enter Try.func3, Try.ntmps3
        go_wp2_with (first | ((with_reducible refine gate_callee (f := 15) rfl ?_); refine goesL_ (some 12) rfl rfl Try.func15 (by kernel_rfl) rfl #[.string a0] rfl (by (try simp only [List.map_toArray, List.map_cons, List.map_nil]); first | done | rfl | (simp only [List.length_drop, List.length_take]; rfl)) ?_; (with_reducible refine (spec_RealOf.calls k a0 t116 t117 _ A3.out).mono ?_); rintro e w' ⟨rfl, ⟨nd, rfl⟩⟩; refine ⟨_, rfl, ?_⟩) | ((with_reducible refine gate_callee (f := 16) rfl ?_); refine goesL_ (some 17) rfl rfl Try.func16 (by kernel_rfl) rfl #[.string a0] rfl (by (try simp only [List.map_toArray, List.map_cons, List.map_nil]); first | done | rfl | (simp only [List.length_drop, List.length_take]; rfl)) ?_; (with_reducible refine (impl_RealOf.calls k a0 t118 t119 _ A4.out).mono ?_); rintro e w' ⟨rfl, ⟨nd, rfl⟩⟩; refine ⟨_, rfl, ?_⟩) | ((with_reducible refine gate_callee (f := 17) rfl ?_); refine goesL_ (some 22) rfl rfl Try.func17 (by kernel_rfl) rfl #[.float .f64 t118, .float .f64 t116] rfl (by (try simp only [List.map_toArray, List.map_cons, List.map_nil]); first | done | rfl | (simp only [List.length_drop, List.length_take]; rfl)) ?_; (with_reducible refine (laws_sameFloat.calls k t118 t116 true _ A5.out).mono ?_); rintro e w' ⟨rfl, ⟨nd, rfl⟩⟩; refine ⟨_, rfl, ?_⟩))
        go_ret
        exact ⟨by first | rfl | (simp; done) | (simp [*]; done), by repeat (first | exact Drawn0.refl _ | apply Drawn0.step)⟩
    · replace c6 := Bool.eq_false_iff.mpr c6
      subst c6
      have H1 : (some false) = some r := by rw [if_neg (show ¬ (false = true) by decide)] at H; exact H
      clear H
      have H := H1
      clear H1
      obtain rfl := Option.some.inj H
      go_enter Try.func3, Try.ntmps3
      go_wp2_with (first | ((with_reducible refine gate_callee (f := 15) rfl ?_); refine goesL_ (some 12) rfl rfl Try.func15 (by kernel_rfl) rfl #[.string a0] rfl (by (try simp only [List.map_toArray, List.map_cons, List.map_nil]); first | done | rfl | (simp only [List.length_drop, List.length_take]; rfl)) ?_; (with_reducible refine (spec_RealOf.calls k a0 t116 t117 _ A3.out).mono ?_); rintro e w' ⟨rfl, ⟨nd, rfl⟩⟩; refine ⟨_, rfl, ?_⟩) | ((with_reducible refine gate_callee (f := 16) rfl ?_); refine goesL_ (some 17) rfl rfl Try.func16 (by kernel_rfl) rfl #[.string a0] rfl (by (try simp only [List.map_toArray, List.map_cons, List.map_nil]); first | done | rfl | (simp only [List.length_drop, List.length_take]; rfl)) ?_; (with_reducible refine (impl_RealOf.calls k a0 t118 t119 _ A4.out).mono ?_); rintro e w' ⟨rfl, ⟨nd, rfl⟩⟩; refine ⟨_, rfl, ?_⟩) | ((with_reducible refine gate_callee (f := 17) rfl ?_); refine goesL_ (some 22) rfl rfl Try.func17 (by kernel_rfl) rfl #[.float .f64 t118, .float .f64 t116] rfl (by (try simp only [List.map_toArray, List.map_cons, List.map_nil]); first | done | rfl | (simp only [List.length_drop, List.length_take]; rfl)) ?_; (with_reducible refine (laws_sameFloat.calls k t118 t116 false _ A5.out).mono ?_); rintro e w' ⟨rfl, ⟨nd, rfl⟩⟩; refine ⟨_, rfl, ?_⟩))
      go_ret
      exact ⟨by first | rfl | (simp; done) | (simp [*]; done), by repeat (first | exact Drawn0.refl _ | apply Drawn0.step)⟩

end Go.Proofs.Ytpdcgnfdffbolaa.PFnExactRealOf
