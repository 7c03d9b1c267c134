-- written by wip/tools/myprint.py out of the program's own print
import Derived.Test.YtapbpfbhghheeaaPFnCirclex0
namespace Go.Proofs.Ytapbpfbhghheeaa.PFnCircle
open Go.RowKit Go.Proofs.YtapbpfbhghheeaaW.PrintWords Go.Proofs.YtapbpfbhghheeaaW.PrintLast Go.Proofs.YtapbpfbhghheeaaW.PrintMore
attribute [local go_sem] max2_int min2_int max_two min_two max_three min_three max_four min_four   -- for this text's walks alone
set_option linter.unusedVariables false
set_option linter.unusedSimpArgs false

/-! ### spec_l1In: function 54 -/
def spec_l1In.f (a0 : Int) (a1 : Int) (a2 : Int) : Option (Bool) := if a0 ≥ a1 then (some (decide (a0 ≤ a2))) else (some false)
set_option maxHeartbeats 8000000 in
set_option maxRecDepth 100000 in
theorem spec_l1In.calls (a0 : Int) (a1 : Int) (a2 : Int) (r : Bool) (w : World) (h : spec_l1In.f a0 a1 a2 = some r) :
    Calls Try.prog 54 #[.int .i64 a0, .int .i64 a1, .int .i64 a2] w fun e w' => e = .returned (.bool r) ∧ Drawn0 w w' := by
  have H : (if a0 ≥ a1 then (some (decide (a0 ≤ a2))) else (some false)) = some r := h
  clear h
  by_cases c4 : a0 ≥ a1
  · rw [if_pos c4] at H
    have c4b0 : decide (a1 ≤ a0) = true := decide_eq_true c4
    clear c4
    obtain rfl := Option.some.inj H
    go_enter Try.func54, Try.ntmps54
    go_wp2
    go_ret
    exact ⟨by first | rfl | (simp; done) | (simp [*]; done), by repeat (first | exact Drawn0.refl _ | apply Drawn0.step)⟩
  · rw [if_neg c4] at H
    have c4b0 : decide (a1 ≤ a0) = false := decide_eq_false c4
    clear c4
    obtain rfl := Option.some.inj H
    go_enter Try.func54, Try.ntmps54
    go_wp2
    go_ret
    exact ⟨by first | rfl | (simp; done) | (simp [*]; done), by repeat (first | exact Drawn0.refl _ | apply Drawn0.step)⟩

/-! ### spec_GraphOk: function 16 -/
mutual
def spec_GraphOk.j0 : Nat → Int → List (S60) → Bool → Option (Bool)
  | 0, _, _, _ => none
  | k + 1, x0, x1, x13 => if x13 = true then (some false) else (spec_GraphOk.l0 k x0 x1 0)
def spec_GraphOk.l0 : Nat → Int → List (S60) → Int → Option (Bool)
  | 0, _, _, _ => none
  | k + 1, x0, x1, x5 => if x5 < (x1.length : Int) then (if 0 ≤ x5 then ((spec_l1In.f ((rd_T60 x1 x5).f0) 0 (wrap64 (x0 - 1))).bind fun t103 => (if t103 = true then ((spec_l1In.f ((rd_T60 x1 x5).f1) 0 (wrap64 (x0 - 1))).bind fun t105 => (if t105 = true then (spec_GraphOk.l0 k x0 x1 (wrap64 (x5 + 1))) else (some false))) else (some false))) else (none)) else (some true)
end
def spec_GraphOk.f (k : Nat) (a0 : Int) (l1 : List (S60)) : Option (Bool) := (spec_l1In.f a0 0 16).bind fun t101 => (if t101 = true then (spec_GraphOk.j0 k a0 l1 (decide ((l1.length : Int) > 200))) else (spec_GraphOk.j0 k a0 l1 true))
theorem spec_GraphOk.mono_l : ∀ k, (∀ y0 y1 y2, LeO (spec_GraphOk.j0 k y0 y1 y2) (spec_GraphOk.j0 (k + 1) y0 y1 y2)) ∧ (∀ y0 y1 y2, LeO (spec_GraphOk.l0 k y0 y1 y2) (spec_GraphOk.l0 (k + 1) y0 y1 y2))
  | 0 => ⟨fun _ _ _ r h => by simp [spec_GraphOk.j0] at h, fun _ _ _ r h => by simp [spec_GraphOk.l0] at h⟩
  | k + 1 => by
    obtain ⟨ih0, ih1⟩ := spec_GraphOk.mono_l k
    refine ⟨?_, ?_⟩
    · intro y0 y1 y2
      unfold spec_GraphOk.j0
      repeat' first
      | (with_reducible exact ih0 _ _ _)
      | (with_reducible exact ih1 _ _ _)
      | (with_reducible exact LeO.refl _)
      | (with_reducible exact LeO.none _)
      | (with_reducible refine LeO.ite ?_ ?_)
      | (with_reducible refine LeO.bind ?_ (fun _ => ?_))
      | exact ih0 _ _ _
      | exact ih1 _ _ _
      | exact LeO.none _
      | refine LeO.ite ?_ ?_
      | refine LeO.bind ?_ (fun _ => ?_)
    · intro y0 y1 y2
      unfold spec_GraphOk.l0
      repeat' first
      | (with_reducible exact ih0 _ _ _)
      | (with_reducible exact ih1 _ _ _)
      | (with_reducible exact LeO.refl _)
      | (with_reducible exact LeO.none _)
      | (with_reducible refine LeO.ite ?_ ?_)
      | (with_reducible refine LeO.bind ?_ (fun _ => ?_))
      | exact ih0 _ _ _
      | exact ih1 _ _ _
      | exact LeO.none _
      | refine LeO.ite ?_ ?_
      | refine LeO.bind ?_ (fun _ => ?_)
theorem spec_GraphOk.mono : ∀ a0 a1 k, LeO (spec_GraphOk.f k a0 a1) (spec_GraphOk.f (k + 1) a0 a1) := by
  intro a0 a1 k
  obtain ⟨ih0, ih1⟩ := spec_GraphOk.mono_l k
  unfold spec_GraphOk.f
  repeat' first
      | (with_reducible exact ih0 _ _ _)
      | (with_reducible exact ih1 _ _ _)
      | (with_reducible exact LeO.refl _)
      | (with_reducible exact LeO.none _)
      | (with_reducible refine LeO.ite ?_ ?_)
      | (with_reducible refine LeO.bind ?_ (fun _ => ?_))
      | exact ih0 _ _ _
      | exact ih1 _ _ _
      | exact LeO.none _
      | refine LeO.ite ?_ ?_
      | refine LeO.bind ?_ (fun _ => ?_)
set_option maxHeartbeats 8000000 in
set_option maxRecDepth 100000 in
theorem spec_GraphOk.calls (k : Nat) (a0 : Int) (A1 : Option Addr) (c1 : Nat) (l1 : List (S60)) (r : Bool) (w : World) (hr1 : Kd.C k60 w A1 l1.length l1) (hc1 : l1.length ≤ c1) (h : spec_GraphOk.f k a0 l1 = some r) :
    Calls Try.prog 16 #[.int .i64 a0, .slice A1 l1.length c1] w fun e w' => e = .returned (.bool r) ∧ Drawn0 w w' := by
  have HR1 := Aside0.mk hr1
  have HC1 := Aside0.mk hc1
  clear hr1 hc1
  have H : ((spec_l1In.f a0 0 16).bind fun t101 => (if t101 = true then (spec_GraphOk.j0 k a0 l1 (decide ((l1.length : Int) > 200))) else (spec_GraphOk.j0 k a0 l1 true))) = some r := h
  clear h
  have HC3 := Aside0.mk H
  clear H
  go_enter Try.func16, Try.ntmps16
  go_upto_region 1 with (fail)
  go_cut [13] (fun v13 wc => ∃ (kq : Nat) (x13_2 : Bool), v13 = .bool x13_2 ∧ Aside0 (spec_GraphOk.j0 kq a0 l1 x13_2 = some r) ∧ Aside0 (kq ≤ k) ∧ Drawn0 w wc)
  case first =>
    have H := HC3.out
    clear HC3
    replace H := Option.bind_eq_some_iff.mp H
    obtain ⟨t101, A40, H⟩ := H
    replace H : (if t101 = true then (spec_GraphOk.j0 k a0 l1 (decide ((l1.length : Int) > 200))) else (spec_GraphOk.j0 k a0 l1 true)) = some r := H
    have A4 := Aside0.mk A40
    clear A40
    by_cases c5 : t101 = true
    · subst c5
      have H1 : (spec_GraphOk.j0 k a0 l1 (decide ((l1.length : Int) > 200))) = some r := by rw [if_pos rfl] at H; exact H
      clear H
      have H := H1
      clear H1
      have H' := Aside0.mk H
      clear H
      go_wp2_with (first | ((with_reducible refine gate_callee (f := 54) rfl ?_); refine goesL_ (some 7) rfl rfl Try.func54 (by kernel_rfl) rfl #[.int .i64 a0, .int .i64 0, .int .i64 16] rfl (by (try simp only [List.map_toArray, List.map_cons, List.map_nil]); first | done | rfl | (simp only [List.length_drop, List.length_take]; rfl)) ?_; (with_reducible refine (spec_l1In.calls a0 0 16 true _ A4.out).mono ?_); rintro e w' ⟨rfl, ⟨nd, rfl⟩⟩; refine ⟨_, rfl, ?_⟩))
      go_meet
      case rel => exact ⟨_, (decide ((l1.length : Int) > 200)), (by first | rfl | (simp; done) | (simp [*]; done)), H', ⟨by first | omega | exact Nat.le_refl _⟩, by repeat (first | exact Drawn0.refl _ | apply Drawn0.step)⟩
    · replace c5 := Bool.eq_false_iff.mpr c5
      subst c5
      have H1 : (spec_GraphOk.j0 k a0 l1 true) = some r := by rw [if_neg (show ¬ (false = true) by decide)] at H; exact H
      clear H
      have H := H1
      clear H1
      have H' := Aside0.mk H
      clear H
      go_wp2_with (first | ((with_reducible refine gate_callee (f := 54) rfl ?_); refine goesL_ (some 7) rfl rfl Try.func54 (by kernel_rfl) rfl #[.int .i64 a0, .int .i64 0, .int .i64 16] rfl (by (try simp only [List.map_toArray, List.map_cons, List.map_nil]); first | done | rfl | (simp only [List.length_drop, List.length_take]; rfl)) ?_; (with_reducible refine (spec_l1In.calls a0 0 16 false _ A4.out).mono ?_); rintro e w' ⟨rfl, ⟨nd, rfl⟩⟩; refine ⟨_, rfl, ?_⟩))
      go_meet
      case rel => exact ⟨_, (true), (by first | rfl | (simp; done) | (simp [*]; done)), H', ⟨by first | omega | exact Nat.le_refl _⟩, by repeat (first | exact Drawn0.refl _ | apply Drawn0.step)⟩
  case rest =>
    clear HC3
    try clear c1
    try clear p2
    try clear c5
    obtain ⟨kq, x13_2, rfl, HA, HJ2, ⟨mc2, rfl⟩⟩ := hcut
    cases kq with
    | zero => exact absurd HA.out (by simp [spec_GraphOk.j0])
    | succ kj2 =>
      have H := HA.out
      clear HA
      simp only [spec_GraphOk.j0] at H
      by_cases c6 : x13_2 = true
      · subst c6
        have H1 : (some false) = some r := by rw [if_pos rfl] at H; exact H
        clear H
        have H := H1
        clear H1
        obtain rfl := Option.some.inj H
        go_wp2
        go_ret
        exact ⟨by first | rfl | (simp; done) | (simp [*]; done), by repeat (first | exact Drawn0.refl _ | apply Drawn0.step)⟩
      · replace c6 := Bool.eq_false_iff.mpr c6
        subst c6
        have H1 : (spec_GraphOk.l0 kj2 a0 l1 0) = some r := by rw [if_neg (show ¬ (false = true) by decide)] at H; exact H
        clear H
        have H := H1
        clear H1
        have H' := Aside0.mk H
        clear H
        go_wp2
        go_loopg [5] kj2 (fun kq v5 w' => ∃ (x5_2 : Int), v5 = .int .i64 x5_2 ∧ Aside0 (spec_GraphOk.l0 kq a0 l1 x5_2 = some r) ∧ Aside0 (kq ≤ kj2) ∧ Drawn0 w w')
        case atStart => exact ⟨(0), (by first | rfl | (simp; done) | (simp [*]; done)), H', ⟨Nat.le_refl _⟩, by repeat (first | exact Drawn0.refl _ | apply Drawn0.step)⟩
        case round =>
          clear H'
          try clear c1
          try clear c2
          try clear p2
          try clear c5
          try clear c6
          try clear p2
          obtain ⟨x5_2, rfl, HA, HK2, ⟨m2, rfl⟩⟩ := hrel
          cases gk with
          | zero => exact absurd HA.out (by simp [spec_GraphOk.l0])
          | succ k2 =>
            have H := HA.out
            clear HA
            simp only [spec_GraphOk.l0] at H
            by_cases c7 : x5_2 < (l1.length : Int)
            · rw [if_pos c7] at H
              have c7b0 : decide (x5_2 < (l1.length : Int)) = true := decide_eq_true c7
              clear c7
              by_cases c8 : 0 ≤ x5_2
              · rw [if_pos c8] at H
                have c8b0 : decide (0 ≤ x5_2) = true := decide_eq_true c8
                clear c8
                replace H := Option.bind_eq_some_iff.mp H
                obtain ⟨t103, A90, H⟩ := H
                replace H : (if t103 = true then ((spec_l1In.f ((rd_T60 l1 x5_2).f1) 0 (wrap64 (a0 - 1))).bind fun t105 => (if t105 = true then (spec_GraphOk.l0 k2 a0 l1 (wrap64 (x5_2 + 1))) else (some false))) else (some false)) = some r := H
                have A9 := Aside0.mk A90
                clear A90
                by_cases c10 : t103 = true
                · subst c10
                  have H1 : ((spec_l1In.f ((rd_T60 l1 x5_2).f1) 0 (wrap64 (a0 - 1))).bind fun t105 => (if t105 = true then (spec_GraphOk.l0 k2 a0 l1 (wrap64 (x5_2 + 1))) else (some false))) = some r := by rw [if_pos rfl] at H; exact H
                  clear H
                  have H := H1
                  clear H1
                  replace H := Option.bind_eq_some_iff.mp H
                  obtain ⟨t105, A110, H⟩ := H
                  replace H : (if t105 = true then (spec_GraphOk.l0 k2 a0 l1 (wrap64 (x5_2 + 1))) else (some false)) = some r := H
                  have A11 := Aside0.mk A110
                  clear A110
                  by_cases c12 : t105 = true
                  · subst c12
                    have H1 : (spec_GraphOk.l0 k2 a0 l1 (wrap64 (x5_2 + 1))) = some r := by rw [if_pos rfl] at H; exact H
                    clear H
                    have H := H1
                    clear H1
                    have H' := Aside0.mk H
                    clear H
                    have p102 : 0 ≤ (x5_2 : Int) := of_decide_eq_true (by first | (with_reducible assumption) | assumption)
                    have q102 : x5_2 < (l1.length : Int) := of_decide_eq_true (by first | (with_reducible assumption) | assumption)
                    obtain ⟨ad102, e102, hx102_0, hx102_1⟩ := at_T60 HR1.out x5_2 p102 q102
                    cases e102
                    replace p102 := eq_true p102
                    replace q102 := eq_true q102
                    go_wp2_with (first | ((with_reducible refine gate_callee (f := 54) rfl ?_); refine goesL_ (some 27) rfl rfl Try.func54 (by kernel_rfl) rfl #[.int .i64 ((rd_T60 l1 x5_2).f0), .int .i64 0, .int .i64 (wrap64 (a0 - 1))] rfl (by (try simp only [List.map_toArray, List.map_cons, List.map_nil]); first | done | rfl | (simp only [List.length_drop, List.length_take]; rfl)) ?_; (with_reducible refine (spec_l1In.calls ((rd_T60 l1 x5_2).f0) 0 (wrap64 (a0 - 1)) true _ A9.out).mono ?_); rintro e w' ⟨rfl, ⟨nd, rfl⟩⟩; refine ⟨_, rfl, ?_⟩; have p104 : 0 ≤ (x5_2 : Int) := of_decide_eq_true (by first | (with_reducible assumption) | assumption); have q104 : x5_2 < (l1.length : Int) := of_decide_eq_true (by first | (with_reducible assumption) | assumption); obtain ⟨ad104, e104, hx104_0, hx104_1⟩ := at_T60 HR1.out x5_2 p104 q104; obtain rfl : ad102 = ad104 := (by injection e104); replace p104 := eq_true p104; replace q104 := eq_true q104) | (go_at_call 54; (with_reducible refine (spec_l1In.calls ((rd_T60 l1 x5_2).f1) 0 (wrap64 (a0 - 1)) true _ A11.out).mono ?_); rintro e w' ⟨rfl, ⟨nd, rfl⟩⟩))
                    go_roundg k2
                    case measure => have := HJ2.out; have := HK2.out; omega
                    case rel => exact ⟨(wrap64 (x5_2 + 1)), (by first | rfl | (simp; done) | (simp [*]; done)), H', ⟨by have := HJ2.out; have := HK2.out; omega⟩, by repeat (first | exact Drawn0.refl _ | apply Drawn0.step)⟩
                  · replace c12 := Bool.eq_false_iff.mpr c12
                    subst c12
                    have H1 : (some false) = some r := by rw [if_neg (show ¬ (false = true) by decide)] at H; exact H
                    clear H
                    have H := H1
                    clear H1
                    obtain rfl := Option.some.inj H
                    have p102 : 0 ≤ (x5_2 : Int) := of_decide_eq_true (by first | (with_reducible assumption) | assumption)
                    have q102 : x5_2 < (l1.length : Int) := of_decide_eq_true (by first | (with_reducible assumption) | assumption)
                    obtain ⟨ad102, e102, hx102_0, hx102_1⟩ := at_T60 HR1.out x5_2 p102 q102
                    cases e102
                    replace p102 := eq_true p102
                    replace q102 := eq_true q102
                    go_wp2_with (first | ((with_reducible refine gate_callee (f := 54) rfl ?_); refine goesL_ (some 27) rfl rfl Try.func54 (by kernel_rfl) rfl #[.int .i64 ((rd_T60 l1 x5_2).f0), .int .i64 0, .int .i64 (wrap64 (a0 - 1))] rfl (by (try simp only [List.map_toArray, List.map_cons, List.map_nil]); first | done | rfl | (simp only [List.length_drop, List.length_take]; rfl)) ?_; (with_reducible refine (spec_l1In.calls ((rd_T60 l1 x5_2).f0) 0 (wrap64 (a0 - 1)) true _ A9.out).mono ?_); rintro e w' ⟨rfl, ⟨nd, rfl⟩⟩; refine ⟨_, rfl, ?_⟩; have p104 : 0 ≤ (x5_2 : Int) := of_decide_eq_true (by first | (with_reducible assumption) | assumption); have q104 : x5_2 < (l1.length : Int) := of_decide_eq_true (by first | (with_reducible assumption) | assumption); obtain ⟨ad104, e104, hx104_0, hx104_1⟩ := at_T60 HR1.out x5_2 p104 q104; obtain rfl : ad102 = ad104 := (by injection e104); replace p104 := eq_true p104; replace q104 := eq_true q104) | (go_at_call 54; (with_reducible refine (spec_l1In.calls ((rd_T60 l1 x5_2).f1) 0 (wrap64 (a0 - 1)) false _ A11.out).mono ?_); rintro e w' ⟨rfl, ⟨nd, rfl⟩⟩))
                    go_ret
                    exact ⟨by first | rfl | (simp; done) | (simp [*]; done), by repeat (first | exact Drawn0.refl _ | apply Drawn0.step)⟩
                · replace c10 := Bool.eq_false_iff.mpr c10
                  subst c10
                  have H1 : (some false) = some r := by rw [if_neg (show ¬ (false = true) by decide)] at H; exact H
                  clear H
                  have H := H1
                  clear H1
                  obtain rfl := Option.some.inj H
                  have p102 : 0 ≤ (x5_2 : Int) := of_decide_eq_true (by first | (with_reducible assumption) | assumption)
                  have q102 : x5_2 < (l1.length : Int) := of_decide_eq_true (by first | (with_reducible assumption) | assumption)
                  obtain ⟨ad102, e102, hx102_0, hx102_1⟩ := at_T60 HR1.out x5_2 p102 q102
                  cases e102
                  replace p102 := eq_true p102
                  replace q102 := eq_true q102
                  go_wp2_with (first | ((with_reducible refine gate_callee (f := 54) rfl ?_); refine goesL_ (some 27) rfl rfl Try.func54 (by kernel_rfl) rfl #[.int .i64 ((rd_T60 l1 x5_2).f0), .int .i64 0, .int .i64 (wrap64 (a0 - 1))] rfl (by (try simp only [List.map_toArray, List.map_cons, List.map_nil]); first | done | rfl | (simp only [List.length_drop, List.length_take]; rfl)) ?_; (with_reducible refine (spec_l1In.calls ((rd_T60 l1 x5_2).f0) 0 (wrap64 (a0 - 1)) false _ A9.out).mono ?_); rintro e w' ⟨rfl, ⟨nd, rfl⟩⟩; refine ⟨_, rfl, ?_⟩))
                  go_ret
                  exact ⟨by first | rfl | (simp; done) | (simp [*]; done), by repeat (first | exact Drawn0.refl _ | apply Drawn0.step)⟩
              · rw [if_neg c8] at H
                exact absurd H (by simp)
            · rw [if_neg c7] at H
              have c7b0 : decide (x5_2 < (l1.length : Int)) = false := decide_eq_false c7
              clear c7
              obtain rfl := Option.some.inj H
              go_wp2
              go_ret
              exact ⟨by first | rfl | (simp; done) | (simp [*]; done), by repeat (first | exact Drawn0.refl _ | apply Drawn0.step)⟩

/-! ### impl_within: function 56 -/
def impl_within.f (a0 : Int) (a1 : Int) (a2 : Int) : Option (Bool) := if a0 ≥ a1 then (some (decide (a0 ≤ a2))) else (some false)
set_option maxHeartbeats 8000000 in
set_option maxRecDepth 100000 in
theorem impl_within.calls (a0 : Int) (a1 : Int) (a2 : Int) (r : Bool) (w : World) (h : impl_within.f a0 a1 a2 = some r) :
    Calls Try.prog 56 #[.int .i64 a0, .int .i64 a1, .int .i64 a2] w fun e w' => e = .returned (.bool r) ∧ Drawn0 w w' := by
  have H : (if a0 ≥ a1 then (some (decide (a0 ≤ a2))) else (some false)) = some r := h
  clear h
  by_cases c4 : a0 ≥ a1
  · rw [if_pos c4] at H
    have c4b0 : decide (a1 ≤ a0) = true := decide_eq_true c4
    clear c4
    obtain rfl := Option.some.inj H
    go_enter Try.func56, Try.ntmps56
    go_wp2
    go_ret
    exact ⟨by first | rfl | (simp; done) | (simp [*]; done), by repeat (first | exact Drawn0.refl _ | apply Drawn0.step)⟩
  · rw [if_neg c4] at H
    have c4b0 : decide (a1 ≤ a0) = false := decide_eq_false c4
    clear c4
    obtain rfl := Option.some.inj H
    go_enter Try.func56, Try.ntmps56
    go_wp2
    go_ret
    exact ⟨by first | rfl | (simp; done) | (simp [*]; done), by repeat (first | exact Drawn0.refl _ | apply Drawn0.step)⟩

/-! ### impl_GraphOk: function 18 -/
mutual
def impl_GraphOk.j0 : Nat → Int → List (S60) → Bool → Option (Bool)
  | 0, _, _, _ => none
  | k + 1, x0, x1, x14 => if x14 = true then (some false) else (impl_GraphOk.l0 k x0 x1 (x1.length : Int) 0)
def impl_GraphOk.l0 : Nat → Int → List (S60) → Int → Int → Option (Bool)
  | 0, _, _, _, _ => none
  | k + 1, x0, x15, x16, x17 => if x17 < x16 then (if 0 ≤ x17 then (if x17 < (x15.length : Int) then ((impl_within.f ((rd_T60 x15 x17).f0) 0 (wrap64 (x0 - 1))).bind fun t109 => (if t109 = true then ((impl_within.f ((rd_T60 x15 x17).f1) 0 (wrap64 (x0 - 1))).bind fun t110 => (if t110 = true then (impl_GraphOk.l0 k x0 x15 x16 (wrap64 (x17 + 1))) else (some false))) else (some false))) else (none)) else (none)) else (some true)
end
def impl_GraphOk.f (k : Nat) (a0 : Int) (l1 : List (S60)) : Option (Bool) := (impl_within.f a0 0 16).bind fun t106 => (if t106 = true then (impl_GraphOk.j0 k a0 l1 (decide ((l1.length : Int) > 200))) else (impl_GraphOk.j0 k a0 l1 true))
theorem impl_GraphOk.mono_l : ∀ k, (∀ y0 y1 y2, LeO (impl_GraphOk.j0 k y0 y1 y2) (impl_GraphOk.j0 (k + 1) y0 y1 y2)) ∧ (∀ y0 y1 y2 y3, LeO (impl_GraphOk.l0 k y0 y1 y2 y3) (impl_GraphOk.l0 (k + 1) y0 y1 y2 y3))
  | 0 => ⟨fun _ _ _ r h => by simp [impl_GraphOk.j0] at h, fun _ _ _ _ r h => by simp [impl_GraphOk.l0] at h⟩
  | k + 1 => by
    obtain ⟨ih0, ih1⟩ := impl_GraphOk.mono_l k
    refine ⟨?_, ?_⟩
    · intro y0 y1 y2
      unfold impl_GraphOk.j0
      repeat' first
      | (with_reducible exact ih0 _ _ _)
      | (with_reducible exact ih1 _ _ _ _)
      | (with_reducible exact LeO.refl _)
      | (with_reducible exact LeO.none _)
      | (with_reducible refine LeO.ite ?_ ?_)
      | (with_reducible refine LeO.bind ?_ (fun _ => ?_))
      | exact ih0 _ _ _
      | exact ih1 _ _ _ _
      | exact LeO.none _
      | refine LeO.ite ?_ ?_
      | refine LeO.bind ?_ (fun _ => ?_)
    · intro y0 y1 y2 y3
      unfold impl_GraphOk.l0
      repeat' first
      | (with_reducible exact ih0 _ _ _)
      | (with_reducible exact ih1 _ _ _ _)
      | (with_reducible exact LeO.refl _)
      | (with_reducible exact LeO.none _)
      | (with_reducible refine LeO.ite ?_ ?_)
      | (with_reducible refine LeO.bind ?_ (fun _ => ?_))
      | exact ih0 _ _ _
      | exact ih1 _ _ _ _
      | exact LeO.none _
      | refine LeO.ite ?_ ?_
      | refine LeO.bind ?_ (fun _ => ?_)
theorem impl_GraphOk.mono : ∀ a0 a1 k, LeO (impl_GraphOk.f k a0 a1) (impl_GraphOk.f (k + 1) a0 a1) := by
  intro a0 a1 k
  obtain ⟨ih0, ih1⟩ := impl_GraphOk.mono_l k
  unfold impl_GraphOk.f
  repeat' first
      | (with_reducible exact ih0 _ _ _)
      | (with_reducible exact ih1 _ _ _ _)
      | (with_reducible exact LeO.refl _)
      | (with_reducible exact LeO.none _)
      | (with_reducible refine LeO.ite ?_ ?_)
      | (with_reducible refine LeO.bind ?_ (fun _ => ?_))
      | exact ih0 _ _ _
      | exact ih1 _ _ _ _
      | exact LeO.none _
      | refine LeO.ite ?_ ?_
      | refine LeO.bind ?_ (fun _ => ?_)
set_option maxHeartbeats 8000000 in
set_option maxRecDepth 100000 in
theorem impl_GraphOk.calls (k : Nat) (a0 : Int) (A1 : Option Addr) (c1 : Nat) (l1 : List (S60)) (r : Bool) (w : World) (hr1 : Kd.C k60 w A1 l1.length l1) (hc1 : l1.length ≤ c1) (h : impl_GraphOk.f k a0 l1 = some r) :
    Calls Try.prog 18 #[.int .i64 a0, .slice A1 l1.length c1] w fun e w' => e = .returned (.bool r) ∧ Below w.heap.size w w' := by
  have hu60 := Try.underlying60
  have HR1 := Aside0.mk hr1
  have HC1 := Aside0.mk hc1
  clear hr1 hc1
  have HB := Aside0.mk (Below.refl w.heap.size w)
  have H : ((impl_within.f a0 0 16).bind fun t106 => (if t106 = true then (impl_GraphOk.j0 k a0 l1 (decide ((l1.length : Int) > 200))) else (impl_GraphOk.j0 k a0 l1 true))) = some r := h
  clear h
  have HC3 := Aside0.mk H
  clear H
  go_enter Try.func18, Try.ntmps18
  go_upto_region 1 with (fail)
  go_cut [14] (fun v14 wc => ∃ (kq : Nat) (x14_2 : Bool), v14 = .bool x14_2 ∧ Aside0 (impl_GraphOk.j0 kq a0 l1 x14_2 = some r) ∧ Aside0 (kq ≤ k) ∧ Aside0 (Below w.heap.size w wc))
  case first =>
    have H := HC3.out
    clear HC3
    replace H := Option.bind_eq_some_iff.mp H
    obtain ⟨t106, A40, H⟩ := H
    replace H : (if t106 = true then (impl_GraphOk.j0 k a0 l1 (decide ((l1.length : Int) > 200))) else (impl_GraphOk.j0 k a0 l1 true)) = some r := H
    have A4 := Aside0.mk A40
    clear A40
    by_cases c5 : t106 = true
    · subst c5
      have H1 : (impl_GraphOk.j0 k a0 l1 (decide ((l1.length : Int) > 200))) = some r := by rw [if_pos rfl] at H; exact H
      clear H
      have H := H1
      clear H1
      have H' := Aside0.mk H
      clear H
      go_wp2_with (first | ((with_reducible refine gate_callee (f := 56) rfl ?_); refine goesL_ (some 8) rfl rfl Try.func56 (by kernel_rfl) rfl #[.int .i64 a0, .int .i64 0, .int .i64 16] rfl (by (try simp only [List.map_toArray, List.map_cons, List.map_nil]); first | done | rfl | (simp only [List.length_drop, List.length_take]; rfl)) ?_; (with_reducible refine (impl_within.calls a0 0 16 true _ A4.out).mono ?_); rintro e w' ⟨rfl, ⟨nd, rfl⟩⟩; refine ⟨_, rfl, ?_⟩))
      go_meet
      case rel => exact ⟨_, (decide ((l1.length : Int) > 200)), (by first | rfl | (simp; done) | (simp [*]; done)), H', ⟨by first | omega | exact Nat.le_refl _⟩, ⟨by repeat (first | (with_reducible first | exact HB.out | apply below_alloc | apply pw_below_drewN | apply below_drew1) | exact HB.out)⟩⟩
    · replace c5 := Bool.eq_false_iff.mpr c5
      subst c5
      have H1 : (impl_GraphOk.j0 k a0 l1 true) = some r := by rw [if_neg (show ¬ (false = true) by decide)] at H; exact H
      clear H
      have H := H1
      clear H1
      have H' := Aside0.mk H
      clear H
      go_wp2_with (first | ((with_reducible refine gate_callee (f := 56) rfl ?_); refine goesL_ (some 8) rfl rfl Try.func56 (by kernel_rfl) rfl #[.int .i64 a0, .int .i64 0, .int .i64 16] rfl (by (try simp only [List.map_toArray, List.map_cons, List.map_nil]); first | done | rfl | (simp only [List.length_drop, List.length_take]; rfl)) ?_; (with_reducible refine (impl_within.calls a0 0 16 false _ A4.out).mono ?_); rintro e w' ⟨rfl, ⟨nd, rfl⟩⟩; refine ⟨_, rfl, ?_⟩))
      go_meet
      case rel => exact ⟨_, (true), (by first | rfl | (simp; done) | (simp [*]; done)), H', ⟨by first | omega | exact Nat.le_refl _⟩, ⟨by repeat (first | (with_reducible first | exact HB.out | apply below_alloc | apply pw_below_drewN | apply below_drew1) | exact HB.out)⟩⟩
  case rest =>
    clear HC3
    try clear c1
    try clear p2
    try clear c5
    obtain ⟨kq, x14_2, rfl, HA, HJ2, HB⟩ := hcut
    cases kq with
    | zero => exact absurd HA.out (by simp [impl_GraphOk.j0])
    | succ kj2 =>
      have H := HA.out
      clear HA
      simp only [impl_GraphOk.j0] at H
      by_cases c6 : x14_2 = true
      · subst c6
        have H1 : (some false) = some r := by rw [if_pos rfl] at H; exact H
        clear H
        have H := H1
        clear H1
        obtain rfl := Option.some.inj H
        go_wp2
        go_ret
        exact ⟨by first | rfl | (simp [errW_none, errW_some] <;> rfl) | (simp [*, errW_none, errW_some] <;> rfl), by repeat (first | (with_reducible first | exact HB.out | apply below_alloc | apply pw_below_drewN | apply below_drew1) | exact HB.out)⟩
      · replace c6 := Bool.eq_false_iff.mpr c6
        subst c6
        have H1 : (impl_GraphOk.l0 kj2 a0 l1 (l1.length : Int) 0) = some r := by rw [if_neg (show ¬ (false = true) by decide)] at H; exact H
        clear H
        have H := H1
        clear H1
        have H' := Aside0.mk H
        clear H
        go_wp2
        go_loopg [17] kj2 (fun kq v17 w' => ∃ (x17_2 : Int), v17 = .int .i64 x17_2 ∧ Aside0 (impl_GraphOk.l0 kq a0 l1 (l1.length : Int) x17_2 = some r) ∧ Aside0 (kq ≤ kj2) ∧ Aside0 (Below w.heap.size w w'))
        case atStart => exact ⟨(0), (by first | rfl | (simp; done) | (simp [*]; done)), H', ⟨Nat.le_refl _⟩, ⟨by repeat (first | (with_reducible first | exact HB.out | apply below_alloc | apply pw_below_drewN | apply below_drew1) | exact HB.out)⟩⟩
        case round =>
          clear H'
          try clear c1
          try clear p2
          try clear c5
          try clear c6
          try clear p2
          obtain ⟨x17_2, rfl, HA, HK2, HB⟩ := hrel
          cases gk with
          | zero => exact absurd HA.out (by simp [impl_GraphOk.l0])
          | succ k2 =>
            have H := HA.out
            clear HA
            simp only [impl_GraphOk.l0] at H
            by_cases c7 : x17_2 < (l1.length : Int)
            · rw [if_pos c7] at H
              have c7b0 : decide (x17_2 < (l1.length : Int)) = true := decide_eq_true c7
              clear c7
              by_cases c8 : 0 ≤ x17_2
              · rw [if_pos c8] at H
                have c8b0 : decide (0 ≤ x17_2) = true := decide_eq_true c8
                clear c8
                by_cases c9 : x17_2 < (l1.length : Int)
                · rw [if_pos c9] at H
                  have c9b0 : decide (x17_2 < (l1.length : Int)) = true := decide_eq_true c9
                  clear c9
                  replace H := Option.bind_eq_some_iff.mp H
                  obtain ⟨t109, A100, H⟩ := H
                  replace H : (if t109 = true then ((impl_within.f ((rd_T60 l1 x17_2).f1) 0 (wrap64 (a0 - 1))).bind fun t110 => (if t110 = true then (impl_GraphOk.l0 k2 a0 l1 (l1.length : Int) (wrap64 (x17_2 + 1))) else (some false))) else (some false)) = some r := H
                  have A10 := Aside0.mk A100
                  clear A100
                  by_cases c11 : t109 = true
                  · subst c11
                    have H1 : ((impl_within.f ((rd_T60 l1 x17_2).f1) 0 (wrap64 (a0 - 1))).bind fun t110 => (if t110 = true then (impl_GraphOk.l0 k2 a0 l1 (l1.length : Int) (wrap64 (x17_2 + 1))) else (some false))) = some r := by rw [if_pos rfl] at H; exact H
                    clear H
                    have H := H1
                    clear H1
                    replace H := Option.bind_eq_some_iff.mp H
                    obtain ⟨t110, A120, H⟩ := H
                    replace H : (if t110 = true then (impl_GraphOk.l0 k2 a0 l1 (l1.length : Int) (wrap64 (x17_2 + 1))) else (some false)) = some r := H
                    have A12 := Aside0.mk A120
                    clear A120
                    by_cases c13 : t110 = true
                    · subst c13
                      have H1 : (impl_GraphOk.l0 k2 a0 l1 (l1.length : Int) (wrap64 (x17_2 + 1))) = some r := by rw [if_pos rfl] at H; exact H
                      clear H
                      have H := H1
                      clear H1
                      have H' := Aside0.mk H
                      clear H
                      have p107 : 0 ≤ (x17_2 : Int) := of_decide_eq_true (by first | (with_reducible assumption) | assumption)
                      have q107 : x17_2 < (l1.length : Int) := of_decide_eq_true (by first | (with_reducible assumption) | assumption)
                      obtain ⟨ad107, e107, hx107_0, hx107_1⟩ := at_T60 HR1.out x17_2 p107 q107
                      cases e107
                      replace hx107_0 := (HB.out.cell (World.block_lt_of_cell? w _ hx107_0)).trans hx107_0
                      replace hx107_1 := (HB.out.cell (World.block_lt_of_cell? w _ hx107_1)).trans hx107_1
                      replace p107 := eq_true p107
                      replace q107 := eq_true q107
                      go_wp2_with (first | ((with_reducible refine gate_dst (N := 6) rfl ?_); (try (refine gate_guard (by rfl) ?_; dsimp only)); refine box_event ?hg (N := 6) ?hd (cs := #[.int .i64 0, .int .i64 0]) (t := 60) ?hr ?_; (case hd => rfl); (case hg => rfl); (case hr => first | (go_simp; done) | (go_simp; rfl)); intro gb108 hg w14 hbox hb; have n0_ := Aside0.mk (below_step (by repeat (first | (with_reducible first | exact HB.out | apply below_alloc | apply pw_below_drewN | apply below_drew1) | exact HB.out)) hb); have n1_ := Aside0.mk (hbox); have n2_ := Aside0.mk ((by rw [hg]; exact (below_size (by repeat (first | (with_reducible first | exact HB.out | apply below_alloc | apply pw_below_drewN | apply below_drew1) | exact HB.out))) : w.heap.size ≤ gb108)); have n3_ := Aside0.mk ((by rw [hg]; exact (below_size (by repeat (first | (with_reducible first | exact HB.out | apply below_alloc | apply pw_below_drewN | apply below_drew1) | exact HB.out))) : w.heap.size ≤ gb108)); clear HB; have HB := n0_; have BK108 := n1_; have GW108 := n2_; have GE108 := n3_; clear n0_ n1_ n2_ n3_; clear hb hbox hg; have hcz15_0 : w14.cell? ⟨gb108, 0, none⟩ = some (.int .i64 0) := (blk_cell BK108.out 0).trans rfl; have hcz15_1 : w14.cell? ⟨gb108, 1, none⟩ = some (.int .i64 0) := (blk_cell BK108.out 1).trans rfl; have hfz15_0 := blk_frozen BK108.out 0; have hfz15_1 := blk_frozen BK108.out 1) | ((with_reducible refine gate_callee (f := 56) rfl ?_); refine goesL_ (some 25) rfl rfl Try.func56 (by kernel_rfl) rfl #[.int .i64 ((rd_T60 l1 x17_2).f0), .int .i64 0, .int .i64 (wrap64 (a0 - 1))] rfl (by (try simp only [List.map_toArray, List.map_cons, List.map_nil]); first | done | rfl | (simp only [List.length_drop, List.length_take]; rfl)) ?_; (with_reducible refine (impl_within.calls ((rd_T60 l1 x17_2).f0) 0 (wrap64 (a0 - 1)) true _ A10.out).mono ?_); rintro e w' ⟨rfl, ⟨nd, rfl⟩⟩; refine ⟨_, rfl, ?_⟩) | (go_at_call 56; (with_reducible refine (impl_within.calls ((rd_T60 l1 x17_2).f1) 0 (wrap64 (a0 - 1)) true _ A12.out).mono ?_); rintro e w' ⟨rfl, ⟨nd, rfl⟩⟩))
                      go_roundg k2
                      case measure => have := HJ2.out; have := HK2.out; omega
                      case rel => exact ⟨(wrap64 (x17_2 + 1)), (by first | rfl | (simp; done) | (simp [*]; done)), H', ⟨by have := HJ2.out; have := HK2.out; omega⟩, ⟨by repeat (first | (with_reducible first | exact HB.out | apply below_alloc | apply pw_below_drewN | apply below_drew1 | refine below_set ?_ GE108.out) | exact HB.out)⟩⟩
                    · replace c13 := Bool.eq_false_iff.mpr c13
                      subst c13
                      have H1 : (some false) = some r := by rw [if_neg (show ¬ (false = true) by decide)] at H; exact H
                      clear H
                      have H := H1
                      clear H1
                      obtain rfl := Option.some.inj H
                      have p107 : 0 ≤ (x17_2 : Int) := of_decide_eq_true (by first | (with_reducible assumption) | assumption)
                      have q107 : x17_2 < (l1.length : Int) := of_decide_eq_true (by first | (with_reducible assumption) | assumption)
                      obtain ⟨ad107, e107, hx107_0, hx107_1⟩ := at_T60 HR1.out x17_2 p107 q107
                      cases e107
                      replace hx107_0 := (HB.out.cell (World.block_lt_of_cell? w _ hx107_0)).trans hx107_0
                      replace hx107_1 := (HB.out.cell (World.block_lt_of_cell? w _ hx107_1)).trans hx107_1
                      replace p107 := eq_true p107
                      replace q107 := eq_true q107
                      go_wp2_with (first | ((with_reducible refine gate_dst (N := 6) rfl ?_); (try (refine gate_guard (by rfl) ?_; dsimp only)); refine box_event ?hg (N := 6) ?hd (cs := #[.int .i64 0, .int .i64 0]) (t := 60) ?hr ?_; (case hd => rfl); (case hg => rfl); (case hr => first | (go_simp; done) | (go_simp; rfl)); intro gb108 hg w16 hbox hb; have n0_ := Aside0.mk (below_step (by repeat (first | (with_reducible first | exact HB.out | apply below_alloc | apply pw_below_drewN | apply below_drew1) | exact HB.out)) hb); have n1_ := Aside0.mk (hbox); have n2_ := Aside0.mk ((by rw [hg]; exact (below_size (by repeat (first | (with_reducible first | exact HB.out | apply below_alloc | apply pw_below_drewN | apply below_drew1) | exact HB.out))) : w.heap.size ≤ gb108)); have n3_ := Aside0.mk ((by rw [hg]; exact (below_size (by repeat (first | (with_reducible first | exact HB.out | apply below_alloc | apply pw_below_drewN | apply below_drew1) | exact HB.out))) : w.heap.size ≤ gb108)); clear HB; have HB := n0_; have BK108 := n1_; have GW108 := n2_; have GE108 := n3_; clear n0_ n1_ n2_ n3_; clear hb hbox hg; have hcz17_0 : w16.cell? ⟨gb108, 0, none⟩ = some (.int .i64 0) := (blk_cell BK108.out 0).trans rfl; have hcz17_1 : w16.cell? ⟨gb108, 1, none⟩ = some (.int .i64 0) := (blk_cell BK108.out 1).trans rfl; have hfz17_0 := blk_frozen BK108.out 0; have hfz17_1 := blk_frozen BK108.out 1) | ((with_reducible refine gate_callee (f := 56) rfl ?_); refine goesL_ (some 25) rfl rfl Try.func56 (by kernel_rfl) rfl #[.int .i64 ((rd_T60 l1 x17_2).f0), .int .i64 0, .int .i64 (wrap64 (a0 - 1))] rfl (by (try simp only [List.map_toArray, List.map_cons, List.map_nil]); first | done | rfl | (simp only [List.length_drop, List.length_take]; rfl)) ?_; (with_reducible refine (impl_within.calls ((rd_T60 l1 x17_2).f0) 0 (wrap64 (a0 - 1)) true _ A10.out).mono ?_); rintro e w' ⟨rfl, ⟨nd, rfl⟩⟩; refine ⟨_, rfl, ?_⟩) | (go_at_call 56; (with_reducible refine (impl_within.calls ((rd_T60 l1 x17_2).f1) 0 (wrap64 (a0 - 1)) false _ A12.out).mono ?_); rintro e w' ⟨rfl, ⟨nd, rfl⟩⟩))
                      go_ret
                      exact ⟨by first | rfl | (simp [errW_none, errW_some] <;> rfl) | (simp [*, errW_none, errW_some] <;> rfl), by repeat (first | (with_reducible first | exact HB.out | apply below_alloc | apply pw_below_drewN | apply below_drew1 | refine below_set ?_ GE108.out) | exact HB.out)⟩
                  · replace c11 := Bool.eq_false_iff.mpr c11
                    subst c11
                    have H1 : (some false) = some r := by rw [if_neg (show ¬ (false = true) by decide)] at H; exact H
                    clear H
                    have H := H1
                    clear H1
                    obtain rfl := Option.some.inj H
                    have p107 : 0 ≤ (x17_2 : Int) := of_decide_eq_true (by first | (with_reducible assumption) | assumption)
                    have q107 : x17_2 < (l1.length : Int) := of_decide_eq_true (by first | (with_reducible assumption) | assumption)
                    obtain ⟨ad107, e107, hx107_0, hx107_1⟩ := at_T60 HR1.out x17_2 p107 q107
                    cases e107
                    replace hx107_0 := (HB.out.cell (World.block_lt_of_cell? w _ hx107_0)).trans hx107_0
                    replace hx107_1 := (HB.out.cell (World.block_lt_of_cell? w _ hx107_1)).trans hx107_1
                    replace p107 := eq_true p107
                    replace q107 := eq_true q107
                    go_wp2_with (first | ((with_reducible refine gate_dst (N := 6) rfl ?_); (try (refine gate_guard (by rfl) ?_; dsimp only)); refine box_event ?hg (N := 6) ?hd (cs := #[.int .i64 0, .int .i64 0]) (t := 60) ?hr ?_; (case hd => rfl); (case hg => rfl); (case hr => first | (go_simp; done) | (go_simp; rfl)); intro gb108 hg w18 hbox hb; have n0_ := Aside0.mk (below_step (by repeat (first | (with_reducible first | exact HB.out | apply below_alloc | apply pw_below_drewN | apply below_drew1) | exact HB.out)) hb); have n1_ := Aside0.mk (hbox); have n2_ := Aside0.mk ((by rw [hg]; exact (below_size (by repeat (first | (with_reducible first | exact HB.out | apply below_alloc | apply pw_below_drewN | apply below_drew1) | exact HB.out))) : w.heap.size ≤ gb108)); have n3_ := Aside0.mk ((by rw [hg]; exact (below_size (by repeat (first | (with_reducible first | exact HB.out | apply below_alloc | apply pw_below_drewN | apply below_drew1) | exact HB.out))) : w.heap.size ≤ gb108)); clear HB; have HB := n0_; have BK108 := n1_; have GW108 := n2_; have GE108 := n3_; clear n0_ n1_ n2_ n3_; clear hb hbox hg; have hcz19_0 : w18.cell? ⟨gb108, 0, none⟩ = some (.int .i64 0) := (blk_cell BK108.out 0).trans rfl; have hcz19_1 : w18.cell? ⟨gb108, 1, none⟩ = some (.int .i64 0) := (blk_cell BK108.out 1).trans rfl; have hfz19_0 := blk_frozen BK108.out 0; have hfz19_1 := blk_frozen BK108.out 1) | ((with_reducible refine gate_callee (f := 56) rfl ?_); refine goesL_ (some 25) rfl rfl Try.func56 (by kernel_rfl) rfl #[.int .i64 ((rd_T60 l1 x17_2).f0), .int .i64 0, .int .i64 (wrap64 (a0 - 1))] rfl (by (try simp only [List.map_toArray, List.map_cons, List.map_nil]); first | done | rfl | (simp only [List.length_drop, List.length_take]; rfl)) ?_; (with_reducible refine (impl_within.calls ((rd_T60 l1 x17_2).f0) 0 (wrap64 (a0 - 1)) false _ A10.out).mono ?_); rintro e w' ⟨rfl, ⟨nd, rfl⟩⟩; refine ⟨_, rfl, ?_⟩))
                    go_ret
                    exact ⟨by first | rfl | (simp [errW_none, errW_some] <;> rfl) | (simp [*, errW_none, errW_some] <;> rfl), by repeat (first | (with_reducible first | exact HB.out | apply below_alloc | apply pw_below_drewN | apply below_drew1 | refine below_set ?_ GE108.out) | exact HB.out)⟩
                · rw [if_neg c9] at H
                  exact absurd H (by simp)
              · rw [if_neg c8] at H
                exact absurd H (by simp)
            · rw [if_neg c7] at H
              have c7b0 : decide (x17_2 < (l1.length : Int)) = false := decide_eq_false c7
              clear c7
              obtain rfl := Option.some.inj H
              go_wp2
              go_ret
              exact ⟨by first | rfl | (simp [errW_none, errW_some] <;> rfl) | (simp [*, errW_none, errW_some] <;> rfl), by repeat (first | (with_reducible first | exact HB.out | apply below_alloc | apply pw_below_drewN | apply below_drew1) | exact HB.out)⟩

/-! ### impl_dist: function 65 -/
def dSet (M : List Int) (a b : Nat) (v : Int) : List Int := M.set (a * 16 + b) v
def dGet (M : List Int) (a b : Nat) : Int := M.getD (a * 16 + b) 0
def dInitB (a : Nat) (M : List Int) (N : Nat) : List Int := (List.range N).foldl (fun M b => dSet M a b (-1)) M
def dInit (N m : Nat) (M : List Int) : List Int := (List.range m).foldl (fun M a => dInitB a M N) M
def dEdges (l : List (S60)) (M : List Int) : List Int := l.foldl (fun M e => dSet M e.f0.toNat e.f1.toNat 1) M
def dStep (k a b : Nat) (M : List Int) : List Int :=
  if dGet M a k < 0 ∨ dGet M k b < 0 then M
  else if dGet M a b < 0 ∨ wrap64 (dGet M a k + dGet M k b) < dGet M a b then dSet M a b (wrap64 (dGet M a k + dGet M k b)) else M
def dRunB (k a : Nat) (m : Nat) (M : List Int) : List Int := (List.range m).foldl (fun M b => dStep k a b M) M
def dRunA (N k : Nat) (m : Nat) (M : List Int) : List Int := (List.range m).foldl (fun M a => dRunB k a N M) M
def dRun (N : Nat) (m : Nat) (M : List Int) : List Int := (List.range m).foldl (fun M k => dRunA N k N M) M
def dZero : List Int := List.replicate 256 0
def dEdgeOk (e : S60) : Bool := decide ((0 ≤ e.f0 ∧ e.f0 < 16) ∧ 0 ≤ e.f1 ∧ e.f1 < 16)
def impl_dist.f (a0 : Int) (l1 : List (S60)) : Option (List Int) :=
  if 0 ≤ a0 ∧ a0 ≤ 16 then (if l1.all dEdgeOk = true then some (dRun a0.toNat a0.toNat (dEdges l1 (dInit a0.toNat a0.toNat dZero))) else none) else none
theorem dW (i : Nat) (h : i ≤ 9223372036854775806) : wrap64 ((i : Int) + 1) = ((i + 1 : Nat) : Int) := by
  unfold wrap64
  omega
theorem dSet_len (M : List Int) (a b : Nat) (v : Int) : (dSet M a b v).length = M.length := by simp [dSet]
theorem foldl_len {α : Type} (f : List Int → α → List Int) (hf : ∀ M x, (f M x).length = M.length) (xs : List α) (M : List Int) : (xs.foldl f M).length = M.length := by
  induction xs generalizing M with
  | nil => rfl
  | cons a xs ih => rw [List.foldl_cons, ih, hf]
theorem dInitB_len (a : Nat) (M : List Int) (N : Nat) : (dInitB a M N).length = M.length := foldl_len _ (fun M b => dSet_len M a b _) _ _
theorem dInit_len (N m : Nat) (M : List Int) : (dInit N m M).length = M.length := foldl_len _ (fun M a => dInitB_len a M N) _ _
theorem dEdges_len (l : List (S60)) (M : List Int) : (dEdges l M).length = M.length := foldl_len _ (fun M e => dSet_len M _ _ _) _ _
theorem dStep_len (k a b : Nat) (M : List Int) : (dStep k a b M).length = M.length := by
  unfold dStep
  split
  · rfl
  · split
    · exact dSet_len _ _ _ _
    · rfl
theorem dRunB_len (k a m : Nat) (M : List Int) : (dRunB k a m M).length = M.length := foldl_len _ (fun M b => dStep_len k a b M) _ _
theorem dRunA_len (N k m : Nat) (M : List Int) : (dRunA N k m M).length = M.length := foldl_len _ (fun M a => dRunB_len k a N M) _ _
theorem dRun_len (N m : Nat) (M : List Int) : (dRun N m M).length = M.length := foldl_len _ (fun M k => dRunA_len N k N M) _ _
theorem impl_dist.len {a0 : Int} {l1 : List (S60)} {r : List Int} (h : impl_dist.f a0 l1 = some r) : r.length = 256 := by
  unfold impl_dist.f at h
  split at h
  · split at h
    · injection h with h
      rw [← h, dRun_len, dEdges_len, dInit_len]
      exact List.length_replicate
    · cases h
  · cases h
/-- A block of 256 numbers. -/
def dArr (M : List Int) : Array Value := (M.map (Value.int .i64)).toArray
theorem dArr_size (M : List Int) : (dArr M).size = M.length := by simp [dArr]
theorem dArr_get {M : List Int} {i : Nat} (h : i < M.length) : (dArr M)[i]? = some (.int .i64 (M.getD i 0)) := by
  simp [dArr, List.getElem?_eq_getElem h, List.getD_eq_getElem?_getD]
theorem dArr_set (M : List Int) (i : Nat) (v : Int) : (dArr M).setIfInBounds i (.int .i64 v) = dArr (M.set i v) := by
  simp [dArr, List.map_set]
theorem dArr_one (M : List Int) : (dArr M).all (·.oneCell') = true := by
  simp only [dArr, List.all_toArray, List.all_map, List.all_eq_true]
  intro x _
  rfl
theorem infoArr : (Try.prog.info? 87).map (fun i => (i.zero, i.size, i.bytes)) = some (some (.agg (dArr dZero)), 256, 2048) := by kernel_rfl
theorem allocArr {o : Oper} (ho : o.op = .alloc 87) (ρ : Operand → Value) (W : World) : (execOp ρ o).run Try.prog W = .ok (.value (.pointer (some ⟨W.heap.size, 0, none⟩))) (W.alloc (.cells (dArr dZero) 87 (0, 0))) := by
  obtain ⟨i, hi, hz⟩ := Option.map_eq_some_iff.1 infoArr
  generalize dArr dZero = z at hz ⊢
  simp only [Prod.mk.injEq] at hz
  obtain ⟨hz0, hz1, hz2⟩ := hz
  have hz' : ∀ W : World, (zeroValue 87).run Try.prog W = .ok (.agg z) W := fun W => by
    simp [zeroValue, typeInfo, hi, hz0]
  unfold execOp
  simp only [ho, Instr.alloc, Sem.run_bind, hz', Result.andThen_ok, Sem.run_pure]
  simp [newVar, newRow, Value.cells]
set_option maxHeartbeats 8000000 in
set_option maxRecDepth 100000 in
theorem impl_dist.calls (a0 : Int) (A1 : Option Addr) (c1 : Nat) (l1 : List (S60)) (r : List Int) (w : World) (hr1 : Kd.C k60 w A1 l1.length l1) (hc1 : l1.length ≤ c1) (h : impl_dist.f a0 l1 = some r) :
    Calls Try.prog 65 #[.int .i64 a0, .slice A1 l1.length c1] w fun e w' => e = .returned (.agg (dArr r)) ∧ Below w.heap.size w w' := by
  have HR1 := Aside0.mk hr1
  have HC1 := Aside0.mk hc1
  clear hr1 hc1
  have HLEN := Aside0.mk (impl_dist.len h)
  unfold impl_dist.f at h
  by_cases hn : 0 ≤ a0 ∧ a0 ≤ 16
  case neg => rw [if_neg hn] at h; cases h
  rw [if_pos hn] at h
  by_cases hl : l1.all dEdgeOk = true
  case neg => rw [if_neg hl] at h; cases h
  rw [if_pos hl] at h
  obtain ⟨N, rfl⟩ : ∃ N : Nat, a0 = (N : Int) := ⟨a0.toNat, by omega⟩
  rw [Int.toNat_natCast] at h
  have HN := Aside0.mk (show N ≤ 16 by omega)
  have HL := Aside0.mk hl
  have H := Aside0.mk (Option.some.inj h)
  clear hn hl h
  go_enter Try.func65, Try.ntmps65
  go_wp2_with (first
    | ((with_reducible refine gate_dst (N := 4) rfl ?_); refine box_event ?hg (N := 4) ?hd (cs := dArr dZero) (t := 87) ?hr ?_; (case hd => rfl); (case hg => rfl); (case hr => exact allocArr rfl _ _); intro g4 hg4 w4 hb4 hbel4; have HG4 := Aside0.mk hb4; have HB := Aside0.mk hbel4; have HS4 := Aside0.mk (show w.heap.size ≤ g4 by omega); clear hg4 hb4 hbel4)
    | ((with_reducible refine gate_dst (N := 5) rfl ?_); refine box_event ?hg (N := 5) ?hd (cs := dArr dZero) (t := 87) ?hr ?_; (case hd => rfl); (case hg => rfl); (case hr => exact allocArr rfl _ _); intro g5 hg5 w5 hb5 hbel5; have HG5 := Aside0.mk hb5; have HG4' := Aside0.mk (blk_below HG4.out hbel5); have HB' := Aside0.mk (below_step HB.out hbel5); have HS5 := Aside0.mk (show w.heap.size ≤ g5 by rw [hg5]; exact below_size HB.out); have HNE := Aside0.mk (show g4 ≠ g5 by rw [hg5]; have := blk_lt HG4.out; omega); clear HG4 HB; have HG4 := HG4'; have HB := HB'; clear HG4' HB'; clear hg5 hb5 hbel5))
  go_loopg [15] N (fun kq v15 w' => ∃ i : Nat, v15 = .int .i64 (i : Int) ∧ Aside0 (i + kq = N) ∧ Aside0 (w'.heap[g5]? = some (.cells (dArr (dInit N i dZero)) 87 (0, 0))) ∧ Aside0 (w'.heap[g4]? = some (.cells (dArr dZero) 87 (0, 0))) ∧ Aside0 (Below w.heap.size w w'))
  case atStart => exact ⟨0, rfl, ⟨by omega⟩, HG5, HG4, HB⟩
  case round =>
    clear HG5 HG4 HB
    obtain ⟨i, rfl, HI, HG5, HG4, HB⟩ := hrel
    by_cases c : i < N
    · have cb : decide ((i : Int) < (N : Int)) = true := by simpa using c
      go_wp2
      go_loopg [19] N (fun kq v19 w' => ∃ j : Nat, v19 = .int .i64 (j : Int) ∧ Aside0 (j + kq = N) ∧ Aside0 (w'.heap[g5]? = some (.cells (dArr (dInitB i (dInit N i dZero) j)) 87 (0, 0))) ∧ Aside0 (w'.heap[g4]? = some (.cells (dArr dZero) 87 (0, 0))) ∧ Aside0 (Below w.heap.size w w'))
      case atStart => exact ⟨0, rfl, ⟨by omega⟩, HG5, HG4, HB⟩
      case round =>
        clear HG5 HG4 HB
        obtain ⟨j, rfl, HJ, HG5, HG4, HB⟩ := hrel
        by_cases c2 : j < N
        · have cb2 : decide ((j : Int) < (N : Int)) = true := by simpa using c2
          have hx : wr.cell? ⟨g5, i * 16 + j, none⟩ = some (.int .i64 ((dInitB i (dInit N i dZero) j).getD (i * 16 + j) 0)) := by
            rw [blk_cell HG5.out]
            exact dArr_get (by rw [dInitB_len, dInit_len]; have := HN.out; simp only [dZero, List.length_replicate]; omega)
          have hf : wr.frozen? ⟨g5, i * 16 + j, none⟩ = false := blk_frozen HG5.out _
          have hi16 : i < 16 := by have := HN.out; omega
          have hj16 : j < 16 := by have := HN.out; omega
          go_wp2
          go_roundg (N - (j + 1))
          case measure => have := HJ.out; omega
          case rel => exact ⟨j + 1, (by first | rfl | rw [dW j (by have := HN.out; omega)]), ⟨by have := HJ.out; omega⟩, ⟨by rw [show dInitB i (dInit N i dZero) (j + 1) = dSet (dInitB i (dInit N i dZero) j) i j (-1) by simp [dInitB, List.range_succ, List.foldl_append], dSet, ← dArr_set]; exact blk_set HG5.out _ _⟩, ⟨blk_far HG4.out HNE.out _⟩, ⟨below_set HB.out HS5.out⟩⟩
        · have cb2 : decide ((j : Int) < (N : Int)) = false := by simpa using c2
          have ej : j = N := by have := HJ.out; omega
          subst ej
          go_wp2
          go_roundg (j - (i + 1))
          case measure => have := HI.out; omega
          case rel => exact ⟨i + 1, (by first | rfl | rw [dW i (by have := HN.out; omega)]), ⟨by have := HI.out; omega⟩, ⟨by rw [show dInit j (i + 1) dZero = dInitB i (dInit j i dZero) j by simp [dInit, List.range_succ, List.foldl_append]]; exact HG5.out⟩, HG4, HB⟩
    · have cb : decide ((i : Int) < (N : Int)) = false := by simpa using c
      have ei : i = N := by have := HI.out; omega
      subst ei
      go_wp2
      go_loopg [30] l1.length (fun kq v30 w' => ∃ j : Nat, v30 = .int .i64 (j : Int) ∧ Aside0 (j + kq = l1.length) ∧ Aside0 (w'.heap[g5]? = some (.cells (dArr (dEdges (l1.take j) (dInit i i dZero))) 87 (0, 0))) ∧ Aside0 (w'.heap[g4]? = some (.cells (dArr dZero) 87 (0, 0))) ∧ Aside0 (Below w.heap.size w w'))
      case atStart => exact ⟨0, rfl, ⟨by omega⟩, HG5, HG4, HB⟩
      case round =>
        clear HG5 HG4 HB
        obtain ⟨j, rfl, HJ, HG5, HG4, HB⟩ := hrel
        by_cases c2 : j < l1.length
        · have cb2 : decide ((j : Int) < (l1.length : Int)) = true := by simpa using c2
          obtain ⟨ad, ead, hx0, hx1⟩ := at_T60 HR1.out (j : Int) (by omega) (by omega)
          cases ead
          rw [Int.toNat_natCast] at hx0 hx1
          replace hx0 := (HB.out.cell (World.block_lt_of_cell? w _ hx0)).trans hx0
          replace hx1 := (HB.out.cell (World.block_lt_of_cell? w _ hx1)).trans hx1
          have hok : dEdgeOk l1[j] = true := List.all_eq_true.1 HL.out _ (List.getElem_mem c2)
          have hrd : rd_T60 l1 (j : Int) = l1[j] := by
            unfold rd_T60
            rw [Int.toNat_natCast, List.getD_eq_getElem?_getD, List.getElem?_eq_getElem c2]
            rfl
          rw [hrd] at hx0 hx1
          have hok2 : (0 ≤ l1[j].f0 ∧ l1[j].f0 < 16) ∧ 0 ≤ l1[j].f1 ∧ l1[j].f1 < 16 := of_decide_eq_true hok
          obtain ⟨a, ha⟩ : ∃ a : Nat, l1[j].f0 = (a : Int) := ⟨l1[j].f0.toNat, by omega⟩
          obtain ⟨b, hb⟩ : ∃ b : Nat, l1[j].f1 = (b : Int) := ⟨l1[j].f1.toNat, by omega⟩
          have hstep : dEdges (l1.take (j + 1)) (dInit i i dZero) = dSet (dEdges (l1.take j) (dInit i i dZero)) a b 1 := by
            rw [List.take_succ_eq_append_getElem c2]
            unfold dEdges
            rw [List.foldl_append, List.foldl_cons, List.foldl_nil, ha, hb, Int.toNat_natCast, Int.toNat_natCast]
          rw [ha] at hx0
          rw [hb] at hx1
          have ha16 : a < 16 := by omega
          have hb16 : b < 16 := by omega
          clear hok hok2 hrd ha hb
          go_wp2
          obtain ⟨b9, hb9⟩ : ∃ b9, b9 = wr.heap.size := ⟨_, rfl⟩
          obtain ⟨wq, hwq⟩ : ∃ wq, wq = wr.alloc (.cells #[.int .i64 (a : Int), .int .i64 (b : Int)] 60) := ⟨_, rfl⟩
          rw [← hwq, ← hb9]
          have hbel : Below wr.heap.size wr wq := by rw [hwq]; exact below_alloc (Below.refl _ _) _
          have hblk : wq.heap[b9]? = some (.cells #[.int .i64 (a : Int), .int .i64 (b : Int)] 60 (0, 0)) := by rw [hwq, hb9]; exact blk_new _ _
          have HG5' := Aside0.mk (blk_below HG5.out hbel)
          have HG4' := Aside0.mk (blk_below HG4.out hbel)
          have HB' := Aside0.mk (below_step HB.out hbel)
          have hq0 : wq.cell? ⟨b9, 0, none⟩ = some (.int .i64 (a : Int)) := by rw [blk_cell hblk]; rfl
          have hq1 : wq.cell? ⟨b9, 1, none⟩ = some (.int .i64 (b : Int)) := by rw [blk_cell hblk]; rfl
          have hqx : wq.cell? ⟨g5, a * 16 + b, none⟩ = some (.int .i64 ((dEdges (l1.take j) (dInit i i dZero)).getD (a * 16 + b) 0)) := by
            rw [blk_cell HG5'.out]
            exact dArr_get (by rw [dEdges_len, dInit_len]; simp only [dZero, List.length_replicate]; omega)
          have hqf : wq.frozen? ⟨g5, a * 16 + b, none⟩ = false := blk_frozen HG5'.out _
          clear hwq hb9 hbel hblk HG5 HG4 HB hx0 hx1
          go_region
          all_goals go_wp2
          all_goals go_roundg (l1.length - (j + 1))
          case measure => have := HJ.out; omega
          case rel => exact ⟨j + 1, (by first | rfl | rw [dW j (by have := HR1.out.2.1; omega)]), ⟨by have := HJ.out; omega⟩, ⟨by rw [hstep, dSet, ← dArr_set]; exact blk_set HG5'.out _ _⟩, ⟨blk_far HG4'.out HNE.out _⟩, ⟨below_drew1 (below_set HB'.out HS5.out)⟩⟩
        · have cb2 : decide ((j : Int) < (l1.length : Int)) = false := by simpa using c2
          have ej : j = l1.length := by have := HJ.out; omega
          subst ej
          rw [List.take_length] at HG5
          obtain ⟨M0, hM0⟩ : ∃ M0, M0 = dEdges l1 (dInit i i dZero) := ⟨_, rfl⟩
          rw [← hM0] at HG5
          have HM0 := Aside0.mk (show M0.length = 256 by rw [hM0, dEdges_len, dInit_len]; simp only [dZero, List.length_replicate])
          have HR := Aside0.mk (show dRun i i M0 = r by rw [hM0]; exact H.out)
          clear hM0 H HL c2 cb2 c cb HI HJ
          go_wp2
          go_loopg [42] i (fun kq v42 w' => ∃ kk : Nat, v42 = .int .i64 (kk : Int) ∧ Aside0 (kk + kq = i) ∧ Aside0 (w'.heap[g5]? = some (.cells (dArr (dRun i kk M0)) 87 (0, 0))) ∧ Aside0 (w'.heap[g4]? = some (.cells (dArr dZero) 87 (0, 0))) ∧ Aside0 (Below w.heap.size w w'))
          case atStart => exact ⟨0, rfl, ⟨by omega⟩, HG5, HG4, HB⟩
          case round =>
            clear HG5 HG4 HB
            obtain ⟨kk, rfl, HK, HG5, HG4, HB⟩ := hrel
            by_cases c3 : kk < i
            · have cb3 : decide ((kk : Int) < (i : Int)) = true := by simpa using c3
              go_wp2
              go_loopg [46] i (fun kq v46 w' => ∃ aa : Nat, v46 = .int .i64 (aa : Int) ∧ Aside0 (aa + kq = i) ∧ Aside0 (w'.heap[g5]? = some (.cells (dArr (dRunA i kk aa (dRun i kk M0))) 87 (0, 0))) ∧ Aside0 (w'.heap[g4]? = some (.cells (dArr dZero) 87 (0, 0))) ∧ Aside0 (Below w.heap.size w w'))
              case atStart => exact ⟨0, rfl, ⟨by omega⟩, HG5, HG4, HB⟩
              case round =>
                clear HG5 HG4 HB
                obtain ⟨aa, rfl, HA, HG5, HG4, HB⟩ := hrel
                by_cases c4 : aa < i
                · have cb4 : decide ((aa : Int) < (i : Int)) = true := by simpa using c4
                  go_wp2
                  go_loopg [50] i (fun kq v50 w' => ∃ bb : Nat, v50 = .int .i64 (bb : Int) ∧ Aside0 (bb + kq = i) ∧ Aside0 (w'.heap[g5]? = some (.cells (dArr (dRunB kk aa bb (dRunA i kk aa (dRun i kk M0)))) 87 (0, 0))) ∧ Aside0 (w'.heap[g4]? = some (.cells (dArr dZero) 87 (0, 0))) ∧ Aside0 (Below w.heap.size w w'))
                  case atStart => exact ⟨0, rfl, ⟨by omega⟩, HG5, HG4, HB⟩
                  case round =>
                    clear HG5 HG4 HB
                    obtain ⟨bb, rfl, HBB, HG5, HG4, HB⟩ := hrel
                    by_cases c5 : bb < i
                    · have cb5 : decide ((bb : Int) < (i : Int)) = true := by simpa using c5
                      obtain ⟨M, hM⟩ : ∃ M, M = dRunB kk aa bb (dRunA i kk aa (dRun i kk M0)) := ⟨_, rfl⟩
                      have hML : M.length = 256 := by rw [hM, dRunB_len, dRunA_len, dRun_len]; exact HM0.out
                      have hstep : dRunB kk aa (bb + 1) (dRunA i kk aa (dRun i kk M0)) = dStep kk aa bb M := by rw [hM]; simp [dRunB, List.range_succ, List.foldl_append]
                      rw [← hM] at HG5
                      have hk16 : kk < 16 := by have := HN.out; omega
                      have ha16 : aa < 16 := by have := HN.out; omega
                      have hb16 : bb < 16 := by have := HN.out; omega
                      have cell : ∀ q, q < 256 → wr.cell? ⟨g5, q, none⟩ = some (.int .i64 (M.getD q 0)) := fun q hq => by
                        rw [blk_cell HG5.out]
                        exact dArr_get (by omega)
                      have hx1 : wr.cell? ⟨g5, aa * 16 + kk, none⟩ = some (.int .i64 (dGet M aa kk)) := cell _ (by omega)
                      have hx2 : wr.cell? ⟨g5, kk * 16 + bb, none⟩ = some (.int .i64 (dGet M kk bb)) := cell _ (by omega)
                      have hx3 : wr.cell? ⟨g5, aa * 16 + bb, none⟩ = some (.int .i64 (dGet M aa bb)) := cell _ (by omega)
                      have hf3 : wr.frozen? ⟨g5, aa * 16 + bb, none⟩ = false := blk_frozen HG5.out _
                      clear cell hM
                      by_cases d1 : dGet M aa kk < 0
                      · have db1 : decide (dGet M aa kk < 0) = true := decide_eq_true d1
                        go_wp2
                        go_roundg (i - (bb + 1))
                        case measure => have := HBB.out; omega
                        case rel => exact ⟨bb + 1, (by first | rfl | rw [dW bb (by omega)]), ⟨by omega⟩, ⟨by rw [hstep, dStep, if_pos (Or.inl d1)]; exact HG5.out⟩, HG4, HB⟩
                      · have db1 : decide (dGet M aa kk < 0) = false := decide_eq_false d1
                        by_cases d2 : dGet M kk bb < 0
                        · have db2 : decide (dGet M kk bb < 0) = true := decide_eq_true d2
                          go_wp2
                          go_roundg (i - (bb + 1))
                          case measure => have := HBB.out; omega
                          case rel => exact ⟨bb + 1, (by first | rfl | rw [dW bb (by omega)]), ⟨by omega⟩, ⟨by rw [hstep, dStep, if_pos (Or.inr d2)]; exact HG5.out⟩, HG4, HB⟩
                        · have db2 : decide (dGet M kk bb < 0) = false := decide_eq_false d2
                          by_cases d3 : dGet M aa bb < 0 ∨ wrap64 (dGet M aa kk + dGet M kk bb) < dGet M aa bb
                          · have es : dStep kk aa bb M = dSet M aa bb (wrap64 (dGet M aa kk + dGet M kk bb)) := by
                              unfold dStep
                              rw [if_neg (by omega), if_pos d3]
                            by_cases d4 : dGet M aa bb < 0
                            · have db4 : decide (dGet M aa bb < 0) = true := decide_eq_true d4
                              go_wp2
                              go_region
                              all_goals go_wp2
                              all_goals go_roundg (i - (bb + 1))
                              case measure => have := HBB.out; omega
                              case rel => exact ⟨bb + 1, (by first | rfl | rw [dW bb (by omega)]), ⟨by omega⟩, ⟨by rw [hstep, es, dSet, ← dArr_set]; exact blk_set HG5.out _ _⟩, ⟨blk_far HG4.out HNE.out _⟩, ⟨below_drew1 (below_set HB.out HS5.out)⟩⟩
                            · have db4 : decide (dGet M aa bb < 0) = false := decide_eq_false d4
                              have db5 : decide (wrap64 (dGet M aa kk + dGet M kk bb) < dGet M aa bb) = true := decide_eq_true (by omega)
                              go_wp2
                              go_region
                              all_goals go_wp2
                              all_goals go_roundg (i - (bb + 1))
                              case measure => have := HBB.out; omega
                              case rel => exact ⟨bb + 1, (by first | rfl | rw [dW bb (by omega)]), ⟨by omega⟩, ⟨by rw [hstep, es, dSet, ← dArr_set]; exact blk_set HG5.out _ _⟩, ⟨blk_far HG4.out HNE.out _⟩, ⟨below_drew1 (below_set HB.out HS5.out)⟩⟩
                          · have es : dStep kk aa bb M = M := by
                              unfold dStep
                              rw [if_neg (by omega), if_neg d3]
                            have db4 : decide (dGet M aa bb < 0) = false := decide_eq_false (by omega)
                            have db5 : decide (wrap64 (dGet M aa kk + dGet M kk bb) < dGet M aa bb) = false := decide_eq_false (by omega)
                            go_wp2
                            go_region
                            all_goals go_wp2
                            all_goals go_roundg (i - (bb + 1))
                            case measure => have := HBB.out; omega
                            case rel => exact ⟨bb + 1, (by first | rfl | rw [dW bb (by omega)]), ⟨by omega⟩, ⟨by rw [hstep, es]; exact HG5.out⟩, ⟨HG4.out⟩, ⟨below_drew1 HB.out⟩⟩
                    · have cb5 : decide ((bb : Int) < (i : Int)) = false := by simpa using c5
                      have ej : bb = i := by have := HBB.out; omega
                      subst ej
                      go_wp2
                      go_roundg (bb - (aa + 1))
                      case measure => have := HA.out; omega
                      case rel => exact ⟨aa + 1, (by first | rfl | rw [dW aa (by have := HN.out; omega)]), ⟨by omega⟩, ⟨by rw [show dRunA bb kk (aa + 1) (dRun bb kk M0) = dRunB kk aa bb (dRunA bb kk aa (dRun bb kk M0)) by simp [dRunA, List.range_succ, List.foldl_append]]; exact HG5.out⟩, HG4, HB⟩
                · have cb4 : decide ((aa : Int) < (i : Int)) = false := by simpa using c4
                  have ej : aa = i := by have := HA.out; omega
                  subst ej
                  go_wp2
                  go_roundg (aa - (kk + 1))
                  case measure => have := HK.out; omega
                  case rel => exact ⟨kk + 1, (by first | rfl | rw [dW kk (by have := HN.out; omega)]), ⟨by omega⟩, ⟨by rw [show dRun aa (kk + 1) M0 = dRunA aa kk aa (dRun aa kk M0) by simp [dRun, List.range_succ, List.foldl_append]]; exact HG5.out⟩, HG4, HB⟩
            · have cb3 : decide ((kk : Int) < (i : Int)) = false := by simpa using c3
              have ej : kk = i := by have := HK.out; omega
              subst ej
              rw [HR.out] at HG5
              have hsz : (Try.prog.info? 87).map (·.size) = some (dArr r).size := by rw [dArr_size, HLEN.out]; kernel_rfl
              have huArr := Try.underlying87
              go_wp2_with (first
                | (refine wpList_load_row rfl 87 (.tmp 5) rfl g5 rfl 87 (dArr r) (0, 0) _ HG5.out huArr rfl hsz ?_)
                | (refine wpList_store_row rfl 87 (.tmp 4) (.tmp 101) rfl g4 (dArr r) rfl rfl 87 (dArr dZero) HG4.out hsz ?hold (dArr_one r) ?_; (case hold => rw [dArr_size, dArr_size, HLEN.out]; simp only [dZero, List.length_replicate])))
              (try simp only [Exit.inBlock, Exit.then])
              exact bodyPost_ret_by (results_cell_row rfl _ _ g4 87 (dArr r) (0, 0) _ rfl (setRow_heap _ g4 _ (dArr r) 87 (0, 0) HG4.out) huArr rfl hsz) rfl ⟨rfl, below_setRow HB.out HS4.out _⟩

end Go.Proofs.Ytapbpfbhghheeaa.PFnCircle
