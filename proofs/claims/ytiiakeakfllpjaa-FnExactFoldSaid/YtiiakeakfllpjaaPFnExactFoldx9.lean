-- written by wip/tools/myprint.py out of the program's own print
import Derived.Test.YtiiakeakfllpjaaPFnExactFoldx0
import Derived.Test.YtiiakeakfllpjaaPFnExactFoldx8
namespace Go.Proofs.Ytiiakeakfllpjaa.PFnExactFold
open Go.Proofs.Ytiiakeakfllpjaa.Own (rS cS bS rB rN rT kS kC kc10 kf10)
open Go.RowKit Go.Proofs.YtiiakeakfllpjaaW.PrintWords Go.Proofs.YtiiakeakfllpjaaW.PrintLast Go.Proofs.YtiiakeakfllpjaaW.PrintMore
attribute [local go_sem] max2_int min2_int max_two min_two max_three min_three max_four min_four   -- for this text's walks alone
set_option linter.unusedVariables false
set_option linter.unusedSimpArgs false

/-! ### impl_RealOf: function 61 -/
mutual
def impl_RealOf.j0 : Nat → ByteArray → Int → Bool → Option (Nat × Bool)
 | 0, _, _, _ => none
 | k + 1, x0, x4, x19 => if x19 = true then (some (0, false)) else (if 0 ≤ x4 then (if x4 ≤ (x0.size : Int) then (if 0 ≤ (wrap64 (x4 + 1)) then (if (wrap64 (x4 + 1)) ≤ (x0.size : Int) then ((impl_plain.f k (x0.extract 0 (x4 : Int).toNat) 9).bind fun t228 => (if t228 = true then ((impl_within.f ((x0.extract ((wrap64 (x4 + 1)) : Int).toNat x0.size).size : Int) 1 6).bind fun t229 => (if t229 = true then ((impl_run__impl_isDigit.f k (x0.extract ((wrap64 (x4 + 1)) : Int).toNat x0.size) 0).bind fun t230 => (impl_RealOf.j1 k (x0.extract 0 (x4 : Int).toNat) (x0.extract ((wrap64 (x4 + 1)) : Int).toNat x0.size) (t230 != ((x0.extract ((wrap64 (x4 + 1)) : Int).toNat x0.size).size : Int)))) else (impl_RealOf.j1 k (x0.extract 0 (x4 : Int).toNat) (x0.extract ((wrap64 (x4 + 1)) : Int).toNat x0.size) true))) else (impl_RealOf.j1 k (x0.extract 0 (x4 : Int).toNat) (x0.extract ((wrap64 (x4 + 1)) : Int).toNat x0.size) true))) else (none)) else (none)) else (none)) else (none))
def impl_RealOf.j1 : Nat → ByteArray → ByteArray → Bool → Option (Nat × Bool)
 | 0, _, _, _ => none
 | k + 1, x5, x6, x42 => if x42 = true then (some (0, false)) else (impl_RealOf.l0 k x5 x6 4607182418800017408 (x6.size : Int) 0)
def impl_RealOf.l0 : Nat → ByteArray → ByteArray → Nat → Int → Int → Option (Nat × Bool)
 | 0, _, _, _, _, _ => none
 | k + 1, x5, x6, x7, x44, x45 => if x45 < x44 then (if (floatBits .mul .f64 4621819117588971520 x7).isSome = true then (impl_RealOf.l0 k x5 x6 ((floatBits .mul .f64 4621819117588971520 x7).getD 0) x44 (wrap64 (x45 + 1))) else (none)) else (if x5.size + x6.size ≤ 9223372036854775807 then ((impl_number.f k (x5 ++ x6)).bind fun t231 => (if (floatBits .quo .f64 (floatOfInt .f64 t231) x7).isSome = true then (some ((floatBits .quo .f64 (floatOfInt .f64 t231) x7).getD 0, true)) else (none))) else (none))
end
def impl_RealOf.f (k : Nat) (a0 : ByteArray) : Option (Nat × Bool) := (impl_run__impl_isDigit.f k a0 0).bind fun t227 => (if t227 ≥ (a0.size : Int) then (impl_RealOf.j0 k a0 t227 true) else (if 0 ≤ t227 then (if t227 < (a0.size : Int) then (impl_RealOf.j0 k a0 t227 ((bt a0 t227) != 46)) else (none)) else (none)))
set_option maxHeartbeats 8000000 in
set_option maxRecDepth 100000 in
theorem impl_RealOf.calls (k : Nat) (a0 : ByteArray) (r1 : Nat) (r2 : Bool) (w : World) (h : impl_RealOf.f k a0 = some (r1, r2)) :
  Calls Try.prog 61 #[.string a0] w fun e w' => e = .returned (.tuple #[.float .f64 r1, .bool r2]) ∧ Drawn0 w w' := by
 have H : ((impl_run__impl_isDigit.f k a0 0).bind fun t227 => (if t227 ≥ (a0.size : Int) then (impl_RealOf.j0 k a0 t227 true) else (if 0 ≤ t227 then (if t227 < (a0.size : Int) then (impl_RealOf.j0 k a0 t227 ((bt a0 t227) != 46)) else (none)) else (none)))) = some (r1, r2) := h
 clear h
 replace H := Option.bind_eq_some_iff.mp H
 obtain ⟨t227, A20, H⟩ := H
 (try dsimp only at H)
 have A2 := Aside0.mk A20
 clear A20
 have HC3 := Aside0.mk H
 clear H
 go_enter Try.func61, Try.ntmps61
 go_upto_region 2 with (first | (go_at_call 79; (with_reducible refine (impl_run__impl_isDigit.calls k a0 0  t227 _ A2.out).mono ?_); rintro e w' ⟨rfl, ⟨nd, rfl⟩⟩; (try first | exact ⟨rfl, _, World.drewN_drewN _ _ _⟩ | exact ⟨rfl, _, Eq.trans (World.drewN_drewN _ _ _) (congrArg (World.drewN _) (Nat.add_assoc _ _ _))⟩)))
 repeat (go_quiet (first | (go_at_call 79; (with_reducible refine (impl_run__impl_isDigit.calls k a0 0  t227 _ A2.out).mono ?_); rintro e w' ⟨rfl, ⟨nd, rfl⟩⟩; (try first | exact ⟨rfl, _, World.drewN_drewN _ _ _⟩ | exact ⟨rfl, _, Eq.trans (World.drewN_drewN _ _ _) (congrArg (World.drewN _) (Nat.add_assoc _ _ _))⟩))); go_upto_region 2 with (first | (go_at_call 79; (with_reducible refine (impl_run__impl_isDigit.calls k a0 0  t227 _ A2.out).mono ?_); rintro e w' ⟨rfl, ⟨nd, rfl⟩⟩; (try first | exact ⟨rfl, _, World.drewN_drewN _ _ _⟩ | exact ⟨rfl, _, Eq.trans (World.drewN_drewN _ _ _) (congrArg (World.drewN _) (Nat.add_assoc _ _ _))⟩))))
 (try simp only [Act.put, List.setIfInBounds_toArray, List.set_cons_zero, List.set_cons_succ])
 go_cut [19] (fun v19 wc => ∃ (kq : Nat) (x19_2 : Bool), v19 = .bool x19_2 ∧ Aside0 (impl_RealOf.j0 kq a0 t227 x19_2 = some (r1, r2)) ∧ Aside0 (kq ≤ k) ∧ Drawn0 w wc)
 case first =>
  have H := HC3.out
  clear HC3
  by_cases c4 : t227 ≥ (a0.size : Int)
  ·rw [if_pos c4] at H
   have c4b0 : decide ((a0.size : Int) ≤ t227) = true := decide_eq_true c4
   clear c4
   (first | rw [c4b0] | (simp only [i64_w, i32_w]; rw [c4b0]) | skip)
   have H' := Aside0.mk H
   clear H
   go_wp2
   repeat (go_quiet (fail); try go_wp2)
   go_meet
   case rel => exact ⟨_, (true), (by first | rfl | (simp; done) | (simp [*]; done)), H', ⟨by first | omega | exact Nat.le_refl _⟩, by repeat (first | exact Drawn0.refl _ | apply Drawn0.step)⟩
  ·rw [if_neg c4] at H
   have c4b0 : decide ((a0.size : Int) ≤ t227) = false := decide_eq_false c4
   clear c4
   (first | rw [c4b0] | (simp only [i64_w, i32_w]; rw [c4b0]) | skip)
   by_cases c5 : 0 ≤ t227
   ·rw [if_pos c5] at H
    have c5b0 : decide (0 ≤ t227) = true := decide_eq_true c5
    clear c5
    by_cases c6 : t227 < (a0.size : Int)
    ·rw [if_pos c6] at H
     have c6b0 : decide (t227 < (a0.size : Int)) = true := decide_eq_true c6
     clear c6
     have H' := Aside0.mk H
     clear H
     have p7 : 0 ≤ (t227 : Int) := of_decide_eq_true (by first | (with_reducible assumption) | assumption)
     have q7 : t227 < (a0.size : Int) := of_decide_eq_true (by first | (with_reducible assumption) | assumption)
     have hx7 := bt_at a0 t227
     replace p7 := eq_true p7
     replace q7 := eq_true q7
     go_wp2
     repeat (go_quiet (fail); try go_wp2)
     go_meet
     case rel => exact ⟨_, (((bt a0 t227) != 46)), (by first | rfl | (simp; done) | (simp [*]; done)), H', ⟨by first | omega | exact Nat.le_refl _⟩, by repeat (first | exact Drawn0.refl _ | apply Drawn0.step)⟩
    ·rw [if_neg c6] at H
     exact absurd H (by simp)
   ·rw [if_neg c5] at H
    exact absurd H (by simp)
 case rest =>
  clear HC3
  try clear p2
  try clear c4
  try clear c4b0
  try clear c5
  try clear c5b0
  try clear c6
  try clear c6b0
  try clear p7
  try clear q7
  try clear hx7
  try clear p7
  try clear q7
  obtain ⟨kq, x19_2, rfl, HA, HJ2, ⟨mc2, rfl⟩⟩ := hcut
  cases kq with
  | zero => exact absurd HA.out (by simp [impl_RealOf.j0])
  | succ kj2 =>
   have H := HA.out
   clear HA
   simp only [impl_RealOf.j0] at H
   by_cases c8 : x19_2 = true
   ·subst c8
    have H1 : (some (0, false)) = some (r1, r2) := by rw [if_pos rfl] at H; exact H
    clear H
    have H := H1
    clear H1
    simp only [Option.some.injEq, Prod.mk.injEq] at H
    obtain ⟨rfl, rfl⟩ := H
    go_wp2
    repeat (go_quiet (fail); try go_wp2)
    go_ret2
    exact ⟨by first | rfl | (simp; done) | (simp [*]; done), by repeat (first | exact Drawn0.refl _ | apply Drawn0.step)⟩
   ·replace c8 := Bool.eq_false_iff.mpr c8
    subst c8
    have H1 : (if 0 ≤ t227 then (if t227 ≤ (a0.size : Int) then (if 0 ≤ (wrap64 (t227 + 1)) then (if (wrap64 (t227 + 1)) ≤ (a0.size : Int) then ((impl_plain.f kj2 (a0.extract 0 (t227 : Int).toNat) 9).bind fun t228 => (if t228 = true then ((impl_within.f ((a0.extract ((wrap64 (t227 + 1)) : Int).toNat a0.size).size : Int) 1 6).bind fun t229 => (if t229 = true then ((impl_run__impl_isDigit.f kj2 (a0.extract ((wrap64 (t227 + 1)) : Int).toNat a0.size) 0).bind fun t230 => (impl_RealOf.j1 kj2 (a0.extract 0 (t227 : Int).toNat) (a0.extract ((wrap64 (t227 + 1)) : Int).toNat a0.size) (t230 != ((a0.extract ((wrap64 (t227 + 1)) : Int).toNat a0.size).size : Int)))) else (impl_RealOf.j1 kj2 (a0.extract 0 (t227 : Int).toNat) (a0.extract ((wrap64 (t227 + 1)) : Int).toNat a0.size) true))) else (impl_RealOf.j1 kj2 (a0.extract 0 (t227 : Int).toNat) (a0.extract ((wrap64 (t227 + 1)) : Int).toNat a0.size) true))) else (none)) else (none)) else (none)) else (none)) = some (r1, r2) := by rw [if_neg (show ¬ (false = true) by decide)] at H; exact H
    clear H
    have H := H1
    clear H1
    by_cases c9 : 0 ≤ t227
    ·rw [if_pos c9] at H
     have c9b0 := eq_true c9
     have c9b1 : decide (0 ≤ t227) = true := decide_eq_true c9
     clear c9
     by_cases c10 : t227 ≤ (a0.size : Int)
     ·rw [if_pos c10] at H
      have c10b0 := eq_true c10
      have c10b1 : decide (t227 ≤ (a0.size : Int)) = true := decide_eq_true c10
      clear c10
      obtain ⟨ji11, hji11⟩ : ∃ j_ : Int, (wrap64 (t227 + 1)) = j_ := ⟨_, rfl⟩
      replace H : (if 0 ≤ (ji11) then (if (ji11) ≤ (a0.size : Int) then ((impl_plain.f kj2 (a0.extract 0 (t227 : Int).toNat) 9).bind fun t228 => (if t228 = true then ((impl_within.f ((a0.extract ((ji11) : Int).toNat a0.size).size : Int) 1 6).bind fun t229 => (if t229 = true then ((impl_run__impl_isDigit.f kj2 (a0.extract ((ji11) : Int).toNat a0.size) 0).bind fun t230 => (impl_RealOf.j1 kj2 (a0.extract 0 (t227 : Int).toNat) (a0.extract ((ji11) : Int).toNat a0.size) (t230 != ((a0.extract ((ji11) : Int).toNat a0.size).size : Int)))) else (impl_RealOf.j1 kj2 (a0.extract 0 (t227 : Int).toNat) (a0.extract ((ji11) : Int).toNat a0.size) true))) else (impl_RealOf.j1 kj2 (a0.extract 0 (t227 : Int).toNat) (a0.extract ((ji11) : Int).toNat a0.size) true))) else (none)) else (none)) = some (r1, r2) := by first | (rw [hji11] at H; exact H) | (simp only [hji11] at H ⊢; exact H)
      have hji11w : (IntKind.i64.wrap (t227 + 1)) = ji11 := (i64_w _).trans hji11
      by_cases c12 : 0 ≤ (ji11)
      ·rw [if_pos c12] at H
       have c12b0 := eq_true c12
       have c12b1 : decide (0 ≤ (ji11)) = true := decide_eq_true c12
       clear c12
       by_cases c13 : (ji11) ≤ (a0.size : Int)
       ·rw [if_pos c13] at H
        have c13b0 := eq_true c13
        have c13b1 : decide ((ji11) ≤ (a0.size : Int)) = true := decide_eq_true c13
        clear c13
        have HC14 := Aside0.mk H
        clear H
        go_upto_region 5 with (fail)
        repeat (go_quiet (fail); go_upto_region 5 with (fail))
        go_cut [42] (fun v42 wc => ∃ (kq : Nat) (x42_13 : Bool), v42 = .bool x42_13 ∧ Aside0 (impl_RealOf.j1 kq (a0.extract 0 (t227 : Int).toNat) (a0.extract ((ji11) : Int).toNat a0.size) x42_13 = some (r1, r2)) ∧ Aside0 (kq ≤ kj2) ∧ Drawn0 w wc)
        case first =>
         have H := HC14.out
         clear HC14
         replace H := Option.bind_eq_some_iff.mp H
         obtain ⟨t228, A150, H⟩ := H
         (try dsimp only at H)
         have A15 := Aside0.mk A150
         clear A150
         by_cases c16 : t228 = true
         ·subst c16
          have H1 : ((impl_within.f ((a0.extract ((ji11) : Int).toNat a0.size).size : Int) 1 6).bind fun t229 => (if t229 = true then ((impl_run__impl_isDigit.f kj2 (a0.extract ((ji11) : Int).toNat a0.size) 0).bind fun t230 => (impl_RealOf.j1 kj2 (a0.extract 0 (t227 : Int).toNat) (a0.extract ((ji11) : Int).toNat a0.size) (t230 != ((a0.extract ((ji11) : Int).toNat a0.size).size : Int)))) else (impl_RealOf.j1 kj2 (a0.extract 0 (t227 : Int).toNat) (a0.extract ((ji11) : Int).toNat a0.size) true))) = some (r1, r2) := by rw [if_pos rfl] at H; exact H
          clear H
          have H := H1
          clear H1
          replace H := Option.bind_eq_some_iff.mp H
          obtain ⟨t229, A170, H⟩ := H
          (try dsimp only at H)
          have A17 := Aside0.mk A170
          clear A170
          by_cases c18 : t229 = true
          ·subst c18
           have H1 : ((impl_run__impl_isDigit.f kj2 (a0.extract ((ji11) : Int).toNat a0.size) 0).bind fun t230 => (impl_RealOf.j1 kj2 (a0.extract 0 (t227 : Int).toNat) (a0.extract ((ji11) : Int).toNat a0.size) (t230 != ((a0.extract ((ji11) : Int).toNat a0.size).size : Int)))) = some (r1, r2) := by rw [if_pos rfl] at H; exact H
           clear H
           have H := H1
           clear H1
           replace H := Option.bind_eq_some_iff.mp H
           obtain ⟨t230, A190, H⟩ := H
           (try dsimp only at H)
           have A19 := Aside0.mk A190
           clear A190
           have H' := Aside0.mk H
           clear H
           go_wp2_with (first | (go_at_call 81; (with_reducible refine (impl_plain.calls kj2 (a0.extract 0 (t227 : Int).toNat) 9 true _ A15.out).mono ?_); rintro e w' ⟨rfl, ⟨nd, rfl⟩⟩; (try first | exact ⟨rfl, _, World.drewN_drewN _ _ _⟩ | exact ⟨rfl, _, Eq.trans (World.drewN_drewN _ _ _) (congrArg (World.drewN _) (Nat.add_assoc _ _ _))⟩)) | (go_at_call 30; refine calls_of_args (args' := #[.int .i64 ((a0.extract ((ji11) : Int).toNat a0.size).size : Int), .int .i64 1, .int .i64 6]) (by first | rfl | (simp only [ByteArray.size_extract, Nat.min_self]; rfl) | (simp only [ByteArray.size_extract, Nat.min_self]; done) | simp [ByteArray.size_extract]) ?_; (with_reducible refine (impl_within.calls ((a0.extract ((ji11) : Int).toNat a0.size).size : Int) 1 6 true _ A17.out).mono ?_); rintro e w' ⟨rfl, ⟨nd, rfl⟩⟩; (try first | exact ⟨rfl, _, World.drewN_drewN _ _ _⟩ | exact ⟨rfl, _, Eq.trans (World.drewN_drewN _ _ _) (congrArg (World.drewN _) (Nat.add_assoc _ _ _))⟩)) | (go_at_call 79; (with_reducible refine (impl_run__impl_isDigit.calls kj2 (a0.extract ((ji11) : Int).toNat a0.size) 0  t230 _ A19.out).mono ?_); rintro e w' ⟨rfl, ⟨nd, rfl⟩⟩; (try first | exact ⟨rfl, _, World.drewN_drewN _ _ _⟩ | exact ⟨rfl, _, Eq.trans (World.drewN_drewN _ _ _) (congrArg (World.drewN _) (Nat.add_assoc _ _ _))⟩)))
           repeat (go_quiet (first | (go_at_call 81; (with_reducible refine (impl_plain.calls kj2 (a0.extract 0 (t227 : Int).toNat) 9 true _ A15.out).mono ?_); rintro e w' ⟨rfl, ⟨nd, rfl⟩⟩; (try first | exact ⟨rfl, _, World.drewN_drewN _ _ _⟩ | exact ⟨rfl, _, Eq.trans (World.drewN_drewN _ _ _) (congrArg (World.drewN _) (Nat.add_assoc _ _ _))⟩)) | (go_at_call 30; refine calls_of_args (args' := #[.int .i64 ((a0.extract ((ji11) : Int).toNat a0.size).size : Int), .int .i64 1, .int .i64 6]) (by first | rfl | (simp only [ByteArray.size_extract, Nat.min_self]; rfl) | (simp only [ByteArray.size_extract, Nat.min_self]; done) | simp [ByteArray.size_extract]) ?_; (with_reducible refine (impl_within.calls ((a0.extract ((ji11) : Int).toNat a0.size).size : Int) 1 6 true _ A17.out).mono ?_); rintro e w' ⟨rfl, ⟨nd, rfl⟩⟩; (try first | exact ⟨rfl, _, World.drewN_drewN _ _ _⟩ | exact ⟨rfl, _, Eq.trans (World.drewN_drewN _ _ _) (congrArg (World.drewN _) (Nat.add_assoc _ _ _))⟩)) | (go_at_call 79; (with_reducible refine (impl_run__impl_isDigit.calls kj2 (a0.extract ((ji11) : Int).toNat a0.size) 0  t230 _ A19.out).mono ?_); rintro e w' ⟨rfl, ⟨nd, rfl⟩⟩; (try first | exact ⟨rfl, _, World.drewN_drewN _ _ _⟩ | exact ⟨rfl, _, Eq.trans (World.drewN_drewN _ _ _) (congrArg (World.drewN _) (Nat.add_assoc _ _ _))⟩))); try go_wp2_with (first | (go_at_call 81; (with_reducible refine (impl_plain.calls kj2 (a0.extract 0 (t227 : Int).toNat) 9 true _ A15.out).mono ?_); rintro e w' ⟨rfl, ⟨nd, rfl⟩⟩; (try first | exact ⟨rfl, _, World.drewN_drewN _ _ _⟩ | exact ⟨rfl, _, Eq.trans (World.drewN_drewN _ _ _) (congrArg (World.drewN _) (Nat.add_assoc _ _ _))⟩)) | (go_at_call 30; refine calls_of_args (args' := #[.int .i64 ((a0.extract ((ji11) : Int).toNat a0.size).size : Int), .int .i64 1, .int .i64 6]) (by first | rfl | (simp only [ByteArray.size_extract, Nat.min_self]; rfl) | (simp only [ByteArray.size_extract, Nat.min_self]; done) | simp [ByteArray.size_extract]) ?_; (with_reducible refine (impl_within.calls ((a0.extract ((ji11) : Int).toNat a0.size).size : Int) 1 6 true _ A17.out).mono ?_); rintro e w' ⟨rfl, ⟨nd, rfl⟩⟩; (try first | exact ⟨rfl, _, World.drewN_drewN _ _ _⟩ | exact ⟨rfl, _, Eq.trans (World.drewN_drewN _ _ _) (congrArg (World.drewN _) (Nat.add_assoc _ _ _))⟩)) | (go_at_call 79; (with_reducible refine (impl_run__impl_isDigit.calls kj2 (a0.extract ((ji11) : Int).toNat a0.size) 0  t230 _ A19.out).mono ?_); rintro e w' ⟨rfl, ⟨nd, rfl⟩⟩; (try first | exact ⟨rfl, _, World.drewN_drewN _ _ _⟩ | exact ⟨rfl, _, Eq.trans (World.drewN_drewN _ _ _) (congrArg (World.drewN _) (Nat.add_assoc _ _ _))⟩))))
           go_meet
           case rel => exact ⟨_, ((t230 != ((a0.extract ((ji11) : Int).toNat a0.size).size : Int))), (by first | rfl | (simp; done) | (simp only [← hji11] <;> (first | rfl | simp)) | (simp [*]; done)), H', ⟨by have := HJ2.out; first | omega | exact Nat.le_refl _⟩, by repeat (first | exact Drawn0.refl _ | apply Drawn0.step)⟩
          ·replace c18 := Bool.eq_false_iff.mpr c18
           subst c18
           have H1 : (impl_RealOf.j1 kj2 (a0.extract 0 (t227 : Int).toNat) (a0.extract ((ji11) : Int).toNat a0.size) true) = some (r1, r2) := by rw [if_neg (show ¬ (false = true) by decide)] at H; exact H
           clear H
           have H := H1
           clear H1
           have H' := Aside0.mk H
           clear H
           go_wp2_with (first | (go_at_call 81; (with_reducible refine (impl_plain.calls kj2 (a0.extract 0 (t227 : Int).toNat) 9 true _ A15.out).mono ?_); rintro e w' ⟨rfl, ⟨nd, rfl⟩⟩; (try first | exact ⟨rfl, _, World.drewN_drewN _ _ _⟩ | exact ⟨rfl, _, Eq.trans (World.drewN_drewN _ _ _) (congrArg (World.drewN _) (Nat.add_assoc _ _ _))⟩)) | (go_at_call 30; refine calls_of_args (args' := #[.int .i64 ((a0.extract ((ji11) : Int).toNat a0.size).size : Int), .int .i64 1, .int .i64 6]) (by first | rfl | (simp only [ByteArray.size_extract, Nat.min_self]; rfl) | (simp only [ByteArray.size_extract, Nat.min_self]; done) | simp [ByteArray.size_extract]) ?_; (with_reducible refine (impl_within.calls ((a0.extract ((ji11) : Int).toNat a0.size).size : Int) 1 6 false _ A17.out).mono ?_); rintro e w' ⟨rfl, ⟨nd, rfl⟩⟩; (try first | exact ⟨rfl, _, World.drewN_drewN _ _ _⟩ | exact ⟨rfl, _, Eq.trans (World.drewN_drewN _ _ _) (congrArg (World.drewN _) (Nat.add_assoc _ _ _))⟩)))
           repeat (go_quiet (first | (go_at_call 81; (with_reducible refine (impl_plain.calls kj2 (a0.extract 0 (t227 : Int).toNat) 9 true _ A15.out).mono ?_); rintro e w' ⟨rfl, ⟨nd, rfl⟩⟩; (try first | exact ⟨rfl, _, World.drewN_drewN _ _ _⟩ | exact ⟨rfl, _, Eq.trans (World.drewN_drewN _ _ _) (congrArg (World.drewN _) (Nat.add_assoc _ _ _))⟩)) | (go_at_call 30; refine calls_of_args (args' := #[.int .i64 ((a0.extract ((ji11) : Int).toNat a0.size).size : Int), .int .i64 1, .int .i64 6]) (by first | rfl | (simp only [ByteArray.size_extract, Nat.min_self]; rfl) | (simp only [ByteArray.size_extract, Nat.min_self]; done) | simp [ByteArray.size_extract]) ?_; (with_reducible refine (impl_within.calls ((a0.extract ((ji11) : Int).toNat a0.size).size : Int) 1 6 false _ A17.out).mono ?_); rintro e w' ⟨rfl, ⟨nd, rfl⟩⟩; (try first | exact ⟨rfl, _, World.drewN_drewN _ _ _⟩ | exact ⟨rfl, _, Eq.trans (World.drewN_drewN _ _ _) (congrArg (World.drewN _) (Nat.add_assoc _ _ _))⟩))); try go_wp2_with (first | (go_at_call 81; (with_reducible refine (impl_plain.calls kj2 (a0.extract 0 (t227 : Int).toNat) 9 true _ A15.out).mono ?_); rintro e w' ⟨rfl, ⟨nd, rfl⟩⟩; (try first | exact ⟨rfl, _, World.drewN_drewN _ _ _⟩ | exact ⟨rfl, _, Eq.trans (World.drewN_drewN _ _ _) (congrArg (World.drewN _) (Nat.add_assoc _ _ _))⟩)) | (go_at_call 30; refine calls_of_args (args' := #[.int .i64 ((a0.extract ((ji11) : Int).toNat a0.size).size : Int), .int .i64 1, .int .i64 6]) (by first | rfl | (simp only [ByteArray.size_extract, Nat.min_self]; rfl) | (simp only [ByteArray.size_extract, Nat.min_self]; done) | simp [ByteArray.size_extract]) ?_; (with_reducible refine (impl_within.calls ((a0.extract ((ji11) : Int).toNat a0.size).size : Int) 1 6 false _ A17.out).mono ?_); rintro e w' ⟨rfl, ⟨nd, rfl⟩⟩; (try first | exact ⟨rfl, _, World.drewN_drewN _ _ _⟩ | exact ⟨rfl, _, Eq.trans (World.drewN_drewN _ _ _) (congrArg (World.drewN _) (Nat.add_assoc _ _ _))⟩))))
           go_meet
           case rel => exact ⟨_, (true), (by first | rfl | (simp; done) | (simp [*]; done)), H', ⟨by have := HJ2.out; first | omega | exact Nat.le_refl _⟩, by repeat (first | exact Drawn0.refl _ | apply Drawn0.step)⟩
         ·replace c16 := Bool.eq_false_iff.mpr c16
          subst c16
          have H1 : (impl_RealOf.j1 kj2 (a0.extract 0 (t227 : Int).toNat) (a0.extract ((ji11) : Int).toNat a0.size) true) = some (r1, r2) := by rw [if_neg (show ¬ (false = true) by decide)] at H; exact H
          clear H
          have H := H1
          clear H1
          have H' := Aside0.mk H
          clear H
          go_wp2_with (first | (go_at_call 81; (with_reducible refine (impl_plain.calls kj2 (a0.extract 0 (t227 : Int).toNat) 9 false _ A15.out).mono ?_); rintro e w' ⟨rfl, ⟨nd, rfl⟩⟩; (try first | exact ⟨rfl, _, World.drewN_drewN _ _ _⟩ | exact ⟨rfl, _, Eq.trans (World.drewN_drewN _ _ _) (congrArg (World.drewN _) (Nat.add_assoc _ _ _))⟩)))
          repeat (go_quiet (first | (go_at_call 81; (with_reducible refine (impl_plain.calls kj2 (a0.extract 0 (t227 : Int).toNat) 9 false _ A15.out).mono ?_); rintro e w' ⟨rfl, ⟨nd, rfl⟩⟩; (try first | exact ⟨rfl, _, World.drewN_drewN _ _ _⟩ | exact ⟨rfl, _, Eq.trans (World.drewN_drewN _ _ _) (congrArg (World.drewN _) (Nat.add_assoc _ _ _))⟩))); try go_wp2_with (first | (go_at_call 81; (with_reducible refine (impl_plain.calls kj2 (a0.extract 0 (t227 : Int).toNat) 9 false _ A15.out).mono ?_); rintro e w' ⟨rfl, ⟨nd, rfl⟩⟩; (try first | exact ⟨rfl, _, World.drewN_drewN _ _ _⟩ | exact ⟨rfl, _, Eq.trans (World.drewN_drewN _ _ _) (congrArg (World.drewN _) (Nat.add_assoc _ _ _))⟩))))
          go_meet
          case rel => exact ⟨_, (true), (by first | rfl | (simp; done) | (simp [*]; done)), H', ⟨by have := HJ2.out; first | omega | exact Nat.le_refl _⟩, by repeat (first | exact Drawn0.refl _ | apply Drawn0.step)⟩
        case rest =>
         clear HC14
         try clear c1
         try clear c2
         try clear p2
         try clear c4
         try clear c4b0
         try clear c5
         try clear c5b0
         try clear c6
         try clear c6b0
         try clear p6
         try clear p7
         try clear q7
         try clear hx7
         try clear c8
         try clear c9
         try clear c9b0
         try clear c9b1
         try clear c10
         try clear c10b0
         try clear c10b1
         try clear c12
         try clear c12b0
         try clear c12b1
         try clear c13
         try clear c13b0
         try clear c13b1
         try clear c16
         try clear c18
         try clear p2
         try clear p7
         try clear q7
         obtain ⟨kq, x42_13, rfl, HA, HJ13, ⟨mc13, rfl⟩⟩ := hcut
         cases kq with
         | zero => exact absurd HA.out (by simp [impl_RealOf.j1])
         | succ kj13 =>
          have H := HA.out
          clear HA
          simp only [impl_RealOf.j1] at H
          by_cases c20 : x42_13 = true
          ·subst c20
           have H1 : (some (0, false)) = some (r1, r2) := by rw [if_pos rfl] at H; exact H
           clear H
           have H := H1
           clear H1
           simp only [Option.some.injEq, Prod.mk.injEq] at H
           obtain ⟨rfl, rfl⟩ := H
           go_wp2
           repeat (go_quiet (fail); try go_wp2)
           go_ret2
           exact ⟨by first | rfl | (simp; done) | (simp only [← hji11] <;> (first | rfl | simp)) | (simp [*]; done), by repeat (first | exact Drawn0.refl _ | apply Drawn0.step)⟩
          ·replace c20 := Bool.eq_false_iff.mpr c20
           subst c20
           have H1 : (impl_RealOf.l0 kj13 (a0.extract 0 (t227 : Int).toNat) (a0.extract ((ji11) : Int).toNat a0.size) 4607182418800017408 ((a0.extract ((ji11) : Int).toNat a0.size).size : Int) 0) = some (r1, r2) := by rw [if_neg (show ¬ (false = true) by decide)] at H; exact H
           clear H
           have H := H1
           clear H1
           have H' := Aside0.mk H
           clear H
           go_wp2
           repeat (go_quiet (fail); try go_wp2)
           go_loopg [7, 45] kj13 (fun kq v7 v45 w' => ∃ (x7_3 : Nat) (x45_3 : Int), v7 = .float .f64 x7_3 ∧ v45 = .int .i64 x45_3 ∧ Aside0 (impl_RealOf.l0 kq (a0.extract 0 (t227 : Int).toNat) (a0.extract ((ji11) : Int).toNat a0.size) x7_3 ((a0.extract ((ji11) : Int).toNat a0.size).size : Int) x45_3 = some (r1, r2)) ∧ Aside0 (kq ≤ kj13) ∧ Drawn0 w w')
           case atStart => exact ⟨(4607182418800017408), (0), (by first | rfl | (simp; done) | (simp [*]; done)), (by first | rfl | (simp; done) | (simp [*]; done)), H', ⟨Nat.le_refl _⟩, by repeat (first | exact Drawn0.refl _ | apply Drawn0.step)⟩
           case round =>
            clear H'
            try clear c1
            try clear c2
            try clear p2
            try clear c4
            try clear c4b0
            try clear c5
            try clear c5b0
            try clear c6
            try clear c6b0
            try clear p6
            try clear p7
            try clear q7
            try clear hx7
            try clear c8
            try clear c9
            try clear c9b0
            try clear c9b1
            try clear c10
            try clear c10b0
            try clear c10b1
            try clear c12
            try clear c12b0
            try clear c12b1
            try clear c13
            try clear c13b0
            try clear c13b1
            try clear c16
            try clear c18
            try clear c20
            try clear p2
            try clear p6
            try clear p7
            try clear q7
            obtain ⟨x7_3, x45_3, rfl, rfl, HA, HK3, ⟨m3, rfl⟩⟩ := hrel
            cases gk with
            | zero => exact absurd HA.out (by simp [impl_RealOf.l0])
            | succ k3 =>
             have H := HA.out
             clear HA
             simp only [impl_RealOf.l0] at H
             by_cases c21 : x45_3 < ((a0.extract ((ji11) : Int).toNat a0.size).size : Int)
             ·rw [if_pos c21] at H
              have c21b0 : decide (x45_3 < ((a0.extract ((ji11) : Int).toNat a0.size).size : Int)) = true := decide_eq_true c21
              (try (have c21b0n := c21b0; simp only [ByteArray.size_extract, Nat.min_self, Nat.sub_zero] at c21b0n))
              clear c21
              by_cases c22 : (floatBits .mul .f64 4621819117588971520 x7_3).isSome = true
              ·rw [if_pos c22] at H
               have c22b0 := fun (t_ : TypeId) (w_ : World) => run_float_arith (P := Try.prog) w_ .mul t_ .f64 _ _ _ (Go.Proofs.Ytiiakeakfllpjaa.Own.some_of (d := 0) c22)
               clear c22
               have H' := Aside0.mk H
               clear H
               go_wp2
               repeat (go_quiet (fail); try go_wp2)
               go_roundg k3
               case measure => have := HJ2.out; have := HJ13.out; have := HK3.out; omega
               case rel => exact ⟨((floatBits .mul .f64 4621819117588971520 x7_3).getD 0), (wrap64 (x45_3 + 1)), (by first | rfl | (simp; done) | (simp [*]; done)), (by first | rfl | (simp; done) | (simp [*]; done)), H', ⟨by have := HJ2.out; have := HJ13.out; have := HK3.out; omega⟩, by repeat (first | exact Drawn0.refl _ | apply Drawn0.step)⟩
              ·rw [if_neg c22] at H
               exact absurd H (by simp)
             ·rw [if_neg c21] at H
              have c21b0 : decide (x45_3 < ((a0.extract ((ji11) : Int).toNat a0.size).size : Int)) = false := decide_eq_false c21
              (try (have c21b0n := c21b0; simp only [ByteArray.size_extract, Nat.min_self, Nat.sub_zero] at c21b0n))
              clear c21
              by_cases c23 : (a0.extract 0 (t227 : Int).toNat).size + (a0.extract ((ji11) : Int).toNat a0.size).size ≤ 9223372036854775807
              ·rw [if_pos c23] at H
               have c23b0 := eq_true c23
               have c23b1 : decide ((a0.extract 0 (t227 : Int).toNat).size + (a0.extract ((ji11) : Int).toNat a0.size).size ≤ 9223372036854775807) = true := decide_eq_true c23
               (try (have c23b1m := c23b1; rw [show (a0.extract 0 (t227 : Int).toNat).size = (t227 : Int).toNat - 0 from by (rw [ByteArray.size_extract, Nat.min_eq_left]; first | omega | (simp only [decide_eq_true_eq] at *; omega))] at c23b1m))
               (try (have c23b1n := c23b1; simp only [ByteArray.size_extract, Nat.min_self, Nat.sub_zero] at c23b1n))
               try have c23b2 : (9223372036854775807 < (a0.extract 0 (t227 : Int).toNat).size + (a0.extract ((ji11) : Int).toNat a0.size).size) = False := eq_false (Nat.not_lt.2 c23)
               (try (have c23b2m := c23b2; rw [show (a0.extract 0 (t227 : Int).toNat).size = (t227 : Int).toNat - 0 from by (rw [ByteArray.size_extract, Nat.min_eq_left]; first | omega | (simp only [decide_eq_true_eq] at *; omega))] at c23b2m))
               (try (have c23b2n := c23b2; simp only [ByteArray.size_extract, Nat.min_self, Nat.sub_zero] at c23b2n))
               replace H := Option.bind_eq_some_iff.mp H
               obtain ⟨t231, A240, H⟩ := H
               (try dsimp only at H)
               have A24 := Aside0.mk A240
               clear A240
               by_cases c25 : (floatBits .quo .f64 (floatOfInt .f64 t231) x7_3).isSome = true
               ·rw [if_pos c25] at H
                have c25b0 := fun (t_ : TypeId) (w_ : World) => run_float_arith (P := Try.prog) w_ .quo t_ .f64 _ _ _ (Go.Proofs.Ytiiakeakfllpjaa.Own.some_of (d := 0) c25)
                clear c25
                simp only [Option.some.injEq, Prod.mk.injEq] at H
                obtain ⟨rfl, rfl⟩ := H
                go_wp2_with (first | (go_at_call 82; (with_reducible refine (impl_number.calls k3 ((a0.extract 0 (t227 : Int).toNat) ++ (a0.extract ((ji11) : Int).toNat a0.size)) t231 _ A24.out).mono ?_); rintro e w' ⟨rfl, ⟨nd, rfl⟩⟩; (try first | exact ⟨rfl, _, World.drewN_drewN _ _ _⟩ | exact ⟨rfl, _, Eq.trans (World.drewN_drewN _ _ _) (congrArg (World.drewN _) (Nat.add_assoc _ _ _))⟩)))
                repeat (go_quiet (first | (go_at_call 82; (with_reducible refine (impl_number.calls k3 ((a0.extract 0 (t227 : Int).toNat) ++ (a0.extract ((ji11) : Int).toNat a0.size)) t231 _ A24.out).mono ?_); rintro e w' ⟨rfl, ⟨nd, rfl⟩⟩; (try first | exact ⟨rfl, _, World.drewN_drewN _ _ _⟩ | exact ⟨rfl, _, Eq.trans (World.drewN_drewN _ _ _) (congrArg (World.drewN _) (Nat.add_assoc _ _ _))⟩))); try go_wp2_with (first | (go_at_call 82; (with_reducible refine (impl_number.calls k3 ((a0.extract 0 (t227 : Int).toNat) ++ (a0.extract ((ji11) : Int).toNat a0.size)) t231 _ A24.out).mono ?_); rintro e w' ⟨rfl, ⟨nd, rfl⟩⟩; (try first | exact ⟨rfl, _, World.drewN_drewN _ _ _⟩ | exact ⟨rfl, _, Eq.trans (World.drewN_drewN _ _ _) (congrArg (World.drewN _) (Nat.add_assoc _ _ _))⟩))))
                go_ret2
                exact ⟨by first | rfl | (simp; done) | (simp only [← hji11] <;> (first | rfl | simp)) | (simp [*]; done), by repeat (first | exact Drawn0.refl _ | apply Drawn0.step)⟩
               ·rw [if_neg c25] at H
                exact absurd H (by simp)
              ·rw [if_neg c23] at H
               exact absurd H (by simp)
       ·rw [if_neg c13] at H
        exact absurd H (by simp)
      ·rw [if_neg c12] at H
       exact absurd H (by simp)
     ·rw [if_neg c10] at H
      exact absurd H (by simp)
    ·rw [if_neg c9] at H
     exact absurd H (by simp)

/-! ### impl_isLetter: function 83 -/
def impl_isLetter.f (a0 : Int) : Option (Bool) := if a0 ≥ 97 then (if a0 ≤ 122 then (some true) else (if a0 ≥ 65 then (some (decide (a0 ≤ 90))) else (some false))) else (if a0 ≥ 65 then (some (decide (a0 ≤ 90))) else (some false))
set_option maxHeartbeats 8000000 in
set_option maxRecDepth 100000 in
theorem impl_isLetter.calls (a0 : Int) (r : Bool) (w : World) (h : impl_isLetter.f a0 = some r) :
    Calls Try.prog 83 #[.int .u8 a0] w fun e w' => e = .returned (.bool r) ∧ Drawn0 w w' := by
  have H : (if a0 ≥ 97 then (if a0 ≤ 122 then (some true) else (if a0 ≥ 65 then (some (decide (a0 ≤ 90))) else (some false))) else (if a0 ≥ 65 then (some (decide (a0 ≤ 90))) else (some false))) = some r := h
  clear h
  by_cases c2 : a0 ≥ 97
  · rw [if_pos c2] at H
    have c2b0 : decide (97 ≤ a0) = true := decide_eq_true c2
    clear c2
    by_cases c3 : a0 ≤ 122
    · rw [if_pos c3] at H
      have c3b0 : decide (a0 ≤ 122) = true := decide_eq_true c3
      clear c3
      obtain rfl := Option.some.inj H
      go_enter Try.func83, Try.ntmps83
      go_wp2
      go_ret
      exact ⟨by first | rfl | (simp; done) | (simp [*]; done), by repeat (first | exact Drawn0.refl _ | apply Drawn0.step)⟩
    · rw [if_neg c3] at H
      have c3b0 : decide (a0 ≤ 122) = false := decide_eq_false c3
      clear c3
      by_cases c4 : a0 ≥ 65
      · rw [if_pos c4] at H
        have c4b0 : decide (65 ≤ a0) = true := decide_eq_true c4
        clear c4
        obtain rfl := Option.some.inj H
        go_enter Try.func83, Try.ntmps83
        go_wp2
        go_ret
        exact ⟨by first | rfl | (simp; done) | (simp [*]; done), by repeat (first | exact Drawn0.refl _ | apply Drawn0.step)⟩
      · rw [if_neg c4] at H
        have c4b0 : decide (65 ≤ a0) = false := decide_eq_false c4
        clear c4
        obtain rfl := Option.some.inj H
        go_enter Try.func83, Try.ntmps83
        go_wp2
        go_ret
        exact ⟨by first | rfl | (simp; done) | (simp [*]; done), by repeat (first | exact Drawn0.refl _ | apply Drawn0.step)⟩
  · rw [if_neg c2] at H
    have c2b0 : decide (97 ≤ a0) = false := decide_eq_false c2
    clear c2
    by_cases c5 : a0 ≥ 65
    · rw [if_pos c5] at H
      have c5b0 : decide (65 ≤ a0) = true := decide_eq_true c5
      clear c5
      obtain rfl := Option.some.inj H
      go_enter Try.func83, Try.ntmps83
      go_wp2
      go_ret
      exact ⟨by first | rfl | (simp; done) | (simp [*]; done), by repeat (first | exact Drawn0.refl _ | apply Drawn0.step)⟩
    · rw [if_neg c5] at H
      have c5b0 : decide (65 ≤ a0) = false := decide_eq_false c5
      clear c5
      obtain rfl := Option.some.inj H
      go_enter Try.func83, Try.ntmps83
      go_wp2
      go_ret
      exact ⟨by first | rfl | (simp; done) | (simp [*]; done), by repeat (first | exact Drawn0.refl _ | apply Drawn0.step)⟩

end Go.Proofs.Ytiiakeakfllpjaa.PFnExactFold
