-- written by wip/tools/myprint.py out of the program's own print
import Derived.Test.YtnecbgeljanhiaaPFnExactLexx0
import Derived.Test.YtnecbgeljanhiaaPFnExactLexx4
import Derived.Test.YtnecbgeljanhiaaPFnExactLexx5
namespace Go.Proofs.Ytnecbgeljanhiaa.PFnExactLex
open Go.Proofs.Ytnecbgeljanhiaa.Own (rS cS bS rB)
open Go.RowKit Go.Proofs.YtnecbgeljanhiaaW.PrintWords Go.Proofs.YtnecbgeljanhiaaW.PrintLast Go.Proofs.YtnecbgeljanhiaaW.PrintMore
attribute [local go_sem] max2_int min2_int max_two min_two max_three min_three max_four min_four   -- for this text's walks alone
attribute [local go_sem] Go.Proofs.Ytnecbgeljanhiaa.Own.run_store_float
set_option linter.unusedVariables false
set_option linter.unusedSimpArgs false

/-! ### impl_lexNumber: function 152 -/
mutual
def impl_lexNumber.j0 : Nat → ByteArray → Int → Int → Bool → Option (Int × Int × ByteArray × Int × Nat × Int)
  | 0, _, _, _, _ => none
  | k + 1, x0, x1, x6, x7 => if x7 = true then ((impl_run__impl_isDigit.f k x0 (wrap64 (x6 + 1))).bind fun t163 => (impl_lexNumber.j1 k x0 x1 t163 x7)) else (impl_lexNumber.j1 k x0 x1 x6 x7)
def impl_lexNumber.j1 : Nat → ByteArray → Int → Int → Bool → Option (Int × Int × ByteArray × Int × Nat × Int)
  | 0, _, _, _, _ => none
  | k + 1, x0, x1, x6, x7 => if 0 ≤ x1 then (if x1 ≤ x6 then (if x6 ≤ (x0.size : Int) then (if x6 < (x0.size : Int) then (if 0 ≤ x6 then ((impl_isLetter.f (bt x0 x6)).bind fun t165 => (impl_lexNumber.j2 k x7 t165 3 x1 (x0.extract (x1 : Int).toNat (x6 : Int).toNat) 0 0)) else (none)) else (impl_lexNumber.j2 k x7 false 3 x1 (x0.extract (x1 : Int).toNat (x6 : Int).toNat) 0 0)) else (none)) else (none)) else (none)
def impl_lexNumber.j2 : Nat → Bool → Bool → Int → Int → ByteArray → Int → Nat → Option (Int × Int × ByteArray × Int × Nat × Int)
  | 0, _, _, _, _, _, _, _ => none
  | k + 1, x7, x52, x165000, x165001, x165002, x165003, x165004 => if x52 = true then (some (0, 0, (⟨#[]⟩ : ByteArray), 0, 0, 3)) else (if x7 = true then ((impl_RealOf.f k x165002).bind fun bt166 => (if bt166.2 = true then (some (4, x165001, x165002, x165003, bt166.1, 0)) else (some (0, 0, (⟨#[]⟩ : ByteArray), 0, 0, 3)))) else ((impl_plain.f k x165002 15).bind fun t168 => (if t168 = true then ((impl_number.f k x165002).bind fun t169 => (some (x165000, x165001, x165002, t169, x165004, 0))) else (some (0, 0, (⟨#[]⟩ : ByteArray), 0, 0, 3)))))
end
def impl_lexNumber.f (k : Nat) (a0 : ByteArray) (a1 : Int) : Option (Int × Int × ByteArray × Int × Nat × Int) := (impl_run__impl_isDigit.f k a0 a1).bind fun t161 => (if (wrap64 (t161 + 1)) < (a0.size : Int) then (if 0 ≤ t161 then (if t161 < (a0.size : Int) then (if (bt a0 t161) = 46 then (if 0 ≤ (wrap64 (t161 + 1)) then ((impl_isDigit.f (bt a0 (wrap64 (t161 + 1)))).bind fun t162 => (impl_lexNumber.j0 k a0 a1 t161 t162)) else (none)) else (impl_lexNumber.j0 k a0 a1 t161 false)) else (none)) else (none)) else (impl_lexNumber.j0 k a0 a1 t161 false))
theorem impl_lexNumber.mono_l : ∀ k, (∀ y0 y1 y2 y3, LeO (impl_lexNumber.j0 k y0 y1 y2 y3) (impl_lexNumber.j0 (k + 1) y0 y1 y2 y3)) ∧ (∀ y0 y1 y2 y3, LeO (impl_lexNumber.j1 k y0 y1 y2 y3) (impl_lexNumber.j1 (k + 1) y0 y1 y2 y3)) ∧ (∀ y0 y1 y2 y3 y4 y5 y6, LeO (impl_lexNumber.j2 k y0 y1 y2 y3 y4 y5 y6) (impl_lexNumber.j2 (k + 1) y0 y1 y2 y3 y4 y5 y6))
  | 0 => ⟨fun _ _ _ _ r h => by simp [impl_lexNumber.j0] at h, fun _ _ _ _ r h => by simp [impl_lexNumber.j1] at h, fun _ _ _ _ _ _ _ r h => by simp [impl_lexNumber.j2] at h⟩
  | k + 1 => by
    obtain ⟨ih0, ih1, ih2⟩ := impl_lexNumber.mono_l k
    refine ⟨?_, ?_, ?_⟩
    · intro y0 y1 y2 y3
      unfold impl_lexNumber.j0
      repeat' first
      | (with_reducible exact ih0 _ _ _ _)
      | (with_reducible exact ih1 _ _ _ _)
      | (with_reducible exact ih2 _ _ _ _ _ _ _)
      | (with_reducible exact impl_RealOf.mono _ _)
      | (with_reducible exact impl_number.mono _ _)
      | (with_reducible exact impl_plain.mono _ _ _)
      | (with_reducible exact impl_run__impl_isDigit.mono _ _ _)
      | (with_reducible exact LeO.refl _)
      | (with_reducible exact LeO.none _)
      | (with_reducible refine LeO.ite ?_ ?_)
      | (with_reducible refine LeO.bind ?_ (fun _ => ?_))
      | exact ih0 _ _ _ _
      | exact ih1 _ _ _ _
      | exact ih2 _ _ _ _ _ _ _
      | exact impl_RealOf.mono _ _
      | exact impl_number.mono _ _
      | exact impl_plain.mono _ _ _
      | exact impl_run__impl_isDigit.mono _ _ _
      | exact LeO.none _
      | refine LeO.ite ?_ ?_
      | refine LeO.bind ?_ (fun _ => ?_)
    · intro y0 y1 y2 y3
      unfold impl_lexNumber.j1
      repeat' first
      | (with_reducible exact ih0 _ _ _ _)
      | (with_reducible exact ih1 _ _ _ _)
      | (with_reducible exact ih2 _ _ _ _ _ _ _)
      | (with_reducible exact impl_RealOf.mono _ _)
      | (with_reducible exact impl_number.mono _ _)
      | (with_reducible exact impl_plain.mono _ _ _)
      | (with_reducible exact impl_run__impl_isDigit.mono _ _ _)
      | (with_reducible exact LeO.refl _)
      | (with_reducible exact LeO.none _)
      | (with_reducible refine LeO.ite ?_ ?_)
      | (with_reducible refine LeO.bind ?_ (fun _ => ?_))
      | exact ih0 _ _ _ _
      | exact ih1 _ _ _ _
      | exact ih2 _ _ _ _ _ _ _
      | exact impl_RealOf.mono _ _
      | exact impl_number.mono _ _
      | exact impl_plain.mono _ _ _
      | exact impl_run__impl_isDigit.mono _ _ _
      | exact LeO.none _
      | refine LeO.ite ?_ ?_
      | refine LeO.bind ?_ (fun _ => ?_)
    · intro y0 y1 y2 y3 y4 y5 y6
      unfold impl_lexNumber.j2
      repeat' first
      | (with_reducible exact ih0 _ _ _ _)
      | (with_reducible exact ih1 _ _ _ _)
      | (with_reducible exact ih2 _ _ _ _ _ _ _)
      | (with_reducible exact impl_RealOf.mono _ _)
      | (with_reducible exact impl_number.mono _ _)
      | (with_reducible exact impl_plain.mono _ _ _)
      | (with_reducible exact impl_run__impl_isDigit.mono _ _ _)
      | (with_reducible exact LeO.refl _)
      | (with_reducible exact LeO.none _)
      | (with_reducible refine LeO.ite ?_ ?_)
      | (with_reducible refine LeO.bind ?_ (fun _ => ?_))
      | exact ih0 _ _ _ _
      | exact ih1 _ _ _ _
      | exact ih2 _ _ _ _ _ _ _
      | exact impl_RealOf.mono _ _
      | exact impl_number.mono _ _
      | exact impl_plain.mono _ _ _
      | exact impl_run__impl_isDigit.mono _ _ _
      | exact LeO.none _
      | refine LeO.ite ?_ ?_
      | refine LeO.bind ?_ (fun _ => ?_)
theorem impl_lexNumber.mono : ∀ a0 a1 k, LeO (impl_lexNumber.f k a0 a1) (impl_lexNumber.f (k + 1) a0 a1) := by
  intro a0 a1 k
  obtain ⟨ih0, ih1, ih2⟩ := impl_lexNumber.mono_l k
  unfold impl_lexNumber.f
  repeat' first
      | (with_reducible exact ih0 _ _ _ _)
      | (with_reducible exact ih1 _ _ _ _)
      | (with_reducible exact ih2 _ _ _ _ _ _ _)
      | (with_reducible exact impl_RealOf.mono _ _)
      | (with_reducible exact impl_number.mono _ _)
      | (with_reducible exact impl_plain.mono _ _ _)
      | (with_reducible exact impl_run__impl_isDigit.mono _ _ _)
      | (with_reducible exact LeO.refl _)
      | (with_reducible exact LeO.none _)
      | (with_reducible refine LeO.ite ?_ ?_)
      | (with_reducible refine LeO.bind ?_ (fun _ => ?_))
      | exact ih0 _ _ _ _
      | exact ih1 _ _ _ _
      | exact ih2 _ _ _ _ _ _ _
      | exact impl_RealOf.mono _ _
      | exact impl_number.mono _ _
      | exact impl_plain.mono _ _ _
      | exact impl_run__impl_isDigit.mono _ _ _
      | exact LeO.none _
      | refine LeO.ite ?_ ?_
      | refine LeO.bind ?_ (fun _ => ?_)
set_option maxHeartbeats 8000000 in
set_option maxRecDepth 100000 in
theorem impl_lexNumber.calls (k : Nat) (a0 : ByteArray) (a1 : Int) (r1 : Int) (r2 : Int) (r3 : ByteArray) (r4 : Int) (r5 : Nat) (r6 : Int) (w : World) (h : impl_lexNumber.f k a0 a1 = some (r1, r2, r3, r4, r5, r6)) :
    Calls Try.prog 152 #[.string a0, .int .i64 a1] w fun e w' => e = .returned (.tuple #[.agg #[.int .i64 r1, .int .i64 r2, .string r3, .int .i64 r4, .float .f64 r5], .int .i64 r6]) ∧ Below w.heap.size w w' := by
  have hu148 := Try.underlying148
  have HB := Aside0.mk (Below.refl w.heap.size w)
  have H : ((impl_run__impl_isDigit.f k a0 a1).bind fun t161 => (if (wrap64 (t161 + 1)) < (a0.size : Int) then (if 0 ≤ t161 then (if t161 < (a0.size : Int) then (if (bt a0 t161) = 46 then (if 0 ≤ (wrap64 (t161 + 1)) then ((impl_isDigit.f (bt a0 (wrap64 (t161 + 1)))).bind fun t162 => (impl_lexNumber.j0 k a0 a1 t161 t162)) else (none)) else (impl_lexNumber.j0 k a0 a1 t161 false)) else (none)) else (none)) else (impl_lexNumber.j0 k a0 a1 t161 false))) = some (r1, r2, r3, r4, r5, r6) := h
  clear h
  replace H := Option.bind_eq_some_iff.mp H
  obtain ⟨t161, A30, H⟩ := H
  (try dsimp only at H)
  have A3 := Aside0.mk A30
  clear A30
  have HC4 := Aside0.mk H
  clear H
  go_enter Try.func152, Try.ntmps152
  go_upto_region 2 with (first | ((with_reducible refine gate_dst (N := 4) rfl ?_); refine box_event ?hg (N := 4) ?hd (cs := #[.int .i64 0, .int .i64 0, .string (⟨#[]⟩ : ByteArray), .int .i64 0, .float .f64 0]) (t := 148) ?hr ?_; (case hd => rfl); (case hg => rfl); (case hr => first | (go_simp; done) | (go_simp; rfl)); intro gb160 hg w5 hbox hb; have n0_ := Aside0.mk (below_step (bS HB.out) hb); have n1_ := Aside0.mk (hbox); have n2_ := Aside0.mk ((by rw [hg]; exact (below_size (bS HB.out)) : w.heap.size ≤ gb160)); have n3_ := Aside0.mk ((by rw [hg]; exact (below_size (bS HB.out)) : w.heap.size ≤ gb160)); clear HB; have HB := n0_; have BK160 := n1_; have GW160 := n2_; have GE160 := n3_; clear n0_ n1_ n2_ n3_; clear hb hbox hg) | ((with_reducible refine gate_callee (f := 110) rfl ?_); refine goesL_ (some 13) rfl rfl Try.func110 (by kernel_rfl) rfl #[.string a0, .int .i64 a1, .func (.func 151) #[] #[]] rfl (by (try simp only [List.map_toArray, List.map_cons, List.map_nil]); first | done | rfl | (simp only [List.length_drop, List.length_take]; rfl)) ?_; (with_reducible refine (impl_run__impl_isDigit.calls k a0 a1  t161 _ A3.out).mono ?_); rintro e w' ⟨rfl, ⟨nd, rfl⟩⟩; refine ⟨_, rfl, ?_⟩))
  (try simp only [Act.put, List.setIfInBounds_toArray, List.set_cons_zero, List.set_cons_succ])
  go_cut [7] (fun v7 wc => ∃ (kq : Nat) (x7_3 : Bool), v7 = .bool x7_3 ∧ Aside0 (impl_lexNumber.j0 kq a0 a1 t161 x7_3 = some (r1, r2, r3, r4, r5, r6)) ∧ Aside0 (kq ≤ k) ∧ Aside0 (wc.heap[gb160]? = some (.cells #[.int .i64 0, .int .i64 0, .string (⟨#[]⟩ : ByteArray), .int .i64 0, .float .f64 0] 148 (0, 0))) ∧ Aside0 (Below w.heap.size w wc))
  case first =>
    have H := HC4.out
    clear HC4
    by_cases c6 : (wrap64 (t161 + 1)) < (a0.size : Int)
    · rw [if_pos c6] at H
      have c6b0 : decide ((wrap64 (t161 + 1)) < (a0.size : Int)) = true := decide_eq_true c6
      clear c6
      (first | rw [c6b0] | (simp only [i64_w, i32_w]; rw [c6b0]) | skip)
      by_cases c7 : 0 ≤ t161
      · rw [if_pos c7] at H
        have c7b0 : decide (0 ≤ t161) = true := decide_eq_true c7
        clear c7
        by_cases c8 : t161 < (a0.size : Int)
        · rw [if_pos c8] at H
          have c8b0 : decide (t161 < (a0.size : Int)) = true := decide_eq_true c8
          clear c8
          by_cases c10 : (bt a0 t161) = 46
          · rw [if_pos c10] at H
            have c10b0 : ((bt a0 t161) == 46) = true := beq_iff_eq.mpr c10
            have c10b1 : ((bt a0 t161) != 46) = false := bne_eq_false_iff_eq.mpr c10
            clear c10
            obtain ⟨ji11, hji11⟩ : ∃ j_ : Int, (wrap64 (t161 + 1)) = j_ := ⟨_, rfl⟩
            replace H : (if 0 ≤ (ji11) then ((impl_isDigit.f (bt a0 (ji11))).bind fun t162 => (impl_lexNumber.j0 k a0 a1 t161 t162)) else (none)) = some (r1, r2, r3, r4, r5, r6) := by first | (rw [hji11] at H; exact H) | (simp only [hji11] at H ⊢; exact H)
            (try rw [hji11] at c6b0)
            have hji11w : (IntKind.i64.wrap (t161 + 1)) = ji11 := (i64_w _).trans hji11
            by_cases c12 : 0 ≤ (ji11)
            · rw [if_pos c12] at H
              have c12b0 : decide (0 ≤ (ji11)) = true := decide_eq_true c12
              clear c12
              replace H := Option.bind_eq_some_iff.mp H
              obtain ⟨t162, A140, H⟩ := H
              (try dsimp only at H)
              have A14 := Aside0.mk A140
              clear A140
              have H' := Aside0.mk H
              clear H
              have p9 : 0 ≤ (t161 : Int) := of_decide_eq_true (by first | (with_reducible assumption) | assumption)
              have q9 : t161 < (a0.size : Int) := of_decide_eq_true (by first | (with_reducible assumption) | assumption)
              have hx9 := bt_at a0 t161
              replace p9 := eq_true p9
              replace q9 := eq_true q9
              have p13 : 0 ≤ ((ji11) : Int) := of_decide_eq_true (by first | (with_reducible assumption) | assumption)
              have q13 : (ji11) < (a0.size : Int) := of_decide_eq_true (by first | (with_reducible assumption) | assumption)
              have hx13 := bt_at a0 (ji11)
              replace p13 := eq_true p13
              replace q13 := eq_true q13
              go_wp2_with (first | (go_at_call 151; (with_reducible refine (impl_isDigit.calls (bt a0 (ji11)) t162 _ A14.out).mono ?_); rintro e w' ⟨rfl, ⟨nd, rfl⟩⟩))
              go_meet
              case rel => exact ⟨_, (t162), (by first | rfl | (simp; done) | (simp [*]; done)), H', ⟨by first | omega | exact Nat.le_refl _⟩, ⟨by (with_reducible repeat (first | refine blk_drewN ?_ _ | refine blk_drew ?_ | refine blk_alloc ?_ _)); exact BK160.out⟩, ⟨by repeat (first | (with_reducible first | exact HB.out | apply below_alloc | apply pw_below_drewN | apply below_drew1 | refine below_set ?_ GE160.out) | exact HB.out)⟩⟩
            · rw [if_neg c12] at H
              exact absurd H (by simp)
          · rw [if_neg c10] at H
            have c10b0 : ((bt a0 t161) == 46) = false := beq_eq_false_iff_ne.mpr c10
            have c10b1 : ((bt a0 t161) != 46) = true := bne_iff_ne.mpr c10
            have H' := Aside0.mk H
            clear H
            have p9 : 0 ≤ (t161 : Int) := of_decide_eq_true (by first | (with_reducible assumption) | assumption)
            have q9 : t161 < (a0.size : Int) := of_decide_eq_true (by first | (with_reducible assumption) | assumption)
            have hx9 := bt_at a0 t161
            replace p9 := eq_true p9
            replace q9 := eq_true q9
            go_wp2
            go_meet
            case rel => exact ⟨_, (false), (by first | rfl | (simp; done) | (simp [*]; done)), H', ⟨by first | omega | exact Nat.le_refl _⟩, ⟨by (with_reducible repeat (first | refine blk_drewN ?_ _ | refine blk_drew ?_ | refine blk_alloc ?_ _)); exact BK160.out⟩, ⟨by repeat (first | (with_reducible first | exact HB.out | apply below_alloc | apply pw_below_drewN | apply below_drew1 | refine below_set ?_ GE160.out) | exact HB.out)⟩⟩
        · rw [if_neg c8] at H
          exact absurd H (by simp)
      · rw [if_neg c7] at H
        exact absurd H (by simp)
    · rw [if_neg c6] at H
      have c6b0 : decide ((wrap64 (t161 + 1)) < (a0.size : Int)) = false := decide_eq_false c6
      clear c6
      (first | rw [c6b0] | (simp only [i64_w, i32_w]; rw [c6b0]) | skip)
      have H' := Aside0.mk H
      clear H
      go_wp2
      go_meet
      case rel => exact ⟨_, (false), (by first | rfl | (simp; done) | (simp [*]; done)), H', ⟨by first | omega | exact Nat.le_refl _⟩, ⟨by (with_reducible repeat (first | refine blk_drewN ?_ _ | refine blk_drew ?_ | refine blk_alloc ?_ _)); exact BK160.out⟩, ⟨by repeat (first | (with_reducible first | exact HB.out | apply below_alloc | apply pw_below_drewN | apply below_drew1 | refine below_set ?_ GE160.out) | exact HB.out)⟩⟩
  case rest =>
    clear HC4
    try clear c1
    try clear p1
    try clear q1
    try clear hx1
    try clear p2
    try clear c6
    try clear c6b0
    try clear p6
    try clear c7
    try clear c7b0
    try clear c8
    try clear c8b0
    try clear p9
    try clear q9
    try clear hx9
    try clear c10
    try clear c10b0
    try clear c10b1
    try clear c12
    try clear c12b0
    try clear p13
    try clear q13
    try clear hx13
    try clear p13
    try clear p9
    try clear q13
    try clear q9
    obtain ⟨kq, x7_3, rfl, HA, HJ3, BK160, HB⟩ := hcut
    cases kq with
    | zero => exact absurd HA.out (by simp [impl_lexNumber.j0])
    | succ kj3 =>
      have H := HA.out
      clear HA
      simp only [impl_lexNumber.j0] at H
      have HC15 := Aside0.mk H
      clear H
      go_upto_if 32 with (fail)
      go_cut [6] (fun v6 wc => ∃ (kq : Nat) (x6_14 : Int), v6 = .int .i64 x6_14 ∧ Aside0 (impl_lexNumber.j1 kq a0 a1 x6_14 x7_3 = some (r1, r2, r3, r4, r5, r6)) ∧ Aside0 (kq ≤ kj3) ∧ Aside0 (wc.heap[gb160]? = some (.cells #[.int .i64 0, .int .i64 0, .string (⟨#[]⟩ : ByteArray), .int .i64 0, .float .f64 0] 148 (0, 0))) ∧ Aside0 (Below w.heap.size w wc))
      case first =>
        have H := HC15.out
        clear HC15
        by_cases c16 : x7_3 = true
        · subst c16
          have H1 : ((impl_run__impl_isDigit.f kj3 a0 (wrap64 (t161 + 1))).bind fun t163 => (impl_lexNumber.j1 kj3 a0 a1 t163 true)) = some (r1, r2, r3, r4, r5, r6) := by rw [if_pos rfl] at H; exact H
          clear H
          have H := H1
          clear H1
          replace H := Option.bind_eq_some_iff.mp H
          obtain ⟨t163, A170, H⟩ := H
          (try dsimp only at H)
          have A17 := Aside0.mk A170
          clear A170
          have H' := Aside0.mk H
          clear H
          go_wp2_with (first | ((with_reducible refine gate_callee (f := 110) rfl ?_); refine goesL_ (some 36) rfl rfl Try.func110 (by kernel_rfl) rfl #[.string a0, .int .i64 (wrap64 (t161 + 1)), .func (.func 151) #[] #[]] rfl (by (try simp only [List.map_toArray, List.map_cons, List.map_nil]); first | done | rfl | (simp only [List.length_drop, List.length_take]; rfl)) ?_; (with_reducible refine (impl_run__impl_isDigit.calls kj3 a0 (wrap64 (t161 + 1))  t163 _ A17.out).mono ?_); rintro e w' ⟨rfl, ⟨nd, rfl⟩⟩; refine ⟨_, rfl, ?_⟩))
          go_meet
          case rel => exact ⟨_, (t163), (by first | rfl | (simp; done) | (simp [*]; done)), H', ⟨by have := HJ3.out; first | omega | exact Nat.le_refl _⟩, ⟨by (with_reducible repeat (first | refine blk_drewN ?_ _ | refine blk_drew ?_ | refine blk_alloc ?_ _)); exact BK160.out⟩, ⟨by repeat (first | (with_reducible first | exact HB.out | apply below_alloc | apply pw_below_drewN | apply below_drew1 | refine below_set ?_ GE160.out) | exact HB.out)⟩⟩
        · replace c16 := Bool.eq_false_iff.mpr c16
          subst c16
          have H1 : (impl_lexNumber.j1 kj3 a0 a1 t161 false) = some (r1, r2, r3, r4, r5, r6) := by rw [if_neg (show ¬ (false = true) by decide)] at H; exact H
          clear H
          have H := H1
          clear H1
          have H' := Aside0.mk H
          clear H
          go_wp2
          go_meet
          case rel => exact ⟨_, (t161), (by first | rfl | (simp; done) | (simp [*]; done)), H', ⟨by have := HJ3.out; first | omega | exact Nat.le_refl _⟩, ⟨by (with_reducible repeat (first | refine blk_drewN ?_ _ | refine blk_drew ?_ | refine blk_alloc ?_ _)); exact BK160.out⟩, ⟨by repeat (first | (with_reducible first | exact HB.out | apply below_alloc | apply pw_below_drewN | apply below_drew1 | refine below_set ?_ GE160.out) | exact HB.out)⟩⟩
      case rest =>
        clear HC15
        try clear c1
        try clear p1
        try clear q1
        try clear hx1
        try clear p2
        try clear c6
        try clear c6b0
        try clear p6
        try clear c7
        try clear c7b0
        try clear c8
        try clear c8b0
        try clear p9
        try clear q9
        try clear hx9
        try clear c10
        try clear c10b0
        try clear c10b1
        try clear c12
        try clear c12b0
        try clear p13
        try clear q13
        try clear hx13
        try clear c15
        try clear c16
        try clear p1
        try clear p13
        try clear p2
        try clear p6
        try clear p9
        try clear q1
        try clear q13
        try clear q9
        obtain ⟨kq, x6_14, rfl, HA, HJ14, BK160, HB⟩ := hcut
        cases kq with
        | zero => exact absurd HA.out (by simp [impl_lexNumber.j1])
        | succ kj14 =>
          have H := HA.out
          clear HA
          simp only [impl_lexNumber.j1] at H
          by_cases c18 : 0 ≤ a1
          · rw [if_pos c18] at H
            have c18b0 := eq_true c18
            have c18b1 : decide (0 ≤ a1) = true := decide_eq_true c18
            clear c18
            by_cases c19 : a1 ≤ x6_14
            · rw [if_pos c19] at H
              have c19b0 := eq_true c19
              have c19b1 : decide (a1 ≤ x6_14) = true := decide_eq_true c19
              clear c19
              by_cases c20 : x6_14 ≤ (a0.size : Int)
              · rw [if_pos c20] at H
                have c20b0 := eq_true c20
                have c20b1 : decide (x6_14 ≤ (a0.size : Int)) = true := decide_eq_true c20
                clear c20
                have HC21 := Aside0.mk H
                clear H
                go_upto_region 6 with (first | ((with_reducible refine gate_dst (N := 8) rfl ?_); refine box_event ?hg (N := 8) ?hd (cs := #[.int .i64 0, .int .i64 0, .string (⟨#[]⟩ : ByteArray), .int .i64 0, .float .f64 0]) (t := 148) ?hr ?_; (case hd => rfl); (case hg => rfl); (case hr => first | (go_simp; done) | (go_simp; rfl)); intro gb164 hg w22 hbox hb; have n0_ := Aside0.mk (blk_below (g := gb160) (o := .cells #[.int .i64 0, .int .i64 0, .string (⟨#[]⟩ : ByteArray), .int .i64 0, .float .f64 0] 148 (0, 0)) (by (with_reducible repeat (first | refine blk_drewN ?_ _ | refine blk_drew ?_ | refine blk_alloc ?_ _)); exact BK160.out) hb); have n1_ := Aside0.mk (below_step (by repeat (first | (with_reducible first | exact HB.out | apply below_alloc | apply pw_below_drewN | apply below_drew1 | refine below_set ?_ GE160.out) | exact HB.out)) hb); have n2_ := Aside0.mk (hbox); have n3_ := Aside0.mk ((by rw [hg]; exact (below_size (by repeat (first | (with_reducible first | exact HB.out | apply below_alloc | apply pw_below_drewN | apply below_drew1 | refine below_set ?_ GE160.out) | exact HB.out))) : w.heap.size ≤ gb164)); have n4_ := Aside0.mk ((by rw [hg]; exact (below_size (by repeat (first | (with_reducible first | exact HB.out | apply below_alloc | apply pw_below_drewN | apply below_drew1 | refine below_set ?_ GE160.out) | exact HB.out))) : w.heap.size ≤ gb164)); have n5_ := Aside0.mk ((by rw [hg]; exact Nat.ne_of_lt (blk_lt (g := gb160) (o := .cells #[.int .i64 0, .int .i64 0, .string (⟨#[]⟩ : ByteArray), .int .i64 0, .float .f64 0] 148 (0, 0)) (by (with_reducible repeat (first | refine blk_drewN ?_ _ | refine blk_drew ?_ | refine blk_alloc ?_ _)); exact BK160.out)) : gb160 ≠ gb164)); have n6_ := Aside0.mk ((by rw [hg]; exact Nat.ne_of_gt (blk_lt (g := gb160) (o := .cells #[.int .i64 0, .int .i64 0, .string (⟨#[]⟩ : ByteArray), .int .i64 0, .float .f64 0] 148 (0, 0)) (by (with_reducible repeat (first | refine blk_drewN ?_ _ | refine blk_drew ?_ | refine blk_alloc ?_ _)); exact BK160.out)) : gb164 ≠ gb160)); clear BK160; clear HB; have BK160 := n0_; have HB := n1_; have BK164 := n2_; have GW164 := n3_; have GE164 := n4_; have NB160_164 := n5_; have NB164_160 := n6_; clear n0_ n1_ n2_ n3_ n4_ n5_ n6_; clear hb hbox hg; have hnb23 := NB164_160.out; have hnc23 := NB160_164.out; have hcz24_0 : w22.cell? ⟨gb164, 0, none⟩ = some (.int .i64 0) := (blk_cell BK164.out 0).trans rfl; have hcz24_1 : w22.cell? ⟨gb164, 1, none⟩ = some (.int .i64 0) := (blk_cell BK164.out 1).trans rfl; have hcz24_2 : w22.cell? ⟨gb164, 2, none⟩ = some (.string (⟨#[]⟩ : ByteArray)) := (blk_cell BK164.out 2).trans rfl; have hcz24_3 : w22.cell? ⟨gb164, 3, none⟩ = some (.int .i64 0) := (blk_cell BK164.out 3).trans rfl; have hcz24_4 : w22.cell? ⟨gb164, 4, none⟩ = some (.float .f64 0) := (blk_cell BK164.out 4).trans rfl; have hfz24_0 := blk_frozen BK164.out 0; have hfz24_1 := blk_frozen BK164.out 1; have hfz24_2 := blk_frozen BK164.out 2; have hfz24_3 := blk_frozen BK164.out 3; have hfz24_4 := blk_frozen BK164.out 4))
                (try simp only [Act.put, List.setIfInBounds_toArray, List.set_cons_zero, List.set_cons_succ])
                go_cut [52] (fun v52 wc => ∃ (kq : Nat) (x52_20 : Bool), v52 = .bool x52_20 ∧ Aside0 (impl_lexNumber.j2 kq x7_3 x52_20 3 a1 (a0.extract (a1 : Int).toNat (x6_14 : Int).toNat) 0 0 = some (r1, r2, r3, r4, r5, r6)) ∧ Aside0 (kq ≤ kj14) ∧ Aside0 (wc.heap[gb160]? = some (.cells #[.int .i64 0, .int .i64 0, .string (⟨#[]⟩ : ByteArray), .int .i64 0, .float .f64 0] 148 (0, 0))) ∧ Aside0 (wc.heap[gb164]? = some (.cells #[.int .i64 3, .int .i64 a1, .string (a0.extract (a1 : Int).toNat (x6_14 : Int).toNat), .int .i64 0, .float .f64 0] 148 (0, 0))) ∧ Aside0 (Below w.heap.size w wc))
                case first =>
                  have H := HC21.out
                  clear HC21
                  by_cases c25 : x6_14 < (a0.size : Int)
                  · rw [if_pos c25] at H
                    have c25b0 : decide (x6_14 < (a0.size : Int)) = true := decide_eq_true c25
                    clear c25
                    (first | rw [c25b0] | (simp only [i64_w, i32_w]; rw [c25b0]) | skip)
                    by_cases c26 : 0 ≤ x6_14
                    · rw [if_pos c26] at H
                      have c26b0 : decide (0 ≤ x6_14) = true := decide_eq_true c26
                      clear c26
                      replace H := Option.bind_eq_some_iff.mp H
                      obtain ⟨t165, A280, H⟩ := H
                      (try dsimp only at H)
                      have A28 := Aside0.mk A280
                      clear A280
                      have H' := Aside0.mk H
                      clear H
                      have p27 : 0 ≤ (x6_14 : Int) := of_decide_eq_true (by first | (with_reducible assumption) | assumption)
                      have q27 : x6_14 < (a0.size : Int) := of_decide_eq_true (by first | (with_reducible assumption) | assumption)
                      have hx27 := bt_at a0 x6_14
                      replace p27 := eq_true p27
                      replace q27 := eq_true q27
                      go_wp2_with (first | (go_at_call 149; (with_reducible refine (impl_isLetter.calls (bt a0 x6_14) t165 _ A28.out).mono ?_); rintro e w' ⟨rfl, ⟨nd, rfl⟩⟩))
                      go_meet
                      case rel => exact ⟨_, (t165), (by first | rfl | (simp; done) | (simp [*]; done)), H', ⟨by have := HJ3.out; have := HJ14.out; first | omega | exact Nat.le_refl _⟩, ⟨by (with_reducible repeat (first | refine blk_drewN ?_ _ | refine blk_drew ?_ | refine blk_alloc ?_ _)); refine blk_far ?_ NB160_164.out _; (with_reducible repeat (first | refine blk_drewN ?_ _ | refine blk_drew ?_ | refine blk_alloc ?_ _)); refine blk_far ?_ NB160_164.out _; (with_reducible repeat (first | refine blk_drewN ?_ _ | refine blk_drew ?_ | refine blk_alloc ?_ _)); refine blk_far ?_ NB160_164.out _; (with_reducible repeat (first | refine blk_drewN ?_ _ | refine blk_drew ?_ | refine blk_alloc ?_ _)); refine blk_far ?_ NB160_164.out _; (with_reducible repeat (first | refine blk_drewN ?_ _ | refine blk_drew ?_ | refine blk_alloc ?_ _)); refine blk_far ?_ NB160_164.out _; (with_reducible repeat (first | refine blk_drewN ?_ _ | refine blk_drew ?_ | refine blk_alloc ?_ _)); exact BK160.out⟩, ⟨by (with_reducible repeat (first | refine blk_drewN ?_ _ | refine blk_drew ?_ | refine blk_alloc ?_ _)); refine blk_put (cs := #[.int .i64 3, .int .i64 a1, .string (a0.extract (a1 : Int).toNat (x6_14 : Int).toNat), .int .i64 0, .float .f64 0]) ?_ 4 _ rfl; (with_reducible repeat (first | refine blk_drewN ?_ _ | refine blk_drew ?_ | refine blk_alloc ?_ _)); refine blk_put (cs := #[.int .i64 3, .int .i64 a1, .string (a0.extract (a1 : Int).toNat (x6_14 : Int).toNat), .int .i64 0, .float .f64 0]) ?_ 3 _ rfl; (with_reducible repeat (first | refine blk_drewN ?_ _ | refine blk_drew ?_ | refine blk_alloc ?_ _)); refine blk_put (cs := #[.int .i64 3, .int .i64 a1, .string (⟨#[]⟩ : ByteArray), .int .i64 0, .float .f64 0]) ?_ 2 _ rfl; (with_reducible repeat (first | refine blk_drewN ?_ _ | refine blk_drew ?_ | refine blk_alloc ?_ _)); refine blk_put (cs := #[.int .i64 3, .int .i64 0, .string (⟨#[]⟩ : ByteArray), .int .i64 0, .float .f64 0]) ?_ 1 _ rfl; (with_reducible repeat (first | refine blk_drewN ?_ _ | refine blk_drew ?_ | refine blk_alloc ?_ _)); refine blk_put (cs := #[.int .i64 0, .int .i64 0, .string (⟨#[]⟩ : ByteArray), .int .i64 0, .float .f64 0]) ?_ 0 _ rfl; (with_reducible repeat (first | refine blk_drewN ?_ _ | refine blk_drew ?_ | refine blk_alloc ?_ _)); exact BK164.out⟩, ⟨by repeat (first | (with_reducible first | exact HB.out | apply below_alloc | apply pw_below_drewN | apply below_drew1 | refine below_set ?_ GE160.out | refine below_set ?_ GE164.out) | exact HB.out)⟩⟩
                    · rw [if_neg c26] at H
                      exact absurd H (by simp)
                  · rw [if_neg c25] at H
                    have c25b0 : decide (x6_14 < (a0.size : Int)) = false := decide_eq_false c25
                    clear c25
                    (first | rw [c25b0] | (simp only [i64_w, i32_w]; rw [c25b0]) | skip)
                    have H' := Aside0.mk H
                    clear H
                    go_wp2
                    go_meet
                    case rel => exact ⟨_, (false), (by first | rfl | (simp; done) | (simp [*]; done)), H', ⟨by have := HJ3.out; have := HJ14.out; first | omega | exact Nat.le_refl _⟩, ⟨by (with_reducible repeat (first | refine blk_drewN ?_ _ | refine blk_drew ?_ | refine blk_alloc ?_ _)); refine blk_far ?_ NB160_164.out _; (with_reducible repeat (first | refine blk_drewN ?_ _ | refine blk_drew ?_ | refine blk_alloc ?_ _)); refine blk_far ?_ NB160_164.out _; (with_reducible repeat (first | refine blk_drewN ?_ _ | refine blk_drew ?_ | refine blk_alloc ?_ _)); refine blk_far ?_ NB160_164.out _; (with_reducible repeat (first | refine blk_drewN ?_ _ | refine blk_drew ?_ | refine blk_alloc ?_ _)); refine blk_far ?_ NB160_164.out _; (with_reducible repeat (first | refine blk_drewN ?_ _ | refine blk_drew ?_ | refine blk_alloc ?_ _)); refine blk_far ?_ NB160_164.out _; (with_reducible repeat (first | refine blk_drewN ?_ _ | refine blk_drew ?_ | refine blk_alloc ?_ _)); exact BK160.out⟩, ⟨by (with_reducible repeat (first | refine blk_drewN ?_ _ | refine blk_drew ?_ | refine blk_alloc ?_ _)); refine blk_put (cs := #[.int .i64 3, .int .i64 a1, .string (a0.extract (a1 : Int).toNat (x6_14 : Int).toNat), .int .i64 0, .float .f64 0]) ?_ 4 _ rfl; (with_reducible repeat (first | refine blk_drewN ?_ _ | refine blk_drew ?_ | refine blk_alloc ?_ _)); refine blk_put (cs := #[.int .i64 3, .int .i64 a1, .string (a0.extract (a1 : Int).toNat (x6_14 : Int).toNat), .int .i64 0, .float .f64 0]) ?_ 3 _ rfl; (with_reducible repeat (first | refine blk_drewN ?_ _ | refine blk_drew ?_ | refine blk_alloc ?_ _)); refine blk_put (cs := #[.int .i64 3, .int .i64 a1, .string (⟨#[]⟩ : ByteArray), .int .i64 0, .float .f64 0]) ?_ 2 _ rfl; (with_reducible repeat (first | refine blk_drewN ?_ _ | refine blk_drew ?_ | refine blk_alloc ?_ _)); refine blk_put (cs := #[.int .i64 3, .int .i64 0, .string (⟨#[]⟩ : ByteArray), .int .i64 0, .float .f64 0]) ?_ 1 _ rfl; (with_reducible repeat (first | refine blk_drewN ?_ _ | refine blk_drew ?_ | refine blk_alloc ?_ _)); refine blk_put (cs := #[.int .i64 0, .int .i64 0, .string (⟨#[]⟩ : ByteArray), .int .i64 0, .float .f64 0]) ?_ 0 _ rfl; (with_reducible repeat (first | refine blk_drewN ?_ _ | refine blk_drew ?_ | refine blk_alloc ?_ _)); exact BK164.out⟩, ⟨by repeat (first | (with_reducible first | exact HB.out | apply below_alloc | apply pw_below_drewN | apply below_drew1 | refine below_set ?_ GE160.out | refine below_set ?_ GE164.out) | exact HB.out)⟩⟩
                case rest =>
                  clear HC21
                  try clear c1
                  try clear p1
                  try clear q1
                  try clear hx1
                  try clear c2
                  try clear p2
                  try clear q2
                  try clear hx2
                  try clear c6
                  try clear c6b0
                  try clear p6
                  try clear c7
                  try clear c7b0
                  try clear c8
                  try clear c8b0
                  try clear p9
                  try clear q9
                  try clear hx9
                  try clear c10
                  try clear c10b0
                  try clear c10b1
                  try clear c12
                  try clear c12b0
                  try clear p13
                  try clear q13
                  try clear hx13
                  try clear c15
                  try clear c16
                  try clear c18
                  try clear c18b0
                  try clear c18b1
                  try clear c19
                  try clear c19b0
                  try clear c19b1
                  try clear c20
                  try clear c20b0
                  try clear c20b1
                  try clear c23
                  try clear c25
                  try clear c25b0
                  try clear c26
                  try clear c26b0
                  try clear p27
                  try clear q27
                  try clear hx27
                  try clear hcz24_0
                  try clear hcz24_1
                  try clear hcz24_2
                  try clear hcz24_3
                  try clear hcz24_4
                  try clear hfz24_0
                  try clear hfz24_1
                  try clear hfz24_2
                  try clear hfz24_3
                  try clear hfz24_4
                  try clear p1
                  try clear p13
                  try clear p2
                  try clear p27
                  try clear p6
                  try clear p9
                  try clear q1
                  try clear q13
                  try clear q27
                  try clear q9
                  obtain ⟨kq, x52_20, rfl, HA, HJ20, BK160, BK164, HB⟩ := hcut
                  cases kq with
                  | zero => exact absurd HA.out (by simp [impl_lexNumber.j2])
                  | succ kj20 =>
                    have H := HA.out
                    clear HA
                    simp only [impl_lexNumber.j2] at H
                    by_cases c29 : x52_20 = true
                    · subst c29
                      have H1 : (some (0, 0, (⟨#[]⟩ : ByteArray), 0, 0, 3)) = some (r1, r2, r3, r4, r5, r6) := by rw [if_pos rfl] at H; exact H
                      clear H
                      have H := H1
                      clear H1
                      simp only [Option.some.injEq, Prod.mk.injEq] at H
                      obtain ⟨rfl, rfl, rfl, rfl, rfl, rfl⟩ := H
                      have hnb30 := NB160_164.out
                      have hnc30 := NB164_160.out
                      have hcz31_0 : wc.cell? ⟨gb160, 0, none⟩ = some (.int .i64 0) := (blk_cell BK160.out 0).trans rfl
                      have hcz31_1 : wc.cell? ⟨gb160, 1, none⟩ = some (.int .i64 0) := (blk_cell BK160.out 1).trans rfl
                      have hcz31_2 : wc.cell? ⟨gb160, 2, none⟩ = some (.string (⟨#[]⟩ : ByteArray)) := (blk_cell BK160.out 2).trans rfl
                      have hcz31_3 : wc.cell? ⟨gb160, 3, none⟩ = some (.int .i64 0) := (blk_cell BK160.out 3).trans rfl
                      have hcz31_4 : wc.cell? ⟨gb160, 4, none⟩ = some (.float .f64 0) := (blk_cell BK160.out 4).trans rfl
                      have hfz31_0 := blk_frozen BK160.out 0
                      have hfz31_1 := blk_frozen BK160.out 1
                      have hfz31_2 := blk_frozen BK160.out 2
                      have hfz31_3 := blk_frozen BK160.out 3
                      have hfz31_4 := blk_frozen BK160.out 4
                      go_wp2
                      refine bodyPost_ret (results_ct rfl _ _ gb160 148 #[.int .i64 0, .int .i64 0, .string (⟨#[]⟩ : ByteArray), .int .i64 0, .float .f64 0] (0, 0) _ rfl (by (with_reducible repeat (first | refine blk_drewN ?_ _ | refine blk_drew ?_ | refine blk_alloc ?_ _)); refine blk_put (cs := #[.int .i64 0, .int .i64 0, .string (⟨#[]⟩ : ByteArray), .int .i64 0, .float .f64 0]) ?_ 4 _ rfl; (with_reducible repeat (first | refine blk_drewN ?_ _ | refine blk_drew ?_ | refine blk_alloc ?_ _)); refine blk_put (cs := #[.int .i64 0, .int .i64 0, .string (⟨#[]⟩ : ByteArray), .int .i64 0, .float .f64 0]) ?_ 3 _ rfl; (with_reducible repeat (first | refine blk_drewN ?_ _ | refine blk_drew ?_ | refine blk_alloc ?_ _)); refine blk_put (cs := #[.int .i64 0, .int .i64 0, .string (⟨#[]⟩ : ByteArray), .int .i64 0, .float .f64 0]) ?_ 2 _ rfl; (with_reducible repeat (first | refine blk_drewN ?_ _ | refine blk_drew ?_ | refine blk_alloc ?_ _)); refine blk_put (cs := #[.int .i64 0, .int .i64 0, .string (⟨#[]⟩ : ByteArray), .int .i64 0, .float .f64 0]) ?_ 1 _ rfl; (with_reducible repeat (first | refine blk_drewN ?_ _ | refine blk_drew ?_ | refine blk_alloc ?_ _)); refine blk_put (cs := #[.int .i64 0, .int .i64 0, .string (⟨#[]⟩ : ByteArray), .int .i64 0, .float .f64 0]) ?_ 0 _ rfl; (with_reducible repeat (first | refine blk_drewN ?_ _ | refine blk_drew ?_ | refine blk_alloc ?_ _)); exact BK160.out) Try.underlying148 rfl (by kernel_rfl)) rfl ?_
                      exact ⟨by first | rfl | (simp [errW_none, errW_some] <;> rfl) | (simp [*, errW_none, errW_some] <;> rfl), by repeat (first | (with_reducible first | exact HB.out | apply below_alloc | apply pw_below_drewN | apply below_drew1 | refine below_set ?_ GE160.out | refine below_set ?_ GE164.out) | exact HB.out)⟩
                    · replace c29 := Bool.eq_false_iff.mpr c29
                      subst c29
                      have H1 : (if x7_3 = true then ((impl_RealOf.f kj20 (a0.extract (a1 : Int).toNat (x6_14 : Int).toNat)).bind fun bt166 => (if bt166.2 = true then (some (4, a1, (a0.extract (a1 : Int).toNat (x6_14 : Int).toNat), 0, bt166.1, 0)) else (some (0, 0, (⟨#[]⟩ : ByteArray), 0, 0, 3)))) else ((impl_plain.f kj20 (a0.extract (a1 : Int).toNat (x6_14 : Int).toNat) 15).bind fun t168 => (if t168 = true then ((impl_number.f kj20 (a0.extract (a1 : Int).toNat (x6_14 : Int).toNat)).bind fun t169 => (some (3, a1, (a0.extract (a1 : Int).toNat (x6_14 : Int).toNat), t169, 0, 0))) else (some (0, 0, (⟨#[]⟩ : ByteArray), 0, 0, 3))))) = some (r1, r2, r3, r4, r5, r6) := by rw [if_neg (show ¬ (false = true) by decide)] at H; exact H
                      clear H
                      have H := H1
                      clear H1
                      by_cases c32 : x7_3 = true
                      · subst c32
                        have H1 : ((impl_RealOf.f kj20 (a0.extract (a1 : Int).toNat (x6_14 : Int).toNat)).bind fun bt166 => (if bt166.2 = true then (some (4, a1, (a0.extract (a1 : Int).toNat (x6_14 : Int).toNat), 0, bt166.1, 0)) else (some (0, 0, (⟨#[]⟩ : ByteArray), 0, 0, 3)))) = some (r1, r2, r3, r4, r5, r6) := by rw [if_pos rfl] at H; exact H
                        clear H
                        have H := H1
                        clear H1
                        replace H := Option.bind_eq_some_iff.mp H
                        obtain ⟨⟨t166, t167⟩, A330, H⟩ := H
                        (try dsimp only at H)
                        have A33 := Aside0.mk A330
                        clear A330
                        by_cases c34 : t167 = true
                        · subst c34
                          have H1 : (some (4, a1, (a0.extract (a1 : Int).toNat (x6_14 : Int).toNat), 0, t166, 0)) = some (r1, r2, r3, r4, r5, r6) := by rw [if_pos rfl] at H; exact H
                          clear H
                          have H := H1
                          clear H1
                          simp only [Option.some.injEq, Prod.mk.injEq] at H
                          obtain ⟨rfl, rfl, rfl, rfl, rfl, rfl⟩ := H
                          have hnb35 := NB164_160.out
                          have hnc35 := NB160_164.out
                          have hcz36_0 : wc.cell? ⟨gb164, 0, none⟩ = some (.int .i64 3) := (blk_cell BK164.out 0).trans rfl
                          have hcz36_1 : wc.cell? ⟨gb164, 1, none⟩ = some (.int .i64 a1) := (blk_cell BK164.out 1).trans rfl
                          have hcz36_2 : wc.cell? ⟨gb164, 2, none⟩ = some (.string (a0.extract (a1 : Int).toNat (x6_14 : Int).toNat)) := (blk_cell BK164.out 2).trans rfl
                          have hcz36_3 : wc.cell? ⟨gb164, 3, none⟩ = some (.int .i64 0) := (blk_cell BK164.out 3).trans rfl
                          have hcz36_4 : wc.cell? ⟨gb164, 4, none⟩ = some (.float .f64 0) := (blk_cell BK164.out 4).trans rfl
                          have hfz36_0 := blk_frozen BK164.out 0
                          have hfz36_1 := blk_frozen BK164.out 1
                          have hfz36_2 := blk_frozen BK164.out 2
                          have hfz36_3 := blk_frozen BK164.out 3
                          have hfz36_4 := blk_frozen BK164.out 4
                          go_wp2_with (first | ((with_reducible refine gate_callee (f := 175) rfl ?_); refine goesL_ (some 58) rfl rfl Try.func175 (by kernel_rfl) rfl #[.string (a0.extract (a1 : Int).toNat (x6_14 : Int).toNat)] rfl (by (try simp only [List.map_toArray, List.map_cons, List.map_nil]); first | done | rfl | (simp only [List.length_drop, List.length_take]; rfl)) ?_; (with_reducible refine (impl_RealOf.calls kj20 (a0.extract (a1 : Int).toNat (x6_14 : Int).toNat) t166 true _ A33.out).mono ?_); rintro e w' ⟨rfl, ⟨nd, rfl⟩⟩; refine ⟨_, rfl, ?_⟩; (try (rw [drewN_self wc]; generalize hq_ : World.drewN wc _ = wc; have n0_ : Aside0 (wc.heap[gb160]? = some (.cells #[.int .i64 0, .int .i64 0, .string (⟨#[]⟩ : ByteArray), .int .i64 0, .float .f64 0] 148 (0, 0))) := ⟨by rw [← hq_]; exact (by (with_reducible repeat (first | refine blk_drewN ?_ _ | refine blk_drew ?_ | refine blk_alloc ?_ _)); exact BK160.out)⟩; have n1_ : Aside0 (wc.heap[gb164]? = some (.cells #[.int .i64 3, .int .i64 a1, .string (a0.extract (a1 : Int).toNat (x6_14 : Int).toNat), .int .i64 0, .float .f64 0] 148 (0, 0))) := ⟨by rw [← hq_]; exact (by (with_reducible repeat (first | refine blk_drewN ?_ _ | refine blk_drew ?_ | refine blk_alloc ?_ _)); exact BK164.out)⟩; have n2_ : Aside0 (Below w.heap.size w wc) := ⟨by rw [← hq_]; exact (by repeat (first | (with_reducible first | exact HB.out | apply below_alloc | apply pw_below_drewN | apply below_drew1 | refine below_set ?_ GE160.out | refine below_set ?_ GE164.out) | exact HB.out))⟩; clear BK160 BK164 HB hq_; have BK160 := n0_; have BK164 := n1_; have HB := n2_; clear n0_ n1_ n2_)); have hcz37_0 : wc.cell? ⟨gb164, 0, none⟩ = some (.int .i64 3) := (blk_cell BK164.out 0).trans rfl; have hcz37_1 : wc.cell? ⟨gb164, 1, none⟩ = some (.int .i64 a1) := (blk_cell BK164.out 1).trans rfl; have hcz37_2 : wc.cell? ⟨gb164, 2, none⟩ = some (.string (a0.extract (a1 : Int).toNat (x6_14 : Int).toNat)) := (blk_cell BK164.out 2).trans rfl; have hcz37_3 : wc.cell? ⟨gb164, 3, none⟩ = some (.int .i64 0) := (blk_cell BK164.out 3).trans rfl; have hcz37_4 : wc.cell? ⟨gb164, 4, none⟩ = some (.float .f64 0) := (blk_cell BK164.out 4).trans rfl; have hfz37_0 := blk_frozen BK164.out 0; have hfz37_1 := blk_frozen BK164.out 1; have hfz37_2 := blk_frozen BK164.out 2; have hfz37_3 := blk_frozen BK164.out 3; have hfz37_4 := blk_frozen BK164.out 4; have hcz38_0 : wc.cell? ⟨gb160, 0, none⟩ = some (.int .i64 0) := (blk_cell BK160.out 0).trans rfl; have hcz38_1 : wc.cell? ⟨gb160, 1, none⟩ = some (.int .i64 0) := (blk_cell BK160.out 1).trans rfl; have hcz38_2 : wc.cell? ⟨gb160, 2, none⟩ = some (.string (⟨#[]⟩ : ByteArray)) := (blk_cell BK160.out 2).trans rfl; have hcz38_3 : wc.cell? ⟨gb160, 3, none⟩ = some (.int .i64 0) := (blk_cell BK160.out 3).trans rfl; have hcz38_4 : wc.cell? ⟨gb160, 4, none⟩ = some (.float .f64 0) := (blk_cell BK160.out 4).trans rfl; have hfz38_0 := blk_frozen BK160.out 0; have hfz38_1 := blk_frozen BK160.out 1; have hfz38_2 := blk_frozen BK160.out 2; have hfz38_3 := blk_frozen BK160.out 3; have hfz38_4 := blk_frozen BK160.out 4))
                          refine bodyPost_ret (results_ct rfl _ _ gb160 148 #[.int .i64 4, .int .i64 a1, .string (a0.extract (a1 : Int).toNat (x6_14 : Int).toNat), .int .i64 0, .float .f64 t166] (0, 0) _ rfl (by (with_reducible repeat (first | refine blk_drewN ?_ _ | refine blk_drew ?_ | refine blk_alloc ?_ _)); refine blk_put (cs := #[.int .i64 4, .int .i64 a1, .string (a0.extract (a1 : Int).toNat (x6_14 : Int).toNat), .int .i64 0, .float .f64 0]) ?_ 4 _ rfl; (with_reducible repeat (first | refine blk_drewN ?_ _ | refine blk_drew ?_ | refine blk_alloc ?_ _)); refine blk_put (cs := #[.int .i64 4, .int .i64 a1, .string (a0.extract (a1 : Int).toNat (x6_14 : Int).toNat), .int .i64 0, .float .f64 0]) ?_ 3 _ rfl; (with_reducible repeat (first | refine blk_drewN ?_ _ | refine blk_drew ?_ | refine blk_alloc ?_ _)); refine blk_put (cs := #[.int .i64 4, .int .i64 a1, .string (⟨#[]⟩ : ByteArray), .int .i64 0, .float .f64 0]) ?_ 2 _ rfl; (with_reducible repeat (first | refine blk_drewN ?_ _ | refine blk_drew ?_ | refine blk_alloc ?_ _)); refine blk_put (cs := #[.int .i64 4, .int .i64 0, .string (⟨#[]⟩ : ByteArray), .int .i64 0, .float .f64 0]) ?_ 1 _ rfl; (with_reducible repeat (first | refine blk_drewN ?_ _ | refine blk_drew ?_ | refine blk_alloc ?_ _)); refine blk_put (cs := #[.int .i64 0, .int .i64 0, .string (⟨#[]⟩ : ByteArray), .int .i64 0, .float .f64 0]) ?_ 0 _ rfl; (with_reducible repeat (first | refine blk_drewN ?_ _ | refine blk_drew ?_ | refine blk_alloc ?_ _)); refine blk_far ?_ NB160_164.out _; (with_reducible repeat (first | refine blk_drewN ?_ _ | refine blk_drew ?_ | refine blk_alloc ?_ _)); refine blk_far ?_ NB160_164.out _; (with_reducible repeat (first | refine blk_drewN ?_ _ | refine blk_drew ?_ | refine blk_alloc ?_ _)); exact BK160.out) Try.underlying148 rfl (by kernel_rfl)) rfl ?_
                          exact ⟨by first | rfl | (simp [errW_none, errW_some] <;> rfl) | (simp [*, errW_none, errW_some] <;> rfl), by repeat (first | (with_reducible first | exact HB.out | apply below_alloc | apply pw_below_drewN | apply below_drew1 | refine below_set ?_ GE160.out | refine below_set ?_ GE164.out) | exact HB.out)⟩
                        · replace c34 := Bool.eq_false_iff.mpr c34
                          subst c34
                          have H1 : (some (0, 0, (⟨#[]⟩ : ByteArray), 0, 0, 3)) = some (r1, r2, r3, r4, r5, r6) := by rw [if_neg (show ¬ (false = true) by decide)] at H; exact H
                          clear H
                          have H := H1
                          clear H1
                          simp only [Option.some.injEq, Prod.mk.injEq] at H
                          obtain ⟨rfl, rfl, rfl, rfl, rfl, rfl⟩ := H
                          have hnb39 := NB164_160.out
                          have hnc39 := NB160_164.out
                          have hcz40_0 : wc.cell? ⟨gb164, 0, none⟩ = some (.int .i64 3) := (blk_cell BK164.out 0).trans rfl
                          have hcz40_1 : wc.cell? ⟨gb164, 1, none⟩ = some (.int .i64 a1) := (blk_cell BK164.out 1).trans rfl
                          have hcz40_2 : wc.cell? ⟨gb164, 2, none⟩ = some (.string (a0.extract (a1 : Int).toNat (x6_14 : Int).toNat)) := (blk_cell BK164.out 2).trans rfl
                          have hcz40_3 : wc.cell? ⟨gb164, 3, none⟩ = some (.int .i64 0) := (blk_cell BK164.out 3).trans rfl
                          have hcz40_4 : wc.cell? ⟨gb164, 4, none⟩ = some (.float .f64 0) := (blk_cell BK164.out 4).trans rfl
                          have hfz40_0 := blk_frozen BK164.out 0
                          have hfz40_1 := blk_frozen BK164.out 1
                          have hfz40_2 := blk_frozen BK164.out 2
                          have hfz40_3 := blk_frozen BK164.out 3
                          have hfz40_4 := blk_frozen BK164.out 4
                          go_wp2_with (first | ((with_reducible refine gate_callee (f := 175) rfl ?_); refine goesL_ (some 58) rfl rfl Try.func175 (by kernel_rfl) rfl #[.string (a0.extract (a1 : Int).toNat (x6_14 : Int).toNat)] rfl (by (try simp only [List.map_toArray, List.map_cons, List.map_nil]); first | done | rfl | (simp only [List.length_drop, List.length_take]; rfl)) ?_; (with_reducible refine (impl_RealOf.calls kj20 (a0.extract (a1 : Int).toNat (x6_14 : Int).toNat) t166 false _ A33.out).mono ?_); rintro e w' ⟨rfl, ⟨nd, rfl⟩⟩; refine ⟨_, rfl, ?_⟩; (try (rw [drewN_self wc]; generalize hq_ : World.drewN wc _ = wc; have n0_ : Aside0 (wc.heap[gb160]? = some (.cells #[.int .i64 0, .int .i64 0, .string (⟨#[]⟩ : ByteArray), .int .i64 0, .float .f64 0] 148 (0, 0))) := ⟨by rw [← hq_]; exact (by (with_reducible repeat (first | refine blk_drewN ?_ _ | refine blk_drew ?_ | refine blk_alloc ?_ _)); exact BK160.out)⟩; have n1_ : Aside0 (wc.heap[gb164]? = some (.cells #[.int .i64 3, .int .i64 a1, .string (a0.extract (a1 : Int).toNat (x6_14 : Int).toNat), .int .i64 0, .float .f64 0] 148 (0, 0))) := ⟨by rw [← hq_]; exact (by (with_reducible repeat (first | refine blk_drewN ?_ _ | refine blk_drew ?_ | refine blk_alloc ?_ _)); exact BK164.out)⟩; have n2_ : Aside0 (Below w.heap.size w wc) := ⟨by rw [← hq_]; exact (by repeat (first | (with_reducible first | exact HB.out | apply below_alloc | apply pw_below_drewN | apply below_drew1 | refine below_set ?_ GE160.out | refine below_set ?_ GE164.out) | exact HB.out))⟩; clear BK160 BK164 HB hq_; have BK160 := n0_; have BK164 := n1_; have HB := n2_; clear n0_ n1_ n2_)); have hcz41_0 : wc.cell? ⟨gb160, 0, none⟩ = some (.int .i64 0) := (blk_cell BK160.out 0).trans rfl; have hcz41_1 : wc.cell? ⟨gb160, 1, none⟩ = some (.int .i64 0) := (blk_cell BK160.out 1).trans rfl; have hcz41_2 : wc.cell? ⟨gb160, 2, none⟩ = some (.string (⟨#[]⟩ : ByteArray)) := (blk_cell BK160.out 2).trans rfl; have hcz41_3 : wc.cell? ⟨gb160, 3, none⟩ = some (.int .i64 0) := (blk_cell BK160.out 3).trans rfl; have hcz41_4 : wc.cell? ⟨gb160, 4, none⟩ = some (.float .f64 0) := (blk_cell BK160.out 4).trans rfl; have hfz41_0 := blk_frozen BK160.out 0; have hfz41_1 := blk_frozen BK160.out 1; have hfz41_2 := blk_frozen BK160.out 2; have hfz41_3 := blk_frozen BK160.out 3; have hfz41_4 := blk_frozen BK160.out 4))
                          refine bodyPost_ret (results_ct rfl _ _ gb160 148 #[.int .i64 0, .int .i64 0, .string (⟨#[]⟩ : ByteArray), .int .i64 0, .float .f64 0] (0, 0) _ rfl (by (with_reducible repeat (first | refine blk_drewN ?_ _ | refine blk_drew ?_ | refine blk_alloc ?_ _)); refine blk_put (cs := #[.int .i64 0, .int .i64 0, .string (⟨#[]⟩ : ByteArray), .int .i64 0, .float .f64 0]) ?_ 4 _ rfl; (with_reducible repeat (first | refine blk_drewN ?_ _ | refine blk_drew ?_ | refine blk_alloc ?_ _)); refine blk_put (cs := #[.int .i64 0, .int .i64 0, .string (⟨#[]⟩ : ByteArray), .int .i64 0, .float .f64 0]) ?_ 3 _ rfl; (with_reducible repeat (first | refine blk_drewN ?_ _ | refine blk_drew ?_ | refine blk_alloc ?_ _)); refine blk_put (cs := #[.int .i64 0, .int .i64 0, .string (⟨#[]⟩ : ByteArray), .int .i64 0, .float .f64 0]) ?_ 2 _ rfl; (with_reducible repeat (first | refine blk_drewN ?_ _ | refine blk_drew ?_ | refine blk_alloc ?_ _)); refine blk_put (cs := #[.int .i64 0, .int .i64 0, .string (⟨#[]⟩ : ByteArray), .int .i64 0, .float .f64 0]) ?_ 1 _ rfl; (with_reducible repeat (first | refine blk_drewN ?_ _ | refine blk_drew ?_ | refine blk_alloc ?_ _)); refine blk_put (cs := #[.int .i64 0, .int .i64 0, .string (⟨#[]⟩ : ByteArray), .int .i64 0, .float .f64 0]) ?_ 0 _ rfl; (with_reducible repeat (first | refine blk_drewN ?_ _ | refine blk_drew ?_ | refine blk_alloc ?_ _)); exact BK160.out) Try.underlying148 rfl (by kernel_rfl)) rfl ?_
                          exact ⟨by first | rfl | (simp [errW_none, errW_some] <;> rfl) | (simp [*, errW_none, errW_some] <;> rfl), by repeat (first | (with_reducible first | exact HB.out | apply below_alloc | apply pw_below_drewN | apply below_drew1 | refine below_set ?_ GE160.out | refine below_set ?_ GE164.out) | exact HB.out)⟩
                      · replace c32 := Bool.eq_false_iff.mpr c32
                        subst c32
                        have H1 : ((impl_plain.f kj20 (a0.extract (a1 : Int).toNat (x6_14 : Int).toNat) 15).bind fun t168 => (if t168 = true then ((impl_number.f kj20 (a0.extract (a1 : Int).toNat (x6_14 : Int).toNat)).bind fun t169 => (some (3, a1, (a0.extract (a1 : Int).toNat (x6_14 : Int).toNat), t169, 0, 0))) else (some (0, 0, (⟨#[]⟩ : ByteArray), 0, 0, 3)))) = some (r1, r2, r3, r4, r5, r6) := by rw [if_neg (show ¬ (false = true) by decide)] at H; exact H
                        clear H
                        have H := H1
                        clear H1
                        replace H := Option.bind_eq_some_iff.mp H
                        obtain ⟨t168, A420, H⟩ := H
                        (try dsimp only at H)
                        have A42 := Aside0.mk A420
                        clear A420
                        by_cases c43 : t168 = true
                        · subst c43
                          have H1 : ((impl_number.f kj20 (a0.extract (a1 : Int).toNat (x6_14 : Int).toNat)).bind fun t169 => (some (3, a1, (a0.extract (a1 : Int).toNat (x6_14 : Int).toNat), t169, 0, 0))) = some (r1, r2, r3, r4, r5, r6) := by rw [if_pos rfl] at H; exact H
                          clear H
                          have H := H1
                          clear H1
                          replace H := Option.bind_eq_some_iff.mp H
                          obtain ⟨t169, A440, H⟩ := H
                          (try dsimp only at H)
                          have A44 := Aside0.mk A440
                          clear A440
                          simp only [Option.some.injEq, Prod.mk.injEq] at H
                          obtain ⟨rfl, rfl, rfl, rfl, rfl, rfl⟩ := H
                          have hnb45 := NB164_160.out
                          have hnc45 := NB160_164.out
                          have hcz46_0 : wc.cell? ⟨gb164, 0, none⟩ = some (.int .i64 3) := (blk_cell BK164.out 0).trans rfl
                          have hcz46_1 : wc.cell? ⟨gb164, 1, none⟩ = some (.int .i64 a1) := (blk_cell BK164.out 1).trans rfl
                          have hcz46_2 : wc.cell? ⟨gb164, 2, none⟩ = some (.string (a0.extract (a1 : Int).toNat (x6_14 : Int).toNat)) := (blk_cell BK164.out 2).trans rfl
                          have hcz46_3 : wc.cell? ⟨gb164, 3, none⟩ = some (.int .i64 0) := (blk_cell BK164.out 3).trans rfl
                          have hcz46_4 : wc.cell? ⟨gb164, 4, none⟩ = some (.float .f64 0) := (blk_cell BK164.out 4).trans rfl
                          have hfz46_0 := blk_frozen BK164.out 0
                          have hfz46_1 := blk_frozen BK164.out 1
                          have hfz46_2 := blk_frozen BK164.out 2
                          have hfz46_3 := blk_frozen BK164.out 3
                          have hfz46_4 := blk_frozen BK164.out 4
                          go_wp2_with (first | ((with_reducible refine gate_callee (f := 176) rfl ?_); refine goesL_ (some 70) rfl rfl Try.func176 (by kernel_rfl) rfl #[.string (a0.extract (a1 : Int).toNat (x6_14 : Int).toNat), .int .i64 15] rfl (by (try simp only [List.map_toArray, List.map_cons, List.map_nil]); first | done | rfl | (simp only [List.length_drop, List.length_take]; rfl)) ?_; (with_reducible refine (impl_plain.calls kj20 (a0.extract (a1 : Int).toNat (x6_14 : Int).toNat) 15 true _ A42.out).mono ?_); rintro e w' ⟨rfl, ⟨nd, rfl⟩⟩; refine ⟨_, rfl, ?_⟩; (try (rw [drewN_self wc]; generalize hq_ : World.drewN wc _ = wc; have n0_ : Aside0 (wc.heap[gb160]? = some (.cells #[.int .i64 0, .int .i64 0, .string (⟨#[]⟩ : ByteArray), .int .i64 0, .float .f64 0] 148 (0, 0))) := ⟨by rw [← hq_]; exact (by (with_reducible repeat (first | refine blk_drewN ?_ _ | refine blk_drew ?_ | refine blk_alloc ?_ _)); exact BK160.out)⟩; have n1_ : Aside0 (wc.heap[gb164]? = some (.cells #[.int .i64 3, .int .i64 a1, .string (a0.extract (a1 : Int).toNat (x6_14 : Int).toNat), .int .i64 0, .float .f64 0] 148 (0, 0))) := ⟨by rw [← hq_]; exact (by (with_reducible repeat (first | refine blk_drewN ?_ _ | refine blk_drew ?_ | refine blk_alloc ?_ _)); exact BK164.out)⟩; have n2_ : Aside0 (Below w.heap.size w wc) := ⟨by rw [← hq_]; exact (by repeat (first | (with_reducible first | exact HB.out | apply below_alloc | apply pw_below_drewN | apply below_drew1 | refine below_set ?_ GE160.out | refine below_set ?_ GE164.out) | exact HB.out))⟩; clear BK160 BK164 HB hq_; have BK160 := n0_; have BK164 := n1_; have HB := n2_; clear n0_ n1_ n2_)); have hcz47_0 : wc.cell? ⟨gb164, 0, none⟩ = some (.int .i64 3) := (blk_cell BK164.out 0).trans rfl; have hcz47_1 : wc.cell? ⟨gb164, 1, none⟩ = some (.int .i64 a1) := (blk_cell BK164.out 1).trans rfl; have hcz47_2 : wc.cell? ⟨gb164, 2, none⟩ = some (.string (a0.extract (a1 : Int).toNat (x6_14 : Int).toNat)) := (blk_cell BK164.out 2).trans rfl; have hcz47_3 : wc.cell? ⟨gb164, 3, none⟩ = some (.int .i64 0) := (blk_cell BK164.out 3).trans rfl; have hcz47_4 : wc.cell? ⟨gb164, 4, none⟩ = some (.float .f64 0) := (blk_cell BK164.out 4).trans rfl; have hfz47_0 := blk_frozen BK164.out 0; have hfz47_1 := blk_frozen BK164.out 1; have hfz47_2 := blk_frozen BK164.out 2; have hfz47_3 := blk_frozen BK164.out 3; have hfz47_4 := blk_frozen BK164.out 4) | ((with_reducible refine gate_callee (f := 177) rfl ?_); refine goesL_ (some 75) rfl rfl Try.func177 (by kernel_rfl) rfl #[.string (a0.extract (a1 : Int).toNat (x6_14 : Int).toNat)] rfl (by (try simp only [List.map_toArray, List.map_cons, List.map_nil]); first | done | rfl | (simp only [List.length_drop, List.length_take]; rfl)) ?_; (with_reducible refine (impl_number.calls kj20 (a0.extract (a1 : Int).toNat (x6_14 : Int).toNat) t169 _ A44.out).mono ?_); rintro e w' ⟨rfl, ⟨nd, rfl⟩⟩; refine ⟨_, rfl, ?_⟩; (try (rw [drewN_self wc]; generalize hq_ : World.drewN wc _ = wc; have n0_ : Aside0 (wc.heap[gb160]? = some (.cells #[.int .i64 0, .int .i64 0, .string (⟨#[]⟩ : ByteArray), .int .i64 0, .float .f64 0] 148 (0, 0))) := ⟨by rw [← hq_]; exact (by (with_reducible repeat (first | refine blk_drewN ?_ _ | refine blk_drew ?_ | refine blk_alloc ?_ _)); exact BK160.out)⟩; have n1_ : Aside0 (wc.heap[gb164]? = some (.cells #[.int .i64 3, .int .i64 a1, .string (a0.extract (a1 : Int).toNat (x6_14 : Int).toNat), .int .i64 0, .float .f64 0] 148 (0, 0))) := ⟨by rw [← hq_]; exact (by (with_reducible repeat (first | refine blk_drewN ?_ _ | refine blk_drew ?_ | refine blk_alloc ?_ _)); exact BK164.out)⟩; have n2_ : Aside0 (Below w.heap.size w wc) := ⟨by rw [← hq_]; exact (by repeat (first | (with_reducible first | exact HB.out | apply below_alloc | apply pw_below_drewN | apply below_drew1 | refine below_set ?_ GE160.out | refine below_set ?_ GE164.out) | exact HB.out))⟩; clear BK160 BK164 HB hq_; have BK160 := n0_; have BK164 := n1_; have HB := n2_; clear n0_ n1_ n2_)); have hcz48_0 : wc.cell? ⟨gb164, 0, none⟩ = some (.int .i64 3) := (blk_cell BK164.out 0).trans rfl; have hcz48_1 : wc.cell? ⟨gb164, 1, none⟩ = some (.int .i64 a1) := (blk_cell BK164.out 1).trans rfl; have hcz48_2 : wc.cell? ⟨gb164, 2, none⟩ = some (.string (a0.extract (a1 : Int).toNat (x6_14 : Int).toNat)) := (blk_cell BK164.out 2).trans rfl; have hcz48_3 : wc.cell? ⟨gb164, 3, none⟩ = some (.int .i64 0) := (blk_cell BK164.out 3).trans rfl; have hcz48_4 : wc.cell? ⟨gb164, 4, none⟩ = some (.float .f64 0) := (blk_cell BK164.out 4).trans rfl; have hfz48_0 := blk_frozen BK164.out 0; have hfz48_1 := blk_frozen BK164.out 1; have hfz48_2 := blk_frozen BK164.out 2; have hfz48_3 := blk_frozen BK164.out 3; have hfz48_4 := blk_frozen BK164.out 4; have hcz49_0 : wc.cell? ⟨gb160, 0, none⟩ = some (.int .i64 0) := (blk_cell BK160.out 0).trans rfl; have hcz49_1 : wc.cell? ⟨gb160, 1, none⟩ = some (.int .i64 0) := (blk_cell BK160.out 1).trans rfl; have hcz49_2 : wc.cell? ⟨gb160, 2, none⟩ = some (.string (⟨#[]⟩ : ByteArray)) := (blk_cell BK160.out 2).trans rfl; have hcz49_3 : wc.cell? ⟨gb160, 3, none⟩ = some (.int .i64 0) := (blk_cell BK160.out 3).trans rfl; have hcz49_4 : wc.cell? ⟨gb160, 4, none⟩ = some (.float .f64 0) := (blk_cell BK160.out 4).trans rfl; have hfz49_0 := blk_frozen BK160.out 0; have hfz49_1 := blk_frozen BK160.out 1; have hfz49_2 := blk_frozen BK160.out 2; have hfz49_3 := blk_frozen BK160.out 3; have hfz49_4 := blk_frozen BK160.out 4))
                          refine bodyPost_ret (results_ct rfl _ _ gb160 148 #[.int .i64 3, .int .i64 a1, .string (a0.extract (a1 : Int).toNat (x6_14 : Int).toNat), .int .i64 t169, .float .f64 0] (0, 0) _ rfl (by (with_reducible repeat (first | refine blk_drewN ?_ _ | refine blk_drew ?_ | refine blk_alloc ?_ _)); refine blk_put (cs := #[.int .i64 3, .int .i64 a1, .string (a0.extract (a1 : Int).toNat (x6_14 : Int).toNat), .int .i64 t169, .float .f64 0]) ?_ 4 _ rfl; (with_reducible repeat (first | refine blk_drewN ?_ _ | refine blk_drew ?_ | refine blk_alloc ?_ _)); refine blk_put (cs := #[.int .i64 3, .int .i64 a1, .string (a0.extract (a1 : Int).toNat (x6_14 : Int).toNat), .int .i64 0, .float .f64 0]) ?_ 3 _ rfl; (with_reducible repeat (first | refine blk_drewN ?_ _ | refine blk_drew ?_ | refine blk_alloc ?_ _)); refine blk_put (cs := #[.int .i64 3, .int .i64 a1, .string (⟨#[]⟩ : ByteArray), .int .i64 0, .float .f64 0]) ?_ 2 _ rfl; (with_reducible repeat (first | refine blk_drewN ?_ _ | refine blk_drew ?_ | refine blk_alloc ?_ _)); refine blk_put (cs := #[.int .i64 3, .int .i64 0, .string (⟨#[]⟩ : ByteArray), .int .i64 0, .float .f64 0]) ?_ 1 _ rfl; (with_reducible repeat (first | refine blk_drewN ?_ _ | refine blk_drew ?_ | refine blk_alloc ?_ _)); refine blk_put (cs := #[.int .i64 0, .int .i64 0, .string (⟨#[]⟩ : ByteArray), .int .i64 0, .float .f64 0]) ?_ 0 _ rfl; (with_reducible repeat (first | refine blk_drewN ?_ _ | refine blk_drew ?_ | refine blk_alloc ?_ _)); refine blk_far ?_ NB160_164.out _; (with_reducible repeat (first | refine blk_drewN ?_ _ | refine blk_drew ?_ | refine blk_alloc ?_ _)); exact BK160.out) Try.underlying148 rfl (by kernel_rfl)) rfl ?_
                          exact ⟨by first | rfl | (simp [errW_none, errW_some] <;> rfl) | (simp [*, errW_none, errW_some] <;> rfl), by repeat (first | (with_reducible first | exact HB.out | apply below_alloc | apply pw_below_drewN | apply below_drew1 | refine below_set ?_ GE160.out | refine below_set ?_ GE164.out) | exact HB.out)⟩
                        · replace c43 := Bool.eq_false_iff.mpr c43
                          subst c43
                          have H1 : (some (0, 0, (⟨#[]⟩ : ByteArray), 0, 0, 3)) = some (r1, r2, r3, r4, r5, r6) := by rw [if_neg (show ¬ (false = true) by decide)] at H; exact H
                          clear H
                          have H := H1
                          clear H1
                          simp only [Option.some.injEq, Prod.mk.injEq] at H
                          obtain ⟨rfl, rfl, rfl, rfl, rfl, rfl⟩ := H
                          have hnb50 := NB164_160.out
                          have hnc50 := NB160_164.out
                          have hcz51_0 : wc.cell? ⟨gb164, 0, none⟩ = some (.int .i64 3) := (blk_cell BK164.out 0).trans rfl
                          have hcz51_1 : wc.cell? ⟨gb164, 1, none⟩ = some (.int .i64 a1) := (blk_cell BK164.out 1).trans rfl
                          have hcz51_2 : wc.cell? ⟨gb164, 2, none⟩ = some (.string (a0.extract (a1 : Int).toNat (x6_14 : Int).toNat)) := (blk_cell BK164.out 2).trans rfl
                          have hcz51_3 : wc.cell? ⟨gb164, 3, none⟩ = some (.int .i64 0) := (blk_cell BK164.out 3).trans rfl
                          have hcz51_4 : wc.cell? ⟨gb164, 4, none⟩ = some (.float .f64 0) := (blk_cell BK164.out 4).trans rfl
                          have hfz51_0 := blk_frozen BK164.out 0
                          have hfz51_1 := blk_frozen BK164.out 1
                          have hfz51_2 := blk_frozen BK164.out 2
                          have hfz51_3 := blk_frozen BK164.out 3
                          have hfz51_4 := blk_frozen BK164.out 4
                          go_wp2_with (first | ((with_reducible refine gate_callee (f := 176) rfl ?_); refine goesL_ (some 70) rfl rfl Try.func176 (by kernel_rfl) rfl #[.string (a0.extract (a1 : Int).toNat (x6_14 : Int).toNat), .int .i64 15] rfl (by (try simp only [List.map_toArray, List.map_cons, List.map_nil]); first | done | rfl | (simp only [List.length_drop, List.length_take]; rfl)) ?_; (with_reducible refine (impl_plain.calls kj20 (a0.extract (a1 : Int).toNat (x6_14 : Int).toNat) 15 false _ A42.out).mono ?_); rintro e w' ⟨rfl, ⟨nd, rfl⟩⟩; refine ⟨_, rfl, ?_⟩; (try (rw [drewN_self wc]; generalize hq_ : World.drewN wc _ = wc; have n0_ : Aside0 (wc.heap[gb160]? = some (.cells #[.int .i64 0, .int .i64 0, .string (⟨#[]⟩ : ByteArray), .int .i64 0, .float .f64 0] 148 (0, 0))) := ⟨by rw [← hq_]; exact (by (with_reducible repeat (first | refine blk_drewN ?_ _ | refine blk_drew ?_ | refine blk_alloc ?_ _)); exact BK160.out)⟩; have n1_ : Aside0 (wc.heap[gb164]? = some (.cells #[.int .i64 3, .int .i64 a1, .string (a0.extract (a1 : Int).toNat (x6_14 : Int).toNat), .int .i64 0, .float .f64 0] 148 (0, 0))) := ⟨by rw [← hq_]; exact (by (with_reducible repeat (first | refine blk_drewN ?_ _ | refine blk_drew ?_ | refine blk_alloc ?_ _)); exact BK164.out)⟩; have n2_ : Aside0 (Below w.heap.size w wc) := ⟨by rw [← hq_]; exact (by repeat (first | (with_reducible first | exact HB.out | apply below_alloc | apply pw_below_drewN | apply below_drew1 | refine below_set ?_ GE160.out | refine below_set ?_ GE164.out) | exact HB.out))⟩; clear BK160 BK164 HB hq_; have BK160 := n0_; have BK164 := n1_; have HB := n2_; clear n0_ n1_ n2_)); have hcz52_0 : wc.cell? ⟨gb160, 0, none⟩ = some (.int .i64 0) := (blk_cell BK160.out 0).trans rfl; have hcz52_1 : wc.cell? ⟨gb160, 1, none⟩ = some (.int .i64 0) := (blk_cell BK160.out 1).trans rfl; have hcz52_2 : wc.cell? ⟨gb160, 2, none⟩ = some (.string (⟨#[]⟩ : ByteArray)) := (blk_cell BK160.out 2).trans rfl; have hcz52_3 : wc.cell? ⟨gb160, 3, none⟩ = some (.int .i64 0) := (blk_cell BK160.out 3).trans rfl; have hcz52_4 : wc.cell? ⟨gb160, 4, none⟩ = some (.float .f64 0) := (blk_cell BK160.out 4).trans rfl; have hfz52_0 := blk_frozen BK160.out 0; have hfz52_1 := blk_frozen BK160.out 1; have hfz52_2 := blk_frozen BK160.out 2; have hfz52_3 := blk_frozen BK160.out 3; have hfz52_4 := blk_frozen BK160.out 4))
                          refine bodyPost_ret (results_ct rfl _ _ gb160 148 #[.int .i64 0, .int .i64 0, .string (⟨#[]⟩ : ByteArray), .int .i64 0, .float .f64 0] (0, 0) _ rfl (by (with_reducible repeat (first | refine blk_drewN ?_ _ | refine blk_drew ?_ | refine blk_alloc ?_ _)); refine blk_put (cs := #[.int .i64 0, .int .i64 0, .string (⟨#[]⟩ : ByteArray), .int .i64 0, .float .f64 0]) ?_ 4 _ rfl; (with_reducible repeat (first | refine blk_drewN ?_ _ | refine blk_drew ?_ | refine blk_alloc ?_ _)); refine blk_put (cs := #[.int .i64 0, .int .i64 0, .string (⟨#[]⟩ : ByteArray), .int .i64 0, .float .f64 0]) ?_ 3 _ rfl; (with_reducible repeat (first | refine blk_drewN ?_ _ | refine blk_drew ?_ | refine blk_alloc ?_ _)); refine blk_put (cs := #[.int .i64 0, .int .i64 0, .string (⟨#[]⟩ : ByteArray), .int .i64 0, .float .f64 0]) ?_ 2 _ rfl; (with_reducible repeat (first | refine blk_drewN ?_ _ | refine blk_drew ?_ | refine blk_alloc ?_ _)); refine blk_put (cs := #[.int .i64 0, .int .i64 0, .string (⟨#[]⟩ : ByteArray), .int .i64 0, .float .f64 0]) ?_ 1 _ rfl; (with_reducible repeat (first | refine blk_drewN ?_ _ | refine blk_drew ?_ | refine blk_alloc ?_ _)); refine blk_put (cs := #[.int .i64 0, .int .i64 0, .string (⟨#[]⟩ : ByteArray), .int .i64 0, .float .f64 0]) ?_ 0 _ rfl; (with_reducible repeat (first | refine blk_drewN ?_ _ | refine blk_drew ?_ | refine blk_alloc ?_ _)); exact BK160.out) Try.underlying148 rfl (by kernel_rfl)) rfl ?_
                          exact ⟨by first | rfl | (simp [errW_none, errW_some] <;> rfl) | (simp [*, errW_none, errW_some] <;> rfl), by repeat (first | (with_reducible first | exact HB.out | apply below_alloc | apply pw_below_drewN | apply below_drew1 | refine below_set ?_ GE160.out | refine below_set ?_ GE164.out) | exact HB.out)⟩
              · rw [if_neg c20] at H
                exact absurd H (by simp)
            · rw [if_neg c19] at H
              exact absurd H (by simp)
          · rw [if_neg c18] at H
            exact absurd H (by simp)

/-! ### impl_run__impl_isLetter: function 110 -/
def impl_run__impl_isLetter.l0 : Nat → ByteArray → Int → Option (Int)
  | 0, _, _ => none
  | k + 1, x0, x1 => if x1 < (x0.size : Int) then (if 0 ≤ x1 then ((impl_isLetter.f (bt x0 x1)).bind fun t170 => (if t170 = true then (impl_run__impl_isLetter.l0 k x0 (wrap64 (x1 + 1))) else (some x1))) else (none)) else (some x1)
def impl_run__impl_isLetter.f (k : Nat) (a0 : ByteArray) (a1 : Int)  : Option (Int) := impl_run__impl_isLetter.l0 k a0 a1
theorem impl_run__impl_isLetter.mono_l : ∀ k, (∀ y0 y1, LeO (impl_run__impl_isLetter.l0 k y0 y1) (impl_run__impl_isLetter.l0 (k + 1) y0 y1))
  | 0 => fun _ _ r h => by simp [impl_run__impl_isLetter.l0] at h
  | k + 1 => by
    have ih0 := impl_run__impl_isLetter.mono_l k
    · intro y0 y1
      unfold impl_run__impl_isLetter.l0
      repeat' first
      | (with_reducible exact ih0 _ _)
      | (with_reducible exact LeO.refl _)
      | (with_reducible exact LeO.none _)
      | (with_reducible refine LeO.ite ?_ ?_)
      | (with_reducible refine LeO.bind ?_ (fun _ => ?_))
      | exact ih0 _ _
      | exact LeO.none _
      | refine LeO.ite ?_ ?_
      | refine LeO.bind ?_ (fun _ => ?_)
theorem impl_run__impl_isLetter.mono : ∀ a0 a1 k, LeO (impl_run__impl_isLetter.f k a0 a1) (impl_run__impl_isLetter.f (k + 1) a0 a1) := by
  intro a0 a1 k
  have ih0 := impl_run__impl_isLetter.mono_l k
  unfold impl_run__impl_isLetter.f
  repeat' first
      | (with_reducible exact ih0 _ _)
      | (with_reducible exact LeO.refl _)
      | (with_reducible exact LeO.none _)
      | (with_reducible refine LeO.ite ?_ ?_)
      | (with_reducible refine LeO.bind ?_ (fun _ => ?_))
      | exact ih0 _ _
      | exact LeO.none _
      | refine LeO.ite ?_ ?_
      | refine LeO.bind ?_ (fun _ => ?_)
set_option maxHeartbeats 8000000 in
set_option maxRecDepth 100000 in
theorem impl_run__impl_isLetter.calls (k : Nat) (a0 : ByteArray) (a1 : Int)  (r : Int) (w : World) (h : impl_run__impl_isLetter.f k a0 a1 = some r) :
    Calls Try.prog 110 #[.string a0, .int .i64 a1, .func (.func 149) #[] #[]] w fun e w' => e = .returned (.int .i64 r) ∧ Drawn0 w w' := by
  have H : (impl_run__impl_isLetter.l0 k a0 a1) = some r := h
  clear h
  have H' := Aside0.mk H
  clear H
  have e149h : ∀ args_ w_, (callFunc 149 args_).run Try.prog w_ = .ok (.enter 149 args_) w_ := Go.Proofs.Ytnecbgeljanhiaa.Own.enters Try.func149 (by kernel_rfl) rfl
  go_enter Try.func110, Try.ntmps110
  go_wp2
  go_loopg [1] k (fun kq v1 w' => ∃ (x1_1 : Int), v1 = .int .i64 x1_1 ∧ Aside0 (impl_run__impl_isLetter.l0 kq a0 x1_1 = some r) ∧ Aside0 (kq ≤ k) ∧ Drawn0 w w')
  case atStart => exact ⟨(a1), (by first | rfl | (simp; done) | (simp [*]; done)), H', ⟨Nat.le_refl _⟩, by repeat (first | exact Drawn0.refl _ | apply Drawn0.step)⟩
  case round =>
    clear H'
    try clear c1
    try clear p2
    obtain ⟨x1_1, rfl, HA, HK1, ⟨m1, rfl⟩⟩ := hrel
    cases gk with
    | zero => exact absurd HA.out (by simp [impl_run__impl_isLetter.l0])
    | succ k1 =>
      have H := HA.out
      clear HA
      simp only [impl_run__impl_isLetter.l0] at H
      by_cases c4 : x1_1 < (a0.size : Int)
      · rw [if_pos c4] at H
        have c4b0 : decide (x1_1 < (a0.size : Int)) = true := decide_eq_true c4
        clear c4
        by_cases c5 : 0 ≤ x1_1
        · rw [if_pos c5] at H
          have c5b0 : decide (0 ≤ x1_1) = true := decide_eq_true c5
          clear c5
          replace H := Option.bind_eq_some_iff.mp H
          obtain ⟨t170, A70, H⟩ := H
          replace H : (if t170 = true then (impl_run__impl_isLetter.l0 k1 a0 (wrap64 (x1_1 + 1))) else (some x1_1)) = some r := H
          have A7 := Aside0.mk A70
          clear A70
          by_cases c8 : t170 = true
          · subst c8
            have H1 : (impl_run__impl_isLetter.l0 k1 a0 (wrap64 (x1_1 + 1))) = some r := by rw [if_pos rfl] at H; exact H
            clear H
            have H := H1
            clear H1
            have H' := Aside0.mk H
            clear H
            have p6 : 0 ≤ (x1_1 : Int) := of_decide_eq_true (by first | (with_reducible assumption) | assumption)
            have q6 : x1_1 < (a0.size : Int) := of_decide_eq_true (by first | (with_reducible assumption) | assumption)
            have hx6 := bt_at a0 x1_1
            replace p6 := eq_true p6
            replace q6 := eq_true q6
            go_wp2_with (first | (go_at_fn 149; (with_reducible refine (impl_isLetter.calls (bt a0 x1_1) true _ A7.out).mono ?_); rintro e w' ⟨rfl, ⟨nd, rfl⟩⟩))
            go_roundg k1
            case measure => have := HK1.out; omega
            case rel => exact ⟨(wrap64 (x1_1 + 1)), (by first | rfl | (simp; done) | (simp [*]; done)), H', ⟨by have := HK1.out; omega⟩, by repeat (first | exact Drawn0.refl _ | apply Drawn0.step)⟩
          · replace c8 := Bool.eq_false_iff.mpr c8
            subst c8
            have H1 : (some x1_1) = some r := by rw [if_neg (show ¬ (false = true) by decide)] at H; exact H
            clear H
            have H := H1
            clear H1
            obtain rfl := Option.some.inj H
            have p6 : 0 ≤ (x1_1 : Int) := of_decide_eq_true (by first | (with_reducible assumption) | assumption)
            have q6 : x1_1 < (a0.size : Int) := of_decide_eq_true (by first | (with_reducible assumption) | assumption)
            have hx6 := bt_at a0 x1_1
            replace p6 := eq_true p6
            replace q6 := eq_true q6
            go_wp2_with (first | (go_at_fn 149; (with_reducible refine (impl_isLetter.calls (bt a0 x1_1) false _ A7.out).mono ?_); rintro e w' ⟨rfl, ⟨nd, rfl⟩⟩))
            go_ret
            exact ⟨by first | rfl | (simp; done) | (simp [*]; done), by repeat (first | exact Drawn0.refl _ | apply Drawn0.step)⟩
        · rw [if_neg c5] at H
          exact absurd H (by simp)
      · rw [if_neg c4] at H
        have c4b0 : decide (x1_1 < (a0.size : Int)) = false := decide_eq_false c4
        clear c4
        obtain rfl := Option.some.inj H
        go_wp2
        go_ret
        exact ⟨by first | rfl | (simp; done) | (simp [*]; done), by repeat (first | exact Drawn0.refl _ | apply Drawn0.step)⟩

end Go.Proofs.Ytnecbgeljanhiaa.PFnExactLex
