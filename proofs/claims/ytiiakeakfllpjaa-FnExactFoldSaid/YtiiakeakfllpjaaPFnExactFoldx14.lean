-- written by wip/tools/myprint.py out of the program's own print
import Derived.Test.YtiiakeakfllpjaaPFnExactFoldx0
import Derived.Test.YtiiakeakfllpjaaPFnExactFoldx12
namespace Go.Proofs.Ytiiakeakfllpjaa.PFnExactFold
open Go.Proofs.Ytiiakeakfllpjaa.Own (rS cS bS rB rN rT kS kC kc10 kf10)
open Go.RowKit Go.Proofs.YtiiakeakfllpjaaW.PrintWords Go.Proofs.YtiiakeakfllpjaaW.PrintLast Go.Proofs.YtiiakeakfllpjaaW.PrintMore
attribute [local go_sem] max2_int min2_int max_two min_two max_three min_three max_four min_four   -- for this text's walks alone
set_option linter.unusedVariables false
set_option linter.unusedSimpArgs false

/-! ### impl_Fold: function 7 -/
attribute [local go_sem] Go.Proofs.Ytiiakeakfllpjaa.Own.run_store_float
theorem litIn_ok_i {k i : Int} (h : Own.litIn k i = true) (hl : Own.isLit k = true) : Own.litOk (Own.lk k) i 0 0 = true := by
 unfold Own.litIn at h
 rw [hl] at h
 simpa using h
theorem blk3_i (w : World) (a b r : Obj) : (((w.alloc a).alloc b).alloc r).heap[w.heap.size + 1 + 1]? = some r := by
 have h := blk_new ((w.alloc a).alloc b) r
 have e : ((w.alloc a).alloc b).heap.size = w.heap.size + 1 + 1 := by simp
 rwa [e] at h
theorem blk2_i (w : World) (a r : Obj) : ((w.alloc a).alloc r).heap[w.heap.size + 1]? = some r := by
 have h := blk_new (w.alloc a) r
 have e : (w.alloc a).heap.size = w.heap.size + 1 := by simp
 rwa [e] at h
set_option maxRecDepth 100000 in
theorem ret72_i {fn : Func} {p u : Tmp} (hr : fn.results = #[.cell p 72, .tmp u]) {a : Act} {w W : World} (g : Nat) (v : Int × Int × Nat × Nat × Int) (hb : W.heap[g]? = some (.cells #[.int .i64 v.1, .int .i64 v.2.1, .float .f64 v.2.2.1, .float .f64 v.2.2.2.1] 72 (0, 0))) (hp : a.tmps.getD p undef = .pointer (some ⟨g, 0, none⟩)) (hc : a.tmps.getD u undef = .int .i64 v.2.2.2.2) (hd : a.defers = []) (hB : Below w.heap.size w W) :
  bodyPost Try.prog fn (fun e w' => e = .returned (.tuple #[.agg #[.int .i64 v.1, .int .i64 v.2.1, .float .f64 v.2.2.1, .float .f64 v.2.2.2.1], .int .i64 v.2.2.2.2]) ∧ Below w.heap.size w w') .ret a W := by
 refine bodyPost_ret (results_ct hr _ _ g 72 _ (0, 0) _ hp hb Try.underlying72 rfl rfl) hd ⟨?_, hB⟩
 rw [hc]
theorem cells4_i {W : World} {g t : Nat} {c0 c1 c2 c3 : Value} (h : W.heap[g]? = some (.cells #[c0, c1, c2, c3] t (0, 0))) : W.cell? ⟨g, 0, none⟩ = some c0 ∧ W.cell? ⟨g, 1, none⟩ = some c1 ∧ W.cell? ⟨g, 2, none⟩ = some c2 ∧ W.cell? ⟨g, 3, none⟩ = some c3 ∧ W.frozen? ⟨g, 0, none⟩ = false ∧ W.frozen? ⟨g, 1, none⟩ = false ∧ W.frozen? ⟨g, 2, none⟩ = false ∧ W.frozen? ⟨g, 3, none⟩ = false :=
 ⟨blk_cell h 0, blk_cell h 1, blk_cell h 2, blk_cell h 3, blk_frozen h 0, blk_frozen h 1, blk_frozen h 2, blk_frozen h 3⟩
theorem put4_i {W : World} {g t : Nat} {c0 c1 c2 c3 : Value} (h : W.heap[g]? = some (.cells #[c0, c1, c2, c3] t (0, 0))) (d0 d1 d2 d3 : Value) : ((((W.setCell ⟨g, 0, none⟩ d0).setCell ⟨g, 1, none⟩ d1).setCell ⟨g, 2, none⟩ d2).setCell ⟨g, 3, none⟩ d3).heap[g]? = some (.cells #[d0, d1, d2, d3] t (0, 0)) :=
 blk_put (blk_put (blk_put (blk_put h 0 _ rfl) 1 _ rfl) 2 _ rfl) 3 _ rfl
theorem litOk_int_i {i : Int} (h : Own.litOk 1 i 0 0 = true) : 0 ≤ i ∧ i ≤ 999999999999999 := by
 unfold Own.litOk at h
 have := of_decide_eq_true h
 omega
theorem litOk_bool_i {i : Int} (h : Own.litOk 4 i 0 0 = true) : i = 0 ∨ i = 1 := by
 unfold Own.litOk at h
 have := of_decide_eq_true h
 omega
theorem litOk_kind_i {k i : Int} (h : Own.litOk k i 0 0 = true) : k = 1 ∨ k = 4 := by
 unfold Own.litOk at h
 have := of_decide_eq_true h
 omega
set_option maxHeartbeats 4000000 in
set_option maxRecDepth 100000 in
theorem isZeroX (w : World) : Calls Try.prog 86 #[.float .f64 0] w fun e w' => e = .returned (.bool true) ∧ w' = w := by
 have hx : ∀ (w_ : World), (callFunc 89 #[.float .f64 0]).run Try.prog w_ = .ok (.value (.int .u64 ((0 : Nat) : Int))) w_ := fun w_ => by rw [run_callFunc_extern Try.func89 (by kernel_rfl) (by kernel_rfl) (by kernel_rfl) (by kernel_rfl : _ = some Extern.MathFloatBits.float64bits)]; rfl
 go_enter Try.func86, Try.ntmps86
 go_wp2
 go_ret
 exact ⟨rfl, rfl⟩
set_option maxRecDepth 100000 in
theorem withinX (x a b : Int) (r : Bool) (hr : r = decide (a ≤ x ∧ x ≤ b)) (w : World) : Calls Try.prog 30 #[.int .i64 x, .int .i64 a, .int .i64 b] w fun e w' => e = .returned (.bool r) ∧ w' = w := by
 have HR := Aside0.mk hr
 clear hr
 by_cases c : a ≤ x
 ·have cb : decide (x ≥ a) = true := decide_eq_true c
  have CA := Aside0.mk c
  clear c
  go_enter Try.func30, Try.ntmps30
  go_wp2
  go_ret
  exact ⟨by rw [HR.out]; simp [CA.out], rfl⟩
 ·have cb : decide (x ≥ a) = false := decide_eq_false c
  have CA := Aside0.mk c
  clear c
  go_enter Try.func30, Try.ntmps30
  go_wp2
  go_ret
  exact ⟨by rw [HR.out, decide_eq_false (fun h => by have := CA.out; omega)]; rfl, rfl⟩
set_option maxRecDepth 100000 in
theorem impl_ValOkX (kd iv : Int) (hk : Own.litOk kd iv 0 0 = true) (w : World) :
  Calls Try.prog 67 #[.agg #[.int .i64 kd, .int .i64 iv, .float .f64 0, .float .f64 0]] w fun e w' => e = .returned (.bool true) ∧ w' = w.alloc (.cells #[.int .i64 kd, .int .i64 iv, .float .f64 0, .float .f64 0] 72) := by
 have hx := of_decide_eq_true hk
 have hu := Try.underlying72
 rcases hx with ⟨_, _, ⟨rfl, _, _⟩ | ⟨rfl, rfl | rfl⟩⟩ <;> clear hk
 all_goals
  go_enter Try.func67, Try.ntmps67
  go_wp2_with (first
   | (go_at_call 86; (with_reducible refine (isZeroX _).mono ?_); rintro e w5 ⟨rfl, rfl⟩)
   | (go_at_call 30; (with_reducible refine (withinX _ _ _ true (by decide) _).mono ?_); rintro e w5 ⟨rfl, rfl⟩))
  go_ret
  exact ⟨rfl, rfl⟩
set_option maxRecDepth 100000 in
theorem yesNoX (b : Bool) (y : Int) (hy : y = if b = true then 1 else 0) (w : World) : Calls Try.prog 73 #[.bool b] w fun e w' => e = .returned (.tuple #[.agg #[.int .i64 4, .int .i64 y, .float .f64 0, .float .f64 0], .int .i64 0]) ∧ w' = w.alloc (.cells #[.int .i64 4, .int .i64 y, .float .f64 0, .float .f64 0] 72) := by
 have hu := Try.underlying72
 cases b
 all_goals
  subst hy
  go_enter Try.func73, Try.ntmps73
  go_wp2
  refine bodyPost_ret (results_ct rfl _ _ w.heap.size 72 _ (0, 0) _ rfl (blk_new w _) hu rfl rfl) rfl ⟨?_, ?_⟩ <;> rfl
set_option maxRecDepth 100000 in
theorem realX (x : Nat) (w : World) : Calls Try.prog 72 #[.float .f64 x] w fun e w' => e = .returned (.tuple #[.agg #[.int .i64 2, .int .i64 0, .float .f64 x, .float .f64 0], .int .i64 0]) ∧ w' = w.alloc (.cells #[.int .i64 2, .int .i64 0, .float .f64 x, .float .f64 0] 72) := by
 have hu := Try.underlying72
 go_enter Try.func72, Try.ntmps72
 go_wp2
 refine bodyPost_ret (results_ct rfl _ _ w.heap.size 72 _ (0, 0) _ rfl (blk_new w _) hu rfl rfl) rfl ⟨?_, ?_⟩ <;> rfl
theorem opInt_mod (a b : Int) (h0 : 0 ≤ a) (h1 : a ≤ 999999999999999) (h2 : 0 < b) (h3 : b ≤ 999999999999999) : wrap64 (a - wrap64 (wrap64 (Int.tdiv a b) * b)) = Int.tmod a b ∧ wrap64 (Int.tdiv a b) = Int.tdiv a b ∧ wrap64 (Int.tmod a b) = Int.tmod a b := by
 have e : Int.tdiv a b * b + Int.tmod a b = a := Int.tdiv_mul_add_tmod a b
 have e1 : Int.tdiv a b = a / b := Int.tdiv_eq_ediv_of_nonneg h0
 have e2 : 0 ≤ Int.tmod a b := Int.tmod_nonneg _ h0
 have e3 : 0 ≤ a / b := Int.ediv_nonneg h0 (by omega)
 have e4 : a / b ≤ a := Int.ediv_le_self _ h0
 have f : ∀ x : Int, 0 ≤ x → x ≤ 999999999999999 → wrap64 x = x := fun x _ _ => by unfold wrap64; omega
 rw [e1] at e ⊢
 generalize a / b = q at *
 generalize Int.tmod a b = r at *
 rw [f q e3 (by omega)]
 have e5 : 0 ≤ q * b := Int.mul_nonneg e3 (by omega)
 generalize q * b = m at *
 rw [f m e5 (by omega), f r e2 (by omega)]
 exact ⟨by rw [f _ (by omega) (by omega)]; omega, rfl, rfl⟩
set_option maxHeartbeats 8000000 in
set_option maxRecDepth 100000 in
theorem impl_opIntX (a0 a1 a2 : Int) (h0 : 0 ≤ a1) (h1 : a1 ≤ 999999999999999) (h2 : 0 ≤ a2) (h3 : a2 ≤ 999999999999999) (v : Int × Int × Nat × Nat × Int) (hv : Own.intB a0 a1 a2 = v) (w : World) :
  Calls Try.prog 68 #[.int .i64 a0, .int .i64 a1, .int .i64 a2] w fun e w' => e = .returned (.tuple #[.agg #[.int .i64 v.1, .int .i64 v.2.1, .float .f64 v.2.2.1, .float .f64 v.2.2.2.1], .int .i64 v.2.2.2.2]) ∧ Below w.heap.size w w' := by
 have hu := Try.underlying72
 have H0 := Aside0.mk h0
 have H1 := Aside0.mk h1
 have H2 := Aside0.mk h2
 have H3 := Aside0.mk h3
 clear h0 h1 h2 h3
 unfold Own.intB at hv
 by_cases c1 : a0 = 1
 ·subst c1
  have HV := Aside0.mk hv
  clear hv
  go_enter Try.func68, Try.ntmps68
  go_wp2
  refine ret72_i rfl w.heap.size v ?_ rfl ?_ rfl ?_ <;> first | (rw [← HV.out]; (repeat (first | exact blk_new _ _ | refine blk_drewN ?_ _ | refine blk_alloc ?_ _)); done) | (rw [← HV.out]; rfl) | (repeat (with_reducible first | exact Below.refl _ _ | apply below_alloc | apply pw_below_drewN | apply below_drew1))
 by_cases c2 : a0 = 2
 ·subst c2
  have HV := Aside0.mk hv
  clear hv
  go_enter Try.func68, Try.ntmps68
  go_wp2
  refine ret72_i rfl w.heap.size v ?_ rfl ?_ rfl ?_ <;> first | (rw [← HV.out]; (repeat (first | exact blk_new _ _ | refine blk_drewN ?_ _ | refine blk_alloc ?_ _)); done) | (rw [← HV.out]; rfl) | (repeat (with_reducible first | exact Below.refl _ _ | apply below_alloc | apply pw_below_drewN | apply below_drew1))
 by_cases c3 : a0 = 3
 ·subst c3
  have HV := Aside0.mk hv
  clear hv
  go_enter Try.func68, Try.ntmps68
  go_wp2
  refine ret72_i rfl w.heap.size v ?_ rfl ?_ rfl ?_ <;> first | (rw [← HV.out]; (repeat (first | exact blk_new _ _ | refine blk_drewN ?_ _ | refine blk_alloc ?_ _)); done) | (rw [← HV.out]; rfl) | (repeat (with_reducible first | exact Below.refl _ _ | apply below_alloc | apply pw_below_drewN | apply below_drew1))
 by_cases c45 : a0 = 4 ∨ a0 = 5
 ·rw [if_neg c1, if_neg c2, if_neg c3, if_pos c45] at hv
  by_cases cb : a2 = 0
  ·subst cb
   have HV := Aside0.mk hv
   clear hv
   rcases c45 with rfl | rfl
   all_goals
    go_enter Try.func68, Try.ntmps68
    go_wp2
    refine ret72_i rfl w.heap.size v ?_ rfl ?_ rfl ?_ <;> first | (rw [← HV.out]; (repeat (first | exact blk_new _ _ | refine blk_drewN ?_ _ | refine blk_alloc ?_ _)); done) | (rw [← HV.out]; rfl) | (repeat (with_reducible first | exact Below.refl _ _ | apply below_alloc | apply pw_below_drewN | apply below_drew1))
  ·obtain ⟨m1, m2, m3⟩ := opInt_mod a1 a2 H0.out H1.out (by have := H2.out; omega) H3.out
   have b0 : (a2 == 0) = false := beq_eq_false_iff_ne.2 cb
   have b1 : (a2 == -1) = false := beq_eq_false_iff_ne.2 (by have := H2.out; omega)
   rw [if_neg cb] at hv
   have HV := Aside0.mk hv
   have M1 := Aside0.mk m1
   have M2 := Aside0.mk m2
   have M3 := Aside0.mk m3
   clear hv m1 m2 m3
   rcases c45 with rfl | rfl
   all_goals
    go_enter Try.func68, Try.ntmps68
    go_wp2
    refine ret72_i rfl w.heap.size v ?_ rfl ?_ rfl ?_ <;> first | (rw [← HV.out]; (try rw [M1.out]); (try rw [M2.out]); (try rw [M3.out]); (repeat (first | exact blk_new _ _ | refine blk_drewN ?_ _ | refine blk_alloc ?_ _)); done) | (rw [← HV.out]; rfl) | (repeat (with_reducible first | exact Below.refl _ _ | apply below_alloc | apply pw_below_drewN | apply below_drew1))
 have n1 : (a0 == 1) = false := beq_eq_false_iff_ne.2 c1
 have n2 : (a0 == 2) = false := beq_eq_false_iff_ne.2 c2
 have n3 : (a0 == 3) = false := beq_eq_false_iff_ne.2 c3
 have n4 : (a0 == 4) = false := beq_eq_false_iff_ne.2 (fun e => c45 (.inl e))
 have n5 : (a0 == 5) = false := beq_eq_false_iff_ne.2 (fun e => c45 (.inr e))
 rw [if_neg c1, if_neg c2, if_neg c3, if_neg c45] at hv
 clear c1 c2 c3 c45
 by_cases c6 : a0 = 6
 ·subst c6
  obtain ⟨y, hy⟩ : ∃ y : Int, y = if decide (a1 < a2) = true then 1 else 0 := ⟨_, rfl⟩
  have hv' : (4, y, 0, 0, 0) = v := by rw [← hv, hy]; rfl
  have HV := Aside0.mk hv'
  have HY := Aside0.mk hy
  clear hv hy hv'
  go_enter Try.func68, Try.ntmps68
  go_wp2_with (go_at_call 73; (with_reducible refine (yesNoX _ y HY.out _).mono ?_); rintro e w5 ⟨rfl, rfl⟩)
  refine ret72_i rfl w.heap.size v ?_ rfl ?_ rfl ?_ <;> first | (rw [← HV.out]; (repeat (first | exact blk_new _ _ | refine blk_drewN ?_ _ | refine blk_alloc ?_ _)); done) | (rw [← HV.out]; rfl) | (repeat (with_reducible first | exact Below.refl _ _ | apply below_alloc | apply pw_below_drewN | apply below_drew1))
 have n6 : (a0 == 6) = false := beq_eq_false_iff_ne.2 c6
 rw [if_neg c6] at hv
 by_cases c7 : a0 = 7
 ·subst c7
  obtain ⟨y, hy⟩ : ∃ y : Int, y = if (a1 == a2) = true then 1 else 0 := ⟨_, rfl⟩
  have hv' : (4, y, 0, 0, 0) = v := by rw [← hv, hy]; simp [Own.yesB]
  have HV := Aside0.mk hv'
  have HY := Aside0.mk hy
  clear hv hy hv'
  go_enter Try.func68, Try.ntmps68
  go_wp2_with (go_at_call 73; (with_reducible refine (yesNoX _ y HY.out _).mono ?_); rintro e w5 ⟨rfl, rfl⟩)
  refine ret72_i rfl w.heap.size v ?_ rfl ?_ rfl ?_ <;> first | (rw [← HV.out]; (repeat (first | exact blk_new _ _ | refine blk_drewN ?_ _ | refine blk_alloc ?_ _)); done) | (rw [← HV.out]; rfl) | (repeat (with_reducible first | exact Below.refl _ _ | apply below_alloc | apply pw_below_drewN | apply below_drew1))
 have n7 : (a0 == 7) = false := beq_eq_false_iff_ne.2 c7
 rw [if_neg c7] at hv
 have HV := Aside0.mk hv
 clear hv
 go_enter Try.func68, Try.ntmps68
 go_wp2
 refine ret72_i rfl w.heap.size v ?_ rfl ?_ rfl ?_ <;> first | (rw [← HV.out]; (repeat (first | exact blk_new _ _ | refine blk_drewN ?_ _ | refine blk_alloc ?_ _)); done) | (rw [← HV.out]; rfl) | (repeat (with_reducible first | exact Below.refl _ _ | apply below_alloc | apply pw_below_drewN | apply below_drew1))
theorem bitsAnd {a b : Int} (ha : a = 0 ∨ a = 1) (hb : b = 0 ∨ b = 1) : (Go.bits .and .i64 a b == 1) = decide (a = 1 ∧ b = 1) := by
 rcases ha with rfl | rfl <;> rcases hb with rfl | rfl <;> decide
theorem bitsOr {a b : Int} (ha : a = 0 ∨ a = 1) (hb : b = 0 ∨ b = 1) : (Go.bits .or .i64 a b == 1) = decide (a = 1 ∨ b = 1) := by
 rcases ha with rfl | rfl <;> rcases hb with rfl | rfl <;> decide
set_option maxHeartbeats 8000000 in
set_option maxRecDepth 100000 in
theorem impl_opBoolX (op i1 i2 : Int) (h1 : i1 = 0 ∨ i1 = 1) (h2 : i2 = 0 ∨ i2 = 1) (v : Int × Int × Nat × Nat × Int) (hv : Own.boolB op i1 i2 = v) (w : World) :
  Calls Try.prog 71 #[.int .i64 op, .int .i64 i1, .int .i64 i2] w fun e w' => e = .returned (.tuple #[.agg #[.int .i64 v.1, .int .i64 v.2.1, .float .f64 v.2.2.1, .float .f64 v.2.2.2.1], .int .i64 v.2.2.2.2]) ∧ Below w.heap.size w w' := by
 have hu := Try.underlying72
 unfold Own.boolB at hv
 by_cases c7 : op = 7
 ·subst c7
  obtain ⟨y, hy⟩ : ∃ y : Int, y = if (i1 == i2) = true then 1 else 0 := ⟨_, rfl⟩
  obtain rfl : ((4 : Int), y, (0 : Nat), (0 : Nat), (0 : Int)) = v := by rw [← hv, hy]; simp [Own.yesB]
  have HY := Aside0.mk hy
  clear hv hy h1 h2
  go_enter Try.func71, Try.ntmps71
  go_wp2_with (go_at_call 73; (with_reducible refine (yesNoX _ y (by first | exact HY.out | simpa using HY.out) _).mono ?_); rintro e w5 ⟨rfl, rfl⟩)
  refine ret72_i rfl w.heap.size (4, y, 0, 0, 0) ?_ rfl rfl rfl ?_ <;> first | ((repeat (first | (with_reducible exact blk_new _ _) | (with_reducible refine blk_alloc ?_ _))); done) | (repeat (with_reducible first | exact Below.refl _ _ | apply below_alloc | apply pw_below_drewN | apply below_drew1))
 have n7 : (op == 7) = false := beq_eq_false_iff_ne.2 c7
 rw [if_neg c7] at hv
 by_cases c8 : op = 8
 ·subst c8
  have hb := bitsAnd h1 h2
  obtain ⟨y, hy⟩ : ∃ y : Int, y = if decide (i1 = 1 ∧ i2 = 1) = true then 1 else 0 := ⟨_, rfl⟩
  obtain rfl : ((4 : Int), y, (0 : Nat), (0 : Nat), (0 : Int)) = v := by rw [← hv, hy]; simp [Own.yesB]
  have HY := Aside0.mk (show y = if (Go.bits .and .i64 i1 i2 == 1) = true then 1 else 0 by rw [hb]; exact hy)
  clear hv hy h1 h2 hb
  go_enter Try.func71, Try.ntmps71
  go_wp2_with (go_at_call 73; (with_reducible refine (yesNoX _ y (by first | exact HY.out | simpa using HY.out) _).mono ?_); rintro e w5 ⟨rfl, rfl⟩)
  refine ret72_i rfl w.heap.size (4, y, 0, 0, 0) ?_ rfl rfl rfl ?_ <;> first | ((repeat (first | (with_reducible exact blk_new _ _) | (with_reducible refine blk_alloc ?_ _))); done) | (repeat (with_reducible first | exact Below.refl _ _ | apply below_alloc | apply pw_below_drewN | apply below_drew1))
 have n8 : (op == 8) = false := beq_eq_false_iff_ne.2 c8
 rw [if_neg c8] at hv
 by_cases c9 : op = 9
 ·subst c9
  have hb := bitsOr h1 h2
  obtain ⟨y, hy⟩ : ∃ y : Int, y = if decide (i1 = 1 ∨ i2 = 1) = true then 1 else 0 := ⟨_, rfl⟩
  obtain rfl : ((4 : Int), y, (0 : Nat), (0 : Nat), (0 : Int)) = v := by rw [← hv, hy]; simp [Own.yesB]
  have HY := Aside0.mk (show y = if (Go.bits .or .i64 i1 i2 == 1) = true then 1 else 0 by rw [hb]; exact hy)
  clear hv hy h1 h2 hb
  go_enter Try.func71, Try.ntmps71
  go_wp2_with (go_at_call 73; (with_reducible refine (yesNoX _ y (by first | exact HY.out | simpa using HY.out) _).mono ?_); rintro e w5 ⟨rfl, rfl⟩)
  refine ret72_i rfl w.heap.size (4, y, 0, 0, 0) ?_ rfl rfl rfl ?_ <;> first | ((repeat (first | (with_reducible exact blk_new _ _) | (with_reducible refine blk_alloc ?_ _))); done) | (repeat (with_reducible first | exact Below.refl _ _ | apply below_alloc | apply pw_below_drewN | apply below_drew1))
 have n9 : (op == 9) = false := beq_eq_false_iff_ne.2 c9
 rw [if_neg c9] at hv
 subst hv
 clear h1 h2 c7 c8 c9
 go_enter Try.func71, Try.ntmps71
 go_wp2
 refine ret72_i rfl w.heap.size (0, 0, 0, 0, 1) ?_ rfl rfl rfl ?_ <;> first | ((repeat (first | (with_reducible exact blk_new _ _) | (with_reducible refine blk_alloc ?_ _))); done) | (repeat (with_reducible first | exact Below.refl _ _ | apply below_alloc | apply pw_below_drewN | apply below_drew1))
set_option maxHeartbeats 8000000 in
set_option maxRecDepth 100000 in
theorem impl_ValOpI (op i1 i2 : Int) (H1 : Aside0 (Own.litOk 1 i1 0 0 = true)) (H2 : Aside0 (Own.litOk 1 i2 0 0 = true)) (v : Int × Int × Nat × Nat × Int) (HV : Aside0 (Own.intB op i1 i2 = v)) (w : World) :
  Calls Try.prog 51 #[.int .i64 op, .agg #[.int .i64 1, .int .i64 i1, .float .f64 0, .float .f64 0], .agg #[.int .i64 1, .int .i64 i2, .float .f64 0, .float .f64 0]] w fun e w' => e = .returned (.tuple #[.agg #[.int .i64 v.1, .int .i64 v.2.1, .float .f64 v.2.2.1, .float .f64 v.2.2.2.1], .int .i64 v.2.2.2.2]) ∧ Below w.heap.size w w' := by
 have hu := Try.underlying72
 go_enter Try.func51, Try.ntmps51
 go_wp2_with (first
  | (go_at_call 67; (with_reducible refine (impl_ValOkX 1 i1 H1.out _).mono ?_); rintro e w5 ⟨rfl, rfl⟩)
  | (go_at_call 67; (with_reducible refine (impl_ValOkX 1 i2 H2.out _).mono ?_); rintro e w5 ⟨rfl, rfl⟩)
  | (go_at_call 68; (with_reducible refine (impl_opIntX op i1 i2 (litOk_int_i H1.out).1 (litOk_int_i H1.out).2 (litOk_int_i H2.out).1 (litOk_int_i H2.out).2 v HV.out _).mono ?_); rintro e w5 ⟨rfl, hb⟩; have k : w5.heap[w.heap.size + 1 + 1]? = some (.cells #[.int .i64 0, .int .i64 0, .float .f64 0, .float .f64 0] 72 (0, 0)) := blk_below (by (repeat (first | (with_reducible exact blk3_i _ _ _ _) | (with_reducible exact blk2_i _ _ _) | (with_reducible exact blk_new _ _) | (with_reducible refine blk_alloc ?_ _)))) hb; obtain ⟨f0, f1, f2, f3, f4, f5, f6, f7⟩ := cells4_i k; have HB := Aside0.mk (show Below w.heap.size w w5 from below_step (by repeat (first | exact Below.refl _ _ | apply below_alloc)) hb); have K := Aside0.mk k; clear hb k))
 refine ret72_i rfl (w.heap.size + 1 + 1) v (put4_i K.out _ _ _ _) rfl rfl rfl ?_
 repeat (first | exact HB.out | refine below_set ?_ (by show w.heap.size ≤ w.heap.size + 1 + 1; omega))
set_option maxHeartbeats 8000000 in
set_option maxRecDepth 100000 in
theorem impl_ValOpB (op i1 i2 : Int) (H1 : Aside0 (Own.litOk 4 i1 0 0 = true)) (H2 : Aside0 (Own.litOk 4 i2 0 0 = true)) (v : Int × Int × Nat × Nat × Int) (HV : Aside0 (Own.boolB op i1 i2 = v)) (w : World) :
  Calls Try.prog 51 #[.int .i64 op, .agg #[.int .i64 4, .int .i64 i1, .float .f64 0, .float .f64 0], .agg #[.int .i64 4, .int .i64 i2, .float .f64 0, .float .f64 0]] w fun e w' => e = .returned (.tuple #[.agg #[.int .i64 v.1, .int .i64 v.2.1, .float .f64 v.2.2.1, .float .f64 v.2.2.2.1], .int .i64 v.2.2.2.2]) ∧ Below w.heap.size w w' := by
 have hu := Try.underlying72
 go_enter Try.func51, Try.ntmps51
 go_wp2_with (first
  | (go_at_call 67; (with_reducible refine (impl_ValOkX 4 i1 H1.out _).mono ?_); rintro e w5 ⟨rfl, rfl⟩)
  | (go_at_call 67; (with_reducible refine (impl_ValOkX 4 i2 H2.out _).mono ?_); rintro e w5 ⟨rfl, rfl⟩)
  | (go_at_call 71; (with_reducible refine (impl_opBoolX op i1 i2 (litOk_bool_i H1.out) (litOk_bool_i H2.out) v HV.out _).mono ?_); rintro e w5 ⟨rfl, hb⟩; have k : w5.heap[w.heap.size + 1 + 1]? = some (.cells #[.int .i64 0, .int .i64 0, .float .f64 0, .float .f64 0] 72 (0, 0)) := blk_below (by (repeat (first | (with_reducible exact blk3_i _ _ _ _) | (with_reducible exact blk2_i _ _ _) | (with_reducible exact blk_new _ _) | (with_reducible refine blk_alloc ?_ _)))) hb; obtain ⟨f0, f1, f2, f3, f4, f5, f6, f7⟩ := cells4_i k; have HB := Aside0.mk (show Below w.heap.size w w5 from below_step (by repeat (first | exact Below.refl _ _ | apply below_alloc)) hb); have K := Aside0.mk k; clear hb k))
 refine ret72_i rfl (w.heap.size + 1 + 1) v (put4_i K.out _ _ _ _) rfl rfl rfl ?_
 repeat (first | exact HB.out | refine below_set ?_ (by show w.heap.size ≤ w.heap.size + 1 + 1; omega))
set_option maxHeartbeats 8000000 in
set_option maxRecDepth 100000 in
theorem impl_ValOpN (op k1 i1 k2 i2 : Int) (H1 : Aside0 (Own.litOk k1 i1 0 0 = true)) (H2 : Aside0 (Own.litOk k2 i2 0 0 = true)) (hk : k1 ≠ k2) (w : World) :
  Calls Try.prog 51 #[.int .i64 op, .agg #[.int .i64 k1, .int .i64 i1, .float .f64 0, .float .f64 0], .agg #[.int .i64 k2, .int .i64 i2, .float .f64 0, .float .f64 0]] w fun e w' => e = .returned (.tuple #[.agg #[.int .i64 0, .int .i64 0, .float .f64 0, .float .f64 0], .int .i64 1]) ∧ Below w.heap.size w w' := by
 have hu := Try.underlying72
 have hn : (k1 != k2) = true := bne_iff_ne.2 hk
 clear hk
 go_enter Try.func51, Try.ntmps51
 go_wp2_with (first
  | (go_at_call 67; (with_reducible refine (impl_ValOkX k1 i1 H1.out _).mono ?_); rintro e w5 ⟨rfl, rfl⟩)
  | (go_at_call 67; (with_reducible refine (impl_ValOkX k2 i2 H2.out _).mono ?_); rintro e w5 ⟨rfl, rfl⟩))
 refine ret72_i rfl (w.heap.size + 1 + 1) (0, 0, 0, 0, 1) ?_ rfl rfl rfl ?_
 ·(repeat (first | (with_reducible exact blk3_i _ _ _ _) | (with_reducible exact blk2_i _ _ _) | (with_reducible exact blk_new _ _) | (with_reducible refine blk_alloc ?_ _)))
 ·repeat (with_reducible first | exact Below.refl _ _ | apply below_alloc | apply pw_below_drewN | apply below_drew1)
theorem impl_ValOpX (op k1 i1 k2 i2 : Int) (H1 : Own.litOk k1 i1 0 0 = true) (H2 : Own.litOk k2 i2 0 0 = true) (v : Int × Int × Nat × Nat × Int) (hv : Own.opB op k1 i1 k2 i2 = v) (w : World) :
  Calls Try.prog 51 #[.int .i64 op, .agg #[.int .i64 k1, .int .i64 i1, .float .f64 0, .float .f64 0], .agg #[.int .i64 k2, .int .i64 i2, .float .f64 0, .float .f64 0]] w fun e w' => e = .returned (.tuple #[.agg #[.int .i64 v.1, .int .i64 v.2.1, .float .f64 v.2.2.1, .float .f64 v.2.2.2.1], .int .i64 v.2.2.2.2]) ∧ Below w.heap.size w w' := by
 unfold Own.opB at hv
 by_cases hk : k1 = k2
 ·subst hk
  rw [if_pos rfl] at hv
  rcases litOk_kind_i H1 with rfl | rfl
  ·rw [if_pos rfl] at hv
   exact impl_ValOpI op i1 i2 ⟨H1⟩ ⟨H2⟩ v ⟨hv⟩ w
  ·rw [if_neg (by decide)] at hv
   exact impl_ValOpB op i1 i2 ⟨H1⟩ ⟨H2⟩ v ⟨hv⟩ w
 ·rw [if_neg hk] at hv
  subst hv
  exact impl_ValOpN op k1 i1 k2 i2 ⟨H1⟩ ⟨H2⟩ hk w
set_option maxHeartbeats 8000000 in
set_option maxRecDepth 100000 in
theorem impl_ValTurnX (op kd iv : Int) (h1 : Own.litOk kd iv 0 0 = true) (v : Int × Int × Nat × Nat × Int) (hv : Own.turnB op kd iv = v) (w : World) :
  Calls Try.prog 53 #[.int .i64 op, .agg #[.int .i64 kd, .int .i64 iv, .float .f64 0, .float .f64 0]] w fun e w' => e = .returned (.tuple #[.agg #[.int .i64 v.1, .int .i64 v.2.1, .float .f64 v.2.2.1, .float .f64 v.2.2.2.1], .int .i64 v.2.2.2.2]) ∧ Below w.heap.size w w' := by
 have hu := Try.underlying72
 have H1 := Aside0.mk h1
 clear h1
 rcases litOk_kind_i H1.out with rfl | rfl
 ·by_cases c1 : op = 1
  ·subst c1
   obtain rfl : ((1, wrap64 (-iv), 0, 0, 0) : Int × Int × Nat × Nat × Int) = v := by rw [← hv]; simp [Own.turnB]
   clear hv
   go_enter Try.func53, Try.ntmps53
   go_wp2_with (first
    | (go_at_call 67; (with_reducible refine (impl_ValOkX 1 iv H1.out _).mono ?_); rintro e w5 ⟨rfl, rfl⟩))
   refine ret72_i rfl (w.heap.size + 1) (1, wrap64 (-iv), 0, 0, 0) ?_ rfl rfl rfl ?_ <;> first | ((repeat (first | (with_reducible exact blk3_i _ _ _ _) | (with_reducible exact blk2_i _ _ _) | (with_reducible exact blk_new _ _) | (with_reducible refine blk_alloc ?_ _))); done) | (repeat (with_reducible first | exact Below.refl _ _ | apply below_alloc | apply pw_below_drewN | apply below_drew1))
  by_cases c2 : op = 2
  ·subst c2
   obtain rfl : ((0, 0, 0, 0, 1) : Int × Int × Nat × Nat × Int) = v := by rw [← hv]; simp [Own.turnB]
   clear hv
   go_enter Try.func53, Try.ntmps53
   go_wp2_with (first
    | (go_at_call 67; (with_reducible refine (impl_ValOkX 1 iv H1.out _).mono ?_); rintro e w5 ⟨rfl, rfl⟩))
   refine ret72_i rfl (w.heap.size + 1) (0, 0, 0, 0, 1) ?_ rfl rfl rfl ?_ <;> first | ((repeat (first | (with_reducible exact blk3_i _ _ _ _) | (with_reducible exact blk2_i _ _ _) | (with_reducible exact blk_new _ _) | (with_reducible refine blk_alloc ?_ _))); done) | (repeat (with_reducible first | exact Below.refl _ _ | apply below_alloc | apply pw_below_drewN | apply below_drew1))
  by_cases c3 : op = 3
  ·subst c3
   obtain rfl : ((0, 0, 0, 0, 1) : Int × Int × Nat × Nat × Int) = v := by rw [← hv]; simp [Own.turnB]
   clear hv
   go_enter Try.func53, Try.ntmps53
   go_wp2_with (first
    | (go_at_call 67; (with_reducible refine (impl_ValOkX 1 iv H1.out _).mono ?_); rintro e w5 ⟨rfl, rfl⟩))
   refine ret72_i rfl (w.heap.size + 1) (0, 0, 0, 0, 1) ?_ rfl rfl rfl ?_ <;> first | ((repeat (first | (with_reducible exact blk3_i _ _ _ _) | (with_reducible exact blk2_i _ _ _) | (with_reducible exact blk_new _ _) | (with_reducible refine blk_alloc ?_ _))); done) | (repeat (with_reducible first | exact Below.refl _ _ | apply below_alloc | apply pw_below_drewN | apply below_drew1))
  by_cases c4 : op = 4
  ·subst c4
   obtain rfl : ((0, 0, 0, 0, 1) : Int × Int × Nat × Nat × Int) = v := by rw [← hv]; simp [Own.turnB]
   clear hv
   go_enter Try.func53, Try.ntmps53
   go_wp2_with (first
    | (go_at_call 67; (with_reducible refine (impl_ValOkX 1 iv H1.out _).mono ?_); rintro e w5 ⟨rfl, rfl⟩))
   refine ret72_i rfl (w.heap.size + 1) (0, 0, 0, 0, 1) ?_ rfl rfl rfl ?_ <;> first | ((repeat (first | (with_reducible exact blk3_i _ _ _ _) | (with_reducible exact blk2_i _ _ _) | (with_reducible exact blk_new _ _) | (with_reducible refine blk_alloc ?_ _))); done) | (repeat (with_reducible first | exact Below.refl _ _ | apply below_alloc | apply pw_below_drewN | apply below_drew1))
  by_cases c5 : op = 5
  ·subst c5
   obtain rfl : ((2, 0, floatOfInt .f64 iv, 0, 0) : Int × Int × Nat × Nat × Int) = v := by rw [← hv]; simp [Own.turnB]
   clear hv
   go_enter Try.func53, Try.ntmps53
   go_wp2_with (first
    | (go_at_call 67; (with_reducible refine (impl_ValOkX 1 iv H1.out _).mono ?_); rintro e w5 ⟨rfl, rfl⟩)
    | (go_at_call 72; (with_reducible refine (realX _ _).mono ?_); rintro e w5 ⟨rfl, rfl⟩))
   refine ret72_i rfl (w.heap.size + 1) (2, 0, floatOfInt .f64 iv, 0, 0) ?_ rfl rfl rfl ?_ <;> first | ((repeat (first | (with_reducible exact blk3_i _ _ _ _) | (with_reducible exact blk2_i _ _ _) | (with_reducible exact blk_new _ _) | (with_reducible refine blk_alloc ?_ _))); done) | (repeat (with_reducible first | exact Below.refl _ _ | apply below_alloc | apply pw_below_drewN | apply below_drew1))
  by_cases c6 : op = 6
  ·subst c6
   obtain rfl : ((0, 0, 0, 0, 1) : Int × Int × Nat × Nat × Int) = v := by rw [← hv]; simp [Own.turnB]
   clear hv
   go_enter Try.func53, Try.ntmps53
   go_wp2_with (first
    | (go_at_call 67; (with_reducible refine (impl_ValOkX 1 iv H1.out _).mono ?_); rintro e w5 ⟨rfl, rfl⟩))
   refine ret72_i rfl (w.heap.size + 1) (0, 0, 0, 0, 1) ?_ rfl rfl rfl ?_ <;> first | ((repeat (first | (with_reducible exact blk3_i _ _ _ _) | (with_reducible exact blk2_i _ _ _) | (with_reducible exact blk_new _ _) | (with_reducible refine blk_alloc ?_ _))); done) | (repeat (with_reducible first | exact Below.refl _ _ | apply below_alloc | apply pw_below_drewN | apply below_drew1))
  have n1 : (op == 1) = false := beq_eq_false_iff_ne.2 c1
  have n2 : (op == 2) = false := beq_eq_false_iff_ne.2 c2
  have n3 : (op == 3) = false := beq_eq_false_iff_ne.2 c3
  have n4 : (op == 4) = false := beq_eq_false_iff_ne.2 c4
  have n5 : (op == 5) = false := beq_eq_false_iff_ne.2 c5
  have n6 : (op == 6) = false := beq_eq_false_iff_ne.2 c6
  obtain rfl : ((0 : Int), (0 : Int), (0 : Nat), (0 : Nat), (1 : Int)) = v := by rw [← hv]; simp [Own.turnB, c1, c2, c5]
  clear hv c1 c2 c3 c4 c5 c6
  go_enter Try.func53, Try.ntmps53
  go_wp2_with (first
   | (go_at_call 67; (with_reducible refine (impl_ValOkX 1 iv H1.out _).mono ?_); rintro e w5 ⟨rfl, rfl⟩))
  refine ret72_i rfl (w.heap.size + 1) (0, 0, 0, 0, 1) ?_ rfl rfl rfl ?_ <;> first | ((repeat (first | (with_reducible exact blk3_i _ _ _ _) | (with_reducible exact blk2_i _ _ _) | (with_reducible exact blk_new _ _) | (with_reducible refine blk_alloc ?_ _))); done) | (repeat (with_reducible first | exact Below.refl _ _ | apply below_alloc | apply pw_below_drewN | apply below_drew1))
 ·by_cases c1 : op = 1
  ·subst c1
   obtain rfl : ((0, 0, 0, 0, 1) : Int × Int × Nat × Nat × Int) = v := by rw [← hv]; simp [Own.turnB]
   clear hv
   go_enter Try.func53, Try.ntmps53
   go_wp2_with (first
    | (go_at_call 67; (with_reducible refine (impl_ValOkX 4 iv H1.out _).mono ?_); rintro e w5 ⟨rfl, rfl⟩))
   refine ret72_i rfl (w.heap.size + 1) (0, 0, 0, 0, 1) ?_ rfl rfl rfl ?_ <;> first | ((repeat (first | (with_reducible exact blk3_i _ _ _ _) | (with_reducible exact blk2_i _ _ _) | (with_reducible exact blk_new _ _) | (with_reducible refine blk_alloc ?_ _))); done) | (repeat (with_reducible first | exact Below.refl _ _ | apply below_alloc | apply pw_below_drewN | apply below_drew1))
  by_cases c2 : op = 2
  ·subst c2
   obtain ⟨y, hy⟩ : ∃ y : Int, y = if (iv == 0) = true then 1 else 0 := ⟨_, rfl⟩
   obtain rfl : ((4 : Int), y, (0 : Nat), (0 : Nat), (0 : Int)) = v := by rw [← hv, hy]; simp [Own.turnB, Own.yesB]
   have HY := Aside0.mk hy
   clear hv hy
   go_enter Try.func53, Try.ntmps53
   go_wp2_with (first
    | (go_at_call 67; (with_reducible refine (impl_ValOkX 4 iv H1.out _).mono ?_); rintro e w5 ⟨rfl, rfl⟩)
    | (go_at_call 73; (with_reducible refine (yesNoX _ y (by first | exact HY.out | simpa using HY.out) _).mono ?_); rintro e w5 ⟨rfl, rfl⟩))
   refine ret72_i rfl (w.heap.size + 1) (4, y, 0, 0, 0) ?_ rfl rfl rfl ?_ <;> first | ((repeat (first | (with_reducible exact blk3_i _ _ _ _) | (with_reducible exact blk2_i _ _ _) | (with_reducible exact blk_new _ _) | (with_reducible refine blk_alloc ?_ _))); done) | (repeat (with_reducible first | exact Below.refl _ _ | apply below_alloc | apply pw_below_drewN | apply below_drew1))
  by_cases c3 : op = 3
  ·subst c3
   obtain rfl : ((0, 0, 0, 0, 1) : Int × Int × Nat × Nat × Int) = v := by rw [← hv]; simp [Own.turnB]
   clear hv
   go_enter Try.func53, Try.ntmps53
   go_wp2_with (first
    | (go_at_call 67; (with_reducible refine (impl_ValOkX 4 iv H1.out _).mono ?_); rintro e w5 ⟨rfl, rfl⟩))
   refine ret72_i rfl (w.heap.size + 1) (0, 0, 0, 0, 1) ?_ rfl rfl rfl ?_ <;> first | ((repeat (first | (with_reducible exact blk3_i _ _ _ _) | (with_reducible exact blk2_i _ _ _) | (with_reducible exact blk_new _ _) | (with_reducible refine blk_alloc ?_ _))); done) | (repeat (with_reducible first | exact Below.refl _ _ | apply below_alloc | apply pw_below_drewN | apply below_drew1))
  by_cases c4 : op = 4
  ·subst c4
   obtain rfl : ((0, 0, 0, 0, 1) : Int × Int × Nat × Nat × Int) = v := by rw [← hv]; simp [Own.turnB]
   clear hv
   go_enter Try.func53, Try.ntmps53
   go_wp2_with (first
    | (go_at_call 67; (with_reducible refine (impl_ValOkX 4 iv H1.out _).mono ?_); rintro e w5 ⟨rfl, rfl⟩))
   refine ret72_i rfl (w.heap.size + 1) (0, 0, 0, 0, 1) ?_ rfl rfl rfl ?_ <;> first | ((repeat (first | (with_reducible exact blk3_i _ _ _ _) | (with_reducible exact blk2_i _ _ _) | (with_reducible exact blk_new _ _) | (with_reducible refine blk_alloc ?_ _))); done) | (repeat (with_reducible first | exact Below.refl _ _ | apply below_alloc | apply pw_below_drewN | apply below_drew1))
  by_cases c5 : op = 5
  ·subst c5
   obtain rfl : ((0, 0, 0, 0, 1) : Int × Int × Nat × Nat × Int) = v := by rw [← hv]; simp [Own.turnB]
   clear hv
   go_enter Try.func53, Try.ntmps53
   go_wp2_with (first
    | (go_at_call 67; (with_reducible refine (impl_ValOkX 4 iv H1.out _).mono ?_); rintro e w5 ⟨rfl, rfl⟩))
   refine ret72_i rfl (w.heap.size + 1) (0, 0, 0, 0, 1) ?_ rfl rfl rfl ?_ <;> first | ((repeat (first | (with_reducible exact blk3_i _ _ _ _) | (with_reducible exact blk2_i _ _ _) | (with_reducible exact blk_new _ _) | (with_reducible refine blk_alloc ?_ _))); done) | (repeat (with_reducible first | exact Below.refl _ _ | apply below_alloc | apply pw_below_drewN | apply below_drew1))
  by_cases c6 : op = 6
  ·subst c6
   obtain rfl : ((0, 0, 0, 0, 1) : Int × Int × Nat × Nat × Int) = v := by rw [← hv]; simp [Own.turnB]
   clear hv
   go_enter Try.func53, Try.ntmps53
   go_wp2_with (first
    | (go_at_call 67; (with_reducible refine (impl_ValOkX 4 iv H1.out _).mono ?_); rintro e w5 ⟨rfl, rfl⟩))
   refine ret72_i rfl (w.heap.size + 1) (0, 0, 0, 0, 1) ?_ rfl rfl rfl ?_ <;> first | ((repeat (first | (with_reducible exact blk3_i _ _ _ _) | (with_reducible exact blk2_i _ _ _) | (with_reducible exact blk_new _ _) | (with_reducible refine blk_alloc ?_ _))); done) | (repeat (with_reducible first | exact Below.refl _ _ | apply below_alloc | apply pw_below_drewN | apply below_drew1))
  have n1 : (op == 1) = false := beq_eq_false_iff_ne.2 c1
  have n2 : (op == 2) = false := beq_eq_false_iff_ne.2 c2
  have n3 : (op == 3) = false := beq_eq_false_iff_ne.2 c3
  have n4 : (op == 4) = false := beq_eq_false_iff_ne.2 c4
  have n5 : (op == 5) = false := beq_eq_false_iff_ne.2 c5
  have n6 : (op == 6) = false := beq_eq_false_iff_ne.2 c6
  obtain rfl : ((0 : Int), (0 : Int), (0 : Nat), (0 : Nat), (1 : Int)) = v := by rw [← hv]; simp [Own.turnB, c1, c2, c5]
  clear hv c1 c2 c3 c4 c5 c6
  go_enter Try.func53, Try.ntmps53
  go_wp2_with (first
   | (go_at_call 67; (with_reducible refine (impl_ValOkX 4 iv H1.out _).mono ?_); rintro e w5 ⟨rfl, rfl⟩))
  refine ret72_i rfl (w.heap.size + 1) (0, 0, 0, 0, 1) ?_ rfl rfl rfl ?_ <;> first | ((repeat (first | (with_reducible exact blk3_i _ _ _ _) | (with_reducible exact blk2_i _ _ _) | (with_reducible exact blk_new _ _) | (with_reducible refine blk_alloc ?_ _))); done) | (repeat (with_reducible first | exact Below.refl _ _ | apply below_alloc | apply pw_below_drewN | apply below_drew1))
theorem retCell {fn : Func} {p : Tmp} (hr : fn.results = #[.cell p 72]) {a : Act} {W W' : World} (g : Nat) (k i : Int) (hb : W.heap[g]? = some (.cells #[.int .i64 k, .int .i64 i, .float .f64 0, .float .f64 0] 72 (0, 0))) (hp : a.tmps.getD p undef = .pointer (some ⟨g, 0, none⟩)) (hd : a.defers = []) (hB : W = W') :
  bodyPost Try.prog fn (fun e w' => e = .returned (.agg #[.int .i64 k, .int .i64 i, .float .f64 0, .float .f64 0]) ∧ w' = W') .ret a W :=
 bodyPost_ret (results_cell_row hr _ _ g 72 _ (0, 0) _ hp hb Try.underlying72 rfl (by kernel_rfl)) hd ⟨rfl, hB⟩
set_option maxHeartbeats 8000000 in
set_option maxRecDepth 100000 in
theorem valueX (k : Int) (s : ByteArray) (i : Int) (A : Option Addr) (n c : Nat) (hk : Own.isLit k = true) (w : World) :
  Calls Try.prog 52 #[.agg #[.int .i64 k, .string s, .int .i64 i, .slice A n c]] w fun e w' => e = .returned (.agg #[.int .i64 (Own.lk k), .int .i64 i, .float .f64 0, .float .f64 0]) ∧ w' = (w.alloc (.cells #[.int .i64 k, .string s, .int .i64 i, .slice A n c] 56)).alloc (.cells #[.int .i64 (Own.lk k), .int .i64 i, .float .f64 0, .float .f64 0] 72) := by
 have hu := Try.underlying72
 have hu2 := Try.underlying56
 have h := of_decide_eq_true hk
 clear hk
 rcases h with rfl | rfl
 all_goals
  first | rw [show Own.lk 1 = 1 from rfl] | rw [show Own.lk 3 = 4 from rfl]
  go_enter Try.func52, Try.ntmps52
  go_wp2
  refine retCell rfl (w.heap.size + 1) _ _ ?_ rfl rfl ?_ <;> first | (with_reducible exact blk2_i _ _ _) | rfl
set_option maxHeartbeats 8000000 in
set_option maxRecDepth 100000 in
theorem litX (gf : Nat) (ad : Addr) (n c : Nat) (i k : Int) (w : World) (hcell : w.cell? ⟨gf, 1, none⟩ = some (.slice (some ad) n c)) (h0 : 0 ≤ i) (h1 : i < n) (hx : w.cell? (ad.add (i.toNat * 4)) = some (.int .i64 k)) :
  Calls Try.prog 50 #[.pointer (some ⟨gf, 0, none⟩), .int .i64 i] w fun e w' => e = .returned (.bool (Own.isLit k)) ∧ w = w' := by
 have hu := Try.underlying45
 have hu2 := Try.underlying56
 have hu3 := Try.underlying29
 replace h0 := eq_true h0
 replace h1 := eq_true h1
 by_cases c1 : k = 1
 ·subst c1
  go_enter Try.func50, Try.ntmps50
  go_wp2
  go_ret
  exact ⟨rfl, rfl⟩
 ·have b1 : (k == 1) = false := beq_eq_false_iff_ne.2 c1
  have e : Own.isLit k = (k == 3) := by unfold Own.isLit; by_cases d : k = 3 <;> simp [c1, d]
  rw [e]
  clear c1 e
  go_enter Try.func50, Try.ntmps50
  go_wp2
  go_ret
  exact ⟨rfl, rfl⟩
def preB (n0 n2 k0 i0 k1 i1 : Int) : Int × Int × Nat × Nat × Int :=
 if n0 = 8 then (if Own.isLit k0 = true ∧ Own.isLit k1 = true then Own.opB n2 (Own.lk k0) i0 (Own.lk k1) i1 else (0, 0, 0, 0, 1))
 else if n0 = 9 then (if Own.isLit k0 = true then Own.turnB n2 (Own.lk k0) i0 else (0, 0, 0, 0, 1)) else (0, 0, 0, 0, 1)
theorem preB_small (n0 n2 k0 i0 k1 i1 : Int) : Own.smallB n0 n2 k0 i0 k1 i1 = Own.leafB (preB n0 n2 k0 i0 k1 i1) := by
 unfold Own.smallB preB
 by_cases h8 : n0 = 8
 ·rw [if_pos h8, if_pos h8]
  split <;> rfl
 ·rw [if_neg h8, if_neg h8]
  by_cases h9 : n0 = 9
  ·rw [if_pos h9, if_pos h9]
   split <;> rfl
  ·rw [if_neg h9, if_neg h9]
   rfl
theorem valueB (k : Int) (s : ByteArray) (i : Int) (A : Option Addr) (n c : Nat) (hk : Own.isLit k = true) (w : World) :
  Calls Try.prog 52 #[.agg #[.int .i64 k, .string s, .int .i64 i, .slice A n c]] w fun e w' => e = .returned (.agg #[.int .i64 (Own.lk k), .int .i64 i, .float .f64 0, .float .f64 0]) ∧ Below w.heap.size w w' :=
 (valueX k s i A n c hk w).mono fun e w' h => ⟨h.1, by rw [h.2]; exact below_alloc (below_alloc (Below.refl _ _) _) _⟩
theorem farN_i {W : World} {g g' : Nat} {o : Obj} (hn : g ≠ g') (h : W.heap[g]? = some o) {d0 d1 d2 d3 : Value} : ((((W.setCell ⟨g', 0, none⟩ d0).setCell ⟨g', 1, none⟩ d1).setCell ⟨g', 2, none⟩ d2).setCell ⟨g', 3, none⟩ d3).heap[g]? = some o :=
 (Below.heap_setCell _ _ _ g hn).trans ((Below.heap_setCell _ _ _ g hn).trans ((Below.heap_setCell _ _ _ g hn).trans ((Below.heap_setCell _ _ _ g hn).trans h)))
theorem farC {W : World} {g : Nat} {a : Addr} (hn : a.block ≠ g) {d0 d1 d2 d3 : Value} : ((((W.setCell ⟨g, 0, none⟩ d0).setCell ⟨g, 1, none⟩ d1).setCell ⟨g, 2, none⟩ d2).setCell ⟨g, 3, none⟩ d3).cell? a = W.cell? a :=
 World.cell?_of_block ((Below.heap_setCell _ _ _ _ hn).trans ((Below.heap_setCell _ _ _ _ hn).trans ((Below.heap_setCell _ _ _ _ hn).trans (Below.heap_setCell _ _ _ _ hn))))
set_option maxHeartbeats 2000000 in
set_option maxRecDepth 100000 in
theorem folded32 (gf : Nat) (X : Option Addr) (cx : Nat) (xs : List S56) (n0 : Int) (n1 : ByteArray) (n2 : Int) (A3 : Option Addr) (c3 : Nat) (ks : List Int) (w : World) (hg : w.cell? ⟨gf, 1, none⟩ = some (.slice X xs.length cx)) (hX : Kd.C k56 w X xs.length xs) (hK : Kd.C (Kd.int .i64) w A3 ks.length ks) (h8 : n0 = 8 → 2 ≤ ks.length) (h9 : n0 = 9 → 1 ≤ ks.length) (hin : n0 = 8 ∨ n0 = 9 → ∀ x ∈ ks, 0 ≤ x ∧ x < (xs.length : Int))
  (k0 i0 k1 i1 : Int) (e0 : k0 = (rd_T56 xs (rd ks 0)).f0) (e1 : i0 = (rd_T56 xs (rd ks 0)).f2) (e2 : k1 = (rd_T56 xs (rd ks 1)).f0) (e3 : i1 = (rd_T56 xs (rd ks 1)).f2) (hl0 : Own.litIn k0 i0 = true) (hl1 : Own.litIn k1 i1 = true) :
  Calls Try.prog 32 #[.pointer (some ⟨gf, 0, none⟩), .agg #[.int .i64 n0, .string n1, .int .i64 n2, .slice A3 ks.length c3]] w fun e w' => e = .returned (match Own.smallB n0 n2 k0 i0 k1 i1 with
   | none => .tuple #[.agg #[.int .i64 n0, .string n1, .int .i64 n2, .slice A3 ks.length c3], .int .i64 0]
   | some p => .tuple #[.agg #[.int .i64 p.1, .string ⟨#[]⟩, .int .i64 p.2, .slice none 0 0], .int .i64 (ks.length : Int)]) ∧ Below w.heap.size w w' := by
 have hu := Try.underlying72
 have hu2 := Try.underlying56
 have hu3 := Try.underlying45
 have hu4 := Try.underlying29
 rw [preB_small]
 obtain ⟨v, hv⟩ : ∃ v, v = preB n0 n2 k0 i0 k1 i1 := ⟨_, rfl⟩
 rw [← hv]
 obtain ⟨EV, hev⟩ : ∃ EV : Value, EV = (match Own.leafB v with
   | none => .tuple #[.agg #[.int .i64 n0, .string n1, .int .i64 n2, .slice A3 ks.length c3], .int .i64 0]
   | some p => .tuple #[.agg #[.int .i64 p.1, .string ⟨#[]⟩, .int .i64 p.2, .slice none 0 0], .int .i64 (ks.length : Int)]) := ⟨_, rfl⟩
 rw [← hev]
 have HEV := Aside0.mk hev
 clear hev
 have HV := Aside0.mk hv
 have HG := Aside0.mk hg
 have HX := Aside0.mk hX
 have HK := Aside0.mk hK
 have H8 := Aside0.mk h8
 have H9 := Aside0.mk h9
 have HI := Aside0.mk hin
 have E0 := Aside0.mk e0
 have E1 := Aside0.mk e1
 have E2 := Aside0.mk e2
 have E3 := Aside0.mk e3
 have L0 := Aside0.mk hl0
 have L1 := Aside0.mk hl1
 clear hv hg hX hK h8 h9 hin e0 e1 e2 e3 hl0 hl1
 go_enter Try.func32, Try.ntmps32
 go_upto_block 0 with (fail)
 obtain ⟨w1, hw1⟩ : ∃ w1, w1 = ((w.alloc (.cells #[.int .i64 n0, .string n1, .int .i64 n2, .slice A3 ks.length c3] 56)).alloc (.cells #[.int .i64 0, .string ⟨#[]⟩, .int .i64 0, .slice none 0 0] 56)).alloc (.cells #[.int .i64 0, .int .i64 0, .float .f64 0, .float .f64 0] 72) := ⟨_, rfl⟩
 rw [← hw1]
 have hb1 : Below w.heap.size w w1 := by rw [hw1]; exact below_alloc (below_alloc (below_alloc (Below.refl _ _) _) _) _
 have K3 : Aside0 (w1.heap[w.heap.size]? = some (.cells #[.int .i64 n0, .string n1, .int .i64 n2, .slice A3 ks.length c3] 56 (0, 0))) := ⟨by rw [hw1]; exact blk_alloc (blk_alloc (blk_new _ _) _) _⟩
 have K4 : Aside0 (w1.heap[w.heap.size + 1]? = some (.cells #[.int .i64 0, .string ⟨#[]⟩, .int .i64 0, .slice none 0 0] 56 (0, 0))) := ⟨by rw [hw1]; exact blk_alloc (blk2_i _ _ _) _⟩
 have K6 : Aside0 (w1.heap[w.heap.size + 1 + 1]? = some (.cells #[.int .i64 0, .int .i64 0, .float .f64 0, .float .f64 0] 72 (0, 0))) := ⟨by rw [hw1]; exact blk3_i _ _ _ _⟩
 have HB1 := Aside0.mk hb1
 have g1 := pw_cell_below hb1 HG.out
 have hgf : gf < w.heap.size := World.block_lt_of_cell? w _ HG.out
 have HGF := Aside0.mk hgf
 clear hw1 hb1 hgf
 have b30 := (blk_cell K3.out 0).trans rfl
 have b31 := (blk_cell K3.out 1).trans rfl
 have b32 := (blk_cell K3.out 2).trans rfl
 have b33 := (blk_cell K3.out 3).trans rfl
 go_cut [7] (fun v7 wc => v7 = .int .i64 v.2.2.2.2 ∧ Aside0 (wc.heap[w.heap.size]? = some (.cells #[.int .i64 n0, .string n1, .int .i64 n2, .slice A3 ks.length c3] 56 (0, 0))) ∧ Aside0 (wc.heap[w.heap.size + 1]? = some (.cells #[.int .i64 0, .string ⟨#[]⟩, .int .i64 0, .slice none 0 0] 56 (0, 0))) ∧ Aside0 (wc.heap[w.heap.size + 1 + 1]? = some (.cells #[.int .i64 v.1, .int .i64 v.2.1, .float .f64 v.2.2.1, .float .f64 v.2.2.2.1] 72 (0, 0))) ∧ Aside0 (Below w.heap.size w wc))
 case first =>
  by_cases hn : n0 = 8 ∨ n0 = 9
  rotate_left
  ·have h8 : n0 ≠ 8 := fun e => hn (.inl e)
   have h9 : n0 ≠ 9 := fun e => hn (.inr e)
   have d8 : (n0 == 8) = false := beq_eq_false_iff_ne.2 h8
   have d9 : (n0 == 9) = false := beq_eq_false_iff_ne.2 h9
   have ev : v = (0, 0, 0, 0, 1) := by rw [HV.out]; unfold preB; rw [if_neg h8, if_neg h9]
   subst ev
   clear hn h8 h9
   go_wp2
   go_meet
   case rel => exact ⟨rfl, K3, K4, K6, HB1⟩
  have hlen : 1 ≤ ks.length := by
   rcases hn with e | e
   ·have := H8.out e; omega
   ·exact H9.out e
  have hI := HI.out hn
  obtain ⟨ak, eak, hk0⟩ := Kd.at_int HK.out 0 (by omega) (by omega)
  cases eak
  have hin0 := hI (rd ks 0) (by unfold rd; rw [List.getD_eq_getElem?_getD, List.getElem?_eq_getElem (by exact hlen)]; exact List.getElem_mem _)
  have hk0' : w.cell? ak = some (.int .i64 (rd ks 0)) := by
   have h := hk0
   rw [show ((0 : Int)).toNat = 0 from rfl, Addr.add_zero'] at h
   exact h
  obtain ⟨nd, NA0, nc0, end_, hx0, hx1, hx2, hx3, hl3, hC3⟩ := at_T56 HX.out (rd ks 0) hin0.1 hin0.2
  cases end_
  rw [← E0.out] at hx0
  rw [← E1.out] at hx2
  generalize (rd_T56 xs (rd ks 0)).f1 = s0 at hx1
  generalize (rd_T56 xs (rd ks 0)).f3.length = m0 at hx3
  obtain ⟨x0, hxe⟩ : ∃ x0, x0 = rd ks 0 := ⟨_, rfl⟩
  rw [← hxe] at hx0 hx1 hx2 hx3 hin0 hk0'
  have HX0 := Aside0.mk (show ∀ w', Below w1.heap.size w1 w' → w'.cell? ak = some (.int .i64 x0) ∧ w'.cell? (nd.add (x0.toNat * 4)) = some (.int .i64 k0) ∧ w'.cell? ⟨(nd.add (x0.toNat * 4)).block, (nd.add (x0.toNat * 4)).off + 1, none⟩ = some (.string s0) ∧ w'.cell? ⟨(nd.add (x0.toNat * 4)).block, (nd.add (x0.toNat * 4)).off + 2, none⟩ = some (.int .i64 i0) ∧ w'.cell? ⟨(nd.add (x0.toNat * 4)).block, (nd.add (x0.toNat * 4)).off + 3, none⟩ = some (.slice NA0 m0 nc0) from fun w' hb => by
   have hb' := below_step HB1.out hb
   exact ⟨pw_cell_below hb' hk0', pw_cell_below hb' hx0, pw_cell_below hb' hx1, pw_cell_below hb' hx2, pw_cell_below hb' hx3⟩)
  have HLT0 := Aside0.mk (show ak.block < w.heap.size ∧ (nd.add (x0.toNat * 4)).block < w.heap.size from ⟨World.block_lt_of_cell? w _ hk0', World.block_lt_of_cell? w _ hx0⟩)
  obtain ⟨z0, z1, z2, z3, z4⟩ := HX0.out w1 (Below.refl _ _)
  have HIN0 := Aside0.mk hin0
  have HLEN := Aside0.mk hlen
  clear hk0 hk0' hx0 hx1 hx2 hx3 hl3 hC3 hI hxe
  have u0 : (0 : Int) < (ks.length : Int) := by omega
  have u0' : 0 < ks.length := hlen
  clear hlen hin0
  have j0 := eq_true HIN0.out.1
  have j1 := eq_true HIN0.out.2
  cases hq0 : Own.isLit k0 with
  | false =>
   have ev : v = (0, 0, 0, 0, 1) := by
    rw [HV.out]
    unfold preB
    rw [hq0]
    rcases hn with e | e <;> simp [e]
   subst ev
   have HQ0 := Aside0.mk hq0
   clear hq0
   rcases hn with rfl | rfl
   all_goals
    go_wp2_with (go_at_call 50; (with_reducible refine (litX gf nd xs.length cx x0 k0 _ g1 HIN0.out.1 HIN0.out.2 z1).mono ?_); rw [HQ0.out]; rintro e w5 ⟨rfl, rfl⟩)
    go_meet
    case rel => exact ⟨rfl, K3, K4, K6, HB1⟩
  | true =>
   have HQ0 := Aside0.mk hq0
   clear hq0
   rcases hn with rfl | rfl
   rotate_left
   ·have HVV : Aside0 (Own.turnB n2 (Own.lk k0) i0 = v) := ⟨by rw [HV.out]; unfold preB; rw [HQ0.out]; simp⟩
    have HLL := Aside0.mk (litIn_ok_i L0.out HQ0.out)
    have HS : Aside0 (∀ w', Below w1.heap.size w1 w' → (w'.cell? ⟨w.heap.size, 2, none⟩ = some (.int .i64 n2) ∧ w'.cell? ⟨w.heap.size, 3, none⟩ = some (.slice (some ak) ks.length c3) ∧ w'.cell? ⟨gf, 1, none⟩ = some (.slice (some nd) xs.length cx) ∧ w'.cell? ak = some (.int .i64 x0) ∧ w'.cell? (nd.add (x0.toNat * 4)) = some (.int .i64 k0) ∧ w'.cell? ⟨(nd.add (x0.toNat * 4)).block, (nd.add (x0.toNat * 4)).off + 1, none⟩ = some (.string s0) ∧ w'.cell? ⟨(nd.add (x0.toNat * 4)).block, (nd.add (x0.toNat * 4)).off + 2, none⟩ = some (.int .i64 i0) ∧ w'.cell? ⟨(nd.add (x0.toNat * 4)).block, (nd.add (x0.toNat * 4)).off + 3, none⟩ = some (.slice NA0 m0 nc0))) := ⟨fun w' hb => by
     exact ⟨(blk_cell (blk_below K3.out hb) 2).trans rfl, (blk_cell (blk_below K3.out hb) 3).trans rfl, pw_cell_below (below_step HB1.out hb) HG.out, (HX0.out w' hb).1, (HX0.out w' hb).2.1, (HX0.out w' hb).2.2.1, (HX0.out w' hb).2.2.2.1, (HX0.out w' hb).2.2.2.2⟩⟩
    have HS2 : Aside0 (∀ (d0 d1 d2 d3 : Value) (w'' : World), Below w1.heap.size w1 w'' → ∀ w', w' = (((w''.setCell ⟨w.heap.size + 1 + 1, 0, none⟩ d0).setCell ⟨w.heap.size + 1 + 1, 1, none⟩ d1).setCell ⟨w.heap.size + 1 + 1, 2, none⟩ d2).setCell ⟨w.heap.size + 1 + 1, 3, none⟩ d3 → (w'.cell? ⟨w.heap.size, 2, none⟩ = some (.int .i64 n2) ∧ w'.cell? ⟨w.heap.size, 3, none⟩ = some (.slice (some ak) ks.length c3) ∧ w'.cell? ⟨gf, 1, none⟩ = some (.slice (some nd) xs.length cx) ∧ w'.cell? ak = some (.int .i64 x0) ∧ w'.cell? (nd.add (x0.toNat * 4)) = some (.int .i64 k0) ∧ w'.cell? ⟨(nd.add (x0.toNat * 4)).block, (nd.add (x0.toNat * 4)).off + 1, none⟩ = some (.string s0) ∧ w'.cell? ⟨(nd.add (x0.toNat * 4)).block, (nd.add (x0.toNat * 4)).off + 2, none⟩ = some (.int .i64 i0) ∧ w'.cell? ⟨(nd.add (x0.toNat * 4)).block, (nd.add (x0.toNat * 4)).off + 3, none⟩ = some (.slice NA0 m0 nc0))) := ⟨fun d0 d1 d2 d3 w'' hb w' he => by
     subst he
     have h := HS.out w'' hb
     refine ⟨(farC (by first | exact (show w.heap.size ≠ w.heap.size + 1 + 1 by omega) | exact (show gf ≠ w.heap.size + 1 + 1 by have := HGF.out; omega) | exact (show ak.block ≠ w.heap.size + 1 + 1 by have := HLT0.out; omega) | exact (show (nd.add (x0.toNat * 4)).block ≠ w.heap.size + 1 + 1 by have := HLT0.out; omega))).trans h.1, (farC (by first | exact (show w.heap.size ≠ w.heap.size + 1 + 1 by omega) | exact (show gf ≠ w.heap.size + 1 + 1 by have := HGF.out; omega) | exact (show ak.block ≠ w.heap.size + 1 + 1 by have := HLT0.out; omega) | exact (show (nd.add (x0.toNat * 4)).block ≠ w.heap.size + 1 + 1 by have := HLT0.out; omega))).trans h.2.1, (farC (by first | exact (show w.heap.size ≠ w.heap.size + 1 + 1 by omega) | exact (show gf ≠ w.heap.size + 1 + 1 by have := HGF.out; omega) | exact (show ak.block ≠ w.heap.size + 1 + 1 by have := HLT0.out; omega) | exact (show (nd.add (x0.toNat * 4)).block ≠ w.heap.size + 1 + 1 by have := HLT0.out; omega))).trans h.2.2.1, (farC (by first | exact (show w.heap.size ≠ w.heap.size + 1 + 1 by omega) | exact (show gf ≠ w.heap.size + 1 + 1 by have := HGF.out; omega) | exact (show ak.block ≠ w.heap.size + 1 + 1 by have := HLT0.out; omega) | exact (show (nd.add (x0.toNat * 4)).block ≠ w.heap.size + 1 + 1 by have := HLT0.out; omega))).trans h.2.2.2.1, (farC (by first | exact (show w.heap.size ≠ w.heap.size + 1 + 1 by omega) | exact (show gf ≠ w.heap.size + 1 + 1 by have := HGF.out; omega) | exact (show ak.block ≠ w.heap.size + 1 + 1 by have := HLT0.out; omega) | exact (show (nd.add (x0.toNat * 4)).block ≠ w.heap.size + 1 + 1 by have := HLT0.out; omega))).trans h.2.2.2.2.1, (farC (by first | exact (show w.heap.size ≠ w.heap.size + 1 + 1 by omega) | exact (show gf ≠ w.heap.size + 1 + 1 by have := HGF.out; omega) | exact (show ak.block ≠ w.heap.size + 1 + 1 by have := HLT0.out; omega) | exact (show (nd.add (x0.toNat * 4)).block ≠ w.heap.size + 1 + 1 by have := HLT0.out; omega))).trans h.2.2.2.2.2.1, (farC (by first | exact (show w.heap.size ≠ w.heap.size + 1 + 1 by omega) | exact (show gf ≠ w.heap.size + 1 + 1 by have := HGF.out; omega) | exact (show ak.block ≠ w.heap.size + 1 + 1 by have := HLT0.out; omega) | exact (show (nd.add (x0.toNat * 4)).block ≠ w.heap.size + 1 + 1 by have := HLT0.out; omega))).trans h.2.2.2.2.2.2.1, (farC (by first | exact (show w.heap.size ≠ w.heap.size + 1 + 1 by omega) | exact (show gf ≠ w.heap.size + 1 + 1 by have := HGF.out; omega) | exact (show ak.block ≠ w.heap.size + 1 + 1 by have := HLT0.out; omega) | exact (show (nd.add (x0.toNat * 4)).block ≠ w.heap.size + 1 + 1 by have := HLT0.out; omega))).trans h.2.2.2.2.2.2.2⟩⟩
    go_upto_region 5 with (go_at_call 50; (with_reducible refine (litX gf nd xs.length cx x0 k0 _ g1 HIN0.out.1 HIN0.out.2 z1).mono ?_); rw [HQ0.out]; rintro e w5 ⟨rfl, rfl⟩)
    go_region_held3 (fun w' => w'.cell? ⟨w.heap.size, 2, none⟩ = some (.int .i64 n2) ∧ w'.cell? ⟨w.heap.size, 3, none⟩ = some (.slice (some ak) ks.length c3) ∧ w'.cell? ⟨gf, 1, none⟩ = some (.slice (some nd) xs.length cx) ∧ w'.cell? ak = some (.int .i64 x0) ∧ w'.cell? (nd.add (x0.toNat * 4)) = some (.int .i64 k0) ∧ w'.cell? ⟨(nd.add (x0.toNat * 4)).block, (nd.add (x0.toNat * 4)).off + 1, none⟩ = some (.string s0) ∧ w'.cell? ⟨(nd.add (x0.toNat * 4)).block, (nd.add (x0.toNat * 4)).off + 2, none⟩ = some (.int .i64 i0) ∧ w'.cell? ⟨(nd.add (x0.toNat * 4)).block, (nd.add (x0.toNat * 4)).off + 3, none⟩ = some (.slice NA0 m0 nc0)) (first | (with_reducible exact HS2.out _ _ _ _ _ (by repeat (with_reducible first | exact Below.refl _ _ | apply pw_below_drewN | apply below_drew1 | refine below_step ?_ hb6 | refine below_step ?_ hb5)) _ rfl) | exact HS.out _ (by repeat (with_reducible first | exact Below.refl _ _ | apply pw_below_drewN | apply below_drew1 | refine below_step ?_ hb6 | refine below_step ?_ hb5))) (first | (go_at_call 52; (with_reducible refine (valueB k0 s0 i0 NA0 m0 nc0 HQ0.out _).mono ?_); rintro e w5 ⟨rfl, hb5⟩) | (go_at_call 53; (with_reducible refine (impl_ValTurnX n2 (Own.lk k0) i0 HLL.out v HVV.out _).mono ?_); rintro e w6 ⟨rfl, hb6⟩; have hq6 := blk_below K6.out (show Below w1.heap.size w1 w6 from (by repeat (with_reducible first | exact Below.refl _ _ | apply pw_below_drewN | apply below_drew1 | refine below_step ?_ hb6 | refine below_step ?_ hb5))); obtain ⟨f0, f1, f2, f3, f4, f5, f6, f7⟩ := cells4_i hq6))
    go_wp2
    go_meet
    case rel => exact ⟨rfl, ⟨farN_i (by omega) (blk_below K3.out (show Below w1.heap.size w1 w6 from by repeat (with_reducible first | exact Below.refl _ _ | apply pw_below_drewN | apply below_drew1 | refine below_step ?_ hb6 | refine below_step ?_ hb5)))⟩, ⟨farN_i (by omega) (blk_below K4.out (show Below w1.heap.size w1 w6 from by repeat (with_reducible first | exact Below.refl _ _ | apply pw_below_drewN | apply below_drew1 | refine below_step ?_ hb6 | refine below_step ?_ hb5)))⟩, ⟨put4_i (blk_below K6.out (show Below w1.heap.size w1 w6 from by repeat (with_reducible first | exact Below.refl _ _ | apply pw_below_drewN | apply below_drew1 | refine below_step ?_ hb6 | refine below_step ?_ hb5))) _ _ _ _⟩, ⟨below_set (below_set (below_set (below_set (below_step HB1.out (show Below w1.heap.size w1 w6 from by repeat (with_reducible first | exact Below.refl _ _ | apply pw_below_drewN | apply below_drew1 | refine below_step ?_ hb6 | refine below_step ?_ hb5))) (by show w.heap.size ≤ w.heap.size + 1 + 1; omega)) (by show w.heap.size ≤ w.heap.size + 1 + 1; omega)) (by show w.heap.size ≤ w.heap.size + 1 + 1; omega)) (by show w.heap.size ≤ w.heap.size + 1 + 1; omega)⟩⟩
   ·have hlen2 := H8.out rfl
    obtain ⟨ak', eak, hk1⟩ := Kd.at_int HK.out 1 (by omega) (by omega)
    injection eak with eak
    subst eak
    have hI := HI.out (.inl rfl)
    have hin1 := hI (rd ks 1) (by unfold rd; rw [List.getD_eq_getElem?_getD, List.getElem?_eq_getElem (by exact hlen2)]; exact List.getElem_mem _)
    have hk1' : w.cell? ⟨ak.block, ak.off + 1, none⟩ = some (.int .i64 (rd ks 1)) := hk1
    obtain ⟨nd', NA1, nc1, end_, hx0, hx1, hx2, hx3, hl3, hC3⟩ := at_T56 HX.out (rd ks 1) hin1.1 hin1.2
    injection end_ with end_
    subst end_
    rw [← E2.out] at hx0
    rw [← E3.out] at hx2
    generalize (rd_T56 xs (rd ks 1)).f1 = s1 at hx1
    generalize (rd_T56 xs (rd ks 1)).f3.length = m1 at hx3
    obtain ⟨x1, hxe⟩ : ∃ x1, x1 = rd ks 1 := ⟨_, rfl⟩
    rw [← hxe] at hx0 hx1 hx2 hx3 hin1 hk1'
    have HX1 := Aside0.mk (show ∀ w', Below w1.heap.size w1 w' → w'.cell? ⟨ak.block, ak.off + 1, none⟩ = some (.int .i64 x1) ∧ w'.cell? (nd.add (x1.toNat * 4)) = some (.int .i64 k1) ∧ w'.cell? ⟨(nd.add (x1.toNat * 4)).block, (nd.add (x1.toNat * 4)).off + 1, none⟩ = some (.string s1) ∧ w'.cell? ⟨(nd.add (x1.toNat * 4)).block, (nd.add (x1.toNat * 4)).off + 2, none⟩ = some (.int .i64 i1) ∧ w'.cell? ⟨(nd.add (x1.toNat * 4)).block, (nd.add (x1.toNat * 4)).off + 3, none⟩ = some (.slice NA1 m1 nc1) from fun w' hb => by
     have hb' := below_step HB1.out hb
     exact ⟨pw_cell_below hb' hk1', pw_cell_below hb' hx0, pw_cell_below hb' hx1, pw_cell_below hb' hx2, pw_cell_below hb' hx3⟩)
    have HLT1 := Aside0.mk (show (nd.add (x1.toNat * 4)).block < w.heap.size from World.block_lt_of_cell? w _ hx0)
    obtain ⟨y0, y1, y2, y3, y4⟩ := HX1.out w1 (Below.refl _ _)
    have HIN1 := Aside0.mk hin1
    have u1 : (1 : Int) < (ks.length : Int) := by omega
    have u1' : 1 < ks.length := hlen2
    clear hk1 hk1' hx0 hx1 hx2 hx3 hl3 hC3 hI hxe hlen2 hin1
    have j2 := eq_true HIN1.out.1
    have j3 := eq_true HIN1.out.2
    cases hq1 : Own.isLit k1 with
    | false =>
     have ev : v = (0, 0, 0, 0, 1) := by
      rw [HV.out]
      unfold preB
      rw [hq1]
      simp
     subst ev
     have HQ1 := Aside0.mk hq1
     clear hq1
     go_wp2_with (first
      | (go_at_call 50; (with_reducible refine (litX gf nd xs.length cx x0 k0 _ g1 HIN0.out.1 HIN0.out.2 z1).mono ?_); rw [HQ0.out]; rintro e w5 ⟨rfl, rfl⟩)
      | (go_at_call 50; (with_reducible refine (litX gf nd xs.length cx x1 k1 _ g1 HIN1.out.1 HIN1.out.2 y1).mono ?_); rw [HQ1.out]; rintro e w5 ⟨rfl, rfl⟩))
     go_meet
     case rel => exact ⟨rfl, K3, K4, K6, HB1⟩
    | true =>
     have HQ1 := Aside0.mk hq1
     clear hq1
     have HVV : Aside0 (Own.opB n2 (Own.lk k0) i0 (Own.lk k1) i1 = v) := ⟨by rw [HV.out]; unfold preB; rw [HQ0.out, HQ1.out]; simp⟩
     have HLL := Aside0.mk (litIn_ok_i L0.out HQ0.out)
     have HLL1 := Aside0.mk (litIn_ok_i L1.out HQ1.out)
     have HS : Aside0 (∀ w', Below w1.heap.size w1 w' → (w'.cell? ⟨w.heap.size, 2, none⟩ = some (.int .i64 n2) ∧ w'.cell? ⟨w.heap.size, 3, none⟩ = some (.slice (some ak) ks.length c3) ∧ w'.cell? ⟨gf, 1, none⟩ = some (.slice (some nd) xs.length cx) ∧ w'.cell? ak = some (.int .i64 x0) ∧ w'.cell? (nd.add (x0.toNat * 4)) = some (.int .i64 k0) ∧ w'.cell? ⟨(nd.add (x0.toNat * 4)).block, (nd.add (x0.toNat * 4)).off + 1, none⟩ = some (.string s0) ∧ w'.cell? ⟨(nd.add (x0.toNat * 4)).block, (nd.add (x0.toNat * 4)).off + 2, none⟩ = some (.int .i64 i0) ∧ w'.cell? ⟨(nd.add (x0.toNat * 4)).block, (nd.add (x0.toNat * 4)).off + 3, none⟩ = some (.slice NA0 m0 nc0) ∧ w'.cell? ⟨ak.block, ak.off + 1, none⟩ = some (.int .i64 x1) ∧ w'.cell? (nd.add (x1.toNat * 4)) = some (.int .i64 k1) ∧ w'.cell? ⟨(nd.add (x1.toNat * 4)).block, (nd.add (x1.toNat * 4)).off + 1, none⟩ = some (.string s1) ∧ w'.cell? ⟨(nd.add (x1.toNat * 4)).block, (nd.add (x1.toNat * 4)).off + 2, none⟩ = some (.int .i64 i1) ∧ w'.cell? ⟨(nd.add (x1.toNat * 4)).block, (nd.add (x1.toNat * 4)).off + 3, none⟩ = some (.slice NA1 m1 nc1))) := ⟨fun w' hb => by
      exact ⟨(blk_cell (blk_below K3.out hb) 2).trans rfl, (blk_cell (blk_below K3.out hb) 3).trans rfl, pw_cell_below (below_step HB1.out hb) HG.out, (HX0.out w' hb).1, (HX0.out w' hb).2.1, (HX0.out w' hb).2.2.1, (HX0.out w' hb).2.2.2.1, (HX0.out w' hb).2.2.2.2, (HX1.out w' hb).1, (HX1.out w' hb).2.1, (HX1.out w' hb).2.2.1, (HX1.out w' hb).2.2.2.1, (HX1.out w' hb).2.2.2.2⟩⟩
     have HS2 : Aside0 (∀ (d0 d1 d2 d3 : Value) (w'' : World), Below w1.heap.size w1 w'' → ∀ w', w' = (((w''.setCell ⟨w.heap.size + 1 + 1, 0, none⟩ d0).setCell ⟨w.heap.size + 1 + 1, 1, none⟩ d1).setCell ⟨w.heap.size + 1 + 1, 2, none⟩ d2).setCell ⟨w.heap.size + 1 + 1, 3, none⟩ d3 → (w'.cell? ⟨w.heap.size, 2, none⟩ = some (.int .i64 n2) ∧ w'.cell? ⟨w.heap.size, 3, none⟩ = some (.slice (some ak) ks.length c3) ∧ w'.cell? ⟨gf, 1, none⟩ = some (.slice (some nd) xs.length cx) ∧ w'.cell? ak = some (.int .i64 x0) ∧ w'.cell? (nd.add (x0.toNat * 4)) = some (.int .i64 k0) ∧ w'.cell? ⟨(nd.add (x0.toNat * 4)).block, (nd.add (x0.toNat * 4)).off + 1, none⟩ = some (.string s0) ∧ w'.cell? ⟨(nd.add (x0.toNat * 4)).block, (nd.add (x0.toNat * 4)).off + 2, none⟩ = some (.int .i64 i0) ∧ w'.cell? ⟨(nd.add (x0.toNat * 4)).block, (nd.add (x0.toNat * 4)).off + 3, none⟩ = some (.slice NA0 m0 nc0) ∧ w'.cell? ⟨ak.block, ak.off + 1, none⟩ = some (.int .i64 x1) ∧ w'.cell? (nd.add (x1.toNat * 4)) = some (.int .i64 k1) ∧ w'.cell? ⟨(nd.add (x1.toNat * 4)).block, (nd.add (x1.toNat * 4)).off + 1, none⟩ = some (.string s1) ∧ w'.cell? ⟨(nd.add (x1.toNat * 4)).block, (nd.add (x1.toNat * 4)).off + 2, none⟩ = some (.int .i64 i1) ∧ w'.cell? ⟨(nd.add (x1.toNat * 4)).block, (nd.add (x1.toNat * 4)).off + 3, none⟩ = some (.slice NA1 m1 nc1))) := ⟨fun d0 d1 d2 d3 w'' hb w' he => by
      subst he
      have h := HS.out w'' hb
      refine ⟨(farC (by first | exact (show w.heap.size ≠ w.heap.size + 1 + 1 by omega) | exact (show gf ≠ w.heap.size + 1 + 1 by have := HGF.out; omega) | exact (show ak.block ≠ w.heap.size + 1 + 1 by have := HLT0.out; omega) | exact (show (nd.add (x0.toNat * 4)).block ≠ w.heap.size + 1 + 1 by have := HLT0.out; omega) | exact (show (nd.add (x1.toNat * 4)).block ≠ w.heap.size + 1 + 1 by have := HLT1.out; omega))).trans h.1, (farC (by first | exact (show w.heap.size ≠ w.heap.size + 1 + 1 by omega) | exact (show gf ≠ w.heap.size + 1 + 1 by have := HGF.out; omega) | exact (show ak.block ≠ w.heap.size + 1 + 1 by have := HLT0.out; omega) | exact (show (nd.add (x0.toNat * 4)).block ≠ w.heap.size + 1 + 1 by have := HLT0.out; omega) | exact (show (nd.add (x1.toNat * 4)).block ≠ w.heap.size + 1 + 1 by have := HLT1.out; omega))).trans h.2.1, (farC (by first | exact (show w.heap.size ≠ w.heap.size + 1 + 1 by omega) | exact (show gf ≠ w.heap.size + 1 + 1 by have := HGF.out; omega) | exact (show ak.block ≠ w.heap.size + 1 + 1 by have := HLT0.out; omega) | exact (show (nd.add (x0.toNat * 4)).block ≠ w.heap.size + 1 + 1 by have := HLT0.out; omega) | exact (show (nd.add (x1.toNat * 4)).block ≠ w.heap.size + 1 + 1 by have := HLT1.out; omega))).trans h.2.2.1, (farC (by first | exact (show w.heap.size ≠ w.heap.size + 1 + 1 by omega) | exact (show gf ≠ w.heap.size + 1 + 1 by have := HGF.out; omega) | exact (show ak.block ≠ w.heap.size + 1 + 1 by have := HLT0.out; omega) | exact (show (nd.add (x0.toNat * 4)).block ≠ w.heap.size + 1 + 1 by have := HLT0.out; omega) | exact (show (nd.add (x1.toNat * 4)).block ≠ w.heap.size + 1 + 1 by have := HLT1.out; omega))).trans h.2.2.2.1, (farC (by first | exact (show w.heap.size ≠ w.heap.size + 1 + 1 by omega) | exact (show gf ≠ w.heap.size + 1 + 1 by have := HGF.out; omega) | exact (show ak.block ≠ w.heap.size + 1 + 1 by have := HLT0.out; omega) | exact (show (nd.add (x0.toNat * 4)).block ≠ w.heap.size + 1 + 1 by have := HLT0.out; omega) | exact (show (nd.add (x1.toNat * 4)).block ≠ w.heap.size + 1 + 1 by have := HLT1.out; omega))).trans h.2.2.2.2.1, (farC (by first | exact (show w.heap.size ≠ w.heap.size + 1 + 1 by omega) | exact (show gf ≠ w.heap.size + 1 + 1 by have := HGF.out; omega) | exact (show ak.block ≠ w.heap.size + 1 + 1 by have := HLT0.out; omega) | exact (show (nd.add (x0.toNat * 4)).block ≠ w.heap.size + 1 + 1 by have := HLT0.out; omega) | exact (show (nd.add (x1.toNat * 4)).block ≠ w.heap.size + 1 + 1 by have := HLT1.out; omega))).trans h.2.2.2.2.2.1, (farC (by first | exact (show w.heap.size ≠ w.heap.size + 1 + 1 by omega) | exact (show gf ≠ w.heap.size + 1 + 1 by have := HGF.out; omega) | exact (show ak.block ≠ w.heap.size + 1 + 1 by have := HLT0.out; omega) | exact (show (nd.add (x0.toNat * 4)).block ≠ w.heap.size + 1 + 1 by have := HLT0.out; omega) | exact (show (nd.add (x1.toNat * 4)).block ≠ w.heap.size + 1 + 1 by have := HLT1.out; omega))).trans h.2.2.2.2.2.2.1, (farC (by first | exact (show w.heap.size ≠ w.heap.size + 1 + 1 by omega) | exact (show gf ≠ w.heap.size + 1 + 1 by have := HGF.out; omega) | exact (show ak.block ≠ w.heap.size + 1 + 1 by have := HLT0.out; omega) | exact (show (nd.add (x0.toNat * 4)).block ≠ w.heap.size + 1 + 1 by have := HLT0.out; omega) | exact (show (nd.add (x1.toNat * 4)).block ≠ w.heap.size + 1 + 1 by have := HLT1.out; omega))).trans h.2.2.2.2.2.2.2.1, (farC (by first | exact (show w.heap.size ≠ w.heap.size + 1 + 1 by omega) | exact (show gf ≠ w.heap.size + 1 + 1 by have := HGF.out; omega) | exact (show ak.block ≠ w.heap.size + 1 + 1 by have := HLT0.out; omega) | exact (show (nd.add (x0.toNat * 4)).block ≠ w.heap.size + 1 + 1 by have := HLT0.out; omega) | exact (show (nd.add (x1.toNat * 4)).block ≠ w.heap.size + 1 + 1 by have := HLT1.out; omega))).trans h.2.2.2.2.2.2.2.2.1, (farC (by first | exact (show w.heap.size ≠ w.heap.size + 1 + 1 by omega) | exact (show gf ≠ w.heap.size + 1 + 1 by have := HGF.out; omega) | exact (show ak.block ≠ w.heap.size + 1 + 1 by have := HLT0.out; omega) | exact (show (nd.add (x0.toNat * 4)).block ≠ w.heap.size + 1 + 1 by have := HLT0.out; omega) | exact (show (nd.add (x1.toNat * 4)).block ≠ w.heap.size + 1 + 1 by have := HLT1.out; omega))).trans h.2.2.2.2.2.2.2.2.2.1, (farC (by first | exact (show w.heap.size ≠ w.heap.size + 1 + 1 by omega) | exact (show gf ≠ w.heap.size + 1 + 1 by have := HGF.out; omega) | exact (show ak.block ≠ w.heap.size + 1 + 1 by have := HLT0.out; omega) | exact (show (nd.add (x0.toNat * 4)).block ≠ w.heap.size + 1 + 1 by have := HLT0.out; omega) | exact (show (nd.add (x1.toNat * 4)).block ≠ w.heap.size + 1 + 1 by have := HLT1.out; omega))).trans h.2.2.2.2.2.2.2.2.2.2.1, (farC (by first | exact (show w.heap.size ≠ w.heap.size + 1 + 1 by omega) | exact (show gf ≠ w.heap.size + 1 + 1 by have := HGF.out; omega) | exact (show ak.block ≠ w.heap.size + 1 + 1 by have := HLT0.out; omega) | exact (show (nd.add (x0.toNat * 4)).block ≠ w.heap.size + 1 + 1 by have := HLT0.out; omega) | exact (show (nd.add (x1.toNat * 4)).block ≠ w.heap.size + 1 + 1 by have := HLT1.out; omega))).trans h.2.2.2.2.2.2.2.2.2.2.2.1, (farC (by first | exact (show w.heap.size ≠ w.heap.size + 1 + 1 by omega) | exact (show gf ≠ w.heap.size + 1 + 1 by have := HGF.out; omega) | exact (show ak.block ≠ w.heap.size + 1 + 1 by have := HLT0.out; omega) | exact (show (nd.add (x0.toNat * 4)).block ≠ w.heap.size + 1 + 1 by have := HLT0.out; omega) | exact (show (nd.add (x1.toNat * 4)).block ≠ w.heap.size + 1 + 1 by have := HLT1.out; omega))).trans h.2.2.2.2.2.2.2.2.2.2.2.2⟩⟩
     go_upto_region 3 with (first
      | (go_at_call 50; (with_reducible refine (litX gf nd xs.length cx x0 k0 _ g1 HIN0.out.1 HIN0.out.2 z1).mono ?_); rw [HQ0.out]; rintro e w5 ⟨rfl, rfl⟩)
      | (go_at_call 50; (with_reducible refine (litX gf nd xs.length cx x1 k1 _ g1 HIN1.out.1 HIN1.out.2 y1).mono ?_); rw [HQ1.out]; rintro e w5 ⟨rfl, rfl⟩))
     go_region_held3 (fun w' => w'.cell? ⟨w.heap.size, 2, none⟩ = some (.int .i64 n2) ∧ w'.cell? ⟨w.heap.size, 3, none⟩ = some (.slice (some ak) ks.length c3) ∧ w'.cell? ⟨gf, 1, none⟩ = some (.slice (some nd) xs.length cx) ∧ w'.cell? ak = some (.int .i64 x0) ∧ w'.cell? (nd.add (x0.toNat * 4)) = some (.int .i64 k0) ∧ w'.cell? ⟨(nd.add (x0.toNat * 4)).block, (nd.add (x0.toNat * 4)).off + 1, none⟩ = some (.string s0) ∧ w'.cell? ⟨(nd.add (x0.toNat * 4)).block, (nd.add (x0.toNat * 4)).off + 2, none⟩ = some (.int .i64 i0) ∧ w'.cell? ⟨(nd.add (x0.toNat * 4)).block, (nd.add (x0.toNat * 4)).off + 3, none⟩ = some (.slice NA0 m0 nc0) ∧ w'.cell? ⟨ak.block, ak.off + 1, none⟩ = some (.int .i64 x1) ∧ w'.cell? (nd.add (x1.toNat * 4)) = some (.int .i64 k1) ∧ w'.cell? ⟨(nd.add (x1.toNat * 4)).block, (nd.add (x1.toNat * 4)).off + 1, none⟩ = some (.string s1) ∧ w'.cell? ⟨(nd.add (x1.toNat * 4)).block, (nd.add (x1.toNat * 4)).off + 2, none⟩ = some (.int .i64 i1) ∧ w'.cell? ⟨(nd.add (x1.toNat * 4)).block, (nd.add (x1.toNat * 4)).off + 3, none⟩ = some (.slice NA1 m1 nc1)) (first | (with_reducible exact HS2.out _ _ _ _ _ (by repeat (with_reducible first | exact Below.refl _ _ | apply pw_below_drewN | apply below_drew1 | refine below_step ?_ hb6 | refine below_step ?_ hb7 | refine below_step ?_ hb5)) _ rfl) | exact HS.out _ (by repeat (with_reducible first | exact Below.refl _ _ | apply pw_below_drewN | apply below_drew1 | refine below_step ?_ hb6 | refine below_step ?_ hb7 | refine below_step ?_ hb5))) (first | (go_at_call 52; (with_reducible refine (valueB k0 s0 i0 NA0 m0 nc0 HQ0.out _).mono ?_); rintro e w5 ⟨rfl, hb5⟩) | (go_at_call 52; (with_reducible refine (valueB k1 s1 i1 NA1 m1 nc1 HQ1.out _).mono ?_); rintro e w7 ⟨rfl, hb7⟩) | (go_at_call 51; (with_reducible refine (impl_ValOpX n2 _ i0 _ i1 HLL.out HLL1.out v HVV.out _).mono ?_); rintro e w6 ⟨rfl, hb6⟩; have hq6 := blk_below K6.out (show Below w1.heap.size w1 w6 from (by repeat (with_reducible first | exact Below.refl _ _ | apply pw_below_drewN | apply below_drew1 | refine below_step ?_ hb6 | refine below_step ?_ hb7 | refine below_step ?_ hb5))); obtain ⟨f0, f1, f2, f3, f4, f5, f6, f7⟩ := cells4_i hq6))
     go_wp2
     go_meet
     case rel => exact ⟨rfl, ⟨farN_i (by omega) (blk_below K3.out (show Below w1.heap.size w1 w6 from by repeat (with_reducible first | exact Below.refl _ _ | apply pw_below_drewN | apply below_drew1 | refine below_step ?_ hb6 | refine below_step ?_ hb7 | refine below_step ?_ hb5)))⟩, ⟨farN_i (by omega) (blk_below K4.out (show Below w1.heap.size w1 w6 from by repeat (with_reducible first | exact Below.refl _ _ | apply pw_below_drewN | apply below_drew1 | refine below_step ?_ hb6 | refine below_step ?_ hb7 | refine below_step ?_ hb5)))⟩, ⟨put4_i (blk_below K6.out (show Below w1.heap.size w1 w6 from by repeat (with_reducible first | exact Below.refl _ _ | apply pw_below_drewN | apply below_drew1 | refine below_step ?_ hb6 | refine below_step ?_ hb7 | refine below_step ?_ hb5))) _ _ _ _⟩, ⟨below_set (below_set (below_set (below_set (below_step HB1.out (show Below w1.heap.size w1 w6 from by repeat (with_reducible first | exact Below.refl _ _ | apply pw_below_drewN | apply below_drew1 | refine below_step ?_ hb6 | refine below_step ?_ hb7 | refine below_step ?_ hb5))) (by show w.heap.size ≤ w.heap.size + 1 + 1; omega)) (by show w.heap.size ≤ w.heap.size + 1 + 1; omega)) (by show w.heap.size ≤ w.heap.size + 1 + 1; omega)) (by show w.heap.size ≤ w.heap.size + 1 + 1; omega)⟩⟩
 case rest =>
  obtain ⟨rfl, K3, K4, K6, HB⟩ := hcut
  clear b30 b31 b32 b33 g1
  have b30 := (blk_cell K3.out 0).trans rfl
  have b31 := (blk_cell K3.out 1).trans rfl
  have b32 := (blk_cell K3.out 2).trans rfl
  have b33 := (blk_cell K3.out 3).trans rfl
  obtain ⟨f0, f1, f2, f3, f4, f5, f6, f7⟩ := cells4_i K4.out
  obtain ⟨v0, v1, v2, v3, _, _, _, _⟩ := cells4_i K6.out
  by_cases cc : v.2.2.2.2 = 0
  ·have d0 : (v.2.2.2.2 == 0) = true := beq_iff_eq.2 cc
   by_cases c4 : v.1 = 4
   ·have d4 : (v.1 == 4) = true := beq_iff_eq.2 c4
    have EL : Aside0 (Own.leafB v = some (3, v.2.1)) := ⟨by unfold Own.leafB; rw [if_pos cc, if_pos c4]⟩
    clear cc c4
    have HS : Aside0 (∀ w', Below wc.heap.size wc w' → (w'.cell? ⟨w.heap.size + 1 + 1, 1, none⟩ = some (.int .i64 v.2.1) ∧ w'.cell? ⟨w.heap.size, 3, none⟩ = some (.slice A3 ks.length c3))) := ⟨fun w' hb => ⟨(blk_cell (blk_below K6.out hb) 1).trans rfl, (blk_cell (blk_below K3.out hb) 3).trans rfl⟩⟩
    have HS2 : Aside0 (∀ (d0 d1 d2 d3 : Value) (w'' : World), Below wc.heap.size wc w'' → ∀ w', w' = (((w''.setCell ⟨w.heap.size + 1, 0, none⟩ d0).setCell ⟨w.heap.size + 1, 1, none⟩ d1).setCell ⟨w.heap.size + 1, 2, none⟩ d2).setCell ⟨w.heap.size + 1, 3, none⟩ d3 → (w'.cell? ⟨w.heap.size + 1 + 1, 1, none⟩ = some (.int .i64 v.2.1) ∧ w'.cell? ⟨w.heap.size, 3, none⟩ = some (.slice A3 ks.length c3))) := ⟨fun d0 d1 d2 d3 w'' hb w' he => by
     subst he
     have h := HS.out w'' hb
     exact ⟨(farC (by show w.heap.size + 1 + 1 ≠ w.heap.size + 1; omega)).trans h.1, (farC (by show w.heap.size ≠ w.heap.size + 1; omega)).trans h.2⟩⟩
    go_upto_region 7 with (fail)
    go_region_held3 (fun w' => w'.cell? ⟨w.heap.size + 1 + 1, 1, none⟩ = some (.int .i64 v.2.1) ∧ w'.cell? ⟨w.heap.size, 3, none⟩ = some (.slice A3 ks.length c3)) (first | exact HS2.out _ _ _ _ wc (Below.refl _ _) _ rfl | exact HS2.out _ _ _ _ wc.drew (below_drew1 (Below.refl _ _)) _ rfl | exact HS.out _ (by repeat (with_reducible first | exact Below.refl _ _ | apply pw_below_drewN | apply below_drew1))) (fail)
    go_wp2
    refine bodyPost_ret (results_ct rfl _ _ (w.heap.size + 1) 56 _ (0, 0) _ rfl (put4_i (blk_below K4.out (by repeat (with_reducible first | exact Below.refl _ _ | apply pw_below_drewN | apply below_drew1))) _ _ _ _) hu2 rfl rfl) rfl ⟨?_, ?_⟩
    ·rw [HEV.out, EL.out]
     rfl
    ·repeat (first | (with_reducible exact HB.out) | (with_reducible apply below_drew1) | (with_reducible apply pw_below_drewN) | (with_reducible refine below_set ?_ (by show w.heap.size ≤ w.heap.size + 1; omega)))
   ·have d4 : (v.1 == 4) = false := beq_eq_false_iff_ne.2 c4
    by_cases c1 : v.1 = 1
    ·have d1 : (v.1 == 1) = true := beq_iff_eq.2 c1
     by_cases ci : 0 ≤ v.2.1 ∧ v.2.1 ≤ 999999999999999
     ·have EL : Aside0 (Own.leafB v = some (1, v.2.1)) := ⟨by unfold Own.leafB; rw [if_pos cc, if_neg c4, if_pos ⟨c1, ci⟩]⟩
      have CI := Aside0.mk ci
      clear cc c4 c1 ci
      have HS : Aside0 (∀ w', Below wc.heap.size wc w' → (w'.cell? ⟨w.heap.size + 1 + 1, 1, none⟩ = some (.int .i64 v.2.1) ∧ w'.cell? ⟨w.heap.size, 3, none⟩ = some (.slice A3 ks.length c3))) := ⟨fun w' hb => ⟨(blk_cell (blk_below K6.out hb) 1).trans rfl, (blk_cell (blk_below K3.out hb) 3).trans rfl⟩⟩
      have HS2 : Aside0 (∀ (d0 d1 d2 d3 : Value) (w'' : World), Below wc.heap.size wc w'' → ∀ w', w' = (((w''.setCell ⟨w.heap.size + 1, 0, none⟩ d0).setCell ⟨w.heap.size + 1, 1, none⟩ d1).setCell ⟨w.heap.size + 1, 2, none⟩ d2).setCell ⟨w.heap.size + 1, 3, none⟩ d3 → (w'.cell? ⟨w.heap.size + 1 + 1, 1, none⟩ = some (.int .i64 v.2.1) ∧ w'.cell? ⟨w.heap.size, 3, none⟩ = some (.slice A3 ks.length c3))) := ⟨fun d0 d1 d2 d3 w'' hb w' he => by
       subst he
       have h := HS.out w'' hb
       exact ⟨(farC (by show w.heap.size + 1 + 1 ≠ w.heap.size + 1; omega)).trans h.1, (farC (by show w.heap.size ≠ w.heap.size + 1; omega)).trans h.2⟩⟩
      go_upto_region 9 with (first | (go_at_call 30; (with_reducible refine (withinX _ _ _ true (by rw [decide_eq_true CI.out]) _).mono ?_); rintro e w5 ⟨rfl, hw5⟩; obtain rfl := hw5.symm))
      go_region_held3 (fun w' => w'.cell? ⟨w.heap.size + 1 + 1, 1, none⟩ = some (.int .i64 v.2.1) ∧ w'.cell? ⟨w.heap.size, 3, none⟩ = some (.slice A3 ks.length c3)) (first | exact HS2.out _ _ _ _ wc (Below.refl _ _) _ rfl | exact HS2.out _ _ _ _ wc.drew (below_drew1 (Below.refl _ _)) _ rfl | exact HS.out _ (by repeat (with_reducible first | exact Below.refl _ _ | apply pw_below_drewN | apply below_drew1))) (fail)
      go_wp2
      refine bodyPost_ret (results_ct rfl _ _ (w.heap.size + 1) 56 _ (0, 0) _ rfl (put4_i (blk_below K4.out (by repeat (with_reducible first | exact Below.refl _ _ | apply pw_below_drewN | apply below_drew1))) _ _ _ _) hu2 rfl rfl) rfl ⟨?_, ?_⟩
      ·rw [HEV.out, EL.out]
       rfl
      ·repeat (first | (with_reducible exact HB.out) | (with_reducible apply below_drew1) | (with_reducible apply pw_below_drewN) | (with_reducible refine below_set ?_ (by show w.heap.size ≤ w.heap.size + 1; omega)))
     ·have EL : Aside0 (Own.leafB v = none) := ⟨by unfold Own.leafB; rw [if_pos cc, if_neg c4, if_neg (fun h => ci h.2)]⟩
      have CI := Aside0.mk ci
      clear cc c4 c1 ci
      go_wp2_with (go_at_call 30; (with_reducible refine (withinX _ _ _ false (by rw [decide_eq_false CI.out]) _).mono ?_); rintro e w5 ⟨rfl, hw5⟩; obtain rfl := hw5.symm)
      refine bodyPost_ret (results_ct rfl _ _ (w.heap.size + 1) 56 _ (0, 0) _ rfl (put4_i K4.out _ _ _ _) hu2 rfl rfl) rfl ⟨?_, ?_⟩
      ·rw [HEV.out, EL.out]
       rfl
      ·repeat (first | (with_reducible exact HB.out) | (with_reducible refine below_set ?_ (by show w.heap.size ≤ w.heap.size + 1; omega)))
    ·have d1 : (v.1 == 1) = false := beq_eq_false_iff_ne.2 c1
     have EL : Aside0 (Own.leafB v = none) := ⟨by unfold Own.leafB; rw [if_pos cc, if_neg c4, if_neg (fun h => c1 h.1)]⟩
     clear cc c4 c1
     go_wp2
     refine bodyPost_ret (results_ct rfl _ _ (w.heap.size + 1) 56 _ (0, 0) _ rfl (put4_i K4.out _ _ _ _) hu2 rfl rfl) rfl ⟨?_, ?_⟩
     ·rw [HEV.out, EL.out]
      rfl
     ·repeat (first | (with_reducible exact HB.out) | (with_reducible refine below_set ?_ (by show w.heap.size ≤ w.heap.size + 1; omega)))
  ·have d0 : (v.2.2.2.2 == 0) = false := beq_eq_false_iff_ne.2 cc
   have EL : Aside0 (Own.leafB v = none) := ⟨by unfold Own.leafB; rw [if_neg cc]⟩
   clear cc
   go_wp2
   refine bodyPost_ret (results_ct rfl _ _ (w.heap.size + 1) 56 _ (0, 0) _ rfl (put4_i K4.out _ _ _ _) hu2 rfl rfl) rfl ⟨?_, ?_⟩
   ·rw [HEV.out, EL.out]
    rfl
   ·repeat (first | (with_reducible exact HB.out) | (with_reducible refine below_set ?_ (by show w.heap.size ≤ w.heap.size + 1; omega)))
def foldedB (xs : List S56) (n : S56) (ks : List Int) : S56 × Nat := match Own.smallB n.f0 n.f2 (rd_T56 xs (rd ks 0)).f0 (rd_T56 xs (rd ks 0)).f2 (rd_T56 xs (rd ks 1)).f0 (rd_T56 xs (rd ks 1)).f2 with
 | none => (⟨n.f0, n.f1, n.f2, ks⟩, 0)
 | some p => (⟨p.1, ⟨#[]⟩, p.2, []⟩, ks.length)
def buildKids (rec : Int → List S56 → Option (List S56)) : List Int → List S56 → List Int → Option (List S56 × List Int)
 | [], o, ks => some (o, ks)
 | x :: r, o, ks => (rec x o).bind fun o2 => if 0 < o2.length ∧ o2.length ≤ 1000000 ∧ ks.length ≤ 1000000 then buildKids rec r o2 (ks ++ [(o2.length : Int) - 1]) else none
def buildOk (n : S56) (o : List S56) (ks : List Int) : Bool :=
 decide (n.f0 = 8 → 2 ≤ ks.length) && decide (n.f0 = 9 → 1 ≤ ks.length) && (decide (¬ (n.f0 = 8 ∨ n.f0 = 9)) || ks.all fun x => decide (0 ≤ x ∧ x < (o.length : Int))) && Own.litIn (rd_T56 o (rd ks 0)).f0 (rd_T56 o (rd ks 0)).f2 && Own.litIn (rd_T56 o (rd ks 1)).f0 (rd_T56 o (rd ks 1)).f2 && decide ((foldedB o n ks).2 ≤ o.length ∧ o.length ≤ 1000000)
def buildEnd (n : S56) (o : List S56) (ks : List Int) : Option (List S56) := if buildOk n o ks = true then some (o.take (o.length - (foldedB o n ks).2) ++ [(foldedB o n ks).1]) else none
def buildF : Nat → List S56 → Int → List S56 → Option (List S56)
 | 0, _, _, _ => none
 | k + 1, nodes, i, xs => if 0 ≤ i ∧ i < (nodes.length : Int) then (buildKids (fun x o => buildF k nodes x o) (rd_T56 nodes i).f3 xs []).bind fun r => buildEnd (rd_T56 nodes i) r.1 r.2 else none
theorem buildKids_mono {f g : Int → List S56 → Option (List S56)} (h : ∀ x o, LeO (f x o) (g x o)) : ∀ (r : List Int) (o : List S56) (ks : List Int), LeO (buildKids f r o ks) (buildKids g r o ks)
 | [], _, _ => LeO.refl _
 | x :: r, o, ks => by
  unfold buildKids
  refine LeO.bind (h x o) (fun o2 => ?_)
  split
  ·exact buildKids_mono h r _ _
  ·exact LeO.refl _
theorem buildF.mono : ∀ a0 a1 a2 k, LeO (buildF k a0 a1 a2) (buildF (k + 1) a0 a1 a2) := by
 intro a0 a1 a2 k
 induction k generalizing a1 a2 with
 | zero => exact LeO.none _
 | succ k ih =>
  show LeO (if 0 ≤ a1 ∧ a1 < (a0.length : Int) then _ else none) (if 0 ≤ a1 ∧ a1 < (a0.length : Int) then _ else none)
  split
  ·exact LeO.bind (buildKids_mono (fun x o => ih x o) _ _ _) (fun b => LeO.refl _)
  ·exact LeO.none _
theorem bW (i : Nat) (h : i ≤ 9223372036854775806) : wrap64 ((i : Int) + 1) = ((i + 1 : Nat) : Int) := by
 unfold wrap64
 omega
theorem own_len_i (A : Option Addr) (n c m c' : Nat) : (Value.slice A n c).ownBlock = (Value.slice A m c').ownBlock := by cases A <;> rfl
/-- What has come to be changed: one block, and one row's own. -/
def Turned (w w' : World) (gf : Nat) (row : Option Nat) : Prop := w.heap.size ≤ w'.heap.size ∧ ∀ k, k < w.heap.size → k ≠ gf → some k ≠ row → w'.heap[k]? = w.heap[k]?
theorem Turned.refl (w : World) (gf : Nat) (row : Option Nat) : Turned w w gf row := ⟨Nat.le_refl _, fun _ _ _ _ => rfl⟩
theorem Turned.below {w w1 w2 : World} {gf : Nat} {row : Option Nat} (h : Turned w w1 gf row) (hb : Below w1.heap.size w1 w2) : Turned w w2 gf row :=
 ⟨Nat.le_trans h.1 hb.size, fun k hk h1 h2 => (hb.block k (Nat.lt_of_lt_of_le hk h.1)).trans (h.2 k hk h1 h2)⟩
theorem Turned.trans {w w1 w2 : World} {gf : Nat} {u v : Option Nat} (h : Turned w w1 gf u) (h2 : Turned w1 w2 gf v) (hv : ∀ k, v = some k → w.heap.size ≤ k ∨ some k = u) : Turned w w2 gf u :=
 ⟨Nat.le_trans h.1 h2.1, fun k hk h1 hne => (h2.2 k (Nat.lt_of_lt_of_le hk h.1) h1 (fun e => by
  rcases hv k e.symm with h' | h'
  ·omega
  ·exact hne h')).trans (h.2 k hk h1 hne)⟩
theorem Turned.grown {w w1 : World} {gf : Nat} {u : Option Nat} (h : w.grownBy w1 u) : Turned w w1 gf u := ⟨h.size, fun k hk _ hne => h.block k hk hne⟩
theorem R_turned' {α : Type} {d : Kd α} {e base : Nat} {ok : Nat → Prop} {v : Value} {xs : List α} {w w1 : World} {gf : Nat} {row : Option Nat} (h : Kd.R d e w base ok v xs) (hE : d.E = []) (ht : Turned w w1 gf row) (h1 : some gf ≠ v.ownBlock) (h2 : ∀ k, row = some k → some k ≠ v.ownBlock) : Kd.R d e w1 base ok v xs :=
 Kd.R_reok hE (Kd.R_step (Kd.R_tight hE h) (fun k hk hlt => ht.2 k hlt (fun e => h1 (e ▸ hk)) (fun e => h2 k e.symm hk))) h.1
theorem hat_trans_i {w w1 : World} {u v x : Value} (hs : w.heap.size ≤ w1.heap.size) (hat : v.ownBlock = u.ownBlock ∨ ∃ b, v.ownBlock = some b ∧ w.heap.size ≤ b) (h2 : x.ownBlock = v.ownBlock ∨ ∃ b, x.ownBlock = some b ∧ w1.heap.size ≤ b) : x.ownBlock = u.ownBlock ∨ ∃ b, x.ownBlock = some b ∧ w.heap.size ≤ b := by
 rcases h2 with h2 | ⟨b, hb, hle⟩
 ·rw [h2]; exact hat
 ·exact .inr ⟨b, hb, by omega⟩
theorem below_grown_i {w0 w w1 : World} (hB : Below w0.heap.size w0 w) {v : Value} (hg : w.grownBy w1 v.ownBlock) (hv : ∀ k, v.ownBlock = some k → w0.heap.size ≤ k) : Below w0.heap.size w0 w1 :=
 ⟨hg.os.trans hB.os, hg.tape.trans hB.tape, hg.output.trans hB.output, Nat.le_trans hB.size hg.size, fun k hk => (hg.block k (Nat.lt_of_lt_of_le hk hB.size) (fun e => by have := hv k e.symm; omega)).trans (hB.block k hk)⟩
theorem Turned.set {w w1 : World} {gf : Nat} {row : Option Nat} (h : Turned w w1 gf row) {g : Nat} (hg : w.heap.size ≤ g) (j : Nat) (v : Value) : Turned w (w1.setCell ⟨g, j, none⟩ v) gf row :=
 ⟨by rw [World.size_setCell]; exact h.1, fun k hk h1 h2 => (Below.heap_setCell _ _ _ k (by show k ≠ g; omega)).trans (h.2 k hk h1 h2)⟩
theorem Turned.set' {w w1 : World} {g : Nat} {row : Option Nat} (h : Turned w w1 g row) (j : Nat) (v : Value) : Turned w (w1.setCell ⟨g, j, none⟩ v) g row :=
 ⟨by rw [World.size_setCell]; exact h.1, fun k hk h1 h2 => (Below.heap_setCell _ _ _ k h1).trans (h.2 k hk h1 h2)⟩
set_option maxHeartbeats 4000000 in
set_option maxRecDepth 100000 in
theorem build18.calls (gf gt : Nat) (U : Value) (A : Option Addr) (c : Nat) (nodes : List S56) (B : Option Addr) (d : Nat) (tops : List Int) (w0 : World) (HN0 : Aside0 (Kd.C k56 w0 A nodes.length nodes)) (HGT : Aside0 (w0.heap.size ≤ gt)) (HGF : Aside0 (w0.heap.size ≤ gf)) (HNE : Aside0 (gf ≠ gt)) (k : Nat) : ∀ (i : Int) (P : Nat → Prop) (u : Value) (xs r : List S56) (w : World), Below w0.heap.size w0 w → w.heap[gf]? = some (.cells #[.pointer (some ⟨gt, 0, none⟩), u, U] 45 (0, 0)) → w.heap[gt]? = some (.cells #[.slice A nodes.length c, .slice B tops.length d] 29 (0, 0)) → Kd.S k56 56 w w0.heap.size P u xs → buildF k nodes i xs = some r →
  Calls Try.prog 18 #[.pointer (some ⟨gf, 0, none⟩), .int .i64 i] w fun e w' => ∃ u' : Value, e = .returned (.int .i64 ((r.length : Int) - 1)) ∧ w'.heap[gf]? = some (.cells #[.pointer (some ⟨gt, 0, none⟩), u', U] 45 (0, 0)) ∧ Kd.S k56 56 w' w0.heap.size (fun k_ => P k_ ∨ w.heap.size ≤ k_) u' r ∧ Below w0.heap.size w0 w' ∧ Turned w w' gf u.ownBlock ∧ (u'.ownBlock = u.ownBlock ∨ ∃ b, u'.ownBlock = some b ∧ w.heap.size ≤ b) := by
 induction k with
 | zero => intro i P u xs r w hB hgf hgt ho h; cases h
 | succ k ih =>
  intro i P u xs r w hB hgf hgt ho h
  have hu56 := Try.underlying56
  have hu29 := Try.underlying29
  have hu45 := Try.underlying45
  unfold buildF at h
  split at h
  rotate_left
  ·cases h
  next hi =>
  obtain ⟨p0, q0⟩ := hi
  obtain ⟨⟨o1, ks1⟩, hcp, h⟩ := Option.bind_eq_some_iff.mp h
  obtain ⟨nd, NA, nc, eA, hx0, hx1, hx2, hx3, hl3, hC3⟩ := at_T56 HN0.out i p0 q0
  subst eA
  replace hx0 := pw_cell_below hB hx0
  replace hx1 := pw_cell_below hB hx1
  replace hx2 := pw_cell_below hB hx2
  replace hx3 := pw_cell_below hB hx3
  generalize rd_T56 nodes i = n at h hcp hx0 hx1 hx2 hx3 hl3 hC3
  obtain ⟨n0, n1, n2, n3⟩ := n
  dsimp only at h hcp hx0 hx1 hx2 hx3 hl3 hC3
  have IH := Aside0.mk ih
  have HE := Aside0.mk h
  have HCP := Aside0.mk hcp
  have HO := Aside0.mk ho
  have HB := Aside0.mk hB
  have HF := Aside0.mk hgf
  have HT := Aside0.mk hgt
  have HC3 := Aside0.mk hC3
  have HML := Aside0.mk (show n3.length ≤ 9223372036854775807 from hC3.2.1)
  have g0 := (blk_cell hgf 0).trans rfl
  have g1 := (blk_cell hgf 1).trans rfl
  have t0 := (blk_cell hgt 0).trans rfl
  clear ih h hcp ho hgf hgt hB hC3
  clear h
  have hlt := World.block_lt_of_cell? w _ hx0
  have HLT := Aside0.mk hlt
  replace p0 := eq_true p0
  replace q0 := eq_true q0
  go_enter Try.func18, Try.ntmps18
  go_upto_region 2 with (fail)
  obtain ⟨w1, hw1⟩ : ∃ w1, w1 = w.alloc (.cells #[.int .i64 n0, .string n1, .int .i64 n2, .slice NA n3.length nc] 56) := ⟨_, rfl⟩
  rw [← hw1]
  have hb1 : Below w.heap.size w w1 := by rw [hw1]; exact below_alloc (Below.refl _ _) _
  have k5 : w1.heap[w.heap.size]? = some (.cells #[.int .i64 n0, .string n1, .int .i64 n2, .slice NA n3.length nc] 56 (0, 0)) := by rw [hw1]; exact blk_new _ _
  have HF1 := Aside0.mk (blk_below HF.out hb1)
  have HT1 := Aside0.mk (blk_below HT.out hb1)
  have HK5 := Aside0.mk k5
  have HO1 := Aside0.mk (Kd.S_below (Kd.S_bound HO.out) hb1)
  have HB1 := Aside0.mk (below_step HB.out hb1)
  have HTU := Aside0.mk ((Turned.refl w gf u.ownBlock).below hb1)
  have HW0 := Aside0.mk HB.out.size
  have HNEW := Aside0.mk (show w.heap.size ≠ gf from fun e => by have := blk_lt HF.out; omega)
  have HUL := Aside0.mk (show ∀ k_, u.ownBlock = some k_ → k_ < w.heap.size from Kd.S_lt HO.out)
  have g53 := (blk_cell k5 3).trans rfl
  clear hw1 hb1 k5 g0 g1 t0 hx0 hx1 hx2 hx3 hlt hl3
  go_wp2
  go_loopg [6, 25] n3.length (fun kq v6 v25 w' => ∃ (j : Nat) (o : List S56) (ks : List Int) (y6 u1 : Value), y6 = v6 ∧ v25 = .int .i64 (j : Int) ∧ Aside0 (j + kq = n3.length) ∧ Aside0 (buildKids (fun x o => buildF k nodes x o) (n3.drop j) o ks = some (o1, ks1)) ∧ Aside0 (w'.heap[gf]? = some (.cells #[.pointer (some ⟨gt, 0, none⟩), u1, U] 45 (0, 0))) ∧ Aside0 (w'.heap[gt]? = some (.cells #[.slice (some nd) nodes.length c, .slice B tops.length d] 29 (0, 0))) ∧ Aside0 (w'.heap[w.heap.size]? = some (.cells #[.int .i64 n0, .string n1, .int .i64 n2, .slice NA n3.length nc] 56 (0, 0))) ∧ Aside0 (Kd.S k56 56 w' w0.heap.size (fun k_ => (P k_ ∨ w.heap.size ≤ k_) ∧ k_ ≠ w.heap.size ∧ some k_ ≠ v6.ownBlock) u1 o) ∧ Aside0 (Kd.R (Kd.int .i64) 3 w' (w.heap.size + 1) (fun _ => True) v6 ks) ∧ Aside0 (Below w0.heap.size w0 w') ∧ Aside0 (Turned w w' gf u.ownBlock) ∧ Aside0 (u1.ownBlock = u.ownBlock ∨ ∃ b, u1.ownBlock = some b ∧ w.heap.size ≤ b))
  case atStart =>
   refine ⟨0, xs, [], _, u, rfl, rfl, ⟨by omega⟩, ⟨by rw [List.drop_zero]; exact HCP.out⟩, HF1, HT1, HK5, ⟨Kd.S_mono HO1.out (fun k_ hk => ⟨.inl hk.1, fun e => by have := hk.2.2.1; omega, fun e => by simp [Value.ownBlock] at e⟩)⟩, ⟨Kd.R_nil _ _ _ _ _⟩, HB1, HTU, ⟨.inl rfl⟩⟩
  case round =>
   clear HO HO1 HB1 HTU HF1 HT1 HK5 HF HT
   obtain ⟨j, o, ks, v6, u1, rfl, rfl, HX, HC, HF, HT, HK5, HO, HR6, HBw, HTU, HA⟩ := hrel
   have HPO := Aside0.mk HO.out.choose_spec.1
   by_cases c1 : j < n3.length
   ·have cb : decide ((j : Int) < (n3.length : Int)) = true := by simpa using c1
    obtain ⟨ad, ead, hx⟩ := Kd.at_int (Kd.C_below HC3.out HBw.out) (j : Int) (by omega) (by omega)
    cases ead
    rw [Int.toNat_natCast] at hx
    have hrd : rd n3 (j : Int) = n3[j] := by
     unfold rd
     rw [Int.toNat_natCast, List.getD_eq_getElem?_getD, List.getElem?_eq_getElem c1]
     rfl
    have hn := HC.out
    rw [List.drop_eq_getElem_cons c1, ← hrd] at hn
    generalize rd n3 (j : Int) = x at hx hn
    unfold buildKids at hn
    obtain ⟨o2, hrec, hn⟩ := Option.bind_eq_some_iff.mp hn
    split at hn
    rotate_left
    ·cases hn
    next hsz =>
    have HN2 := Aside0.mk hn
    have HSZ := Aside0.mk hsz
    obtain ⟨A6, c6, rfl⟩ := Kd.R_slice HR6.out
    have HCALL := Aside0.mk (IH.out x (fun k_ => (P k_ ∨ w.heap.size ≤ k_) ∧ k_ ≠ w.heap.size ∧ some k_ ≠ (Value.slice A6 ks.length c6).ownBlock) u1 o o2 wr HBw.out HF.out HT.out HO.out hrec)
    clear hrec hn hsz hrd
    go_wp2_with (first
     | (go_at_call 18; (with_reducible refine (HCALL.out).mono ?_); rintro e w2 ⟨u2, rfl, hf2, ho, hb, ht, hat⟩; have h6 : ∀ k_, (Value.slice A6 ks.length c6).ownBlock = some k_ → k_ < wr.heap.size := Kd.R_lt HR6.out; have hs5 : w.heap.size < wr.heap.size := blk_lt HK5.out; have hsf : gf < wr.heap.size := blk_lt HF.out; have hst : gt < wr.heap.size := blk_lt HT.out; have HO2 : Aside0 (Kd.S k56 56 w2 w0.heap.size (fun k_ => (P k_ ∨ w.heap.size ≤ k_) ∧ k_ ≠ w.heap.size ∧ some k_ ≠ (Value.slice A6 ks.length c6).ownBlock) u2 o2) := ⟨Kd.S_mono ho (fun k_ hk => by rcases hk with hk | hk; exact hk; exact ⟨.inr (by omega), fun e => by omega, fun e => by have := h6 _ e.symm; omega⟩)⟩; have HR2 := Aside0.mk (R_turned' HR6.out rfl ht (Kd.R_ne HR6.out HF.out (by decide)) (fun k_ hk => (HPO.out _ hk).2.2)); have HT2 := Aside0.mk ((ht.2 gt hst (Ne.symm HNE.out) (Kd.S_ne HO.out HT.out (by decide))).trans HT.out); have HK52 := Aside0.mk ((ht.2 w.heap.size hs5 (fun e => HNEW.out e) (fun e => (HPO.out _ e.symm).2.1 rfl)).trans HK5.out); have HF2 := Aside0.mk hf2; have HB2 := Aside0.mk hb; have HTU2 := Aside0.mk (HTU.out.trans ht (fun k_ hk => by rcases HA.out with h | ⟨b, h, hle⟩; exact .inr (hk.symm.trans h); rw [h] at hk; injection hk with hk; exact .inl (by omega))); have HA2 := Aside0.mk (hat_trans_i HTU.out.1 HA.out hat); clear hf2 ho hb ht hat h6 hs5 hsf hst)
     | ((with_reducible refine gate_builtin (b := .append) (xs := #[.tmp 32, .tmp 34]) rfl ?_); at_builtin; refine Kd.R_append (Kd.int .i64) (w0 := w2) (w.heap.size + 1) rfl (.tmp 32) (.tmp 34) 23 3 (.int .i64 0) 8 rfl Try.underlying23 info3 rfl (by decide) (by omega) (Value.slice A6 ks.length c6) ks ((o2.length : Int) - 1) [.int .i64 ((o2.length : Int) - 1)] (fun _ => True) (fun _ => False) rfl rfl ?aP (fun _ hk => hk.elim) ?aF ?aO ?aB ?aS ?aL ?_; (case aP => exact rfl); (case aB => exact Below.refl _ _); (case aF => exact (fun _ _ => trivial)); (case aO => exact HR2.out); (case aS => exact (show w.heap.size + 1 ≤ w2.heap.size from blk_lt HK52.out)); (case aL => have := HSZ.out; omega); intro v6' w3 ho hb hg hat; have hS3 := Kd.S_after (v := (Value.slice A6 ks.length c6)) (v1 := v6') (Kd.S_mono HO2.out (fun k_ hk => (⟨⟨hk.1, hk.2.1⟩, hk.2.2⟩ : ((P k_ ∨ w.heap.size ≤ k_) ∧ k_ ≠ w.heap.size) ∧ some k_ ≠ (Value.slice A6 ks.length c6).ownBlock))) hg hat; have HO3 : Aside0 (Kd.S k56 56 w3 w0.heap.size (fun k_ => (P k_ ∨ w.heap.size ≤ k_) ∧ k_ ≠ w.heap.size ∧ some k_ ≠ v6'.ownBlock) u2 o2) := ⟨Kd.S_mono hS3 (fun k_ hk => ⟨hk.1.1, hk.1.2, hk.2⟩)⟩; have HR3 := Aside0.mk ho; have HF3 := Aside0.mk (blk_grown (by exact HF2.out) hg (Kd.R_ne HR2.out HF2.out (by decide))); have HT3 := Aside0.mk (blk_grown (by exact HT2.out) hg (Kd.R_ne HR2.out HT2.out (by decide))); have HK53 := Aside0.mk (blk_grown (by exact HK52.out) hg (Kd.R_ne HR2.out HK52.out (by decide))); have HB3 := Aside0.mk (below_grown_i HB2.out hg (fun k_ hk => by have := HW0.out; have := Kd.R_base HR2.out k_ hk; omega)); have HTU3 := Aside0.mk (HTU2.out.trans (Turned.grown hg) (fun k_ hk => .inl (by have := Kd.R_base HR2.out k_ hk; omega))); clear ho hb hg hat hS3))
    go_roundg (n3.length - (j + 1))
    case measure => have := HX.out; omega
    case rel => exact ⟨j + 1, o2, ks ++ [(o2.length : Int) - 1], _, _, rfl, (by first | rfl | rw [bW j (by have := HX.out; have := HML.out; omega)]), ⟨by have := HX.out; omega⟩, HN2, HF3, HT3, HK53, HO3, HR3, HB3, HTU3, HA2⟩
   ·have cb : decide ((j : Int) < (n3.length : Int)) = false := by simpa using c1
    have hn := HC.out
    rw [show j = n3.length by have := HX.out; omega, List.drop_length] at hn
    injection hn with hn
    injection hn with e1 e2
    subst e1 e2
    have he := HE.out
    unfold buildEnd at he
    split at he
    rotate_left
    ·cases he
    next hbo =>
    injection he with he
    obtain ⟨AX, cX, rfl⟩ := Kd.S_slice HO.out
    obtain ⟨A6, c6, rfl⟩ := Kd.R_slice HR6.out
    obtain ⟨f0, f1, f2, f3, f4, f5, f6, f7⟩ := cells4_i HK5.out
    go_upto_region 10 with (fail)
    obtain ⟨w3, hw3⟩ : ∃ w3, w3 = wr.setCell ⟨w.heap.size, 3, none⟩ (.slice A6 ks.length c6) := ⟨_, rfl⟩
    rw [← hw3]
    have HK53 : Aside0 (w3.heap[w.heap.size]? = some (.cells #[.int .i64 n0, .string n1, .int .i64 n2, .slice A6 ks.length c6] 56 (0, 0))) := ⟨by rw [hw3]; exact blk_put HK5.out 3 _ rfl⟩
    have HF3 : Aside0 (w3.heap[gf]? = some (.cells #[.pointer (some ⟨gt, 0, none⟩), .slice AX o.length cX, U] 45 (0, 0))) := ⟨by rw [hw3]; exact (Below.heap_setCell _ _ _ gf (Ne.symm HNEW.out)).trans HF.out⟩
    have HO3 : Aside0 (Kd.S k56 56 w3 w0.heap.size (fun k_ => (P k_ ∨ w.heap.size ≤ k_) ∧ k_ ≠ w.heap.size ∧ some k_ ≠ (Value.slice A6 ks.length c6).ownBlock) (.slice AX o.length cX) o) := ⟨by rw [hw3]; exact Kd.S_far HO.out (fun k_ hk => hk.2.1) _⟩
    have HR3 : Aside0 (Kd.R (Kd.int .i64) 3 w3 (w.heap.size + 1) (fun _ => True) (.slice A6 ks.length c6) ks) := ⟨by rw [hw3]; exact R_turned' HR6.out rfl ((Turned.refl wr w.heap.size none).set' 3 _) (Kd.R_ne HR6.out HK5.out (by decide)) (fun k_ hk => by cases hk)⟩
    have HB3 : Aside0 (Below w0.heap.size w0 w3) := ⟨by rw [hw3]; exact below_set HBw.out HW0.out⟩
    have HTU3 : Aside0 (Turned w w3 gf u.ownBlock) := ⟨by rw [hw3]; exact HTU.out.set (Nat.le_refl _) 3 _⟩
    clear hw3 f0 f1 f2 f3 f4 f5 f6 f7 HK5 HF HT HO HR6 HBw HTU HPO
    unfold buildOk at hbo
    simp only [Bool.and_eq_true, decide_eq_true_eq, Bool.or_eq_true] at hbo
    obtain ⟨⟨⟨⟨⟨hb8, hb9⟩, hbi⟩, hbl0⟩, hbl1⟩, hbg, hbs⟩ := hbo
    have hbin : n0 = 8 ∨ n0 = 9 → ∀ x ∈ ks, 0 ≤ x ∧ x < (o.length : Int) := fun hq x hx => by
     rcases hbi with h | h
     ·exact absurd hq h
     ·exact of_decide_eq_true (List.all_eq_true.1 h x hx)
    obtain ⟨_, hoc, hoC⟩ := Kd.S_reads' HO3.out
    obtain ⟨_, hkc, hkC⟩ := Kd.R_reads' HR3.out
    have hfold := folded32 gf AX cX o n0 n1 n2 A6 c6 ks w3 ((blk_cell HF3.out 1).trans rfl) hoC hkC hb8 hb9 hbin _ _ _ _ rfl rfl rfl rfl hbl0 hbl1
    have hcall : ∃ (y0 : Int) (y1 : ByteArray) (y2 : Int) (y3 : List Int) (A7 : Option Addr) (c7 g : Nat), foldedB o ⟨n0, n1, n2, n3⟩ ks = (⟨y0, y1, y2, y3⟩, g) ∧ Calls Try.prog 32 #[.pointer (some ⟨gf, 0, none⟩), .agg #[.int .i64 n0, .string n1, .int .i64 n2, .slice A6 ks.length c6]] w3 (fun e w' => e = .returned (.tuple #[.agg #[.int .i64 y0, .string y1, .int .i64 y2, .slice A7 y3.length c7], .int .i64 (g : Int)]) ∧ Below w3.heap.size w3 w') ∧ Kd.R (Kd.int .i64) 3 w3 (w.heap.size + 1) (fun k_ => some k_ = (Value.slice A6 ks.length c6).ownBlock) (.slice A7 y3.length c7) y3 := by
     unfold foldedB
     dsimp only
     cases hs : Own.smallB n0 n2 (rd_T56 o (rd ks 0)).f0 (rd_T56 o (rd ks 0)).f2 (rd_T56 o (rd ks 1)).f0 (rd_T56 o (rd ks 1)).f2 with
     | none =>
      rw [hs] at hfold
      exact ⟨n0, n1, n2, ks, A6, c6, 0, rfl, hfold, Kd.R_mono (Kd.R_tight rfl HR3.out) (fun _ h_ => h_)⟩
     | some p =>
      rw [hs] at hfold
      exact ⟨p.1, ⟨#[]⟩, p.2, [], none, 0, ks.length, rfl, hfold, Kd.R_nil _ _ _ _ _⟩
    obtain ⟨y0, y1, y2, y3, A7, c7, g, hfb, hcl, hR7⟩ := hcall
    rw [hfb] at he hbg
    dsimp only at he hbg
    subst he
    have HCL := Aside0.mk hcl
    have HR7 := Aside0.mk hR7
    have HBG := Aside0.mk hbg
    have HBS := Aside0.mk hbs
    have HOC := Aside0.mk hoc
    clear hb8 hb9 hbi hbin hbl0 hbl1 hbg hbs hoc hoC hkc hkC hfold hfb hcl hR7
    obtain ⟨f0, f1, f2, f3, _, _, _, _⟩ := cells4_i HK53.out
    go_upto_region 11 with (go_at_call 32; (with_reducible refine (HCL.out).mono ?_); rintro e w4 ⟨rfl, hb4⟩; have HB4 := Aside0.mk hb4; clear hb4)
    obtain ⟨wq, hwq⟩ : ∃ wq, wq = w4.alloc (.cells #[.int .i64 y0, .string y1, .int .i64 y2, .slice A7 y3.length c7] 56) := ⟨_, rfl⟩
    rw [← hwq]
    have hbq : Below w3.heap.size w3 wq := by rw [hwq]; exact below_step HB4.out (below_alloc (Below.refl _ _) _)
    have k10 : wq.heap[w4.heap.size]? = some (.cells #[.int .i64 y0, .string y1, .int .i64 y2, .slice A7 y3.length c7] 56 (0, 0)) := by rw [hwq]; exact blk_new _ _
    have HFq := Aside0.mk (blk_below HF3.out hbq)
    have HOq : Aside0 (Kd.S k56 56 wq w0.heap.size (fun k_ => (P k_ ∨ w.heap.size ≤ k_) ∧ ¬ some k_ = (Value.slice A7 y3.length c7).ownBlock) (.slice AX o.length cX) o) := ⟨Kd.S_mono (Kd.S_below HO3.out hbq) (fun k_ hk => ⟨hk.1, fun e => hk.2.2 (HR7.out.1 _ e.symm)⟩)⟩
    have HRq := Aside0.mk (Kd.R_below HR7.out hbq)
    have HBq := Aside0.mk (below_step HB3.out hbq)
    have HTUq := Aside0.mk (HTU3.out.below hbq)
    have HSL := Aside0.mk (show ∀ k_, (Value.slice AX o.length cX).ownBlock = some k_ → k_ < w3.heap.size from Kd.S_lt HO3.out)
    have hs34 : w3.heap.size ≤ w4.heap.size := HB4.out.size
    have HNB := Aside0.mk (show ∀ k_, some k_ = (Value.slice A7 y3.length c7).ownBlock → some k_ ≠ (Value.slice AX o.length cX).ownBlock from fun k_ e e2 => (HO3.out.choose_spec.1 k_ e2.symm).2.2 (HR7.out.1 _ e.symm))
    have HWq := Aside0.mk (show w.heap.size + 1 ≤ wq.heap.size from Nat.le_trans (blk_lt HK53.out) hbq.size)
    have hne10 : some w4.heap.size ≠ (Value.slice AX o.length cX).ownBlock := fun e => by have := HSL.out _ e.symm; omega
    have c100 := (blk_cell k10 0).trans rfl
    have c101 := (blk_cell k10 1).trans rfl
    have c102 := (blk_cell k10 2).trans rfl
    have c103 := (blk_cell k10 3).trans rfl
    have q0 := (blk_cell HFq.out 0).trans rfl
    have q1 := (blk_cell HFq.out 1).trans rfl
    have q2 := (blk_cell HFq.out 2).trans rfl
    have r1 := blk_frozen HFq.out 1
    have hlgf : gf < wq.heap.size := blk_lt HFq.out
    have hl10 : w4.heap.size < wq.heap.size := blk_lt k10
    have ws : wrap64 ((o.length : Int) - (g : Int)) = ((o.length - g : Nat) : Int) := by have := HBG.out; have := HBS.out; unfold wrap64; omega
    have ws2 : IntKind.i64.wrap ((o.length : Int) - (g : Int)) = ((o.length - g : Nat) : Int) := by
     have := HBG.out
     have := HBS.out
     exact (IntWalk.i64_in _ (by omega)).trans (by omega)
    have hfc : o.length - g ≤ cX := by have := HOC.out; omega
    have hfi : ((o.length - g : Nat) : Int) ≤ (cX : Int) := by omega
    have hf0 : (0 : Int) ≤ ((o.length - g : Nat) : Int) := by omega
    clear hwq hbq k10 hs34 f0 f1 f2 f3
    have HLN : Aside0 ((o.take (o.length - g) ++ [(⟨y0, y1, y2, y3⟩ : S56)]).length = o.length - g + 1) := ⟨by
     rw [List.length_append, List.length_take]
     show min (o.length - g) o.length + 1 = o.length - g + 1
     omega⟩
    go_cut [62] (fun v62 wc => ∃ (A8 : Option Addr) (c8 : Nat), Aside0 (wc.heap[gf]? = some (.cells #[.pointer (some ⟨gt, 0, none⟩), .slice A8 (o.length - g + 1) c8, U] 45 (0, 0))) ∧ Aside0 (Kd.S k56 56 wc w0.heap.size (fun k_ => P k_ ∨ w.heap.size ≤ k_) (.slice A8 (o.length - g + 1) c8) (o.take (o.length - g) ++ [(⟨y0, y1, y2, y3⟩ : S56)])) ∧ Aside0 (Below w0.heap.size w0 wc) ∧ Aside0 (Turned w wc gf u.ownBlock) ∧ Aside0 ((Value.slice A8 (o.length - g + 1) c8).ownBlock = u.ownBlock ∨ ∃ b, (Value.slice A8 (o.length - g + 1) c8).ownBlock = some b ∧ w.heap.size ≤ b))
    case first =>
     go_region_law (rw [show (wq.alloc (.cells #[.int .i64 y0, .string y1, .int .i64 y2, .slice A7 y3.length c7] 56)).drew = wq.drew.alloc (.cells #[.int .i64 y0, .string y1, .int .i64 y2, .slice A7 y3.length c7] 56) from rfl]; refine Kd.S_append_step k56 (w0 := w0) w0.heap.size (by rfl) (.tmp 59) (.tmp 61) 27 56 (.agg #[(.int .i64 0), (.string ⟨#[]⟩), (.int .i64 0), (.slice none 0 0)]) 56 rfl Try.underlying27 info56 rfl (by decide) (by omega) (.slice AX (o.length - g) cX) (o.take (o.length - g)) (⟨y0, y1, y2, y3⟩ : S56) [.int .i64 y0, .string y1, .int .i64 y2, .slice A7 y3.length c7] (fun k_ => P k_ ∨ w.heap.size ≤ k_) (fun k_ => some k_ = (Value.slice A7 y3.length c7).ownBlock) rfl rfl ?aP ?aK ?aF ?aO ?aB ?aS ?aL ?_; (case aP => exact k56_mkM _ _ _ _ (Kd.R_mono (Kd.R_tight rfl (Kd.R_lower (Kd.R_drew HRq.out) (by have := HW0.out; omega))) (fun _ h_ => h_))); (case aK => exact (fun k_ hk => ⟨.inr (by have := Kd.R_base HRq.out k_ hk.symm; omega), fun e => HNB.out k_ hk (e.trans (own_len_i _ _ _ _ _))⟩)); (case aB => exact below_drew1 HBq.out); (case aF => exact (fun k_ hk => .inr (Nat.le_trans (Nat.le_trans (Nat.le_succ _) HWq.out) hk))); (case aO => exact Kd.S_drew (Kd.S_take HOq.out (Nat.sub_le _ _))); (case aS => exact (below_drew1 HBq.out).size); (case aL => rw [List.length_take]; have := HBS.out; omega); intro v1 w6 ho hb hg hat; obtain ⟨A8, c8, e8⟩ := Kd.S_slice ho; rw [HLN.out] at e8; subst e8; have HO6 := Aside0.mk ho; have HB6 := Aside0.mk hb; have HG6 := Aside0.mk hg; have HA6 := Aside0.mk hat; have k6 := blk_grown (g := gf) (show wq.drew.heap[gf]? = some (.cells #[.pointer (some ⟨gt, 0, none⟩), .slice AX o.length cX, U] 45 (0, 0)) from HFq.out) hg (fun e => Kd.S_ne HOq.out HFq.out (by decide) (e.trans (own_len_i _ _ _ _ _))); have K6 := Aside0.mk k6; have s0 := (blk_cell k6 0).trans rfl; have s1 := (blk_cell k6 1).trans rfl; have s2 := (blk_cell k6 2).trans rfl; have s3 := blk_frozen k6 1; clear k6)
     all_goals go_wp2
     all_goals go_meet
     all_goals exact ⟨_, _, ⟨blk_put K6.out 1 _ rfl⟩, ⟨Kd.S_set HO6.out K6.out (by decide) 1 _⟩, ⟨below_set HB6.out HGF.out⟩, ⟨(HTUq.out.trans (⟨HG6.out.size, fun k_ hk _ hne => HG6.out.block k_ hk (fun e => hne (e.trans (own_len_i _ _ _ _ _)))⟩ : Turned wq _ gf (Value.slice AX o.length cX).ownBlock) (fun k_ hk => by
      rcases HA.out with h | ⟨b, h, hle⟩
      ·exact .inr (hk.symm.trans h)
      ·rw [h] at hk; injection hk with hk; exact .inl (by omega))).trans ((Turned.refl _ gf none).set' 1 _) (fun k_ hk => by cases hk)⟩, ⟨hat_trans_i HTUq.out.1 HA.out (by
      rcases HA6.out with h | h
      ·exact .inl (h.trans (own_len_i _ _ _ _ _))
      ·exact .inr h)⟩⟩
    case rest =>
     obtain ⟨A8, c8, HF8, HO8, HB8, HTU8, HA8⟩ := hcut
     have q8 := (blk_cell HF8.out 1).trans rfl
     have hfin : wrap64 ((o.length - g : Nat) : Int) = ((o.take (o.length - g) ++ [(⟨y0, y1, y2, y3⟩ : S56)]).length : Int) - 1 := by
      rw [HLN.out]
      have := HBS.out
      unfold wrap64
      omega
     have HFN := Aside0.mk hfin
     clear hfin q0 q1 q2 r1 c100 c101 c102 c103
     go_wp2
     go_ret
     exact ⟨_, by rw [← HFN.out]; rfl, HF8.out, HO8.out, HB8.out, HTU8.out, HA8.out⟩
def foldTops (rec : Int → List S56 → Option (List S56)) : List Int → List S56 → List Int → Option (List S56 × List Int)
 | [], o, ts => some (o, ts)
 | x :: r, o, ts => (rec x o).bind fun o2 => if 0 < o2.length ∧ o2.length ≤ 1000000 ∧ ts.length ≤ 1000000 then foldTops rec r o2 (ts ++ [(o2.length : Int) - 1]) else none
def impl_Fold.f (k : Nat) (l0_0 : List S56) (l0_1 : List Int) : Option (List S56 × List Int × Bool) :=
 (impl_TreeOk.f k l0_0 l0_1).bind fun b => if b = true then (foldTops (fun x o => buildF k l0_0 x o) l0_1 [] []).bind fun r => some (r.1, r.2, true) else some ([], [], false)
theorem cells2 {W : World} {g t : Nat} {c0 c1 : Value} (h : W.heap[g]? = some (.cells #[c0, c1] t (0, 0))) : W.cell? ⟨g, 0, none⟩ = some c0 ∧ W.cell? ⟨g, 1, none⟩ = some c1 ∧ W.frozen? ⟨g, 0, none⟩ = false ∧ W.frozen? ⟨g, 1, none⟩ = false := ⟨blk_cell h 0, blk_cell h 1, blk_frozen h 0, blk_frozen h 1⟩
set_option maxHeartbeats 4000000 in
set_option maxRecDepth 100000 in
theorem impl_Fold.calls (k : Nat) (A0_0 : Option Addr) (c0_0 : Nat) (l0_0 : List S56) (A0_1 : Option Addr) (c0_1 : Nat) (l0_1 : List Int) (r1 : List S56) (r2 : List Int) (r3 : Bool) (w : World) (hr0_0 : Kd.C k56 w A0_0 l0_0.length l0_0) (hc0_0 : l0_0.length ≤ c0_0) (hr0_1 : Kd.C (Kd.int .i64) w A0_1 l0_1.length l0_1) (hc0_1 : l0_1.length ≤ c0_1) (h : impl_Fold.f k l0_0 l0_1 = some (r1, r2, r3)) :
  Calls Try.prog 7 #[.agg #[.slice A0_0 l0_0.length c0_0, .slice A0_1 l0_1.length c0_1]] w fun e w' => ∃ v0_ v1_ : Value, e = .returned (.tuple #[.agg #[v0_, v1_], .bool r3]) ∧ Kd.S k56 56 w' w.heap.size (fun k_ => some k_ ≠ (v1_ : Value).ownBlock) v0_ r1 ∧ Kd.R (Kd.int .i64) 3 w' w.heap.size (fun _ => True) v1_ r2 ∧ Below w.heap.size w w' := by
 have hu29 := Try.underlying29
 have hu45 := Try.underlying45
 unfold impl_Fold.f at h
 obtain ⟨b, hb, h⟩ := Option.bind_eq_some_iff.mp h
 have HBB := Aside0.mk hb
 have HN := Aside0.mk hr0_0
 have HC := Aside0.mk hc0_0
 have HR1 := Aside0.mk hr0_1
 have HC1 := Aside0.mk hc0_1
 clear hb hr0_0 hr0_1 hc0_0 hc0_1
 cases b with
 | false =>
  rw [if_neg Bool.false_ne_true] at h
  injection h with h
  injection h with e1 h
  injection h with e2 e3
  subst e1 e2 e3
  go_enter Try.func7, Try.ntmps7
  go_wp2_with (go_at_call 17; (with_reducible refine (impl_TreeOk.calls k _ _ l0_0 _ _ l0_1 false _ (Kd.C_below HN.out (below_alloc (below_alloc (Below.refl _ _) _) _)) HC.out (Kd.C_below HR1.out (below_alloc (below_alloc (Below.refl _ _) _) _)) HC1.out HBB.out).mono ?_); rintro e w5 ⟨rfl, hb5⟩; have k2 : w5.heap[w.heap.size + 1]? = some (.cells #[.slice none 0 0, .slice none 0 0] 29 (0, 0)) := blk_below (blk2_i _ _ _) hb5; obtain ⟨f0, f1, f2, f3⟩ := cells2 k2; have K2 := Aside0.mk k2; have HB5 := Aside0.mk (below_step (below_alloc (below_alloc (Below.refl _ _) _) _) hb5); clear hb5 k2)
  refine bodyPost_ret (results_ct rfl _ _ (w.heap.size + 1) 29 _ (0, 0) _ rfl (blk_put (blk_put K2.out 0 _ rfl) 1 _ rfl) hu29 rfl rfl) rfl ⟨_, _, rfl, Kd.S_nil _ _ _ _ _, Kd.R_nil _ _ _ _ _, below_set (below_set HB5.out (by show w.heap.size ≤ w.heap.size + 1; omega)) (by show w.heap.size ≤ w.heap.size + 1; omega)⟩
 | true =>
  rw [if_pos rfl] at h
  obtain ⟨⟨o1, ts1⟩, hft, h⟩ := Option.bind_eq_some_iff.mp h
  injection h with h
  injection h with e1 h
  injection h with e2 e3
  subst e1 e2 e3
  have HFT := Aside0.mk hft
  clear hft
  go_enter Try.func7, Try.ntmps7
  go_upto_region 3 with (go_at_call 17; (with_reducible refine (impl_TreeOk.calls k _ _ l0_0 _ _ l0_1 true _ (Kd.C_below HN.out (below_alloc (below_alloc (Below.refl _ _) _) _)) HC.out (Kd.C_below HR1.out (below_alloc (below_alloc (Below.refl _ _) _) _)) HC1.out HBB.out).mono ?_); rintro e w5 ⟨rfl, hb5⟩; have k1 : w5.heap[w.heap.size]? = some (.cells #[.slice A0_0 l0_0.length c0_0, .slice A0_1 l0_1.length c0_1] 29 (0, 0)) := blk_below (blk_alloc (blk_new _ _) _) hb5; have k2 : w5.heap[w.heap.size + 1]? = some (.cells #[.slice none 0 0, .slice none 0 0] 29 (0, 0)) := blk_below (blk2_i _ _ _) hb5; have K1 := Aside0.mk k1; have K2 := Aside0.mk k2; have HB5 := Aside0.mk (below_step (below_alloc (below_alloc (Below.refl _ _) _) _) hb5); clear hb5 k1 k2)
  go_upto_region 4 with (fail)
  obtain ⟨wq, hwq⟩ : ∃ wq, wq = w5.alloc (.cells #[.pointer (some ⟨w.heap.size, 0, none⟩), .slice none 0 0, .slice none 0 0] 45) := ⟨_, rfl⟩
  rw [← hwq]
  have hbq : Below w5.heap.size w5 wq := by rw [hwq]; exact below_alloc (Below.refl _ _) _
  have KF : Aside0 (wq.heap[w5.heap.size]? = some (.cells #[.pointer (some ⟨w.heap.size, 0, none⟩), .slice none 0 0, .slice none 0 0] 45 (0, 0))) := ⟨by rw [hwq]; exact blk_new _ _⟩
  have K1q := Aside0.mk (blk_below K1.out hbq)
  have K2q := Aside0.mk (blk_below K2.out hbq)
  have HBq := Aside0.mk (below_step HB5.out hbq)
  have hlt2 : w.heap.size + 1 < w5.heap.size := blk_lt K2.out
  have HGW := Aside0.mk (show w.heap.size ≤ w5.heap.size by omega)
  have HG1 := Aside0.mk (show w5.heap.size ≠ w.heap.size by omega)
  have HG2 := Aside0.mk (show w5.heap.size ≠ w.heap.size + 1 by omega)
  clear hwq hbq hlt2 K1 K2 HB5
  generalize w5.heap.size = gf at KF HGW HG1 HG2 ⊢
  have g1 := (blk_cell K1q.out 1).trans rfl
  have HML := Aside0.mk (show l0_1.length ≤ 9223372036854775807 from HR1.out.2.1)
  go_wp2
  go_loopg [17] l0_1.length (fun kq v17 w' => ∃ (j : Nat) (o : List S56) (ts : List Int) (u1 U : Value), v17 = .int .i64 (j : Int) ∧ Aside0 (j + kq = l0_1.length) ∧ Aside0 (foldTops (fun x o => buildF k l0_0 x o) (l0_1.drop j) o ts = some (o1, ts1)) ∧ Aside0 (w'.heap[gf]? = some (.cells #[.pointer (some ⟨w.heap.size, 0, none⟩), u1, U] 45 (0, 0))) ∧ Aside0 (w'.heap[w.heap.size]? = some (.cells #[.slice A0_0 l0_0.length c0_0, .slice A0_1 l0_1.length c0_1] 29 (0, 0))) ∧ Aside0 (w'.heap[w.heap.size + 1]? = some (.cells #[.slice none 0 0, .slice none 0 0] 29 (0, 0))) ∧ Aside0 (Kd.S k56 56 w' w.heap.size (fun k_ => some k_ ≠ U.ownBlock) u1 o) ∧ Aside0 (Kd.R (Kd.int .i64) 3 w' w.heap.size (fun _ => True) U ts) ∧ Aside0 (Below w.heap.size w w'))
  case atStart => exact ⟨0, [], [], _, _, rfl, ⟨by omega⟩, ⟨by rw [List.drop_zero]; exact HFT.out⟩, KF, K1q, K2q, ⟨Kd.S_nil _ _ _ _ _⟩, ⟨Kd.R_nil _ _ _ _ _⟩, HBq⟩
  case round =>
   clear KF K1q K2q HBq
   obtain ⟨j, o, ts, u1, U, rfl, HX, HC2, HF, HT, H2, HO, HRU, HB⟩ := hrel
   obtain ⟨AU, cU, rfl⟩ := Kd.R_slice HRU.out
   obtain ⟨AO, cO, rfl⟩ := Kd.S_slice HO.out
   have HPO := Aside0.mk HO.out.choose_spec.1
   by_cases c1 : j < l0_1.length
   ·have cb : decide ((j : Int) < (l0_1.length : Int)) = true := by simpa using c1
    obtain ⟨ad, ead, hx⟩ := Kd.at_int (Kd.C_below HR1.out HB.out) (j : Int) (by omega) (by omega)
    cases ead
    rw [Int.toNat_natCast] at hx
    have hrd : rd l0_1 (j : Int) = l0_1[j] := by
     unfold rd
     rw [Int.toNat_natCast, List.getD_eq_getElem?_getD, List.getElem?_eq_getElem c1]
     rfl
    have hn := HC2.out
    rw [List.drop_eq_getElem_cons c1, ← hrd] at hn
    generalize rd l0_1 (j : Int) = x at hx hn
    unfold foldTops at hn
    obtain ⟨o2, hrec, hn⟩ := Option.bind_eq_some_iff.mp hn
    split at hn
    rotate_left
    ·cases hn
    next hsz =>
    have HN2 := Aside0.mk hn
    have HSZ := Aside0.mk hsz
    have HCALL := Aside0.mk (build18.calls gf w.heap.size (Value.slice AU ts.length cU) A0_0 c0_0 l0_0 (some ad) c0_1 l0_1 w HN ⟨Nat.le_refl _⟩ HGW HG1 k x (fun k_ => some k_ ≠ (Value.slice AU ts.length cU).ownBlock) _ o o2 wr HB.out HF.out HT.out HO.out hrec)
    clear hrec hn hsz hrd g1
    go_wp2_with (first
     | (go_at_call 18; (with_reducible refine (HCALL.out).mono ?_); rintro e w2 ⟨u2, rfl, hf2, ho, hb, ht, hat⟩; have hU : ∀ k_, (Value.slice AU ts.length cU).ownBlock = some k_ → k_ < wr.heap.size := Kd.R_lt HRU.out; have HO2 : Aside0 (Kd.S k56 56 w2 w.heap.size (fun k_ => some k_ ≠ (Value.slice AU ts.length cU).ownBlock) u2 o2) := ⟨Kd.S_mono ho (fun k_ hk => by rcases hk with hk | hk; exact hk; exact fun e => by have := hU _ e.symm; omega)⟩; have HR2 := Aside0.mk (R_turned' HRU.out rfl ht (Kd.R_ne HRU.out HF.out (by decide)) (fun k_ hk => HPO.out _ hk)); have HT2 := Aside0.mk ((ht.2 w.heap.size (blk_lt HT.out) (Ne.symm HG1.out) (Kd.S_ne HO.out HT.out (by decide))).trans HT.out); have H22 := Aside0.mk ((ht.2 (w.heap.size + 1) (blk_lt H2.out) (Ne.symm HG2.out) (Kd.S_ne HO.out H2.out (by decide))).trans H2.out); have HF2 := Aside0.mk hf2; have HB2 := Aside0.mk hb; have q1 := (blk_cell hf2 2).trans rfl; clear hf2 ho hb ht hat hU)
     | ((with_reducible refine gate_builtin (b := .append) (xs := #[.tmp 29, .tmp 31]) rfl ?_); at_builtin; refine Kd.R_append (Kd.int .i64) (w0 := w) w.heap.size rfl (.tmp 29) (.tmp 31) 23 3 (.int .i64 0) 8 rfl Try.underlying23 info3 rfl (by decide) (by omega) (Value.slice AU ts.length cU) ts ((o2.length : Int) - 1) [.int .i64 ((o2.length : Int) - 1)] (fun _ => True) (fun _ => False) rfl rfl ?aP (fun _ hk => hk.elim) ?aF ?aO ?aB ?aS ?aL ?_; (case aP => exact rfl); (case aB => exact HB2.out); (case aF => exact (fun _ _ => trivial)); (case aO => exact HR2.out); (case aS => exact HB2.out.size); (case aL => have := HSZ.out; omega); intro U3 w3 ho hb hg hat; have hS3 := Kd.S_after (v := (Value.slice AU ts.length cU)) (v1 := U3) (Kd.S_mono HO2.out (fun k_ hk => (⟨trivial, hk⟩ : True ∧ some k_ ≠ (Value.slice AU ts.length cU).ownBlock))) hg hat; obtain ⟨A3, c3, e3⟩ := Kd.R_slice ho; rw [List.length_append] at e3; subst e3; have HO3 := Aside0.mk (Kd.S_mono hS3 (fun k_ hk => hk.2)); have HR3 := Aside0.mk ho; have HF3 := Aside0.mk (blk_grown (by exact HF2.out) hg (Kd.R_ne HR2.out HF2.out (by decide))); have HT3 := Aside0.mk (blk_grown (by exact HT2.out) hg (Kd.R_ne HR2.out HT2.out (by decide))); have H23 := Aside0.mk (blk_grown (by exact H22.out) hg (Kd.R_ne HR2.out H22.out (by decide))); have HB3 := Aside0.mk hb; clear q1; have q1 := (blk_cell HF3.out 2).trans rfl; have q2 := blk_frozen HF3.out 2; clear ho hb hg hat hS3))
    go_roundg (l0_1.length - (j + 1))
    case measure => have := HX.out; omega
    case rel => exact ⟨j + 1, o2, ts ++ [(o2.length : Int) - 1], _, _, (by first | rfl | rw [bW j (by have := HX.out; have := HML.out; omega)]), ⟨by have := HX.out; omega⟩, HN2, ⟨blk_put HF3.out 2 _ rfl⟩, ⟨(Below.heap_setCell _ _ _ _ (Ne.symm HG1.out)).trans HT3.out⟩, ⟨(Below.heap_setCell _ _ _ _ (Ne.symm HG2.out)).trans H23.out⟩, ⟨Kd.S_set HO3.out HF3.out (by decide) 2 _⟩, ⟨Kd.R_set HR3.out HF3.out (by decide) 2 _⟩, ⟨below_set HB3.out HGW.out⟩⟩
   ·have cb : decide ((j : Int) < (l0_1.length : Int)) = false := by simpa using c1
    have hn := HC2.out
    rw [show j = l0_1.length by have := HX.out; omega, List.drop_length] at hn
    injection hn with hn
    injection hn with e1 e2
    subst e1 e2
    have q1 := (blk_cell HF.out 1).trans rfl
    have q2 := (blk_cell HF.out 2).trans rfl
    obtain ⟨f0, f1, f2, f3⟩ := cells2 H2.out
    go_wp2
    refine bodyPost_ret (results_ct rfl _ _ (w.heap.size + 1) 29 _ (0, 0) _ rfl (blk_put (blk_put H2.out 0 _ rfl) 1 _ rfl) hu29 rfl rfl) rfl ⟨_, _, rfl, Kd.S_set (Kd.S_set HO.out H2.out (by decide) 0 _) (blk_put H2.out 0 _ rfl) (by decide) 1 _, Kd.R_set (Kd.R_set HRU.out H2.out (by decide) 0 _) (blk_put H2.out 0 _ rfl) (by decide) 1 _, below_set (below_set HB.out (by show w.heap.size ≤ w.heap.size + 1; omega)) (by show w.heap.size ≤ w.heap.size + 1; omega)⟩


end Go.Proofs.Ytiiakeakfllpjaa.PFnExactFold
