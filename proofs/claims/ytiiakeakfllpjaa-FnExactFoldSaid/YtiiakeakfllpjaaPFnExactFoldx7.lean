-- written by wip/tools/myprint.py out of the program's own print
import Derived.Test.YtiiakeakfllpjaaPFnExactFoldx0
namespace Go.Proofs.Ytiiakeakfllpjaa.PFnExactFold
open Go.Proofs.Ytiiakeakfllpjaa.Own (rS cS bS rB rN rT kS kC kc10 kf10)
open Go.RowKit Go.Proofs.YtiiakeakfllpjaaW.PrintWords Go.Proofs.YtiiakeakfllpjaaW.PrintLast Go.Proofs.YtiiakeakfllpjaaW.PrintMore
attribute [local go_sem] max2_int min2_int max_two min_two max_three min_three max_four min_four   -- for this text's walks alone
set_option linter.unusedVariables false
set_option linter.unusedSimpArgs false

/-! ### spec_l23Copy: function 14 -/
attribute [local go_sem] Go.Proofs.Ytiiakeakfllpjaa.Own.run_store_float
theorem blk3 (w : World) (a b r : Obj) : (((w.alloc a).alloc b).alloc r).heap[w.heap.size + 1 + 1]? = some r := by
 have h := blk_new ((w.alloc a).alloc b) r
 have e : ((w.alloc a).alloc b).heap.size = w.heap.size + 1 + 1 := by simp
 rwa [e] at h
theorem blk2 (w : World) (a r : Obj) : ((w.alloc a).alloc r).heap[w.heap.size + 1]? = some r := by
 have h := blk_new (w.alloc a) r
 have e : (w.alloc a).heap.size = w.heap.size + 1 := by simp
 rwa [e] at h
set_option maxRecDepth 100000 in
theorem ret72 {fn : Func} {p u : Tmp} (hr : fn.results = #[.cell p 72, .tmp u]) {a : Act} {w W : World} (g : Nat) (v : Int × Int × Nat × Nat × Int) (hb : W.heap[g]? = some (.cells #[.int .i64 v.1, .int .i64 v.2.1, .float .f64 v.2.2.1, .float .f64 v.2.2.2.1] 72 (0, 0))) (hp : a.tmps.getD p undef = .pointer (some ⟨g, 0, none⟩)) (hc : a.tmps.getD u undef = .int .i64 v.2.2.2.2) (hd : a.defers = []) (hB : Below w.heap.size w W) :
  bodyPost Try.prog fn (fun e w' => e = .returned (.tuple #[.agg #[.int .i64 v.1, .int .i64 v.2.1, .float .f64 v.2.2.1, .float .f64 v.2.2.2.1], .int .i64 v.2.2.2.2]) ∧ Below w.heap.size w w') .ret a W := by
 refine bodyPost_ret (results_ct hr _ _ g 72 _ (0, 0) _ hp hb Try.underlying72 rfl rfl) hd ⟨?_, hB⟩
 rw [hc]
theorem cells4 {W : World} {g t : Nat} {c0 c1 c2 c3 : Value} (h : W.heap[g]? = some (.cells #[c0, c1, c2, c3] t (0, 0))) : W.cell? ⟨g, 0, none⟩ = some c0 ∧ W.cell? ⟨g, 1, none⟩ = some c1 ∧ W.cell? ⟨g, 2, none⟩ = some c2 ∧ W.cell? ⟨g, 3, none⟩ = some c3 ∧ W.frozen? ⟨g, 0, none⟩ = false ∧ W.frozen? ⟨g, 1, none⟩ = false ∧ W.frozen? ⟨g, 2, none⟩ = false ∧ W.frozen? ⟨g, 3, none⟩ = false :=
 ⟨blk_cell h 0, blk_cell h 1, blk_cell h 2, blk_cell h 3, blk_frozen h 0, blk_frozen h 1, blk_frozen h 2, blk_frozen h 3⟩
theorem put4 {W : World} {g t : Nat} {c0 c1 c2 c3 : Value} (h : W.heap[g]? = some (.cells #[c0, c1, c2, c3] t (0, 0))) (d0 d1 d2 d3 : Value) : ((((W.setCell ⟨g, 0, none⟩ d0).setCell ⟨g, 1, none⟩ d1).setCell ⟨g, 2, none⟩ d2).setCell ⟨g, 3, none⟩ d3).heap[g]? = some (.cells #[d0, d1, d2, d3] t (0, 0)) :=
 blk_put (blk_put (blk_put (blk_put h 0 _ rfl) 1 _ rfl) 2 _ rfl) 3 _ rfl
set_option maxRecDepth 100000 in
theorem l1BoolX (b : Bool) (y : Int) (hy : y = if b = true then 1 else 0) (w : World) : Calls Try.prog 57 #[.bool b] w fun e w' => e = .returned (.agg #[.int .i64 4, .int .i64 y, .float .f64 0, .float .f64 0]) ∧ w' = w.alloc (.cells #[.int .i64 4, .int .i64 y, .float .f64 0, .float .f64 0] 72) := by
 have hu := Try.underlying72
 cases b
 all_goals
  subst hy
  go_enter Try.func57, Try.ntmps57
  go_wp2
  refine bodyPost_ret (results_cell_row rfl _ _ w.heap.size 72 _ (0, 0) _ rfl (blk_new w _) hu rfl rfl) rfl (And.intro ?_ ?_) <;> rfl
theorem l1IntOp_mod (a b : Int) (h0 : 0 ≤ a) (h1 : a ≤ 999999999999999) (h2 : 0 < b) (h3 : b ≤ 999999999999999) : wrap64 (a - wrap64 (wrap64 (Int.tdiv a b) * b)) = Int.tmod a b ∧ wrap64 (Int.tdiv a b) = Int.tdiv a b ∧ wrap64 (Int.tmod a b) = Int.tmod a b := by
 have e : Int.tdiv a b * b + Int.tmod a b = a := Int.tdiv_mul_add_tmod a b
 have e1 : Int.tdiv a b = a / b := Int.tdiv_eq_ediv_of_nonneg h0
 have e2 : 0 ≤ Int.tmod a b := Int.tmod_nonneg _ h0
 have e3 : 0 ≤ a / b := Int.ediv_nonneg h0 (by omega)
 have e4 : a / b ≤ a := Int.ediv_le_self _ h0
 have f : ∀ x : Int, 0 ≤ x → x ≤ 999999999999999 → wrap64 x = x := fun x _ _ => by unfold wrap64; omega
 rw [e1] at e ⊢
 generalize a / b = q at *
 generalize Int.tmod a b = r at *
 rw [f q e3 (by omega)]
 have e5 : 0 ≤ q * b := Int.mul_nonneg e3 (by omega)
 generalize q * b = m at *
 rw [f m e5 (by omega), f r e2 (by omega)]
 exact ⟨by rw [f _ (by omega) (by omega)]; omega, rfl, rfl⟩
set_option maxHeartbeats 8000000 in
set_option maxRecDepth 100000 in
theorem spec_l1IntOp.calls' (a0 a1 a2 : Int) (h0 : 0 ≤ a1) (h1 : a1 ≤ 999999999999999) (h2 : 0 ≤ a2) (h3 : a2 ≤ 999999999999999) (v : Int × Int × Nat × Nat × Int) (hv : Own.intB a0 a1 a2 = v) (w : World) :
  Calls Try.prog 58 #[.int .i64 a0, .int .i64 a1, .int .i64 a2] w fun e w' => e = .returned (.tuple #[.agg #[.int .i64 v.1, .int .i64 v.2.1, .float .f64 v.2.2.1, .float .f64 v.2.2.2.1], .int .i64 v.2.2.2.2]) ∧ Below w.heap.size w w' := by
 have hu := Try.underlying72
 have H0 := Aside0.mk h0
 have H1 := Aside0.mk h1
 have H2 := Aside0.mk h2
 have H3 := Aside0.mk h3
 clear h0 h1 h2 h3
 unfold Own.intB at hv
 by_cases c1 : a0 = 1
 ·subst c1
  have HV := Aside0.mk hv
  clear hv
  go_enter Try.func58, Try.ntmps58
  go_wp2
  refine ret72 rfl w.heap.size v ?_ rfl ?_ rfl ?_ <;> first | (rw [← HV.out]; (repeat (first | exact blk_new _ _ | refine blk_drewN ?_ _ | refine blk_alloc ?_ _)); done) | (rw [← HV.out]; rfl) | (repeat (with_reducible first | exact Below.refl _ _ | apply below_alloc | apply pw_below_drewN | apply below_drew1))
 by_cases c2 : a0 = 2
 ·subst c2
  have HV := Aside0.mk hv
  clear hv
  go_enter Try.func58, Try.ntmps58
  go_wp2
  refine ret72 rfl w.heap.size v ?_ rfl ?_ rfl ?_ <;> first | (rw [← HV.out]; (repeat (first | exact blk_new _ _ | refine blk_drewN ?_ _ | refine blk_alloc ?_ _)); done) | (rw [← HV.out]; rfl) | (repeat (with_reducible first | exact Below.refl _ _ | apply below_alloc | apply pw_below_drewN | apply below_drew1))
 by_cases c3 : a0 = 3
 ·subst c3
  have HV := Aside0.mk hv
  clear hv
  go_enter Try.func58, Try.ntmps58
  go_wp2
  refine ret72 rfl w.heap.size v ?_ rfl ?_ rfl ?_ <;> first | (rw [← HV.out]; (repeat (first | exact blk_new _ _ | refine blk_drewN ?_ _ | refine blk_alloc ?_ _)); done) | (rw [← HV.out]; rfl) | (repeat (with_reducible first | exact Below.refl _ _ | apply below_alloc | apply pw_below_drewN | apply below_drew1))
 by_cases c45 : a0 = 4 ∨ a0 = 5
 ·rw [if_neg c1, if_neg c2, if_neg c3, if_pos c45] at hv
  by_cases cb : a2 = 0
  ·subst cb
   have HV := Aside0.mk hv
   clear hv
   rcases c45 with rfl | rfl
   all_goals
    go_enter Try.func58, Try.ntmps58
    go_wp2
    refine ret72 rfl w.heap.size v ?_ rfl ?_ rfl ?_ <;> first | (rw [← HV.out]; (repeat (first | exact blk_new _ _ | refine blk_drewN ?_ _ | refine blk_alloc ?_ _)); done) | (rw [← HV.out]; rfl) | (repeat (with_reducible first | exact Below.refl _ _ | apply below_alloc | apply pw_below_drewN | apply below_drew1))
  ·obtain ⟨m1, m2, m3⟩ := l1IntOp_mod a1 a2 H0.out H1.out (by have := H2.out; omega) H3.out
   have b0 : (a2 == 0) = false := beq_eq_false_iff_ne.2 cb
   have b1 : (a2 == -1) = false := beq_eq_false_iff_ne.2 (by have := H2.out; omega)
   rw [if_neg cb] at hv
   have HV := Aside0.mk hv
   have M1 := Aside0.mk m1
   have M2 := Aside0.mk m2
   clear hv m1 m2 m3
   rcases c45 with rfl | rfl
   all_goals
    go_enter Try.func58, Try.ntmps58
    go_wp2
    refine ret72 rfl w.heap.size v ?_ rfl ?_ rfl ?_ <;> first | (rw [← HV.out]; (try rw [M1.out]); (try rw [M2.out]); (repeat (first | exact blk_new _ _ | refine blk_drewN ?_ _ | refine blk_alloc ?_ _)); done) | (rw [← HV.out]; rfl) | (repeat (with_reducible first | exact Below.refl _ _ | apply below_alloc | apply pw_below_drewN | apply below_drew1))
 have n1 : (a0 == 1) = false := beq_eq_false_iff_ne.2 c1
 have n2 : (a0 == 2) = false := beq_eq_false_iff_ne.2 c2
 have n3 : (a0 == 3) = false := beq_eq_false_iff_ne.2 c3
 have n4 : (a0 == 4) = false := beq_eq_false_iff_ne.2 (fun e => c45 (.inl e))
 have n5 : (a0 == 5) = false := beq_eq_false_iff_ne.2 (fun e => c45 (.inr e))
 rw [if_neg c1, if_neg c2, if_neg c3, if_neg c45] at hv
 clear c1 c2 c3 c45
 by_cases c6 : a0 = 6
 ·subst c6
  obtain ⟨y, hy⟩ : ∃ y : Int, y = if decide (a1 < a2) = true then 1 else 0 := ⟨_, rfl⟩
  have hv' : (4, y, 0, 0, 0) = v := by rw [← hv, hy]; rfl
  have HV := Aside0.mk hv'
  have HY := Aside0.mk hy
  clear hv hy hv'
  go_enter Try.func58, Try.ntmps58
  go_wp2_with (go_at_call 57; (with_reducible refine (l1BoolX _ y HY.out _).mono ?_); rintro e w5 ⟨rfl, rfl⟩)
  refine ret72 rfl w.heap.size v ?_ rfl ?_ rfl ?_ <;> first | (rw [← HV.out]; (repeat (first | exact blk_new _ _ | refine blk_drewN ?_ _ | refine blk_alloc ?_ _)); done) | (rw [← HV.out]; rfl) | (repeat (with_reducible first | exact Below.refl _ _ | apply below_alloc | apply pw_below_drewN | apply below_drew1))
 have n6 : (a0 == 6) = false := beq_eq_false_iff_ne.2 c6
 rw [if_neg c6] at hv
 by_cases c7 : a0 = 7
 ·subst c7
  obtain ⟨y, hy⟩ : ∃ y : Int, y = if (a1 == a2) = true then 1 else 0 := ⟨_, rfl⟩
  have hv' : (4, y, 0, 0, 0) = v := by rw [← hv, hy]; simp [Own.yesB]
  have HV := Aside0.mk hv'
  have HY := Aside0.mk hy
  clear hv hy hv'
  go_enter Try.func58, Try.ntmps58
  go_wp2_with (go_at_call 57; (with_reducible refine (l1BoolX _ y HY.out _).mono ?_); rintro e w5 ⟨rfl, rfl⟩)
  refine ret72 rfl w.heap.size v ?_ rfl ?_ rfl ?_ <;> first | (rw [← HV.out]; (repeat (first | exact blk_new _ _ | refine blk_drewN ?_ _ | refine blk_alloc ?_ _)); done) | (rw [← HV.out]; rfl) | (repeat (with_reducible first | exact Below.refl _ _ | apply below_alloc | apply pw_below_drewN | apply below_drew1))
 have n7 : (a0 == 7) = false := beq_eq_false_iff_ne.2 c7
 rw [if_neg c7] at hv
 have HV := Aside0.mk hv
 clear hv
 go_enter Try.func58, Try.ntmps58
 go_wp2
 refine ret72 rfl w.heap.size v ?_ rfl ?_ rfl ?_ <;> first | (rw [← HV.out]; (repeat (first | exact blk_new _ _ | refine blk_drewN ?_ _ | refine blk_alloc ?_ _)); done) | (rw [← HV.out]; rfl) | (repeat (with_reducible first | exact Below.refl _ _ | apply below_alloc | apply pw_below_drewN | apply below_drew1))
set_option maxHeartbeats 8000000 in
set_option maxRecDepth 100000 in
theorem l1PlusX (w : World) : Calls Try.prog 78 #[.float .f64 0] w fun e w' => e = .returned (.bool true) ∧ w' = w := by
 have c0 : (floatBits .quo .f64 4607182418800017408 0).isSome = true := by kernel_rfl
 have c1 : (FloatKind.f64.format.order 0 0 == some Ordering.eq) = true := by kernel_rfl
 have c2 : (FloatKind.f64.format.order ((floatBits .quo .f64 4607182418800017408 0).getD 0) 0 == some Ordering.gt) = true := by kernel_rfl
 have c3 := fun (t_ : TypeId) (w_ : World) => run_float_arith (P := Try.prog) w_ .quo t_ .f64 _ _ _ (Go.Proofs.Ytiiakeakfllpjaa.Own.some_of (d := 0) c0)
 clear c0
 go_enter Try.func78, Try.ntmps78
 go_wp2
 go_ret
 exact ⟨rfl, rfl⟩
set_option maxRecDepth 100000 in
theorem spec_ValOkX (kd iv : Int) (hk : Own.litOk kd iv 0 0 = true) (w : World) :
  Calls Try.prog 56 #[.agg #[.int .i64 kd, .int .i64 iv, .float .f64 0, .float .f64 0]] w fun e w' => e = .returned (.bool true) ∧ w' = w.alloc (.cells #[.int .i64 kd, .int .i64 iv, .float .f64 0, .float .f64 0] 72) := by
 have hx := of_decide_eq_true hk
 have hu := Try.underlying72
 rcases hx with ⟨_, _, ⟨rfl, _, _⟩ | ⟨rfl, rfl | rfl⟩⟩ <;> clear hk
 all_goals
  go_enter Try.func56, Try.ntmps56
  go_wp2_with (go_at_call 78; (with_reducible refine (l1PlusX _).mono ?_); rintro e w5 ⟨rfl, rfl⟩)
  go_ret
  exact ⟨rfl, rfl⟩
theorem litOk_int {i : Int} (h : Own.litOk 1 i 0 0 = true) : 0 ≤ i ∧ i ≤ 999999999999999 := by
 unfold Own.litOk at h
 have := of_decide_eq_true h
 omega
theorem litOk_kind {k i : Int} (h : Own.litOk k i 0 0 = true) : k = 1 ∨ k = 4 := by
 unfold Own.litOk at h
 have := of_decide_eq_true h
 omega
set_option maxHeartbeats 8000000 in
set_option maxRecDepth 100000 in
theorem spec_ValOpI (op i1 i2 : Int) (H1 : Aside0 (Own.litOk 1 i1 0 0 = true)) (H2 : Aside0 (Own.litOk 1 i2 0 0 = true)) (v : Int × Int × Nat × Nat × Int) (HV : Aside0 (Own.intB op i1 i2 = v)) (w : World) :
  Calls Try.prog 41 #[.int .i64 op, .agg #[.int .i64 1, .int .i64 i1, .float .f64 0, .float .f64 0], .agg #[.int .i64 1, .int .i64 i2, .float .f64 0, .float .f64 0]] w fun e w' => e = .returned (.tuple #[.agg #[.int .i64 v.1, .int .i64 v.2.1, .float .f64 v.2.2.1, .float .f64 v.2.2.2.1], .int .i64 v.2.2.2.2]) ∧ Below w.heap.size w w' := by
 have hu := Try.underlying72
 go_enter Try.func41, Try.ntmps41
 go_wp2_with (first
  | (go_at_call 56; (with_reducible refine (spec_ValOkX 1 i1 H1.out _).mono ?_); rintro e w5 ⟨rfl, rfl⟩)
  | (go_at_call 56; (with_reducible refine (spec_ValOkX 1 i2 H2.out _).mono ?_); rintro e w5 ⟨rfl, rfl⟩)
  | (go_at_call 58; (with_reducible refine (spec_l1IntOp.calls' op i1 i2 (litOk_int H1.out).1 (litOk_int H1.out).2 (litOk_int H2.out).1 (litOk_int H2.out).2 v HV.out _).mono ?_); rintro e w5 ⟨rfl, hb⟩; have k : w5.heap[w.heap.size + 1 + 1]? = some (.cells #[.int .i64 0, .int .i64 0, .float .f64 0, .float .f64 0] 72 (0, 0)) := blk_below (by (repeat (first | (with_reducible exact blk3 _ _ _ _) | (with_reducible exact blk2 _ _ _) | (with_reducible exact blk_new _ _) | (with_reducible refine blk_alloc ?_ _)))) hb; obtain ⟨f0, f1, f2, f3, f4, f5, f6, f7⟩ := cells4 k; have HB := Aside0.mk (show Below w.heap.size w w5 from below_step (by repeat (first | exact Below.refl _ _ | apply below_alloc)) hb); have K := Aside0.mk k; clear hb k))
 refine ret72 rfl (w.heap.size + 1 + 1) v (put4 K.out _ _ _ _) rfl rfl rfl ?_
 repeat (first | exact HB.out | refine below_set ?_ (by show w.heap.size ≤ w.heap.size + 1 + 1; omega))
set_option maxHeartbeats 8000000 in
set_option maxRecDepth 100000 in
theorem spec_ValOpB (op i1 i2 : Int) (h1 : Own.litOk 4 i1 0 0 = true) (h2 : Own.litOk 4 i2 0 0 = true) (v : Int × Int × Nat × Nat × Int) (hv : Own.boolB op i1 i2 = v) (w : World) :
  Calls Try.prog 41 #[.int .i64 op, .agg #[.int .i64 4, .int .i64 i1, .float .f64 0, .float .f64 0], .agg #[.int .i64 4, .int .i64 i2, .float .f64 0, .float .f64 0]] w fun e w' => e = .returned (.tuple #[.agg #[.int .i64 v.1, .int .i64 v.2.1, .float .f64 v.2.2.1, .float .f64 v.2.2.2.1], .int .i64 v.2.2.2.2]) ∧ Below w.heap.size w w' := by
 have hu := Try.underlying72
 have H1 := Aside0.mk h1
 have H2 := Aside0.mk h2
 clear h1 h2
 unfold Own.boolB at hv
 by_cases c7 : op = 7
 ·subst c7
  obtain ⟨y, hy⟩ : ∃ y : Int, y = if (i1 == i2) = true then 1 else 0 := ⟨_, rfl⟩
  obtain rfl : ((4 : Int), y, (0 : Nat), (0 : Nat), (0 : Int)) = v := by rw [← hv, hy]; simp [Own.yesB]
  have HY := Aside0.mk hy
  clear hv hy
  all_goals
   go_enter Try.func41, Try.ntmps41
   go_wp2_with (first
    | (go_at_call 56; (with_reducible refine (spec_ValOkX 4 _ H1.out _).mono ?_); rintro e w5 ⟨rfl, rfl⟩)
    | (go_at_call 56; (with_reducible refine (spec_ValOkX 4 _ H2.out _).mono ?_); rintro e w5 ⟨rfl, rfl⟩)
    | (go_at_call 57; (with_reducible refine (l1BoolX _ y (by first | exact HY.out | simpa using HY.out) _).mono ?_); rintro e w5 ⟨rfl, rfl⟩))
   refine ret72 rfl (w.heap.size + 1 + 1) (4, y, 0, 0, 0) ?_ rfl rfl rfl ?_ <;> first | ((repeat (first | (with_reducible exact blk3 _ _ _ _) | (with_reducible exact blk2 _ _ _) | (with_reducible exact blk_new _ _) | (with_reducible refine blk_alloc ?_ _))); done) | (repeat (with_reducible first | exact Below.refl _ _ | apply below_alloc | apply pw_below_drewN | apply below_drew1))
 have n7 : (op == 7) = false := beq_eq_false_iff_ne.2 c7
 rw [if_neg c7] at hv
 by_cases c8 : op = 8
 ·subst c8
  by_cases d : i1 = 1
  ·subst d
   obtain ⟨y, hy⟩ : ∃ y : Int, y = if (i2 == 1) = true then 1 else 0 := ⟨_, rfl⟩
   obtain rfl : ((4 : Int), y, (0 : Nat), (0 : Nat), (0 : Int)) = v := by rw [← hv, hy]; simp [Own.yesB]
   have HY := Aside0.mk hy
   clear hv hy
   go_enter Try.func41, Try.ntmps41
   go_wp2_with (first
    | (go_at_call 56; (with_reducible refine (spec_ValOkX 4 _ H1.out _).mono ?_); rintro e w5 ⟨rfl, rfl⟩)
    | (go_at_call 56; (with_reducible refine (spec_ValOkX 4 _ H2.out _).mono ?_); rintro e w5 ⟨rfl, rfl⟩)
    | (go_at_call 57; (with_reducible refine (l1BoolX _ y (by first | exact HY.out | simpa using HY.out) _).mono ?_); rintro e w5 ⟨rfl, rfl⟩))
   refine ret72 rfl (w.heap.size + 1 + 1) (4, y, 0, 0, 0) ?_ rfl rfl rfl ?_ <;> first | ((repeat (first | (with_reducible exact blk3 _ _ _ _) | (with_reducible exact blk2 _ _ _) | (with_reducible exact blk_new _ _) | (with_reducible refine blk_alloc ?_ _))); done) | (repeat (with_reducible first | exact Below.refl _ _ | apply below_alloc | apply pw_below_drewN | apply below_drew1))
  ·have db : (i1 == 1) = false := beq_eq_false_iff_ne.2 d
   obtain ⟨y, hy⟩ : ∃ y : Int, y = if false = true then 1 else 0 := ⟨_, rfl⟩
   obtain rfl : ((4 : Int), y, (0 : Nat), (0 : Nat), (0 : Int)) = v := by rw [← hv, hy]; simp [Own.yesB, d]
   have HY := Aside0.mk hy
   clear hv hy d
   go_enter Try.func41, Try.ntmps41
   go_wp2_with (first
    | (go_at_call 56; (with_reducible refine (spec_ValOkX 4 _ H1.out _).mono ?_); rintro e w5 ⟨rfl, rfl⟩)
    | (go_at_call 56; (with_reducible refine (spec_ValOkX 4 _ H2.out _).mono ?_); rintro e w5 ⟨rfl, rfl⟩)
    | (go_at_call 57; (with_reducible refine (l1BoolX _ y (by first | exact HY.out | simpa using HY.out) _).mono ?_); rintro e w5 ⟨rfl, rfl⟩))
   refine ret72 rfl (w.heap.size + 1 + 1) (4, y, 0, 0, 0) ?_ rfl rfl rfl ?_ <;> first | ((repeat (first | (with_reducible exact blk3 _ _ _ _) | (with_reducible exact blk2 _ _ _) | (with_reducible exact blk_new _ _) | (with_reducible refine blk_alloc ?_ _))); done) | (repeat (with_reducible first | exact Below.refl _ _ | apply below_alloc | apply pw_below_drewN | apply below_drew1))
 have n8 : (op == 8) = false := beq_eq_false_iff_ne.2 c8
 rw [if_neg c8] at hv
 by_cases c9 : op = 9
 ·subst c9
  by_cases d : i1 = 1
  ·subst d
   obtain ⟨y, hy⟩ : ∃ y : Int, y = if true = true then 1 else 0 := ⟨_, rfl⟩
   obtain rfl : ((4 : Int), y, (0 : Nat), (0 : Nat), (0 : Int)) = v := by rw [← hv, hy]; simp [Own.yesB]
   have HY := Aside0.mk hy
   clear hv hy
   go_enter Try.func41, Try.ntmps41
   go_wp2_with (first
    | (go_at_call 56; (with_reducible refine (spec_ValOkX 4 _ H1.out _).mono ?_); rintro e w5 ⟨rfl, rfl⟩)
    | (go_at_call 56; (with_reducible refine (spec_ValOkX 4 _ H2.out _).mono ?_); rintro e w5 ⟨rfl, rfl⟩)
    | (go_at_call 57; (with_reducible refine (l1BoolX _ y (by first | exact HY.out | simpa using HY.out) _).mono ?_); rintro e w5 ⟨rfl, rfl⟩))
   refine ret72 rfl (w.heap.size + 1 + 1) (4, y, 0, 0, 0) ?_ rfl rfl rfl ?_ <;> first | ((repeat (first | (with_reducible exact blk3 _ _ _ _) | (with_reducible exact blk2 _ _ _) | (with_reducible exact blk_new _ _) | (with_reducible refine blk_alloc ?_ _))); done) | (repeat (with_reducible first | exact Below.refl _ _ | apply below_alloc | apply pw_below_drewN | apply below_drew1))
  ·have db : (i1 == 1) = false := beq_eq_false_iff_ne.2 d
   obtain ⟨y, hy⟩ : ∃ y : Int, y = if (i2 == 1) = true then 1 else 0 := ⟨_, rfl⟩
   obtain rfl : ((4 : Int), y, (0 : Nat), (0 : Nat), (0 : Int)) = v := by rw [← hv, hy]; simp [Own.yesB, d]
   have HY := Aside0.mk hy
   clear hv hy d
   go_enter Try.func41, Try.ntmps41
   go_wp2_with (first
    | (go_at_call 56; (with_reducible refine (spec_ValOkX 4 _ H1.out _).mono ?_); rintro e w5 ⟨rfl, rfl⟩)
    | (go_at_call 56; (with_reducible refine (spec_ValOkX 4 _ H2.out _).mono ?_); rintro e w5 ⟨rfl, rfl⟩)
    | (go_at_call 57; (with_reducible refine (l1BoolX _ y (by first | exact HY.out | simpa using HY.out) _).mono ?_); rintro e w5 ⟨rfl, rfl⟩))
   refine ret72 rfl (w.heap.size + 1 + 1) (4, y, 0, 0, 0) ?_ rfl rfl rfl ?_ <;> first | ((repeat (first | (with_reducible exact blk3 _ _ _ _) | (with_reducible exact blk2 _ _ _) | (with_reducible exact blk_new _ _) | (with_reducible refine blk_alloc ?_ _))); done) | (repeat (with_reducible first | exact Below.refl _ _ | apply below_alloc | apply pw_below_drewN | apply below_drew1))
 have n9 : (op == 9) = false := beq_eq_false_iff_ne.2 c9
 rw [if_neg c9] at hv
 have HV := Aside0.mk hv
 clear hv
 go_enter Try.func41, Try.ntmps41
 go_wp2_with (first
  | (go_at_call 56; (with_reducible refine (spec_ValOkX 4 _ H1.out _).mono ?_); rintro e w5 ⟨rfl, rfl⟩)
  | (go_at_call 56; (with_reducible refine (spec_ValOkX 4 _ H2.out _).mono ?_); rintro e w5 ⟨rfl, rfl⟩))
 refine ret72 rfl (w.heap.size + 1 + 1) v ?_ rfl ?_ rfl ?_ <;> first | (rw [← HV.out]; (repeat (first | (with_reducible exact blk3 _ _ _ _) | (with_reducible exact blk2 _ _ _) | (with_reducible exact blk_new _ _) | (with_reducible refine blk_alloc ?_ _))); done) | (rw [← HV.out]; rfl) | (repeat (with_reducible first | exact Below.refl _ _ | apply below_alloc | apply pw_below_drewN | apply below_drew1))
set_option maxHeartbeats 8000000 in
set_option maxRecDepth 100000 in
theorem spec_ValOpN (op k1 i1 k2 i2 : Int) (H1 : Aside0 (Own.litOk k1 i1 0 0 = true)) (H2 : Aside0 (Own.litOk k2 i2 0 0 = true)) (hk : k1 ≠ k2) (w : World) :
  Calls Try.prog 41 #[.int .i64 op, .agg #[.int .i64 k1, .int .i64 i1, .float .f64 0, .float .f64 0], .agg #[.int .i64 k2, .int .i64 i2, .float .f64 0, .float .f64 0]] w fun e w' => e = .returned (.tuple #[.agg #[.int .i64 0, .int .i64 0, .float .f64 0, .float .f64 0], .int .i64 1]) ∧ Below w.heap.size w w' := by
 have hu := Try.underlying72
 have hn : (k1 != k2) = true := bne_iff_ne.2 hk
 clear hk
 go_enter Try.func41, Try.ntmps41
 go_wp2_with (first
  | (go_at_call 56; (with_reducible refine (spec_ValOkX k1 i1 H1.out _).mono ?_); rintro e w5 ⟨rfl, rfl⟩)
  | (go_at_call 56; (with_reducible refine (spec_ValOkX k2 i2 H2.out _).mono ?_); rintro e w5 ⟨rfl, rfl⟩))
 refine ret72 rfl (w.heap.size + 1 + 1) (0, 0, 0, 0, 1) ?_ rfl rfl rfl ?_
 ·(repeat (first | (with_reducible exact blk3 _ _ _ _) | (with_reducible exact blk2 _ _ _) | (with_reducible exact blk_new _ _) | (with_reducible refine blk_alloc ?_ _)))
 ·repeat (with_reducible first | exact Below.refl _ _ | apply below_alloc | apply pw_below_drewN | apply below_drew1)
theorem spec_ValOpX (op k1 i1 k2 i2 : Int) (H1 : Own.litOk k1 i1 0 0 = true) (H2 : Own.litOk k2 i2 0 0 = true) (v : Int × Int × Nat × Nat × Int) (hv : Own.opB op k1 i1 k2 i2 = v) (w : World) :
  Calls Try.prog 41 #[.int .i64 op, .agg #[.int .i64 k1, .int .i64 i1, .float .f64 0, .float .f64 0], .agg #[.int .i64 k2, .int .i64 i2, .float .f64 0, .float .f64 0]] w fun e w' => e = .returned (.tuple #[.agg #[.int .i64 v.1, .int .i64 v.2.1, .float .f64 v.2.2.1, .float .f64 v.2.2.2.1], .int .i64 v.2.2.2.2]) ∧ Below w.heap.size w w' := by
 unfold Own.opB at hv
 by_cases hk : k1 = k2
 ·subst hk
  rw [if_pos rfl] at hv
  rcases litOk_kind H1 with rfl | rfl
  ·rw [if_pos rfl] at hv
   exact spec_ValOpI op i1 i2 ⟨H1⟩ ⟨H2⟩ v ⟨hv⟩ w
  ·rw [if_neg (by decide)] at hv
   exact spec_ValOpB op i1 i2 H1 H2 v hv w
 ·rw [if_neg hk] at hv
  subst hv
  exact spec_ValOpN op k1 i1 k2 i2 ⟨H1⟩ ⟨H2⟩ hk w
set_option maxHeartbeats 8000000 in
set_option maxRecDepth 100000 in
theorem spec_ValTurnX (op kd iv : Int) (h1 : Own.litOk kd iv 0 0 = true) (v : Int × Int × Nat × Nat × Int) (hv : Own.turnB op kd iv = v) (w : World) :
  Calls Try.prog 40 #[.int .i64 op, .agg #[.int .i64 kd, .int .i64 iv, .float .f64 0, .float .f64 0]] w fun e w' => e = .returned (.tuple #[.agg #[.int .i64 v.1, .int .i64 v.2.1, .float .f64 v.2.2.1, .float .f64 v.2.2.2.1], .int .i64 v.2.2.2.2]) ∧ Below w.heap.size w w' := by
 have hu := Try.underlying72
 have H1 := Aside0.mk h1
 clear h1
 rcases litOk_kind H1.out with rfl | rfl
 ·by_cases c1 : op = 1
  ·subst c1
   obtain rfl : ((1, wrap64 (-iv), 0, 0, 0) : Int × Int × Nat × Nat × Int) = v := by rw [← hv]; simp [Own.turnB]
   clear hv
   go_enter Try.func40, Try.ntmps40
   go_wp2_with (first
    | (go_at_call 56; (with_reducible refine (spec_ValOkX 1 iv H1.out _).mono ?_); rintro e w5 ⟨rfl, rfl⟩))
   refine ret72 rfl (w.heap.size + 1) (1, wrap64 (-iv), 0, 0, 0) ?_ rfl rfl rfl ?_ <;> first | ((repeat (first | (with_reducible exact blk3 _ _ _ _) | (with_reducible exact blk2 _ _ _) | (with_reducible exact blk_new _ _) | (with_reducible refine blk_alloc ?_ _))); done) | (repeat (with_reducible first | exact Below.refl _ _ | apply below_alloc | apply pw_below_drewN | apply below_drew1))
  by_cases c2 : op = 2
  ·subst c2
   obtain rfl : ((0, 0, 0, 0, 1) : Int × Int × Nat × Nat × Int) = v := by rw [← hv]; simp [Own.turnB]
   clear hv
   go_enter Try.func40, Try.ntmps40
   go_wp2_with (first
    | (go_at_call 56; (with_reducible refine (spec_ValOkX 1 iv H1.out _).mono ?_); rintro e w5 ⟨rfl, rfl⟩))
   refine ret72 rfl (w.heap.size + 1) (0, 0, 0, 0, 1) ?_ rfl rfl rfl ?_ <;> first | ((repeat (first | (with_reducible exact blk3 _ _ _ _) | (with_reducible exact blk2 _ _ _) | (with_reducible exact blk_new _ _) | (with_reducible refine blk_alloc ?_ _))); done) | (repeat (with_reducible first | exact Below.refl _ _ | apply below_alloc | apply pw_below_drewN | apply below_drew1))
  by_cases c3 : op = 3
  ·subst c3
   obtain rfl : ((0, 0, 0, 0, 1) : Int × Int × Nat × Nat × Int) = v := by rw [← hv]; simp [Own.turnB]
   clear hv
   go_enter Try.func40, Try.ntmps40
   go_wp2_with (first
    | (go_at_call 56; (with_reducible refine (spec_ValOkX 1 iv H1.out _).mono ?_); rintro e w5 ⟨rfl, rfl⟩))
   refine ret72 rfl (w.heap.size + 1) (0, 0, 0, 0, 1) ?_ rfl rfl rfl ?_ <;> first | ((repeat (first | (with_reducible exact blk3 _ _ _ _) | (with_reducible exact blk2 _ _ _) | (with_reducible exact blk_new _ _) | (with_reducible refine blk_alloc ?_ _))); done) | (repeat (with_reducible first | exact Below.refl _ _ | apply below_alloc | apply pw_below_drewN | apply below_drew1))
  by_cases c4 : op = 4
  ·subst c4
   obtain rfl : ((0, 0, 0, 0, 1) : Int × Int × Nat × Nat × Int) = v := by rw [← hv]; simp [Own.turnB]
   clear hv
   go_enter Try.func40, Try.ntmps40
   go_wp2_with (first
    | (go_at_call 56; (with_reducible refine (spec_ValOkX 1 iv H1.out _).mono ?_); rintro e w5 ⟨rfl, rfl⟩))
   refine ret72 rfl (w.heap.size + 1) (0, 0, 0, 0, 1) ?_ rfl rfl rfl ?_ <;> first | ((repeat (first | (with_reducible exact blk3 _ _ _ _) | (with_reducible exact blk2 _ _ _) | (with_reducible exact blk_new _ _) | (with_reducible refine blk_alloc ?_ _))); done) | (repeat (with_reducible first | exact Below.refl _ _ | apply below_alloc | apply pw_below_drewN | apply below_drew1))
  by_cases c5 : op = 5
  ·subst c5
   obtain rfl : ((2, 0, floatOfInt .f64 iv, 0, 0) : Int × Int × Nat × Nat × Int) = v := by rw [← hv]; simp [Own.turnB]
   clear hv
   go_enter Try.func40, Try.ntmps40
   go_wp2_with (first
    | (go_at_call 56; (with_reducible refine (spec_ValOkX 1 iv H1.out _).mono ?_); rintro e w5 ⟨rfl, rfl⟩))
   refine ret72 rfl (w.heap.size + 1) (2, 0, floatOfInt .f64 iv, 0, 0) ?_ rfl rfl rfl ?_ <;> first | ((repeat (first | (with_reducible exact blk3 _ _ _ _) | (with_reducible exact blk2 _ _ _) | (with_reducible exact blk_new _ _) | (with_reducible refine blk_alloc ?_ _))); done) | (repeat (with_reducible first | exact Below.refl _ _ | apply below_alloc | apply pw_below_drewN | apply below_drew1))
  by_cases c6 : op = 6
  ·subst c6
   obtain rfl : ((0, 0, 0, 0, 1) : Int × Int × Nat × Nat × Int) = v := by rw [← hv]; simp [Own.turnB]
   clear hv
   go_enter Try.func40, Try.ntmps40
   go_wp2_with (first
    | (go_at_call 56; (with_reducible refine (spec_ValOkX 1 iv H1.out _).mono ?_); rintro e w5 ⟨rfl, rfl⟩))
   refine ret72 rfl (w.heap.size + 1) (0, 0, 0, 0, 1) ?_ rfl rfl rfl ?_ <;> first | ((repeat (first | (with_reducible exact blk3 _ _ _ _) | (with_reducible exact blk2 _ _ _) | (with_reducible exact blk_new _ _) | (with_reducible refine blk_alloc ?_ _))); done) | (repeat (with_reducible first | exact Below.refl _ _ | apply below_alloc | apply pw_below_drewN | apply below_drew1))
  have n1 : (op == 1) = false := beq_eq_false_iff_ne.2 c1
  have n2 : (op == 2) = false := beq_eq_false_iff_ne.2 c2
  have n3 : (op == 3) = false := beq_eq_false_iff_ne.2 c3
  have n4 : (op == 4) = false := beq_eq_false_iff_ne.2 c4
  have n5 : (op == 5) = false := beq_eq_false_iff_ne.2 c5
  have n6 : (op == 6) = false := beq_eq_false_iff_ne.2 c6
  obtain rfl : ((0 : Int), (0 : Int), (0 : Nat), (0 : Nat), (1 : Int)) = v := by rw [← hv]; simp [Own.turnB, c1, c2, c5]
  clear hv c1 c2 c3 c4 c5 c6
  go_enter Try.func40, Try.ntmps40
  go_wp2_with (first
   | (go_at_call 56; (with_reducible refine (spec_ValOkX 1 iv H1.out _).mono ?_); rintro e w5 ⟨rfl, rfl⟩))
  refine ret72 rfl (w.heap.size + 1) (0, 0, 0, 0, 1) ?_ rfl rfl rfl ?_ <;> first | ((repeat (first | (with_reducible exact blk3 _ _ _ _) | (with_reducible exact blk2 _ _ _) | (with_reducible exact blk_new _ _) | (with_reducible refine blk_alloc ?_ _))); done) | (repeat (with_reducible first | exact Below.refl _ _ | apply below_alloc | apply pw_below_drewN | apply below_drew1))
 ·by_cases c1 : op = 1
  ·subst c1
   obtain rfl : ((0, 0, 0, 0, 1) : Int × Int × Nat × Nat × Int) = v := by rw [← hv]; simp [Own.turnB]
   clear hv
   go_enter Try.func40, Try.ntmps40
   go_wp2_with (first
    | (go_at_call 56; (with_reducible refine (spec_ValOkX 4 iv H1.out _).mono ?_); rintro e w5 ⟨rfl, rfl⟩))
   refine ret72 rfl (w.heap.size + 1) (0, 0, 0, 0, 1) ?_ rfl rfl rfl ?_ <;> first | ((repeat (first | (with_reducible exact blk3 _ _ _ _) | (with_reducible exact blk2 _ _ _) | (with_reducible exact blk_new _ _) | (with_reducible refine blk_alloc ?_ _))); done) | (repeat (with_reducible first | exact Below.refl _ _ | apply below_alloc | apply pw_below_drewN | apply below_drew1))
  by_cases c2 : op = 2
  ·subst c2
   obtain ⟨y, hy⟩ : ∃ y : Int, y = if (iv == 0) = true then 1 else 0 := ⟨_, rfl⟩
   obtain rfl : ((4 : Int), y, (0 : Nat), (0 : Nat), (0 : Int)) = v := by rw [← hv, hy]; simp [Own.turnB, Own.yesB]
   have HY := Aside0.mk hy
   clear hv hy
   go_enter Try.func40, Try.ntmps40
   go_wp2_with (first
    | (go_at_call 56; (with_reducible refine (spec_ValOkX 4 iv H1.out _).mono ?_); rintro e w5 ⟨rfl, rfl⟩)
    | (go_at_call 57; (with_reducible refine (l1BoolX _ y (by first | exact HY.out | simpa using HY.out) _).mono ?_); rintro e w5 ⟨rfl, rfl⟩))
   refine ret72 rfl (w.heap.size + 1) (4, y, 0, 0, 0) ?_ rfl rfl rfl ?_ <;> first | ((repeat (first | (with_reducible exact blk3 _ _ _ _) | (with_reducible exact blk2 _ _ _) | (with_reducible exact blk_new _ _) | (with_reducible refine blk_alloc ?_ _))); done) | (repeat (with_reducible first | exact Below.refl _ _ | apply below_alloc | apply pw_below_drewN | apply below_drew1))
  by_cases c3 : op = 3
  ·subst c3
   obtain rfl : ((0, 0, 0, 0, 1) : Int × Int × Nat × Nat × Int) = v := by rw [← hv]; simp [Own.turnB]
   clear hv
   go_enter Try.func40, Try.ntmps40
   go_wp2_with (first
    | (go_at_call 56; (with_reducible refine (spec_ValOkX 4 iv H1.out _).mono ?_); rintro e w5 ⟨rfl, rfl⟩))
   refine ret72 rfl (w.heap.size + 1) (0, 0, 0, 0, 1) ?_ rfl rfl rfl ?_ <;> first | ((repeat (first | (with_reducible exact blk3 _ _ _ _) | (with_reducible exact blk2 _ _ _) | (with_reducible exact blk_new _ _) | (with_reducible refine blk_alloc ?_ _))); done) | (repeat (with_reducible first | exact Below.refl _ _ | apply below_alloc | apply pw_below_drewN | apply below_drew1))
  by_cases c4 : op = 4
  ·subst c4
   obtain rfl : ((0, 0, 0, 0, 1) : Int × Int × Nat × Nat × Int) = v := by rw [← hv]; simp [Own.turnB]
   clear hv
   go_enter Try.func40, Try.ntmps40
   go_wp2_with (first
    | (go_at_call 56; (with_reducible refine (spec_ValOkX 4 iv H1.out _).mono ?_); rintro e w5 ⟨rfl, rfl⟩))
   refine ret72 rfl (w.heap.size + 1) (0, 0, 0, 0, 1) ?_ rfl rfl rfl ?_ <;> first | ((repeat (first | (with_reducible exact blk3 _ _ _ _) | (with_reducible exact blk2 _ _ _) | (with_reducible exact blk_new _ _) | (with_reducible refine blk_alloc ?_ _))); done) | (repeat (with_reducible first | exact Below.refl _ _ | apply below_alloc | apply pw_below_drewN | apply below_drew1))
  by_cases c5 : op = 5
  ·subst c5
   obtain rfl : ((0, 0, 0, 0, 1) : Int × Int × Nat × Nat × Int) = v := by rw [← hv]; simp [Own.turnB]
   clear hv
   go_enter Try.func40, Try.ntmps40
   go_wp2_with (first
    | (go_at_call 56; (with_reducible refine (spec_ValOkX 4 iv H1.out _).mono ?_); rintro e w5 ⟨rfl, rfl⟩))
   refine ret72 rfl (w.heap.size + 1) (0, 0, 0, 0, 1) ?_ rfl rfl rfl ?_ <;> first | ((repeat (first | (with_reducible exact blk3 _ _ _ _) | (with_reducible exact blk2 _ _ _) | (with_reducible exact blk_new _ _) | (with_reducible refine blk_alloc ?_ _))); done) | (repeat (with_reducible first | exact Below.refl _ _ | apply below_alloc | apply pw_below_drewN | apply below_drew1))
  by_cases c6 : op = 6
  ·subst c6
   obtain rfl : ((0, 0, 0, 0, 1) : Int × Int × Nat × Nat × Int) = v := by rw [← hv]; simp [Own.turnB]
   clear hv
   go_enter Try.func40, Try.ntmps40
   go_wp2_with (first
    | (go_at_call 56; (with_reducible refine (spec_ValOkX 4 iv H1.out _).mono ?_); rintro e w5 ⟨rfl, rfl⟩))
   refine ret72 rfl (w.heap.size + 1) (0, 0, 0, 0, 1) ?_ rfl rfl rfl ?_ <;> first | ((repeat (first | (with_reducible exact blk3 _ _ _ _) | (with_reducible exact blk2 _ _ _) | (with_reducible exact blk_new _ _) | (with_reducible refine blk_alloc ?_ _))); done) | (repeat (with_reducible first | exact Below.refl _ _ | apply below_alloc | apply pw_below_drewN | apply below_drew1))
  have n1 : (op == 1) = false := beq_eq_false_iff_ne.2 c1
  have n2 : (op == 2) = false := beq_eq_false_iff_ne.2 c2
  have n3 : (op == 3) = false := beq_eq_false_iff_ne.2 c3
  have n4 : (op == 4) = false := beq_eq_false_iff_ne.2 c4
  have n5 : (op == 5) = false := beq_eq_false_iff_ne.2 c5
  have n6 : (op == 6) = false := beq_eq_false_iff_ne.2 c6
  obtain rfl : ((0 : Int), (0 : Int), (0 : Nat), (0 : Nat), (1 : Int)) = v := by rw [← hv]; simp [Own.turnB, c1, c2, c5]
  clear hv c1 c2 c3 c4 c5 c6
  go_enter Try.func40, Try.ntmps40
  go_wp2_with (first
   | (go_at_call 56; (with_reducible refine (spec_ValOkX 4 iv H1.out _).mono ?_); rintro e w5 ⟨rfl, rfl⟩))
  refine ret72 rfl (w.heap.size + 1) (0, 0, 0, 0, 1) ?_ rfl rfl rfl ?_ <;> first | ((repeat (first | (with_reducible exact blk3 _ _ _ _) | (with_reducible exact blk2 _ _ _) | (with_reducible exact blk_new _ _) | (with_reducible refine blk_alloc ?_ _))); done) | (repeat (with_reducible first | exact Below.refl _ _ | apply below_alloc | apply pw_below_drewN | apply below_drew1))
theorem ret56 {fn : Func} {p u : Tmp} (hr : fn.results = #[.cell p 56, .tmp u]) {a : Act} {w W : World} (g : Nat) (k i : Int) (b : Bool) (hb : W.heap[g]? = some (.cells #[.int .i64 k, .string ⟨#[]⟩, .int .i64 i, .slice none 0 0] 56 (0, 0))) (hp : a.tmps.getD p undef = .pointer (some ⟨g, 0, none⟩)) (hc : a.tmps.getD u undef = .bool b) (hd : a.defers = []) (hB : Below w.heap.size w W) :
  bodyPost Try.prog fn (fun e w' => e = .returned (.tuple #[.agg #[.int .i64 k, .string ⟨#[]⟩, .int .i64 i, .slice none 0 0], .bool b]) ∧ Below w.heap.size w w') .ret a W := by
 refine bodyPost_ret (results_ct hr _ _ g 56 _ (0, 0) _ hp hb Try.underlying56 rfl (by kernel_rfl)) hd ⟨?_, hB⟩
 rw [hc]
theorem retVal {fn : Func} {p u : Tmp} (hr : fn.results = #[.cell p 72, .tmp u]) {a : Act} {W W' : World} (g : Nat) (k i : Int) (b : Bool) (hb : W.heap[g]? = some (.cells #[.int .i64 k, .int .i64 i, .float .f64 0, .float .f64 0] 72 (0, 0))) (hp : a.tmps.getD p undef = .pointer (some ⟨g, 0, none⟩)) (hc : a.tmps.getD u undef = .bool b) (hd : a.defers = []) (hB : W = W') :
  bodyPost Try.prog fn (fun e w' => e = .returned (.tuple #[.agg #[.int .i64 k, .int .i64 i, .float .f64 0, .float .f64 0], .bool b]) ∧ w' = W') .ret a W := by
 refine bodyPost_ret (results_ct hr _ _ g 72 _ (0, 0) _ hp hb Try.underlying72 rfl (by kernel_rfl)) hd ⟨?_, hB⟩
 rw [hc]
set_option maxHeartbeats 8000000 in
set_option maxRecDepth 100000 in
theorem l23ValueX (k : Int) (s : ByteArray) (i : Int) (A : Option Addr) (n c : Nat) (hk : Own.isLit k = true) (w : World) :
  Calls Try.prog 39 #[.agg #[.int .i64 k, .string s, .int .i64 i, .slice A n c]] w fun e w' => e = .returned (.tuple #[.agg #[.int .i64 (Own.lk k), .int .i64 i, .float .f64 0, .float .f64 0], .bool true]) ∧ w' = (w.alloc (.cells #[.int .i64 k, .string s, .int .i64 i, .slice A n c] 56)).alloc (.cells #[.int .i64 (Own.lk k), .int .i64 i, .float .f64 0, .float .f64 0] 72) := by
 have hu := Try.underlying72
 have hu2 := Try.underlying56
 have h := of_decide_eq_true hk
 clear hk
 rcases h with rfl | rfl
 all_goals
  first | rw [show Own.lk 1 = 1 from rfl] | rw [show Own.lk 3 = 4 from rfl]
  go_enter Try.func39, Try.ntmps39
  go_wp2
  refine retVal rfl (w.heap.size + 1) _ _ _ ?_ rfl rfl rfl ?_ <;> first | (with_reducible exact blk2 _ _ _) | rfl
set_option maxHeartbeats 8000000 in
set_option maxRecDepth 100000 in
theorem l23ValueN (k : Int) (s : ByteArray) (i : Int) (A : Option Addr) (n c : Nat) (hk : Own.isLit k = false) (w : World) :
  Calls Try.prog 39 #[.agg #[.int .i64 k, .string s, .int .i64 i, .slice A n c]] w fun e w' => e = .returned (.tuple #[.agg #[.int .i64 0, .int .i64 0, .float .f64 0, .float .f64 0], .bool false]) ∧ w' = (w.alloc (.cells #[.int .i64 k, .string s, .int .i64 i, .slice A n c] 56)).alloc (.cells #[.int .i64 0, .int .i64 0, .float .f64 0, .float .f64 0] 72) := by
 have hu := Try.underlying72
 have hu2 := Try.underlying56
 have h := of_decide_eq_false hk
 have h1 : (k == 1) = false := beq_eq_false_iff_ne.2 (fun e => h (.inl e))
 have h3 : (k == 3) = false := beq_eq_false_iff_ne.2 (fun e => h (.inr e))
 clear hk h
 go_enter Try.func39, Try.ntmps39
 go_wp2
 refine retVal rfl (w.heap.size + 1) _ _ _ ?_ rfl rfl rfl ?_ <;> first | (with_reducible exact blk2 _ _ _) | rfl
set_option maxRecDepth 100000 in
theorem l1InX (x a b : Int) (r : Bool) (hr : r = decide (a ≤ x ∧ x ≤ b)) (w : World) : Calls Try.prog 35 #[.int .i64 x, .int .i64 a, .int .i64 b] w fun e w' => e = .returned (.bool r) ∧ w' = w := by
 have HR := Aside0.mk hr
 clear hr
 by_cases c : a ≤ x
 ·have cb : decide (x ≥ a) = true := decide_eq_true c
  have CA := Aside0.mk c
  clear c
  go_enter Try.func35, Try.ntmps35
  go_wp2
  go_ret
  exact ⟨by rw [HR.out]; simp [CA.out], rfl⟩
 ·have cb : decide (x ≥ a) = false := decide_eq_false c
  have CA := Aside0.mk c
  clear c
  go_enter Try.func35, Try.ntmps35
  go_wp2
  go_ret
  exact ⟨by rw [HR.out, decide_eq_false (fun h => by have := CA.out; omega)]; rfl, rfl⟩
def leafR (kd iv : Int) : Int × Int × Bool := if kd = 4 then (3, iv, true) else if kd = 1 ∧ 0 ≤ iv ∧ iv ≤ 999999999999999 then (1, iv, true) else (0, 0, false)
set_option maxHeartbeats 8000000 in
set_option maxRecDepth 100000 in
theorem l23LeafX (kd iv : Int) (x y : Nat) (r : Int × Int × Bool) (hr : leafR kd iv = r) (w : World) :
  Calls Try.prog 42 #[.agg #[.int .i64 kd, .int .i64 iv, .float .f64 x, .float .f64 y]] w fun e w' => e = .returned (.tuple #[.agg #[.int .i64 r.1, .string ⟨#[]⟩, .int .i64 r.2.1, .slice none 0 0], .bool r.2.2]) ∧ Below w.heap.size w w' := by
 have hu := Try.underlying72
 have hu2 := Try.underlying56
 unfold leafR at hr
 by_cases c4 : kd = 4
 ·subst c4
  obtain rfl : ((3 : Int), iv, true) = r := hr
  go_enter Try.func42, Try.ntmps42
  go_wp2
  refine ret56 rfl (w.heap.size + 1) 3 iv true ?_ rfl rfl rfl ?_ <;> first | (with_reducible exact blk2 _ _ _) | (repeat (with_reducible first | exact Below.refl _ _ | apply below_alloc | apply pw_below_drewN | apply below_drew1))
 have n4 : (kd == 4) = false := beq_eq_false_iff_ne.2 c4
 rw [if_neg c4] at hr
 by_cases c1 : kd = 1
 ·subst c1
  by_cases ci : 0 ≤ iv ∧ iv ≤ 999999999999999
  ·rw [if_pos ⟨rfl, ci.1, ci.2⟩] at hr
   subst hr
   have hl : true = decide (0 ≤ iv ∧ iv ≤ 999999999999999) := (decide_eq_true ci).symm
   have HL := Aside0.mk hl
   clear hl ci
   go_enter Try.func42, Try.ntmps42
   go_wp2_with (go_at_call 35; (with_reducible refine (l1InX iv 0 999999999999999 true HL.out _).mono ?_); rintro e w5 ⟨rfl, rfl⟩)
   refine ret56 rfl (w.heap.size + 1) 1 iv true ?_ rfl rfl rfl ?_ <;> first | (with_reducible exact blk2 _ _ _) | (repeat (with_reducible first | exact Below.refl _ _ | apply below_alloc | apply pw_below_drewN | apply below_drew1))
  ·rw [if_neg (fun h => ci h.2)] at hr
   subst hr
   have hl : false = decide (0 ≤ iv ∧ iv ≤ 999999999999999) := (decide_eq_false ci).symm
   have HL := Aside0.mk hl
   clear hl ci
   go_enter Try.func42, Try.ntmps42
   go_wp2_with (go_at_call 35; (with_reducible refine (l1InX iv 0 999999999999999 false HL.out _).mono ?_); rintro e w5 ⟨rfl, rfl⟩)
   refine ret56 rfl (w.heap.size + 1) 0 0 false ?_ rfl rfl rfl ?_ <;> first | (with_reducible exact blk2 _ _ _) | (repeat (with_reducible first | exact Below.refl _ _ | apply below_alloc | apply pw_below_drewN | apply below_drew1))
 have n1 : (kd == 1) = false := beq_eq_false_iff_ne.2 c1
 rw [if_neg (fun h => c1 h.1)] at hr
 subst hr
 clear c1 c4
 go_enter Try.func42, Try.ntmps42
 go_wp2
 refine ret56 rfl (w.heap.size + 1) 0 0 false ?_ rfl rfl rfl ?_ <;> first | (with_reducible exact blk2 _ _ _) | (repeat (with_reducible first | exact Below.refl _ _ | apply below_alloc | apply pw_below_drewN | apply below_drew1))
def smallR (n0 n2 k0 i0 k1 i1 : Int) : Int × Int × Bool := match Own.smallB n0 n2 k0 i0 k1 i1 with
 | none => (0, 0, false)
 | some p => (p.1, p.2, true)
def spec_l23Small.f (k : Nat) (a0_0 : Int) (a0_1 : ByteArray) (a0_2 : Int) (l0_3 : List Int) (l1 : List (S56)) : Option (Int × ByteArray × Int × List Int × Bool) :=
 if (a0_0 = 8 → 2 ≤ l1.length) ∧ (a0_0 = 9 → 1 ≤ l1.length) ∧ Own.litIn (rd_T56 l1 0).f0 (rd_T56 l1 0).f2 = true ∧ Own.litIn (rd_T56 l1 1).f0 (rd_T56 l1 1).f2 = true then
  some ((smallR a0_0 a0_2 (rd_T56 l1 0).f0 (rd_T56 l1 0).f2 (rd_T56 l1 1).f0 (rd_T56 l1 1).f2).1, ⟨#[]⟩, (smallR a0_0 a0_2 (rd_T56 l1 0).f0 (rd_T56 l1 0).f2 (rd_T56 l1 1).f0 (rd_T56 l1 1).f2).2.1, [], (smallR a0_0 a0_2 (rd_T56 l1 0).f0 (rd_T56 l1 0).f2 (rd_T56 l1 1).f0 (rd_T56 l1 1).f2).2.2)
 else none
theorem litIn_ok {k i : Int} (h : Own.litIn k i = true) (hl : Own.isLit k = true) : Own.litOk (Own.lk k) i 0 0 = true := by
 unfold Own.litIn at h
 rw [hl] at h
 simpa using h
set_option maxHeartbeats 8000000 in
set_option maxRecDepth 100000 in
theorem smallA (n0 : Int) (n1 : ByteArray) (n2 : Int) (A3 : Option Addr) (m3 c3 : Nat) (A1 : Option Addr) (c1 : Nat) (m : Nat) (w : World) (h8 : n0 ≠ 8) (h9 : n0 ≠ 9) :
  Calls Try.prog 27 #[.agg #[.int .i64 n0, .string n1, .int .i64 n2, .slice A3 m3 c3], .slice A1 m c1] w fun e w' => e = .returned (.tuple #[.agg #[.int .i64 0, .string ⟨#[]⟩, .int .i64 0, .slice none 0 0], .bool false]) ∧ Below w.heap.size w w' := by
 have hu2 := Try.underlying56
 have b8 : (n0 != 8) = true := bne_iff_ne.2 h8
 have b9 : (n0 != 9) = true := bne_iff_ne.2 h9
 clear h8 h9
 go_enter Try.func27, Try.ntmps27
 go_wp2
 refine ret56 rfl (w.heap.size + 1) 0 0 false ?_ rfl rfl rfl ?_ <;> first | (with_reducible exact blk2 _ _ _) | (repeat (with_reducible first | exact Below.refl _ _ | apply below_alloc | apply pw_below_drewN | apply below_drew1))
set_option maxHeartbeats 8000000 in
set_option maxRecDepth 100000 in
theorem smallC (n0 : Int) (hn : n0 = 8 ∨ n0 = 9) (n1 : ByteArray) (n2 : Int) (A3 : Option Addr) (m3 c3 : Nat) (ad : Addr) (c1 : Nat) (m : Nat) (k0 : Int) (s0 : ByteArray) (i0 : Int) (A0 : Option Addr) (m0 c0 : Nat) (w : World) (q0 : 0 < m)
  (hx0 : w.cell? ad = some (.int .i64 k0)) (hx1 : w.cell? ⟨ad.block, ad.off + 1, none⟩ = some (.string s0)) (hx2 : w.cell? ⟨ad.block, ad.off + 2, none⟩ = some (.int .i64 i0)) (hx3 : w.cell? ⟨ad.block, ad.off + 3, none⟩ = some (.slice A0 m0 c0)) (hk : Own.isLit k0 = false) :
  Calls Try.prog 27 #[.agg #[.int .i64 n0, .string n1, .int .i64 n2, .slice A3 m3 c3], .slice (some ad) m c1] w fun e w' => e = .returned (.tuple #[.agg #[.int .i64 0, .string ⟨#[]⟩, .int .i64 0, .slice none 0 0], .bool false]) ∧ Below w.heap.size w w' := by
 have hu := Try.underlying72
 have hu2 := Try.underlying56
 have HK := Aside0.mk hk
 have hlt := World.block_lt_of_cell? w ad hx0
 clear hk
 rcases hn with rfl | rfl
 all_goals
  go_enter Try.func27, Try.ntmps27
  go_wp2_with (go_at_call 39; (with_reducible refine (l23ValueN _ _ _ _ _ _ HK.out _).mono ?_); rintro e w5 ⟨rfl, rfl⟩)
  refine ret56 rfl (w.heap.size + 1) 0 0 false ?_ rfl rfl rfl ?_ <;> first | ((repeat (first | (with_reducible exact blk2 _ _ _) | (with_reducible refine blk_alloc ?_ _))); done) | (repeat (with_reducible first | exact Below.refl _ _ | apply below_alloc | apply pw_below_drewN | apply below_drew1))
set_option maxHeartbeats 8000000 in
set_option maxRecDepth 100000 in
theorem smallT (n1 : ByteArray) (n2 : Int) (A3 : Option Addr) (m3 c3 : Nat) (ad : Addr) (c1 : Nat) (m : Nat) (k0 : Int) (s0 : ByteArray) (i0 : Int) (A0 : Option Addr) (m0 c0 : Nat) (w : World) (q0 : 0 < m)
  (hx0 : w.cell? ad = some (.int .i64 k0)) (hx1 : w.cell? ⟨ad.block, ad.off + 1, none⟩ = some (.string s0)) (hx2 : w.cell? ⟨ad.block, ad.off + 2, none⟩ = some (.int .i64 i0)) (hx3 : w.cell? ⟨ad.block, ad.off + 3, none⟩ = some (.slice A0 m0 c0)) (hk : Own.isLit k0 = true) (hin : Own.litIn k0 i0 = true)
  (v : Int × Int × Nat × Nat × Int) (hv : Own.turnB n2 (Own.lk k0) i0 = v) (r : Int × Int × Bool) (hr : (if v.2.2.2.2 = 0 then leafR v.1 v.2.1 else (0, 0, false)) = r) :
  Calls Try.prog 27 #[.agg #[.int .i64 9, .string n1, .int .i64 n2, .slice A3 m3 c3], .slice (some ad) m c1] w fun e w' => e = .returned (.tuple #[.agg #[.int .i64 r.1, .string ⟨#[]⟩, .int .i64 r.2.1, .slice none 0 0], .bool r.2.2]) ∧ Below w.heap.size w w' := by
 have hu := Try.underlying72
 have hu2 := Try.underlying56
 have HK := Aside0.mk hk
 have HL := Aside0.mk (litIn_ok hin hk)
 have HV := Aside0.mk hv
 have hlt := World.block_lt_of_cell? w ad hx0
 clear hk hin hv
 by_cases cc : v.2.2.2.2 = 0
 ·have cb : (v.2.2.2.2 != 0) = false := bne_eq_false_iff_eq.2 cc
  rw [if_pos cc] at hr
  have HR := Aside0.mk hr
  clear cc hr
  go_enter Try.func27, Try.ntmps27
  go_wp2_with (first
   | (go_at_call 39; (with_reducible refine (l23ValueX _ _ _ _ _ _ HK.out _).mono ?_); rintro e w5 ⟨rfl, rfl⟩)
   | (go_at_call 40; (with_reducible refine (spec_ValTurnX n2 _ i0 HL.out v HV.out _).mono ?_); rintro e w5 ⟨rfl, hb⟩; have k0_ : w5.heap[w.heap.size]? = some (.cells #[.int .i64 9, .string n1, .int .i64 n2, .slice A3 m3 c3] 56 (0, 0)) := blk_below (by (repeat (first | (with_reducible exact blk_new _ _) | (with_reducible refine blk_alloc ?_ _)))) hb; have k1_ : w5.heap[w.heap.size + 1]? = some (.cells #[.int .i64 0, .string ⟨#[]⟩, .int .i64 0, .slice none 0 0] 56 (0, 0)) := blk_below (by (repeat (first | (with_reducible exact blk2 _ _ _) | (with_reducible refine blk_alloc ?_ _)))) hb; obtain ⟨f0, f1, f2, f3, f4, f5, f6, f7⟩ := cells4 k1_; have e0 := (blk_cell k0_ 0).trans rfl; have hs := blk_lt k1_; have hs0 := blk_lt k0_; have HB := Aside0.mk (show Below w.heap.size w w5 from below_step (by repeat (first | exact Below.refl _ _ | apply below_alloc)) hb); have K := Aside0.mk k1_; clear hb k0_ k1_)
   | (go_at_call 42; (with_reducible refine (l23LeafX _ _ _ _ r HR.out _).mono ?_); rintro e w6 ⟨rfl, hb⟩; have k1_ : w6.heap[w.heap.size + 1]? = some (.cells #[.int .i64 0, .string ⟨#[]⟩, .int .i64 0, .slice none 0 0] 56 (0, 0)) := blk_below (blk_alloc K.out _) hb; clear f0 f1 f2 f3 f4 f5 f6 f7; obtain ⟨f0, f1, f2, f3, f4, f5, f6, f7⟩ := cells4 k1_; have HB6 := Aside0.mk (show Below w.heap.size w w6 from below_step (below_alloc HB.out _) hb); have K6 := Aside0.mk k1_; clear hb k1_))
  refine ret56 rfl (w.heap.size + 1) r.1 r.2.1 r.2.2 (put4 K6.out _ _ _ _) rfl rfl rfl ?_
  repeat (first | exact HB6.out | refine below_set ?_ (by show w.heap.size ≤ w.heap.size + 1; omega))
 ·have cb : (v.2.2.2.2 != 0) = true := bne_iff_ne.2 cc
  rw [if_neg cc] at hr
  subst hr
  clear cc
  go_enter Try.func27, Try.ntmps27
  go_wp2_with (first
   | (go_at_call 39; (with_reducible refine (l23ValueX _ _ _ _ _ _ HK.out _).mono ?_); rintro e w5 ⟨rfl, rfl⟩)
   | (go_at_call 40; (with_reducible refine (spec_ValTurnX n2 _ i0 HL.out v HV.out _).mono ?_); rintro e w5 ⟨rfl, hb⟩; have k0_ : w5.heap[w.heap.size]? = some (.cells #[.int .i64 9, .string n1, .int .i64 n2, .slice A3 m3 c3] 56 (0, 0)) := blk_below (by (repeat (first | (with_reducible exact blk_new _ _) | (with_reducible refine blk_alloc ?_ _)))) hb; have k1_ : w5.heap[w.heap.size + 1]? = some (.cells #[.int .i64 0, .string ⟨#[]⟩, .int .i64 0, .slice none 0 0] 56 (0, 0)) := blk_below (by (repeat (first | (with_reducible exact blk2 _ _ _) | (with_reducible refine blk_alloc ?_ _)))) hb; obtain ⟨f0, f1, f2, f3, f4, f5, f6, f7⟩ := cells4 k1_; have e0 := (blk_cell k0_ 0).trans rfl; have hs := blk_lt k1_; have hs0 := blk_lt k0_; have HB := Aside0.mk (show Below w.heap.size w w5 from below_step (by repeat (first | exact Below.refl _ _ | apply below_alloc)) hb); have K := Aside0.mk k1_; clear hb k0_ k1_))
  refine ret56 rfl (w.heap.size + 1) 0 0 false (blk_alloc (put4 K.out _ _ _ _) _) rfl rfl rfl ?_
  repeat (first | exact HB.out | apply below_alloc | refine below_set ?_ (by show w.heap.size ≤ w.heap.size + 1; omega))
theorem farN {W : World} {g g' : Nat} {o : Obj} (hn : g ≠ g') (h : W.heap[g]? = some o) {d0 d1 d2 d3 : Value} : ((((W.setCell ⟨g', 0, none⟩ d0).setCell ⟨g', 1, none⟩ d1).setCell ⟨g', 2, none⟩ d2).setCell ⟨g', 3, none⟩ d3).heap[g]? = some o :=
 (Below.heap_setCell _ _ _ g hn).trans ((Below.heap_setCell _ _ _ g hn).trans ((Below.heap_setCell _ _ _ g hn).trans ((Below.heap_setCell _ _ _ g hn).trans h)))
theorem blk5 (w : World) (a b c d r : Obj) : (((((w.alloc a).alloc b).alloc c).alloc d).alloc r).heap[w.heap.size + 1 + 1 + 1 + 1]? = some r := by
 have h := blk_new ((((w.alloc a).alloc b).alloc c).alloc d) r
 have e : ((((w.alloc a).alloc b).alloc c).alloc d).heap.size = w.heap.size + 1 + 1 + 1 + 1 := by simp
 rwa [e] at h
set_option maxHeartbeats 2000000 in
set_option maxRecDepth 100000 in
theorem smallD (n1 : ByteArray) (n2 : Int) (A3 : Option Addr) (m3 c3 : Nat) (ad : Addr) (c : Nat) (m : Nat) (k0 : Int) (s0 : ByteArray) (i0 : Int) (A0 : Option Addr) (m0 c0 : Nat) (k1 : Int) (s1 : ByteArray) (i1 : Int) (A1 : Option Addr) (m1 c1 : Nat) (w : World) (q0 : 0 < m) (q1 : 1 < m)
  (hx0 : w.cell? ad = some (.int .i64 k0)) (hx1 : w.cell? ⟨ad.block, ad.off + 1, none⟩ = some (.string s0)) (hx2 : w.cell? ⟨ad.block, ad.off + 2, none⟩ = some (.int .i64 i0)) (hx3 : w.cell? ⟨ad.block, ad.off + 3, none⟩ = some (.slice A0 m0 c0)) (hy0 : w.cell? ⟨ad.block, ad.off + 4, none⟩ = some (.int .i64 k1)) (hy1 : w.cell? ⟨ad.block, ad.off + 4 + 1, none⟩ = some (.string s1)) (hy2 : w.cell? ⟨ad.block, ad.off + 4 + 2, none⟩ = some (.int .i64 i1)) (hy3 : w.cell? ⟨ad.block, ad.off + 4 + 3, none⟩ = some (.slice A1 m1 c1))
  (hk : Own.isLit k0 = true) (hin : Own.litIn k0 i0 = true) (hk1 : Own.isLit k1 = false) :
  Calls Try.prog 27 #[.agg #[.int .i64 8, .string n1, .int .i64 n2, .slice A3 m3 c3], .slice (some ad) m c] w fun e w' => e = .returned (.tuple #[.agg #[.int .i64 0, .string ⟨#[]⟩, .int .i64 0, .slice none 0 0], .bool false]) ∧ Below w.heap.size w w' := by
 have hu := Try.underlying72
 have hu2 := Try.underlying56
 have HK := Aside0.mk hk
 have HK1 := Aside0.mk hk1
 have HL := Aside0.mk (litIn_ok hin hk)
 obtain ⟨v0, hv0⟩ : ∃ v, Own.turnB n2 (Own.lk k0) i0 = v := ⟨_, rfl⟩
 have HV0 := Aside0.mk hv0
 have hlt := World.block_lt_of_cell? w ad hx0
 clear hk hin hv0 hk1
 go_enter Try.func27, Try.ntmps27
 go_wp2_with (first
   | (go_at_call 39; (with_reducible refine (l23ValueX _ _ _ _ _ _ HK.out _).mono ?_); rintro e w5 ⟨rfl, rfl⟩)
   | (go_at_call 40; (with_reducible refine (spec_ValTurnX n2 _ i0 HL.out v0 HV0.out _).mono ?_); rintro e w5 ⟨rfl, hb⟩; have q0_ : w5.heap[w.heap.size]? = some (.cells #[.int .i64 8, .string n1, .int .i64 n2, .slice A3 m3 c3] 56 (0, 0)) := blk_below (by (repeat (first | (with_reducible exact blk_new _ _) | (with_reducible exact blk2 _ _ _) | (with_reducible exact blk5 _ _ _ _ _ _) | (with_reducible refine blk_alloc ?_ _)))) hb; have q1_ : w5.heap[w.heap.size + 1]? = some (.cells #[.int .i64 0, .string ⟨#[]⟩, .int .i64 0, .slice none 0 0] 56 (0, 0)) := blk_below (by (repeat (first | (with_reducible exact blk_new _ _) | (with_reducible exact blk2 _ _ _) | (with_reducible exact blk5 _ _ _ _ _ _) | (with_reducible refine blk_alloc ?_ _)))) hb; have q4_ : w5.heap[w.heap.size + 1 + 1 + 1 + 1]? = some (.cells #[.int .i64 (Own.lk k0), .int .i64 i0, .float .f64 0, .float .f64 0] 72 (0, 0)) := blk_below (by (repeat (first | (with_reducible exact blk_new _ _) | (with_reducible exact blk2 _ _ _) | (with_reducible exact blk5 _ _ _ _ _ _) | (with_reducible refine blk_alloc ?_ _)))) hb; obtain ⟨f0, f1, f2, f3, f4, f5, f6, f7⟩ := cells4 q1_; obtain ⟨d0, d1, d2, d3, _, _, _, _⟩ := cells4 q4_; have e0 := (blk_cell q0_ 0).trans rfl; have e2 := (blk_cell q0_ 2).trans rfl; have s0_ := blk_lt q0_; have s1_ := blk_lt q1_; have s4_ := blk_lt q4_; have hB5 : Below w.heap.size w w5 := below_step (by repeat (first | (with_reducible exact Below.refl _ _) | (with_reducible apply below_alloc))) hb; have hlt5 : ad.block < w5.heap.size := Nat.lt_of_lt_of_le hlt hB5.size; have y0 := pw_cell_below hB5 hy0; have y1 := pw_cell_below hB5 hy1; have y2 := pw_cell_below hB5 hy2; have y3 := pw_cell_below hB5 hy3; have HB := Aside0.mk hB5; have Q0 := Aside0.mk q0_; have Q1 := Aside0.mk q1_; have Q4 := Aside0.mk q4_; clear hb q0_ q1_ q4_ hB5)
   | (go_at_call 39; (with_reducible refine (l23ValueN _ _ _ _ _ _ HK1.out _).mono ?_); rintro e w6 ⟨rfl, hw6⟩; have hb : Below (w5.alloc (.cells #[.int .i64 v0.1, .int .i64 v0.2.1, .float .f64 v0.2.2.1, .float .f64 v0.2.2.2.1] 72)).heap.size (w5.alloc (.cells #[.int .i64 v0.1, .int .i64 v0.2.1, .float .f64 v0.2.2.1, .float .f64 v0.2.2.2.1] 72)) w6 := (by rw [hw6]; with_reducible exact below_alloc (below_alloc (Below.refl _ _) _) _); clear hw6; have q0_ : w6.heap[w.heap.size]? = some (.cells #[.int .i64 8, .string n1, .int .i64 n2, .slice A3 m3 c3] 56 (0, 0)) := blk_below (by (repeat (first | (with_reducible exact Q0.out) | (with_reducible exact blk_new _ _) | (with_reducible exact blk2 _ _ _) | (with_reducible exact blk5 _ _ _ _ _ _) | (with_reducible refine blk_alloc ?_ _)))) hb; have q1_ : w6.heap[w.heap.size + 1]? = some (.cells #[.int .i64 0, .string ⟨#[]⟩, .int .i64 0, .slice none 0 0] 56 (0, 0)) := blk_below (by (repeat (first | (with_reducible exact Q1.out) | (with_reducible exact blk_new _ _) | (with_reducible exact blk2 _ _ _) | (with_reducible exact blk5 _ _ _ _ _ _) | (with_reducible refine blk_alloc ?_ _)))) hb; have q4_ : w6.heap[w.heap.size + 1 + 1 + 1 + 1]? = some (.cells #[.int .i64 (Own.lk k0), .int .i64 i0, .float .f64 0, .float .f64 0] 72 (0, 0)) := blk_below (by (repeat (first | (with_reducible exact Q4.out) | (with_reducible exact blk_new _ _) | (with_reducible exact blk2 _ _ _) | (with_reducible exact blk5 _ _ _ _ _ _) | (with_reducible refine blk_alloc ?_ _)))) hb; have q8_ : w6.heap[w5.heap.size]? = some (.cells #[.int .i64 v0.1, .int .i64 v0.2.1, .float .f64 v0.2.2.1, .float .f64 v0.2.2.2.1] 72 (0, 0)) := blk_below (by (repeat (first | (with_reducible exact blk_new _ _) | (with_reducible exact blk2 _ _ _) | (with_reducible exact blk5 _ _ _ _ _ _) | (with_reducible refine blk_alloc ?_ _)))) hb; clear f0 f1 f2 f3 f4 f5 f6 f7 d0 d1 d2 d3 e0 e2 s0_ s1_ s4_ y0 y1 y2 y3 hlt5; (try clear g0 g1 g2 g3 g4 g5 g6 g7 s8_); obtain ⟨f0, f1, f2, f3, f4, f5, f6, f7⟩ := cells4 q1_; obtain ⟨d0, d1, d2, d3, _, _, _, _⟩ := cells4 q4_; have e0 := (blk_cell q0_ 0).trans rfl; have e2 := (blk_cell q0_ 2).trans rfl; have s0_ := blk_lt q0_; have s1_ := blk_lt q1_; have s4_ := blk_lt q4_; obtain ⟨g0, g1, g2, g3, g4, g5, g6, g7⟩ := cells4 q8_; have s8_ := blk_lt q8_; have hB5 : Below w.heap.size w w6 := below_step (by repeat (first | (with_reducible exact HB.out) | (with_reducible apply below_alloc))) hb; have hlt5 : ad.block < w6.heap.size := Nat.lt_of_lt_of_le hlt hB5.size; have y0 := pw_cell_below hB5 hy0; have y1 := pw_cell_below hB5 hy1; have y2 := pw_cell_below hB5 hy2; have y3 := pw_cell_below hB5 hy3; clear HB Q0 Q1 Q4; have HB := Aside0.mk hB5; have Q0 := Aside0.mk q0_; have Q1 := Aside0.mk q1_; have Q4 := Aside0.mk q4_; have Q8 := Aside0.mk q8_; clear hb q0_ q1_ q4_ hB5 q8_))
 refine ret56 rfl (w.heap.size + 1) 0 0 false ?_ ?_ ?_ ?_ ?_
 ·trace "A"
  with_reducible refine blk_alloc ?_ _
  with_reducible exact put4 Q1.out _ _ _ _
 ·trace "B"
  rfl
 ·trace "C"
  rfl
 ·trace "D"
  rfl
 ·trace "E"
  with_reducible refine below_alloc ?_ _
  repeat (first | (with_reducible exact HB.out) | (with_reducible refine below_set ?_ (by show w.heap.size ≤ w.heap.size + 1; omega)))
set_option maxHeartbeats 2000000 in
set_option maxRecDepth 100000 in
theorem smallE (n1 : ByteArray) (n2 : Int) (A3 : Option Addr) (m3 c3 : Nat) (ad : Addr) (c : Nat) (m : Nat) (k0 : Int) (s0 : ByteArray) (i0 : Int) (A0 : Option Addr) (m0 c0 : Nat) (k1 : Int) (s1 : ByteArray) (i1 : Int) (A1 : Option Addr) (m1 c1 : Nat) (w : World) (q0 : 0 < m) (q1 : 1 < m)
  (hx0 : w.cell? ad = some (.int .i64 k0)) (hx1 : w.cell? ⟨ad.block, ad.off + 1, none⟩ = some (.string s0)) (hx2 : w.cell? ⟨ad.block, ad.off + 2, none⟩ = some (.int .i64 i0)) (hx3 : w.cell? ⟨ad.block, ad.off + 3, none⟩ = some (.slice A0 m0 c0)) (hy0 : w.cell? ⟨ad.block, ad.off + 4, none⟩ = some (.int .i64 k1)) (hy1 : w.cell? ⟨ad.block, ad.off + 4 + 1, none⟩ = some (.string s1)) (hy2 : w.cell? ⟨ad.block, ad.off + 4 + 2, none⟩ = some (.int .i64 i1)) (hy3 : w.cell? ⟨ad.block, ad.off + 4 + 3, none⟩ = some (.slice A1 m1 c1))
  (hk : Own.isLit k0 = true) (hin : Own.litIn k0 i0 = true) (hk1 : Own.isLit k1 = true) (hin1 : Own.litIn k1 i1 = true) (v : Int × Int × Nat × Nat × Int) (hv : Own.opB n2 (Own.lk k0) i0 (Own.lk k1) i1 = v) (r : Int × Int × Bool) (hr : (if v.2.2.2.2 = 0 then leafR v.1 v.2.1 else (0, 0, false)) = r) :
  Calls Try.prog 27 #[.agg #[.int .i64 8, .string n1, .int .i64 n2, .slice A3 m3 c3], .slice (some ad) m c] w fun e w' => e = .returned (.tuple #[.agg #[.int .i64 r.1, .string ⟨#[]⟩, .int .i64 r.2.1, .slice none 0 0], .bool r.2.2]) ∧ Below w.heap.size w w' := by
 have hu := Try.underlying72
 have hu2 := Try.underlying56
 have HK := Aside0.mk hk
 have HK1 := Aside0.mk hk1
 have HL := Aside0.mk (litIn_ok hin hk)
 have HL1 := Aside0.mk (litIn_ok hin1 hk1)
 have HV := Aside0.mk hv
 obtain ⟨v0, hv0⟩ : ∃ v, Own.turnB n2 (Own.lk k0) i0 = v := ⟨_, rfl⟩
 have HV0 := Aside0.mk hv0
 have hlt := World.block_lt_of_cell? w ad hx0
 clear hk hin hv0 hk1 hin1 hv
 by_cases cc : v.2.2.2.2 = 0
 ·have cb : (v.2.2.2.2 != 0) = false := bne_eq_false_iff_eq.2 cc
  rw [if_pos cc] at hr
  have HR := Aside0.mk hr
  clear cc hr
  go_enter Try.func27, Try.ntmps27
  go_wp2_with (first
    | (go_at_call 39; (with_reducible refine (l23ValueX _ _ _ _ _ _ HK.out _).mono ?_); rintro e w5 ⟨rfl, rfl⟩)
    | (go_at_call 40; (with_reducible refine (spec_ValTurnX n2 _ i0 HL.out v0 HV0.out _).mono ?_); rintro e w5 ⟨rfl, hb⟩; have q0_ : w5.heap[w.heap.size]? = some (.cells #[.int .i64 8, .string n1, .int .i64 n2, .slice A3 m3 c3] 56 (0, 0)) := blk_below (by (repeat (first | (with_reducible exact blk_new _ _) | (with_reducible exact blk2 _ _ _) | (with_reducible exact blk5 _ _ _ _ _ _) | (with_reducible refine blk_alloc ?_ _)))) hb; have q1_ : w5.heap[w.heap.size + 1]? = some (.cells #[.int .i64 0, .string ⟨#[]⟩, .int .i64 0, .slice none 0 0] 56 (0, 0)) := blk_below (by (repeat (first | (with_reducible exact blk_new _ _) | (with_reducible exact blk2 _ _ _) | (with_reducible exact blk5 _ _ _ _ _ _) | (with_reducible refine blk_alloc ?_ _)))) hb; have q4_ : w5.heap[w.heap.size + 1 + 1 + 1 + 1]? = some (.cells #[.int .i64 (Own.lk k0), .int .i64 i0, .float .f64 0, .float .f64 0] 72 (0, 0)) := blk_below (by (repeat (first | (with_reducible exact blk_new _ _) | (with_reducible exact blk2 _ _ _) | (with_reducible exact blk5 _ _ _ _ _ _) | (with_reducible refine blk_alloc ?_ _)))) hb; obtain ⟨f0, f1, f2, f3, f4, f5, f6, f7⟩ := cells4 q1_; obtain ⟨d0, d1, d2, d3, _, _, _, _⟩ := cells4 q4_; have e0 := (blk_cell q0_ 0).trans rfl; have e2 := (blk_cell q0_ 2).trans rfl; have s0_ := blk_lt q0_; have s1_ := blk_lt q1_; have s4_ := blk_lt q4_; have hB5 : Below w.heap.size w w5 := below_step (by repeat (first | (with_reducible exact Below.refl _ _) | (with_reducible apply below_alloc))) hb; have hlt5 : ad.block < w5.heap.size := Nat.lt_of_lt_of_le hlt hB5.size; have y0 := pw_cell_below hB5 hy0; have y1 := pw_cell_below hB5 hy1; have y2 := pw_cell_below hB5 hy2; have y3 := pw_cell_below hB5 hy3; have HB := Aside0.mk hB5; have Q0 := Aside0.mk q0_; have Q1 := Aside0.mk q1_; have Q4 := Aside0.mk q4_; have HS5 := Aside0.mk (show w.heap.size + 1 < w5.heap.size from blk_lt q1_); clear hb q0_ q1_ q4_ hB5)
    | (go_at_call 39; (with_reducible refine (l23ValueX _ _ _ _ _ _ HK1.out _).mono ?_); rintro e w6 ⟨rfl, hw6⟩; have hb : Below (w5.alloc (.cells #[.int .i64 v0.1, .int .i64 v0.2.1, .float .f64 v0.2.2.1, .float .f64 v0.2.2.2.1] 72)).heap.size (w5.alloc (.cells #[.int .i64 v0.1, .int .i64 v0.2.1, .float .f64 v0.2.2.1, .float .f64 v0.2.2.2.1] 72)) w6 := (by rw [hw6]; with_reducible exact below_alloc (below_alloc (Below.refl _ _) _) _); clear hw6; have q0_ : w6.heap[w.heap.size]? = some (.cells #[.int .i64 8, .string n1, .int .i64 n2, .slice A3 m3 c3] 56 (0, 0)) := blk_below (by (repeat (first | (with_reducible exact Q0.out) | (with_reducible exact blk_new _ _) | (with_reducible exact blk2 _ _ _) | (with_reducible exact blk5 _ _ _ _ _ _) | (with_reducible refine blk_alloc ?_ _)))) hb; have q1_ : w6.heap[w.heap.size + 1]? = some (.cells #[.int .i64 0, .string ⟨#[]⟩, .int .i64 0, .slice none 0 0] 56 (0, 0)) := blk_below (by (repeat (first | (with_reducible exact Q1.out) | (with_reducible exact blk_new _ _) | (with_reducible exact blk2 _ _ _) | (with_reducible exact blk5 _ _ _ _ _ _) | (with_reducible refine blk_alloc ?_ _)))) hb; have q4_ : w6.heap[w.heap.size + 1 + 1 + 1 + 1]? = some (.cells #[.int .i64 (Own.lk k0), .int .i64 i0, .float .f64 0, .float .f64 0] 72 (0, 0)) := blk_below (by (repeat (first | (with_reducible exact Q4.out) | (with_reducible exact blk_new _ _) | (with_reducible exact blk2 _ _ _) | (with_reducible exact blk5 _ _ _ _ _ _) | (with_reducible refine blk_alloc ?_ _)))) hb; have q8_ : w6.heap[w5.heap.size]? = some (.cells #[.int .i64 v0.1, .int .i64 v0.2.1, .float .f64 v0.2.2.1, .float .f64 v0.2.2.2.1] 72 (0, 0)) := blk_below (by (repeat (first | (with_reducible exact blk_new _ _) | (with_reducible exact blk2 _ _ _) | (with_reducible exact blk5 _ _ _ _ _ _) | (with_reducible refine blk_alloc ?_ _)))) hb; clear f0 f1 f2 f3 f4 f5 f6 f7 d0 d1 d2 d3 e0 e2 s0_ s1_ s4_ y0 y1 y2 y3 hlt5; (try clear g0 g1 g2 g3 g4 g5 g6 g7 s8_); obtain ⟨f0, f1, f2, f3, f4, f5, f6, f7⟩ := cells4 q1_; obtain ⟨d0, d1, d2, d3, _, _, _, _⟩ := cells4 q4_; have e0 := (blk_cell q0_ 0).trans rfl; have e2 := (blk_cell q0_ 2).trans rfl; have s0_ := blk_lt q0_; have s1_ := blk_lt q1_; have s4_ := blk_lt q4_; obtain ⟨g0, g1, g2, g3, g4, g5, g6, g7⟩ := cells4 q8_; have s8_ := blk_lt q8_; have hB5 : Below w.heap.size w w6 := below_step (by repeat (first | (with_reducible exact HB.out) | (with_reducible apply below_alloc))) hb; have hlt5 : ad.block < w6.heap.size := Nat.lt_of_lt_of_le hlt hB5.size; have y0 := pw_cell_below hB5 hy0; have y1 := pw_cell_below hB5 hy1; have y2 := pw_cell_below hB5 hy2; have y3 := pw_cell_below hB5 hy3; clear HB Q0 Q1 Q4; have HB := Aside0.mk hB5; have Q0 := Aside0.mk q0_; have Q1 := Aside0.mk q1_; have Q4 := Aside0.mk q4_; have Q8 := Aside0.mk q8_; clear hb q0_ q1_ q4_ hB5 q8_)
    | (go_at_call 41; (with_reducible refine (spec_ValOpX n2 _ i0 _ i1 HL.out HL1.out v HV.out _).mono ?_); rintro e w7 ⟨rfl, hb⟩; have q0_ : w7.heap[w.heap.size]? = some (.cells #[.int .i64 8, .string n1, .int .i64 n2, .slice A3 m3 c3] 56 (0, 0)) := blk_below (by (repeat (first | (with_reducible exact Q0.out) | (with_reducible exact blk_new _ _) | (with_reducible exact blk2 _ _ _) | (with_reducible exact blk5 _ _ _ _ _ _) | (with_reducible refine blk_alloc ?_ _)))) hb; have q1_ : w7.heap[w.heap.size + 1]? = some (.cells #[.int .i64 0, .string ⟨#[]⟩, .int .i64 0, .slice none 0 0] 56 (0, 0)) := blk_below (by (repeat (first | (with_reducible exact Q1.out) | (with_reducible exact blk_new _ _) | (with_reducible exact blk2 _ _ _) | (with_reducible exact blk5 _ _ _ _ _ _) | (with_reducible refine blk_alloc ?_ _)))) hb; have q4_ : w7.heap[w.heap.size + 1 + 1 + 1 + 1]? = some (.cells #[.int .i64 (Own.lk k0), .int .i64 i0, .float .f64 0, .float .f64 0] 72 (0, 0)) := blk_below (by (repeat (first | (with_reducible exact Q4.out) | (with_reducible exact blk_new _ _) | (with_reducible exact blk2 _ _ _) | (with_reducible exact blk5 _ _ _ _ _ _) | (with_reducible refine blk_alloc ?_ _)))) hb; have q8_ : w7.heap[w5.heap.size]? = some (.cells #[.int .i64 v0.1, .int .i64 v0.2.1, .float .f64 v0.2.2.1, .float .f64 v0.2.2.2.1] 72 (0, 0)) := blk_below (by (repeat (first | (with_reducible exact Q8.out) | (with_reducible exact blk_new _ _) | (with_reducible exact blk2 _ _ _) | (with_reducible exact blk5 _ _ _ _ _ _) | (with_reducible refine blk_alloc ?_ _)))) hb; clear f0 f1 f2 f3 f4 f5 f6 f7 d0 d1 d2 d3 e0 e2 s0_ s1_ s4_ y0 y1 y2 y3 hlt5; (try clear g0 g1 g2 g3 g4 g5 g6 g7 s8_); obtain ⟨f0, f1, f2, f3, f4, f5, f6, f7⟩ := cells4 q1_; obtain ⟨d0, d1, d2, d3, _, _, _, _⟩ := cells4 q4_; have e0 := (blk_cell q0_ 0).trans rfl; have e2 := (blk_cell q0_ 2).trans rfl; have s0_ := blk_lt q0_; have s1_ := blk_lt q1_; have s4_ := blk_lt q4_; obtain ⟨g0, g1, g2, g3, g4, g5, g6, g7⟩ := cells4 q8_; have s8_ := blk_lt q8_; have hB5 : Below w.heap.size w w7 := below_step (by repeat (first | (with_reducible exact HB.out) | (with_reducible apply below_alloc))) hb; have hlt5 : ad.block < w7.heap.size := Nat.lt_of_lt_of_le hlt hB5.size; have y0 := pw_cell_below hB5 hy0; have y1 := pw_cell_below hB5 hy1; have y2 := pw_cell_below hB5 hy2; have y3 := pw_cell_below hB5 hy3; clear HB Q0 Q1 Q4; (try clear Q8); have HB := Aside0.mk hB5; have Q0 := Aside0.mk q0_; have Q1 := Aside0.mk q1_; have Q4 := Aside0.mk q4_; have Q8 := Aside0.mk q8_; clear hb q0_ q1_ q4_ hB5 q8_; have hn_ : w.heap.size + 1 ≠ w5.heap.size := (by have := HS5.out; omega); have hn2_ : w5.heap.size ≠ w.heap.size + 1 := (by have := HS5.out; omega); have HLE := Aside0.mk (show w.heap.size ≤ w5.heap.size from (by have := HS5.out; omega)))
    | (go_at_call 42; (with_reducible refine (l23LeafX _ _ _ _ r HR.out _).mono ?_); rintro e w8 ⟨rfl, hb⟩; have q1_ : w8.heap[w.heap.size + 1]? = some (.cells #[.int .i64 0, .string ⟨#[]⟩, .int .i64 0, .slice none 0 0] 56 (0, 0)) := blk_below (farN hn_ Q1.out) hb; clear f0 f1 f2 f3 f4 f5 f6 f7; obtain ⟨f0, f1, f2, f3, f4, f5, f6, f7⟩ := cells4 q1_; have HB8 := Aside0.mk (show Below w.heap.size w w8 from below_step (below_set (below_set (below_set (below_set HB.out HLE.out) HLE.out) HLE.out) HLE.out) hb); have Q18 := Aside0.mk q1_; clear hb q1_))
  refine ret56 rfl (w.heap.size + 1) r.1 r.2.1 r.2.2 ?_ ?_ ?_ ?_ ?_
  ·with_reducible exact put4 Q18.out _ _ _ _
  ·rfl
  ·rfl
  ·rfl
  ·repeat (first | (with_reducible exact HB8.out) | (with_reducible refine below_set ?_ (by show w.heap.size ≤ w.heap.size + 1; omega)))
 ·have cb : (v.2.2.2.2 != 0) = true := bne_iff_ne.2 cc
  rw [if_neg cc] at hr
  subst hr
  clear cc
  go_enter Try.func27, Try.ntmps27
  go_wp2_with (first
    | (go_at_call 39; (with_reducible refine (l23ValueX _ _ _ _ _ _ HK.out _).mono ?_); rintro e w5 ⟨rfl, rfl⟩)
    | (go_at_call 40; (with_reducible refine (spec_ValTurnX n2 _ i0 HL.out v0 HV0.out _).mono ?_); rintro e w5 ⟨rfl, hb⟩; have q0_ : w5.heap[w.heap.size]? = some (.cells #[.int .i64 8, .string n1, .int .i64 n2, .slice A3 m3 c3] 56 (0, 0)) := blk_below (by (repeat (first | (with_reducible exact blk_new _ _) | (with_reducible exact blk2 _ _ _) | (with_reducible exact blk5 _ _ _ _ _ _) | (with_reducible refine blk_alloc ?_ _)))) hb; have q1_ : w5.heap[w.heap.size + 1]? = some (.cells #[.int .i64 0, .string ⟨#[]⟩, .int .i64 0, .slice none 0 0] 56 (0, 0)) := blk_below (by (repeat (first | (with_reducible exact blk_new _ _) | (with_reducible exact blk2 _ _ _) | (with_reducible exact blk5 _ _ _ _ _ _) | (with_reducible refine blk_alloc ?_ _)))) hb; have q4_ : w5.heap[w.heap.size + 1 + 1 + 1 + 1]? = some (.cells #[.int .i64 (Own.lk k0), .int .i64 i0, .float .f64 0, .float .f64 0] 72 (0, 0)) := blk_below (by (repeat (first | (with_reducible exact blk_new _ _) | (with_reducible exact blk2 _ _ _) | (with_reducible exact blk5 _ _ _ _ _ _) | (with_reducible refine blk_alloc ?_ _)))) hb; obtain ⟨f0, f1, f2, f3, f4, f5, f6, f7⟩ := cells4 q1_; obtain ⟨d0, d1, d2, d3, _, _, _, _⟩ := cells4 q4_; have e0 := (blk_cell q0_ 0).trans rfl; have e2 := (blk_cell q0_ 2).trans rfl; have s0_ := blk_lt q0_; have s1_ := blk_lt q1_; have s4_ := blk_lt q4_; have hB5 : Below w.heap.size w w5 := below_step (by repeat (first | (with_reducible exact Below.refl _ _) | (with_reducible apply below_alloc))) hb; have hlt5 : ad.block < w5.heap.size := Nat.lt_of_lt_of_le hlt hB5.size; have y0 := pw_cell_below hB5 hy0; have y1 := pw_cell_below hB5 hy1; have y2 := pw_cell_below hB5 hy2; have y3 := pw_cell_below hB5 hy3; have HB := Aside0.mk hB5; have Q0 := Aside0.mk q0_; have Q1 := Aside0.mk q1_; have Q4 := Aside0.mk q4_; have HS5 := Aside0.mk (show w.heap.size + 1 < w5.heap.size from blk_lt q1_); clear hb q0_ q1_ q4_ hB5)
    | (go_at_call 39; (with_reducible refine (l23ValueX _ _ _ _ _ _ HK1.out _).mono ?_); rintro e w6 ⟨rfl, hw6⟩; have hb : Below (w5.alloc (.cells #[.int .i64 v0.1, .int .i64 v0.2.1, .float .f64 v0.2.2.1, .float .f64 v0.2.2.2.1] 72)).heap.size (w5.alloc (.cells #[.int .i64 v0.1, .int .i64 v0.2.1, .float .f64 v0.2.2.1, .float .f64 v0.2.2.2.1] 72)) w6 := (by rw [hw6]; with_reducible exact below_alloc (below_alloc (Below.refl _ _) _) _); clear hw6; have q0_ : w6.heap[w.heap.size]? = some (.cells #[.int .i64 8, .string n1, .int .i64 n2, .slice A3 m3 c3] 56 (0, 0)) := blk_below (by (repeat (first | (with_reducible exact Q0.out) | (with_reducible exact blk_new _ _) | (with_reducible exact blk2 _ _ _) | (with_reducible exact blk5 _ _ _ _ _ _) | (with_reducible refine blk_alloc ?_ _)))) hb; have q1_ : w6.heap[w.heap.size + 1]? = some (.cells #[.int .i64 0, .string ⟨#[]⟩, .int .i64 0, .slice none 0 0] 56 (0, 0)) := blk_below (by (repeat (first | (with_reducible exact Q1.out) | (with_reducible exact blk_new _ _) | (with_reducible exact blk2 _ _ _) | (with_reducible exact blk5 _ _ _ _ _ _) | (with_reducible refine blk_alloc ?_ _)))) hb; have q4_ : w6.heap[w.heap.size + 1 + 1 + 1 + 1]? = some (.cells #[.int .i64 (Own.lk k0), .int .i64 i0, .float .f64 0, .float .f64 0] 72 (0, 0)) := blk_below (by (repeat (first | (with_reducible exact Q4.out) | (with_reducible exact blk_new _ _) | (with_reducible exact blk2 _ _ _) | (with_reducible exact blk5 _ _ _ _ _ _) | (with_reducible refine blk_alloc ?_ _)))) hb; have q8_ : w6.heap[w5.heap.size]? = some (.cells #[.int .i64 v0.1, .int .i64 v0.2.1, .float .f64 v0.2.2.1, .float .f64 v0.2.2.2.1] 72 (0, 0)) := blk_below (by (repeat (first | (with_reducible exact blk_new _ _) | (with_reducible exact blk2 _ _ _) | (with_reducible exact blk5 _ _ _ _ _ _) | (with_reducible refine blk_alloc ?_ _)))) hb; clear f0 f1 f2 f3 f4 f5 f6 f7 d0 d1 d2 d3 e0 e2 s0_ s1_ s4_ y0 y1 y2 y3 hlt5; (try clear g0 g1 g2 g3 g4 g5 g6 g7 s8_); obtain ⟨f0, f1, f2, f3, f4, f5, f6, f7⟩ := cells4 q1_; obtain ⟨d0, d1, d2, d3, _, _, _, _⟩ := cells4 q4_; have e0 := (blk_cell q0_ 0).trans rfl; have e2 := (blk_cell q0_ 2).trans rfl; have s0_ := blk_lt q0_; have s1_ := blk_lt q1_; have s4_ := blk_lt q4_; obtain ⟨g0, g1, g2, g3, g4, g5, g6, g7⟩ := cells4 q8_; have s8_ := blk_lt q8_; have hB5 : Below w.heap.size w w6 := below_step (by repeat (first | (with_reducible exact HB.out) | (with_reducible apply below_alloc))) hb; have hlt5 : ad.block < w6.heap.size := Nat.lt_of_lt_of_le hlt hB5.size; have y0 := pw_cell_below hB5 hy0; have y1 := pw_cell_below hB5 hy1; have y2 := pw_cell_below hB5 hy2; have y3 := pw_cell_below hB5 hy3; clear HB Q0 Q1 Q4; have HB := Aside0.mk hB5; have Q0 := Aside0.mk q0_; have Q1 := Aside0.mk q1_; have Q4 := Aside0.mk q4_; have Q8 := Aside0.mk q8_; clear hb q0_ q1_ q4_ hB5 q8_)
    | (go_at_call 41; (with_reducible refine (spec_ValOpX n2 _ i0 _ i1 HL.out HL1.out v HV.out _).mono ?_); rintro e w7 ⟨rfl, hb⟩; have q0_ : w7.heap[w.heap.size]? = some (.cells #[.int .i64 8, .string n1, .int .i64 n2, .slice A3 m3 c3] 56 (0, 0)) := blk_below (by (repeat (first | (with_reducible exact Q0.out) | (with_reducible exact blk_new _ _) | (with_reducible exact blk2 _ _ _) | (with_reducible exact blk5 _ _ _ _ _ _) | (with_reducible refine blk_alloc ?_ _)))) hb; have q1_ : w7.heap[w.heap.size + 1]? = some (.cells #[.int .i64 0, .string ⟨#[]⟩, .int .i64 0, .slice none 0 0] 56 (0, 0)) := blk_below (by (repeat (first | (with_reducible exact Q1.out) | (with_reducible exact blk_new _ _) | (with_reducible exact blk2 _ _ _) | (with_reducible exact blk5 _ _ _ _ _ _) | (with_reducible refine blk_alloc ?_ _)))) hb; have q4_ : w7.heap[w.heap.size + 1 + 1 + 1 + 1]? = some (.cells #[.int .i64 (Own.lk k0), .int .i64 i0, .float .f64 0, .float .f64 0] 72 (0, 0)) := blk_below (by (repeat (first | (with_reducible exact Q4.out) | (with_reducible exact blk_new _ _) | (with_reducible exact blk2 _ _ _) | (with_reducible exact blk5 _ _ _ _ _ _) | (with_reducible refine blk_alloc ?_ _)))) hb; have q8_ : w7.heap[w5.heap.size]? = some (.cells #[.int .i64 v0.1, .int .i64 v0.2.1, .float .f64 v0.2.2.1, .float .f64 v0.2.2.2.1] 72 (0, 0)) := blk_below (by (repeat (first | (with_reducible exact Q8.out) | (with_reducible exact blk_new _ _) | (with_reducible exact blk2 _ _ _) | (with_reducible exact blk5 _ _ _ _ _ _) | (with_reducible refine blk_alloc ?_ _)))) hb; clear f0 f1 f2 f3 f4 f5 f6 f7 d0 d1 d2 d3 e0 e2 s0_ s1_ s4_ y0 y1 y2 y3 hlt5; (try clear g0 g1 g2 g3 g4 g5 g6 g7 s8_); obtain ⟨f0, f1, f2, f3, f4, f5, f6, f7⟩ := cells4 q1_; obtain ⟨d0, d1, d2, d3, _, _, _, _⟩ := cells4 q4_; have e0 := (blk_cell q0_ 0).trans rfl; have e2 := (blk_cell q0_ 2).trans rfl; have s0_ := blk_lt q0_; have s1_ := blk_lt q1_; have s4_ := blk_lt q4_; obtain ⟨g0, g1, g2, g3, g4, g5, g6, g7⟩ := cells4 q8_; have s8_ := blk_lt q8_; have hB5 : Below w.heap.size w w7 := below_step (by repeat (first | (with_reducible exact HB.out) | (with_reducible apply below_alloc))) hb; have hlt5 : ad.block < w7.heap.size := Nat.lt_of_lt_of_le hlt hB5.size; have y0 := pw_cell_below hB5 hy0; have y1 := pw_cell_below hB5 hy1; have y2 := pw_cell_below hB5 hy2; have y3 := pw_cell_below hB5 hy3; clear HB Q0 Q1 Q4; (try clear Q8); have HB := Aside0.mk hB5; have Q0 := Aside0.mk q0_; have Q1 := Aside0.mk q1_; have Q4 := Aside0.mk q4_; have Q8 := Aside0.mk q8_; clear hb q0_ q1_ q4_ hB5 q8_; have hn_ : w.heap.size + 1 ≠ w5.heap.size := (by have := HS5.out; omega); have hn2_ : w5.heap.size ≠ w.heap.size + 1 := (by have := HS5.out; omega); have HLE := Aside0.mk (show w.heap.size ≤ w5.heap.size from (by have := HS5.out; omega))))
  refine ret56 rfl (w.heap.size + 1) 0 0 false ?_ ?_ ?_ ?_ ?_
  ·with_reducible exact put4 (farN hn_ Q1.out) _ _ _ _
  ·rfl
  ·rfl
  ·rfl
  ·repeat (first | (with_reducible exact HB.out) | (with_reducible refine below_set ?_ (by show w.heap.size ≤ w.heap.size + 1; omega)) | (with_reducible refine below_set ?_ HLE.out))
theorem leafR_small {n0 n2 k0 i0 k1 i1 : Int} {v : Int × Int × Nat × Nat × Int} (h : Own.smallB n0 n2 k0 i0 k1 i1 = Own.leafB v) : smallR n0 n2 k0 i0 k1 i1 = if v.2.2.2.2 = 0 then leafR v.1 v.2.1 else (0, 0, false) := by
 unfold smallR
 rw [h]
 unfold Own.leafB leafR
 by_cases c : v.2.2.2.2 = 0
 ·rw [if_pos c, if_pos c]
  by_cases c4 : v.1 = 4
  ·rw [if_pos c4, if_pos c4]
  ·rw [if_neg c4, if_neg c4]
   by_cases c1 : v.1 = 1 ∧ 0 ≤ v.2.1 ∧ v.2.1 ≤ 999999999999999
   ·rw [if_pos c1, if_pos c1]
   ·rw [if_neg c1, if_neg c1]
 ·rw [if_neg c, if_neg c]
set_option maxHeartbeats 2000000 in
theorem spec_l23Small.calls (k : Nat) (a0_0 : Int) (a0_1 : ByteArray) (a0_2 : Int) (A0_3 : Option Addr) (c0_3 : Nat) (l0_3 : List Int) (A1 : Option Addr) (c1 : Nat) (l1 : List (S56)) (r1 : Int) (r2 : ByteArray) (r3 : Int) (r4 : List Int) (r5 : Bool) (w : World) (hr0_3 : Kd.C (Kd.int .i64) w A0_3 l0_3.length l0_3) (hc0_3 : l0_3.length ≤ c0_3) (hr1 : Kd.C k56 w A1 l1.length l1) (hc1 : l1.length ≤ c1) (h : spec_l23Small.f k a0_0 a0_1 a0_2 l0_3 l1 = some (r1, r2, r3, r4, r5)) :
 Calls Try.prog 27 #[.agg #[.int .i64 a0_0, .string a0_1, .int .i64 a0_2, .slice A0_3 l0_3.length c0_3], .slice A1 l1.length c1] w fun e w' => ∃ v3_ : Value, e = .returned (.tuple #[.agg #[.int .i64 r1, .string r2, .int .i64 r3, v3_], .bool r5]) ∧ Kd.R (Kd.int .i64) 3 w' w.heap.size (fun _ => True) v3_ r4 ∧ Below w.heap.size w w' := by
 unfold spec_l23Small.f at h
 split at h
 rotate_left
 ·cases h
 next hc =>
 obtain ⟨hl8, hl9, hi0, hi1⟩ := hc
 injection h with h
 injection h with h1 h
 injection h with h2 h
 injection h with h3 h
 injection h with h4 h5
 subst h1 h2 h3 h4 h5
 have fin : ∀ (r : Int × Int × Bool), smallR a0_0 a0_2 (rd_T56 l1 0).f0 (rd_T56 l1 0).f2 (rd_T56 l1 1).f0 (rd_T56 l1 1).f2 = r → Calls Try.prog 27 #[.agg #[.int .i64 a0_0, .string a0_1, .int .i64 a0_2, .slice A0_3 l0_3.length c0_3], .slice A1 l1.length c1] w (fun e w' => e = .returned (.tuple #[.agg #[.int .i64 r.1, .string ⟨#[]⟩, .int .i64 r.2.1, .slice none 0 0], .bool r.2.2]) ∧ Below w.heap.size w w') → Calls Try.prog 27 #[.agg #[.int .i64 a0_0, .string a0_1, .int .i64 a0_2, .slice A0_3 l0_3.length c0_3], .slice A1 l1.length c1] w fun e w' => ∃ v3_ : Value, e = .returned (.tuple #[.agg #[.int .i64 (smallR a0_0 a0_2 (rd_T56 l1 0).f0 (rd_T56 l1 0).f2 (rd_T56 l1 1).f0 (rd_T56 l1 1).f2).1, .string ⟨#[]⟩, .int .i64 (smallR a0_0 a0_2 (rd_T56 l1 0).f0 (rd_T56 l1 0).f2 (rd_T56 l1 1).f0 (rd_T56 l1 1).f2).2.1, v3_], .bool (smallR a0_0 a0_2 (rd_T56 l1 0).f0 (rd_T56 l1 0).f2 (rd_T56 l1 1).f0 (rd_T56 l1 1).f2).2.2]) ∧ Kd.R (Kd.int .i64) 3 w' w.heap.size (fun _ => True) v3_ [] ∧ Below w.heap.size w w' := by
  intro r hr hh
  refine hh.mono ?_
  rintro e w' ⟨he, hb⟩
  rw [hr]
  exact ⟨_, he, Kd.R_nil _ _ _ _ _, hb⟩
 by_cases hn : a0_0 = 8 ∨ a0_0 = 9
 rotate_left
 ·have h8 : a0_0 ≠ 8 := fun e => hn (.inl e)
  have h9 : a0_0 ≠ 9 := fun e => hn (.inr e)
  exact fin _ (by unfold smallR Own.smallB; rw [if_neg h8, if_neg h9]) (smallA a0_0 a0_1 a0_2 A0_3 _ _ A1 c1 _ w h8 h9)
 have hl : 0 < l1.length := by
  rcases hn with e | e
  ·have := hl8 e; omega
  ·have := hl9 e; omega
 obtain ⟨ad, A0, c0, rfl, hx0, hx1, hx2, hx3, _, _⟩ := at_T56 hr1 0 (by omega) (by omega)
 simp only [show ((0 : Int)).toNat = 0 from rfl, Nat.zero_mul, Addr.add_zero'] at hx0 hx1 hx2 hx3
 cases hk0 : Own.isLit (rd_T56 l1 0).f0 with
 | false =>
  refine fin (0, 0, false) ?_ (smallC a0_0 hn a0_1 a0_2 A0_3 _ _ ad c1 _ _ _ _ _ _ _ w hl hx0 hx1 hx2 hx3 hk0)
  unfold smallR Own.smallB
  rw [hk0]
  rcases hn with rfl | rfl <;> simp
 | true =>
  rcases hn with rfl | rfl
  ·have hl1 := hl8 rfl
   obtain ⟨ad', A1', c1', e, hy0, hy1, hy2, hy3, _, _⟩ := at_T56 hr1 1 (by omega) (by omega)
   injection e with e
   subst e
   have ea : ad.add (((1 : Int)).toNat * 4) = ⟨ad.block, ad.off + 4, none⟩ := rfl
   rw [ea] at hy0 hy1 hy2 hy3
   cases hk1 : Own.isLit (rd_T56 l1 1).f0 with
   | false =>
    refine fin (0, 0, false) ?_ (smallD a0_1 a0_2 A0_3 _ _ ad c1 _ _ _ _ _ _ _ _ _ _ _ _ _ w hl hl1 hx0 hx1 hx2 hx3 hy0 hy1 hy2 hy3 hk0 hi0 hk1)
    unfold smallR Own.smallB
    rw [hk0, hk1]
    simp
   | true =>
    refine fin _ (leafR_small (v := Own.opB a0_2 (Own.lk (rd_T56 l1 0).f0) (rd_T56 l1 0).f2 (Own.lk (rd_T56 l1 1).f0) (rd_T56 l1 1).f2) ?_) (smallE a0_1 a0_2 A0_3 _ _ ad c1 _ _ _ _ _ _ _ _ _ _ _ _ _ w hl hl1 hx0 hx1 hx2 hx3 hy0 hy1 hy2 hy3 hk0 hi0 hk1 hi1 _ rfl _ rfl)
    unfold Own.smallB
    rw [if_pos rfl, if_pos ⟨hk0, hk1⟩]
  ·refine fin _ (leafR_small (v := Own.turnB a0_2 (Own.lk (rd_T56 l1 0).f0) (rd_T56 l1 0).f2) ?_) (smallT a0_1 a0_2 A0_3 _ _ ad c1 _ _ _ _ _ _ _ w hl hx0 hx1 hx2 hx3 hk0 hi0 _ rfl _ rfl)
   unfold Own.smallB
   rw [if_neg (by decide), if_pos rfl, if_pos hk0]
def copyKids (rec : Int → List S56 → Option (List S56)) : List Int → List S56 → List Int → List S56 → Option (List S56 × List Int × List S56)
 | [], out, ks, ls => some (out, ks, ls)
 | x :: r, out, ks, ls => (rec x out).bind fun o => if 0 < o.length ∧ o.length ≤ 1000000 ∧ ks.length ≤ 1000000 ∧ ls.length ≤ 1000000 ∧ out.length ≤ o.length then copyKids rec r o (ks ++ [(o.length : Int) - 1]) (ls ++ [rd_T56 o ((o.length : Int) - 1)]) else none
def copyEnd (k : Nat) (n : S56) (out o : List S56) (ks : List Int) (ls : List S56) (fold : Bool) : Option (List S56) :=
 if o.length ≤ 1000000 ∧ out.length ≤ o.length then
  (if fold = true then (spec_l23Small.f k n.f0 n.f1 n.f2 n.f3 ls).bind fun b => if b.2.2.2.2 = true then some (o.take out.length ++ [(⟨b.1, b.2.1, b.2.2.1, b.2.2.2.1⟩ : S56)]) else some (o ++ [(⟨n.f0, n.f1, n.f2, ks⟩ : S56)])
  else some (o ++ [(⟨n.f0, n.f1, n.f2, ks⟩ : S56)]))
 else none
def spec_l23Copy.f : Nat → List S56 → List Int → Int → List S56 → Bool → Option (List S56)
 | 0, _, _, _, _, _ => none
 | k + 1, nodes, tops, i, out, fold => if 0 ≤ i ∧ i < (nodes.length : Int) then (copyKids (fun x o => spec_l23Copy.f k nodes tops x o fold) (rd_T56 nodes i).f3 out [] []).bind fun r => copyEnd k (rd_T56 nodes i) out r.1 r.2.1 r.2.2 fold else none
theorem rdKept {nodes : List S56} {A : Option Addr} {w : World} {P : Nat → Prop} (hN : ∀ W_, Kept w W_ P → Kd.C k56 W_ A nodes.length nodes) (i : Int) (h0 : 0 ≤ i) (h1 : i < nodes.length) :
  ∃ nd NA nc, A = some nd ∧ (rd_T56 nodes i).f3.length ≤ nc ∧ ∀ W_, Kept w W_ P → W_.cell? (nd.add (i.toNat * 4)) = some (.int .i64 (rd_T56 nodes i).f0) ∧ W_.cell? ⟨(nd.add (i.toNat * 4)).block, (nd.add (i.toNat * 4)).off + 1, none⟩ = some (.string (rd_T56 nodes i).f1) ∧ W_.cell? ⟨(nd.add (i.toNat * 4)).block, (nd.add (i.toNat * 4)).off + 2, none⟩ = some (.int .i64 (rd_T56 nodes i).f2) ∧ W_.cell? ⟨(nd.add (i.toNat * 4)).block, (nd.add (i.toNat * 4)).off + 3, none⟩ = some (.slice NA (rd_T56 nodes i).f3.length nc) ∧ Kd.C (Kd.int .i64) W_ NA (rd_T56 nodes i).f3.length (rd_T56 nodes i).f3 := by
 obtain ⟨nd, NA, nc, ead, hx0, hx1, hx2, hx3, hl, hi⟩ := at_T56 (hN w (Kept.refl _ _)) i h0 h1
 subst ead
 refine ⟨nd, NA, nc, rfl, hl, fun W_ hk => ?_⟩
 have hp : ¬ P (nd.add (i.toNat * 4)).block := fun hP => by
  have hk' : Kept w { w with heap := w.heap.setIfInBounds (nd.add (i.toNat * 4)).block (.cells #[] 0) } P := ⟨by simp, fun k _ hkP => by
   have : k ≠ (nd.add (i.toNat * 4)).block := fun e => hkP (e ▸ hP)
   simp [Ne.symm this]⟩
  obtain ⟨nd', _, _, ead', hz, _⟩ := at_T56 (hN _ hk') i h0 h1
  injection ead' with ead'
  subst ead'
  have hlt := World.block_lt_of_cell? _ _ hx0
  simp [World.cell?, hlt] at hz
 obtain ⟨nd', NA', nc', ead', hy0, hy1, hy2, hy3, hl', hi'⟩ := at_T56 (hN W_ hk) i h0 h1
 injection ead' with ead'
 subst ead'
 have hlt := World.block_lt_of_cell? _ _ hx0
 have hb := hk.2 _ hlt hp
 have e3 : W_.cell? ⟨(nd.add (i.toNat * 4)).block, (nd.add (i.toNat * 4)).off + 3, none⟩ = w.cell? ⟨(nd.add (i.toNat * 4)).block, (nd.add (i.toNat * 4)).off + 3, none⟩ := World.cell?_of_block hb
 rw [hy3, hx3] at e3
 injection e3 with e3
 injection e3 with eA _ ec
 subst eA ec
 exact ⟨hy0, hy1, hy2, hy3, hi'⟩
theorem grown_trans {w w1 w2 : World} {u v : Value} (h1 : w.grownBy w1 u.ownBlock) (hat : v.ownBlock = u.ownBlock ∨ ∃ b, v.ownBlock = some b ∧ w.heap.size ≤ b) (h2 : w1.grownBy w2 v.ownBlock) : w.grownBy w2 u.ownBlock :=
 ⟨h2.os.trans h1.os, h2.tape.trans h1.tape, h2.output.trans h1.output, Nat.le_trans h1.size h2.size, fun k hk hne => (h2.block k (Nat.lt_of_lt_of_le hk h1.size) (fun e => by
  rcases hat with hat | ⟨b, hb, hle⟩
  ·exact hne (e.trans hat)
  ·rw [hb] at e; injection e with e; omega)).trans (h1.block k hk hne)⟩
theorem hat_trans {w w1 : World} {u v x : Value} (hs : w.heap.size ≤ w1.heap.size) (hat : v.ownBlock = u.ownBlock ∨ ∃ b, v.ownBlock = some b ∧ w.heap.size ≤ b) (h2 : x.ownBlock = v.ownBlock ∨ ∃ b, x.ownBlock = some b ∧ w1.heap.size ≤ b) : x.ownBlock = u.ownBlock ∨ ∃ b, x.ownBlock = some b ∧ w.heap.size ≤ b := by
 rcases h2 with h2 | ⟨b, hb, hle⟩
 ·rw [h2]; exact hat
 ·exact .inr ⟨b, hb, by omega⟩
/-- A row that is grown is none of another one's. -/
theorem grown_off {w w1 w2 : World} {u v : Option Nat} (h1 : w.grownBy w1 u) (h2 : w1.grownBy w2 v) (hv : ∀ k, v = some k → w.heap.size ≤ k ∨ some k = u) : w.grownBy w2 u :=
 ⟨h2.os.trans h1.os, h2.tape.trans h1.tape, h2.output.trans h1.output, Nat.le_trans h1.size h2.size, fun k hk hne => (h2.block k (Nat.lt_of_lt_of_le hk h1.size) (fun e => by
  rcases hv k e.symm with h | h
  ·omega
  ·exact hne h)).trans (h1.block k hk hne)⟩
/-- The last element of a row of one's own. -/
theorem last56 {W : World} {base : Nat} {ok : Nat → Prop} {A : Option Addr} {c : Nat} {o : List S56} (h : Kd.S k56 56 W base ok (.slice A o.length c) o) (hp : 0 < o.length) (i : Int) (hi : i = (o.length : Int) - 1) :
  ∃ ad, A = some ad ∧ o.length ≤ c ∧ W.cell? (ad.add (i.toNat * 4)) = some (.int .i64 (rd_T56 o i).f0) ∧ W.cell? ⟨(ad.add (i.toNat * 4)).block, (ad.add (i.toNat * 4)).off + 1, none⟩ = some (.string (rd_T56 o i).f1) ∧ W.cell? ⟨(ad.add (i.toNat * 4)).block, (ad.add (i.toNat * 4)).off + 2, none⟩ = some (.int .i64 (rd_T56 o i).f2) ∧ ∃ v3, W.cell? ⟨(ad.add (i.toNat * 4)).block, (ad.add (i.toNat * 4)).off + 3, none⟩ = some v3 ∧ Kd.FK k56 W (fun k => ok k ∧ some k ≠ (Value.slice A o.length c).ownBlock) (rd_T56 o i) [.int .i64 (rd_T56 o i).f0, .string (rd_T56 o i).f1, .int .i64 (rd_T56 o i).f2, v3] := by
 obtain ⟨_, hlc, hC⟩ := Kd.S_reads' h
 obtain ⟨ad, _, _, rfl, hx0, hx1, hx2, hx3, _, _⟩ := at_T56 hC i (by omega) (by omega)
 obtain ⟨cs, hcl, hM, hcc⟩ := Kd.S_get h z56 i (by omega) (by omega)
 obtain ⟨v3, rfl, hR⟩ := k56_openM hM
 have h3 := hcc 3 v3 rfl
 refine ⟨ad, rfl, hlc, hx0, hx1, hx2, v3, ?_, Kd.FK_of_M hM⟩
 obtain ⟨g, rfl⟩ := Kd.R_head (Kd.S_R h)
 rw [add_at] at h3 ⊢
 show W.cell? ⟨g, 0 + i.toNat * 4 + 3, none⟩ = some v3
 rw [Nat.add_assoc]
 exact h3
theorem below_mono' {w0 w w1 : World} (_h : Below w0.heap.size w0 w) (hb : Below w.heap.size w w1) : Below w.heap.size w w1 := hb
theorem own_len (A : Option Addr) (n c m c' : Nat) : (Value.slice A n c).ownBlock = (Value.slice A m c').ownBlock := by cases A <;> rfl
theorem grownBy_refl (w : World) (o : Option Nat) : w.grownBy w o := ⟨rfl, rfl, rfl, Nat.le_refl _, fun _ _ _ => rfl⟩
theorem hat_up {v x : Value} {n m m' : Nat} (hs : n ≤ m) (h : x.ownBlock = v.ownBlock ∨ ∃ b, x.ownBlock = some b ∧ m' ≤ b) (hm : m ≤ m') : x.ownBlock = v.ownBlock ∨ ∃ b, x.ownBlock = some b ∧ n ≤ b := by
 rcases h with h | ⟨b, hb, hle⟩
 ·exact .inl h
 ·exact .inr ⟨b, hb, by omega⟩
theorem cW (i : Nat) (h : i ≤ 9223372036854775806) : wrap64 ((i : Int) + 1) = ((i + 1 : Nat) : Int) := by
 unfold wrap64
 omega
theorem below_grown {w0 w w1 : World} (hB : Below w0.heap.size w0 w) {v : Value} (hg : w.grownBy w1 v.ownBlock) (hv : ∀ k, v.ownBlock = some k → w0.heap.size ≤ k) : Below w0.heap.size w0 w1 :=
 ⟨hg.os.trans hB.os, hg.tape.trans hB.tape, hg.output.trans hB.output, Nat.le_trans hB.size hg.size, fun k hk => (hg.block k (Nat.lt_of_lt_of_le hk hB.size) (fun e => by have := hv k e.symm; omega)).trans (hB.block k hk)⟩
theorem grownBy_below {w w1 w2 : World} {o : Option Nat} (h : w.grownBy w1 o) (hb : Below w1.heap.size w1 w2) : w.grownBy w2 o :=
 ⟨hb.os.trans h.os, hb.tape.trans h.tape, hb.output.trans h.output, Nat.le_trans h.size hb.size, fun k hk hne => (hb.block k (Nat.lt_of_lt_of_le hk h.size)).trans (h.block k hk hne)⟩
set_option maxHeartbeats 4000000 in
set_option maxRecDepth 100000 in
theorem copy14.calls (k : Nat) : ∀ (A : Option Addr) (c : Nat) (nodes : List S56) (B : Option Addr) (d : Nat) (tops : List Int) (i : Int) (P : Nat → Prop) (u : Value) (out : List S56) (fold : Bool) (r : List S56) (w0 w : World) (hB : Below w0.heap.size w0 w) (hN : ∀ W_, Kept w W_ P → Kd.C k56 W_ A nodes.length nodes) (ho : Kd.S k56 56 w w0.heap.size P u out) (h : spec_l23Copy.f k nodes tops i out fold = some r),
  Calls Try.prog 14 #[.agg #[.slice A nodes.length c, .slice B tops.length d], .int .i64 i, u, .bool fold] w fun e w' => ∃ v0_ : Value, e = .returned v0_ ∧ Kd.S k56 56 w' w0.heap.size (fun k_ => P k_ ∨ w.heap.size ≤ k_) v0_ r ∧ Below w0.heap.size w0 w' ∧ w.grownBy w' u.ownBlock ∧ (v0_.ownBlock = u.ownBlock ∨ ∃ b, v0_.ownBlock = some b ∧ w.heap.size ≤ b) := by
 induction k with
 | zero => intro A c nodes B d tops i P u out fold r w0 w hB hN ho h; cases h
 | succ k ih =>
  intro A c nodes B d tops i P u out fold r w0 w hB hN ho h
  have hu56 := Try.underlying56
  have hu29 := Try.underlying29
  unfold spec_l23Copy.f at h
  split at h
  rotate_left
  ·cases h
  next hi =>
  obtain ⟨p0, q0⟩ := hi
  obtain ⟨⟨o1, ks1, ls1⟩, hcp, h⟩ := Option.bind_eq_some_iff.mp h
  obtain ⟨nd, NA, nc, rfl, hnc, hrd⟩ := rdKept hN i p0 q0
  generalize rd_T56 nodes i = n at h hcp hnc hrd
  obtain ⟨n0, n1, n2, n3⟩ := n
  dsimp only at h hcp hnc hrd
  obtain ⟨Au, cu, rfl⟩ := Kd.S_slice ho
  obtain ⟨_, _, _, _, hkC0⟩ := hrd w (Kept.refl _ _)
  have IH := Aside0.mk ih
  have HE := Aside0.mk h
  have HCP := Aside0.mk hcp
  have HNC := Aside0.mk hnc
  have HML := Aside0.mk (show n3.length ≤ 9223372036854775807 from hkC0.2.1)
  have HRD := Aside0.mk hrd
  have HN := Aside0.mk hN
  have HO := Aside0.mk ho
  have HBB := Aside0.mk hB
  obtain ⟨hx0, hx1, hx2, hx3, hkC⟩ := hrd w (Kept.refl _ _)
  clear ih h hcp hnc hrd hN ho hB hkC
  clear h
  have hlt := World.block_lt_of_cell? w _ hx0
  replace p0 := eq_true p0
  replace q0 := eq_true q0
  go_enter Try.func14, Try.ntmps14
  go_upto_region 2 with (fail)
  obtain ⟨w1, hw1⟩ : ∃ w1, w1 = (w.alloc (.cells #[.slice (some nd) nodes.length c, .slice B tops.length d] 29)).alloc (.cells #[.int .i64 n0, .string n1, .int .i64 n2, .slice NA n3.length nc] 56) := ⟨_, rfl⟩
  rw [← hw1]
  have hb1 : Below w.heap.size w w1 := by rw [hw1]; exact below_alloc (below_alloc (Below.refl _ _) _) _
  have k4 : w1.heap[w.heap.size]? = some (.cells #[.slice (some nd) nodes.length c, .slice B tops.length d] 29 (0, 0)) := by rw [hw1]; exact blk_alloc (blk_new _ _) _
  have k9 : w1.heap[w.heap.size + 1]? = some (.cells #[.int .i64 n0, .string n1, .int .i64 n2, .slice NA n3.length nc] 56 (0, 0)) := by rw [hw1]; exact blk2 _ _ _
  have HB1 := Aside0.mk hb1
  have K4 := Aside0.mk k4
  have K9 := Aside0.mk k9
  have HW0 := Aside0.mk HBB.out.size
  have HPO := Aside0.mk (show ∀ k_, (Value.slice Au out.length cu).ownBlock = some k_ → P k_ from HO.out.choose_spec.1)
  clear hw1 hb1 k4 k9 hx0 hx1 hx2 hx3 hlt
  go_wp2_with (first
   | ((with_reducible refine gate_dst (N := 21) rfl ?_); refine Kd.R_lit (Kd.int .i64) _ 3 ?hg (N := 21) ?hd (xs := ([] : List Int)) (inner := []) (ok := fun _ => True) (okp := fun _ => True) ?hr ?hp (fun _ hk => hk) trivial (Below.refl _ _) (Nat.le_refl _) (by simp) ?_; (case hd => rfl); (case hg => rfl); (case hr => first | (go_simp; done) | (go_simp; rfl)); (case hp => exact (Reps.none _ _)); intro v10 w2 ho2 hb2 hg_ hnew_; clear hg_ hnew_; have HO10 := Aside0.mk ho2; have HS12 := Aside0.mk hb2.size; have hb12 := below_step HB1.out hb2; have HB2 := Aside0.mk hb12; have K42 := Aside0.mk (blk_below K4.out hb2); have K92 := Aside0.mk (blk_below K9.out hb2); clear ho2 hb2 hb12)
   | ((with_reducible refine gate_dst (N := 22) rfl ?_); refine Kd.R_lit k56 _ 56 ?hg (N := 22) ?hd (xs := ([] : List S56)) (inner := []) (ok := fun _ => True) (okp := fun _ => True) ?hr ?hp (fun _ hk => hk) trivial (Below.refl _ _) (Nat.le_refl _) (by simp) ?_; (case hd => rfl); (case hg => rfl); (case hr => first | (go_simp; done) | (go_simp; rfl)); (case hp => exact (Reps.none _ _)); intro v11 w3 ho3 hb3 hg_ hnew_; clear hg_ hnew_; have HO11 := Aside0.mk ho3; have HO10' := Aside0.mk (Kd.R_below HO10.out hb3); have hb13 := below_step HB2.out hb3; have HB3 := Aside0.mk hb13; have K43 := Aside0.mk (blk_below K42.out hb3); have K93 := Aside0.mk (blk_below K92.out hb3); have HS2 := Aside0.mk hb3.size; clear ho3 hb3 hb13))
  go_loopg [2, 10, 11, 13] n3.length (fun kq v2 v10 v11 v13 w' => ∃ (j : Nat) (o : List S56) (ks : List Int) (ls : List S56) (y2 y10 y11 : Value), y2 = v2 ∧ y10 = v10 ∧ y11 = v11 ∧ v13 = .int .i64 (j : Int) ∧ Aside0 (j + kq = n3.length) ∧ Aside0 (copyKids (fun x o => spec_l23Copy.f k nodes tops x o fold) (n3.drop j) o ks ls = some (o1, ks1, ls1)) ∧ Aside0 (Kd.S k56 56 w' w0.heap.size (fun k_ => (P k_ ∨ w.heap.size ≤ k_) ∧ k_ ≠ w.heap.size + 1 ∧ some k_ ≠ v10.ownBlock ∧ some k_ ≠ v11.ownBlock) v2 o) ∧ Aside0 (Kd.R (Kd.int .i64) 3 w' (w.heap.size + 2) (fun _ => True) v10 ks) ∧ Aside0 (Kd.N k56 56 w' (w.heap.size + 2) (fun k_ => some k_ ≠ v2.ownBlock ∧ some k_ ≠ v10.ownBlock) v11 ls) ∧ Aside0 (w'.heap[w.heap.size]? = some (.cells #[.slice (some nd) nodes.length c, .slice B tops.length d] 29 (0, 0))) ∧ Aside0 (w'.heap[w.heap.size + 1]? = some (.cells #[.int .i64 n0, .string n1, .int .i64 n2, .slice NA n3.length nc] 56 (0, 0))) ∧ Aside0 (Below w0.heap.size w0 w') ∧ Aside0 (w.grownBy w' (Value.slice Au out.length cu).ownBlock) ∧ Aside0 (v2.ownBlock = (Value.slice Au out.length cu).ownBlock ∨ ∃ b, v2.ownBlock = some b ∧ w.heap.size ≤ b))
  case atStart =>
   have hlt : ∀ k_, (Value.slice Au out.length cu).ownBlock = some k_ → k_ < w.heap.size := Kd.S_lt HO.out
   have h10 : ∀ k_, v10.ownBlock = some k_ → w1.heap.size ≤ k_ := Kd.R_base HO10'.out
   have h11 : ∀ k_, v11.ownBlock = some k_ → w2.heap.size ≤ k_ := Kd.R_base HO11.out
   have hs1 : w.heap.size + 1 < w1.heap.size := blk_lt K9.out
   have hs2 : w1.heap.size ≤ w2.heap.size := HS12.out
   have hl10 : ∀ k_, v10.ownBlock = some k_ → k_ < w2.heap.size := Kd.R_lt HO10.out
   have hw0 := HW0.out
   refine ⟨0, out, [], [], _, _, _, rfl, rfl, rfl, rfl, ⟨by omega⟩, ⟨by rw [List.drop_zero]; exact HCP.out⟩, ⟨Kd.S_mono (Kd.S_below (Kd.S_bound HO.out) HB3.out) (fun k_ hk => ⟨.inl hk.1, fun e => by have := hk.2.2.1; omega, fun e => by have := h10 _ e.symm; have := hk.2.2.1; omega, fun e => by have := h11 _ e.symm; have := hk.2.2.1; omega⟩)⟩, ⟨Kd.R_lower HO10'.out (by omega)⟩, ⟨Kd.N_lower (Kd.R_N (Kd.R_mono (Kd.R_bound HO11.out) (fun k_ hk => ⟨fun e => by have := hlt _ e.symm; have := hk.2.1; omega, fun e => by have := hl10 _ e.symm; have := hk.2.1; omega⟩))) (by omega)⟩, K43, K93, ⟨below_step HBB.out HB3.out⟩, ⟨⟨HB3.out.os, HB3.out.tape, HB3.out.output, HB3.out.size, fun k_ hk _ => HB3.out.block k_ hk⟩⟩, ⟨.inl rfl⟩⟩
  case round =>
   clear HO HO10 HO10' HO11 HB1 HB2 HB3 K4 K42 K43 K9 K92 K93 HS2 HS12
   obtain ⟨j, o, ks, ls, v2, v10, v11, rfl, rfl, rfl, rfl, HX, HC, HO, HR10, HN11, K4, K9, HB, HG, HA⟩ := hrel
   have HP : Aside0 (∀ k_, (Value.slice Au out.length cu).ownBlock = some k_ → P k_) := ⟨HPO.out⟩
   have hkept : Kept w wr P := ⟨HG.out.size, fun i_ hi hp => HG.out.block i_ hi (fun e => hp (HPO.out _ e.symm))⟩
   obtain ⟨_, _, _, _, hkC⟩ := HRD.out wr hkept
   have HKC := Aside0.mk hkC
   have HKEPT := Aside0.mk hkept
   clear hkC hkept
   have g40 := (blk_cell K4.out 0).trans rfl
   have g41 := (blk_cell K4.out 1).trans rfl
   have g90 := (blk_cell K9.out 0).trans rfl
   have g91 := (blk_cell K9.out 1).trans rfl
   have g92 := (blk_cell K9.out 2).trans rfl
   have g93 := (blk_cell K9.out 3).trans rfl
   by_cases c1 : j < n3.length
   ·have cb : decide ((j : Int) < (n3.length : Int)) = true := by simpa using c1
    obtain ⟨ad, ead, hx⟩ := Kd.at_int HKC.out (j : Int) (by omega) (by omega)
    cases ead
    rw [Int.toNat_natCast] at hx
    have hrd : rd n3 (j : Int) = n3[j] := by
     unfold rd
     rw [Int.toNat_natCast, List.getD_eq_getElem?_getD, List.getElem?_eq_getElem c1]
     rfl
    have hn := HC.out
    rw [List.drop_eq_getElem_cons c1, ← hrd] at hn
    generalize rd n3 (j : Int) = x at hx hn
    unfold copyKids at hn
    obtain ⟨o2, hrec, hn⟩ := Option.bind_eq_some_iff.mp hn
    split at hn
    rotate_left
    ·cases hn
    next hsz =>
    have HREC := Aside0.mk hrec
    have HN2 := Aside0.mk hn
    have HSZ := Aside0.mk hsz
    obtain ⟨A10, c10, rfl⟩ := Kd.R_slice HR10.out
    obtain ⟨A11, c11, rfl⟩ := Kd.N_slice HN11.out
    have wsub : wrap64 ((o2.length : Int) - 1) = (o2.length : Int) - 1 := by unfold wrap64; omega
    have WS := Aside0.mk wsub
    have pp : 0 ≤ (j : Int) := by omega
    clear hrec hn hsz wsub hrd
    go_upto_region 8 with (fail)
    go_still_tail 8, (by kernel_rfl)
    have hbd : Below wr.heap.size wr wr.drew := below_drew1 (Below.refl _ _)
    change wpList _ _ _ _ _ wr.drew
    generalize wr.drew = wd at hbd ⊢
    replace HO := Aside0.mk (Kd.S_below HO.out hbd)
    replace HR10 := Aside0.mk (Kd.R_below HR10.out hbd)
    replace HN11 := Aside0.mk (Kd.N_below HN11.out hbd)
    replace K4 := Aside0.mk (blk_below K4.out hbd)
    replace K9 := Aside0.mk (blk_below K9.out hbd)
    replace HB := Aside0.mk (below_step HB.out (below_mono' HB.out hbd))
    replace HG := Aside0.mk (grownBy_below HG.out hbd)
    clear hbd HKEPT HKC
    have HKEPT : Aside0 (Kept w wd P) := ⟨⟨HG.out.size, fun i_ hi hp => HG.out.block i_ hi (fun e => hp (HPO.out _ e.symm))⟩⟩
    have HCALL := Aside0.mk (IH.out (some nd) c nodes B d tops x (fun k_ => (P k_ ∨ w.heap.size ≤ k_) ∧ k_ ≠ w.heap.size + 1 ∧ some k_ ≠ (Value.slice A10 ks.length c10).ownBlock ∧ some k_ ≠ (Value.slice A11 ls.length c11).ownBlock) v2 o fold o2 w0 wd HB.out (fun W_ hk => HN.out W_ ⟨Nat.le_trans HG.out.size hk.1, fun i_ hi hp => (hk.2 i_ (Nat.lt_of_lt_of_le hi HG.out.size) (fun hq => by rcases hq.1 with h | h; exact hp h; omega)).trans (HKEPT.out.2 i_ hi hp)⟩) HO.out HREC.out)
    go_wp2_with (first
     | (go_at_call 14; (with_reducible refine (HCALL.out).mono ?_); rintro e w2 ⟨v2', rfl, ho, hb, hg, hat⟩; have hs9 : w.heap.size + 1 < wd.heap.size := blk_lt K9.out; have h10 : ∀ k_, (Value.slice A10 ks.length c10).ownBlock = some k_ → k_ < wd.heap.size := Kd.R_lt HR10.out; have h11 : ∀ k_, (Value.slice A11 ls.length c11).ownBlock = some k_ → k_ < wd.heap.size := Kd.N_lt HN11.out; have hQ := HO.out.choose_spec.1; have HO2 : Aside0 (Kd.S k56 56 w2 w0.heap.size (fun k_ => (P k_ ∨ w.heap.size ≤ k_) ∧ k_ ≠ w.heap.size + 1 ∧ some k_ ≠ (Value.slice A10 ks.length c10).ownBlock ∧ some k_ ≠ (Value.slice A11 ls.length c11).ownBlock) v2' o2) := ⟨Kd.S_mono ho (fun k_ hk => by rcases hk with hk | hk; exact hk; exact ⟨.inr (by omega), fun e => by omega, fun e => by have := h10 _ e.symm; omega, fun e => by have := h11 _ e.symm; omega⟩)⟩; have HR2 := Aside0.mk (Kd.R_grown2 HR10.out rfl hg (fun k_ hk => (hQ k_ hk).2.2.1)); have HN2' := Aside0.mk (Kd.N_mono (Kd.N_after (Kd.N_mono HN11.out (fun k_ hk => (⟨hk.2, hk.1⟩ : some k_ ≠ (Value.slice A10 ks.length c10).ownBlock ∧ some k_ ≠ v2.ownBlock))) hg hat) (fun k_ hk => (⟨hk.2, hk.1⟩ : some k_ ≠ v2'.ownBlock ∧ some k_ ≠ (Value.slice A10 ks.length c10).ownBlock))); have K42 := Aside0.mk (blk_grown (by exact K4.out) hg (Kd.S_ne HO.out K4.out (by decide))); have K92 := Aside0.mk (blk_grown (by exact K9.out) hg (fun e => (hQ _ e.symm).2.1 rfl)); have HB2 := Aside0.mk hb; have HG2 := Aside0.mk (grown_trans HG.out HA.out hg); have HA2 := Aside0.mk (hat_trans HG.out.size HA.out hat); clear g40 g41 g90 g91 g92 g93 hQ h10 h11 hs9 ho hb hg hat; obtain ⟨A2, c2, rfl⟩ := Kd.S_slice HO2.out)
     | ((with_reducible refine gate_builtin (b := .append) (xs := #[.tmp 41, .tmp 45]) rfl ?_); at_builtin; refine Kd.R_append (Kd.int .i64) (w0 := w2) (w.heap.size + 2) rfl (.tmp 41) (.tmp 45) 23 3 (.int .i64 0) 8 rfl Try.underlying23 info3 rfl (by decide) (by omega) (Value.slice A10 ks.length c10) ks (wrap64 ((o2.length : Int) - 1)) [.int .i64 (wrap64 ((o2.length : Int) - 1))] (fun _ => True) (fun _ => False) rfl rfl ?aP (fun _ hk => hk.elim) ?aF ?aO ?aB ?aS ?aL ?_; (case aP => exact rfl); (case aB => exact Below.refl _ _); (case aF => exact (fun _ _ => trivial)); (case aO => exact HR2.out); (case aS => exact (show w.heap.size + 2 ≤ w2.heap.size from blk_lt K92.out)); (case aL => have := HSZ.out; omega); intro v10' w3 ho hb hg hat; rw [WS.out] at ho; have hS3 := Kd.S_after (v := (Value.slice A10 ks.length c10)) (v1 := v10') (Kd.S_mono HO2.out (fun k_ hk => (⟨⟨hk.1, hk.2.1, hk.2.2.2⟩, hk.2.2.1⟩ : ((P k_ ∨ w.heap.size ≤ k_) ∧ k_ ≠ w.heap.size + 1 ∧ some k_ ≠ (Value.slice A11 ls.length c11).ownBlock) ∧ some k_ ≠ (Value.slice A10 ks.length c10).ownBlock))) hg hat; have HO3 : Aside0 (Kd.S k56 56 w3 w0.heap.size (fun k_ => (P k_ ∨ w.heap.size ≤ k_) ∧ k_ ≠ w.heap.size + 1 ∧ some k_ ≠ v10'.ownBlock ∧ some k_ ≠ (Value.slice A11 ls.length c11).ownBlock) (.slice A2 o2.length c2) o2) := ⟨Kd.S_mono hS3 (fun k_ hk => ⟨hk.1.1, hk.1.2.1, hk.2, hk.1.2.2⟩)⟩; have HR3 := Aside0.mk ho; have HN3 := Aside0.mk (Kd.N_after (u := (Value.slice A10 ks.length c10)) (u1 := v10') HN2'.out hg hat); have K43 := Aside0.mk (blk_grown (by exact K42.out) hg (Kd.R_ne HR2.out K42.out (by decide))); have K93 := Aside0.mk (blk_grown (by exact K92.out) hg (Kd.R_ne HR2.out K92.out (by decide))); have hr10 : ∀ k_, (Value.slice A10 ks.length c10).ownBlock = some k_ → True := fun _ _ => trivial; have HB3 := Aside0.mk (below_grown HB2.out hg (fun k_ hk => by have := HW0.out; have := Kd.R_base HR2.out k_ hk; omega)); have HG3 : Aside0 (w.grownBy w3 (Value.slice Au out.length cu).ownBlock) := ⟨grown_off HG2.out hg (fun k_ hk => .inl (by have := Kd.R_base HR2.out k_ hk; omega))⟩; clear ho hb hg hat hS3 hr10; obtain ⟨adl, hadl, hc2, hl0, hl1, hl2, v3l, hl3, hfk⟩ := last56 HO3.out (by have := HSZ.out; omega) (wrap64 ((o2.length : Int) - 1)) WS.out; cases hadl; have hi0 := eq_true (show 0 ≤ wrap64 ((o2.length : Int) - 1) from (by rw [WS.out]; have := HSZ.out; omega)); have hi1 := eq_true (show wrap64 ((o2.length : Int) - 1) < (o2.length : Int) from (by rw [WS.out]; have := HSZ.out; omega)); have HFK := Aside0.mk hfk; clear hfk)
     | ((with_reducible refine gate_builtin (b := .append) (xs := #[.tmp 47, .tmp 54]) rfl ?_); at_builtin; refine Kd.N_append k56 (w0 := w3) (w.heap.size + 2) rfl (.tmp 47) (.tmp 54) 27 56 (.agg #[(.int .i64 0), (.string ⟨#[]⟩), (.int .i64 0), (.slice none 0 0)]) 56 rfl Try.underlying27 info56 rfl (by decide) (by omega) (Value.slice A11 ls.length c11) ls (rd_T56 o2 (wrap64 ((o2.length : Int) - 1))) [.int .i64 (rd_T56 o2 (wrap64 ((o2.length : Int) - 1))).f0, .string (rd_T56 o2 (wrap64 ((o2.length : Int) - 1))).f1, .int .i64 (rd_T56 o2 (wrap64 ((o2.length : Int) - 1))).f2, v3l] (fun k_ => some k_ ≠ (Value.slice (some adl) o2.length c2).ownBlock ∧ some k_ ≠ v10'.ownBlock) (fun k_ => ((P k_ ∨ w.heap.size ≤ k_) ∧ k_ ≠ w.heap.size + 1 ∧ some k_ ≠ v10'.ownBlock ∧ some k_ ≠ (Value.slice A11 ls.length c11).ownBlock) ∧ some k_ ≠ (Value.slice (some adl) o2.length c2).ownBlock) rfl rfl ?aP ?aK ?aF ?aO ?aB ?aS ?aL ?_; (case aP => exact HFK.out); (case aK => exact (fun k_ hk => ⟨⟨hk.2, hk.1.2.2.1⟩, hk.1.2.2.2⟩)); (case aB => exact Below.refl _ _); (case aF => exact (fun k_ hk => ⟨fun e => by have := Kd.S_lt HO3.out _ e.symm; omega, fun e => by have := Kd.R_lt HR3.out _ e.symm; omega⟩)); (case aO => exact HN3.out); (case aS => exact (show w.heap.size + 2 ≤ w3.heap.size from blk_lt K93.out)); (case aL => have := HSZ.out; omega); intro v11' w4 ho hb hg hat; rw [WS.out] at ho; have hQ3 := HO3.out.choose_spec.1; have hN3 := HN3.out.1; have hS4 := Kd.S_after (v := (Value.slice A11 ls.length c11)) (v1 := v11') (Kd.S_mono HO3.out (fun k_ hk => (⟨⟨hk.1, hk.2.1, hk.2.2.1⟩, hk.2.2.2⟩ : ((P k_ ∨ w.heap.size ≤ k_) ∧ k_ ≠ w.heap.size + 1 ∧ some k_ ≠ v10'.ownBlock) ∧ some k_ ≠ (Value.slice A11 ls.length c11).ownBlock))) hg hat; have HO4 : Aside0 (Kd.S k56 56 w4 w0.heap.size (fun k_ => (P k_ ∨ w.heap.size ≤ k_) ∧ k_ ≠ w.heap.size + 1 ∧ some k_ ≠ v10'.ownBlock ∧ some k_ ≠ v11'.ownBlock) (.slice (some adl) o2.length c2) o2) := ⟨Kd.S_mono hS4 (fun k_ hk => ⟨hk.1.1, hk.1.2.1, hk.1.2.2, hk.2⟩)⟩; have HR4 := Aside0.mk (Kd.R_grown2 HR3.out rfl hg (fun k_ hk => (hN3 k_ hk).2)); have HN4 := Aside0.mk ho; have K44 := Aside0.mk (blk_grown (by exact K43.out) hg (Kd.N_ne HN3.out K43.out (by decide))); have K94 := Aside0.mk (blk_grown (by exact K93.out) hg (fun e => by have := Kd.N_base HN3.out _ e.symm; omega)); have HB4 := Aside0.mk (below_grown HB3.out hg (fun k_ hk => by have := HW0.out; have := Kd.N_base HN3.out k_ hk; omega)); have HG4 : Aside0 (w.grownBy w4 (Value.slice Au out.length cu).ownBlock) := ⟨grown_off HG3.out hg (fun k_ hk => .inl (by have := Kd.N_base HN3.out k_ hk; omega))⟩; clear ho hb hg hat hS4 hQ3 hN3 hl0 hl1 hl2 hl3))
    go_roundg (n3.length - (j + 1))
    case measure => have := HX.out; omega
    case rel => exact ⟨j + 1, o2, ks ++ [(o2.length : Int) - 1], ls ++ [rd_T56 o2 ((o2.length : Int) - 1)], _, _, _, rfl, rfl, rfl, (by first | rfl | rw [cW j (by have := HX.out; have := HML.out; omega)]), ⟨by have := HX.out; omega⟩, HN2, HO4, HR4, HN4, K44, K94, HB4, HG4, HA2⟩
   ·have cb : decide ((j : Int) < (n3.length : Int)) = false := by simpa using c1
    have hn := HC.out
    rw [show j = n3.length by have := HX.out; omega, List.drop_length] at hn
    injection hn with hn
    injection hn with e1 hn
    injection hn with e2 e3
    subst e1 e2 e3
    have he := HE.out
    unfold copyEnd at he
    split at he
    rotate_left
    ·cases he
    next hlen =>
    have HLEN := Aside0.mk hlen
    obtain ⟨A2, c2, rfl⟩ := Kd.S_slice HO.out
    obtain ⟨A11, c11, rfl⟩ := Kd.N_slice HN11.out
    obtain ⟨A10, c10, rfl⟩ := Kd.R_slice HR10.out
    have hQ := HO.out.choose_spec.1
    have HQ := Aside0.mk hQ
    have HWR : Aside0 (w.heap.size + 2 ≤ wr.heap.size) := ⟨blk_lt K9.out⟩
    clear hlen hQ HN HRD IH HCP
    cases fold with
    | false =>
     rw [if_neg Bool.false_ne_true] at he
     injection he with he
     subst he
     go_wp2_with (first
      | ((with_reducible refine gate_builtin (b := .append) (xs := #[.tmp 70, .tmp 79]) rfl ?_); at_builtin; refine Kd.S_append k56 (w0 := w0) w0.heap.size rfl (.tmp 70) (.tmp 79) 27 56 (.agg #[(.int .i64 0), (.string ⟨#[]⟩), (.int .i64 0), (.slice none 0 0)]) 56 rfl Try.underlying27 info56 rfl (by decide) (by omega) (.slice A2 o.length c2) o (⟨n0, n1, n2, ks⟩ : S56) [.int .i64 n0, .string n1, .int .i64 n2, .slice A10 ks.length c10] (fun k_ => P k_ ∨ w.heap.size ≤ k_) (fun k_ => some k_ = ((.slice A10 ks.length c10) : Value).ownBlock) rfl rfl ?aP ?aK ?aF ?aO ?aB ?aS ?aL ?_; (case aP => exact k56_mkM _ _ _ _ (Kd.R_mono (Kd.R_tight rfl (Kd.R_lower HR10.out (by have := HW0.out; have := HWR.out; omega))) (fun _ h_ => h_))); (case aK => exact (fun k_ hk => ⟨.inr (by have := Kd.R_base HR10.out k_ hk.symm; have := HWR.out; omega), fun e => (HQ.out k_ e.symm).2.2.1 hk⟩)); (case aB => exact HB.out); (case aF => exact (fun k_ hk => .inr (Nat.le_trans (by have := HWR.out; omega) hk))); (case aO => exact (Kd.S_mono HO.out (fun k_ hk => ⟨hk.1, fun e => hk.2.2.1 e⟩))); (case aS => exact (HB.out).size); (case aL => have := HLEN.out; omega); intro v1 w6 ho hb hg hat; have HO6 := Aside0.mk ho; have HB6 := Aside0.mk hb; have HG6 := Aside0.mk hg; have HA6 := Aside0.mk hat; clear ho hb hg hat))
     go_ret
     exact ⟨_, rfl, HO6.out, HB6.out, grown_trans HG.out HA.out HG6.out, hat_trans HG.out.size HA.out HA6.out⟩
    | true =>
     rw [if_pos rfl] at he
     obtain ⟨⟨b1, b2, b3, b4, b5⟩, hsm, he⟩ := Option.bind_eq_some_iff.mp he
     obtain ⟨_, hl11, hC11⟩ := Kd.N_reads' HN11.out
     have HSM := Aside0.mk hsm
     have HL11 := Aside0.mk hl11
     have HC11 := Aside0.mk hC11
     clear hsm hl11 hC11
     cases b5 with
     | false =>
      dsimp only at he
      rw [if_neg Bool.false_ne_true] at he
      injection he with he
      subst he
      go_upto_region 13 with (first
       | (go_at_call 27; (with_reducible refine (spec_l23Small.calls k n0 n1 n2 NA nc n3 A11 c11 ls b1 b2 b3 b4 false _ HKC.out HNC.out HC11.out HL11.out HSM.out).mono ?_); rintro e w5 ⟨v3, rfl, ho3, hb⟩; obtain ⟨A3, c3, rfl⟩ := Kd.R_slice ho3; have HR3 := Aside0.mk ho3; have HO5 := Aside0.mk (Kd.S_below HO.out hb); have HR5 := Aside0.mk (Kd.R_below HR10.out hb); have HO5b := Aside0.mk (Kd.S_below (Kd.S_mono (ok' := fun k_ => (P k_ ∨ w.heap.size ≤ k_) ∧ ¬ some k_ = (Value.slice A3 b4.length c3).ownBlock) (Kd.S_bound HO.out) (fun k_ hk => ⟨hk.1.1, fun e => by have := Kd.R_base ho3 _ e.symm; have := hk.2.2.1; omega⟩)) hb); have k95 := blk_below K9.out hb; clear g40 g41 g90 g91 g92 g93; have g90 := (blk_cell k95 0).trans rfl; have g91 := (blk_cell k95 1).trans rfl; have g92 := (blk_cell k95 2).trans rfl; have g93 := (blk_cell k95 3).trans rfl; have hs9 := blk_lt k95; have HB5 := Aside0.mk (below_step HB.out (below_mono' HB.out hb)); have HG5 := Aside0.mk (grownBy_below HG.out hb); have HWL5 := Aside0.mk (show w.heap.size ≤ w5.heap.size from HG5.out.size); have HBW := Aside0.mk hb; have K95 := Aside0.mk k95; clear ho3 hb k95))
      obtain ⟨wq, hwq⟩ : ∃ wq, wq = w5.alloc (.cells #[.int .i64 b1, .string b2, .int .i64 b3, .slice A3 b4.length c3] 56) := ⟨_, rfl⟩
      rw [← hwq]
      have hbq : Below w5.heap.size w5 wq := by rw [hwq]; exact below_alloc (Below.refl _ _) _
      have k14 : wq.heap[w5.heap.size]? = some (.cells #[.int .i64 b1, .string b2, .int .i64 b3, .slice A3 b4.length c3] 56 (0, 0)) := by rw [hwq]; exact blk_new _ _
      have HOq := Aside0.mk (Kd.S_below HO5.out hbq)
      have HRq := Aside0.mk (Kd.R_below HR5.out hbq)
      have HOb := Aside0.mk (Kd.S_below HO5b.out hbq)
      have HR3q := Aside0.mk (Kd.R_below HR3.out hbq)
      have k9q := blk_below K95.out hbq
      have HBq := Aside0.mk (below_step HB5.out (below_mono' HB5.out hbq))
      have HGq := Aside0.mk (grownBy_below HG5.out hbq)
      have HWLq := Aside0.mk (show w.heap.size ≤ wq.heap.size from HGq.out.size)
      have HWWq := Aside0.mk (grownBy_below (grownBy_below (grownBy_refl wr (Value.slice A2 o.length c2).ownBlock) HBW.out) hbq)
      clear g90 g91 g92 g93 hs9 hwq hbq
      have g90 := (blk_cell k9q 0).trans rfl
      have g91 := (blk_cell k9q 1).trans rfl
      have g92 := (blk_cell k9q 2).trans rfl
      have g93 := (blk_cell k9q 3).trans rfl
      have c140 := (blk_cell k14 0).trans rfl
      have c141 := (blk_cell k14 1).trans rfl
      have c142 := (blk_cell k14 2).trans rfl
      have c143 := (blk_cell k14 3).trans rfl
      clear k9q k14
      go_wp2_with (first
       | ((with_reducible refine gate_builtin (b := .append) (xs := #[.tmp 70, .tmp 79]) rfl ?_); at_builtin; refine Kd.S_append k56 (w0 := w0) w0.heap.size rfl (.tmp 70) (.tmp 79) 27 56 (.agg #[(.int .i64 0), (.string ⟨#[]⟩), (.int .i64 0), (.slice none 0 0)]) 56 rfl Try.underlying27 info56 rfl (by decide) (by omega) (.slice A2 o.length c2) o (⟨n0, n1, n2, ks⟩ : S56) [.int .i64 n0, .string n1, .int .i64 n2, .slice A10 ks.length c10] (fun k_ => P k_ ∨ w.heap.size ≤ k_) (fun k_ => some k_ = ((.slice A10 ks.length c10) : Value).ownBlock) rfl rfl ?aP ?aK ?aF ?aO ?aB ?aS ?aL ?_; (case aP => exact k56_mkM _ _ _ _ (Kd.R_mono (Kd.R_tight rfl (Kd.R_lower HRq.out (by have := HW0.out; have := HWR.out; omega))) (fun _ h_ => h_))); (case aK => exact (fun k_ hk => ⟨.inr (by have := Kd.R_base HRq.out k_ hk.symm; have := HWR.out; omega), fun e => (HQ.out k_ e.symm).2.2.1 hk⟩)); (case aB => exact HBq.out); (case aF => exact (fun k_ hk => .inr (Nat.le_trans (HWLq.out) hk))); (case aO => exact (Kd.S_mono HOq.out (fun k_ hk => ⟨hk.1, fun e => hk.2.2.1 e⟩))); (case aS => exact (HBq.out).size); (case aL => have := HLEN.out; omega); intro v1 w6 ho hb hg hat; have HO6 := Aside0.mk ho; have HB6 := Aside0.mk hb; have HG6 := Aside0.mk hg; have HA6 := Aside0.mk hat; clear ho hb hg hat))
      go_ret
      exact ⟨_, rfl, HO6.out, HB6.out, grown_trans HG.out HA.out (grown_off HWWq.out HG6.out (fun k_ hk => .inr hk.symm)), hat_trans HG.out.size HA.out (hat_up HWWq.out.size HA6.out (Nat.le_refl _))⟩
     | true =>
      dsimp only at he
      rw [if_pos rfl] at he
      injection he with he
      subst he
      have hfc : out.length ≤ c2 := by
       have := HLEN.out
       have := (Kd.S_reads' HO.out).2.1
       omega
      have hfi : (out.length : Int) ≤ (c2 : Int) := by omega
      have hfp : 0 ≤ (out.length : Int) := by omega
      go_upto_region 13 with (first
       | (go_at_call 27; (with_reducible refine (spec_l23Small.calls k n0 n1 n2 NA nc n3 A11 c11 ls b1 b2 b3 b4 true _ HKC.out HNC.out HC11.out HL11.out HSM.out).mono ?_); rintro e w5 ⟨v3, rfl, ho3, hb⟩; obtain ⟨A3, c3, rfl⟩ := Kd.R_slice ho3; have HR3 := Aside0.mk ho3; have HO5 := Aside0.mk (Kd.S_below HO.out hb); have HR5 := Aside0.mk (Kd.R_below HR10.out hb); have HO5b := Aside0.mk (Kd.S_below (Kd.S_mono (ok' := fun k_ => (P k_ ∨ w.heap.size ≤ k_) ∧ ¬ some k_ = (Value.slice A3 b4.length c3).ownBlock) (Kd.S_bound HO.out) (fun k_ hk => ⟨hk.1.1, fun e => by have := Kd.R_base ho3 _ e.symm; have := hk.2.2.1; omega⟩)) hb); have k95 := blk_below K9.out hb; clear g40 g41 g90 g91 g92 g93; have g90 := (blk_cell k95 0).trans rfl; have g91 := (blk_cell k95 1).trans rfl; have g92 := (blk_cell k95 2).trans rfl; have g93 := (blk_cell k95 3).trans rfl; have hs9 := blk_lt k95; have HB5 := Aside0.mk (below_step HB.out (below_mono' HB.out hb)); have HG5 := Aside0.mk (grownBy_below HG.out hb); have HWL5 := Aside0.mk (show w.heap.size ≤ w5.heap.size from HG5.out.size); have HBW := Aside0.mk hb; have K95 := Aside0.mk k95; clear ho3 hb k95))
      obtain ⟨wq, hwq⟩ : ∃ wq, wq = w5.alloc (.cells #[.int .i64 b1, .string b2, .int .i64 b3, .slice A3 b4.length c3] 56) := ⟨_, rfl⟩
      rw [← hwq]
      have hbq : Below w5.heap.size w5 wq := by rw [hwq]; exact below_alloc (Below.refl _ _) _
      have k14 : wq.heap[w5.heap.size]? = some (.cells #[.int .i64 b1, .string b2, .int .i64 b3, .slice A3 b4.length c3] 56 (0, 0)) := by rw [hwq]; exact blk_new _ _
      have HOq := Aside0.mk (Kd.S_below HO5.out hbq)
      have HRq := Aside0.mk (Kd.R_below HR5.out hbq)
      have HOb := Aside0.mk (Kd.S_below HO5b.out hbq)
      have HR3q := Aside0.mk (Kd.R_below HR3.out hbq)
      have k9q := blk_below K95.out hbq
      have HBq := Aside0.mk (below_step HB5.out (below_mono' HB5.out hbq))
      have HGq := Aside0.mk (grownBy_below HG5.out hbq)
      have HWLq := Aside0.mk (show w.heap.size ≤ wq.heap.size from HGq.out.size)
      have HWWq := Aside0.mk (grownBy_below (grownBy_below (grownBy_refl wr (Value.slice A2 o.length c2).ownBlock) HBW.out) hbq)
      clear g90 g91 g92 g93 hs9 hwq hbq
      have g90 := (blk_cell k9q 0).trans rfl
      have g91 := (blk_cell k9q 1).trans rfl
      have g92 := (blk_cell k9q 2).trans rfl
      have g93 := (blk_cell k9q 3).trans rfl
      have c140 := (blk_cell k14 0).trans rfl
      have c141 := (blk_cell k14 1).trans rfl
      have c142 := (blk_cell k14 2).trans rfl
      have c143 := (blk_cell k14 3).trans rfl
      clear k9q k14
      go_upto_region 14 with (fail)
      have hne14 : some w5.heap.size ≠ (Value.slice A2 out.length c2).ownBlock := fun e => by have := Kd.S_lt HO.out _ ((own_len _ _ _ _ _).trans e.symm); have := HBW.out.size; omega
      go_region_held3 (fun w' => w'.cell? ⟨w5.heap.size, 0, none⟩ = some (.int .i64 b1) ∧ w'.cell? ⟨w5.heap.size, 1, none⟩ = some (.string b2) ∧ w'.cell? ⟨w5.heap.size, 2, none⟩ = some (.int .i64 b3) ∧ w'.cell? ⟨w5.heap.size, 3, none⟩ = some (.slice A3 b4.length c3)) (first | go_keep | exact ⟨hg.cell c140 hne14, hg.cell c141 hne14, hg.cell c142 hne14, hg.cell c143 hne14⟩) ((rw [show (wq.alloc (.cells #[.int .i64 b1, .string b2, .int .i64 b3, .slice A3 b4.length c3] 56)).drew = wq.drew.alloc (.cells #[.int .i64 b1, .string b2, .int .i64 b3, .slice A3 b4.length c3] 56) from rfl]; refine Kd.S_append_step k56 (w0 := w0) w0.heap.size (by rfl) (.tmp 66) (.tmp 68) 27 56 (.agg #[(.int .i64 0), (.string ⟨#[]⟩), (.int .i64 0), (.slice none 0 0)]) 56 rfl Try.underlying27 info56 rfl (by decide) (by omega) (.slice A2 out.length c2) (o.take out.length) (⟨b1, b2, b3, b4⟩ : S56) [.int .i64 b1, .string b2, .int .i64 b3, .slice A3 b4.length c3] (fun k_ => P k_ ∨ w.heap.size ≤ k_) (fun k_ => some k_ = ((.slice A3 b4.length c3) : Value).ownBlock) rfl rfl ?aP ?aK ?aF ?aO ?aB ?aS ?aL ?_; (case aP => exact k56_mkM _ _ _ _ (Kd.R_mono (Kd.R_tight rfl (Kd.R_lower (Kd.R_drew HR3q.out) (by have := HW0.out; have := HWR.out; omega))) (fun _ h_ => h_))); (case aK => exact (fun k_ hk => ⟨.inr (by have := Kd.R_base (Kd.R_drew HR3q.out) k_ hk.symm; have := HWR.out; omega), fun e => (by have := Kd.S_lt HO.out k_ ((own_len _ _ _ _ _).trans e.symm); have := Kd.R_base HR3.out k_ hk.symm; omega)⟩)); (case aB => exact (below_drew1 HBq.out)); (case aF => exact (fun k_ hk => .inr (Nat.le_trans (HWLq.out) hk))); (case aO => exact (Kd.S_drew (Kd.S_take HOb.out HLEN.out.2))); (case aS => exact ((below_drew1 HBq.out)).size); (case aL => rw [List.length_take]; have := HLEN.out; omega); intro v1 w6 ho hb hg hat; have HO6 := Aside0.mk ho; have HB6 := Aside0.mk hb; have HG6 := Aside0.mk hg; have HA6 := Aside0.mk hat))
      go_wp2
      go_ret
      have hgx : wq.grownBy w6 (Value.slice A2 o.length c2).ownBlock := ⟨HG6.out.os, HG6.out.tape, HG6.out.output, HG6.out.size, fun k_ hk hne => HG6.out.block k_ hk (fun e => hne (e.trans (own_len _ _ _ _ _)))⟩
      have hax : v1.ownBlock = (Value.slice A2 o.length c2).ownBlock ∨ ∃ b, v1.ownBlock = some b ∧ wq.heap.size ≤ b := by
       rcases HA6.out with h | h
       ·exact .inl (h.trans (own_len _ _ _ _ _))
       ·exact .inr h
      exact ⟨_, rfl, HO6.out, HB6.out, grown_trans HG.out HA.out (grown_off HWWq.out hgx (fun k_ hk => .inr hk.symm)), hat_trans HG.out.size HA.out (hat_up HWWq.out.size hax (Nat.le_refl _))⟩
end Go.Proofs.Ytiiakeakfllpjaa.PFnExactFold
