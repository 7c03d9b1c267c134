-- written by wip/tools/myprint.py out of the program's own print
import Derived.Test.YtnecbgeljanhiaaPFnExactLexx0
import Derived.Test.YtnecbgeljanhiaaPFnExactLexx4
import Derived.Test.YtnecbgeljanhiaaPFnExactLexx5
import Derived.Test.YtnecbgeljanhiaaPFnExactLexx6
namespace Go.Proofs.Ytnecbgeljanhiaa.PFnExactLex
open Go.Proofs.Ytnecbgeljanhiaa.Own (rS cS bS rB)
open Go.RowKit Go.Proofs.YtnecbgeljanhiaaW.PrintWords Go.Proofs.YtnecbgeljanhiaaW.PrintLast Go.Proofs.YtnecbgeljanhiaaW.PrintMore
attribute [local go_sem] max2_int min2_int max_two min_two max_three min_three max_four min_four   -- for this text's walks alone
attribute [local go_sem] Go.Proofs.Ytnecbgeljanhiaa.Own.run_store_float
set_option linter.unusedVariables false
set_option linter.unusedSimpArgs false

/-! ### impl_lexToken: function 112 -/
def impl_lexToken.j0 : Nat → ByteArray → Int → Int → Option (Int × Int × ByteArray × Int × Nat × Int)
 | 0, _, _, _ => none
 | k + 1, x0, x1, x6 => if x6 = 123 then (if 0 ≤ x1 then (if x1 ≤ (wrap64 (x1 + 1)) then (if (wrap64 (x1 + 1)) ≤ (x0.size : Int) then (some (5, x1, x0.extract (x1 : Int).toNat ((wrap64 (x1 + 1)) : Int).toNat, 0, 0, 0)) else (none)) else (none)) else (none)) else (if x6 = 125 then (if 0 ≤ x1 then (if x1 ≤ (wrap64 (x1 + 1)) then (if (wrap64 (x1 + 1)) ≤ (x0.size : Int) then (some (5, x1, x0.extract (x1 : Int).toNat ((wrap64 (x1 + 1)) : Int).toNat, 0, 0, 0)) else (none)) else (none)) else (none)) else (if x6 = 40 then (if 0 ≤ x1 then (if x1 ≤ (wrap64 (x1 + 1)) then (if (wrap64 (x1 + 1)) ≤ (x0.size : Int) then (some (5, x1, x0.extract (x1 : Int).toNat ((wrap64 (x1 + 1)) : Int).toNat, 0, 0, 0)) else (none)) else (none)) else (none)) else (if x6 = 41 then (if 0 ≤ x1 then (if x1 ≤ (wrap64 (x1 + 1)) then (if (wrap64 (x1 + 1)) ≤ (x0.size : Int) then (some (5, x1, x0.extract (x1 : Int).toNat ((wrap64 (x1 + 1)) : Int).toNat, 0, 0, 0)) else (none)) else (none)) else (none)) else (if x6 = 59 then (if 0 ≤ x1 then (if x1 ≤ (wrap64 (x1 + 1)) then (if (wrap64 (x1 + 1)) ≤ (x0.size : Int) then (some (5, x1, x0.extract (x1 : Int).toNat ((wrap64 (x1 + 1)) : Int).toNat, 0, 0, 0)) else (none)) else (none)) else (none)) else (if x6 = 44 then (if 0 ≤ x1 then (if x1 ≤ (wrap64 (x1 + 1)) then (if (wrap64 (x1 + 1)) ≤ (x0.size : Int) then (some (5, x1, x0.extract (x1 : Int).toNat ((wrap64 (x1 + 1)) : Int).toNat, 0, 0, 0)) else (none)) else (none)) else (none)) else (if x6 = 46 then (if 0 ≤ x1 then (if x1 ≤ (wrap64 (x1 + 1)) then (if (wrap64 (x1 + 1)) ≤ (x0.size : Int) then (some (5, x1, x0.extract (x1 : Int).toNat ((wrap64 (x1 + 1)) : Int).toNat, 0, 0, 0)) else (none)) else (none)) else (none)) else (if x6 = 36 then (if 0 ≤ x1 then (if x1 ≤ (wrap64 (x1 + 1)) then (if (wrap64 (x1 + 1)) ≤ (x0.size : Int) then (some (5, x1, x0.extract (x1 : Int).toNat ((wrap64 (x1 + 1)) : Int).toNat, 0, 0, 0)) else (none)) else (none)) else (none)) else (if x6 = 61 then (if 0 ≤ x1 then (if x1 ≤ (wrap64 (x1 + 1)) then (if (wrap64 (x1 + 1)) ≤ (x0.size : Int) then (some (5, x1, x0.extract (x1 : Int).toNat ((wrap64 (x1 + 1)) : Int).toNat, 0, 0, 0)) else (none)) else (none)) else (none)) else (if x6 = 43 then (if 0 ≤ x1 then (if x1 ≤ (wrap64 (x1 + 1)) then (if (wrap64 (x1 + 1)) ≤ (x0.size : Int) then (some (5, x1, x0.extract (x1 : Int).toNat ((wrap64 (x1 + 1)) : Int).toNat, 0, 0, 0)) else (none)) else (none)) else (none)) else (if x6 = 45 then (if 0 ≤ x1 then (if x1 ≤ (wrap64 (x1 + 1)) then (if (wrap64 (x1 + 1)) ≤ (x0.size : Int) then (some (5, x1, x0.extract (x1 : Int).toNat ((wrap64 (x1 + 1)) : Int).toNat, 0, 0, 0)) else (none)) else (none)) else (none)) else (if x6 = 42 then (if 0 ≤ x1 then (if x1 ≤ (wrap64 (x1 + 1)) then (if (wrap64 (x1 + 1)) ≤ (x0.size : Int) then (some (5, x1, x0.extract (x1 : Int).toNat ((wrap64 (x1 + 1)) : Int).toNat, 0, 0, 0)) else (none)) else (none)) else (none)) else (if x6 = 47 then (if 0 ≤ x1 then (if x1 ≤ (wrap64 (x1 + 1)) then (if (wrap64 (x1 + 1)) ≤ (x0.size : Int) then (some (5, x1, x0.extract (x1 : Int).toNat ((wrap64 (x1 + 1)) : Int).toNat, 0, 0, 0)) else (none)) else (none)) else (none)) else (if x6 = 37 then (if 0 ≤ x1 then (if x1 ≤ (wrap64 (x1 + 1)) then (if (wrap64 (x1 + 1)) ≤ (x0.size : Int) then (some (5, x1, x0.extract (x1 : Int).toNat ((wrap64 (x1 + 1)) : Int).toNat, 0, 0, 0)) else (none)) else (none)) else (none)) else (if x6 = 60 then (if 0 ≤ x1 then (if x1 ≤ (wrap64 (x1 + 1)) then (if (wrap64 (x1 + 1)) ≤ (x0.size : Int) then (some (5, x1, x0.extract (x1 : Int).toNat ((wrap64 (x1 + 1)) : Int).toNat, 0, 0, 0)) else (none)) else (none)) else (none)) else (some (0, 0, (⟨#[]⟩ : ByteArray), 0, 0, 2))))))))))))))))
def impl_lexToken.f (k : Nat) (a0 : ByteArray) (a1 : Int) : Option (Int × Int × ByteArray × Int × Nat × Int) := if 0 ≤ a1 then (if a1 < (a0.size : Int) then ((impl_isLetter.f (bt a0 a1)).bind fun t172 => (if t172 = true then ((impl_run__impl_isLetter.f k a0 a1).bind fun t173 => (if a1 ≤ t173 then (if t173 ≤ (a0.size : Int) then ((impl_IsWord.f (a0.extract (a1 : Int).toNat (t173 : Int).toNat)).bind fun t175 => (if t175 = true then (some (2, a1, a0.extract (a1 : Int).toNat (t173 : Int).toNat, 0, 0, 0)) else (if ((a0.extract (a1 : Int).toNat (t173 : Int).toNat).size : Int) > 12 then (some (0, 0, (⟨#[]⟩ : ByteArray), 0, 0, 4)) else (some (1, a1, a0.extract (a1 : Int).toNat (t173 : Int).toNat, 0, 0, 0))))) else (none)) else (none))) else ((impl_isDigit.f (bt a0 a1)).bind fun t176 => (if t176 = true then ((impl_lexNumber.f k a0 a1).bind fun bt177 => (some (bt177.1, bt177.2.1, bt177.2.2.1, bt177.2.2.2.1, bt177.2.2.2.2.1, bt177.2.2.2.2.2))) else (if (bt a0 a1) = 61 then (if (wrap64 (a1 + 1)) < (a0.size : Int) then (if 0 ≤ (wrap64 (a1 + 1)) then (if (bt a0 (wrap64 (a1 + 1))) = 61 then (some (5, a1, (⟨#[61, 61]⟩ : ByteArray), 0, 0, 0)) else (impl_lexToken.j0 k a0 a1 (bt a0 a1))) else (none)) else (impl_lexToken.j0 k a0 a1 (bt a0 a1))) else (impl_lexToken.j0 k a0 a1 (bt a0 a1))))))) else (none)) else (none)
theorem impl_lexToken.mono_l : ∀ k, (∀ y0 y1 y2, LeO (impl_lexToken.j0 k y0 y1 y2) (impl_lexToken.j0 (k + 1) y0 y1 y2))
 | 0 => fun _ _ _ r h => by simp [impl_lexToken.j0] at h
 | k + 1 => by
  have ih0 := impl_lexToken.mono_l k
  ·intro y0 y1 y2
   unfold impl_lexToken.j0
   repeat' first
   | (with_reducible exact ih0 _ _ _)
   | (with_reducible exact impl_lexNumber.mono _ _ _)
   | (with_reducible exact impl_run__impl_isLetter.mono _ _ _)
   | (with_reducible exact LeO.refl _)
   | (with_reducible exact LeO.none _)
   | (with_reducible refine LeO.ite ?_ ?_)
   | (with_reducible refine LeO.bind ?_ (fun _ => ?_))
   | exact ih0 _ _ _
   | exact impl_lexNumber.mono _ _ _
   | exact impl_run__impl_isLetter.mono _ _ _
   | exact LeO.none _
   | refine LeO.ite ?_ ?_
   | refine LeO.bind ?_ (fun _ => ?_)
theorem impl_lexToken.mono : ∀ a0 a1 k, LeO (impl_lexToken.f k a0 a1) (impl_lexToken.f (k + 1) a0 a1) := by
 intro a0 a1 k
 have ih0 := impl_lexToken.mono_l k
 unfold impl_lexToken.f
 repeat' first
   | (with_reducible exact ih0 _ _ _)
   | (with_reducible exact impl_lexNumber.mono _ _ _)
   | (with_reducible exact impl_run__impl_isLetter.mono _ _ _)
   | (with_reducible exact LeO.refl _)
   | (with_reducible exact LeO.none _)
   | (with_reducible refine LeO.ite ?_ ?_)
   | (with_reducible refine LeO.bind ?_ (fun _ => ?_))
   | exact ih0 _ _ _
   | exact impl_lexNumber.mono _ _ _
   | exact impl_run__impl_isLetter.mono _ _ _
   | exact LeO.none _
   | refine LeO.ite ?_ ?_
   | refine LeO.bind ?_ (fun _ => ?_)
set_option maxHeartbeats 8000000 in
set_option maxRecDepth 100000 in
theorem impl_lexToken.calls (k : Nat) (a0 : ByteArray) (a1 : Int) (r1 : Int) (r2 : Int) (r3 : ByteArray) (r4 : Int) (r5 : Nat) (r6 : Int) (w : World) (h : impl_lexToken.f k a0 a1 = some (r1, r2, r3, r4, r5, r6)) :
  Calls Try.prog 112 #[.string a0, .int .i64 a1] w fun e w' => e = .returned (.tuple #[.agg #[.int .i64 r1, .int .i64 r2, .string r3, .int .i64 r4, .float .f64 r5], .int .i64 r6]) ∧ Below w.heap.size w w' := by
 have hu148 := Try.underlying148
 have HB := Aside0.mk (Below.refl w.heap.size w)
 have H : (if 0 ≤ a1 then (if a1 < (a0.size : Int) then ((impl_isLetter.f (bt a0 a1)).bind fun t172 => (if t172 = true then ((impl_run__impl_isLetter.f k a0 a1).bind fun t173 => (if a1 ≤ t173 then (if t173 ≤ (a0.size : Int) then ((impl_IsWord.f (a0.extract (a1 : Int).toNat (t173 : Int).toNat)).bind fun t175 => (if t175 = true then (some (2, a1, a0.extract (a1 : Int).toNat (t173 : Int).toNat, 0, 0, 0)) else (if ((a0.extract (a1 : Int).toNat (t173 : Int).toNat).size : Int) > 12 then (some (0, 0, (⟨#[]⟩ : ByteArray), 0, 0, 4)) else (some (1, a1, a0.extract (a1 : Int).toNat (t173 : Int).toNat, 0, 0, 0))))) else (none)) else (none))) else ((impl_isDigit.f (bt a0 a1)).bind fun t176 => (if t176 = true then ((impl_lexNumber.f k a0 a1).bind fun bt177 => (some (bt177.1, bt177.2.1, bt177.2.2.1, bt177.2.2.2.1, bt177.2.2.2.2.1, bt177.2.2.2.2.2))) else (if (bt a0 a1) = 61 then (if (wrap64 (a1 + 1)) < (a0.size : Int) then (if 0 ≤ (wrap64 (a1 + 1)) then (if (bt a0 (wrap64 (a1 + 1))) = 61 then (some (5, a1, (⟨#[61, 61]⟩ : ByteArray), 0, 0, 0)) else (impl_lexToken.j0 k a0 a1 (bt a0 a1))) else (none)) else (impl_lexToken.j0 k a0 a1 (bt a0 a1))) else (impl_lexToken.j0 k a0 a1 (bt a0 a1))))))) else (none)) else (none)) = some (r1, r2, r3, r4, r5, r6) := h
 clear h
 by_cases c3 : 0 ≤ a1
 ·rw [if_pos c3] at H
  have c3b0 : decide (0 ≤ a1) = true := decide_eq_true c3
  clear c3
  by_cases c4 : a1 < (a0.size : Int)
  ·rw [if_pos c4] at H
   have c4b0 : decide (a1 < (a0.size : Int)) = true := decide_eq_true c4
   clear c4
   have HC6 := Aside0.mk H
   clear H
   go_enter Try.func112, Try.ntmps112
   go_upto_block 0 with (first | ((with_reducible refine gate_dst (N := 4) rfl ?_); (try (refine gate_guard (by rfl) ?_; dsimp only)); refine box_event ?hg (N := 4) ?hd (cs := #[.int .i64 0, .int .i64 0, .string (⟨#[]⟩ : ByteArray), .int .i64 0, .float .f64 0]) (t := 148) ?hr ?_; (case hd => rfl); (case hg => rfl); (case hr => first | (go_simp; done) | (go_simp; rfl)); intro gb171 hg w7 hbox hb; have n0_ := Aside0.mk (below_step (bS HB.out) hb); have n1_ := Aside0.mk (hbox); have n2_ := Aside0.mk ((by rw [hg]; exact (below_size (bS HB.out)) : w.heap.size ≤ gb171)); have n3_ := Aside0.mk ((by rw [hg]; exact (below_size (bS HB.out)) : w.heap.size ≤ gb171)); clear HB; have HB := n0_; have BK171 := n1_; have GW171 := n2_; have GE171 := n3_; clear n0_ n1_ n2_ n3_; clear hb hbox hg; have p5 : 0 ≤ (a1 : Int) := of_decide_eq_true (by first | (with_reducible assumption) | assumption); have q5 : a1 < (a0.size : Int) := of_decide_eq_true (by first | (with_reducible assumption) | assumption); have hx5 := bt_at a0 a1; replace p5 := eq_true p5; replace q5 := eq_true q5))
   (try simp only [Act.put, List.setIfInBounds_toArray, List.set_cons_zero, List.set_cons_succ])
   go_cut [] (fun wc => ∃ (kq : Nat) (x172000_5 : Int) (x172001_5 : Int) (x172002_5 : ByteArray) (x172003_5 : Int) (x172004_5 : Nat), Aside0 (impl_lexToken.j0 kq a0 a1 (bt a0 a1) = some (r1, r2, r3, r4, r5, r6)) ∧ Aside0 (kq ≤ k) ∧ Aside0 (wc.heap[gb171]? = some (.cells #[.int .i64 x172000_5, .int .i64 x172001_5, .string x172002_5, .int .i64 x172003_5, .float .f64 x172004_5] 148 (0, 0))) ∧ Aside0 (Below w.heap.size w wc))
   case first =>
    have H := HC6.out
    clear HC6
    replace H := Option.bind_eq_some_iff.mp H
    obtain ⟨t172, A80, H⟩ := H
    (try dsimp only at H)
    have A8 := Aside0.mk A80
    clear A80
    by_cases c9 : t172 = true
    ·subst c9
     have H1 : ((impl_run__impl_isLetter.f k a0 a1).bind fun t173 => (if a1 ≤ t173 then (if t173 ≤ (a0.size : Int) then ((impl_IsWord.f (a0.extract (a1 : Int).toNat (t173 : Int).toNat)).bind fun t175 => (if t175 = true then (some (2, a1, a0.extract (a1 : Int).toNat (t173 : Int).toNat, 0, 0, 0)) else (if ((a0.extract (a1 : Int).toNat (t173 : Int).toNat).size : Int) > 12 then (some (0, 0, (⟨#[]⟩ : ByteArray), 0, 0, 4)) else (some (1, a1, a0.extract (a1 : Int).toNat (t173 : Int).toNat, 0, 0, 0))))) else (none)) else (none))) = some (r1, r2, r3, r4, r5, r6) := by rw [if_pos rfl] at H; exact H
     clear H
     have H := H1
     clear H1
     replace H := Option.bind_eq_some_iff.mp H
     obtain ⟨t173, A100, H⟩ := H
     (try dsimp only at H)
     have A10 := Aside0.mk A100
     clear A100
     have c11b0 := eq_true (of_decide_eq_true (by first | (with_reducible assumption) | assumption) : 0 ≤ a1)
     by_cases c12 : a1 ≤ t173
     ·rw [if_pos c12] at H
      have c12b0 := eq_true c12
      have c12b1 : decide (a1 ≤ t173) = true := decide_eq_true c12
      clear c12
      by_cases c13 : t173 ≤ (a0.size : Int)
      ·rw [if_pos c13] at H
       have c13b0 := eq_true c13
       have c13b1 : decide (t173 ≤ (a0.size : Int)) = true := decide_eq_true c13
       clear c13
       replace H := Option.bind_eq_some_iff.mp H
       obtain ⟨t175, A140, H⟩ := H
       (try dsimp only at H)
       have A14 := Aside0.mk A140
       clear A140
       by_cases c15 : t175 = true
       ·subst c15
        have H1 : (some (2, a1, a0.extract (a1 : Int).toNat (t173 : Int).toNat, 0, 0, 0)) = some (r1, r2, r3, r4, r5, r6) := by rw [if_pos rfl] at H; exact H
        clear H
        have H := H1
        clear H1
        simp only [Option.some.injEq, Prod.mk.injEq] at H
        obtain ⟨rfl, rfl, rfl, rfl, rfl, rfl⟩ := H
        go_wp2_with (first | ((with_reducible refine gate_callee (f := 149) rfl ?_); refine goesL_ (some 13) rfl rfl Try.func149 (by kernel_rfl) rfl #[.int .u8 (bt a0 a1)] rfl (by (try simp only [List.map_toArray, List.map_cons, List.map_nil]); first | done | rfl | (simp only [List.length_drop, List.length_take]; rfl)) ?_; (with_reducible refine (impl_isLetter.calls (bt a0 a1) true _ A8.out).mono ?_); rintro e w' ⟨rfl, ⟨nd, rfl⟩⟩; refine ⟨_, rfl, ?_⟩; (try (rw [drewN_self w7]; generalize hq_ : World.drewN w7 _ = w7; have n0_ : Aside0 (w7.heap[gb171]? = some (.cells #[.int .i64 0, .int .i64 0, .string (⟨#[]⟩ : ByteArray), .int .i64 0, .float .f64 0] 148 (0, 0))) := ⟨by rw [← hq_]; exact (by (with_reducible repeat (first | refine blk_drewN ?_ _ | refine blk_drew ?_ | refine blk_alloc ?_ _)); exact BK171.out)⟩; have n1_ : Aside0 (Below w.heap.size w w7) := ⟨by rw [← hq_]; exact (by repeat (first | (with_reducible first | exact HB.out | apply below_alloc | apply pw_below_drewN | apply below_drew1 | refine below_set ?_ GE171.out) | exact HB.out))⟩; clear BK171 HB hq_; have BK171 := n0_; have HB := n1_; clear n0_ n1_))) | ((with_reducible refine gate_callee (f := 110) rfl ?_); refine goesL_ (some 19) rfl rfl Try.func110 (by kernel_rfl) rfl #[.string a0, .int .i64 a1, .func (.func 149) #[] #[]] rfl (by (try simp only [List.map_toArray, List.map_cons, List.map_nil]); first | done | rfl | (simp only [List.length_drop, List.length_take]; rfl)) ?_; (with_reducible refine (impl_run__impl_isLetter.calls k a0 a1  t173 _ A10.out).mono ?_); rintro e w' ⟨rfl, ⟨nd, rfl⟩⟩; refine ⟨_, rfl, ?_⟩; (try (rw [drewN_self w7]; generalize hq_ : World.drewN w7 _ = w7; have n0_ : Aside0 (w7.heap[gb171]? = some (.cells #[.int .i64 0, .int .i64 0, .string (⟨#[]⟩ : ByteArray), .int .i64 0, .float .f64 0] 148 (0, 0))) := ⟨by rw [← hq_]; exact (by (with_reducible repeat (first | refine blk_drewN ?_ _ | refine blk_drew ?_ | refine blk_alloc ?_ _)); exact BK171.out)⟩; have n1_ : Aside0 (Below w.heap.size w w7) := ⟨by rw [← hq_]; exact (by repeat (first | (with_reducible first | exact HB.out | apply below_alloc | apply pw_below_drewN | apply below_drew1 | refine below_set ?_ GE171.out) | exact HB.out))⟩; clear BK171 HB hq_; have BK171 := n0_; have HB := n1_; clear n0_ n1_))) | ((with_reducible refine gate_dst (N := 7) rfl ?_); (try (refine gate_guard (by rfl) ?_; dsimp only)); refine box_event ?hg (N := 7) ?hd (cs := #[.int .i64 0, .int .i64 0, .string (⟨#[]⟩ : ByteArray), .int .i64 0, .float .f64 0]) (t := 148) ?hr ?_; (case hd => rfl); (case hg => rfl); (case hr => first | (go_simp; done) | (go_simp; rfl)); intro gb174 hg w16 hbox hb; have n0_ := Aside0.mk (blk_below (g := gb171) (o := .cells #[.int .i64 0, .int .i64 0, .string (⟨#[]⟩ : ByteArray), .int .i64 0, .float .f64 0] 148 (0, 0)) (by (with_reducible repeat (first | refine blk_drewN ?_ _ | refine blk_drew ?_ | refine blk_alloc ?_ _)); exact BK171.out) hb); have n1_ := Aside0.mk (below_step (by repeat (first | (with_reducible first | exact HB.out | apply below_alloc | apply pw_below_drewN | apply below_drew1 | refine below_set ?_ GE171.out) | exact HB.out)) hb); have n2_ := Aside0.mk (hbox); have n3_ := Aside0.mk ((by rw [hg]; exact (below_size (by repeat (first | (with_reducible first | exact HB.out | apply below_alloc | apply pw_below_drewN | apply below_drew1 | refine below_set ?_ GE171.out) | exact HB.out))) : w.heap.size ≤ gb174)); have n4_ := Aside0.mk ((by rw [hg]; exact (below_size (by repeat (first | (with_reducible first | exact HB.out | apply below_alloc | apply pw_below_drewN | apply below_drew1 | refine below_set ?_ GE171.out) | exact HB.out))) : w.heap.size ≤ gb174)); have n5_ := Aside0.mk ((by rw [hg]; exact Nat.ne_of_lt (blk_lt (g := gb171) (o := .cells #[.int .i64 0, .int .i64 0, .string (⟨#[]⟩ : ByteArray), .int .i64 0, .float .f64 0] 148 (0, 0)) (by (with_reducible repeat (first | refine blk_drewN ?_ _ | refine blk_drew ?_ | refine blk_alloc ?_ _)); exact BK171.out)) : gb171 ≠ gb174)); have n6_ := Aside0.mk ((by rw [hg]; exact Nat.ne_of_gt (blk_lt (g := gb171) (o := .cells #[.int .i64 0, .int .i64 0, .string (⟨#[]⟩ : ByteArray), .int .i64 0, .float .f64 0] 148 (0, 0)) (by (with_reducible repeat (first | refine blk_drewN ?_ _ | refine blk_drew ?_ | refine blk_alloc ?_ _)); exact BK171.out)) : gb174 ≠ gb171)); clear BK171; clear HB; have BK171 := n0_; have HB := n1_; have BK174 := n2_; have GW174 := n3_; have GE174 := n4_; have NB171_174 := n5_; have NB174_171 := n6_; clear n0_ n1_ n2_ n3_ n4_ n5_ n6_; clear hb hbox hg; have hnb17 := NB174_171.out; have hnc17 := NB171_174.out; have hcz18_0 : w16.cell? ⟨gb174, 0, none⟩ = some (.int .i64 0) := (blk_cell BK174.out 0).trans rfl; have hcz18_1 : w16.cell? ⟨gb174, 1, none⟩ = some (.int .i64 0) := (blk_cell BK174.out 1).trans rfl; have hcz18_2 : w16.cell? ⟨gb174, 2, none⟩ = some (.string (⟨#[]⟩ : ByteArray)) := (blk_cell BK174.out 2).trans rfl; have hcz18_3 : w16.cell? ⟨gb174, 3, none⟩ = some (.int .i64 0) := (blk_cell BK174.out 3).trans rfl; have hcz18_4 : w16.cell? ⟨gb174, 4, none⟩ = some (.float .f64 0) := (blk_cell BK174.out 4).trans rfl; have hfz18_0 := blk_frozen BK174.out 0; have hfz18_1 := blk_frozen BK174.out 1; have hfz18_2 := blk_frozen BK174.out 2; have hfz18_3 := blk_frozen BK174.out 3; have hfz18_4 := blk_frozen BK174.out 4) | ((with_reducible refine gate_callee (f := 150) rfl ?_); refine goesL_ (some 24) rfl rfl Try.func150 (by kernel_rfl) rfl #[.string (a0.extract (a1 : Int).toNat (t173 : Int).toNat)] rfl (by (try simp only [List.map_toArray, List.map_cons, List.map_nil]); first | done | rfl | (simp only [List.length_drop, List.length_take]; rfl)) ?_; (with_reducible refine (impl_IsWord.calls (a0.extract (a1 : Int).toNat (t173 : Int).toNat) true _ A14.out).mono ?_); rintro e w' ⟨rfl, ⟨nd, rfl⟩⟩; refine ⟨_, rfl, ?_⟩; have hcz19_0 : w16.cell? ⟨gb171, 0, none⟩ = some (.int .i64 0) := (blk_cell BK171.out 0).trans rfl; have hcz19_1 : w16.cell? ⟨gb171, 1, none⟩ = some (.int .i64 0) := (blk_cell BK171.out 1).trans rfl; have hcz19_2 : w16.cell? ⟨gb171, 2, none⟩ = some (.string (⟨#[]⟩ : ByteArray)) := (blk_cell BK171.out 2).trans rfl; have hcz19_3 : w16.cell? ⟨gb171, 3, none⟩ = some (.int .i64 0) := (blk_cell BK171.out 3).trans rfl; have hcz19_4 : w16.cell? ⟨gb171, 4, none⟩ = some (.float .f64 0) := (blk_cell BK171.out 4).trans rfl; have hfz19_0 := blk_frozen BK171.out 0; have hfz19_1 := blk_frozen BK171.out 1; have hfz19_2 := blk_frozen BK171.out 2; have hfz19_3 := blk_frozen BK171.out 3; have hfz19_4 := blk_frozen BK171.out 4))
        refine bodyPost_ret (results_ct rfl _ _ gb171 148 #[.int .i64 2, .int .i64 a1, .string (a0.extract (a1 : Int).toNat (t173 : Int).toNat), .int .i64 0, .float .f64 0] (0, 0) _ rfl (by (with_reducible repeat (first | refine blk_drewN ?_ _ | refine blk_drew ?_ | refine blk_alloc ?_ _)); refine blk_put (cs := #[.int .i64 2, .int .i64 a1, .string (a0.extract (a1 : Int).toNat (t173 : Int).toNat), .int .i64 0, .float .f64 0]) ?_ 4 _ rfl; (with_reducible repeat (first | refine blk_drewN ?_ _ | refine blk_drew ?_ | refine blk_alloc ?_ _)); refine blk_put (cs := #[.int .i64 2, .int .i64 a1, .string (a0.extract (a1 : Int).toNat (t173 : Int).toNat), .int .i64 0, .float .f64 0]) ?_ 3 _ rfl; (with_reducible repeat (first | refine blk_drewN ?_ _ | refine blk_drew ?_ | refine blk_alloc ?_ _)); refine blk_put (cs := #[.int .i64 2, .int .i64 a1, .string (⟨#[]⟩ : ByteArray), .int .i64 0, .float .f64 0]) ?_ 2 _ rfl; (with_reducible repeat (first | refine blk_drewN ?_ _ | refine blk_drew ?_ | refine blk_alloc ?_ _)); refine blk_put (cs := #[.int .i64 2, .int .i64 0, .string (⟨#[]⟩ : ByteArray), .int .i64 0, .float .f64 0]) ?_ 1 _ rfl; (with_reducible repeat (first | refine blk_drewN ?_ _ | refine blk_drew ?_ | refine blk_alloc ?_ _)); refine blk_put (cs := #[.int .i64 0, .int .i64 0, .string (⟨#[]⟩ : ByteArray), .int .i64 0, .float .f64 0]) ?_ 0 _ rfl; (with_reducible repeat (first | refine blk_drewN ?_ _ | refine blk_drew ?_ | refine blk_alloc ?_ _)); refine blk_far ?_ NB171_174.out _; (with_reducible repeat (first | refine blk_drewN ?_ _ | refine blk_drew ?_ | refine blk_alloc ?_ _)); refine blk_far ?_ NB171_174.out _; (with_reducible repeat (first | refine blk_drewN ?_ _ | refine blk_drew ?_ | refine blk_alloc ?_ _)); refine blk_far ?_ NB171_174.out _; (with_reducible repeat (first | refine blk_drewN ?_ _ | refine blk_drew ?_ | refine blk_alloc ?_ _)); refine blk_far ?_ NB171_174.out _; (with_reducible repeat (first | refine blk_drewN ?_ _ | refine blk_drew ?_ | refine blk_alloc ?_ _)); refine blk_far ?_ NB171_174.out _; (with_reducible repeat (first | refine blk_drewN ?_ _ | refine blk_drew ?_ | refine blk_alloc ?_ _)); refine blk_far ?_ NB171_174.out _; (with_reducible repeat (first | refine blk_drewN ?_ _ | refine blk_drew ?_ | refine blk_alloc ?_ _)); exact BK171.out) Try.underlying148 rfl (by kernel_rfl)) rfl ?_
        exact ⟨by first | rfl | (simp [errW_none, errW_some] <;> rfl) | (simp [*, errW_none, errW_some] <;> rfl), by repeat (first | (with_reducible first | exact HB.out | apply below_alloc | apply pw_below_drewN | apply below_drew1 | refine below_set ?_ GE171.out | refine below_set ?_ GE174.out) | exact HB.out)⟩
       ·replace c15 := Bool.eq_false_iff.mpr c15
        subst c15
        have H1 : (if ((a0.extract (a1 : Int).toNat (t173 : Int).toNat).size : Int) > 12 then (some (0, 0, (⟨#[]⟩ : ByteArray), 0, 0, 4)) else (some (1, a1, a0.extract (a1 : Int).toNat (t173 : Int).toNat, 0, 0, 0))) = some (r1, r2, r3, r4, r5, r6) := by rw [if_neg (show ¬ (false = true) by decide)] at H; exact H
        clear H
        have H := H1
        clear H1
        by_cases c20 : ((a0.extract (a1 : Int).toNat (t173 : Int).toNat).size : Int) > 12
        ·rw [if_pos c20] at H
         have c20b0 : decide (12 < ((a0.extract (a1 : Int).toNat (t173 : Int).toNat).size : Int)) = true := decide_eq_true c20
         (try (have c20b0m := c20b0; rw [show (a0.extract (a1 : Int).toNat (t173 : Int).toNat).size = (t173 : Int).toNat - (a1 : Int).toNat from by (rw [ByteArray.size_extract, Nat.min_eq_left]; first | omega | (simp only [decide_eq_true_eq] at *; omega))] at c20b0m))
         (try (have c20b0n := c20b0; simp only [ByteArray.size_extract, Nat.min_self, Nat.sub_zero] at c20b0n))
         have c20b1 : decide (12 < (a0.extract (a1 : Int).toNat (t173 : Int).toNat).size) = true := decide_eq_true (by omega)
         (try (have c20b1m := c20b1; rw [show (a0.extract (a1 : Int).toNat (t173 : Int).toNat).size = (t173 : Int).toNat - (a1 : Int).toNat from by (rw [ByteArray.size_extract, Nat.min_eq_left]; first | omega | (simp only [decide_eq_true_eq] at *; omega))] at c20b1m))
         (try (have c20b1n := c20b1; simp only [ByteArray.size_extract, Nat.min_self, Nat.sub_zero] at c20b1n))
         clear c20
         (first | rw [c20b0] | (simp only [i64_w, i32_w]; rw [c20b0]) | skip)
         simp only [Option.some.injEq, Prod.mk.injEq] at H
         obtain ⟨rfl, rfl, rfl, rfl, rfl, rfl⟩ := H
         go_wp2_with (first | ((with_reducible refine gate_callee (f := 149) rfl ?_); refine goesL_ (some 13) rfl rfl Try.func149 (by kernel_rfl) rfl #[.int .u8 (bt a0 a1)] rfl (by (try simp only [List.map_toArray, List.map_cons, List.map_nil]); first | done | rfl | (simp only [List.length_drop, List.length_take]; rfl)) ?_; (with_reducible refine (impl_isLetter.calls (bt a0 a1) true _ A8.out).mono ?_); rintro e w' ⟨rfl, ⟨nd, rfl⟩⟩; refine ⟨_, rfl, ?_⟩; (try (rw [drewN_self w7]; generalize hq_ : World.drewN w7 _ = w7; have n0_ : Aside0 (w7.heap[gb171]? = some (.cells #[.int .i64 0, .int .i64 0, .string (⟨#[]⟩ : ByteArray), .int .i64 0, .float .f64 0] 148 (0, 0))) := ⟨by rw [← hq_]; exact (by (with_reducible repeat (first | refine blk_drewN ?_ _ | refine blk_drew ?_ | refine blk_alloc ?_ _)); exact BK171.out)⟩; have n1_ : Aside0 (Below w.heap.size w w7) := ⟨by rw [← hq_]; exact (by repeat (first | (with_reducible first | exact HB.out | apply below_alloc | apply pw_below_drewN | apply below_drew1 | refine below_set ?_ GE171.out) | exact HB.out))⟩; clear BK171 HB hq_; have BK171 := n0_; have HB := n1_; clear n0_ n1_))) | ((with_reducible refine gate_callee (f := 110) rfl ?_); refine goesL_ (some 19) rfl rfl Try.func110 (by kernel_rfl) rfl #[.string a0, .int .i64 a1, .func (.func 149) #[] #[]] rfl (by (try simp only [List.map_toArray, List.map_cons, List.map_nil]); first | done | rfl | (simp only [List.length_drop, List.length_take]; rfl)) ?_; (with_reducible refine (impl_run__impl_isLetter.calls k a0 a1  t173 _ A10.out).mono ?_); rintro e w' ⟨rfl, ⟨nd, rfl⟩⟩; refine ⟨_, rfl, ?_⟩; (try (rw [drewN_self w7]; generalize hq_ : World.drewN w7 _ = w7; have n0_ : Aside0 (w7.heap[gb171]? = some (.cells #[.int .i64 0, .int .i64 0, .string (⟨#[]⟩ : ByteArray), .int .i64 0, .float .f64 0] 148 (0, 0))) := ⟨by rw [← hq_]; exact (by (with_reducible repeat (first | refine blk_drewN ?_ _ | refine blk_drew ?_ | refine blk_alloc ?_ _)); exact BK171.out)⟩; have n1_ : Aside0 (Below w.heap.size w w7) := ⟨by rw [← hq_]; exact (by repeat (first | (with_reducible first | exact HB.out | apply below_alloc | apply pw_below_drewN | apply below_drew1 | refine below_set ?_ GE171.out) | exact HB.out))⟩; clear BK171 HB hq_; have BK171 := n0_; have HB := n1_; clear n0_ n1_))) | ((with_reducible refine gate_dst (N := 7) rfl ?_); (try (refine gate_guard (by rfl) ?_; dsimp only)); refine box_event ?hg (N := 7) ?hd (cs := #[.int .i64 0, .int .i64 0, .string (⟨#[]⟩ : ByteArray), .int .i64 0, .float .f64 0]) (t := 148) ?hr ?_; (case hd => rfl); (case hg => rfl); (case hr => first | (go_simp; done) | (go_simp; rfl)); intro gb174 hg w21 hbox hb; have n0_ := Aside0.mk (blk_below (g := gb171) (o := .cells #[.int .i64 0, .int .i64 0, .string (⟨#[]⟩ : ByteArray), .int .i64 0, .float .f64 0] 148 (0, 0)) (by (with_reducible repeat (first | refine blk_drewN ?_ _ | refine blk_drew ?_ | refine blk_alloc ?_ _)); exact BK171.out) hb); have n1_ := Aside0.mk (below_step (by repeat (first | (with_reducible first | exact HB.out | apply below_alloc | apply pw_below_drewN | apply below_drew1 | refine below_set ?_ GE171.out) | exact HB.out)) hb); have n2_ := Aside0.mk (hbox); have n3_ := Aside0.mk ((by rw [hg]; exact (below_size (by repeat (first | (with_reducible first | exact HB.out | apply below_alloc | apply pw_below_drewN | apply below_drew1 | refine below_set ?_ GE171.out) | exact HB.out))) : w.heap.size ≤ gb174)); have n4_ := Aside0.mk ((by rw [hg]; exact (below_size (by repeat (first | (with_reducible first | exact HB.out | apply below_alloc | apply pw_below_drewN | apply below_drew1 | refine below_set ?_ GE171.out) | exact HB.out))) : w.heap.size ≤ gb174)); have n5_ := Aside0.mk ((by rw [hg]; exact Nat.ne_of_lt (blk_lt (g := gb171) (o := .cells #[.int .i64 0, .int .i64 0, .string (⟨#[]⟩ : ByteArray), .int .i64 0, .float .f64 0] 148 (0, 0)) (by (with_reducible repeat (first | refine blk_drewN ?_ _ | refine blk_drew ?_ | refine blk_alloc ?_ _)); exact BK171.out)) : gb171 ≠ gb174)); have n6_ := Aside0.mk ((by rw [hg]; exact Nat.ne_of_gt (blk_lt (g := gb171) (o := .cells #[.int .i64 0, .int .i64 0, .string (⟨#[]⟩ : ByteArray), .int .i64 0, .float .f64 0] 148 (0, 0)) (by (with_reducible repeat (first | refine blk_drewN ?_ _ | refine blk_drew ?_ | refine blk_alloc ?_ _)); exact BK171.out)) : gb174 ≠ gb171)); clear BK171; clear HB; have BK171 := n0_; have HB := n1_; have BK174 := n2_; have GW174 := n3_; have GE174 := n4_; have NB171_174 := n5_; have NB174_171 := n6_; clear n0_ n1_ n2_ n3_ n4_ n5_ n6_; clear hb hbox hg; have hnb22 := NB174_171.out; have hnc22 := NB171_174.out; have hcz23_0 : w21.cell? ⟨gb174, 0, none⟩ = some (.int .i64 0) := (blk_cell BK174.out 0).trans rfl; have hcz23_1 : w21.cell? ⟨gb174, 1, none⟩ = some (.int .i64 0) := (blk_cell BK174.out 1).trans rfl; have hcz23_2 : w21.cell? ⟨gb174, 2, none⟩ = some (.string (⟨#[]⟩ : ByteArray)) := (blk_cell BK174.out 2).trans rfl; have hcz23_3 : w21.cell? ⟨gb174, 3, none⟩ = some (.int .i64 0) := (blk_cell BK174.out 3).trans rfl; have hcz23_4 : w21.cell? ⟨gb174, 4, none⟩ = some (.float .f64 0) := (blk_cell BK174.out 4).trans rfl; have hfz23_0 := blk_frozen BK174.out 0; have hfz23_1 := blk_frozen BK174.out 1; have hfz23_2 := blk_frozen BK174.out 2; have hfz23_3 := blk_frozen BK174.out 3; have hfz23_4 := blk_frozen BK174.out 4) | ((with_reducible refine gate_callee (f := 150) rfl ?_); refine goesL_ (some 24) rfl rfl Try.func150 (by kernel_rfl) rfl #[.string (a0.extract (a1 : Int).toNat (t173 : Int).toNat)] rfl (by (try simp only [List.map_toArray, List.map_cons, List.map_nil]); first | done | rfl | (simp only [List.length_drop, List.length_take]; rfl)) ?_; (with_reducible refine (impl_IsWord.calls (a0.extract (a1 : Int).toNat (t173 : Int).toNat) false _ A14.out).mono ?_); rintro e w' ⟨rfl, ⟨nd, rfl⟩⟩; refine ⟨_, rfl, ?_⟩; have hcz24_0 : w21.cell? ⟨gb171, 0, none⟩ = some (.int .i64 0) := (blk_cell BK171.out 0).trans rfl; have hcz24_1 : w21.cell? ⟨gb171, 1, none⟩ = some (.int .i64 0) := (blk_cell BK171.out 1).trans rfl; have hcz24_2 : w21.cell? ⟨gb171, 2, none⟩ = some (.string (⟨#[]⟩ : ByteArray)) := (blk_cell BK171.out 2).trans rfl; have hcz24_3 : w21.cell? ⟨gb171, 3, none⟩ = some (.int .i64 0) := (blk_cell BK171.out 3).trans rfl; have hcz24_4 : w21.cell? ⟨gb171, 4, none⟩ = some (.float .f64 0) := (blk_cell BK171.out 4).trans rfl; have hfz24_0 := blk_frozen BK171.out 0; have hfz24_1 := blk_frozen BK171.out 1; have hfz24_2 := blk_frozen BK171.out 2; have hfz24_3 := blk_frozen BK171.out 3; have hfz24_4 := blk_frozen BK171.out 4))
         refine bodyPost_ret (results_ct rfl _ _ gb171 148 #[.int .i64 0, .int .i64 0, .string (⟨#[]⟩ : ByteArray), .int .i64 0, .float .f64 0] (0, 0) _ rfl (by (with_reducible repeat (first | refine blk_drewN ?_ _ | refine blk_drew ?_ | refine blk_alloc ?_ _)); refine blk_put (cs := #[.int .i64 0, .int .i64 0, .string (⟨#[]⟩ : ByteArray), .int .i64 0, .float .f64 0]) ?_ 4 _ rfl; (with_reducible repeat (first | refine blk_drewN ?_ _ | refine blk_drew ?_ | refine blk_alloc ?_ _)); refine blk_put (cs := #[.int .i64 0, .int .i64 0, .string (⟨#[]⟩ : ByteArray), .int .i64 0, .float .f64 0]) ?_ 3 _ rfl; (with_reducible repeat (first | refine blk_drewN ?_ _ | refine blk_drew ?_ | refine blk_alloc ?_ _)); refine blk_put (cs := #[.int .i64 0, .int .i64 0, .string (⟨#[]⟩ : ByteArray), .int .i64 0, .float .f64 0]) ?_ 2 _ rfl; (with_reducible repeat (first | refine blk_drewN ?_ _ | refine blk_drew ?_ | refine blk_alloc ?_ _)); refine blk_put (cs := #[.int .i64 0, .int .i64 0, .string (⟨#[]⟩ : ByteArray), .int .i64 0, .float .f64 0]) ?_ 1 _ rfl; (with_reducible repeat (first | refine blk_drewN ?_ _ | refine blk_drew ?_ | refine blk_alloc ?_ _)); refine blk_put (cs := #[.int .i64 0, .int .i64 0, .string (⟨#[]⟩ : ByteArray), .int .i64 0, .float .f64 0]) ?_ 0 _ rfl; (with_reducible repeat (first | refine blk_drewN ?_ _ | refine blk_drew ?_ | refine blk_alloc ?_ _)); refine blk_far ?_ NB171_174.out _; (with_reducible repeat (first | refine blk_drewN ?_ _ | refine blk_drew ?_ | refine blk_alloc ?_ _)); refine blk_far ?_ NB171_174.out _; (with_reducible repeat (first | refine blk_drewN ?_ _ | refine blk_drew ?_ | refine blk_alloc ?_ _)); refine blk_far ?_ NB171_174.out _; (with_reducible repeat (first | refine blk_drewN ?_ _ | refine blk_drew ?_ | refine blk_alloc ?_ _)); refine blk_far ?_ NB171_174.out _; (with_reducible repeat (first | refine blk_drewN ?_ _ | refine blk_drew ?_ | refine blk_alloc ?_ _)); refine blk_far ?_ NB171_174.out _; (with_reducible repeat (first | refine blk_drewN ?_ _ | refine blk_drew ?_ | refine blk_alloc ?_ _)); exact BK171.out) Try.underlying148 rfl (by kernel_rfl)) rfl ?_
         exact ⟨by first | rfl | (simp [errW_none, errW_some] <;> rfl) | (simp [*, errW_none, errW_some] <;> rfl), by repeat (first | (with_reducible first | exact HB.out | apply below_alloc | apply pw_below_drewN | apply below_drew1 | refine below_set ?_ GE171.out | refine below_set ?_ GE174.out) | exact HB.out)⟩
        ·rw [if_neg c20] at H
         have c20b0 : decide (12 < ((a0.extract (a1 : Int).toNat (t173 : Int).toNat).size : Int)) = false := decide_eq_false c20
         (try (have c20b0m := c20b0; rw [show (a0.extract (a1 : Int).toNat (t173 : Int).toNat).size = (t173 : Int).toNat - (a1 : Int).toNat from by (rw [ByteArray.size_extract, Nat.min_eq_left]; first | omega | (simp only [decide_eq_true_eq] at *; omega))] at c20b0m))
         (try (have c20b0n := c20b0; simp only [ByteArray.size_extract, Nat.min_self, Nat.sub_zero] at c20b0n))
         have c20b1 : decide (12 < (a0.extract (a1 : Int).toNat (t173 : Int).toNat).size) = false := decide_eq_false (by omega)
         (try (have c20b1m := c20b1; rw [show (a0.extract (a1 : Int).toNat (t173 : Int).toNat).size = (t173 : Int).toNat - (a1 : Int).toNat from by (rw [ByteArray.size_extract, Nat.min_eq_left]; first | omega | (simp only [decide_eq_true_eq] at *; omega))] at c20b1m))
         (try (have c20b1n := c20b1; simp only [ByteArray.size_extract, Nat.min_self, Nat.sub_zero] at c20b1n))
         clear c20
         (first | rw [c20b0] | (simp only [i64_w, i32_w]; rw [c20b0]) | skip)
         simp only [Option.some.injEq, Prod.mk.injEq] at H
         obtain ⟨rfl, rfl, rfl, rfl, rfl, rfl⟩ := H
         go_wp2_with (first | ((with_reducible refine gate_callee (f := 149) rfl ?_); refine goesL_ (some 13) rfl rfl Try.func149 (by kernel_rfl) rfl #[.int .u8 (bt a0 a1)] rfl (by (try simp only [List.map_toArray, List.map_cons, List.map_nil]); first | done | rfl | (simp only [List.length_drop, List.length_take]; rfl)) ?_; (with_reducible refine (impl_isLetter.calls (bt a0 a1) true _ A8.out).mono ?_); rintro e w' ⟨rfl, ⟨nd, rfl⟩⟩; refine ⟨_, rfl, ?_⟩; (try (rw [drewN_self w7]; generalize hq_ : World.drewN w7 _ = w7; have n0_ : Aside0 (w7.heap[gb171]? = some (.cells #[.int .i64 0, .int .i64 0, .string (⟨#[]⟩ : ByteArray), .int .i64 0, .float .f64 0] 148 (0, 0))) := ⟨by rw [← hq_]; exact (by (with_reducible repeat (first | refine blk_drewN ?_ _ | refine blk_drew ?_ | refine blk_alloc ?_ _)); exact BK171.out)⟩; have n1_ : Aside0 (Below w.heap.size w w7) := ⟨by rw [← hq_]; exact (by repeat (first | (with_reducible first | exact HB.out | apply below_alloc | apply pw_below_drewN | apply below_drew1 | refine below_set ?_ GE171.out) | exact HB.out))⟩; clear BK171 HB hq_; have BK171 := n0_; have HB := n1_; clear n0_ n1_))) | ((with_reducible refine gate_callee (f := 110) rfl ?_); refine goesL_ (some 19) rfl rfl Try.func110 (by kernel_rfl) rfl #[.string a0, .int .i64 a1, .func (.func 149) #[] #[]] rfl (by (try simp only [List.map_toArray, List.map_cons, List.map_nil]); first | done | rfl | (simp only [List.length_drop, List.length_take]; rfl)) ?_; (with_reducible refine (impl_run__impl_isLetter.calls k a0 a1  t173 _ A10.out).mono ?_); rintro e w' ⟨rfl, ⟨nd, rfl⟩⟩; refine ⟨_, rfl, ?_⟩; (try (rw [drewN_self w7]; generalize hq_ : World.drewN w7 _ = w7; have n0_ : Aside0 (w7.heap[gb171]? = some (.cells #[.int .i64 0, .int .i64 0, .string (⟨#[]⟩ : ByteArray), .int .i64 0, .float .f64 0] 148 (0, 0))) := ⟨by rw [← hq_]; exact (by (with_reducible repeat (first | refine blk_drewN ?_ _ | refine blk_drew ?_ | refine blk_alloc ?_ _)); exact BK171.out)⟩; have n1_ : Aside0 (Below w.heap.size w w7) := ⟨by rw [← hq_]; exact (by repeat (first | (with_reducible first | exact HB.out | apply below_alloc | apply pw_below_drewN | apply below_drew1 | refine below_set ?_ GE171.out) | exact HB.out))⟩; clear BK171 HB hq_; have BK171 := n0_; have HB := n1_; clear n0_ n1_))) | ((with_reducible refine gate_dst (N := 7) rfl ?_); (try (refine gate_guard (by rfl) ?_; dsimp only)); refine box_event ?hg (N := 7) ?hd (cs := #[.int .i64 0, .int .i64 0, .string (⟨#[]⟩ : ByteArray), .int .i64 0, .float .f64 0]) (t := 148) ?hr ?_; (case hd => rfl); (case hg => rfl); (case hr => first | (go_simp; done) | (go_simp; rfl)); intro gb174 hg w25 hbox hb; have n0_ := Aside0.mk (blk_below (g := gb171) (o := .cells #[.int .i64 0, .int .i64 0, .string (⟨#[]⟩ : ByteArray), .int .i64 0, .float .f64 0] 148 (0, 0)) (by (with_reducible repeat (first | refine blk_drewN ?_ _ | refine blk_drew ?_ | refine blk_alloc ?_ _)); exact BK171.out) hb); have n1_ := Aside0.mk (below_step (by repeat (first | (with_reducible first | exact HB.out | apply below_alloc | apply pw_below_drewN | apply below_drew1 | refine below_set ?_ GE171.out) | exact HB.out)) hb); have n2_ := Aside0.mk (hbox); have n3_ := Aside0.mk ((by rw [hg]; exact (below_size (by repeat (first | (with_reducible first | exact HB.out | apply below_alloc | apply pw_below_drewN | apply below_drew1 | refine below_set ?_ GE171.out) | exact HB.out))) : w.heap.size ≤ gb174)); have n4_ := Aside0.mk ((by rw [hg]; exact (below_size (by repeat (first | (with_reducible first | exact HB.out | apply below_alloc | apply pw_below_drewN | apply below_drew1 | refine below_set ?_ GE171.out) | exact HB.out))) : w.heap.size ≤ gb174)); have n5_ := Aside0.mk ((by rw [hg]; exact Nat.ne_of_lt (blk_lt (g := gb171) (o := .cells #[.int .i64 0, .int .i64 0, .string (⟨#[]⟩ : ByteArray), .int .i64 0, .float .f64 0] 148 (0, 0)) (by (with_reducible repeat (first | refine blk_drewN ?_ _ | refine blk_drew ?_ | refine blk_alloc ?_ _)); exact BK171.out)) : gb171 ≠ gb174)); have n6_ := Aside0.mk ((by rw [hg]; exact Nat.ne_of_gt (blk_lt (g := gb171) (o := .cells #[.int .i64 0, .int .i64 0, .string (⟨#[]⟩ : ByteArray), .int .i64 0, .float .f64 0] 148 (0, 0)) (by (with_reducible repeat (first | refine blk_drewN ?_ _ | refine blk_drew ?_ | refine blk_alloc ?_ _)); exact BK171.out)) : gb174 ≠ gb171)); clear BK171; clear HB; have BK171 := n0_; have HB := n1_; have BK174 := n2_; have GW174 := n3_; have GE174 := n4_; have NB171_174 := n5_; have NB174_171 := n6_; clear n0_ n1_ n2_ n3_ n4_ n5_ n6_; clear hb hbox hg; have hnb26 := NB174_171.out; have hnc26 := NB171_174.out; have hcz27_0 : w25.cell? ⟨gb174, 0, none⟩ = some (.int .i64 0) := (blk_cell BK174.out 0).trans rfl; have hcz27_1 : w25.cell? ⟨gb174, 1, none⟩ = some (.int .i64 0) := (blk_cell BK174.out 1).trans rfl; have hcz27_2 : w25.cell? ⟨gb174, 2, none⟩ = some (.string (⟨#[]⟩ : ByteArray)) := (blk_cell BK174.out 2).trans rfl; have hcz27_3 : w25.cell? ⟨gb174, 3, none⟩ = some (.int .i64 0) := (blk_cell BK174.out 3).trans rfl; have hcz27_4 : w25.cell? ⟨gb174, 4, none⟩ = some (.float .f64 0) := (blk_cell BK174.out 4).trans rfl; have hfz27_0 := blk_frozen BK174.out 0; have hfz27_1 := blk_frozen BK174.out 1; have hfz27_2 := blk_frozen BK174.out 2; have hfz27_3 := blk_frozen BK174.out 3; have hfz27_4 := blk_frozen BK174.out 4) | ((with_reducible refine gate_callee (f := 150) rfl ?_); refine goesL_ (some 24) rfl rfl Try.func150 (by kernel_rfl) rfl #[.string (a0.extract (a1 : Int).toNat (t173 : Int).toNat)] rfl (by (try simp only [List.map_toArray, List.map_cons, List.map_nil]); first | done | rfl | (simp only [List.length_drop, List.length_take]; rfl)) ?_; (with_reducible refine (impl_IsWord.calls (a0.extract (a1 : Int).toNat (t173 : Int).toNat) false _ A14.out).mono ?_); rintro e w' ⟨rfl, ⟨nd, rfl⟩⟩; refine ⟨_, rfl, ?_⟩; have hcz28_0 : w25.cell? ⟨gb171, 0, none⟩ = some (.int .i64 0) := (blk_cell BK171.out 0).trans rfl; have hcz28_1 : w25.cell? ⟨gb171, 1, none⟩ = some (.int .i64 0) := (blk_cell BK171.out 1).trans rfl; have hcz28_2 : w25.cell? ⟨gb171, 2, none⟩ = some (.string (⟨#[]⟩ : ByteArray)) := (blk_cell BK171.out 2).trans rfl; have hcz28_3 : w25.cell? ⟨gb171, 3, none⟩ = some (.int .i64 0) := (blk_cell BK171.out 3).trans rfl; have hcz28_4 : w25.cell? ⟨gb171, 4, none⟩ = some (.float .f64 0) := (blk_cell BK171.out 4).trans rfl; have hfz28_0 := blk_frozen BK171.out 0; have hfz28_1 := blk_frozen BK171.out 1; have hfz28_2 := blk_frozen BK171.out 2; have hfz28_3 := blk_frozen BK171.out 3; have hfz28_4 := blk_frozen BK171.out 4))
         refine bodyPost_ret (results_ct rfl _ _ gb171 148 #[.int .i64 1, .int .i64 a1, .string (a0.extract (a1 : Int).toNat (t173 : Int).toNat), .int .i64 0, .float .f64 0] (0, 0) _ rfl (by (with_reducible repeat (first | refine blk_drewN ?_ _ | refine blk_drew ?_ | refine blk_alloc ?_ _)); refine blk_put (cs := #[.int .i64 1, .int .i64 a1, .string (a0.extract (a1 : Int).toNat (t173 : Int).toNat), .int .i64 0, .float .f64 0]) ?_ 4 _ rfl; (with_reducible repeat (first | refine blk_drewN ?_ _ | refine blk_drew ?_ | refine blk_alloc ?_ _)); refine blk_put (cs := #[.int .i64 1, .int .i64 a1, .string (a0.extract (a1 : Int).toNat (t173 : Int).toNat), .int .i64 0, .float .f64 0]) ?_ 3 _ rfl; (with_reducible repeat (first | refine blk_drewN ?_ _ | refine blk_drew ?_ | refine blk_alloc ?_ _)); refine blk_put (cs := #[.int .i64 1, .int .i64 a1, .string (⟨#[]⟩ : ByteArray), .int .i64 0, .float .f64 0]) ?_ 2 _ rfl; (with_reducible repeat (first | refine blk_drewN ?_ _ | refine blk_drew ?_ | refine blk_alloc ?_ _)); refine blk_put (cs := #[.int .i64 1, .int .i64 0, .string (⟨#[]⟩ : ByteArray), .int .i64 0, .float .f64 0]) ?_ 1 _ rfl; (with_reducible repeat (first | refine blk_drewN ?_ _ | refine blk_drew ?_ | refine blk_alloc ?_ _)); refine blk_put (cs := #[.int .i64 0, .int .i64 0, .string (⟨#[]⟩ : ByteArray), .int .i64 0, .float .f64 0]) ?_ 0 _ rfl; (with_reducible repeat (first | refine blk_drewN ?_ _ | refine blk_drew ?_ | refine blk_alloc ?_ _)); refine blk_far ?_ NB171_174.out _; (with_reducible repeat (first | refine blk_drewN ?_ _ | refine blk_drew ?_ | refine blk_alloc ?_ _)); refine blk_far ?_ NB171_174.out _; (with_reducible repeat (first | refine blk_drewN ?_ _ | refine blk_drew ?_ | refine blk_alloc ?_ _)); refine blk_far ?_ NB171_174.out _; (with_reducible repeat (first | refine blk_drewN ?_ _ | refine blk_drew ?_ | refine blk_alloc ?_ _)); refine blk_far ?_ NB171_174.out _; (with_reducible repeat (first | refine blk_drewN ?_ _ | refine blk_drew ?_ | refine blk_alloc ?_ _)); refine blk_far ?_ NB171_174.out _; (with_reducible repeat (first | refine blk_drewN ?_ _ | refine blk_drew ?_ | refine blk_alloc ?_ _)); exact BK171.out) Try.underlying148 rfl (by kernel_rfl)) rfl ?_
         exact ⟨by first | rfl | (simp [errW_none, errW_some] <;> rfl) | (simp [*, errW_none, errW_some] <;> rfl), by repeat (first | (with_reducible first | exact HB.out | apply below_alloc | apply pw_below_drewN | apply below_drew1 | refine below_set ?_ GE171.out | refine below_set ?_ GE174.out) | exact HB.out)⟩
      ·rw [if_neg c13] at H
       exact absurd H (by simp)
     ·rw [if_neg c12] at H
      exact absurd H (by simp)
    ·replace c9 := Bool.eq_false_iff.mpr c9
     subst c9
     have H1 : ((impl_isDigit.f (bt a0 a1)).bind fun t176 => (if t176 = true then ((impl_lexNumber.f k a0 a1).bind fun bt177 => (some (bt177.1, bt177.2.1, bt177.2.2.1, bt177.2.2.2.1, bt177.2.2.2.2.1, bt177.2.2.2.2.2))) else (if (bt a0 a1) = 61 then (if (wrap64 (a1 + 1)) < (a0.size : Int) then (if 0 ≤ (wrap64 (a1 + 1)) then (if (bt a0 (wrap64 (a1 + 1))) = 61 then (some (5, a1, (⟨#[61, 61]⟩ : ByteArray), 0, 0, 0)) else (impl_lexToken.j0 k a0 a1 (bt a0 a1))) else (none)) else (impl_lexToken.j0 k a0 a1 (bt a0 a1))) else (impl_lexToken.j0 k a0 a1 (bt a0 a1))))) = some (r1, r2, r3, r4, r5, r6) := by rw [if_neg (show ¬ (false = true) by decide)] at H; exact H
     clear H
     have H := H1
     clear H1
     replace H := Option.bind_eq_some_iff.mp H
     obtain ⟨t176, A290, H⟩ := H
     (try dsimp only at H)
     have A29 := Aside0.mk A290
     clear A290
     by_cases c30 : t176 = true
     ·subst c30
      have H1 : ((impl_lexNumber.f k a0 a1).bind fun bt177 => (some (bt177.1, bt177.2.1, bt177.2.2.1, bt177.2.2.2.1, bt177.2.2.2.2.1, bt177.2.2.2.2.2))) = some (r1, r2, r3, r4, r5, r6) := by rw [if_pos rfl] at H; exact H
      clear H
      have H := H1
      clear H1
      replace H := Option.bind_eq_some_iff.mp H
      obtain ⟨⟨t177, t178, t179, t180, t181, t182⟩, A310, H⟩ := H
      (try dsimp only at H)
      have A31 := Aside0.mk A310
      clear A310
      simp only [Option.some.injEq, Prod.mk.injEq] at H
      obtain ⟨rfl, rfl, rfl, rfl, rfl, rfl⟩ := H
      go_wp2_with (first | ((with_reducible refine gate_callee (f := 149) rfl ?_); refine goesL_ (some 13) rfl rfl Try.func149 (by kernel_rfl) rfl #[.int .u8 (bt a0 a1)] rfl (by (try simp only [List.map_toArray, List.map_cons, List.map_nil]); first | done | rfl | (simp only [List.length_drop, List.length_take]; rfl)) ?_; (with_reducible refine (impl_isLetter.calls (bt a0 a1) false _ A8.out).mono ?_); rintro e w' ⟨rfl, ⟨nd, rfl⟩⟩; refine ⟨_, rfl, ?_⟩; (try (rw [drewN_self w7]; generalize hq_ : World.drewN w7 _ = w7; have n0_ : Aside0 (w7.heap[gb171]? = some (.cells #[.int .i64 0, .int .i64 0, .string (⟨#[]⟩ : ByteArray), .int .i64 0, .float .f64 0] 148 (0, 0))) := ⟨by rw [← hq_]; exact (by (with_reducible repeat (first | refine blk_drewN ?_ _ | refine blk_drew ?_ | refine blk_alloc ?_ _)); exact BK171.out)⟩; have n1_ : Aside0 (Below w.heap.size w w7) := ⟨by rw [← hq_]; exact (by repeat (first | (with_reducible first | exact HB.out | apply below_alloc | apply pw_below_drewN | apply below_drew1 | refine below_set ?_ GE171.out) | exact HB.out))⟩; clear BK171 HB hq_; have BK171 := n0_; have HB := n1_; clear n0_ n1_))) | ((with_reducible refine gate_callee (f := 151) rfl ?_); refine goesL_ (some 34) rfl rfl Try.func151 (by kernel_rfl) rfl #[.int .u8 (bt a0 a1)] rfl (by (try simp only [List.map_toArray, List.map_cons, List.map_nil]); first | done | rfl | (simp only [List.length_drop, List.length_take]; rfl)) ?_; (with_reducible refine (impl_isDigit.calls (bt a0 a1) true _ A29.out).mono ?_); rintro e w' ⟨rfl, ⟨nd, rfl⟩⟩; refine ⟨_, rfl, ?_⟩; (try (rw [drewN_self w7]; generalize hq_ : World.drewN w7 _ = w7; have n0_ : Aside0 (w7.heap[gb171]? = some (.cells #[.int .i64 0, .int .i64 0, .string (⟨#[]⟩ : ByteArray), .int .i64 0, .float .f64 0] 148 (0, 0))) := ⟨by rw [← hq_]; exact (by (with_reducible repeat (first | refine blk_drewN ?_ _ | refine blk_drew ?_ | refine blk_alloc ?_ _)); exact BK171.out)⟩; have n1_ : Aside0 (Below w.heap.size w w7) := ⟨by rw [← hq_]; exact (by repeat (first | (with_reducible first | exact HB.out | apply below_alloc | apply pw_below_drewN | apply below_drew1 | refine below_set ?_ GE171.out) | exact HB.out))⟩; clear BK171 HB hq_; have BK171 := n0_; have HB := n1_; clear n0_ n1_))) | ((with_reducible refine gate_callee (f := 152) rfl ?_); refine goesL_ (some 37) rfl rfl Try.func152 (by kernel_rfl) rfl #[.string a0, .int .i64 a1] rfl (by (try simp only [List.map_toArray, List.map_cons, List.map_nil]); first | done | rfl | (simp only [List.length_drop, List.length_take]; rfl)) ?_; (with_reducible refine (impl_lexNumber.calls k a0 a1 t177 t178 t179 t180 t181 t182 _ A31.out).mono ?_); rintro e w32 ⟨rfl, hb⟩; refine ⟨_, rfl, ?_⟩; have n0_ := Aside0.mk (blk_below (g := gb171) (o := .cells #[.int .i64 0, .int .i64 0, .string (⟨#[]⟩ : ByteArray), .int .i64 0, .float .f64 0] 148 (0, 0)) (by (with_reducible repeat (first | refine blk_drewN ?_ _ | refine blk_drew ?_ | refine blk_alloc ?_ _)); exact BK171.out) hb); have n1_ := Aside0.mk (below_step (by repeat (first | (with_reducible first | exact HB.out | apply below_alloc | apply pw_below_drewN | apply below_drew1 | refine below_set ?_ GE171.out) | exact HB.out)) hb); clear BK171; clear HB; have BK171 := n0_; have HB := n1_; clear n0_ n1_; (try clear hb); (try clear hb2); (try clear hk); (try clear hi); have hcz33_0 : w32.cell? ⟨gb171, 0, none⟩ = some (.int .i64 0) := (blk_cell BK171.out 0).trans rfl; have hcz33_1 : w32.cell? ⟨gb171, 1, none⟩ = some (.int .i64 0) := (blk_cell BK171.out 1).trans rfl; have hcz33_2 : w32.cell? ⟨gb171, 2, none⟩ = some (.string (⟨#[]⟩ : ByteArray)) := (blk_cell BK171.out 2).trans rfl; have hcz33_3 : w32.cell? ⟨gb171, 3, none⟩ = some (.int .i64 0) := (blk_cell BK171.out 3).trans rfl; have hcz33_4 : w32.cell? ⟨gb171, 4, none⟩ = some (.float .f64 0) := (blk_cell BK171.out 4).trans rfl; have hfz33_0 := blk_frozen BK171.out 0; have hfz33_1 := blk_frozen BK171.out 1; have hfz33_2 := blk_frozen BK171.out 2; have hfz33_3 := blk_frozen BK171.out 3; have hfz33_4 := blk_frozen BK171.out 4))
      refine bodyPost_ret (results_ct rfl _ _ gb171 148 #[.int .i64 t177, .int .i64 t178, .string t179, .int .i64 t180, .float .f64 t181] (0, 0) _ rfl (by (with_reducible repeat (first | refine blk_drewN ?_ _ | refine blk_drew ?_ | refine blk_alloc ?_ _)); refine blk_put (cs := #[.int .i64 t177, .int .i64 t178, .string t179, .int .i64 t180, .float .f64 0]) ?_ 4 _ rfl; (with_reducible repeat (first | refine blk_drewN ?_ _ | refine blk_drew ?_ | refine blk_alloc ?_ _)); refine blk_put (cs := #[.int .i64 t177, .int .i64 t178, .string t179, .int .i64 0, .float .f64 0]) ?_ 3 _ rfl; (with_reducible repeat (first | refine blk_drewN ?_ _ | refine blk_drew ?_ | refine blk_alloc ?_ _)); refine blk_put (cs := #[.int .i64 t177, .int .i64 t178, .string (⟨#[]⟩ : ByteArray), .int .i64 0, .float .f64 0]) ?_ 2 _ rfl; (with_reducible repeat (first | refine blk_drewN ?_ _ | refine blk_drew ?_ | refine blk_alloc ?_ _)); refine blk_put (cs := #[.int .i64 t177, .int .i64 0, .string (⟨#[]⟩ : ByteArray), .int .i64 0, .float .f64 0]) ?_ 1 _ rfl; (with_reducible repeat (first | refine blk_drewN ?_ _ | refine blk_drew ?_ | refine blk_alloc ?_ _)); refine blk_put (cs := #[.int .i64 0, .int .i64 0, .string (⟨#[]⟩ : ByteArray), .int .i64 0, .float .f64 0]) ?_ 0 _ rfl; (with_reducible repeat (first | refine blk_drewN ?_ _ | refine blk_drew ?_ | refine blk_alloc ?_ _)); exact BK171.out) Try.underlying148 rfl (by kernel_rfl)) rfl ?_
      exact ⟨by first | rfl | (simp [errW_none, errW_some] <;> rfl) | (simp [*, errW_none, errW_some] <;> rfl), by repeat (first | (with_reducible first | exact HB.out | apply below_alloc | apply pw_below_drewN | apply below_drew1 | refine below_set ?_ GE171.out) | exact HB.out)⟩
     ·replace c30 := Bool.eq_false_iff.mpr c30
      subst c30
      have H1 : (if (bt a0 a1) = 61 then (if (wrap64 (a1 + 1)) < (a0.size : Int) then (if 0 ≤ (wrap64 (a1 + 1)) then (if (bt a0 (wrap64 (a1 + 1))) = 61 then (some (5, a1, (⟨#[61, 61]⟩ : ByteArray), 0, 0, 0)) else (impl_lexToken.j0 k a0 a1 (bt a0 a1))) else (none)) else (impl_lexToken.j0 k a0 a1 (bt a0 a1))) else (impl_lexToken.j0 k a0 a1 (bt a0 a1))) = some (r1, r2, r3, r4, r5, r6) := by rw [if_neg (show ¬ (false = true) by decide)] at H; exact H
      clear H
      have H := H1
      clear H1
      by_cases c34 : (bt a0 a1) = 61
      ·rw [if_pos c34] at H
       have c34b0 : ((bt a0 a1) == 61) = true := beq_iff_eq.mpr c34
       have c34b1 : ((bt a0 a1) != 61) = false := bne_eq_false_iff_eq.mpr c34
       clear c34
       by_cases c35 : (wrap64 (a1 + 1)) < (a0.size : Int)
       ·rw [if_pos c35] at H
        have c35b0 : decide ((wrap64 (a1 + 1)) < (a0.size : Int)) = true := decide_eq_true c35
        clear c35
        obtain ⟨ji36, hji36⟩ : ∃ j_ : Int, (wrap64 (a1 + 1)) = j_ := ⟨_, rfl⟩
        replace H : (if 0 ≤ (ji36) then (if (bt a0 (ji36)) = 61 then (some (5, a1, (⟨#[61, 61]⟩ : ByteArray), 0, 0, 0)) else (impl_lexToken.j0 k a0 a1 (bt a0 a1))) else (none)) = some (r1, r2, r3, r4, r5, r6) := by first | (rw [hji36] at H; exact H) | (simp only [hji36] at H ⊢; exact H)
        (try rw [hji36] at c35b0)
        (try rw [hji36] at A8)
        (try rw [hji36] at A29)
        have hji36w : (IntKind.i64.wrap (a1 + 1)) = ji36 := (i64_w _).trans hji36
        by_cases c37 : 0 ≤ (ji36)
        ·rw [if_pos c37] at H
         have c37b0 : decide (0 ≤ (ji36)) = true := decide_eq_true c37
         clear c37
         by_cases c39 : (bt a0 (ji36)) = 61
         ·rw [if_pos c39] at H
          have c39b0 : ((bt a0 (ji36)) == 61) = true := beq_iff_eq.mpr c39
          have c39b1 : ((bt a0 (ji36)) != 61) = false := bne_eq_false_iff_eq.mpr c39
          clear c39
          simp only [Option.some.injEq, Prod.mk.injEq] at H
          obtain ⟨rfl, rfl, rfl, rfl, rfl, rfl⟩ := H
          go_wp2_with (first | ((with_reducible refine gate_callee (f := 149) rfl ?_); refine goesL_ (some 13) rfl rfl Try.func149 (by kernel_rfl) rfl #[.int .u8 (bt a0 a1)] rfl (by (try simp only [List.map_toArray, List.map_cons, List.map_nil]); first | done | rfl | (simp only [List.length_drop, List.length_take]; rfl)) ?_; (with_reducible refine (impl_isLetter.calls (bt a0 a1) false _ A8.out).mono ?_); rintro e w' ⟨rfl, ⟨nd, rfl⟩⟩; refine ⟨_, rfl, ?_⟩; (try (rw [drewN_self w7]; generalize hq_ : World.drewN w7 _ = w7; have n0_ : Aside0 (w7.heap[gb171]? = some (.cells #[.int .i64 0, .int .i64 0, .string (⟨#[]⟩ : ByteArray), .int .i64 0, .float .f64 0] 148 (0, 0))) := ⟨by rw [← hq_]; exact (by (with_reducible repeat (first | refine blk_drewN ?_ _ | refine blk_drew ?_ | refine blk_alloc ?_ _)); exact BK171.out)⟩; have n1_ : Aside0 (Below w.heap.size w w7) := ⟨by rw [← hq_]; exact (by repeat (first | (with_reducible first | exact HB.out | apply below_alloc | apply pw_below_drewN | apply below_drew1 | refine below_set ?_ GE171.out) | exact HB.out))⟩; clear BK171 HB hq_; have BK171 := n0_; have HB := n1_; clear n0_ n1_))) | ((with_reducible refine gate_callee (f := 151) rfl ?_); refine goesL_ (some 34) rfl rfl Try.func151 (by kernel_rfl) rfl #[.int .u8 (bt a0 a1)] rfl (by (try simp only [List.map_toArray, List.map_cons, List.map_nil]); first | done | rfl | (simp only [List.length_drop, List.length_take]; rfl)) ?_; (with_reducible refine (impl_isDigit.calls (bt a0 a1) false _ A29.out).mono ?_); rintro e w' ⟨rfl, ⟨nd, rfl⟩⟩; refine ⟨_, rfl, ?_⟩; (try (rw [drewN_self w7]; generalize hq_ : World.drewN w7 _ = w7; have n0_ : Aside0 (w7.heap[gb171]? = some (.cells #[.int .i64 0, .int .i64 0, .string (⟨#[]⟩ : ByteArray), .int .i64 0, .float .f64 0] 148 (0, 0))) := ⟨by rw [← hq_]; exact (by (with_reducible repeat (first | refine blk_drewN ?_ _ | refine blk_drew ?_ | refine blk_alloc ?_ _)); exact BK171.out)⟩; have n1_ : Aside0 (Below w.heap.size w w7) := ⟨by rw [← hq_]; exact (by repeat (first | (with_reducible first | exact HB.out | apply below_alloc | apply pw_below_drewN | apply below_drew1 | refine below_set ?_ GE171.out) | exact HB.out))⟩; clear BK171 HB hq_; have BK171 := n0_; have HB := n1_; clear n0_ n1_)); have p38 : 0 ≤ ((ji36) : Int) := of_decide_eq_true (by first | (with_reducible assumption) | assumption); have q38 : (ji36) < (a0.size : Int) := of_decide_eq_true (by first | (with_reducible assumption) | assumption); have hx38 := bt_at a0 (ji36); replace p38 := eq_true p38; replace q38 := eq_true q38; have hcz40_0 : w7.cell? ⟨gb171, 0, none⟩ = some (.int .i64 0) := (blk_cell BK171.out 0).trans rfl; have hcz40_1 : w7.cell? ⟨gb171, 1, none⟩ = some (.int .i64 0) := (blk_cell BK171.out 1).trans rfl; have hcz40_2 : w7.cell? ⟨gb171, 2, none⟩ = some (.string (⟨#[]⟩ : ByteArray)) := (blk_cell BK171.out 2).trans rfl; have hcz40_3 : w7.cell? ⟨gb171, 3, none⟩ = some (.int .i64 0) := (blk_cell BK171.out 3).trans rfl; have hcz40_4 : w7.cell? ⟨gb171, 4, none⟩ = some (.float .f64 0) := (blk_cell BK171.out 4).trans rfl; have hfz40_0 := blk_frozen BK171.out 0; have hfz40_1 := blk_frozen BK171.out 1; have hfz40_2 := blk_frozen BK171.out 2; have hfz40_3 := blk_frozen BK171.out 3; have hfz40_4 := blk_frozen BK171.out 4))
          refine bodyPost_ret (results_ct rfl _ _ gb171 148 #[.int .i64 5, .int .i64 a1, .string (⟨#[61, 61]⟩ : ByteArray), .int .i64 0, .float .f64 0] (0, 0) _ rfl (by (with_reducible repeat (first | refine blk_drewN ?_ _ | refine blk_drew ?_ | refine blk_alloc ?_ _)); refine blk_put (cs := #[.int .i64 5, .int .i64 a1, .string (⟨#[61, 61]⟩ : ByteArray), .int .i64 0, .float .f64 0]) ?_ 4 _ rfl; (with_reducible repeat (first | refine blk_drewN ?_ _ | refine blk_drew ?_ | refine blk_alloc ?_ _)); refine blk_put (cs := #[.int .i64 5, .int .i64 a1, .string (⟨#[61, 61]⟩ : ByteArray), .int .i64 0, .float .f64 0]) ?_ 3 _ rfl; (with_reducible repeat (first | refine blk_drewN ?_ _ | refine blk_drew ?_ | refine blk_alloc ?_ _)); refine blk_put (cs := #[.int .i64 5, .int .i64 a1, .string (⟨#[]⟩ : ByteArray), .int .i64 0, .float .f64 0]) ?_ 2 _ rfl; (with_reducible repeat (first | refine blk_drewN ?_ _ | refine blk_drew ?_ | refine blk_alloc ?_ _)); refine blk_put (cs := #[.int .i64 5, .int .i64 0, .string (⟨#[]⟩ : ByteArray), .int .i64 0, .float .f64 0]) ?_ 1 _ rfl; (with_reducible repeat (first | refine blk_drewN ?_ _ | refine blk_drew ?_ | refine blk_alloc ?_ _)); refine blk_put (cs := #[.int .i64 0, .int .i64 0, .string (⟨#[]⟩ : ByteArray), .int .i64 0, .float .f64 0]) ?_ 0 _ rfl; (with_reducible repeat (first | refine blk_drewN ?_ _ | refine blk_drew ?_ | refine blk_alloc ?_ _)); exact BK171.out) Try.underlying148 rfl (by kernel_rfl)) rfl ?_
          exact ⟨by first | rfl | (simp [errW_none, errW_some] <;> rfl) | (simp only [← hji36]; first | rfl | (simp [errW_none, errW_some] <;> rfl)) | (simp [*, errW_none, errW_some] <;> rfl), by repeat (first | (with_reducible first | exact HB.out | apply below_alloc | apply pw_below_drewN | apply below_drew1 | refine below_set ?_ GE171.out) | exact HB.out)⟩
         ·rw [if_neg c39] at H
          have c39b0 : ((bt a0 (ji36)) == 61) = false := beq_eq_false_iff_ne.mpr c39
          have c39b1 : ((bt a0 (ji36)) != 61) = true := bne_iff_ne.mpr c39
          have H' := Aside0.mk H
          clear H
          go_wp2_with (first | ((with_reducible refine gate_callee (f := 149) rfl ?_); refine goesL_ (some 13) rfl rfl Try.func149 (by kernel_rfl) rfl #[.int .u8 (bt a0 a1)] rfl (by (try simp only [List.map_toArray, List.map_cons, List.map_nil]); first | done | rfl | (simp only [List.length_drop, List.length_take]; rfl)) ?_; (with_reducible refine (impl_isLetter.calls (bt a0 a1) false _ A8.out).mono ?_); rintro e w' ⟨rfl, ⟨nd, rfl⟩⟩; refine ⟨_, rfl, ?_⟩) | ((with_reducible refine gate_callee (f := 151) rfl ?_); refine goesL_ (some 34) rfl rfl Try.func151 (by kernel_rfl) rfl #[.int .u8 (bt a0 a1)] rfl (by (try simp only [List.map_toArray, List.map_cons, List.map_nil]); first | done | rfl | (simp only [List.length_drop, List.length_take]; rfl)) ?_; (with_reducible refine (impl_isDigit.calls (bt a0 a1) false _ A29.out).mono ?_); rintro e w' ⟨rfl, ⟨nd, rfl⟩⟩; refine ⟨_, rfl, ?_⟩; have p38 : 0 ≤ ((ji36) : Int) := of_decide_eq_true (by first | (with_reducible assumption) | assumption); have q38 : (ji36) < (a0.size : Int) := of_decide_eq_true (by first | (with_reducible assumption) | assumption); have hx38 := bt_at a0 (ji36); replace p38 := eq_true p38; replace q38 := eq_true q38))
          go_meet
          case rel => exact ⟨_, (0), (0), ((⟨#[]⟩ : ByteArray)), (0), (0), H', ⟨by first | omega | exact Nat.le_refl _⟩, ⟨by (with_reducible repeat (first | refine blk_drewN ?_ _ | refine blk_drew ?_ | refine blk_alloc ?_ _)); exact BK171.out⟩, ⟨by repeat (first | (with_reducible first | exact HB.out | apply below_alloc | apply pw_below_drewN | apply below_drew1 | refine below_set ?_ GE171.out) | exact HB.out)⟩⟩
        ·rw [if_neg c37] at H
         exact absurd H (by simp)
       ·rw [if_neg c35] at H
        have c35b0 : decide ((wrap64 (a1 + 1)) < (a0.size : Int)) = false := decide_eq_false c35
        clear c35
        have H' := Aside0.mk H
        clear H
        go_wp2_with (first | ((with_reducible refine gate_callee (f := 149) rfl ?_); refine goesL_ (some 13) rfl rfl Try.func149 (by kernel_rfl) rfl #[.int .u8 (bt a0 a1)] rfl (by (try simp only [List.map_toArray, List.map_cons, List.map_nil]); first | done | rfl | (simp only [List.length_drop, List.length_take]; rfl)) ?_; (with_reducible refine (impl_isLetter.calls (bt a0 a1) false _ A8.out).mono ?_); rintro e w' ⟨rfl, ⟨nd, rfl⟩⟩; refine ⟨_, rfl, ?_⟩) | ((with_reducible refine gate_callee (f := 151) rfl ?_); refine goesL_ (some 34) rfl rfl Try.func151 (by kernel_rfl) rfl #[.int .u8 (bt a0 a1)] rfl (by (try simp only [List.map_toArray, List.map_cons, List.map_nil]); first | done | rfl | (simp only [List.length_drop, List.length_take]; rfl)) ?_; (with_reducible refine (impl_isDigit.calls (bt a0 a1) false _ A29.out).mono ?_); rintro e w' ⟨rfl, ⟨nd, rfl⟩⟩; refine ⟨_, rfl, ?_⟩))
        go_meet
        case rel => exact ⟨_, (0), (0), ((⟨#[]⟩ : ByteArray)), (0), (0), H', ⟨by first | omega | exact Nat.le_refl _⟩, ⟨by (with_reducible repeat (first | refine blk_drewN ?_ _ | refine blk_drew ?_ | refine blk_alloc ?_ _)); exact BK171.out⟩, ⟨by repeat (first | (with_reducible first | exact HB.out | apply below_alloc | apply pw_below_drewN | apply below_drew1 | refine below_set ?_ GE171.out) | exact HB.out)⟩⟩
      ·rw [if_neg c34] at H
       have c34b0 : ((bt a0 a1) == 61) = false := beq_eq_false_iff_ne.mpr c34
       have c34b1 : ((bt a0 a1) != 61) = true := bne_iff_ne.mpr c34
       have H' := Aside0.mk H
       clear H
       go_wp2_with (first | ((with_reducible refine gate_callee (f := 149) rfl ?_); refine goesL_ (some 13) rfl rfl Try.func149 (by kernel_rfl) rfl #[.int .u8 (bt a0 a1)] rfl (by (try simp only [List.map_toArray, List.map_cons, List.map_nil]); first | done | rfl | (simp only [List.length_drop, List.length_take]; rfl)) ?_; (with_reducible refine (impl_isLetter.calls (bt a0 a1) false _ A8.out).mono ?_); rintro e w' ⟨rfl, ⟨nd, rfl⟩⟩; refine ⟨_, rfl, ?_⟩) | ((with_reducible refine gate_callee (f := 151) rfl ?_); refine goesL_ (some 34) rfl rfl Try.func151 (by kernel_rfl) rfl #[.int .u8 (bt a0 a1)] rfl (by (try simp only [List.map_toArray, List.map_cons, List.map_nil]); first | done | rfl | (simp only [List.length_drop, List.length_take]; rfl)) ?_; (with_reducible refine (impl_isDigit.calls (bt a0 a1) false _ A29.out).mono ?_); rintro e w' ⟨rfl, ⟨nd, rfl⟩⟩; refine ⟨_, rfl, ?_⟩))
       go_meet
       case rel => exact ⟨_, (0), (0), ((⟨#[]⟩ : ByteArray)), (0), (0), H', ⟨by first | omega | exact Nat.le_refl _⟩, ⟨by (with_reducible repeat (first | refine blk_drewN ?_ _ | refine blk_drew ?_ | refine blk_alloc ?_ _)); exact BK171.out⟩, ⟨by repeat (first | (with_reducible first | exact HB.out | apply below_alloc | apply pw_below_drewN | apply below_drew1 | refine below_set ?_ GE171.out) | exact HB.out)⟩⟩
   case rest =>
    clear HC6
    try clear c1
    try clear c2
    try clear p2
    try clear c3
    try clear c3b0
    try clear p3
    try clear q3
    try clear hx3
    try clear c4
    try clear c4b0
    try clear p5
    try clear q5
    try clear hx5
    try clear p6
    try clear c7
    try clear c9
    try clear c11
    try clear c11b0
    try clear c12
    try clear c12b0
    try clear c12b1
    try clear c13
    try clear c13b0
    try clear c13b1
    try clear c14
    try clear c15
    try clear c17
    try clear c20
    try clear c20b0
    try clear c20b1
    try clear c22
    try clear c26
    try clear c30
    try clear c34
    try clear c34b0
    try clear c34b1
    try clear c35
    try clear c35b0
    try clear c37
    try clear c37b0
    try clear p38
    try clear q38
    try clear hx38
    try clear c39
    try clear c39b0
    try clear c39b1
    try clear hcz18_0
    try clear hcz18_1
    try clear hcz18_2
    try clear hcz18_3
    try clear hcz18_4
    try clear hcz19_0
    try clear hcz19_1
    try clear hcz19_2
    try clear hcz19_3
    try clear hcz19_4
    try clear hcz23_0
    try clear hcz23_1
    try clear hcz23_2
    try clear hcz23_3
    try clear hcz23_4
    try clear hcz24_0
    try clear hcz24_1
    try clear hcz24_2
    try clear hcz24_3
    try clear hcz24_4
    try clear hcz27_0
    try clear hcz27_1
    try clear hcz27_2
    try clear hcz27_3
    try clear hcz27_4
    try clear hcz28_0
    try clear hcz28_1
    try clear hcz28_2
    try clear hcz28_3
    try clear hcz28_4
    try clear hcz33_0
    try clear hcz33_1
    try clear hcz33_2
    try clear hcz33_3
    try clear hcz33_4
    try clear hcz40_0
    try clear hcz40_1
    try clear hcz40_2
    try clear hcz40_3
    try clear hcz40_4
    try clear hfz18_0
    try clear hfz18_1
    try clear hfz18_2
    try clear hfz18_3
    try clear hfz18_4
    try clear hfz19_0
    try clear hfz19_1
    try clear hfz19_2
    try clear hfz19_3
    try clear hfz19_4
    try clear hfz23_0
    try clear hfz23_1
    try clear hfz23_2
    try clear hfz23_3
    try clear hfz23_4
    try clear hfz24_0
    try clear hfz24_1
    try clear hfz24_2
    try clear hfz24_3
    try clear hfz24_4
    try clear hfz27_0
    try clear hfz27_1
    try clear hfz27_2
    try clear hfz27_3
    try clear hfz27_4
    try clear hfz28_0
    try clear hfz28_1
    try clear hfz28_2
    try clear hfz28_3
    try clear hfz28_4
    try clear hfz33_0
    try clear hfz33_1
    try clear hfz33_2
    try clear hfz33_3
    try clear hfz33_4
    try clear hfz40_0
    try clear hfz40_1
    try clear hfz40_2
    try clear hfz40_3
    try clear hfz40_4
    try clear p38
    try clear p5
    try clear q38
    try clear q5
    obtain ⟨kq, x172000_5, x172001_5, x172002_5, x172003_5, x172004_5, HA, HJ5, BK171, HB⟩ := hcut
    cases kq with
    | zero => exact absurd HA.out (by simp [impl_lexToken.j0])
    | succ kj5 =>
     have H := HA.out
     clear HA
     simp only [impl_lexToken.j0] at H
     by_cases c41 : (bt a0 a1) = 123
     ·rw [if_pos c41] at H
      have c41b0 : ((bt a0 a1) == 123) = true := beq_iff_eq.mpr c41
      have c41b1 : ((bt a0 a1) != 123) = false := bne_eq_false_iff_eq.mpr c41
      clear c41
      by_cases c42 : 0 ≤ a1
      ·rw [if_pos c42] at H
       have c42b0 := eq_true c42
       have c42b1 : decide (0 ≤ a1) = true := decide_eq_true c42
       clear c42
       by_cases c43 : a1 ≤ (wrap64 (a1 + 1))
       ·rw [if_pos c43] at H
        have c43b0 := eq_true c43
        have c43b1 : decide (a1 ≤ (wrap64 (a1 + 1))) = true := decide_eq_true c43
        by_cases c44 : (wrap64 (a1 + 1)) ≤ (a0.size : Int)
        ·rw [if_pos c44] at H
         have c44b0 := eq_true c44
         have c44b1 : decide ((wrap64 (a1 + 1)) ≤ (a0.size : Int)) = true := decide_eq_true c44
         simp only [Option.some.injEq, Prod.mk.injEq] at H
         obtain ⟨rfl, rfl, rfl, rfl, rfl, rfl⟩ := H
         have hcz45_0 : wc.cell? ⟨gb171, 0, none⟩ = some (.int .i64 x172000_5) := (blk_cell BK171.out 0).trans rfl
         have hcz45_1 : wc.cell? ⟨gb171, 1, none⟩ = some (.int .i64 x172001_5) := (blk_cell BK171.out 1).trans rfl
         have hcz45_2 : wc.cell? ⟨gb171, 2, none⟩ = some (.string x172002_5) := (blk_cell BK171.out 2).trans rfl
         have hcz45_3 : wc.cell? ⟨gb171, 3, none⟩ = some (.int .i64 x172003_5) := (blk_cell BK171.out 3).trans rfl
         have hcz45_4 : wc.cell? ⟨gb171, 4, none⟩ = some (.float .f64 x172004_5) := (blk_cell BK171.out 4).trans rfl
         have hfz45_0 := blk_frozen BK171.out 0
         have hfz45_1 := blk_frozen BK171.out 1
         have hfz45_2 := blk_frozen BK171.out 2
         have hfz45_3 := blk_frozen BK171.out 3
         have hfz45_4 := blk_frozen BK171.out 4
         go_wp2
         refine bodyPost_ret (results_ct rfl _ _ gb171 148 #[.int .i64 5, .int .i64 a1, .string (a0.extract (a1 : Int).toNat ((wrap64 (a1 + 1)) : Int).toNat), .int .i64 0, .float .f64 0] (0, 0) _ rfl (by (with_reducible repeat (first | refine blk_drewN ?_ _ | refine blk_drew ?_ | refine blk_alloc ?_ _)); refine blk_put (cs := #[.int .i64 5, .int .i64 a1, .string (a0.extract (a1 : Int).toNat ((wrap64 (a1 + 1)) : Int).toNat), .int .i64 0, .float .f64 x172004_5]) ?_ 4 _ rfl; (with_reducible repeat (first | refine blk_drewN ?_ _ | refine blk_drew ?_ | refine blk_alloc ?_ _)); refine blk_put (cs := #[.int .i64 5, .int .i64 a1, .string (a0.extract (a1 : Int).toNat ((wrap64 (a1 + 1)) : Int).toNat), .int .i64 x172003_5, .float .f64 x172004_5]) ?_ 3 _ rfl; (with_reducible repeat (first | refine blk_drewN ?_ _ | refine blk_drew ?_ | refine blk_alloc ?_ _)); refine blk_put (cs := #[.int .i64 5, .int .i64 a1, .string x172002_5, .int .i64 x172003_5, .float .f64 x172004_5]) ?_ 2 _ rfl; (with_reducible repeat (first | refine blk_drewN ?_ _ | refine blk_drew ?_ | refine blk_alloc ?_ _)); refine blk_put (cs := #[.int .i64 5, .int .i64 x172001_5, .string x172002_5, .int .i64 x172003_5, .float .f64 x172004_5]) ?_ 1 _ rfl; (with_reducible repeat (first | refine blk_drewN ?_ _ | refine blk_drew ?_ | refine blk_alloc ?_ _)); refine blk_put (cs := #[.int .i64 x172000_5, .int .i64 x172001_5, .string x172002_5, .int .i64 x172003_5, .float .f64 x172004_5]) ?_ 0 _ rfl; (with_reducible repeat (first | refine blk_drewN ?_ _ | refine blk_drew ?_ | refine blk_alloc ?_ _)); exact BK171.out) Try.underlying148 rfl (by kernel_rfl)) rfl ?_
         exact ⟨by first | rfl | (simp [errW_none, errW_some] <;> rfl) | (simp [*, errW_none, errW_some] <;> rfl), by repeat (first | (with_reducible first | exact HB.out | apply below_alloc | apply pw_below_drewN | apply below_drew1 | refine below_set ?_ GE171.out) | exact HB.out)⟩
        ·rw [if_neg c44] at H
         exact absurd H (by simp)
       ·rw [if_neg c43] at H
        exact absurd H (by simp)
      ·rw [if_neg c42] at H
       exact absurd H (by simp)
     ·rw [if_neg c41] at H
      have c41b0 : ((bt a0 a1) == 123) = false := beq_eq_false_iff_ne.mpr c41
      have c41b1 : ((bt a0 a1) != 123) = true := bne_iff_ne.mpr c41
      by_cases c46 : (bt a0 a1) = 125
      ·rw [if_pos c46] at H
       have c46b0 : ((bt a0 a1) == 125) = true := beq_iff_eq.mpr c46
       have c46b1 : ((bt a0 a1) != 125) = false := bne_eq_false_iff_eq.mpr c46
       clear c46
       by_cases c47 : 0 ≤ a1
       ·rw [if_pos c47] at H
        have c47b0 := eq_true c47
        have c47b1 : decide (0 ≤ a1) = true := decide_eq_true c47
        clear c47
        by_cases c48 : a1 ≤ (wrap64 (a1 + 1))
        ·rw [if_pos c48] at H
         have c48b0 := eq_true c48
         have c48b1 : decide (a1 ≤ (wrap64 (a1 + 1))) = true := decide_eq_true c48
         by_cases c49 : (wrap64 (a1 + 1)) ≤ (a0.size : Int)
         ·rw [if_pos c49] at H
          have c49b0 := eq_true c49
          have c49b1 : decide ((wrap64 (a1 + 1)) ≤ (a0.size : Int)) = true := decide_eq_true c49
          simp only [Option.some.injEq, Prod.mk.injEq] at H
          obtain ⟨rfl, rfl, rfl, rfl, rfl, rfl⟩ := H
          have hcz50_0 : wc.cell? ⟨gb171, 0, none⟩ = some (.int .i64 x172000_5) := (blk_cell BK171.out 0).trans rfl
          have hcz50_1 : wc.cell? ⟨gb171, 1, none⟩ = some (.int .i64 x172001_5) := (blk_cell BK171.out 1).trans rfl
          have hcz50_2 : wc.cell? ⟨gb171, 2, none⟩ = some (.string x172002_5) := (blk_cell BK171.out 2).trans rfl
          have hcz50_3 : wc.cell? ⟨gb171, 3, none⟩ = some (.int .i64 x172003_5) := (blk_cell BK171.out 3).trans rfl
          have hcz50_4 : wc.cell? ⟨gb171, 4, none⟩ = some (.float .f64 x172004_5) := (blk_cell BK171.out 4).trans rfl
          have hfz50_0 := blk_frozen BK171.out 0
          have hfz50_1 := blk_frozen BK171.out 1
          have hfz50_2 := blk_frozen BK171.out 2
          have hfz50_3 := blk_frozen BK171.out 3
          have hfz50_4 := blk_frozen BK171.out 4
          go_wp2
          refine bodyPost_ret (results_ct rfl _ _ gb171 148 #[.int .i64 5, .int .i64 a1, .string (a0.extract (a1 : Int).toNat ((wrap64 (a1 + 1)) : Int).toNat), .int .i64 0, .float .f64 0] (0, 0) _ rfl (by (with_reducible repeat (first | refine blk_drewN ?_ _ | refine blk_drew ?_ | refine blk_alloc ?_ _)); refine blk_put (cs := #[.int .i64 5, .int .i64 a1, .string (a0.extract (a1 : Int).toNat ((wrap64 (a1 + 1)) : Int).toNat), .int .i64 0, .float .f64 x172004_5]) ?_ 4 _ rfl; (with_reducible repeat (first | refine blk_drewN ?_ _ | refine blk_drew ?_ | refine blk_alloc ?_ _)); refine blk_put (cs := #[.int .i64 5, .int .i64 a1, .string (a0.extract (a1 : Int).toNat ((wrap64 (a1 + 1)) : Int).toNat), .int .i64 x172003_5, .float .f64 x172004_5]) ?_ 3 _ rfl; (with_reducible repeat (first | refine blk_drewN ?_ _ | refine blk_drew ?_ | refine blk_alloc ?_ _)); refine blk_put (cs := #[.int .i64 5, .int .i64 a1, .string x172002_5, .int .i64 x172003_5, .float .f64 x172004_5]) ?_ 2 _ rfl; (with_reducible repeat (first | refine blk_drewN ?_ _ | refine blk_drew ?_ | refine blk_alloc ?_ _)); refine blk_put (cs := #[.int .i64 5, .int .i64 x172001_5, .string x172002_5, .int .i64 x172003_5, .float .f64 x172004_5]) ?_ 1 _ rfl; (with_reducible repeat (first | refine blk_drewN ?_ _ | refine blk_drew ?_ | refine blk_alloc ?_ _)); refine blk_put (cs := #[.int .i64 x172000_5, .int .i64 x172001_5, .string x172002_5, .int .i64 x172003_5, .float .f64 x172004_5]) ?_ 0 _ rfl; (with_reducible repeat (first | refine blk_drewN ?_ _ | refine blk_drew ?_ | refine blk_alloc ?_ _)); exact BK171.out) Try.underlying148 rfl (by kernel_rfl)) rfl ?_
          exact ⟨by first | rfl | (simp [errW_none, errW_some] <;> rfl) | (simp [*, errW_none, errW_some] <;> rfl), by repeat (first | (with_reducible first | exact HB.out | apply below_alloc | apply pw_below_drewN | apply below_drew1 | refine below_set ?_ GE171.out) | exact HB.out)⟩
         ·rw [if_neg c49] at H
          exact absurd H (by simp)
        ·rw [if_neg c48] at H
         exact absurd H (by simp)
       ·rw [if_neg c47] at H
        exact absurd H (by simp)
      ·rw [if_neg c46] at H
       have c46b0 : ((bt a0 a1) == 125) = false := beq_eq_false_iff_ne.mpr c46
       have c46b1 : ((bt a0 a1) != 125) = true := bne_iff_ne.mpr c46
       by_cases c51 : (bt a0 a1) = 40
       ·rw [if_pos c51] at H
        have c51b0 : ((bt a0 a1) == 40) = true := beq_iff_eq.mpr c51
        have c51b1 : ((bt a0 a1) != 40) = false := bne_eq_false_iff_eq.mpr c51
        clear c51
        by_cases c52 : 0 ≤ a1
        ·rw [if_pos c52] at H
         have c52b0 := eq_true c52
         have c52b1 : decide (0 ≤ a1) = true := decide_eq_true c52
         clear c52
         by_cases c53 : a1 ≤ (wrap64 (a1 + 1))
         ·rw [if_pos c53] at H
          have c53b0 := eq_true c53
          have c53b1 : decide (a1 ≤ (wrap64 (a1 + 1))) = true := decide_eq_true c53
          by_cases c54 : (wrap64 (a1 + 1)) ≤ (a0.size : Int)
          ·rw [if_pos c54] at H
           have c54b0 := eq_true c54
           have c54b1 : decide ((wrap64 (a1 + 1)) ≤ (a0.size : Int)) = true := decide_eq_true c54
           simp only [Option.some.injEq, Prod.mk.injEq] at H
           obtain ⟨rfl, rfl, rfl, rfl, rfl, rfl⟩ := H
           have hcz55_0 : wc.cell? ⟨gb171, 0, none⟩ = some (.int .i64 x172000_5) := (blk_cell BK171.out 0).trans rfl
           have hcz55_1 : wc.cell? ⟨gb171, 1, none⟩ = some (.int .i64 x172001_5) := (blk_cell BK171.out 1).trans rfl
           have hcz55_2 : wc.cell? ⟨gb171, 2, none⟩ = some (.string x172002_5) := (blk_cell BK171.out 2).trans rfl
           have hcz55_3 : wc.cell? ⟨gb171, 3, none⟩ = some (.int .i64 x172003_5) := (blk_cell BK171.out 3).trans rfl
           have hcz55_4 : wc.cell? ⟨gb171, 4, none⟩ = some (.float .f64 x172004_5) := (blk_cell BK171.out 4).trans rfl
           have hfz55_0 := blk_frozen BK171.out 0
           have hfz55_1 := blk_frozen BK171.out 1
           have hfz55_2 := blk_frozen BK171.out 2
           have hfz55_3 := blk_frozen BK171.out 3
           have hfz55_4 := blk_frozen BK171.out 4
           go_wp2
           refine bodyPost_ret (results_ct rfl _ _ gb171 148 #[.int .i64 5, .int .i64 a1, .string (a0.extract (a1 : Int).toNat ((wrap64 (a1 + 1)) : Int).toNat), .int .i64 0, .float .f64 0] (0, 0) _ rfl (by (with_reducible repeat (first | refine blk_drewN ?_ _ | refine blk_drew ?_ | refine blk_alloc ?_ _)); refine blk_put (cs := #[.int .i64 5, .int .i64 a1, .string (a0.extract (a1 : Int).toNat ((wrap64 (a1 + 1)) : Int).toNat), .int .i64 0, .float .f64 x172004_5]) ?_ 4 _ rfl; (with_reducible repeat (first | refine blk_drewN ?_ _ | refine blk_drew ?_ | refine blk_alloc ?_ _)); refine blk_put (cs := #[.int .i64 5, .int .i64 a1, .string (a0.extract (a1 : Int).toNat ((wrap64 (a1 + 1)) : Int).toNat), .int .i64 x172003_5, .float .f64 x172004_5]) ?_ 3 _ rfl; (with_reducible repeat (first | refine blk_drewN ?_ _ | refine blk_drew ?_ | refine blk_alloc ?_ _)); refine blk_put (cs := #[.int .i64 5, .int .i64 a1, .string x172002_5, .int .i64 x172003_5, .float .f64 x172004_5]) ?_ 2 _ rfl; (with_reducible repeat (first | refine blk_drewN ?_ _ | refine blk_drew ?_ | refine blk_alloc ?_ _)); refine blk_put (cs := #[.int .i64 5, .int .i64 x172001_5, .string x172002_5, .int .i64 x172003_5, .float .f64 x172004_5]) ?_ 1 _ rfl; (with_reducible repeat (first | refine blk_drewN ?_ _ | refine blk_drew ?_ | refine blk_alloc ?_ _)); refine blk_put (cs := #[.int .i64 x172000_5, .int .i64 x172001_5, .string x172002_5, .int .i64 x172003_5, .float .f64 x172004_5]) ?_ 0 _ rfl; (with_reducible repeat (first | refine blk_drewN ?_ _ | refine blk_drew ?_ | refine blk_alloc ?_ _)); exact BK171.out) Try.underlying148 rfl (by kernel_rfl)) rfl ?_
           exact ⟨by first | rfl | (simp [errW_none, errW_some] <;> rfl) | (simp [*, errW_none, errW_some] <;> rfl), by repeat (first | (with_reducible first | exact HB.out | apply below_alloc | apply pw_below_drewN | apply below_drew1 | refine below_set ?_ GE171.out) | exact HB.out)⟩
          ·rw [if_neg c54] at H
           exact absurd H (by simp)
         ·rw [if_neg c53] at H
          exact absurd H (by simp)
        ·rw [if_neg c52] at H
         exact absurd H (by simp)
       ·rw [if_neg c51] at H
        have c51b0 : ((bt a0 a1) == 40) = false := beq_eq_false_iff_ne.mpr c51
        have c51b1 : ((bt a0 a1) != 40) = true := bne_iff_ne.mpr c51
        by_cases c56 : (bt a0 a1) = 41
        ·rw [if_pos c56] at H
         have c56b0 : ((bt a0 a1) == 41) = true := beq_iff_eq.mpr c56
         have c56b1 : ((bt a0 a1) != 41) = false := bne_eq_false_iff_eq.mpr c56
         clear c56
         by_cases c57 : 0 ≤ a1
         ·rw [if_pos c57] at H
          have c57b0 := eq_true c57
          have c57b1 : decide (0 ≤ a1) = true := decide_eq_true c57
          clear c57
          by_cases c58 : a1 ≤ (wrap64 (a1 + 1))
          ·rw [if_pos c58] at H
           have c58b0 := eq_true c58
           have c58b1 : decide (a1 ≤ (wrap64 (a1 + 1))) = true := decide_eq_true c58
           by_cases c59 : (wrap64 (a1 + 1)) ≤ (a0.size : Int)
           ·rw [if_pos c59] at H
            have c59b0 := eq_true c59
            have c59b1 : decide ((wrap64 (a1 + 1)) ≤ (a0.size : Int)) = true := decide_eq_true c59
            simp only [Option.some.injEq, Prod.mk.injEq] at H
            obtain ⟨rfl, rfl, rfl, rfl, rfl, rfl⟩ := H
            have hcz60_0 : wc.cell? ⟨gb171, 0, none⟩ = some (.int .i64 x172000_5) := (blk_cell BK171.out 0).trans rfl
            have hcz60_1 : wc.cell? ⟨gb171, 1, none⟩ = some (.int .i64 x172001_5) := (blk_cell BK171.out 1).trans rfl
            have hcz60_2 : wc.cell? ⟨gb171, 2, none⟩ = some (.string x172002_5) := (blk_cell BK171.out 2).trans rfl
            have hcz60_3 : wc.cell? ⟨gb171, 3, none⟩ = some (.int .i64 x172003_5) := (blk_cell BK171.out 3).trans rfl
            have hcz60_4 : wc.cell? ⟨gb171, 4, none⟩ = some (.float .f64 x172004_5) := (blk_cell BK171.out 4).trans rfl
            have hfz60_0 := blk_frozen BK171.out 0
            have hfz60_1 := blk_frozen BK171.out 1
            have hfz60_2 := blk_frozen BK171.out 2
            have hfz60_3 := blk_frozen BK171.out 3
            have hfz60_4 := blk_frozen BK171.out 4
            go_wp2
            refine bodyPost_ret (results_ct rfl _ _ gb171 148 #[.int .i64 5, .int .i64 a1, .string (a0.extract (a1 : Int).toNat ((wrap64 (a1 + 1)) : Int).toNat), .int .i64 0, .float .f64 0] (0, 0) _ rfl (by (with_reducible repeat (first | refine blk_drewN ?_ _ | refine blk_drew ?_ | refine blk_alloc ?_ _)); refine blk_put (cs := #[.int .i64 5, .int .i64 a1, .string (a0.extract (a1 : Int).toNat ((wrap64 (a1 + 1)) : Int).toNat), .int .i64 0, .float .f64 x172004_5]) ?_ 4 _ rfl; (with_reducible repeat (first | refine blk_drewN ?_ _ | refine blk_drew ?_ | refine blk_alloc ?_ _)); refine blk_put (cs := #[.int .i64 5, .int .i64 a1, .string (a0.extract (a1 : Int).toNat ((wrap64 (a1 + 1)) : Int).toNat), .int .i64 x172003_5, .float .f64 x172004_5]) ?_ 3 _ rfl; (with_reducible repeat (first | refine blk_drewN ?_ _ | refine blk_drew ?_ | refine blk_alloc ?_ _)); refine blk_put (cs := #[.int .i64 5, .int .i64 a1, .string x172002_5, .int .i64 x172003_5, .float .f64 x172004_5]) ?_ 2 _ rfl; (with_reducible repeat (first | refine blk_drewN ?_ _ | refine blk_drew ?_ | refine blk_alloc ?_ _)); refine blk_put (cs := #[.int .i64 5, .int .i64 x172001_5, .string x172002_5, .int .i64 x172003_5, .float .f64 x172004_5]) ?_ 1 _ rfl; (with_reducible repeat (first | refine blk_drewN ?_ _ | refine blk_drew ?_ | refine blk_alloc ?_ _)); refine blk_put (cs := #[.int .i64 x172000_5, .int .i64 x172001_5, .string x172002_5, .int .i64 x172003_5, .float .f64 x172004_5]) ?_ 0 _ rfl; (with_reducible repeat (first | refine blk_drewN ?_ _ | refine blk_drew ?_ | refine blk_alloc ?_ _)); exact BK171.out) Try.underlying148 rfl (by kernel_rfl)) rfl ?_
            exact ⟨by first | rfl | (simp [errW_none, errW_some] <;> rfl) | (simp [*, errW_none, errW_some] <;> rfl), by repeat (first | (with_reducible first | exact HB.out | apply below_alloc | apply pw_below_drewN | apply below_drew1 | refine below_set ?_ GE171.out) | exact HB.out)⟩
           ·rw [if_neg c59] at H
            exact absurd H (by simp)
          ·rw [if_neg c58] at H
           exact absurd H (by simp)
         ·rw [if_neg c57] at H
          exact absurd H (by simp)
        ·rw [if_neg c56] at H
         have c56b0 : ((bt a0 a1) == 41) = false := beq_eq_false_iff_ne.mpr c56
         have c56b1 : ((bt a0 a1) != 41) = true := bne_iff_ne.mpr c56
         by_cases c61 : (bt a0 a1) = 59
         ·rw [if_pos c61] at H
          have c61b0 : ((bt a0 a1) == 59) = true := beq_iff_eq.mpr c61
          have c61b1 : ((bt a0 a1) != 59) = false := bne_eq_false_iff_eq.mpr c61
          clear c61
          by_cases c62 : 0 ≤ a1
          ·rw [if_pos c62] at H
           have c62b0 := eq_true c62
           have c62b1 : decide (0 ≤ a1) = true := decide_eq_true c62
           clear c62
           by_cases c63 : a1 ≤ (wrap64 (a1 + 1))
           ·rw [if_pos c63] at H
            have c63b0 := eq_true c63
            have c63b1 : decide (a1 ≤ (wrap64 (a1 + 1))) = true := decide_eq_true c63
            by_cases c64 : (wrap64 (a1 + 1)) ≤ (a0.size : Int)
            ·rw [if_pos c64] at H
             have c64b0 := eq_true c64
             have c64b1 : decide ((wrap64 (a1 + 1)) ≤ (a0.size : Int)) = true := decide_eq_true c64
             simp only [Option.some.injEq, Prod.mk.injEq] at H
             obtain ⟨rfl, rfl, rfl, rfl, rfl, rfl⟩ := H
             have hcz65_0 : wc.cell? ⟨gb171, 0, none⟩ = some (.int .i64 x172000_5) := (blk_cell BK171.out 0).trans rfl
             have hcz65_1 : wc.cell? ⟨gb171, 1, none⟩ = some (.int .i64 x172001_5) := (blk_cell BK171.out 1).trans rfl
             have hcz65_2 : wc.cell? ⟨gb171, 2, none⟩ = some (.string x172002_5) := (blk_cell BK171.out 2).trans rfl
             have hcz65_3 : wc.cell? ⟨gb171, 3, none⟩ = some (.int .i64 x172003_5) := (blk_cell BK171.out 3).trans rfl
             have hcz65_4 : wc.cell? ⟨gb171, 4, none⟩ = some (.float .f64 x172004_5) := (blk_cell BK171.out 4).trans rfl
             have hfz65_0 := blk_frozen BK171.out 0
             have hfz65_1 := blk_frozen BK171.out 1
             have hfz65_2 := blk_frozen BK171.out 2
             have hfz65_3 := blk_frozen BK171.out 3
             have hfz65_4 := blk_frozen BK171.out 4
             go_wp2
             refine bodyPost_ret (results_ct rfl _ _ gb171 148 #[.int .i64 5, .int .i64 a1, .string (a0.extract (a1 : Int).toNat ((wrap64 (a1 + 1)) : Int).toNat), .int .i64 0, .float .f64 0] (0, 0) _ rfl (by (with_reducible repeat (first | refine blk_drewN ?_ _ | refine blk_drew ?_ | refine blk_alloc ?_ _)); refine blk_put (cs := #[.int .i64 5, .int .i64 a1, .string (a0.extract (a1 : Int).toNat ((wrap64 (a1 + 1)) : Int).toNat), .int .i64 0, .float .f64 x172004_5]) ?_ 4 _ rfl; (with_reducible repeat (first | refine blk_drewN ?_ _ | refine blk_drew ?_ | refine blk_alloc ?_ _)); refine blk_put (cs := #[.int .i64 5, .int .i64 a1, .string (a0.extract (a1 : Int).toNat ((wrap64 (a1 + 1)) : Int).toNat), .int .i64 x172003_5, .float .f64 x172004_5]) ?_ 3 _ rfl; (with_reducible repeat (first | refine blk_drewN ?_ _ | refine blk_drew ?_ | refine blk_alloc ?_ _)); refine blk_put (cs := #[.int .i64 5, .int .i64 a1, .string x172002_5, .int .i64 x172003_5, .float .f64 x172004_5]) ?_ 2 _ rfl; (with_reducible repeat (first | refine blk_drewN ?_ _ | refine blk_drew ?_ | refine blk_alloc ?_ _)); refine blk_put (cs := #[.int .i64 5, .int .i64 x172001_5, .string x172002_5, .int .i64 x172003_5, .float .f64 x172004_5]) ?_ 1 _ rfl; (with_reducible repeat (first | refine blk_drewN ?_ _ | refine blk_drew ?_ | refine blk_alloc ?_ _)); refine blk_put (cs := #[.int .i64 x172000_5, .int .i64 x172001_5, .string x172002_5, .int .i64 x172003_5, .float .f64 x172004_5]) ?_ 0 _ rfl; (with_reducible repeat (first | refine blk_drewN ?_ _ | refine blk_drew ?_ | refine blk_alloc ?_ _)); exact BK171.out) Try.underlying148 rfl (by kernel_rfl)) rfl ?_
             exact ⟨by first | rfl | (simp [errW_none, errW_some] <;> rfl) | (simp [*, errW_none, errW_some] <;> rfl), by repeat (first | (with_reducible first | exact HB.out | apply below_alloc | apply pw_below_drewN | apply below_drew1 | refine below_set ?_ GE171.out) | exact HB.out)⟩
            ·rw [if_neg c64] at H
             exact absurd H (by simp)
           ·rw [if_neg c63] at H
            exact absurd H (by simp)
          ·rw [if_neg c62] at H
           exact absurd H (by simp)
         ·rw [if_neg c61] at H
          have c61b0 : ((bt a0 a1) == 59) = false := beq_eq_false_iff_ne.mpr c61
          have c61b1 : ((bt a0 a1) != 59) = true := bne_iff_ne.mpr c61
          by_cases c66 : (bt a0 a1) = 44
          ·rw [if_pos c66] at H
           have c66b0 : ((bt a0 a1) == 44) = true := beq_iff_eq.mpr c66
           have c66b1 : ((bt a0 a1) != 44) = false := bne_eq_false_iff_eq.mpr c66
           clear c66
           by_cases c67 : 0 ≤ a1
           ·rw [if_pos c67] at H
            have c67b0 := eq_true c67
            have c67b1 : decide (0 ≤ a1) = true := decide_eq_true c67
            clear c67
            by_cases c68 : a1 ≤ (wrap64 (a1 + 1))
            ·rw [if_pos c68] at H
             have c68b0 := eq_true c68
             have c68b1 : decide (a1 ≤ (wrap64 (a1 + 1))) = true := decide_eq_true c68
             by_cases c69 : (wrap64 (a1 + 1)) ≤ (a0.size : Int)
             ·rw [if_pos c69] at H
              have c69b0 := eq_true c69
              have c69b1 : decide ((wrap64 (a1 + 1)) ≤ (a0.size : Int)) = true := decide_eq_true c69
              simp only [Option.some.injEq, Prod.mk.injEq] at H
              obtain ⟨rfl, rfl, rfl, rfl, rfl, rfl⟩ := H
              have hcz70_0 : wc.cell? ⟨gb171, 0, none⟩ = some (.int .i64 x172000_5) := (blk_cell BK171.out 0).trans rfl
              have hcz70_1 : wc.cell? ⟨gb171, 1, none⟩ = some (.int .i64 x172001_5) := (blk_cell BK171.out 1).trans rfl
              have hcz70_2 : wc.cell? ⟨gb171, 2, none⟩ = some (.string x172002_5) := (blk_cell BK171.out 2).trans rfl
              have hcz70_3 : wc.cell? ⟨gb171, 3, none⟩ = some (.int .i64 x172003_5) := (blk_cell BK171.out 3).trans rfl
              have hcz70_4 : wc.cell? ⟨gb171, 4, none⟩ = some (.float .f64 x172004_5) := (blk_cell BK171.out 4).trans rfl
              have hfz70_0 := blk_frozen BK171.out 0
              have hfz70_1 := blk_frozen BK171.out 1
              have hfz70_2 := blk_frozen BK171.out 2
              have hfz70_3 := blk_frozen BK171.out 3
              have hfz70_4 := blk_frozen BK171.out 4
              go_wp2
              refine bodyPost_ret (results_ct rfl _ _ gb171 148 #[.int .i64 5, .int .i64 a1, .string (a0.extract (a1 : Int).toNat ((wrap64 (a1 + 1)) : Int).toNat), .int .i64 0, .float .f64 0] (0, 0) _ rfl (by (with_reducible repeat (first | refine blk_drewN ?_ _ | refine blk_drew ?_ | refine blk_alloc ?_ _)); refine blk_put (cs := #[.int .i64 5, .int .i64 a1, .string (a0.extract (a1 : Int).toNat ((wrap64 (a1 + 1)) : Int).toNat), .int .i64 0, .float .f64 x172004_5]) ?_ 4 _ rfl; (with_reducible repeat (first | refine blk_drewN ?_ _ | refine blk_drew ?_ | refine blk_alloc ?_ _)); refine blk_put (cs := #[.int .i64 5, .int .i64 a1, .string (a0.extract (a1 : Int).toNat ((wrap64 (a1 + 1)) : Int).toNat), .int .i64 x172003_5, .float .f64 x172004_5]) ?_ 3 _ rfl; (with_reducible repeat (first | refine blk_drewN ?_ _ | refine blk_drew ?_ | refine blk_alloc ?_ _)); refine blk_put (cs := #[.int .i64 5, .int .i64 a1, .string x172002_5, .int .i64 x172003_5, .float .f64 x172004_5]) ?_ 2 _ rfl; (with_reducible repeat (first | refine blk_drewN ?_ _ | refine blk_drew ?_ | refine blk_alloc ?_ _)); refine blk_put (cs := #[.int .i64 5, .int .i64 x172001_5, .string x172002_5, .int .i64 x172003_5, .float .f64 x172004_5]) ?_ 1 _ rfl; (with_reducible repeat (first | refine blk_drewN ?_ _ | refine blk_drew ?_ | refine blk_alloc ?_ _)); refine blk_put (cs := #[.int .i64 x172000_5, .int .i64 x172001_5, .string x172002_5, .int .i64 x172003_5, .float .f64 x172004_5]) ?_ 0 _ rfl; (with_reducible repeat (first | refine blk_drewN ?_ _ | refine blk_drew ?_ | refine blk_alloc ?_ _)); exact BK171.out) Try.underlying148 rfl (by kernel_rfl)) rfl ?_
              exact ⟨by first | rfl | (simp [errW_none, errW_some] <;> rfl) | (simp [*, errW_none, errW_some] <;> rfl), by repeat (first | (with_reducible first | exact HB.out | apply below_alloc | apply pw_below_drewN | apply below_drew1 | refine below_set ?_ GE171.out) | exact HB.out)⟩
             ·rw [if_neg c69] at H
              exact absurd H (by simp)
            ·rw [if_neg c68] at H
             exact absurd H (by simp)
           ·rw [if_neg c67] at H
            exact absurd H (by simp)
          ·rw [if_neg c66] at H
           have c66b0 : ((bt a0 a1) == 44) = false := beq_eq_false_iff_ne.mpr c66
           have c66b1 : ((bt a0 a1) != 44) = true := bne_iff_ne.mpr c66
           by_cases c71 : (bt a0 a1) = 46
           ·rw [if_pos c71] at H
            have c71b0 : ((bt a0 a1) == 46) = true := beq_iff_eq.mpr c71
            have c71b1 : ((bt a0 a1) != 46) = false := bne_eq_false_iff_eq.mpr c71
            clear c71
            by_cases c72 : 0 ≤ a1
            ·rw [if_pos c72] at H
             have c72b0 := eq_true c72
             have c72b1 : decide (0 ≤ a1) = true := decide_eq_true c72
             clear c72
             by_cases c73 : a1 ≤ (wrap64 (a1 + 1))
             ·rw [if_pos c73] at H
              have c73b0 := eq_true c73
              have c73b1 : decide (a1 ≤ (wrap64 (a1 + 1))) = true := decide_eq_true c73
              by_cases c74 : (wrap64 (a1 + 1)) ≤ (a0.size : Int)
              ·rw [if_pos c74] at H
               have c74b0 := eq_true c74
               have c74b1 : decide ((wrap64 (a1 + 1)) ≤ (a0.size : Int)) = true := decide_eq_true c74
               simp only [Option.some.injEq, Prod.mk.injEq] at H
               obtain ⟨rfl, rfl, rfl, rfl, rfl, rfl⟩ := H
               have hcz75_0 : wc.cell? ⟨gb171, 0, none⟩ = some (.int .i64 x172000_5) := (blk_cell BK171.out 0).trans rfl
               have hcz75_1 : wc.cell? ⟨gb171, 1, none⟩ = some (.int .i64 x172001_5) := (blk_cell BK171.out 1).trans rfl
               have hcz75_2 : wc.cell? ⟨gb171, 2, none⟩ = some (.string x172002_5) := (blk_cell BK171.out 2).trans rfl
               have hcz75_3 : wc.cell? ⟨gb171, 3, none⟩ = some (.int .i64 x172003_5) := (blk_cell BK171.out 3).trans rfl
               have hcz75_4 : wc.cell? ⟨gb171, 4, none⟩ = some (.float .f64 x172004_5) := (blk_cell BK171.out 4).trans rfl
               have hfz75_0 := blk_frozen BK171.out 0
               have hfz75_1 := blk_frozen BK171.out 1
               have hfz75_2 := blk_frozen BK171.out 2
               have hfz75_3 := blk_frozen BK171.out 3
               have hfz75_4 := blk_frozen BK171.out 4
               go_wp2
               refine bodyPost_ret (results_ct rfl _ _ gb171 148 #[.int .i64 5, .int .i64 a1, .string (a0.extract (a1 : Int).toNat ((wrap64 (a1 + 1)) : Int).toNat), .int .i64 0, .float .f64 0] (0, 0) _ rfl (by (with_reducible repeat (first | refine blk_drewN ?_ _ | refine blk_drew ?_ | refine blk_alloc ?_ _)); refine blk_put (cs := #[.int .i64 5, .int .i64 a1, .string (a0.extract (a1 : Int).toNat ((wrap64 (a1 + 1)) : Int).toNat), .int .i64 0, .float .f64 x172004_5]) ?_ 4 _ rfl; (with_reducible repeat (first | refine blk_drewN ?_ _ | refine blk_drew ?_ | refine blk_alloc ?_ _)); refine blk_put (cs := #[.int .i64 5, .int .i64 a1, .string (a0.extract (a1 : Int).toNat ((wrap64 (a1 + 1)) : Int).toNat), .int .i64 x172003_5, .float .f64 x172004_5]) ?_ 3 _ rfl; (with_reducible repeat (first | refine blk_drewN ?_ _ | refine blk_drew ?_ | refine blk_alloc ?_ _)); refine blk_put (cs := #[.int .i64 5, .int .i64 a1, .string x172002_5, .int .i64 x172003_5, .float .f64 x172004_5]) ?_ 2 _ rfl; (with_reducible repeat (first | refine blk_drewN ?_ _ | refine blk_drew ?_ | refine blk_alloc ?_ _)); refine blk_put (cs := #[.int .i64 5, .int .i64 x172001_5, .string x172002_5, .int .i64 x172003_5, .float .f64 x172004_5]) ?_ 1 _ rfl; (with_reducible repeat (first | refine blk_drewN ?_ _ | refine blk_drew ?_ | refine blk_alloc ?_ _)); refine blk_put (cs := #[.int .i64 x172000_5, .int .i64 x172001_5, .string x172002_5, .int .i64 x172003_5, .float .f64 x172004_5]) ?_ 0 _ rfl; (with_reducible repeat (first | refine blk_drewN ?_ _ | refine blk_drew ?_ | refine blk_alloc ?_ _)); exact BK171.out) Try.underlying148 rfl (by kernel_rfl)) rfl ?_
               exact ⟨by first | rfl | (simp [errW_none, errW_some] <;> rfl) | (simp [*, errW_none, errW_some] <;> rfl), by repeat (first | (with_reducible first | exact HB.out | apply below_alloc | apply pw_below_drewN | apply below_drew1 | refine below_set ?_ GE171.out) | exact HB.out)⟩
              ·rw [if_neg c74] at H
               exact absurd H (by simp)
             ·rw [if_neg c73] at H
              exact absurd H (by simp)
            ·rw [if_neg c72] at H
             exact absurd H (by simp)
           ·rw [if_neg c71] at H
            have c71b0 : ((bt a0 a1) == 46) = false := beq_eq_false_iff_ne.mpr c71
            have c71b1 : ((bt a0 a1) != 46) = true := bne_iff_ne.mpr c71
            by_cases c76 : (bt a0 a1) = 36
            ·rw [if_pos c76] at H
             have c76b0 : ((bt a0 a1) == 36) = true := beq_iff_eq.mpr c76
             have c76b1 : ((bt a0 a1) != 36) = false := bne_eq_false_iff_eq.mpr c76
             clear c76
             by_cases c77 : 0 ≤ a1
             ·rw [if_pos c77] at H
              have c77b0 := eq_true c77
              have c77b1 : decide (0 ≤ a1) = true := decide_eq_true c77
              clear c77
              by_cases c78 : a1 ≤ (wrap64 (a1 + 1))
              ·rw [if_pos c78] at H
               have c78b0 := eq_true c78
               have c78b1 : decide (a1 ≤ (wrap64 (a1 + 1))) = true := decide_eq_true c78
               by_cases c79 : (wrap64 (a1 + 1)) ≤ (a0.size : Int)
               ·rw [if_pos c79] at H
                have c79b0 := eq_true c79
                have c79b1 : decide ((wrap64 (a1 + 1)) ≤ (a0.size : Int)) = true := decide_eq_true c79
                simp only [Option.some.injEq, Prod.mk.injEq] at H
                obtain ⟨rfl, rfl, rfl, rfl, rfl, rfl⟩ := H
                have hcz80_0 : wc.cell? ⟨gb171, 0, none⟩ = some (.int .i64 x172000_5) := (blk_cell BK171.out 0).trans rfl
                have hcz80_1 : wc.cell? ⟨gb171, 1, none⟩ = some (.int .i64 x172001_5) := (blk_cell BK171.out 1).trans rfl
                have hcz80_2 : wc.cell? ⟨gb171, 2, none⟩ = some (.string x172002_5) := (blk_cell BK171.out 2).trans rfl
                have hcz80_3 : wc.cell? ⟨gb171, 3, none⟩ = some (.int .i64 x172003_5) := (blk_cell BK171.out 3).trans rfl
                have hcz80_4 : wc.cell? ⟨gb171, 4, none⟩ = some (.float .f64 x172004_5) := (blk_cell BK171.out 4).trans rfl
                have hfz80_0 := blk_frozen BK171.out 0
                have hfz80_1 := blk_frozen BK171.out 1
                have hfz80_2 := blk_frozen BK171.out 2
                have hfz80_3 := blk_frozen BK171.out 3
                have hfz80_4 := blk_frozen BK171.out 4
                go_wp2
                refine bodyPost_ret (results_ct rfl _ _ gb171 148 #[.int .i64 5, .int .i64 a1, .string (a0.extract (a1 : Int).toNat ((wrap64 (a1 + 1)) : Int).toNat), .int .i64 0, .float .f64 0] (0, 0) _ rfl (by (with_reducible repeat (first | refine blk_drewN ?_ _ | refine blk_drew ?_ | refine blk_alloc ?_ _)); refine blk_put (cs := #[.int .i64 5, .int .i64 a1, .string (a0.extract (a1 : Int).toNat ((wrap64 (a1 + 1)) : Int).toNat), .int .i64 0, .float .f64 x172004_5]) ?_ 4 _ rfl; (with_reducible repeat (first | refine blk_drewN ?_ _ | refine blk_drew ?_ | refine blk_alloc ?_ _)); refine blk_put (cs := #[.int .i64 5, .int .i64 a1, .string (a0.extract (a1 : Int).toNat ((wrap64 (a1 + 1)) : Int).toNat), .int .i64 x172003_5, .float .f64 x172004_5]) ?_ 3 _ rfl; (with_reducible repeat (first | refine blk_drewN ?_ _ | refine blk_drew ?_ | refine blk_alloc ?_ _)); refine blk_put (cs := #[.int .i64 5, .int .i64 a1, .string x172002_5, .int .i64 x172003_5, .float .f64 x172004_5]) ?_ 2 _ rfl; (with_reducible repeat (first | refine blk_drewN ?_ _ | refine blk_drew ?_ | refine blk_alloc ?_ _)); refine blk_put (cs := #[.int .i64 5, .int .i64 x172001_5, .string x172002_5, .int .i64 x172003_5, .float .f64 x172004_5]) ?_ 1 _ rfl; (with_reducible repeat (first | refine blk_drewN ?_ _ | refine blk_drew ?_ | refine blk_alloc ?_ _)); refine blk_put (cs := #[.int .i64 x172000_5, .int .i64 x172001_5, .string x172002_5, .int .i64 x172003_5, .float .f64 x172004_5]) ?_ 0 _ rfl; (with_reducible repeat (first | refine blk_drewN ?_ _ | refine blk_drew ?_ | refine blk_alloc ?_ _)); exact BK171.out) Try.underlying148 rfl (by kernel_rfl)) rfl ?_
                exact ⟨by first | rfl | (simp [errW_none, errW_some] <;> rfl) | (simp [*, errW_none, errW_some] <;> rfl), by repeat (first | (with_reducible first | exact HB.out | apply below_alloc | apply pw_below_drewN | apply below_drew1 | refine below_set ?_ GE171.out) | exact HB.out)⟩
               ·rw [if_neg c79] at H
                exact absurd H (by simp)
              ·rw [if_neg c78] at H
               exact absurd H (by simp)
             ·rw [if_neg c77] at H
              exact absurd H (by simp)
            ·rw [if_neg c76] at H
             have c76b0 : ((bt a0 a1) == 36) = false := beq_eq_false_iff_ne.mpr c76
             have c76b1 : ((bt a0 a1) != 36) = true := bne_iff_ne.mpr c76
             by_cases c81 : (bt a0 a1) = 61
             ·rw [if_pos c81] at H
              have c81b0 : ((bt a0 a1) == 61) = true := beq_iff_eq.mpr c81
              have c81b1 : ((bt a0 a1) != 61) = false := bne_eq_false_iff_eq.mpr c81
              clear c81
              by_cases c82 : 0 ≤ a1
              ·rw [if_pos c82] at H
               have c82b0 := eq_true c82
               have c82b1 : decide (0 ≤ a1) = true := decide_eq_true c82
               clear c82
               by_cases c83 : a1 ≤ (wrap64 (a1 + 1))
               ·rw [if_pos c83] at H
                have c83b0 := eq_true c83
                have c83b1 : decide (a1 ≤ (wrap64 (a1 + 1))) = true := decide_eq_true c83
                by_cases c84 : (wrap64 (a1 + 1)) ≤ (a0.size : Int)
                ·rw [if_pos c84] at H
                 have c84b0 := eq_true c84
                 have c84b1 : decide ((wrap64 (a1 + 1)) ≤ (a0.size : Int)) = true := decide_eq_true c84
                 simp only [Option.some.injEq, Prod.mk.injEq] at H
                 obtain ⟨rfl, rfl, rfl, rfl, rfl, rfl⟩ := H
                 have hcz85_0 : wc.cell? ⟨gb171, 0, none⟩ = some (.int .i64 x172000_5) := (blk_cell BK171.out 0).trans rfl
                 have hcz85_1 : wc.cell? ⟨gb171, 1, none⟩ = some (.int .i64 x172001_5) := (blk_cell BK171.out 1).trans rfl
                 have hcz85_2 : wc.cell? ⟨gb171, 2, none⟩ = some (.string x172002_5) := (blk_cell BK171.out 2).trans rfl
                 have hcz85_3 : wc.cell? ⟨gb171, 3, none⟩ = some (.int .i64 x172003_5) := (blk_cell BK171.out 3).trans rfl
                 have hcz85_4 : wc.cell? ⟨gb171, 4, none⟩ = some (.float .f64 x172004_5) := (blk_cell BK171.out 4).trans rfl
                 have hfz85_0 := blk_frozen BK171.out 0
                 have hfz85_1 := blk_frozen BK171.out 1
                 have hfz85_2 := blk_frozen BK171.out 2
                 have hfz85_3 := blk_frozen BK171.out 3
                 have hfz85_4 := blk_frozen BK171.out 4
                 go_wp2
                 refine bodyPost_ret (results_ct rfl _ _ gb171 148 #[.int .i64 5, .int .i64 a1, .string (a0.extract (a1 : Int).toNat ((wrap64 (a1 + 1)) : Int).toNat), .int .i64 0, .float .f64 0] (0, 0) _ rfl (by (with_reducible repeat (first | refine blk_drewN ?_ _ | refine blk_drew ?_ | refine blk_alloc ?_ _)); refine blk_put (cs := #[.int .i64 5, .int .i64 a1, .string (a0.extract (a1 : Int).toNat ((wrap64 (a1 + 1)) : Int).toNat), .int .i64 0, .float .f64 x172004_5]) ?_ 4 _ rfl; (with_reducible repeat (first | refine blk_drewN ?_ _ | refine blk_drew ?_ | refine blk_alloc ?_ _)); refine blk_put (cs := #[.int .i64 5, .int .i64 a1, .string (a0.extract (a1 : Int).toNat ((wrap64 (a1 + 1)) : Int).toNat), .int .i64 x172003_5, .float .f64 x172004_5]) ?_ 3 _ rfl; (with_reducible repeat (first | refine blk_drewN ?_ _ | refine blk_drew ?_ | refine blk_alloc ?_ _)); refine blk_put (cs := #[.int .i64 5, .int .i64 a1, .string x172002_5, .int .i64 x172003_5, .float .f64 x172004_5]) ?_ 2 _ rfl; (with_reducible repeat (first | refine blk_drewN ?_ _ | refine blk_drew ?_ | refine blk_alloc ?_ _)); refine blk_put (cs := #[.int .i64 5, .int .i64 x172001_5, .string x172002_5, .int .i64 x172003_5, .float .f64 x172004_5]) ?_ 1 _ rfl; (with_reducible repeat (first | refine blk_drewN ?_ _ | refine blk_drew ?_ | refine blk_alloc ?_ _)); refine blk_put (cs := #[.int .i64 x172000_5, .int .i64 x172001_5, .string x172002_5, .int .i64 x172003_5, .float .f64 x172004_5]) ?_ 0 _ rfl; (with_reducible repeat (first | refine blk_drewN ?_ _ | refine blk_drew ?_ | refine blk_alloc ?_ _)); exact BK171.out) Try.underlying148 rfl (by kernel_rfl)) rfl ?_
                 exact ⟨by first | rfl | (simp [errW_none, errW_some] <;> rfl) | (simp [*, errW_none, errW_some] <;> rfl), by repeat (first | (with_reducible first | exact HB.out | apply below_alloc | apply pw_below_drewN | apply below_drew1 | refine below_set ?_ GE171.out) | exact HB.out)⟩
                ·rw [if_neg c84] at H
                 exact absurd H (by simp)
               ·rw [if_neg c83] at H
                exact absurd H (by simp)
              ·rw [if_neg c82] at H
               exact absurd H (by simp)
             ·rw [if_neg c81] at H
              have c81b0 : ((bt a0 a1) == 61) = false := beq_eq_false_iff_ne.mpr c81
              have c81b1 : ((bt a0 a1) != 61) = true := bne_iff_ne.mpr c81
              by_cases c86 : (bt a0 a1) = 43
              ·rw [if_pos c86] at H
               have c86b0 : ((bt a0 a1) == 43) = true := beq_iff_eq.mpr c86
               have c86b1 : ((bt a0 a1) != 43) = false := bne_eq_false_iff_eq.mpr c86
               clear c86
               by_cases c87 : 0 ≤ a1
               ·rw [if_pos c87] at H
                have c87b0 := eq_true c87
                have c87b1 : decide (0 ≤ a1) = true := decide_eq_true c87
                clear c87
                by_cases c88 : a1 ≤ (wrap64 (a1 + 1))
                ·rw [if_pos c88] at H
                 have c88b0 := eq_true c88
                 have c88b1 : decide (a1 ≤ (wrap64 (a1 + 1))) = true := decide_eq_true c88
                 by_cases c89 : (wrap64 (a1 + 1)) ≤ (a0.size : Int)
                 ·rw [if_pos c89] at H
                  have c89b0 := eq_true c89
                  have c89b1 : decide ((wrap64 (a1 + 1)) ≤ (a0.size : Int)) = true := decide_eq_true c89
                  simp only [Option.some.injEq, Prod.mk.injEq] at H
                  obtain ⟨rfl, rfl, rfl, rfl, rfl, rfl⟩ := H
                  have hcz90_0 : wc.cell? ⟨gb171, 0, none⟩ = some (.int .i64 x172000_5) := (blk_cell BK171.out 0).trans rfl
                  have hcz90_1 : wc.cell? ⟨gb171, 1, none⟩ = some (.int .i64 x172001_5) := (blk_cell BK171.out 1).trans rfl
                  have hcz90_2 : wc.cell? ⟨gb171, 2, none⟩ = some (.string x172002_5) := (blk_cell BK171.out 2).trans rfl
                  have hcz90_3 : wc.cell? ⟨gb171, 3, none⟩ = some (.int .i64 x172003_5) := (blk_cell BK171.out 3).trans rfl
                  have hcz90_4 : wc.cell? ⟨gb171, 4, none⟩ = some (.float .f64 x172004_5) := (blk_cell BK171.out 4).trans rfl
                  have hfz90_0 := blk_frozen BK171.out 0
                  have hfz90_1 := blk_frozen BK171.out 1
                  have hfz90_2 := blk_frozen BK171.out 2
                  have hfz90_3 := blk_frozen BK171.out 3
                  have hfz90_4 := blk_frozen BK171.out 4
                  go_wp2
                  refine bodyPost_ret (results_ct rfl _ _ gb171 148 #[.int .i64 5, .int .i64 a1, .string (a0.extract (a1 : Int).toNat ((wrap64 (a1 + 1)) : Int).toNat), .int .i64 0, .float .f64 0] (0, 0) _ rfl (by (with_reducible repeat (first | refine blk_drewN ?_ _ | refine blk_drew ?_ | refine blk_alloc ?_ _)); refine blk_put (cs := #[.int .i64 5, .int .i64 a1, .string (a0.extract (a1 : Int).toNat ((wrap64 (a1 + 1)) : Int).toNat), .int .i64 0, .float .f64 x172004_5]) ?_ 4 _ rfl; (with_reducible repeat (first | refine blk_drewN ?_ _ | refine blk_drew ?_ | refine blk_alloc ?_ _)); refine blk_put (cs := #[.int .i64 5, .int .i64 a1, .string (a0.extract (a1 : Int).toNat ((wrap64 (a1 + 1)) : Int).toNat), .int .i64 x172003_5, .float .f64 x172004_5]) ?_ 3 _ rfl; (with_reducible repeat (first | refine blk_drewN ?_ _ | refine blk_drew ?_ | refine blk_alloc ?_ _)); refine blk_put (cs := #[.int .i64 5, .int .i64 a1, .string x172002_5, .int .i64 x172003_5, .float .f64 x172004_5]) ?_ 2 _ rfl; (with_reducible repeat (first | refine blk_drewN ?_ _ | refine blk_drew ?_ | refine blk_alloc ?_ _)); refine blk_put (cs := #[.int .i64 5, .int .i64 x172001_5, .string x172002_5, .int .i64 x172003_5, .float .f64 x172004_5]) ?_ 1 _ rfl; (with_reducible repeat (first | refine blk_drewN ?_ _ | refine blk_drew ?_ | refine blk_alloc ?_ _)); refine blk_put (cs := #[.int .i64 x172000_5, .int .i64 x172001_5, .string x172002_5, .int .i64 x172003_5, .float .f64 x172004_5]) ?_ 0 _ rfl; (with_reducible repeat (first | refine blk_drewN ?_ _ | refine blk_drew ?_ | refine blk_alloc ?_ _)); exact BK171.out) Try.underlying148 rfl (by kernel_rfl)) rfl ?_
                  exact ⟨by first | rfl | (simp [errW_none, errW_some] <;> rfl) | (simp [*, errW_none, errW_some] <;> rfl), by repeat (first | (with_reducible first | exact HB.out | apply below_alloc | apply pw_below_drewN | apply below_drew1 | refine below_set ?_ GE171.out) | exact HB.out)⟩
                 ·rw [if_neg c89] at H
                  exact absurd H (by simp)
                ·rw [if_neg c88] at H
                 exact absurd H (by simp)
               ·rw [if_neg c87] at H
                exact absurd H (by simp)
              ·rw [if_neg c86] at H
               have c86b0 : ((bt a0 a1) == 43) = false := beq_eq_false_iff_ne.mpr c86
               have c86b1 : ((bt a0 a1) != 43) = true := bne_iff_ne.mpr c86
               by_cases c91 : (bt a0 a1) = 45
               ·rw [if_pos c91] at H
                have c91b0 : ((bt a0 a1) == 45) = true := beq_iff_eq.mpr c91
                have c91b1 : ((bt a0 a1) != 45) = false := bne_eq_false_iff_eq.mpr c91
                clear c91
                by_cases c92 : 0 ≤ a1
                ·rw [if_pos c92] at H
                 have c92b0 := eq_true c92
                 have c92b1 : decide (0 ≤ a1) = true := decide_eq_true c92
                 clear c92
                 by_cases c93 : a1 ≤ (wrap64 (a1 + 1))
                 ·rw [if_pos c93] at H
                  have c93b0 := eq_true c93
                  have c93b1 : decide (a1 ≤ (wrap64 (a1 + 1))) = true := decide_eq_true c93
                  by_cases c94 : (wrap64 (a1 + 1)) ≤ (a0.size : Int)
                  ·rw [if_pos c94] at H
                   have c94b0 := eq_true c94
                   have c94b1 : decide ((wrap64 (a1 + 1)) ≤ (a0.size : Int)) = true := decide_eq_true c94
                   simp only [Option.some.injEq, Prod.mk.injEq] at H
                   obtain ⟨rfl, rfl, rfl, rfl, rfl, rfl⟩ := H
                   have hcz95_0 : wc.cell? ⟨gb171, 0, none⟩ = some (.int .i64 x172000_5) := (blk_cell BK171.out 0).trans rfl
                   have hcz95_1 : wc.cell? ⟨gb171, 1, none⟩ = some (.int .i64 x172001_5) := (blk_cell BK171.out 1).trans rfl
                   have hcz95_2 : wc.cell? ⟨gb171, 2, none⟩ = some (.string x172002_5) := (blk_cell BK171.out 2).trans rfl
                   have hcz95_3 : wc.cell? ⟨gb171, 3, none⟩ = some (.int .i64 x172003_5) := (blk_cell BK171.out 3).trans rfl
                   have hcz95_4 : wc.cell? ⟨gb171, 4, none⟩ = some (.float .f64 x172004_5) := (blk_cell BK171.out 4).trans rfl
                   have hfz95_0 := blk_frozen BK171.out 0
                   have hfz95_1 := blk_frozen BK171.out 1
                   have hfz95_2 := blk_frozen BK171.out 2
                   have hfz95_3 := blk_frozen BK171.out 3
                   have hfz95_4 := blk_frozen BK171.out 4
                   go_wp2
                   refine bodyPost_ret (results_ct rfl _ _ gb171 148 #[.int .i64 5, .int .i64 a1, .string (a0.extract (a1 : Int).toNat ((wrap64 (a1 + 1)) : Int).toNat), .int .i64 0, .float .f64 0] (0, 0) _ rfl (by (with_reducible repeat (first | refine blk_drewN ?_ _ | refine blk_drew ?_ | refine blk_alloc ?_ _)); refine blk_put (cs := #[.int .i64 5, .int .i64 a1, .string (a0.extract (a1 : Int).toNat ((wrap64 (a1 + 1)) : Int).toNat), .int .i64 0, .float .f64 x172004_5]) ?_ 4 _ rfl; (with_reducible repeat (first | refine blk_drewN ?_ _ | refine blk_drew ?_ | refine blk_alloc ?_ _)); refine blk_put (cs := #[.int .i64 5, .int .i64 a1, .string (a0.extract (a1 : Int).toNat ((wrap64 (a1 + 1)) : Int).toNat), .int .i64 x172003_5, .float .f64 x172004_5]) ?_ 3 _ rfl; (with_reducible repeat (first | refine blk_drewN ?_ _ | refine blk_drew ?_ | refine blk_alloc ?_ _)); refine blk_put (cs := #[.int .i64 5, .int .i64 a1, .string x172002_5, .int .i64 x172003_5, .float .f64 x172004_5]) ?_ 2 _ rfl; (with_reducible repeat (first | refine blk_drewN ?_ _ | refine blk_drew ?_ | refine blk_alloc ?_ _)); refine blk_put (cs := #[.int .i64 5, .int .i64 x172001_5, .string x172002_5, .int .i64 x172003_5, .float .f64 x172004_5]) ?_ 1 _ rfl; (with_reducible repeat (first | refine blk_drewN ?_ _ | refine blk_drew ?_ | refine blk_alloc ?_ _)); refine blk_put (cs := #[.int .i64 x172000_5, .int .i64 x172001_5, .string x172002_5, .int .i64 x172003_5, .float .f64 x172004_5]) ?_ 0 _ rfl; (with_reducible repeat (first | refine blk_drewN ?_ _ | refine blk_drew ?_ | refine blk_alloc ?_ _)); exact BK171.out) Try.underlying148 rfl (by kernel_rfl)) rfl ?_
                   exact ⟨by first | rfl | (simp [errW_none, errW_some] <;> rfl) | (simp [*, errW_none, errW_some] <;> rfl), by repeat (first | (with_reducible first | exact HB.out | apply below_alloc | apply pw_below_drewN | apply below_drew1 | refine below_set ?_ GE171.out) | exact HB.out)⟩
                  ·rw [if_neg c94] at H
                   exact absurd H (by simp)
                 ·rw [if_neg c93] at H
                  exact absurd H (by simp)
                ·rw [if_neg c92] at H
                 exact absurd H (by simp)
               ·rw [if_neg c91] at H
                have c91b0 : ((bt a0 a1) == 45) = false := beq_eq_false_iff_ne.mpr c91
                have c91b1 : ((bt a0 a1) != 45) = true := bne_iff_ne.mpr c91
                by_cases c96 : (bt a0 a1) = 42
                ·rw [if_pos c96] at H
                 have c96b0 : ((bt a0 a1) == 42) = true := beq_iff_eq.mpr c96
                 have c96b1 : ((bt a0 a1) != 42) = false := bne_eq_false_iff_eq.mpr c96
                 clear c96
                 by_cases c97 : 0 ≤ a1
                 ·rw [if_pos c97] at H
                  have c97b0 := eq_true c97
                  have c97b1 : decide (0 ≤ a1) = true := decide_eq_true c97
                  clear c97
                  by_cases c98 : a1 ≤ (wrap64 (a1 + 1))
                  ·rw [if_pos c98] at H
                   have c98b0 := eq_true c98
                   have c98b1 : decide (a1 ≤ (wrap64 (a1 + 1))) = true := decide_eq_true c98
                   by_cases c99 : (wrap64 (a1 + 1)) ≤ (a0.size : Int)
                   ·rw [if_pos c99] at H
                    have c99b0 := eq_true c99
                    have c99b1 : decide ((wrap64 (a1 + 1)) ≤ (a0.size : Int)) = true := decide_eq_true c99
                    simp only [Option.some.injEq, Prod.mk.injEq] at H
                    obtain ⟨rfl, rfl, rfl, rfl, rfl, rfl⟩ := H
                    have hcz100_0 : wc.cell? ⟨gb171, 0, none⟩ = some (.int .i64 x172000_5) := (blk_cell BK171.out 0).trans rfl
                    have hcz100_1 : wc.cell? ⟨gb171, 1, none⟩ = some (.int .i64 x172001_5) := (blk_cell BK171.out 1).trans rfl
                    have hcz100_2 : wc.cell? ⟨gb171, 2, none⟩ = some (.string x172002_5) := (blk_cell BK171.out 2).trans rfl
                    have hcz100_3 : wc.cell? ⟨gb171, 3, none⟩ = some (.int .i64 x172003_5) := (blk_cell BK171.out 3).trans rfl
                    have hcz100_4 : wc.cell? ⟨gb171, 4, none⟩ = some (.float .f64 x172004_5) := (blk_cell BK171.out 4).trans rfl
                    have hfz100_0 := blk_frozen BK171.out 0
                    have hfz100_1 := blk_frozen BK171.out 1
                    have hfz100_2 := blk_frozen BK171.out 2
                    have hfz100_3 := blk_frozen BK171.out 3
                    have hfz100_4 := blk_frozen BK171.out 4
                    go_wp2
                    refine bodyPost_ret (results_ct rfl _ _ gb171 148 #[.int .i64 5, .int .i64 a1, .string (a0.extract (a1 : Int).toNat ((wrap64 (a1 + 1)) : Int).toNat), .int .i64 0, .float .f64 0] (0, 0) _ rfl (by (with_reducible repeat (first | refine blk_drewN ?_ _ | refine blk_drew ?_ | refine blk_alloc ?_ _)); refine blk_put (cs := #[.int .i64 5, .int .i64 a1, .string (a0.extract (a1 : Int).toNat ((wrap64 (a1 + 1)) : Int).toNat), .int .i64 0, .float .f64 x172004_5]) ?_ 4 _ rfl; (with_reducible repeat (first | refine blk_drewN ?_ _ | refine blk_drew ?_ | refine blk_alloc ?_ _)); refine blk_put (cs := #[.int .i64 5, .int .i64 a1, .string (a0.extract (a1 : Int).toNat ((wrap64 (a1 + 1)) : Int).toNat), .int .i64 x172003_5, .float .f64 x172004_5]) ?_ 3 _ rfl; (with_reducible repeat (first | refine blk_drewN ?_ _ | refine blk_drew ?_ | refine blk_alloc ?_ _)); refine blk_put (cs := #[.int .i64 5, .int .i64 a1, .string x172002_5, .int .i64 x172003_5, .float .f64 x172004_5]) ?_ 2 _ rfl; (with_reducible repeat (first | refine blk_drewN ?_ _ | refine blk_drew ?_ | refine blk_alloc ?_ _)); refine blk_put (cs := #[.int .i64 5, .int .i64 x172001_5, .string x172002_5, .int .i64 x172003_5, .float .f64 x172004_5]) ?_ 1 _ rfl; (with_reducible repeat (first | refine blk_drewN ?_ _ | refine blk_drew ?_ | refine blk_alloc ?_ _)); refine blk_put (cs := #[.int .i64 x172000_5, .int .i64 x172001_5, .string x172002_5, .int .i64 x172003_5, .float .f64 x172004_5]) ?_ 0 _ rfl; (with_reducible repeat (first | refine blk_drewN ?_ _ | refine blk_drew ?_ | refine blk_alloc ?_ _)); exact BK171.out) Try.underlying148 rfl (by kernel_rfl)) rfl ?_
                    exact ⟨by first | rfl | (simp [errW_none, errW_some] <;> rfl) | (simp [*, errW_none, errW_some] <;> rfl), by repeat (first | (with_reducible first | exact HB.out | apply below_alloc | apply pw_below_drewN | apply below_drew1 | refine below_set ?_ GE171.out) | exact HB.out)⟩
                   ·rw [if_neg c99] at H
                    exact absurd H (by simp)
                  ·rw [if_neg c98] at H
                   exact absurd H (by simp)
                 ·rw [if_neg c97] at H
                  exact absurd H (by simp)
                ·rw [if_neg c96] at H
                 have c96b0 : ((bt a0 a1) == 42) = false := beq_eq_false_iff_ne.mpr c96
                 have c96b1 : ((bt a0 a1) != 42) = true := bne_iff_ne.mpr c96
                 by_cases c101 : (bt a0 a1) = 47
                 ·rw [if_pos c101] at H
                  have c101b0 : ((bt a0 a1) == 47) = true := beq_iff_eq.mpr c101
                  have c101b1 : ((bt a0 a1) != 47) = false := bne_eq_false_iff_eq.mpr c101
                  clear c101
                  by_cases c102 : 0 ≤ a1
                  ·rw [if_pos c102] at H
                   have c102b0 := eq_true c102
                   have c102b1 : decide (0 ≤ a1) = true := decide_eq_true c102
                   clear c102
                   by_cases c103 : a1 ≤ (wrap64 (a1 + 1))
                   ·rw [if_pos c103] at H
                    have c103b0 := eq_true c103
                    have c103b1 : decide (a1 ≤ (wrap64 (a1 + 1))) = true := decide_eq_true c103
                    by_cases c104 : (wrap64 (a1 + 1)) ≤ (a0.size : Int)
                    ·rw [if_pos c104] at H
                     have c104b0 := eq_true c104
                     have c104b1 : decide ((wrap64 (a1 + 1)) ≤ (a0.size : Int)) = true := decide_eq_true c104
                     simp only [Option.some.injEq, Prod.mk.injEq] at H
                     obtain ⟨rfl, rfl, rfl, rfl, rfl, rfl⟩ := H
                     have hcz105_0 : wc.cell? ⟨gb171, 0, none⟩ = some (.int .i64 x172000_5) := (blk_cell BK171.out 0).trans rfl
                     have hcz105_1 : wc.cell? ⟨gb171, 1, none⟩ = some (.int .i64 x172001_5) := (blk_cell BK171.out 1).trans rfl
                     have hcz105_2 : wc.cell? ⟨gb171, 2, none⟩ = some (.string x172002_5) := (blk_cell BK171.out 2).trans rfl
                     have hcz105_3 : wc.cell? ⟨gb171, 3, none⟩ = some (.int .i64 x172003_5) := (blk_cell BK171.out 3).trans rfl
                     have hcz105_4 : wc.cell? ⟨gb171, 4, none⟩ = some (.float .f64 x172004_5) := (blk_cell BK171.out 4).trans rfl
                     have hfz105_0 := blk_frozen BK171.out 0
                     have hfz105_1 := blk_frozen BK171.out 1
                     have hfz105_2 := blk_frozen BK171.out 2
                     have hfz105_3 := blk_frozen BK171.out 3
                     have hfz105_4 := blk_frozen BK171.out 4
                     go_wp2
                     refine bodyPost_ret (results_ct rfl _ _ gb171 148 #[.int .i64 5, .int .i64 a1, .string (a0.extract (a1 : Int).toNat ((wrap64 (a1 + 1)) : Int).toNat), .int .i64 0, .float .f64 0] (0, 0) _ rfl (by (with_reducible repeat (first | refine blk_drewN ?_ _ | refine blk_drew ?_ | refine blk_alloc ?_ _)); refine blk_put (cs := #[.int .i64 5, .int .i64 a1, .string (a0.extract (a1 : Int).toNat ((wrap64 (a1 + 1)) : Int).toNat), .int .i64 0, .float .f64 x172004_5]) ?_ 4 _ rfl; (with_reducible repeat (first | refine blk_drewN ?_ _ | refine blk_drew ?_ | refine blk_alloc ?_ _)); refine blk_put (cs := #[.int .i64 5, .int .i64 a1, .string (a0.extract (a1 : Int).toNat ((wrap64 (a1 + 1)) : Int).toNat), .int .i64 x172003_5, .float .f64 x172004_5]) ?_ 3 _ rfl; (with_reducible repeat (first | refine blk_drewN ?_ _ | refine blk_drew ?_ | refine blk_alloc ?_ _)); refine blk_put (cs := #[.int .i64 5, .int .i64 a1, .string x172002_5, .int .i64 x172003_5, .float .f64 x172004_5]) ?_ 2 _ rfl; (with_reducible repeat (first | refine blk_drewN ?_ _ | refine blk_drew ?_ | refine blk_alloc ?_ _)); refine blk_put (cs := #[.int .i64 5, .int .i64 x172001_5, .string x172002_5, .int .i64 x172003_5, .float .f64 x172004_5]) ?_ 1 _ rfl; (with_reducible repeat (first | refine blk_drewN ?_ _ | refine blk_drew ?_ | refine blk_alloc ?_ _)); refine blk_put (cs := #[.int .i64 x172000_5, .int .i64 x172001_5, .string x172002_5, .int .i64 x172003_5, .float .f64 x172004_5]) ?_ 0 _ rfl; (with_reducible repeat (first | refine blk_drewN ?_ _ | refine blk_drew ?_ | refine blk_alloc ?_ _)); exact BK171.out) Try.underlying148 rfl (by kernel_rfl)) rfl ?_
                     exact ⟨by first | rfl | (simp [errW_none, errW_some] <;> rfl) | (simp [*, errW_none, errW_some] <;> rfl), by repeat (first | (with_reducible first | exact HB.out | apply below_alloc | apply pw_below_drewN | apply below_drew1 | refine below_set ?_ GE171.out) | exact HB.out)⟩
                    ·rw [if_neg c104] at H
                     exact absurd H (by simp)
                   ·rw [if_neg c103] at H
                    exact absurd H (by simp)
                  ·rw [if_neg c102] at H
                   exact absurd H (by simp)
                 ·rw [if_neg c101] at H
                  have c101b0 : ((bt a0 a1) == 47) = false := beq_eq_false_iff_ne.mpr c101
                  have c101b1 : ((bt a0 a1) != 47) = true := bne_iff_ne.mpr c101
                  by_cases c106 : (bt a0 a1) = 37
                  ·rw [if_pos c106] at H
                   have c106b0 : ((bt a0 a1) == 37) = true := beq_iff_eq.mpr c106
                   have c106b1 : ((bt a0 a1) != 37) = false := bne_eq_false_iff_eq.mpr c106
                   clear c106
                   by_cases c107 : 0 ≤ a1
                   ·rw [if_pos c107] at H
                    have c107b0 := eq_true c107
                    have c107b1 : decide (0 ≤ a1) = true := decide_eq_true c107
                    clear c107
                    by_cases c108 : a1 ≤ (wrap64 (a1 + 1))
                    ·rw [if_pos c108] at H
                     have c108b0 := eq_true c108
                     have c108b1 : decide (a1 ≤ (wrap64 (a1 + 1))) = true := decide_eq_true c108
                     by_cases c109 : (wrap64 (a1 + 1)) ≤ (a0.size : Int)
                     ·rw [if_pos c109] at H
                      have c109b0 := eq_true c109
                      have c109b1 : decide ((wrap64 (a1 + 1)) ≤ (a0.size : Int)) = true := decide_eq_true c109
                      simp only [Option.some.injEq, Prod.mk.injEq] at H
                      obtain ⟨rfl, rfl, rfl, rfl, rfl, rfl⟩ := H
                      have hcz110_0 : wc.cell? ⟨gb171, 0, none⟩ = some (.int .i64 x172000_5) := (blk_cell BK171.out 0).trans rfl
                      have hcz110_1 : wc.cell? ⟨gb171, 1, none⟩ = some (.int .i64 x172001_5) := (blk_cell BK171.out 1).trans rfl
                      have hcz110_2 : wc.cell? ⟨gb171, 2, none⟩ = some (.string x172002_5) := (blk_cell BK171.out 2).trans rfl
                      have hcz110_3 : wc.cell? ⟨gb171, 3, none⟩ = some (.int .i64 x172003_5) := (blk_cell BK171.out 3).trans rfl
                      have hcz110_4 : wc.cell? ⟨gb171, 4, none⟩ = some (.float .f64 x172004_5) := (blk_cell BK171.out 4).trans rfl
                      have hfz110_0 := blk_frozen BK171.out 0
                      have hfz110_1 := blk_frozen BK171.out 1
                      have hfz110_2 := blk_frozen BK171.out 2
                      have hfz110_3 := blk_frozen BK171.out 3
                      have hfz110_4 := blk_frozen BK171.out 4
                      go_wp2
                      refine bodyPost_ret (results_ct rfl _ _ gb171 148 #[.int .i64 5, .int .i64 a1, .string (a0.extract (a1 : Int).toNat ((wrap64 (a1 + 1)) : Int).toNat), .int .i64 0, .float .f64 0] (0, 0) _ rfl (by (with_reducible repeat (first | refine blk_drewN ?_ _ | refine blk_drew ?_ | refine blk_alloc ?_ _)); refine blk_put (cs := #[.int .i64 5, .int .i64 a1, .string (a0.extract (a1 : Int).toNat ((wrap64 (a1 + 1)) : Int).toNat), .int .i64 0, .float .f64 x172004_5]) ?_ 4 _ rfl; (with_reducible repeat (first | refine blk_drewN ?_ _ | refine blk_drew ?_ | refine blk_alloc ?_ _)); refine blk_put (cs := #[.int .i64 5, .int .i64 a1, .string (a0.extract (a1 : Int).toNat ((wrap64 (a1 + 1)) : Int).toNat), .int .i64 x172003_5, .float .f64 x172004_5]) ?_ 3 _ rfl; (with_reducible repeat (first | refine blk_drewN ?_ _ | refine blk_drew ?_ | refine blk_alloc ?_ _)); refine blk_put (cs := #[.int .i64 5, .int .i64 a1, .string x172002_5, .int .i64 x172003_5, .float .f64 x172004_5]) ?_ 2 _ rfl; (with_reducible repeat (first | refine blk_drewN ?_ _ | refine blk_drew ?_ | refine blk_alloc ?_ _)); refine blk_put (cs := #[.int .i64 5, .int .i64 x172001_5, .string x172002_5, .int .i64 x172003_5, .float .f64 x172004_5]) ?_ 1 _ rfl; (with_reducible repeat (first | refine blk_drewN ?_ _ | refine blk_drew ?_ | refine blk_alloc ?_ _)); refine blk_put (cs := #[.int .i64 x172000_5, .int .i64 x172001_5, .string x172002_5, .int .i64 x172003_5, .float .f64 x172004_5]) ?_ 0 _ rfl; (with_reducible repeat (first | refine blk_drewN ?_ _ | refine blk_drew ?_ | refine blk_alloc ?_ _)); exact BK171.out) Try.underlying148 rfl (by kernel_rfl)) rfl ?_
                      exact ⟨by first | rfl | (simp [errW_none, errW_some] <;> rfl) | (simp [*, errW_none, errW_some] <;> rfl), by repeat (first | (with_reducible first | exact HB.out | apply below_alloc | apply pw_below_drewN | apply below_drew1 | refine below_set ?_ GE171.out) | exact HB.out)⟩
                     ·rw [if_neg c109] at H
                      exact absurd H (by simp)
                    ·rw [if_neg c108] at H
                     exact absurd H (by simp)
                   ·rw [if_neg c107] at H
                    exact absurd H (by simp)
                  ·rw [if_neg c106] at H
                   have c106b0 : ((bt a0 a1) == 37) = false := beq_eq_false_iff_ne.mpr c106
                   have c106b1 : ((bt a0 a1) != 37) = true := bne_iff_ne.mpr c106
                   by_cases c111 : (bt a0 a1) = 60
                   ·rw [if_pos c111] at H
                    have c111b0 : ((bt a0 a1) == 60) = true := beq_iff_eq.mpr c111
                    have c111b1 : ((bt a0 a1) != 60) = false := bne_eq_false_iff_eq.mpr c111
                    clear c111
                    by_cases c112 : 0 ≤ a1
                    ·rw [if_pos c112] at H
                     have c112b0 := eq_true c112
                     have c112b1 : decide (0 ≤ a1) = true := decide_eq_true c112
                     clear c112
                     by_cases c113 : a1 ≤ (wrap64 (a1 + 1))
                     ·rw [if_pos c113] at H
                      have c113b0 := eq_true c113
                      have c113b1 : decide (a1 ≤ (wrap64 (a1 + 1))) = true := decide_eq_true c113
                      by_cases c114 : (wrap64 (a1 + 1)) ≤ (a0.size : Int)
                      ·rw [if_pos c114] at H
                       have c114b0 := eq_true c114
                       have c114b1 : decide ((wrap64 (a1 + 1)) ≤ (a0.size : Int)) = true := decide_eq_true c114
                       simp only [Option.some.injEq, Prod.mk.injEq] at H
                       obtain ⟨rfl, rfl, rfl, rfl, rfl, rfl⟩ := H
                       have hcz115_0 : wc.cell? ⟨gb171, 0, none⟩ = some (.int .i64 x172000_5) := (blk_cell BK171.out 0).trans rfl
                       have hcz115_1 : wc.cell? ⟨gb171, 1, none⟩ = some (.int .i64 x172001_5) := (blk_cell BK171.out 1).trans rfl
                       have hcz115_2 : wc.cell? ⟨gb171, 2, none⟩ = some (.string x172002_5) := (blk_cell BK171.out 2).trans rfl
                       have hcz115_3 : wc.cell? ⟨gb171, 3, none⟩ = some (.int .i64 x172003_5) := (blk_cell BK171.out 3).trans rfl
                       have hcz115_4 : wc.cell? ⟨gb171, 4, none⟩ = some (.float .f64 x172004_5) := (blk_cell BK171.out 4).trans rfl
                       have hfz115_0 := blk_frozen BK171.out 0
                       have hfz115_1 := blk_frozen BK171.out 1
                       have hfz115_2 := blk_frozen BK171.out 2
                       have hfz115_3 := blk_frozen BK171.out 3
                       have hfz115_4 := blk_frozen BK171.out 4
                       go_wp2
                       refine bodyPost_ret (results_ct rfl _ _ gb171 148 #[.int .i64 5, .int .i64 a1, .string (a0.extract (a1 : Int).toNat ((wrap64 (a1 + 1)) : Int).toNat), .int .i64 0, .float .f64 0] (0, 0) _ rfl (by (with_reducible repeat (first | refine blk_drewN ?_ _ | refine blk_drew ?_ | refine blk_alloc ?_ _)); refine blk_put (cs := #[.int .i64 5, .int .i64 a1, .string (a0.extract (a1 : Int).toNat ((wrap64 (a1 + 1)) : Int).toNat), .int .i64 0, .float .f64 x172004_5]) ?_ 4 _ rfl; (with_reducible repeat (first | refine blk_drewN ?_ _ | refine blk_drew ?_ | refine blk_alloc ?_ _)); refine blk_put (cs := #[.int .i64 5, .int .i64 a1, .string (a0.extract (a1 : Int).toNat ((wrap64 (a1 + 1)) : Int).toNat), .int .i64 x172003_5, .float .f64 x172004_5]) ?_ 3 _ rfl; (with_reducible repeat (first | refine blk_drewN ?_ _ | refine blk_drew ?_ | refine blk_alloc ?_ _)); refine blk_put (cs := #[.int .i64 5, .int .i64 a1, .string x172002_5, .int .i64 x172003_5, .float .f64 x172004_5]) ?_ 2 _ rfl; (with_reducible repeat (first | refine blk_drewN ?_ _ | refine blk_drew ?_ | refine blk_alloc ?_ _)); refine blk_put (cs := #[.int .i64 5, .int .i64 x172001_5, .string x172002_5, .int .i64 x172003_5, .float .f64 x172004_5]) ?_ 1 _ rfl; (with_reducible repeat (first | refine blk_drewN ?_ _ | refine blk_drew ?_ | refine blk_alloc ?_ _)); refine blk_put (cs := #[.int .i64 x172000_5, .int .i64 x172001_5, .string x172002_5, .int .i64 x172003_5, .float .f64 x172004_5]) ?_ 0 _ rfl; (with_reducible repeat (first | refine blk_drewN ?_ _ | refine blk_drew ?_ | refine blk_alloc ?_ _)); exact BK171.out) Try.underlying148 rfl (by kernel_rfl)) rfl ?_
                       exact ⟨by first | rfl | (simp [errW_none, errW_some] <;> rfl) | (simp [*, errW_none, errW_some] <;> rfl), by repeat (first | (with_reducible first | exact HB.out | apply below_alloc | apply pw_below_drewN | apply below_drew1 | refine below_set ?_ GE171.out) | exact HB.out)⟩
                      ·rw [if_neg c114] at H
                       exact absurd H (by simp)
                     ·rw [if_neg c113] at H
                      exact absurd H (by simp)
                    ·rw [if_neg c112] at H
                     exact absurd H (by simp)
                   ·rw [if_neg c111] at H
                    have c111b0 : ((bt a0 a1) == 60) = false := beq_eq_false_iff_ne.mpr c111
                    have c111b1 : ((bt a0 a1) != 60) = true := bne_iff_ne.mpr c111
                    simp only [Option.some.injEq, Prod.mk.injEq] at H
                    obtain ⟨rfl, rfl, rfl, rfl, rfl, rfl⟩ := H
                    have hcz116_0 : wc.cell? ⟨gb171, 0, none⟩ = some (.int .i64 x172000_5) := (blk_cell BK171.out 0).trans rfl
                    have hcz116_1 : wc.cell? ⟨gb171, 1, none⟩ = some (.int .i64 x172001_5) := (blk_cell BK171.out 1).trans rfl
                    have hcz116_2 : wc.cell? ⟨gb171, 2, none⟩ = some (.string x172002_5) := (blk_cell BK171.out 2).trans rfl
                    have hcz116_3 : wc.cell? ⟨gb171, 3, none⟩ = some (.int .i64 x172003_5) := (blk_cell BK171.out 3).trans rfl
                    have hcz116_4 : wc.cell? ⟨gb171, 4, none⟩ = some (.float .f64 x172004_5) := (blk_cell BK171.out 4).trans rfl
                    have hfz116_0 := blk_frozen BK171.out 0
                    have hfz116_1 := blk_frozen BK171.out 1
                    have hfz116_2 := blk_frozen BK171.out 2
                    have hfz116_3 := blk_frozen BK171.out 3
                    have hfz116_4 := blk_frozen BK171.out 4
                    go_wp2
                    refine bodyPost_ret (results_ct rfl _ _ gb171 148 #[.int .i64 0, .int .i64 0, .string (⟨#[]⟩ : ByteArray), .int .i64 0, .float .f64 0] (0, 0) _ rfl (by (with_reducible repeat (first | refine blk_drewN ?_ _ | refine blk_drew ?_ | refine blk_alloc ?_ _)); refine blk_put (cs := #[.int .i64 0, .int .i64 0, .string (⟨#[]⟩ : ByteArray), .int .i64 0, .float .f64 x172004_5]) ?_ 4 _ rfl; (with_reducible repeat (first | refine blk_drewN ?_ _ | refine blk_drew ?_ | refine blk_alloc ?_ _)); refine blk_put (cs := #[.int .i64 0, .int .i64 0, .string (⟨#[]⟩ : ByteArray), .int .i64 x172003_5, .float .f64 x172004_5]) ?_ 3 _ rfl; (with_reducible repeat (first | refine blk_drewN ?_ _ | refine blk_drew ?_ | refine blk_alloc ?_ _)); refine blk_put (cs := #[.int .i64 0, .int .i64 0, .string x172002_5, .int .i64 x172003_5, .float .f64 x172004_5]) ?_ 2 _ rfl; (with_reducible repeat (first | refine blk_drewN ?_ _ | refine blk_drew ?_ | refine blk_alloc ?_ _)); refine blk_put (cs := #[.int .i64 0, .int .i64 x172001_5, .string x172002_5, .int .i64 x172003_5, .float .f64 x172004_5]) ?_ 1 _ rfl; (with_reducible repeat (first | refine blk_drewN ?_ _ | refine blk_drew ?_ | refine blk_alloc ?_ _)); refine blk_put (cs := #[.int .i64 x172000_5, .int .i64 x172001_5, .string x172002_5, .int .i64 x172003_5, .float .f64 x172004_5]) ?_ 0 _ rfl; (with_reducible repeat (first | refine blk_drewN ?_ _ | refine blk_drew ?_ | refine blk_alloc ?_ _)); exact BK171.out) Try.underlying148 rfl (by kernel_rfl)) rfl ?_
                    exact ⟨by first | rfl | (simp [errW_none, errW_some] <;> rfl) | (simp [*, errW_none, errW_some] <;> rfl), by repeat (first | (with_reducible first | exact HB.out | apply below_alloc | apply pw_below_drewN | apply below_drew1 | refine below_set ?_ GE171.out) | exact HB.out)⟩
  ·rw [if_neg c4] at H
   exact absurd H (by simp)
 ·rw [if_neg c3] at H
  exact absurd H (by simp)

end Go.Proofs.Ytnecbgeljanhiaa.PFnExactLex
