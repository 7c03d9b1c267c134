-- written by wip/tools/myprint.py out of the program's own print
import Derived.Test.YtiiakeakfllpjaaPFnExactFoldx0
import Derived.Test.YtiiakeakfllpjaaPFnExactFoldx1
import Derived.Test.YtiiakeakfllpjaaPFnExactFoldx3
import Derived.Test.YtiiakeakfllpjaaPFnExactFoldx4
namespace Go.Proofs.Ytiiakeakfllpjaa.PFnExactFold
open Go.Proofs.Ytiiakeakfllpjaa.Own (rS cS bS rB rN rT kS kC kc10 kf10)
open Go.RowKit Go.Proofs.YtiiakeakfllpjaaW.PrintWords Go.Proofs.YtiiakeakfllpjaaW.PrintLast Go.Proofs.YtiiakeakfllpjaaW.PrintMore
attribute [local go_sem] max2_int min2_int max_two min_two max_three min_three max_four min_four   -- for this text's walks alone
set_option linter.unusedVariables false
set_option linter.unusedSimpArgs false

/-! ### spec_l8Has: function 38 -/
mutual
def spec_l8Has.j0 : Nat → Bool → Int → ByteArray → Int → List Int → Option (Bool)
 | 0, _, _, _, _, _ => none
 | k + 1, x3, x178000, x178001, x178002, x178003 => if x3 = true then ((spec_NameOk.f k x178001).bind fun t178 => (spec_l8Has.j1 k x3 (!t178) x178000 x178001 x178002 x178003)) else (spec_l8Has.j1 k x3 false x178000 x178001 x178002 x178003)
def spec_l8Has.j1 : Nat → Bool → Bool → Int → ByteArray → Int → List Int → Option (Bool)
 | 0, _, _, _, _, _, _ => none
 | k + 1, x3, x32, x178000, x178001, x178002, x178003 => if x32 = true then (some false) else (if x178000 = 2 then ((spec_RealOf.f k x178001).bind fun bt179 => (if bt179.2 = true then (some (x178002 == 0)) else (some false))) else (if x3 = true then (spec_l8Has.j2 k false x178000 x178001 x178002 x178003) else (spec_l8Has.j2 k (x178001.toList != ([] : List UInt8)) x178000 x178001 x178002 x178003)))
def spec_l8Has.j2 : Nat → Bool → Int → ByteArray → Int → List Int → Option (Bool)
 | 0, _, _, _, _, _ => none
 | k + 1, x54, x178000, x178001, x178002, x178003 => if x54 = true then (some false) else (if x178000 = 1 then ((spec_l1In.f x178002 0 999999999999999).bind fun t181 => (some t181)) else (if x178000 = 3 then (if x178002 = 0 then (some true) else (some (x178002 == 1))) else (if x178000 = 8 then ((spec_l1In.f x178002 1 9).bind fun t182 => (some t182)) else (if x178000 = 9 then ((spec_l1In.f x178002 1 6).bind fun t183 => (some t183)) else (if x178000 = 32 then ((spec_l1In.f x178002 1 4).bind fun t184 => (some t184)) else (if x178000 = 33 then ((spec_l1In.f x178002 1 4).bind fun t185 => (some t185)) else (some (x178002 == 0))))))))
end
def spec_l8Has.f (k : Nat) (a0_0 : Int) (a0_1 : ByteArray) (a0_2 : Int) (l0_3 : List Int) : Option (Bool) := if a0_0 = 4 then (spec_l8Has.j0 k true a0_0 a0_1 a0_2 l0_3) else (if a0_0 = 5 then (spec_l8Has.j0 k true a0_0 a0_1 a0_2 l0_3) else (if a0_0 = 6 then (spec_l8Has.j0 k true a0_0 a0_1 a0_2 l0_3) else (if a0_0 = 7 then (spec_l8Has.j0 k true a0_0 a0_1 a0_2 l0_3) else (if a0_0 = 12 then (spec_l8Has.j0 k true a0_0 a0_1 a0_2 l0_3) else (if a0_0 = 13 then (spec_l8Has.j0 k true a0_0 a0_1 a0_2 l0_3) else (if a0_0 = 14 then (spec_l8Has.j0 k true a0_0 a0_1 a0_2 l0_3) else (if a0_0 = 15 then (spec_l8Has.j0 k true a0_0 a0_1 a0_2 l0_3) else (if a0_0 = 19 then (spec_l8Has.j0 k true a0_0 a0_1 a0_2 l0_3) else (if a0_0 = 20 then (spec_l8Has.j0 k true a0_0 a0_1 a0_2 l0_3) else (if a0_0 = 23 then (spec_l8Has.j0 k true a0_0 a0_1 a0_2 l0_3) else (if a0_0 = 24 then (spec_l8Has.j0 k true a0_0 a0_1 a0_2 l0_3) else (if a0_0 = 28 then (spec_l8Has.j0 k true a0_0 a0_1 a0_2 l0_3) else (if a0_0 = 31 then (spec_l8Has.j0 k true a0_0 a0_1 a0_2 l0_3) else (if a0_0 = 32 then (spec_l8Has.j0 k true a0_0 a0_1 a0_2 l0_3) else (if a0_0 = 33 then (spec_l8Has.j0 k true a0_0 a0_1 a0_2 l0_3) else (if a0_0 = 34 then (spec_l8Has.j0 k true a0_0 a0_1 a0_2 l0_3) else (spec_l8Has.j0 k false a0_0 a0_1 a0_2 l0_3)))))))))))))))))
set_option maxHeartbeats 8000000 in
set_option maxRecDepth 100000 in
theorem spec_l8Has.calls (k : Nat) (a0_0 : Int) (a0_1 : ByteArray) (a0_2 : Int) (A0_3 : Option Addr) (c0_3 : Nat) (l0_3 : List Int) (r : Bool) (w : World) (hr0_3 : Kd.C (Kd.int .i64) w A0_3 l0_3.length l0_3) (hc0_3 : l0_3.length ≤ c0_3) (h : spec_l8Has.f k a0_0 a0_1 a0_2 l0_3 = some r) :
  Calls Try.prog 38 #[.agg #[.int .i64 a0_0, .string a0_1, .int .i64 a0_2, .slice A0_3 l0_3.length c0_3]] w fun e w' => e = .returned (.bool r) ∧ Below w.heap.size w w' := by
 have hu56 := Try.underlying56
 have HR0_3 := Aside0.mk hr0_3
 have HC0_3 := Aside0.mk hc0_3
 clear hr0_3 hc0_3
 have HB := Aside0.mk (Below.refl w.heap.size w)
 have H : (if a0_0 = 4 then (spec_l8Has.j0 k true a0_0 a0_1 a0_2 l0_3) else (if a0_0 = 5 then (spec_l8Has.j0 k true a0_0 a0_1 a0_2 l0_3) else (if a0_0 = 6 then (spec_l8Has.j0 k true a0_0 a0_1 a0_2 l0_3) else (if a0_0 = 7 then (spec_l8Has.j0 k true a0_0 a0_1 a0_2 l0_3) else (if a0_0 = 12 then (spec_l8Has.j0 k true a0_0 a0_1 a0_2 l0_3) else (if a0_0 = 13 then (spec_l8Has.j0 k true a0_0 a0_1 a0_2 l0_3) else (if a0_0 = 14 then (spec_l8Has.j0 k true a0_0 a0_1 a0_2 l0_3) else (if a0_0 = 15 then (spec_l8Has.j0 k true a0_0 a0_1 a0_2 l0_3) else (if a0_0 = 19 then (spec_l8Has.j0 k true a0_0 a0_1 a0_2 l0_3) else (if a0_0 = 20 then (spec_l8Has.j0 k true a0_0 a0_1 a0_2 l0_3) else (if a0_0 = 23 then (spec_l8Has.j0 k true a0_0 a0_1 a0_2 l0_3) else (if a0_0 = 24 then (spec_l8Has.j0 k true a0_0 a0_1 a0_2 l0_3) else (if a0_0 = 28 then (spec_l8Has.j0 k true a0_0 a0_1 a0_2 l0_3) else (if a0_0 = 31 then (spec_l8Has.j0 k true a0_0 a0_1 a0_2 l0_3) else (if a0_0 = 32 then (spec_l8Has.j0 k true a0_0 a0_1 a0_2 l0_3) else (if a0_0 = 33 then (spec_l8Has.j0 k true a0_0 a0_1 a0_2 l0_3) else (if a0_0 = 34 then (spec_l8Has.j0 k true a0_0 a0_1 a0_2 l0_3) else (spec_l8Has.j0 k false a0_0 a0_1 a0_2 l0_3)))))))))))))))))) = some r := h
 clear h
 have HC2 := Aside0.mk H
 clear H
 go_enter Try.func38, Try.ntmps38
 go_upto_block 0 with (first | ((with_reducible refine gate_dst (N := 1) rfl ?_); refine box_event ?hg (N := 1) ?hd (cs := #[.int .i64 a0_0, .string a0_1, .int .i64 a0_2, .slice A0_3 l0_3.length c0_3]) (t := 56) ?hr ?_; (case hd => rfl); (case hg => rfl); (case hr => first | (go_simp; done) | (go_simp; rfl)); intro gb177 hg w3 hbox hb; have n0_ := Aside0.mk (below_step (bS HB.out) hb); have BK177 := Aside0.mk (hbox); have GW177 := Aside0.mk ((by rw [hg]; exact (below_size (bS HB.out)) : w.heap.size ≤ gb177)); have GE177 := Aside0.mk ((by rw [hg]; exact (below_size (bS HB.out)) : w.heap.size ≤ gb177)); clear HB; have HB := n0_; clear n0_; clear hb hbox hg; have hcz4_0 : w3.cell? ⟨gb177, 0, none⟩ = some (.int .i64 a0_0) := kC BK177.out 0 rfl; have hcz4_1 : w3.cell? ⟨gb177, 1, none⟩ = some (.string a0_1) := kC BK177.out 1 rfl; have hcz4_2 : w3.cell? ⟨gb177, 2, none⟩ = some (.int .i64 a0_2) := kC BK177.out 2 rfl; have hcz4_3 : w3.cell? ⟨gb177, 3, none⟩ = some (.slice A0_3 l0_3.length c0_3) := kC BK177.out 3 rfl; have hfz4_0 := blk_frozen BK177.out 0; have hfz4_1 := blk_frozen BK177.out 1; have hfz4_2 := blk_frozen BK177.out 2; have hfz4_3 := blk_frozen BK177.out 3))
 (try simp only [Act.put, List.setIfInBounds_toArray, List.set_cons_zero, List.set_cons_succ])
 go_cut [3] (fun v3 wc => ∃ (kq : Nat) (x3_1 : Bool), v3 = .bool x3_1 ∧ Aside0 (spec_l8Has.j0 kq x3_1 a0_0 a0_1 a0_2 l0_3 = some r) ∧ Aside0 (kq ≤ k) ∧ Aside0 (wc.heap[gb177]? = some (.cells #[.int .i64 a0_0, .string a0_1, .int .i64 a0_2, (.slice A0_3 l0_3.length c0_3)] 56 (0, 0))) ∧ Aside0 (Below w.heap.size w wc))
 case first =>
  have H := HC2.out
  clear HC2
  by_cases c5 : a0_0 = 4
  ·rw [if_pos c5] at H
   have c5b0 : (a0_0 == 4) = true := beq_iff_eq.mpr c5
   have c5b1 : (a0_0 != 4) = false := bne_eq_false_iff_eq.mpr c5
   clear c5
   (first | rw [c5b0] | (simp only [i64_w, i32_w]; rw [c5b0]) | skip)
   have H' := Aside0.mk H
   clear H
   go_wp2
   go_meet
   case rel => exact ⟨_, (true), (by first | rfl | (simp; done) | (simp [*]; done)), H', ⟨by first | omega | exact Nat.le_refl _⟩, ⟨by (with_reducible repeat (first | refine blk_drewN ?_ _ | refine blk_drew ?_ | refine blk_alloc ?_ _)); exact BK177.out⟩, ⟨by repeat (first | (with_reducible first | exact HB.out | apply below_alloc | apply pw_below_drewN | apply below_drew1 | refine below_set ?_ GE177.out) | exact HB.out)⟩⟩
  ·rw [if_neg c5] at H
   have c5b0 : (a0_0 == 4) = false := beq_eq_false_iff_ne.mpr c5
   have c5b1 : (a0_0 != 4) = true := bne_iff_ne.mpr c5
   (first | rw [c5b0] | (simp only [i64_w, i32_w]; rw [c5b0]) | skip)
   by_cases c6 : a0_0 = 5
   ·rw [if_pos c6] at H
    have c6b0 : (a0_0 == 5) = true := beq_iff_eq.mpr c6
    have c6b1 : (a0_0 != 5) = false := bne_eq_false_iff_eq.mpr c6
    clear c6
    have H' := Aside0.mk H
    clear H
    go_wp2
    go_meet
    case rel => exact ⟨_, (true), (by first | rfl | (simp; done) | (simp [*]; done)), H', ⟨by first | omega | exact Nat.le_refl _⟩, ⟨by (with_reducible repeat (first | refine blk_drewN ?_ _ | refine blk_drew ?_ | refine blk_alloc ?_ _)); exact BK177.out⟩, ⟨by repeat (first | (with_reducible first | exact HB.out | apply below_alloc | apply pw_below_drewN | apply below_drew1 | refine below_set ?_ GE177.out) | exact HB.out)⟩⟩
   ·rw [if_neg c6] at H
    have c6b0 : (a0_0 == 5) = false := beq_eq_false_iff_ne.mpr c6
    have c6b1 : (a0_0 != 5) = true := bne_iff_ne.mpr c6
    by_cases c7 : a0_0 = 6
    ·rw [if_pos c7] at H
     have c7b0 : (a0_0 == 6) = true := beq_iff_eq.mpr c7
     have c7b1 : (a0_0 != 6) = false := bne_eq_false_iff_eq.mpr c7
     clear c7
     have H' := Aside0.mk H
     clear H
     go_wp2
     go_meet
     case rel => exact ⟨_, (true), (by first | rfl | (simp; done) | (simp [*]; done)), H', ⟨by first | omega | exact Nat.le_refl _⟩, ⟨by (with_reducible repeat (first | refine blk_drewN ?_ _ | refine blk_drew ?_ | refine blk_alloc ?_ _)); exact BK177.out⟩, ⟨by repeat (first | (with_reducible first | exact HB.out | apply below_alloc | apply pw_below_drewN | apply below_drew1 | refine below_set ?_ GE177.out) | exact HB.out)⟩⟩
    ·rw [if_neg c7] at H
     have c7b0 : (a0_0 == 6) = false := beq_eq_false_iff_ne.mpr c7
     have c7b1 : (a0_0 != 6) = true := bne_iff_ne.mpr c7
     by_cases c8 : a0_0 = 7
     ·rw [if_pos c8] at H
      have c8b0 : (a0_0 == 7) = true := beq_iff_eq.mpr c8
      have c8b1 : (a0_0 != 7) = false := bne_eq_false_iff_eq.mpr c8
      clear c8
      have H' := Aside0.mk H
      clear H
      go_wp2
      go_meet
      case rel => exact ⟨_, (true), (by first | rfl | (simp; done) | (simp [*]; done)), H', ⟨by first | omega | exact Nat.le_refl _⟩, ⟨by (with_reducible repeat (first | refine blk_drewN ?_ _ | refine blk_drew ?_ | refine blk_alloc ?_ _)); exact BK177.out⟩, ⟨by repeat (first | (with_reducible first | exact HB.out | apply below_alloc | apply pw_below_drewN | apply below_drew1 | refine below_set ?_ GE177.out) | exact HB.out)⟩⟩
     ·rw [if_neg c8] at H
      have c8b0 : (a0_0 == 7) = false := beq_eq_false_iff_ne.mpr c8
      have c8b1 : (a0_0 != 7) = true := bne_iff_ne.mpr c8
      by_cases c9 : a0_0 = 12
      ·rw [if_pos c9] at H
       have c9b0 : (a0_0 == 12) = true := beq_iff_eq.mpr c9
       have c9b1 : (a0_0 != 12) = false := bne_eq_false_iff_eq.mpr c9
       clear c9
       have H' := Aside0.mk H
       clear H
       go_wp2
       go_meet
       case rel => exact ⟨_, (true), (by first | rfl | (simp; done) | (simp [*]; done)), H', ⟨by first | omega | exact Nat.le_refl _⟩, ⟨by (with_reducible repeat (first | refine blk_drewN ?_ _ | refine blk_drew ?_ | refine blk_alloc ?_ _)); exact BK177.out⟩, ⟨by repeat (first | (with_reducible first | exact HB.out | apply below_alloc | apply pw_below_drewN | apply below_drew1 | refine below_set ?_ GE177.out) | exact HB.out)⟩⟩
      ·rw [if_neg c9] at H
       have c9b0 : (a0_0 == 12) = false := beq_eq_false_iff_ne.mpr c9
       have c9b1 : (a0_0 != 12) = true := bne_iff_ne.mpr c9
       by_cases c10 : a0_0 = 13
       ·rw [if_pos c10] at H
        have c10b0 : (a0_0 == 13) = true := beq_iff_eq.mpr c10
        have c10b1 : (a0_0 != 13) = false := bne_eq_false_iff_eq.mpr c10
        clear c10
        have H' := Aside0.mk H
        clear H
        go_wp2
        go_meet
        case rel => exact ⟨_, (true), (by first | rfl | (simp; done) | (simp [*]; done)), H', ⟨by first | omega | exact Nat.le_refl _⟩, ⟨by (with_reducible repeat (first | refine blk_drewN ?_ _ | refine blk_drew ?_ | refine blk_alloc ?_ _)); exact BK177.out⟩, ⟨by repeat (first | (with_reducible first | exact HB.out | apply below_alloc | apply pw_below_drewN | apply below_drew1 | refine below_set ?_ GE177.out) | exact HB.out)⟩⟩
       ·rw [if_neg c10] at H
        have c10b0 : (a0_0 == 13) = false := beq_eq_false_iff_ne.mpr c10
        have c10b1 : (a0_0 != 13) = true := bne_iff_ne.mpr c10
        by_cases c11 : a0_0 = 14
        ·rw [if_pos c11] at H
         have c11b0 : (a0_0 == 14) = true := beq_iff_eq.mpr c11
         have c11b1 : (a0_0 != 14) = false := bne_eq_false_iff_eq.mpr c11
         clear c11
         have H' := Aside0.mk H
         clear H
         go_wp2
         go_meet
         case rel => exact ⟨_, (true), (by first | rfl | (simp; done) | (simp [*]; done)), H', ⟨by first | omega | exact Nat.le_refl _⟩, ⟨by (with_reducible repeat (first | refine blk_drewN ?_ _ | refine blk_drew ?_ | refine blk_alloc ?_ _)); exact BK177.out⟩, ⟨by repeat (first | (with_reducible first | exact HB.out | apply below_alloc | apply pw_below_drewN | apply below_drew1 | refine below_set ?_ GE177.out) | exact HB.out)⟩⟩
        ·rw [if_neg c11] at H
         have c11b0 : (a0_0 == 14) = false := beq_eq_false_iff_ne.mpr c11
         have c11b1 : (a0_0 != 14) = true := bne_iff_ne.mpr c11
         by_cases c12 : a0_0 = 15
         ·rw [if_pos c12] at H
          have c12b0 : (a0_0 == 15) = true := beq_iff_eq.mpr c12
          have c12b1 : (a0_0 != 15) = false := bne_eq_false_iff_eq.mpr c12
          clear c12
          have H' := Aside0.mk H
          clear H
          go_wp2
          go_meet
          case rel => exact ⟨_, (true), (by first | rfl | (simp; done) | (simp [*]; done)), H', ⟨by first | omega | exact Nat.le_refl _⟩, ⟨by (with_reducible repeat (first | refine blk_drewN ?_ _ | refine blk_drew ?_ | refine blk_alloc ?_ _)); exact BK177.out⟩, ⟨by repeat (first | (with_reducible first | exact HB.out | apply below_alloc | apply pw_below_drewN | apply below_drew1 | refine below_set ?_ GE177.out) | exact HB.out)⟩⟩
         ·rw [if_neg c12] at H
          have c12b0 : (a0_0 == 15) = false := beq_eq_false_iff_ne.mpr c12
          have c12b1 : (a0_0 != 15) = true := bne_iff_ne.mpr c12
          by_cases c13 : a0_0 = 19
          ·rw [if_pos c13] at H
           have c13b0 : (a0_0 == 19) = true := beq_iff_eq.mpr c13
           have c13b1 : (a0_0 != 19) = false := bne_eq_false_iff_eq.mpr c13
           clear c13
           have H' := Aside0.mk H
           clear H
           go_wp2
           go_meet
           case rel => exact ⟨_, (true), (by first | rfl | (simp; done) | (simp [*]; done)), H', ⟨by first | omega | exact Nat.le_refl _⟩, ⟨by (with_reducible repeat (first | refine blk_drewN ?_ _ | refine blk_drew ?_ | refine blk_alloc ?_ _)); exact BK177.out⟩, ⟨by repeat (first | (with_reducible first | exact HB.out | apply below_alloc | apply pw_below_drewN | apply below_drew1 | refine below_set ?_ GE177.out) | exact HB.out)⟩⟩
          ·rw [if_neg c13] at H
           have c13b0 : (a0_0 == 19) = false := beq_eq_false_iff_ne.mpr c13
           have c13b1 : (a0_0 != 19) = true := bne_iff_ne.mpr c13
           by_cases c14 : a0_0 = 20
           ·rw [if_pos c14] at H
            have c14b0 : (a0_0 == 20) = true := beq_iff_eq.mpr c14
            have c14b1 : (a0_0 != 20) = false := bne_eq_false_iff_eq.mpr c14
            clear c14
            have H' := Aside0.mk H
            clear H
            go_wp2
            go_meet
            case rel => exact ⟨_, (true), (by first | rfl | (simp; done) | (simp [*]; done)), H', ⟨by first | omega | exact Nat.le_refl _⟩, ⟨by (with_reducible repeat (first | refine blk_drewN ?_ _ | refine blk_drew ?_ | refine blk_alloc ?_ _)); exact BK177.out⟩, ⟨by repeat (first | (with_reducible first | exact HB.out | apply below_alloc | apply pw_below_drewN | apply below_drew1 | refine below_set ?_ GE177.out) | exact HB.out)⟩⟩
           ·rw [if_neg c14] at H
            have c14b0 : (a0_0 == 20) = false := beq_eq_false_iff_ne.mpr c14
            have c14b1 : (a0_0 != 20) = true := bne_iff_ne.mpr c14
            by_cases c15 : a0_0 = 23
            ·rw [if_pos c15] at H
             have c15b0 : (a0_0 == 23) = true := beq_iff_eq.mpr c15
             have c15b1 : (a0_0 != 23) = false := bne_eq_false_iff_eq.mpr c15
             clear c15
             have H' := Aside0.mk H
             clear H
             go_wp2
             go_meet
             case rel => exact ⟨_, (true), (by first | rfl | (simp; done) | (simp [*]; done)), H', ⟨by first | omega | exact Nat.le_refl _⟩, ⟨by (with_reducible repeat (first | refine blk_drewN ?_ _ | refine blk_drew ?_ | refine blk_alloc ?_ _)); exact BK177.out⟩, ⟨by repeat (first | (with_reducible first | exact HB.out | apply below_alloc | apply pw_below_drewN | apply below_drew1 | refine below_set ?_ GE177.out) | exact HB.out)⟩⟩
            ·rw [if_neg c15] at H
             have c15b0 : (a0_0 == 23) = false := beq_eq_false_iff_ne.mpr c15
             have c15b1 : (a0_0 != 23) = true := bne_iff_ne.mpr c15
             by_cases c16 : a0_0 = 24
             ·rw [if_pos c16] at H
              have c16b0 : (a0_0 == 24) = true := beq_iff_eq.mpr c16
              have c16b1 : (a0_0 != 24) = false := bne_eq_false_iff_eq.mpr c16
              clear c16
              have H' := Aside0.mk H
              clear H
              go_wp2
              go_meet
              case rel => exact ⟨_, (true), (by first | rfl | (simp; done) | (simp [*]; done)), H', ⟨by first | omega | exact Nat.le_refl _⟩, ⟨by (with_reducible repeat (first | refine blk_drewN ?_ _ | refine blk_drew ?_ | refine blk_alloc ?_ _)); exact BK177.out⟩, ⟨by repeat (first | (with_reducible first | exact HB.out | apply below_alloc | apply pw_below_drewN | apply below_drew1 | refine below_set ?_ GE177.out) | exact HB.out)⟩⟩
             ·rw [if_neg c16] at H
              have c16b0 : (a0_0 == 24) = false := beq_eq_false_iff_ne.mpr c16
              have c16b1 : (a0_0 != 24) = true := bne_iff_ne.mpr c16
              by_cases c17 : a0_0 = 28
              ·rw [if_pos c17] at H
               have c17b0 : (a0_0 == 28) = true := beq_iff_eq.mpr c17
               have c17b1 : (a0_0 != 28) = false := bne_eq_false_iff_eq.mpr c17
               clear c17
               have H' := Aside0.mk H
               clear H
               go_wp2
               go_meet
               case rel => exact ⟨_, (true), (by first | rfl | (simp; done) | (simp [*]; done)), H', ⟨by first | omega | exact Nat.le_refl _⟩, ⟨by (with_reducible repeat (first | refine blk_drewN ?_ _ | refine blk_drew ?_ | refine blk_alloc ?_ _)); exact BK177.out⟩, ⟨by repeat (first | (with_reducible first | exact HB.out | apply below_alloc | apply pw_below_drewN | apply below_drew1 | refine below_set ?_ GE177.out) | exact HB.out)⟩⟩
              ·rw [if_neg c17] at H
               have c17b0 : (a0_0 == 28) = false := beq_eq_false_iff_ne.mpr c17
               have c17b1 : (a0_0 != 28) = true := bne_iff_ne.mpr c17
               by_cases c18 : a0_0 = 31
               ·rw [if_pos c18] at H
                have c18b0 : (a0_0 == 31) = true := beq_iff_eq.mpr c18
                have c18b1 : (a0_0 != 31) = false := bne_eq_false_iff_eq.mpr c18
                clear c18
                have H' := Aside0.mk H
                clear H
                go_wp2
                go_meet
                case rel => exact ⟨_, (true), (by first | rfl | (simp; done) | (simp [*]; done)), H', ⟨by first | omega | exact Nat.le_refl _⟩, ⟨by (with_reducible repeat (first | refine blk_drewN ?_ _ | refine blk_drew ?_ | refine blk_alloc ?_ _)); exact BK177.out⟩, ⟨by repeat (first | (with_reducible first | exact HB.out | apply below_alloc | apply pw_below_drewN | apply below_drew1 | refine below_set ?_ GE177.out) | exact HB.out)⟩⟩
               ·rw [if_neg c18] at H
                have c18b0 : (a0_0 == 31) = false := beq_eq_false_iff_ne.mpr c18
                have c18b1 : (a0_0 != 31) = true := bne_iff_ne.mpr c18
                by_cases c19 : a0_0 = 32
                ·rw [if_pos c19] at H
                 have c19b0 : (a0_0 == 32) = true := beq_iff_eq.mpr c19
                 have c19b1 : (a0_0 != 32) = false := bne_eq_false_iff_eq.mpr c19
                 clear c19
                 have H' := Aside0.mk H
                 clear H
                 go_wp2
                 go_meet
                 case rel => exact ⟨_, (true), (by first | rfl | (simp; done) | (simp [*]; done)), H', ⟨by first | omega | exact Nat.le_refl _⟩, ⟨by (with_reducible repeat (first | refine blk_drewN ?_ _ | refine blk_drew ?_ | refine blk_alloc ?_ _)); exact BK177.out⟩, ⟨by repeat (first | (with_reducible first | exact HB.out | apply below_alloc | apply pw_below_drewN | apply below_drew1 | refine below_set ?_ GE177.out) | exact HB.out)⟩⟩
                ·rw [if_neg c19] at H
                 have c19b0 : (a0_0 == 32) = false := beq_eq_false_iff_ne.mpr c19
                 have c19b1 : (a0_0 != 32) = true := bne_iff_ne.mpr c19
                 by_cases c20 : a0_0 = 33
                 ·rw [if_pos c20] at H
                  have c20b0 : (a0_0 == 33) = true := beq_iff_eq.mpr c20
                  have c20b1 : (a0_0 != 33) = false := bne_eq_false_iff_eq.mpr c20
                  clear c20
                  have H' := Aside0.mk H
                  clear H
                  go_wp2
                  go_meet
                  case rel => exact ⟨_, (true), (by first | rfl | (simp; done) | (simp [*]; done)), H', ⟨by first | omega | exact Nat.le_refl _⟩, ⟨by (with_reducible repeat (first | refine blk_drewN ?_ _ | refine blk_drew ?_ | refine blk_alloc ?_ _)); exact BK177.out⟩, ⟨by repeat (first | (with_reducible first | exact HB.out | apply below_alloc | apply pw_below_drewN | apply below_drew1 | refine below_set ?_ GE177.out) | exact HB.out)⟩⟩
                 ·rw [if_neg c20] at H
                  have c20b0 : (a0_0 == 33) = false := beq_eq_false_iff_ne.mpr c20
                  have c20b1 : (a0_0 != 33) = true := bne_iff_ne.mpr c20
                  by_cases c21 : a0_0 = 34
                  ·rw [if_pos c21] at H
                   have c21b0 : (a0_0 == 34) = true := beq_iff_eq.mpr c21
                   have c21b1 : (a0_0 != 34) = false := bne_eq_false_iff_eq.mpr c21
                   clear c21
                   have H' := Aside0.mk H
                   clear H
                   go_wp2
                   go_meet
                   case rel => exact ⟨_, (true), (by first | rfl | (simp; done) | (simp [*]; done)), H', ⟨by first | omega | exact Nat.le_refl _⟩, ⟨by (with_reducible repeat (first | refine blk_drewN ?_ _ | refine blk_drew ?_ | refine blk_alloc ?_ _)); exact BK177.out⟩, ⟨by repeat (first | (with_reducible first | exact HB.out | apply below_alloc | apply pw_below_drewN | apply below_drew1 | refine below_set ?_ GE177.out) | exact HB.out)⟩⟩
                  ·rw [if_neg c21] at H
                   have c21b0 : (a0_0 == 34) = false := beq_eq_false_iff_ne.mpr c21
                   have c21b1 : (a0_0 != 34) = true := bne_iff_ne.mpr c21
                   have H' := Aside0.mk H
                   clear H
                   go_wp2
                   go_meet
                   case rel => exact ⟨_, (false), (by first | rfl | (simp; done) | (simp [*]; done)), H', ⟨by first | omega | exact Nat.le_refl _⟩, ⟨by (with_reducible repeat (first | refine blk_drewN ?_ _ | refine blk_drew ?_ | refine blk_alloc ?_ _)); exact BK177.out⟩, ⟨by repeat (first | (with_reducible first | exact HB.out | apply below_alloc | apply pw_below_drewN | apply below_drew1 | refine below_set ?_ GE177.out) | exact HB.out)⟩⟩
 case rest =>
  clear HC2
  try clear c1
  try clear c2
  try clear p2
  try clear c3
  try clear c5
  try clear c5b0
  try clear c5b1
  try clear c6
  try clear c6b0
  try clear c6b1
  try clear c7
  try clear c7b0
  try clear c7b1
  try clear c8
  try clear c8b0
  try clear c8b1
  try clear c9
  try clear c9b0
  try clear c9b1
  try clear c10
  try clear c10b0
  try clear c10b1
  try clear c11
  try clear c11b0
  try clear c11b1
  try clear c12
  try clear c12b0
  try clear c12b1
  try clear c13
  try clear c13b0
  try clear c13b1
  try clear c14
  try clear c14b0
  try clear c14b1
  try clear c15
  try clear c15b0
  try clear c15b1
  try clear c16
  try clear c16b0
  try clear c16b1
  try clear c17
  try clear c17b0
  try clear c17b1
  try clear c18
  try clear c18b0
  try clear c18b1
  try clear c19
  try clear c19b0
  try clear c19b1
  try clear c20
  try clear c20b0
  try clear c20b1
  try clear c21
  try clear c21b0
  try clear c21b1
  try clear hcz4_0
  try clear hcz4_1
  try clear hcz4_2
  try clear hcz4_3
  try clear hfz4_0
  try clear hfz4_1
  try clear hfz4_2
  try clear hfz4_3
  obtain ⟨kq, x3_1, rfl, HA, HJ1, BK177, HB⟩ := hcut
  cases kq with
  | zero => exact absurd HA.out (by simp [spec_l8Has.j0])
  | succ kj1 =>
   have H := HA.out
   clear HA
   simp only [spec_l8Has.j0] at H
   have HC22 := Aside0.mk H
   clear H
   go_upto_region 21 with (fail)
   go_cut [32] (fun v32 wc => ∃ (kq : Nat) (x32_21 : Bool), v32 = .bool x32_21 ∧ Aside0 (spec_l8Has.j1 kq x3_1 x32_21 a0_0 a0_1 a0_2 l0_3 = some r) ∧ Aside0 (kq ≤ kj1) ∧ Aside0 (wc.heap[gb177]? = some (.cells #[.int .i64 a0_0, .string a0_1, .int .i64 a0_2, (.slice A0_3 l0_3.length c0_3)] 56 (0, 0))) ∧ Aside0 (Below w.heap.size w wc))
   case first =>
    have H := HC22.out
    clear HC22
    by_cases c23 : x3_1 = true
    ·subst c23
     have H1 : ((spec_NameOk.f kj1 a0_1).bind fun t178 => (spec_l8Has.j1 kj1 true (!t178) a0_0 a0_1 a0_2 l0_3)) = some r := by rw [if_pos rfl] at H; exact H
     clear H
     have H := H1
     clear H1
     replace H := Option.bind_eq_some_iff.mp H
     obtain ⟨t178, A240, H⟩ := H
     (try dsimp only at H)
     have A24 := Aside0.mk A240
     clear A240
     have H' := Aside0.mk H
     clear H
     have hcz25_0 : wc.cell? ⟨gb177, 0, none⟩ = some (.int .i64 a0_0) := kC BK177.out 0 rfl
     have hcz25_1 : wc.cell? ⟨gb177, 1, none⟩ = some (.string a0_1) := kC BK177.out 1 rfl
     have hcz25_2 : wc.cell? ⟨gb177, 2, none⟩ = some (.int .i64 a0_2) := kC BK177.out 2 rfl
     have hcz25_3 : wc.cell? ⟨gb177, 3, none⟩ = some (.slice A0_3 l0_3.length c0_3) := kC BK177.out 3 rfl
     have hfz25_0 := blk_frozen BK177.out 0
     have hfz25_1 := blk_frozen BK177.out 1
     have hfz25_2 := blk_frozen BK177.out 2
     have hfz25_3 := blk_frozen BK177.out 3
     go_wp2_with (first | (go_at_call 54; (with_reducible refine (spec_NameOk.calls kj1 a0_1 t178 _ A24.out).mono ?_); rintro e w26 ⟨rfl, hb⟩; replace BK177 := Aside0.mk (kS BK177.out hb); replace HB := Aside0.mk (below_step (by repeat (first | (with_reducible first | exact HB.out | apply below_alloc | apply pw_below_drewN | apply below_drew1 | refine below_set ?_ GE177.out) | exact HB.out)) hb); (try clear hb); (try clear hb2); (try clear hk); (try clear hi)))
     go_meet
     case rel => exact ⟨_, (!t178), (by first | rfl | (simp; done) | (simp [*]; done)), H', ⟨by have := HJ1.out; first | omega | exact Nat.le_refl _⟩, ⟨by (with_reducible repeat (first | refine blk_drewN ?_ _ | refine blk_drew ?_ | refine blk_alloc ?_ _)); exact BK177.out⟩, ⟨by repeat (first | (with_reducible first | exact HB.out | apply below_alloc | apply pw_below_drewN | apply below_drew1 | refine below_set ?_ GE177.out) | exact HB.out)⟩⟩
    ·replace c23 := Bool.eq_false_iff.mpr c23
     subst c23
     have H1 : (spec_l8Has.j1 kj1 false false a0_0 a0_1 a0_2 l0_3) = some r := by rw [if_neg (show ¬ (false = true) by decide)] at H; exact H
     clear H
     have H := H1
     clear H1
     have H' := Aside0.mk H
     clear H
     go_wp2
     go_meet
     case rel => exact ⟨_, (false), (by first | rfl | (simp; done) | (simp [*]; done)), H', ⟨by have := HJ1.out; first | omega | exact Nat.le_refl _⟩, ⟨by (with_reducible repeat (first | refine blk_drewN ?_ _ | refine blk_drew ?_ | refine blk_alloc ?_ _)); exact BK177.out⟩, ⟨by repeat (first | (with_reducible first | exact HB.out | apply below_alloc | apply pw_below_drewN | apply below_drew1 | refine below_set ?_ GE177.out) | exact HB.out)⟩⟩
   case rest =>
    clear HC22
    try clear c1
    try clear c2
    try clear p2
    try clear c3
    try clear c5
    try clear c5b0
    try clear c5b1
    try clear c6
    try clear c6b0
    try clear c6b1
    try clear c7
    try clear c7b0
    try clear c7b1
    try clear c8
    try clear c8b0
    try clear c8b1
    try clear c9
    try clear c9b0
    try clear c9b1
    try clear c10
    try clear c10b0
    try clear c10b1
    try clear c11
    try clear c11b0
    try clear c11b1
    try clear c12
    try clear c12b0
    try clear c12b1
    try clear c13
    try clear c13b0
    try clear c13b1
    try clear c14
    try clear c14b0
    try clear c14b1
    try clear c15
    try clear c15b0
    try clear c15b1
    try clear c16
    try clear c16b0
    try clear c16b1
    try clear c17
    try clear c17b0
    try clear c17b1
    try clear c18
    try clear c18b0
    try clear c18b1
    try clear c19
    try clear c19b0
    try clear c19b1
    try clear c20
    try clear c20b0
    try clear c20b1
    try clear c21
    try clear c21b0
    try clear c21b1
    try clear c23
    try clear hcz25_0
    try clear hcz25_1
    try clear hcz25_2
    try clear hcz25_3
    try clear hcz4_0
    try clear hcz4_1
    try clear hcz4_2
    try clear hcz4_3
    try clear hfz25_0
    try clear hfz25_1
    try clear hfz25_2
    try clear hfz25_3
    try clear hfz4_0
    try clear hfz4_1
    try clear hfz4_2
    try clear hfz4_3
    try clear p2
    obtain ⟨kq, x32_21, rfl, HA, HJ21, BK177, HB⟩ := hcut
    cases kq with
    | zero => exact absurd HA.out (by simp [spec_l8Has.j1])
    | succ kj21 =>
     have H := HA.out
     clear HA
     simp only [spec_l8Has.j1] at H
     by_cases c27 : x32_21 = true
     ·subst c27
      have H1 : (some false) = some r := by rw [if_pos rfl] at H; exact H
      clear H
      have H := H1
      clear H1
      obtain rfl := Option.some.inj H
      go_wp2
      go_ret
      exact ⟨by first | rfl | (simp [errW_none, errW_some] <;> rfl) | (simp [*, errW_none, errW_some] <;> rfl), by repeat (first | (with_reducible first | exact HB.out | apply below_alloc | apply pw_below_drewN | apply below_drew1 | refine below_set ?_ GE177.out) | exact HB.out)⟩
     ·replace c27 := Bool.eq_false_iff.mpr c27
      subst c27
      have H1 : (if a0_0 = 2 then ((spec_RealOf.f kj21 a0_1).bind fun bt179 => (if bt179.2 = true then (some (a0_2 == 0)) else (some false))) else (if x3_1 = true then (spec_l8Has.j2 kj21 false a0_0 a0_1 a0_2 l0_3) else (spec_l8Has.j2 kj21 (a0_1.toList != ([] : List UInt8)) a0_0 a0_1 a0_2 l0_3))) = some r := by rw [if_neg (show ¬ (false = true) by decide)] at H; exact H
      clear H
      have H := H1
      clear H1
      by_cases c28 : a0_0 = 2
      ·rw [if_pos c28] at H
       have c28b0 : (a0_0 == 2) = true := beq_iff_eq.mpr c28
       have c28b1 : (a0_0 != 2) = false := bne_eq_false_iff_eq.mpr c28
       clear c28
       replace H := Option.bind_eq_some_iff.mp H
       obtain ⟨⟨t179, t180⟩, A290, H⟩ := H
       (try dsimp only at H)
       have A29 := Aside0.mk A290
       clear A290
       by_cases c30 : t180 = true
       ·subst c30
        have H1 : (some (a0_2 == 0)) = some r := by rw [if_pos rfl] at H; exact H
        clear H
        have H := H1
        clear H1
        obtain rfl := Option.some.inj H
        have hcz31_0 : wc.cell? ⟨gb177, 0, none⟩ = some (.int .i64 a0_0) := kC BK177.out 0 rfl
        have hcz31_1 : wc.cell? ⟨gb177, 1, none⟩ = some (.string a0_1) := kC BK177.out 1 rfl
        have hcz31_2 : wc.cell? ⟨gb177, 2, none⟩ = some (.int .i64 a0_2) := kC BK177.out 2 rfl
        have hcz31_3 : wc.cell? ⟨gb177, 3, none⟩ = some (.slice A0_3 l0_3.length c0_3) := kC BK177.out 3 rfl
        have hfz31_0 := blk_frozen BK177.out 0
        have hfz31_1 := blk_frozen BK177.out 1
        have hfz31_2 := blk_frozen BK177.out 2
        have hfz31_3 := blk_frozen BK177.out 3
        go_wp2_with (first | ((with_reducible refine gate_callee (f := 55) rfl ?_); refine goesL_ (some 39) rfl rfl Try.func55 (by kernel_rfl) rfl #[.string a0_1] rfl (by (try simp only [List.map_toArray, List.map_cons, List.map_nil]); first | done | rfl | (simp only [List.length_drop, List.length_take]; rfl)) ?_; (with_reducible refine (spec_RealOf.calls kj21 a0_1 t179 true _ A29.out).mono ?_); rintro e w' ⟨rfl, ⟨nd, rfl⟩⟩; refine ⟨_, rfl, ?_⟩))
        go_ret
        exact ⟨by first | rfl | (simp [errW_none, errW_some] <;> rfl) | (simp [*, errW_none, errW_some] <;> rfl), by repeat (first | (with_reducible first | exact HB.out | apply below_alloc | apply pw_below_drewN | apply below_drew1 | refine below_set ?_ GE177.out) | exact HB.out)⟩
       ·replace c30 := Bool.eq_false_iff.mpr c30
        subst c30
        have H1 : (some false) = some r := by rw [if_neg (show ¬ (false = true) by decide)] at H; exact H
        clear H
        have H := H1
        clear H1
        obtain rfl := Option.some.inj H
        have hcz32_0 : wc.cell? ⟨gb177, 0, none⟩ = some (.int .i64 a0_0) := kC BK177.out 0 rfl
        have hcz32_1 : wc.cell? ⟨gb177, 1, none⟩ = some (.string a0_1) := kC BK177.out 1 rfl
        have hcz32_2 : wc.cell? ⟨gb177, 2, none⟩ = some (.int .i64 a0_2) := kC BK177.out 2 rfl
        have hcz32_3 : wc.cell? ⟨gb177, 3, none⟩ = some (.slice A0_3 l0_3.length c0_3) := kC BK177.out 3 rfl
        have hfz32_0 := blk_frozen BK177.out 0
        have hfz32_1 := blk_frozen BK177.out 1
        have hfz32_2 := blk_frozen BK177.out 2
        have hfz32_3 := blk_frozen BK177.out 3
        go_wp2_with (first | ((with_reducible refine gate_callee (f := 55) rfl ?_); refine goesL_ (some 39) rfl rfl Try.func55 (by kernel_rfl) rfl #[.string a0_1] rfl (by (try simp only [List.map_toArray, List.map_cons, List.map_nil]); first | done | rfl | (simp only [List.length_drop, List.length_take]; rfl)) ?_; (with_reducible refine (spec_RealOf.calls kj21 a0_1 t179 false _ A29.out).mono ?_); rintro e w' ⟨rfl, ⟨nd, rfl⟩⟩; refine ⟨_, rfl, ?_⟩))
        go_ret
        exact ⟨by first | rfl | (simp [errW_none, errW_some] <;> rfl) | (simp [*, errW_none, errW_some] <;> rfl), by repeat (first | (with_reducible first | exact HB.out | apply below_alloc | apply pw_below_drewN | apply below_drew1 | refine below_set ?_ GE177.out) | exact HB.out)⟩
      ·rw [if_neg c28] at H
       have c28b0 : (a0_0 == 2) = false := beq_eq_false_iff_ne.mpr c28
       have c28b1 : (a0_0 != 2) = true := bne_iff_ne.mpr c28
       have HC33 := Aside0.mk H
       clear H
       have hcz34_0 : wc.cell? ⟨gb177, 0, none⟩ = some (.int .i64 a0_0) := kC BK177.out 0 rfl
       have hcz34_1 : wc.cell? ⟨gb177, 1, none⟩ = some (.string a0_1) := kC BK177.out 1 rfl
       have hcz34_2 : wc.cell? ⟨gb177, 2, none⟩ = some (.int .i64 a0_2) := kC BK177.out 2 rfl
       have hcz34_3 : wc.cell? ⟨gb177, 3, none⟩ = some (.slice A0_3 l0_3.length c0_3) := kC BK177.out 3 rfl
       have hfz34_0 := blk_frozen BK177.out 0
       have hfz34_1 := blk_frozen BK177.out 1
       have hfz34_2 := blk_frozen BK177.out 2
       have hfz34_3 := blk_frozen BK177.out 3
       go_upto_region 26 with (fail)
       go_cut [54] (fun v54 wc => ∃ (kq : Nat) (x54_32 : Bool), v54 = .bool x54_32 ∧ Aside0 (spec_l8Has.j2 kq x54_32 a0_0 a0_1 a0_2 l0_3 = some r) ∧ Aside0 (kq ≤ kj21) ∧ Aside0 (wc.heap[gb177]? = some (.cells #[.int .i64 a0_0, .string a0_1, .int .i64 a0_2, (.slice A0_3 l0_3.length c0_3)] 56 (0, 0))) ∧ Aside0 (Below w.heap.size w wc))
       case first =>
        have H := HC33.out
        clear HC33
        by_cases c35 : x3_1 = true
        ·subst c35
         have H1 : (spec_l8Has.j2 kj21 false a0_0 a0_1 a0_2 l0_3) = some r := by rw [if_pos rfl] at H; exact H
         clear H
         have H := H1
         clear H1
         have H' := Aside0.mk H
         clear H
         go_wp2
         go_meet
         case rel => exact ⟨_, (false), (by first | rfl | (simp; done) | (simp [*]; done)), H', ⟨by have := HJ1.out; have := HJ21.out; first | omega | exact Nat.le_refl _⟩, ⟨by (with_reducible repeat (first | refine blk_drewN ?_ _ | refine blk_drew ?_ | refine blk_alloc ?_ _)); exact BK177.out⟩, ⟨by repeat (first | (with_reducible first | exact HB.out | apply below_alloc | apply pw_below_drewN | apply below_drew1 | refine below_set ?_ GE177.out) | exact HB.out)⟩⟩
        ·replace c35 := Bool.eq_false_iff.mpr c35
         subst c35
         have H1 : (spec_l8Has.j2 kj21 (a0_1.toList != ([] : List UInt8)) a0_0 a0_1 a0_2 l0_3) = some r := by rw [if_neg (show ¬ (false = true) by decide)] at H; exact H
         clear H
         have H := H1
         clear H1
         have H' := Aside0.mk H
         clear H
         have hcz36_0 : wc.cell? ⟨gb177, 0, none⟩ = some (.int .i64 a0_0) := kC BK177.out 0 rfl
         have hcz36_1 : wc.cell? ⟨gb177, 1, none⟩ = some (.string a0_1) := kC BK177.out 1 rfl
         have hcz36_2 : wc.cell? ⟨gb177, 2, none⟩ = some (.int .i64 a0_2) := kC BK177.out 2 rfl
         have hcz36_3 : wc.cell? ⟨gb177, 3, none⟩ = some (.slice A0_3 l0_3.length c0_3) := kC BK177.out 3 rfl
         have hfz36_0 := blk_frozen BK177.out 0
         have hfz36_1 := blk_frozen BK177.out 1
         have hfz36_2 := blk_frozen BK177.out 2
         have hfz36_3 := blk_frozen BK177.out 3
         go_wp2
         go_meet
         case rel => exact ⟨_, ((a0_1.toList != ([] : List UInt8))), (by first | rfl | (simp; done) | (simp [*]; done) | (have e_ : ∀ l_ : List UInt8, (l_ != []) = !l_.isEmpty := (by intro l_; cases l_ <;> rfl); simp [e_]; done)), H', ⟨by have := HJ1.out; have := HJ21.out; first | omega | exact Nat.le_refl _⟩, ⟨by (with_reducible repeat (first | refine blk_drewN ?_ _ | refine blk_drew ?_ | refine blk_alloc ?_ _)); exact BK177.out⟩, ⟨by repeat (first | (with_reducible first | exact HB.out | apply below_alloc | apply pw_below_drewN | apply below_drew1 | refine below_set ?_ GE177.out) | exact HB.out)⟩⟩
       case rest =>
        clear HC33
        try clear c1
        try clear c2
        try clear p2
        try clear c3
        try clear c5
        try clear c5b0
        try clear c5b1
        try clear c6
        try clear c6b0
        try clear c6b1
        try clear c7
        try clear c7b0
        try clear c7b1
        try clear c8
        try clear c8b0
        try clear c8b1
        try clear c9
        try clear c9b0
        try clear c9b1
        try clear c10
        try clear c10b0
        try clear c10b1
        try clear c11
        try clear c11b0
        try clear c11b1
        try clear c12
        try clear c12b0
        try clear c12b1
        try clear c13
        try clear c13b0
        try clear c13b1
        try clear c14
        try clear c14b0
        try clear c14b1
        try clear c15
        try clear c15b0
        try clear c15b1
        try clear c16
        try clear c16b0
        try clear c16b1
        try clear c17
        try clear c17b0
        try clear c17b1
        try clear c18
        try clear c18b0
        try clear c18b1
        try clear c19
        try clear c19b0
        try clear c19b1
        try clear c20
        try clear c20b0
        try clear c20b1
        try clear c21
        try clear c21b0
        try clear c21b1
        try clear c23
        try clear c27
        try clear c28
        try clear c28b0
        try clear c28b1
        try clear c30
        try clear c35
        try clear hcz25_0
        try clear hcz25_1
        try clear hcz25_2
        try clear hcz25_3
        try clear hcz31_0
        try clear hcz31_1
        try clear hcz31_2
        try clear hcz31_3
        try clear hcz32_0
        try clear hcz32_1
        try clear hcz32_2
        try clear hcz32_3
        try clear hcz34_0
        try clear hcz34_1
        try clear hcz34_2
        try clear hcz34_3
        try clear hcz36_0
        try clear hcz36_1
        try clear hcz36_2
        try clear hcz36_3
        try clear hcz4_0
        try clear hcz4_1
        try clear hcz4_2
        try clear hcz4_3
        try clear hfz25_0
        try clear hfz25_1
        try clear hfz25_2
        try clear hfz25_3
        try clear hfz31_0
        try clear hfz31_1
        try clear hfz31_2
        try clear hfz31_3
        try clear hfz32_0
        try clear hfz32_1
        try clear hfz32_2
        try clear hfz32_3
        try clear hfz34_0
        try clear hfz34_1
        try clear hfz34_2
        try clear hfz34_3
        try clear hfz36_0
        try clear hfz36_1
        try clear hfz36_2
        try clear hfz36_3
        try clear hfz4_0
        try clear hfz4_1
        try clear hfz4_2
        try clear hfz4_3
        try clear p2
        obtain ⟨kq, x54_32, rfl, HA, HJ32, BK177, HB⟩ := hcut
        cases kq with
        | zero => exact absurd HA.out (by simp [spec_l8Has.j2])
        | succ kj32 =>
         have H := HA.out
         clear HA
         simp only [spec_l8Has.j2] at H
         by_cases c37 : x54_32 = true
         ·subst c37
          have H1 : (some false) = some r := by rw [if_pos rfl] at H; exact H
          clear H
          have H := H1
          clear H1
          obtain rfl := Option.some.inj H
          go_wp2
          go_ret
          exact ⟨by first | rfl | (simp [errW_none, errW_some] <;> rfl) | (simp [*, errW_none, errW_some] <;> rfl), by repeat (first | (with_reducible first | exact HB.out | apply below_alloc | apply pw_below_drewN | apply below_drew1 | refine below_set ?_ GE177.out) | exact HB.out)⟩
         ·replace c37 := Bool.eq_false_iff.mpr c37
          subst c37
          have H1 : (if a0_0 = 1 then ((spec_l1In.f a0_2 0 999999999999999).bind fun t181 => (some t181)) else (if a0_0 = 3 then (if a0_2 = 0 then (some true) else (some (a0_2 == 1))) else (if a0_0 = 8 then ((spec_l1In.f a0_2 1 9).bind fun t182 => (some t182)) else (if a0_0 = 9 then ((spec_l1In.f a0_2 1 6).bind fun t183 => (some t183)) else (if a0_0 = 32 then ((spec_l1In.f a0_2 1 4).bind fun t184 => (some t184)) else (if a0_0 = 33 then ((spec_l1In.f a0_2 1 4).bind fun t185 => (some t185)) else (some (a0_2 == 0)))))))) = some r := by rw [if_neg (show ¬ (false = true) by decide)] at H; exact H
          clear H
          have H := H1
          clear H1
          by_cases c38 : a0_0 = 1
          ·rw [if_pos c38] at H
           have c38b0 : (a0_0 == 1) = true := beq_iff_eq.mpr c38
           have c38b1 : (a0_0 != 1) = false := bne_eq_false_iff_eq.mpr c38
           clear c38
           replace H := Option.bind_eq_some_iff.mp H
           obtain ⟨t181, A390, H⟩ := H
           (try dsimp only at H)
           have A39 := Aside0.mk A390
           clear A390
           obtain rfl := Option.some.inj H
           have hcz40_0 : wc.cell? ⟨gb177, 0, none⟩ = some (.int .i64 a0_0) := kC BK177.out 0 rfl
           have hcz40_1 : wc.cell? ⟨gb177, 1, none⟩ = some (.string a0_1) := kC BK177.out 1 rfl
           have hcz40_2 : wc.cell? ⟨gb177, 2, none⟩ = some (.int .i64 a0_2) := kC BK177.out 2 rfl
           have hcz40_3 : wc.cell? ⟨gb177, 3, none⟩ = some (.slice A0_3 l0_3.length c0_3) := kC BK177.out 3 rfl
           have hfz40_0 := blk_frozen BK177.out 0
           have hfz40_1 := blk_frozen BK177.out 1
           have hfz40_2 := blk_frozen BK177.out 2
           have hfz40_3 := blk_frozen BK177.out 3
           go_wp2_with (first | ((with_reducible refine gate_callee (f := 35) rfl ?_); refine goesL_ (some 61) rfl rfl Try.func35 (by kernel_rfl) rfl #[.int .i64 a0_2, .int .i64 0, .int .i64 999999999999999] rfl (by (try simp only [List.map_toArray, List.map_cons, List.map_nil]); first | done | rfl | (simp only [List.length_drop, List.length_take]; rfl)) ?_; (with_reducible refine (spec_l1In.calls a0_2 0 999999999999999 t181 _ A39.out).mono ?_); rintro e w' ⟨rfl, ⟨nd, rfl⟩⟩; refine ⟨_, rfl, ?_⟩))
           go_ret
           exact ⟨by first | rfl | (simp [errW_none, errW_some] <;> rfl) | (simp [*, errW_none, errW_some] <;> rfl), by repeat (first | (with_reducible first | exact HB.out | apply below_alloc | apply pw_below_drewN | apply below_drew1 | refine below_set ?_ GE177.out) | exact HB.out)⟩
          ·rw [if_neg c38] at H
           have c38b0 : (a0_0 == 1) = false := beq_eq_false_iff_ne.mpr c38
           have c38b1 : (a0_0 != 1) = true := bne_iff_ne.mpr c38
           by_cases c41 : a0_0 = 3
           ·rw [if_pos c41] at H
            have c41b0 : (a0_0 == 3) = true := beq_iff_eq.mpr c41
            have c41b1 : (a0_0 != 3) = false := bne_eq_false_iff_eq.mpr c41
            clear c41
            by_cases c42 : a0_2 = 0
            ·rw [if_pos c42] at H
             have c42b0 : (a0_2 == 0) = true := beq_iff_eq.mpr c42
             have c42b1 : (a0_2 != 0) = false := bne_eq_false_iff_eq.mpr c42
             clear c42
             obtain rfl := Option.some.inj H
             have hcz43_0 : wc.cell? ⟨gb177, 0, none⟩ = some (.int .i64 a0_0) := kC BK177.out 0 rfl
             have hcz43_1 : wc.cell? ⟨gb177, 1, none⟩ = some (.string a0_1) := kC BK177.out 1 rfl
             have hcz43_2 : wc.cell? ⟨gb177, 2, none⟩ = some (.int .i64 a0_2) := kC BK177.out 2 rfl
             have hcz43_3 : wc.cell? ⟨gb177, 3, none⟩ = some (.slice A0_3 l0_3.length c0_3) := kC BK177.out 3 rfl
             have hfz43_0 := blk_frozen BK177.out 0
             have hfz43_1 := blk_frozen BK177.out 1
             have hfz43_2 := blk_frozen BK177.out 2
             have hfz43_3 := blk_frozen BK177.out 3
             go_wp2
             go_ret
             exact ⟨by first | rfl | (simp [errW_none, errW_some] <;> rfl) | (simp [*, errW_none, errW_some] <;> rfl), by repeat (first | (with_reducible first | exact HB.out | apply below_alloc | apply pw_below_drewN | apply below_drew1 | refine below_set ?_ GE177.out) | exact HB.out)⟩
            ·rw [if_neg c42] at H
             have c42b0 : (a0_2 == 0) = false := beq_eq_false_iff_ne.mpr c42
             have c42b1 : (a0_2 != 0) = true := bne_iff_ne.mpr c42
             obtain rfl := Option.some.inj H
             have hcz44_0 : wc.cell? ⟨gb177, 0, none⟩ = some (.int .i64 a0_0) := kC BK177.out 0 rfl
             have hcz44_1 : wc.cell? ⟨gb177, 1, none⟩ = some (.string a0_1) := kC BK177.out 1 rfl
             have hcz44_2 : wc.cell? ⟨gb177, 2, none⟩ = some (.int .i64 a0_2) := kC BK177.out 2 rfl
             have hcz44_3 : wc.cell? ⟨gb177, 3, none⟩ = some (.slice A0_3 l0_3.length c0_3) := kC BK177.out 3 rfl
             have hfz44_0 := blk_frozen BK177.out 0
             have hfz44_1 := blk_frozen BK177.out 1
             have hfz44_2 := blk_frozen BK177.out 2
             have hfz44_3 := blk_frozen BK177.out 3
             go_wp2
             go_ret
             exact ⟨by first | rfl | (simp [errW_none, errW_some] <;> rfl) | (simp [*, errW_none, errW_some] <;> rfl), by repeat (first | (with_reducible first | exact HB.out | apply below_alloc | apply pw_below_drewN | apply below_drew1 | refine below_set ?_ GE177.out) | exact HB.out)⟩
           ·rw [if_neg c41] at H
            have c41b0 : (a0_0 == 3) = false := beq_eq_false_iff_ne.mpr c41
            have c41b1 : (a0_0 != 3) = true := bne_iff_ne.mpr c41
            by_cases c45 : a0_0 = 8
            ·rw [if_pos c45] at H
             have c45b0 : (a0_0 == 8) = true := beq_iff_eq.mpr c45
             have c45b1 : (a0_0 != 8) = false := bne_eq_false_iff_eq.mpr c45
             clear c45
             replace H := Option.bind_eq_some_iff.mp H
             obtain ⟨t182, A460, H⟩ := H
             (try dsimp only at H)
             have A46 := Aside0.mk A460
             clear A460
             obtain rfl := Option.some.inj H
             have hcz47_0 : wc.cell? ⟨gb177, 0, none⟩ = some (.int .i64 a0_0) := kC BK177.out 0 rfl
             have hcz47_1 : wc.cell? ⟨gb177, 1, none⟩ = some (.string a0_1) := kC BK177.out 1 rfl
             have hcz47_2 : wc.cell? ⟨gb177, 2, none⟩ = some (.int .i64 a0_2) := kC BK177.out 2 rfl
             have hcz47_3 : wc.cell? ⟨gb177, 3, none⟩ = some (.slice A0_3 l0_3.length c0_3) := kC BK177.out 3 rfl
             have hfz47_0 := blk_frozen BK177.out 0
             have hfz47_1 := blk_frozen BK177.out 1
             have hfz47_2 := blk_frozen BK177.out 2
             have hfz47_3 := blk_frozen BK177.out 3
             go_wp2_with (first | ((with_reducible refine gate_callee (f := 35) rfl ?_); refine goesL_ (some 76) rfl rfl Try.func35 (by kernel_rfl) rfl #[.int .i64 a0_2, .int .i64 1, .int .i64 9] rfl (by (try simp only [List.map_toArray, List.map_cons, List.map_nil]); first | done | rfl | (simp only [List.length_drop, List.length_take]; rfl)) ?_; (with_reducible refine (spec_l1In.calls a0_2 1 9 t182 _ A46.out).mono ?_); rintro e w' ⟨rfl, ⟨nd, rfl⟩⟩; refine ⟨_, rfl, ?_⟩))
             go_ret
             exact ⟨by first | rfl | (simp [errW_none, errW_some] <;> rfl) | (simp [*, errW_none, errW_some] <;> rfl), by repeat (first | (with_reducible first | exact HB.out | apply below_alloc | apply pw_below_drewN | apply below_drew1 | refine below_set ?_ GE177.out) | exact HB.out)⟩
            ·rw [if_neg c45] at H
             have c45b0 : (a0_0 == 8) = false := beq_eq_false_iff_ne.mpr c45
             have c45b1 : (a0_0 != 8) = true := bne_iff_ne.mpr c45
             by_cases c48 : a0_0 = 9
             ·rw [if_pos c48] at H
              have c48b0 : (a0_0 == 9) = true := beq_iff_eq.mpr c48
              have c48b1 : (a0_0 != 9) = false := bne_eq_false_iff_eq.mpr c48
              clear c48
              replace H := Option.bind_eq_some_iff.mp H
              obtain ⟨t183, A490, H⟩ := H
              (try dsimp only at H)
              have A49 := Aside0.mk A490
              clear A490
              obtain rfl := Option.some.inj H
              have hcz50_0 : wc.cell? ⟨gb177, 0, none⟩ = some (.int .i64 a0_0) := kC BK177.out 0 rfl
              have hcz50_1 : wc.cell? ⟨gb177, 1, none⟩ = some (.string a0_1) := kC BK177.out 1 rfl
              have hcz50_2 : wc.cell? ⟨gb177, 2, none⟩ = some (.int .i64 a0_2) := kC BK177.out 2 rfl
              have hcz50_3 : wc.cell? ⟨gb177, 3, none⟩ = some (.slice A0_3 l0_3.length c0_3) := kC BK177.out 3 rfl
              have hfz50_0 := blk_frozen BK177.out 0
              have hfz50_1 := blk_frozen BK177.out 1
              have hfz50_2 := blk_frozen BK177.out 2
              have hfz50_3 := blk_frozen BK177.out 3
              go_wp2_with (first | ((with_reducible refine gate_callee (f := 35) rfl ?_); refine goesL_ (some 81) rfl rfl Try.func35 (by kernel_rfl) rfl #[.int .i64 a0_2, .int .i64 1, .int .i64 6] rfl (by (try simp only [List.map_toArray, List.map_cons, List.map_nil]); first | done | rfl | (simp only [List.length_drop, List.length_take]; rfl)) ?_; (with_reducible refine (spec_l1In.calls a0_2 1 6 t183 _ A49.out).mono ?_); rintro e w' ⟨rfl, ⟨nd, rfl⟩⟩; refine ⟨_, rfl, ?_⟩))
              go_ret
              exact ⟨by first | rfl | (simp [errW_none, errW_some] <;> rfl) | (simp [*, errW_none, errW_some] <;> rfl), by repeat (first | (with_reducible first | exact HB.out | apply below_alloc | apply pw_below_drewN | apply below_drew1 | refine below_set ?_ GE177.out) | exact HB.out)⟩
             ·rw [if_neg c48] at H
              have c48b0 : (a0_0 == 9) = false := beq_eq_false_iff_ne.mpr c48
              have c48b1 : (a0_0 != 9) = true := bne_iff_ne.mpr c48
              by_cases c51 : a0_0 = 32
              ·rw [if_pos c51] at H
               have c51b0 : (a0_0 == 32) = true := beq_iff_eq.mpr c51
               have c51b1 : (a0_0 != 32) = false := bne_eq_false_iff_eq.mpr c51
               clear c51
               replace H := Option.bind_eq_some_iff.mp H
               obtain ⟨t184, A520, H⟩ := H
               (try dsimp only at H)
               have A52 := Aside0.mk A520
               clear A520
               obtain rfl := Option.some.inj H
               have hcz53_0 : wc.cell? ⟨gb177, 0, none⟩ = some (.int .i64 a0_0) := kC BK177.out 0 rfl
               have hcz53_1 : wc.cell? ⟨gb177, 1, none⟩ = some (.string a0_1) := kC BK177.out 1 rfl
               have hcz53_2 : wc.cell? ⟨gb177, 2, none⟩ = some (.int .i64 a0_2) := kC BK177.out 2 rfl
               have hcz53_3 : wc.cell? ⟨gb177, 3, none⟩ = some (.slice A0_3 l0_3.length c0_3) := kC BK177.out 3 rfl
               have hfz53_0 := blk_frozen BK177.out 0
               have hfz53_1 := blk_frozen BK177.out 1
               have hfz53_2 := blk_frozen BK177.out 2
               have hfz53_3 := blk_frozen BK177.out 3
               go_wp2_with (first | ((with_reducible refine gate_callee (f := 35) rfl ?_); refine goesL_ (some 87) rfl rfl Try.func35 (by kernel_rfl) rfl #[.int .i64 a0_2, .int .i64 1, .int .i64 4] rfl (by (try simp only [List.map_toArray, List.map_cons, List.map_nil]); first | done | rfl | (simp only [List.length_drop, List.length_take]; rfl)) ?_; (with_reducible refine (spec_l1In.calls a0_2 1 4 t184 _ A52.out).mono ?_); rintro e w' ⟨rfl, ⟨nd, rfl⟩⟩; refine ⟨_, rfl, ?_⟩))
               go_ret
               exact ⟨by first | rfl | (simp [errW_none, errW_some] <;> rfl) | (simp [*, errW_none, errW_some] <;> rfl), by repeat (first | (with_reducible first | exact HB.out | apply below_alloc | apply pw_below_drewN | apply below_drew1 | refine below_set ?_ GE177.out) | exact HB.out)⟩
              ·rw [if_neg c51] at H
               have c51b0 : (a0_0 == 32) = false := beq_eq_false_iff_ne.mpr c51
               have c51b1 : (a0_0 != 32) = true := bne_iff_ne.mpr c51
               by_cases c54 : a0_0 = 33
               ·rw [if_pos c54] at H
                have c54b0 : (a0_0 == 33) = true := beq_iff_eq.mpr c54
                have c54b1 : (a0_0 != 33) = false := bne_eq_false_iff_eq.mpr c54
                clear c54
                replace H := Option.bind_eq_some_iff.mp H
                obtain ⟨t185, A550, H⟩ := H
                (try dsimp only at H)
                have A55 := Aside0.mk A550
                clear A550
                obtain rfl := Option.some.inj H
                have hcz56_0 : wc.cell? ⟨gb177, 0, none⟩ = some (.int .i64 a0_0) := kC BK177.out 0 rfl
                have hcz56_1 : wc.cell? ⟨gb177, 1, none⟩ = some (.string a0_1) := kC BK177.out 1 rfl
                have hcz56_2 : wc.cell? ⟨gb177, 2, none⟩ = some (.int .i64 a0_2) := kC BK177.out 2 rfl
                have hcz56_3 : wc.cell? ⟨gb177, 3, none⟩ = some (.slice A0_3 l0_3.length c0_3) := kC BK177.out 3 rfl
                have hfz56_0 := blk_frozen BK177.out 0
                have hfz56_1 := blk_frozen BK177.out 1
                have hfz56_2 := blk_frozen BK177.out 2
                have hfz56_3 := blk_frozen BK177.out 3
                go_wp2_with (first | ((with_reducible refine gate_callee (f := 35) rfl ?_); refine goesL_ (some 87) rfl rfl Try.func35 (by kernel_rfl) rfl #[.int .i64 a0_2, .int .i64 1, .int .i64 4] rfl (by (try simp only [List.map_toArray, List.map_cons, List.map_nil]); first | done | rfl | (simp only [List.length_drop, List.length_take]; rfl)) ?_; (with_reducible refine (spec_l1In.calls a0_2 1 4 t185 _ A55.out).mono ?_); rintro e w' ⟨rfl, ⟨nd, rfl⟩⟩; refine ⟨_, rfl, ?_⟩))
                go_ret
                exact ⟨by first | rfl | (simp [errW_none, errW_some] <;> rfl) | (simp [*, errW_none, errW_some] <;> rfl), by repeat (first | (with_reducible first | exact HB.out | apply below_alloc | apply pw_below_drewN | apply below_drew1 | refine below_set ?_ GE177.out) | exact HB.out)⟩
               ·rw [if_neg c54] at H
                have c54b0 : (a0_0 == 33) = false := beq_eq_false_iff_ne.mpr c54
                have c54b1 : (a0_0 != 33) = true := bne_iff_ne.mpr c54
                obtain rfl := Option.some.inj H
                have hcz57_0 : wc.cell? ⟨gb177, 0, none⟩ = some (.int .i64 a0_0) := kC BK177.out 0 rfl
                have hcz57_1 : wc.cell? ⟨gb177, 1, none⟩ = some (.string a0_1) := kC BK177.out 1 rfl
                have hcz57_2 : wc.cell? ⟨gb177, 2, none⟩ = some (.int .i64 a0_2) := kC BK177.out 2 rfl
                have hcz57_3 : wc.cell? ⟨gb177, 3, none⟩ = some (.slice A0_3 l0_3.length c0_3) := kC BK177.out 3 rfl
                have hfz57_0 := blk_frozen BK177.out 0
                have hfz57_1 := blk_frozen BK177.out 1
                have hfz57_2 := blk_frozen BK177.out 2
                have hfz57_3 := blk_frozen BK177.out 3
                go_wp2
                go_ret
                exact ⟨by first | rfl | (simp [errW_none, errW_some] <;> rfl) | (simp [*, errW_none, errW_some] <;> rfl), by repeat (first | (with_reducible first | exact HB.out | apply below_alloc | apply pw_below_drewN | apply below_drew1 | refine below_set ?_ GE177.out) | exact HB.out)⟩

end Go.Proofs.Ytiiakeakfllpjaa.PFnExactFold
