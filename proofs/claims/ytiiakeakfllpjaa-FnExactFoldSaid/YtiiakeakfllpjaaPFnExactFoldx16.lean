-- written by wip/tools/myprint.py out of the program's own print
import Derived.Test.YtiiakeakfllpjaaPFnExactFoldx0
import Derived.Test.YtiiakeakfllpjaaPFnExactFoldx1
import Derived.Test.YtiiakeakfllpjaaPFnExactFoldx7
import Derived.Test.YtiiakeakfllpjaaPFnExactFoldx8
import Derived.Test.YtiiakeakfllpjaaPFnExactFoldx14
import Derived.Test.YtiiakeakfllpjaaPFnExactFoldx15
namespace Go.Proofs.Ytiiakeakfllpjaa.PFnExactFold
open Go.Proofs.Ytiiakeakfllpjaa.Own (rS cS bS rB rN rT kS kC kc10 kf10)
open Go.RowKit Go.Proofs.YtiiakeakfllpjaaW.PrintWords Go.Proofs.YtiiakeakfllpjaaW.PrintLast Go.Proofs.YtiiakeakfllpjaaW.PrintMore
attribute [local go_sem] max2_int min2_int max_two min_two max_three min_three max_four min_four   -- for this text's walks alone
set_option linter.unusedVariables false
set_option linter.unusedSimpArgs false

/-! ### laws_markTree: function 9 -/
def laws_markTree.f (k : Nat) (l0_0 : List S56) (l0_1 : List Int) (a1 : Int) : Option (Int × List S56 × List Int) :=
  (laws_markNodeS.f k l0_0 a1).bind fun p => (laws_markIntS.f k l0_1 p.1).bind fun q => some (q.1, p.2, q.2)
theorem mtx0 (w : World) (u v : Value) : (w.alloc (.cells #[u, v] 29)).cell? ⟨w.heap.size, 0, none⟩ = some u := by simp
theorem mtx1 (w : World) (u v : Value) : (w.alloc (.cells #[u, v] 29)).cell? ⟨w.heap.size, 1, none⟩ = some v := by simp
theorem mtKeep {w w' : World} {S : Nat → Prop} (hk : Kept w w' S) {b o : Nat} {v : Value} (hc : w.cell? ⟨b, o, none⟩ = some v) (hn : ¬ S b) : w'.cell? ⟨b, o, none⟩ = some v := by
  have h := hk.2 b (World.block_lt_of_cell? w _ hc) hn
  rw [← hc]
  unfold World.cell?
  rw [h]
set_option maxHeartbeats 8000000 in
set_option maxRecDepth 100000 in
theorem laws_markTree.calls (k : Nat) (P0_0_ : Nat → Prop) (u9000_ : Value) (l0_0 : List S56) (P0_1_ : Nat → Prop) (u9001_ : Value) (l0_1 : List Int) (a1 : Int) (r1 : Int) (r2 : List S56) (r3 : List Int) (w0 w : World) (hB : Below w0.heap.size w0 w) (ho0_0 : Kd.S k56 56 w w0.heap.size P0_0_ u9000_ l0_0) (hp0_0_0_1 : ∀ k_, P0_0_ k_ → ¬ P0_1_ k_) (ho0_1 : Kd.R (Kd.int .i64) 3 w w0.heap.size P0_1_ u9001_ l0_1) (hp0_1_0_0 : ∀ k_, P0_1_ k_ → ¬ P0_0_ k_) (h : laws_markTree.f k l0_0 l0_1 a1 = some (r1, r2, r3)) :
    Calls Try.prog 9 #[.agg #[u9000_, u9001_], .int .i64 a1] w fun e w' => e = .returned (.int .i64 r1) ∧ Kd.S k56 56 w' w0.heap.size (fun k_ => ((P0_0_ k_ ∨ P0_1_ k_) ∨ w.heap.size ≤ k_)) u9000_ r2 ∧ Kd.R (Kd.int .i64) 3 w' w0.heap.size (fun k_ => ((P0_0_ k_ ∨ P0_1_ k_) ∨ w.heap.size ≤ k_)) u9001_ r3 ∧ Below w0.heap.size w0 w' ∧ Kept w w' (fun k_ => P0_0_ k_ ∨ P0_1_ k_) := by
  have hu59 := Try.underlying29
  unfold laws_markTree.f at h
  obtain ⟨⟨p1, p2⟩, hp, h⟩ := Option.bind_eq_some_iff.mp h
  obtain ⟨⟨q1, q2⟩, hq, h⟩ := Option.bind_eq_some_iff.mp h
  dsimp only at hq h
  cases h
  obtain ⟨A0, c0, e0⟩ := Kd.S_slice ho0_0
  subst e0
  obtain ⟨A1, c1, e1⟩ := Kd.R_slice ho0_1
  subst e1
  have HP := Aside0.mk hp
  have HQ := Aside0.mk hq
  have hbx : Below w.heap.size w (w.alloc (.cells #[.slice A0 l0_0.length c0, .slice A1 l0_1.length c1] 29)) := below_alloc (Below.refl _ _) _
  have HBX := Aside0.mk hbx
  have HSZ := Aside0.mk (show (w.alloc (.cells #[.slice A0 l0_0.length c0, .slice A1 l0_1.length c1] 29)).heap.size = w.heap.size + 1 from World.size_alloc ..)
  have HS := Aside0.mk (Kd.S_below (Kd.S_mono (ok' := fun k => P0_0_ k ∧ k < w.heap.size) (Kd.S_bound ho0_0) (fun k hk => ⟨hk.1, hk.2.2.1⟩)) hbx)
  have HR := Aside0.mk (Kd.R_below (Kd.R_mono (ok' := fun k => P0_1_ k ∧ k < w.heap.size) (Kd.R_bound ho0_1) (fun k hk => ⟨hk.1, hk.2.2.1⟩)) hbx)
  have HB := Aside0.mk (below_step hB hbx)
  have HN1 := Aside0.mk hp0_0_0_1
  have HN2 := Aside0.mk hp0_1_0_0
  have hb0 := mtx0 w (.slice A0 l0_0.length c0) (.slice A1 l0_1.length c1)
  have hb1 := mtx1 w (.slice A0 l0_0.length c0) (.slice A1 l0_1.length c1)
  clear hp hq ho0_0 ho0_1 hbx hp0_0_0_1 hp0_1_0_0 hB
  go_enter Try.func9, Try.ntmps9
  go_wp2_with (first
    | (go_at_call 21; (with_reducible refine (laws_markNodeS.calls k _ _ l0_0 a1 p1 r2 w0 _ HB.out HS.out HP.out).mono ?_); rintro e w5 ⟨rfl, hS5, hb5, hk5⟩;
        have hc1 := mtKeep hk5 hb1 (fun hk => Nat.lt_irrefl _ hk.2);
        have HR5 := Aside0.mk (Kd.R_kept HR.out hk5 (fun k hk hs => HN2.out k hk.1 hs.1));
        have HS5 := Aside0.mk hS5; have HB5 := Aside0.mk hb5; have HK5 := Aside0.mk hk5; clear hS5 hb5 hk5 hb0 hb1)
    | (go_at_call 22; (with_reducible refine (laws_markIntS.calls k _ _ l0_1 p1 r1 r3 w0 _ HB5.out HR5.out HQ.out).mono ?_); rintro e w6 ⟨rfl, hR6, hb6, hk6⟩; have HR6 := Aside0.mk hR6; have HB6 := Aside0.mk hb6; have HK6 := Aside0.mk hk6; clear hR6 hb6 hk6))
  go_ret
  have hz := HSZ.out
  refine ⟨rfl, ?_, ?_, HB6.out, ?_⟩
  · refine Kd.S_mono (Kd.S_step HS5.out (fun k hk hlt => HK6.out.2 k hlt (fun h1 => ?_))) (fun k hk => ?_)
    · rcases hk with hk | hk
      · exact HN1.out k hk.1 h1.1
      · have := h1.2; omega
    · rcases hk with hk | hk
      · exact .inl (.inl hk.1)
      · exact .inr (by omega)
  · refine Kd.R_mono HR6.out (fun k hk => ?_)
    rcases hk with hk | hk
    · exact .inl (.inr hk.1)
    · exact .inr (by have := HK5.out.1; omega)
  · refine ((Kept.of_below HBX.out _).then_ HK5.out (fun k hk => .inl (.inl hk.1))).then_ HK6.out (fun k hk => .inl (.inr hk.1))

/-! ### laws_heldIntS: function 24 -/
def laws_heldIntS.l0 : Nat → List Int → Int → Int → Option (Int)
  | 0, _, _, _ => none
  | k + 1, x0, x1, x5 => if x5 < (x0.length : Int) then (if 0 ≤ x5 then (if (rd x0 x5) = x1 then (laws_heldIntS.l0 k x0 (wrap64 (x1 + 1)) (wrap64 (x5 + 1))) else (none)) else (none)) else (some x1)
def laws_heldIntS.f (k : Nat) (l0 : List Int) (a1 : Int) : Option (Int) := laws_heldIntS.l0 k l0 a1 0
set_option maxHeartbeats 8000000 in
set_option maxRecDepth 100000 in
theorem laws_heldIntS.calls (k : Nat) (A0 : Option Addr) (c0 : Nat) (l0 : List Int) (a1 : Int) (r : Int) (w : World) (hr0 : Kd.C (Kd.int .i64) w A0 l0.length l0) (hc0 : l0.length ≤ c0) (h : laws_heldIntS.f k l0 a1 = some r) :
    Calls Try.prog 24 #[.slice A0 l0.length c0, .int .i64 a1] w fun e w' => e = .returned (.int .i64 r) ∧ Drawn0 w w' := by
  have HR0 := Aside0.mk hr0
  have HC0 := Aside0.mk hc0
  clear hr0 hc0
  have H : (laws_heldIntS.l0 k l0 a1 0) = some r := h
  clear h
  have H' := Aside0.mk H
  clear H
  go_enter Try.func24, Try.ntmps24
  go_wp2
  go_loopg [1, 5] k (fun kq v1 v5 w' => ∃ (x1_1 : Int) (x5_1 : Int), v1 = .int .i64 x1_1 ∧ v5 = .int .i64 x5_1 ∧ Aside0 (laws_heldIntS.l0 kq l0 x1_1 x5_1 = some r) ∧ Aside0 (kq ≤ k) ∧ Drawn0 w w')
  case atStart => exact ⟨(a1), (0), (by first | rfl | (simp; done) | (simp [*]; done)), (by first | rfl | (simp; done) | (simp [*]; done)), H', ⟨Nat.le_refl _⟩, by repeat (first | exact Drawn0.refl _ | apply Drawn0.step)⟩
  case round =>
    clear H'
    try clear c2
    try clear p2
    obtain ⟨x1_1, x5_1, rfl, rfl, HA, HK1, ⟨m1, rfl⟩⟩ := hrel
    cases gk with
    | zero => exact absurd HA.out (by simp [laws_heldIntS.l0])
    | succ k1 =>
      have H := HA.out
      clear HA
      simp only [laws_heldIntS.l0] at H
      by_cases c3 : x5_1 < (l0.length : Int)
      · rw [if_pos c3] at H
        have c3b0 : decide (x5_1 < (l0.length : Int)) = true := decide_eq_true c3
        clear c3
        by_cases c4 : 0 ≤ x5_1
        · rw [if_pos c4] at H
          have c4b0 : decide (0 ≤ x5_1) = true := decide_eq_true c4
          clear c4
          by_cases c5 : (rd l0 x5_1) = x1_1
          · rw [if_pos c5] at H
            have c5b0 : ((rd l0 x5_1) == x1_1) = true := beq_iff_eq.mpr c5
            have c5b1 : ((rd l0 x5_1) != x1_1) = false := bne_eq_false_iff_eq.mpr c5
            clear c5
            have H' := Aside0.mk H
            clear H
            have p300 : 0 ≤ (x5_1 : Int) := of_decide_eq_true (by first | (with_reducible assumption) | assumption)
            have q300 : x5_1 < (l0.length : Int) := of_decide_eq_true (by first | (with_reducible assumption) | assumption)
            obtain ⟨ad300, e300, hx300_0⟩ := Kd.at_int HR0.out x5_1 p300 q300
            cases e300
            replace p300 := eq_true p300
            replace q300 := eq_true q300
            go_wp2
            go_roundg k1
            case measure => have := HK1.out; omega
            case rel => exact ⟨(wrap64 (x1_1 + 1)), (wrap64 (x5_1 + 1)), (by first | rfl | (simp; done) | (simp [*]; done)), (by first | rfl | (simp; done) | (simp [*]; done)), H', ⟨by have := HK1.out; omega⟩, by repeat (first | exact Drawn0.refl _ | apply Drawn0.step)⟩
          · rw [if_neg c5] at H
            exact absurd H (by simp)
        · rw [if_neg c4] at H
          exact absurd H (by simp)
      · rw [if_neg c3] at H
        have c3b0 : decide (x5_1 < (l0.length : Int)) = false := decide_eq_false c3
        clear c3
        obtain rfl := Option.some.inj H
        go_wp2
        go_ret
        exact ⟨by first | rfl | (simp; done) | (simp [*]; done), by repeat (first | exact Drawn0.refl _ | apply Drawn0.step)⟩

/-! ### laws_heldNodeS: function 23 -/
def laws_heldNodeS.l0 : Nat → List (S56) → Int → Int → Option (Int)
 | 0, _, _, _ => none
 | k + 1, x0, x1, x5 => if x5 < (x0.length : Int) then (if 0 ≤ x5 then (if ((rd_T56 x0 x5).f0) = x1 then ((laws_markText.f k (wrap64 (x1 + 1))).bind fun t303 => (if ((rd_T56 x0 x5).f1).toList = t303.toList then (if ((rd_T56 x0 x5).f2) = (wrap64 ((wrap64 (x1 + 1)) + 1)) then ((laws_heldIntS.f k ((rd_T56 x0 x5).f3) (wrap64 ((wrap64 ((wrap64 (x1 + 1)) + 1)) + 1))).bind fun t306 => (if t306 < 0 then (none) else (laws_heldNodeS.l0 k x0 t306 (wrap64 (x5 + 1))))) else (none)) else (none))) else (none)) else (none)) else (some x1)
def laws_heldNodeS.f (k : Nat) (l0 : List (S56)) (a1 : Int) : Option (Int) := laws_heldNodeS.l0 k l0 a1 0
def laws_heldNodeS.T7 : Bool × List (List Nat × List Nat) := (true, [([], []), ([], []), ([0, 1], [0, 1]), ([2], [2]), ([3], [3]), ([], []), ([5], [5]), ([4, 6], [4, 6])])
def laws_heldNodeS.B7 : List Nat := [0, 0, 3, 7, 15, 0, 32, 127]
theorem laws_heldNodeS.tab7 : rtab .any (opsOf Try.f23 7) = laws_heldNodeS.T7 := by kernel_rfl
theorem laws_heldNodeS.bits7 : waitsOk laws_heldNodeS.T7.2 laws_heldNodeS.B7 = true := by kernel_rfl
set_option maxHeartbeats 8000000 in
set_option maxRecDepth 100000 in
theorem laws_heldNodeS.calls (k : Nat) (A0 : Option Addr) (c0 : Nat) (l0 : List (S56)) (a1 : Int) (r : Int) (w : World) (hr0 : Kd.C k56 w A0 l0.length l0) (hc0 : l0.length ≤ c0) (h : laws_heldNodeS.f k l0 a1 = some r) :
  Calls Try.prog 23 #[.slice A0 l0.length c0, .int .i64 a1] w fun e w' => e = .returned (.int .i64 r) ∧ Below w.heap.size w w' := by
 have HR0 := Aside0.mk hr0
 have HC0 := Aside0.mk hc0
 clear hr0 hc0
 have HB := Aside0.mk (Below.refl w.heap.size w)
 have H : (laws_heldNodeS.l0 k l0 a1 0) = some r := h
 clear h
 have H' := Aside0.mk H
 clear H
 go_enter Try.func23, Try.ntmps23
 go_wp2
 go_loopg [1, 5] k (fun kq v1 v5 w' => ∃ (x1_1 : Int) (x5_1 : Int), v1 = .int .i64 x1_1 ∧ v5 = .int .i64 x5_1 ∧ Aside0 (laws_heldNodeS.l0 kq l0 x1_1 x5_1 = some r) ∧ Aside0 (kq ≤ k) ∧ Aside0 (Below w.heap.size w w'))
 case atStart => exact ⟨(a1), (0), (by first | rfl | (simp; done) | (simp [*]; done)), (by first | rfl | (simp; done) | (simp [*]; done)), H', ⟨Nat.le_refl _⟩, ⟨by repeat (first | (with_reducible first | exact HB.out | apply below_alloc | apply pw_below_drewN | apply below_drew1) | exact HB.out)⟩⟩
 case round =>
  clear H'
  try clear c2
  try clear p2
  obtain ⟨x1_1, x5_1, rfl, rfl, HA, HK1, HB⟩ := hrel
  cases gk with
  | zero => exact absurd HA.out (by simp [laws_heldNodeS.l0])
  | succ k1 =>
   have H := HA.out
   clear HA
   simp only [laws_heldNodeS.l0] at H
   by_cases c3 : x5_1 < (l0.length : Int)
   ·rw [if_pos c3] at H
    have c3b0 : decide (x5_1 < (l0.length : Int)) = true := decide_eq_true c3
    clear c3
    by_cases c4 : 0 ≤ x5_1
    ·rw [if_pos c4] at H
     have c4b0 : decide (0 ≤ x5_1) = true := decide_eq_true c4
     clear c4
     by_cases c5 : ((rd_T56 l0 x5_1).f0) = x1_1
     ·rw [if_pos c5] at H
      have c5b0 : (((rd_T56 l0 x5_1).f0) == x1_1) = true := beq_iff_eq.mpr c5
      have c5b1 : (((rd_T56 l0 x5_1).f0) != x1_1) = false := bne_eq_false_iff_eq.mpr c5
      clear c5
      replace H := Option.bind_eq_some_iff.mp H
      obtain ⟨t303, A60, H⟩ := H
      (try dsimp only at H)
      have A6 := Aside0.mk A60
      clear A60
      by_cases c7 : ((rd_T56 l0 x5_1).f1).toList = t303.toList
      ·rw [if_pos c7] at H
       have c7b0 : (((rd_T56 l0 x5_1).f1).toList == t303.toList) = true := beq_iff_eq.mpr c7
       have c7b1 : (((rd_T56 l0 x5_1).f1).toList != t303.toList) = false := bne_eq_false_iff_eq.mpr c7
       clear c7
       by_cases c8 : ((rd_T56 l0 x5_1).f2) = (wrap64 ((wrap64 (x1_1 + 1)) + 1))
       ·rw [if_pos c8] at H
        have c8b0 : (((rd_T56 l0 x5_1).f2) == (wrap64 ((wrap64 (x1_1 + 1)) + 1))) = true := beq_iff_eq.mpr c8
        have c8b1 : (((rd_T56 l0 x5_1).f2) != (wrap64 ((wrap64 (x1_1 + 1)) + 1))) = false := bne_eq_false_iff_eq.mpr c8
        clear c8
        replace H := Option.bind_eq_some_iff.mp H
        obtain ⟨t306, A90, H⟩ := H
        (try dsimp only at H)
        have A9 := Aside0.mk A90
        clear A90
        by_cases c10 : t306 < 0
        ·rw [if_pos c10] at H
         exact absurd H (by simp)
        ·rw [if_neg c10] at H
         have c10b0 : decide (t306 < 0) = false := decide_eq_false c10
         clear c10
         have H' := Aside0.mk H
         clear H
         have p301 : 0 ≤ (x5_1 : Int) := of_decide_eq_true (by first | (with_reducible assumption) | assumption)
         have q301 : x5_1 < (l0.length : Int) := of_decide_eq_true (by first | (with_reducible assumption) | assumption)
         obtain ⟨ad301, A301_3, c301_3, e301, hx301_0, hx301_1, hx301_2, hx301_3, hl301_3, hi301_3⟩ := at_T56 HR0.out x5_1 p301 q301
         cases e301
         replace hx301_0 := (HB.out.cell (World.block_lt_of_cell? w _ hx301_0)).trans hx301_0
         replace hx301_1 := (HB.out.cell (World.block_lt_of_cell? w _ hx301_1)).trans hx301_1
         replace hx301_2 := (HB.out.cell (World.block_lt_of_cell? w _ hx301_2)).trans hx301_2
         replace hx301_3 := (HB.out.cell (World.block_lt_of_cell? w _ hx301_3)).trans hx301_3
         have HR301_3 := Aside0.mk hi301_3
         have HC301_3 := Aside0.mk hl301_3
         clear hi301_3 hl301_3
         replace p301 := eq_true p301
         replace q301 := eq_true q301
         try go_wp2
         replace HB := Aside0.mk (below_drew1 HB.out)
         have p302 : 0 ≤ (x5_1 : Int) := of_decide_eq_true (by first | (with_reducible assumption) | assumption)
         have q302 : x5_1 < (l0.length : Int) := of_decide_eq_true (by first | (with_reducible assumption) | assumption)
         obtain ⟨ad302, A302_3, c302_3, e302, hx302_0, hx302_1, hx302_2, hx302_3, hl302_3, hi302_3⟩ := at_T56 HR0.out x5_1 p302 q302
         have hw302_3 := hx302_3
         have hw302_2 := hx302_2
         have hw302_1 := hx302_1
         have hw302_0 := hx302_0
         obtain rfl : ad301 = ad302 := (by injection e302)
         replace hx302_0 := (HB.out.cell (World.block_lt_of_cell? w _ hx302_0)).trans hx302_0
         replace hx302_1 := (HB.out.cell (World.block_lt_of_cell? w _ hx302_1)).trans hx302_1
         replace hx302_2 := (HB.out.cell (World.block_lt_of_cell? w _ hx302_2)).trans hx302_2
         replace hx302_3 := (HB.out.cell (World.block_lt_of_cell? w _ hx302_3)).trans hx302_3
         have HR302_3 := Aside0.mk hi302_3
         have HC302_3 := Aside0.mk hl302_3
         clear hi302_3 hl302_3
         replace p302 := eq_true p302
         replace q302 := eq_true q302
         refine start_ (n := 8) (S := fun w' => w'.cell? (ad301.add ((x5_1).toNat * 4)) = some (.int .i64 ((rd_T56 l0 x5_1).f0)) ∧ w'.cell? ⟨(ad301.add ((x5_1).toNat * 4)).block, (ad301.add ((x5_1).toNat * 4)).off + 1, none⟩ = some (.string ((rd_T56 l0 x5_1).f1)) ∧ w'.cell? ⟨(ad301.add ((x5_1).toNat * 4)).block, (ad301.add ((x5_1).toNat * 4)).off + 2, none⟩ = some (.int .i64 ((rd_T56 l0 x5_1).f2)) ∧ w'.cell? ⟨(ad301.add ((x5_1).toNat * 4)).block, (ad301.add ((x5_1).toNat * 4)).off + 3, none⟩ = some (.slice A302_3 ((rd_T56 l0 x5_1).f3).length c302_3)) (ds := []) #[false, false, false, false, false, false, false, false] (by kernel_rfl) rfl rfl ⟨((HB.out.cell (World.block_lt_of_cell? w _ hw302_0)).trans hw302_0), ((HB.out.cell (World.block_lt_of_cell? w _ hw302_1)).trans hw302_1), ((HB.out.cell (World.block_lt_of_cell? w _ hw302_2)).trans hw302_2), ((HB.out.cell (World.block_lt_of_cell? w _ hw302_3)).trans hw302_3)⟩ (fun hHeld => ?_); refine with_tabW laws_heldNodeS.tab7 laws_heldNodeS.bits7 (fun HT_ HW_ => ?_)
         generalize wr.drew = w11 at HB HR302_3 hx302_0 hx302_1 hx302_2 hx302_3 hHeld ⊢
         refine pure_ (i := 0) (N := some 21) (v := ?_) (a' := ?_) #[true, false, false, false, false, false, false, false] rfl rfl (any_of HT_.out (by kernel_rfl)) (fun _ _ _ h => h) (Or.inl ⟨by rfl, ?_⟩) ?_ ?_
         rotate_left
         ·intro w'
          go_simp
          with_reducible rfl
         rotate_left
         ·simp only [Act.put, List.setIfInBounds_toArray, List.set_cons_zero, List.set_cons_succ, i64_w, i32_w]
          rfl
         refine pure_ (i := 1) (N := some 22) (v := ?_) (a' := ?_) #[true, true, false, false, false, false, false, false] rfl rfl (any_of HT_.out (by kernel_rfl)) (fun _ _ _ h => h) (Or.inl ⟨by rfl, ?_⟩) ?_ ?_
         rotate_left
         ·intro w'
          go_simp
          with_reducible rfl
         rotate_left
         ·simp only [Act.put, List.setIfInBounds_toArray, List.set_cons_zero, List.set_cons_succ, i64_w, i32_w]
          rfl
         refine pure_ (i := 2) (N := some 23) (v := ?_) (a' := ?_) #[true, true, true, false, false, false, false, false] rfl rfl (any_of HT_.out (by kernel_rfl)) (fun _ _ _ h => h) (Or.inl ⟨by rfl, ?_⟩) ?_ ?_
         rotate_left
         ·intro w'
          go_simp
          with_reducible rfl
         rotate_left
         ·simp only [Act.put, List.setIfInBounds_toArray, List.set_cons_zero, List.set_cons_succ, i64_w, i32_w]
          rfl
         refine pure_ (i := 3) (N := some 24) (v := ?_) (a' := ?_) #[true, true, true, true, false, false, false, false] rfl rfl (any_of HT_.out (by kernel_rfl)) (fun _ _ _ h => h) (Or.inl ⟨by rfl, ?_⟩) ?_ ?_
         rotate_left
         ·intro w'
          go_simp
          with_reducible rfl
         rotate_left
         ·simp only [Act.put, List.setIfInBounds_toArray, List.set_cons_zero, List.set_cons_succ, i64_w, i32_w]
          rfl
         refine pure_ (i := 5) (N := some 26) (v := ?_) (a' := ?_) #[true, true, true, true, false, true, false, false] rfl rfl (any_of HT_.out (by kernel_rfl)) (fun _ _ _ h => h) (Or.inl ⟨by rfl, ?_⟩) ?_ ?_
         rotate_left
         ·intro w'
          go_simp
          with_reducible rfl
         rotate_left
         ·simp only [Act.put, List.setIfInBounds_toArray, List.set_cons_zero, List.set_cons_succ, i64_w, i32_w]
          rfl
         refine take_ (i := 4) (N := some 25) (v := ?_) (a' := ?_) #[true, true, true, true, true, true, false, false] rfl rfl (take_ofW HT_.out HW_.out (by kernel_rfl)) (fun _ _ _ h => h) (Or.inl ⟨by rfl, ?_⟩) hHeld ?_ ?_
         rotate_left
         ·rintro w' ⟨s0, s1, s2, s3⟩
          go_simp
          with_reducible rfl
         rotate_left
         ·simp only [Act.put, List.setIfInBounds_toArray, List.set_cons_zero, List.set_cons_succ, i64_w, i32_w]
          rfl
         refine one_ (i := 6) (N := some 27) #[true, true, true, true, true, true, true, false] rfl rfl (one_of HT_.out (by kernel_rfl)) (by decide) (fun K hK => ?_)
         refine goes_ Try.func34 (by kernel_rfl) rfl #[.int .i64 (wrap64 (x1_1 + 1))] (by rfl) rfl rfl (by (try simp only [List.map_toArray, List.map_cons, List.map_nil]); first | done | rfl | (simp only [List.length_drop, List.length_take]; rfl)) ?_
         with_reducible refine (laws_markText.calls k1 (wrap64 (x1_1 + 1)) t303 _ A6.out).mono ?_
         rintro e w12 ⟨rfl, hb⟩
         refine ⟨_, rfl, ?_⟩
         replace HB := Aside0.mk (below_step (bS HB.out) hb)
         (try clear hb)
         (try clear hb2)
         (try clear hk)
         (try clear hi)
         refine hK.out _ _ ⟨((HB.out.cell (World.block_lt_of_cell? w _ hw302_0)).trans hw302_0), ((HB.out.cell (World.block_lt_of_cell? w _ hw302_1)).trans hw302_1), ((HB.out.cell (World.block_lt_of_cell? w _ hw302_2)).trans hw302_2), ((HB.out.cell (World.block_lt_of_cell? w _ hw302_3)).trans hw302_3)⟩ (fun hHeld => ?_)
         clear hK K
         refine norm_ (a' := ?_) ?_ ?_
         rotate_left
         ·show Act.put _ (some 27) _ = _
          simp only [Act.put, List.setIfInBounds_toArray, List.set_cons_zero, List.set_cons_succ, i64_w, i32_w]
          rfl
         refine pure_ (i := 7) (N := some 28) (v := ?_) (a' := ?_) #[true, true, true, true, true, true, true, true] rfl rfl (any_of HT_.out (by kernel_rfl)) (fun _ _ _ h => h) (Or.inl ⟨by rfl, ?_⟩) ?_ ?_
         rotate_left
         ·intro w'
          go_simp
          with_reducible rfl
         rotate_left
         ·simp only [Act.put, List.setIfInBounds_toArray, List.set_cons_zero, List.set_cons_succ, i64_w, i32_w]
          rfl
         refine done_ (done_of HT_.out (by kernel_rfl)) ?_
         have p304 : 0 ≤ (x5_1 : Int) := of_decide_eq_true (by first | (with_reducible assumption) | assumption)
         have q304 : x5_1 < (l0.length : Int) := of_decide_eq_true (by first | (with_reducible assumption) | assumption)
         obtain ⟨ad304, A304_3, c304_3, e304, hx304_0, hx304_1, hx304_2, hx304_3, hl304_3, hi304_3⟩ := at_T56 HR0.out x5_1 p304 q304
         have hw304_3 := hx304_3
         obtain rfl : ad301 = ad304 := (by injection e304)
         replace hx304_0 := (HB.out.cell (World.block_lt_of_cell? w _ hx304_0)).trans hx304_0
         replace hx304_1 := (HB.out.cell (World.block_lt_of_cell? w _ hx304_1)).trans hx304_1
         replace hx304_2 := (HB.out.cell (World.block_lt_of_cell? w _ hx304_2)).trans hx304_2
         replace hx304_3 := (HB.out.cell (World.block_lt_of_cell? w _ hx304_3)).trans hx304_3
         have HR304_3 := Aside0.mk hi304_3
         have HC304_3 := Aside0.mk hl304_3
         clear hi304_3 hl304_3
         replace p304 := eq_true p304
         replace q304 := eq_true q304
         have p305 : 0 ≤ (x5_1 : Int) := of_decide_eq_true (by first | (with_reducible assumption) | assumption)
         have q305 : x5_1 < (l0.length : Int) := of_decide_eq_true (by first | (with_reducible assumption) | assumption)
         obtain ⟨ad305, A305_3, c305_3, e305, hx305_0, hx305_1, hx305_2, hx305_3, hl305_3, hi305_3⟩ := at_T56 HR0.out x5_1 p305 q305
         obtain rfl : ad301 = ad305 := (by injection e305)
         replace hx305_0 := (HB.out.cell (World.block_lt_of_cell? w _ hx305_0)).trans hx305_0
         replace hx305_1 := (HB.out.cell (World.block_lt_of_cell? w _ hx305_1)).trans hx305_1
         replace hx305_2 := (HB.out.cell (World.block_lt_of_cell? w _ hx305_2)).trans hx305_2
         replace hx305_3 := (HB.out.cell (World.block_lt_of_cell? w _ hx305_3)).trans hx305_3
         have HR305_3 := Aside0.mk hi305_3
         have HC305_3 := Aside0.mk hl305_3
         clear hi305_3 hl305_3
         replace p305 := eq_true p305
         replace q305 := eq_true q305
         have ea_ := Option.some.inj (hx304_3.symm.trans hx305_3)
         injection ea_ with ea_ en_ ec_
         subst ea_
         subst ec_
         clear en_
         (try (have eb_ := Option.some.inj (hw304_3.symm.trans hw301_3); injection eb_ with eb_ en_ ec_; subst eb_; subst ec_; clear en_))
         (try (have eb_ := Option.some.inj (hw304_3.symm.trans hw302_3); injection eb_ with eb_ en_ ec_; subst eb_; subst ec_; clear en_))
         try go_wp2_with (first | ((with_reducible refine gate_callee (f := 24) rfl ?_); refine goesL_ (some 46) rfl rfl Try.func24 (by kernel_rfl) rfl #[.slice A304_3 ((rd_T56 l0 x5_1).f3).length c304_3, .int .i64 (wrap64 ((wrap64 ((wrap64 (x1_1 + 1)) + 1)) + 1))] rfl (by (try simp only [List.map_toArray, List.map_cons, List.map_nil]); first | done | rfl | (simp only [List.length_drop, List.length_take]; rfl)) ?_; (with_reducible refine (laws_heldIntS.calls k1 _ _ ((rd_T56 l0 x5_1).f3) (wrap64 ((wrap64 ((wrap64 (x1_1 + 1)) + 1)) + 1)) t306 _ ?side1 ?side2 A9.out).mono ?_); (case side1 => exact cS (Kd.C_below HR305_3.out HB.out)); (case side2 => exact HC305_3.out); rintro e w' ⟨rfl, ⟨nd, rfl⟩⟩; refine ⟨_, rfl, ?_⟩))
         go_roundg k1
         case measure => have := HK1.out; omega
         case rel => exact ⟨(t306), (wrap64 (x5_1 + 1)), (by first | rfl | (simp; done) | (simp [*]; done)), (by first | rfl | (simp; done) | (simp [*]; done)), H', ⟨by have := HK1.out; omega⟩, ⟨by repeat (first | (with_reducible first | exact HB.out | apply below_alloc | apply pw_below_drewN | apply below_drew1) | exact HB.out)⟩⟩
       ·rw [if_neg c8] at H
        exact absurd H (by simp)
      ·rw [if_neg c7] at H
       exact absurd H (by simp)
     ·rw [if_neg c5] at H
      exact absurd H (by simp)
    ·rw [if_neg c4] at H
     exact absurd H (by simp)
   ·rw [if_neg c3] at H
    have c3b0 : decide (x5_1 < (l0.length : Int)) = false := decide_eq_false c3
    clear c3
    obtain rfl := Option.some.inj H
    go_wp2
    go_ret
    exact ⟨by first | rfl | (simp [errW_none, errW_some] <;> rfl) | (simp [*, errW_none, errW_some] <;> rfl), by repeat (first | (with_reducible first | exact HB.out | apply below_alloc | apply pw_below_drewN | apply below_drew1) | exact HB.out)⟩

/-! ### laws_heldTree: function 10 -/
def laws_heldTree.f (k : Nat) (l0_0 : List (S56)) (l0_1 : List Int) (a1 : Int) : Option (Int) := (laws_heldNodeS.f k l0_0 a1).bind fun t308 => (if t308 < 0 then (none) else ((laws_heldIntS.f k l0_1 t308).bind fun t309 => (if t309 < 0 then (none) else (some t309))))
set_option maxHeartbeats 8000000 in
set_option maxRecDepth 100000 in
theorem laws_heldTree.calls (k : Nat) (A0_0 : Option Addr) (c0_0 : Nat) (l0_0 : List (S56)) (A0_1 : Option Addr) (c0_1 : Nat) (l0_1 : List Int) (a1 : Int) (r : Int) (w : World) (hr0_0 : Kd.C k56 w A0_0 l0_0.length l0_0) (hc0_0 : l0_0.length ≤ c0_0) (hr0_1 : Kd.C (Kd.int .i64) w A0_1 l0_1.length l0_1) (hc0_1 : l0_1.length ≤ c0_1) (h : laws_heldTree.f k l0_0 l0_1 a1 = some r) :
    Calls Try.prog 10 #[.agg #[.slice A0_0 l0_0.length c0_0, .slice A0_1 l0_1.length c0_1], .int .i64 a1] w fun e w' => e = .returned (.int .i64 r) ∧ Below w.heap.size w w' := by
  have hu29 := Try.underlying29
  have HR0_0 := Aside0.mk hr0_0
  have HC0_0 := Aside0.mk hc0_0
  clear hr0_0 hc0_0
  have HR0_1 := Aside0.mk hr0_1
  have HC0_1 := Aside0.mk hc0_1
  clear hr0_1 hc0_1
  have HB := Aside0.mk (Below.refl w.heap.size w)
  have H : ((laws_heldNodeS.f k l0_0 a1).bind fun t308 => (if t308 < 0 then (none) else ((laws_heldIntS.f k l0_1 t308).bind fun t309 => (if t309 < 0 then (none) else (some t309))))) = some r := h
  clear h
  replace H := Option.bind_eq_some_iff.mp H
  obtain ⟨t308, A30, H⟩ := H
  replace H : (if t308 < 0 then (none) else ((laws_heldIntS.f k l0_1 t308).bind fun t309 => (if t309 < 0 then (none) else (some t309)))) = some r := H
  have A3 := Aside0.mk A30
  clear A30
  by_cases c4 : t308 < 0
  · rw [if_pos c4] at H
    exact absurd H (by simp)
  · rw [if_neg c4] at H
    have c4b0 : decide (t308 < 0) = false := decide_eq_false c4
    clear c4
    replace H := Option.bind_eq_some_iff.mp H
    obtain ⟨t309, A50, H⟩ := H
    replace H : (if t309 < 0 then (none) else (some t309)) = some r := H
    have A5 := Aside0.mk A50
    clear A50
    by_cases c6 : t309 < 0
    · rw [if_pos c6] at H
      exact absurd H (by simp)
    · rw [if_neg c6] at H
      have c6b0 : decide (t309 < 0) = false := decide_eq_false c6
      clear c6
      obtain rfl := Option.some.inj H
      go_enter Try.func10, Try.ntmps10
      go_wp2_with (first | ((with_reducible refine gate_dst (N := 2) rfl ?_); refine box_event ?hg (N := 2) ?hd (cs := #[.slice A0_0 l0_0.length c0_0, .slice A0_1 l0_1.length c0_1]) (t := 29) ?hr ?_; (case hd => rfl); (case hg => rfl); (case hr => first | (go_simp; done) | (go_simp; rfl)); intro gb307 hg w7 hbox hb; have n0_ := Aside0.mk (below_step (by repeat (first | (with_reducible first | exact HB.out | apply below_alloc | apply pw_below_drewN | apply below_drew1) | exact HB.out)) hb); have n1_ := Aside0.mk (hbox); have n2_ := Aside0.mk ((by rw [hg]; exact (below_size (by repeat (first | (with_reducible first | exact HB.out | apply below_alloc | apply pw_below_drewN | apply below_drew1) | exact HB.out))) : w.heap.size ≤ gb307)); have n3_ := Aside0.mk ((by rw [hg]; exact (below_size (by repeat (first | (with_reducible first | exact HB.out | apply below_alloc | apply pw_below_drewN | apply below_drew1) | exact HB.out))) : w.heap.size ≤ gb307)); clear HB; have HB := n0_; have BK307 := n1_; have GW307 := n2_; have GE307 := n3_; clear n0_ n1_ n2_ n3_; clear hb hbox hg; have hcz8_0 : w7.cell? ⟨gb307, 0, none⟩ = some (.slice A0_0 l0_0.length c0_0) := (blk_cell BK307.out 0).trans rfl; have hcz8_1 : w7.cell? ⟨gb307, 1, none⟩ = some (.slice A0_1 l0_1.length c0_1) := (blk_cell BK307.out 1).trans rfl; have hfz8_0 := blk_frozen BK307.out 0; have hfz8_1 := blk_frozen BK307.out 1) | ((with_reducible refine gate_callee (f := 23) rfl ?_); refine goesL_ (some 8) rfl rfl Try.func23 (by kernel_rfl) rfl #[.slice A0_0 l0_0.length c0_0, .int .i64 a1] rfl (by (try simp only [List.map_toArray, List.map_cons, List.map_nil]); first | done | rfl | (simp only [List.length_drop, List.length_take]; rfl)) ?_; (with_reducible refine (laws_heldNodeS.calls k _ _ l0_0 a1 t308 _ ?side1 ?side2 A3.out).mono ?_); (case side1 => repeat (first | exact (Kd.C_below HR0_0.out HB.out) | (with_reducible refine Kd.C_alloc ?_ _) | (with_reducible refine Kd.C_drewN ?_ _) | (with_reducible refine Kd.C_drew ?_))); (case side2 => exact HC0_0.out); rintro e w9 ⟨rfl, hb⟩; refine ⟨_, rfl, ?_⟩; have n0_ := Aside0.mk (blk_below (g := gb307) (o := .cells #[.slice A0_0 l0_0.length c0_0, .slice A0_1 l0_1.length c0_1] 29 (0, 0)) (by (with_reducible repeat (first | refine blk_drewN ?_ _ | refine blk_drew ?_ | refine blk_alloc ?_ _)); exact BK307.out) hb); have n1_ := Aside0.mk (below_step (by repeat (first | (with_reducible first | exact HB.out | apply below_alloc | apply pw_below_drewN | apply below_drew1 | refine below_set ?_ GE307.out) | exact HB.out)) hb); clear BK307; clear HB; have BK307 := n0_; have HB := n1_; clear n0_ n1_; (try clear hb); (try clear hb2); (try clear hk); (try clear hi); have hcz10_0 : w9.cell? ⟨gb307, 0, none⟩ = some (.slice A0_0 l0_0.length c0_0) := (blk_cell BK307.out 0).trans rfl; have hcz10_1 : w9.cell? ⟨gb307, 1, none⟩ = some (.slice A0_1 l0_1.length c0_1) := (blk_cell BK307.out 1).trans rfl; have hfz10_0 := blk_frozen BK307.out 0; have hfz10_1 := blk_frozen BK307.out 1) | ((with_reducible refine gate_callee (f := 24) rfl ?_); refine goesL_ (some 14) rfl rfl Try.func24 (by kernel_rfl) rfl #[.slice A0_1 l0_1.length c0_1, .int .i64 t308] rfl (by (try simp only [List.map_toArray, List.map_cons, List.map_nil]); first | done | rfl | (simp only [List.length_drop, List.length_take]; rfl)) ?_; (with_reducible refine (laws_heldIntS.calls k _ _ l0_1 t308 t309 _ ?side1 ?side2 A5.out).mono ?_); (case side1 => repeat (first | exact (Kd.C_below HR0_1.out HB.out) | (with_reducible refine Kd.C_alloc ?_ _) | (with_reducible refine Kd.C_drewN ?_ _) | (with_reducible refine Kd.C_drew ?_))); (case side2 => exact HC0_1.out); rintro e w' ⟨rfl, ⟨nd, rfl⟩⟩; refine ⟨_, rfl, ?_⟩))
      go_ret
      exact ⟨by first | rfl | (simp [errW_none, errW_some] <;> rfl) | (simp [*, errW_none, errW_some] <;> rfl), by repeat (first | (with_reducible first | exact HB.out | apply below_alloc | apply pw_below_drewN | apply below_drew1 | refine below_set ?_ GE307.out) | exact HB.out)⟩

/-! ### laws_FnExactFold: function 3 -/
def laws_FnExactFold.f (k : Nat) (l0_0 : List S52) (l0_1 : List Int) : Option Bool :=
 (laws_szTree.f k l0_0 l0_1 1048576).bind fun b => if b < 0 then some true else
 (laws_toTree.f k l0_0 l0_1).bind fun x => (spec_Fold.f k x.1 x.2).bind fun v => (impl_Fold.f k x.1 x.2).bind fun g =>
 (laws_eqTree.f k g.1 g.2.1 v.1 v.2.1).bind fun e1 => if e1 = true ∧ g.2.2 = v.2.2 then
 (laws_eqTree.f k x.1 x.2 x.1 x.2).bind fun e2 => if e2 = true then
 (laws_markTree.f k x.1 x.2 1).bind fun m1 => if 0 ≤ m1.1 then
 (laws_markTree.f k g.1 g.2.1 1).bind fun m2 => (laws_heldTree.f k m2.2.1 m2.2.2 1).bind fun q => if 0 ≤ q ∧ q = m2.1 then some true else none
 else none else none else none
theorem ite_some' {α : Type} {p : Prop} [Decidable p] {o : Option α} {r : α} (h : (if p then o else none) = some r) : p ∧ o = some r := by
 by_cases hp : p
 ·rw [if_pos hp] at h; exact ⟨hp, h⟩
 ·rw [if_neg hp] at h; cases h
theorem S_aged {w w1 : World} {ok : Nat → Prop} {v : Value} {xs : List S56} (h : Kd.S k56 56 w1 w.heap.size ok v xs) {b : Nat} (hb : b ≤ w.heap.size) {a : Nat} (ha : w.heap.size = a) : Kd.S k56 56 w1 b (fun k_ => ok k_ ∧ a ≤ k_ ∧ k_ < w1.heap.size) v xs := Kd.S_lower (Kd.S_mono (Kd.S_bound h) (fun _ hk => ⟨hk.1, ha ▸ hk.2.1, hk.2.2.1⟩)) hb
theorem R_aged {w w1 : World} {ok : Nat → Prop} {v : Value} {xs : List Int} (h : Kd.R (Kd.int .i64) 3 w1 w.heap.size ok v xs) {b : Nat} (hb : b ≤ w.heap.size) {a : Nat} (ha : w.heap.size = a) : Kd.R (Kd.int .i64) 3 w1 b (fun k_ => ok k_ ∧ a ≤ k_ ∧ k_ < w1.heap.size) v xs := Kd.R_lower (Kd.R_mono (Kd.R_bound h) (fun _ hk => ⟨hk.1, ha ▸ hk.2.1, hk.2.2.1⟩)) hb
theorem S_stays {ok S : Nat → Prop} {w w2 : World} {b : Nat} {v : Value} {xs : List S56} (h : Kd.S k56 56 w b ok v xs) (hk : Kept w w2 S) (hne : ∀ k, ok k → ¬ S k) : Kd.S k56 56 w2 b ok v xs := Kd.S_mono (Kd.S_keptB h hk hne) (fun _ h => h.1)
theorem R_stays {ok S : Nat → Prop} {w w2 : World} {b : Nat} {v : Value} {xs : List Int} (h : Kd.R (Kd.int .i64) 3 w b ok v xs) (hk : Kept w w2 S) (hne : ∀ k, ok k → ¬ S k) : Kd.R (Kd.int .i64) 3 w2 b ok v xs := Kd.R_mono (Kd.R_keptB h hk hne) (fun _ h => h.1)
theorem heldTree' (k : Nat) (A0 : Option Addr) (c0 n0 : Nat) (l0 : List S56) (A1 : Option Addr) (c1 n1 : Nat) (l1 : List Int) (a1 r : Int) (w : World) (h0 : n0 = l0.length ∧ n0 ≤ c0 ∧ Kd.C k56 w A0 l0.length l0) (h1 : n1 = l1.length ∧ n1 ≤ c1 ∧ Kd.C (Kd.int .i64) w A1 l1.length l1) (h : laws_heldTree.f k l0 l1 a1 = some r) :
  Calls Try.prog 10 #[.agg #[.slice A0 n0 c0, .slice A1 n1 c1], .int .i64 a1] w fun e w' => e = .returned (.int .i64 r) ∧ Below w.heap.size w w' := by
 obtain ⟨rfl, hc0, hr0⟩ := h0
 obtain ⟨rfl, hc1, hr1⟩ := h1
 exact laws_heldTree.calls k A0 c0 l0 A1 c1 l1 a1 r w hr0 hc0 hr1 hc1 h
theorem alloc_size1 (w : World) (o : Obj) : (w.alloc o).heap.size = w.heap.size + 1 := Array.size_push _
set_option maxHeartbeats 4000000 in
set_option maxRecDepth 100000 in
theorem laws_FnExactFold.calls (k : Nat) (A0_0 : Option Addr) (c0_0 : Nat) (l0_0 : List S52) (A0_1 : Option Addr) (c0_1 : Nat) (l0_1 : List Int) (r : Bool) (w : World) (hr0_0 : Kd.C k52 w A0_0 l0_0.length l0_0) (hc0_0 : l0_0.length ≤ c0_0) (hr0_1 : Kd.C (Kd.int .i64) w A0_1 l0_1.length l0_1) (hc0_1 : l0_1.length ≤ c0_1) (h : laws_FnExactFold.f k l0_0 l0_1 = some r) :
  Calls Try.prog 3 #[.agg #[.slice A0_0 l0_0.length c0_0, .slice A0_1 l0_1.length c0_1]] w fun e w' => e = .returned (.bool r) ∧ Below w.heap.size w w' := by
 have hu25 := Try.underlying25
 have hu29 := Try.underlying29
 have HR0 := Aside0.mk hr0_0
 have HC0 := Aside0.mk hc0_0
 have HR1 := Aside0.mk hr0_1
 have HC1 := Aside0.mk hc0_1
 clear hr0_0 hc0_0 hr0_1 hc0_1
 unfold laws_FnExactFold.f at h
 obtain ⟨b, hsz, h⟩ := Option.bind_eq_some_iff.mp h
 have HSZ := Aside0.mk hsz
 clear hsz
 by_cases hb0 : b < 0
 ·rw [if_pos hb0] at h
  injection h with h
  subst h
  have cb : decide (b < 0) = true := decide_eq_true hb0
  go_enter Try.func3, Try.ntmps3
  go_wp2_with (go_at_call 4; (with_reducible refine (laws_szTree.calls k _ _ l0_0 _ _ l0_1 _ b _ (Kd.C_below HR0.out (below_alloc (Below.refl _ _) _)) HC0.out (Kd.C_below HR1.out (below_alloc (Below.refl _ _) _)) HC1.out HSZ.out).mono ?_); rintro e w1 ⟨rfl, hb⟩; have HB1 := Aside0.mk (below_step (below_alloc (Below.refl _ _) _) hb); clear hb)
  go_ret
  exact ⟨rfl, HB1.out⟩
 rw [if_neg hb0] at h
 have cb : decide (b < 0) = false := decide_eq_false hb0
 obtain ⟨⟨n, ts⟩, hto, g1⟩ := Option.bind_eq_some_iff.mp h
 clear h
 obtain ⟨⟨wn, wt, wb⟩, hsp, g2⟩ := Option.bind_eq_some_iff.mp g1
 clear g1
 obtain ⟨⟨gn, gt, gb⟩, him, g3⟩ := Option.bind_eq_some_iff.mp g2
 clear g2
 obtain ⟨e1, heq, g4⟩ := Option.bind_eq_some_iff.mp g3
 clear g3
 dsimp only at hsp him heq g4
 obtain ⟨he1, g5⟩ := ite_some' g4
 clear g4
 obtain ⟨e2, hex, g6⟩ := Option.bind_eq_some_iff.mp g5
 clear g5
 obtain ⟨he2, g7⟩ := ite_some' g6
 clear g6
 obtain ⟨⟨m1, xn, xt⟩, hm1, g8⟩ := Option.bind_eq_some_iff.mp g7
 clear g7
 dsimp only at g8
 obtain ⟨hm0, g9⟩ := ite_some' g8
 clear g8
 obtain ⟨⟨m2, hn, ht⟩, hm2, g10⟩ := Option.bind_eq_some_iff.mp g9
 clear g9
 obtain ⟨q, hhe, g11⟩ := Option.bind_eq_some_iff.mp g10
 clear g10
 dsimp only at g11 hhe
 obtain ⟨⟨hq0, hq⟩, h⟩ := ite_some' g11
 clear g11
 obtain ⟨rfl, rfl⟩ := he1
 subst he2 hq
 injection h with h
 subst h
 have HTO := Aside0.mk hto
 have HSP := Aside0.mk hsp
 have HIM := Aside0.mk him
 have HEQ := Aside0.mk heq
 have HEX := Aside0.mk hex
 have HM1 := Aside0.mk hm1
 have HM2 := Aside0.mk hm2
 have HHE := Aside0.mk hhe
 have cm : decide (m1 < 0) = false := decide_eq_false (by omega)
 have cq : decide (q < 0) = false := decide_eq_false (by omega)
 clear hto hsp him heq hex hm1 hm2 hhe hb0
 go_enter Try.func3, Try.ntmps3
 go_upto_region 8 with (first
  | (go_at_call 4; (with_reducible refine (laws_szTree.calls k _ _ l0_0 _ _ l0_1 _ b _ (Kd.C_below HR0.out (below_alloc (Below.refl _ _) _)) HC0.out (Kd.C_below HR1.out (below_alloc (Below.refl _ _) _)) HC1.out HSZ.out).mono ?_); rintro e w1 ⟨rfl, hb⟩; have HB1 := Aside0.mk (below_step (below_alloc (Below.refl _ _) _) hb); have K11 := Aside0.mk (blk_below (blk_new _ _) hb); have k10 := (blk_cell K11.out 0).trans rfl; have k11 := (blk_cell K11.out 1).trans rfl; clear hb)
  | (go_at_call 6; (with_reducible refine (laws_toTree.calls k _ _ l0_0 _ _ l0_1 n ts _ (Kd.C_below HR0.out HB1.out) HC0.out (Kd.C_below HR1.out HB1.out) HC1.out HTO.out).mono ?_); rintro e w2 ⟨va, vb, rfl, ha, hbb, hb⟩; obtain ⟨Aa, ca, rfl⟩ := Kd.S_slice ha; obtain ⟨Ab, cb_, rfl⟩ := Kd.R_slice hbb; have HA2 := Aside0.mk (Kd.S_reads' ha); have HAB2 := Aside0.mk (Kd.R_reads' hbb); have HB2 := Aside0.mk (below_step HB1.out hb); have K12 := Aside0.mk (blk_below K11.out hb); clear k10 k11 ha hbb hb; have k10 := (blk_cell K12.out 0).trans rfl; have k11 := (blk_cell K12.out 1).trans rfl)
  | (go_at_call 5; (with_reducible refine (spec_Fold.calls k _ _ n _ _ ts wn wt _ _ HA2.out.2.2 HA2.out.2.1 HAB2.out.2.2 HAB2.out.2.1 HSP.out).mono ?_); rintro e w3 ⟨va, vb, rfl, ha, hbb, hb⟩; obtain ⟨AW, cW, rfl⟩ := Kd.S_slice ha; obtain ⟨AV, cV, rfl⟩ := Kd.R_slice hbb; have SW3 := Aside0.mk (S_aged ha HB2.out.size rfl); have RW3 := Aside0.mk (R_aged hbb HB2.out.size rfl); have HB3 := Aside0.mk (below_step HB2.out hb); have K13 := Aside0.mk (blk_below K12.out hb); have HS23 := Aside0.mk hb.size; clear k10 k11 ha hbb hb; have k10 := (blk_cell K13.out 0).trans rfl; have k11 := (blk_cell K13.out 1).trans rfl; have hl13 := blk_lt K13.out; have HL2 := Aside0.mk (blk_lt K12.out))
  | (go_at_call 6; (with_reducible refine (laws_toTree.calls k _ _ l0_0 _ _ l0_1 n ts _ (Kd.C_below HR0.out (below_alloc HB3.out _)) HC0.out (Kd.C_below HR1.out (below_alloc HB3.out _)) HC1.out HTO.out).mono ?_); rintro e w5 ⟨va, vb, rfl, ha, hbb, hb_⟩; obtain ⟨AX, cX, rfl⟩ := Kd.S_slice ha; obtain ⟨AY, cY, rfl⟩ := Kd.R_slice hbb; have hb : Below w3.heap.size w3 w5 := below_step (below_alloc (Below.refl _ _) _) hb_; have hb0 := (below_alloc HB3.out (.cells #[.slice AW wn.length cW, .slice AV wt.length cV] 29)).size; have SX5 := Aside0.mk (S_aged ha hb0 (alloc_size1 _ _)); have RX5 := Aside0.mk (R_aged hbb hb0 (alloc_size1 _ _)); have HB5 := Aside0.mk (below_step HB3.out hb); have K15 := Aside0.mk (blk_below K13.out hb); have K45 : Aside0 (w5.heap[w3.heap.size]? = some (.cells #[.slice AW wn.length cW, .slice AV wt.length cV] 29 (0, 0))) := ⟨blk_below (blk_new _ _) hb_⟩; have SW5 := Aside0.mk (Kd.S_below SW3.out hb); have RW5 := Aside0.mk (Kd.R_below RW3.out hb); clear k10 k11 ha hbb hb hb_ hb0 hl13; have k10 := (blk_cell K15.out 0).trans rfl; have k11 := (blk_cell K15.out 1).trans rfl; have hl15 := blk_lt K15.out; have hl45 := blk_lt K45.out; have HL45 := Aside0.mk (blk_lt K45.out))
  | (go_at_call 7; (with_reducible refine (impl_Fold.calls k _ _ n _ _ ts gn gt _ _ (Kd.S_reads' (Kd.S_below SX5.out (below_alloc (Below.refl _ _) _))).2.2 (Kd.S_reads' SX5.out).2.1 (Kd.R_reads' (Kd.R_below RX5.out (below_alloc (Below.refl _ _) _))).2.2 (Kd.R_reads' RX5.out).2.1 HIM.out).mono ?_); rintro e w7 ⟨va, vb, rfl, ha, hbb, hb_⟩; obtain ⟨AG, cG, rfl⟩ := Kd.S_slice ha; obtain ⟨AH, cH, rfl⟩ := Kd.R_slice hbb; have hb : Below w5.heap.size w5 w7 := below_step (below_alloc (Below.refl _ _) _) hb_; have hb0 := (below_alloc HB5.out (.cells #[.slice AX n.length cX, .slice AY ts.length cY] 29)).size; have SG7 := Aside0.mk (S_aged ha hb0 (alloc_size1 _ _)); have RG7 := Aside0.mk (R_aged hbb hb0 (alloc_size1 _ _)); have HB7 := Aside0.mk (below_step HB5.out hb); have K17 := Aside0.mk (blk_below K15.out hb); have K47 := Aside0.mk (blk_below K45.out hb); have K67 : Aside0 (w7.heap[w5.heap.size]? = some (.cells #[.slice AX n.length cX, .slice AY ts.length cY] 29 (0, 0))) := ⟨blk_below (blk_new _ _) hb_⟩; have SW7 := Aside0.mk (Kd.S_below SW5.out hb); have RW7 := Aside0.mk (Kd.R_below RW5.out hb); have SX7 := Aside0.mk (Kd.S_below SX5.out hb); have RX7 := Aside0.mk (Kd.R_below RX5.out hb); clear k10 k11 ha hbb hb hb_ hb0 hl15 hl45; have k40 := (blk_cell K47.out 0).trans rfl; have k41 := (blk_cell K47.out 1).trans rfl; have hl17 := blk_lt K17.out; have hl47 := blk_lt K47.out; have hl67 := blk_lt K67.out))
 go_upto_region 10 with ((go_at_call 8; (with_reducible refine (laws_eqTree.calls k _ _ gn _ _ gt _ _ wn _ _ wt true _ (Kd.S_reads' (Kd.S_below SG7.out (below_alloc (Below.refl _ _) _))).2.2 (Kd.S_reads' SG7.out).2.1 (Kd.R_reads' (Kd.R_below RG7.out (below_alloc (Below.refl _ _) _))).2.2 (Kd.R_reads' RG7.out).2.1 (Kd.S_reads' (Kd.S_below SW7.out (below_alloc (Below.refl _ _) _))).2.2 (Kd.S_reads' SW7.out).2.1 (Kd.R_reads' (Kd.R_below RW7.out (below_alloc (Below.refl _ _) _))).2.2 (Kd.R_reads' RW7.out).2.1 HEQ.out).mono ?_); rintro e w8 ⟨rfl, hb_⟩; have hb : Below w7.heap.size w7 w8 := below_step (below_alloc (Below.refl _ _) _) hb_; have HB8 := Aside0.mk (below_step HB7.out hb); have K18 := Aside0.mk (blk_below K17.out hb); have K48 := Aside0.mk (blk_below K47.out hb); have K68 := Aside0.mk (blk_below K67.out hb); have K78 : Aside0 (w8.heap[w7.heap.size]? = some (.cells #[.slice AG gn.length cG, .slice AH gt.length cH] 29 (0, 0))) := ⟨blk_below (blk_new _ _) hb_⟩; have SW8 := Aside0.mk (Kd.S_below SW7.out hb); have RW8 := Aside0.mk (Kd.R_below RW7.out hb); have SX8 := Aside0.mk (Kd.S_below SX7.out hb); have RX8 := Aside0.mk (Kd.R_below RX7.out hb); have SG8 := Aside0.mk (Kd.S_below SG7.out hb); have RG8 := Aside0.mk (Kd.R_below RG7.out hb); clear k40 k41 hb_ hb; have k10 := (blk_cell K18.out 0).trans rfl; have k11 := (blk_cell K18.out 1).trans rfl; have k60 := (blk_cell K68.out 0).trans rfl; have k61 := (blk_cell K68.out 1).trans rfl; have hl18 := blk_lt K18.out; have hl68 := blk_lt K68.out; have HAG : Aside0 (w.heap.size < w2.heap.size ∧ w2.heap.size ≤ w3.heap.size ∧ w3.heap.size < w5.heap.size ∧ w5.heap.size < w7.heap.size) := ⟨HL2.out, HS23.out, HL45.out, hl67⟩; clear hl17 hl47 hl67))
 have hS : ∀ w' : World, Below w8.heap.size w8 w' → w'.cell? ⟨w.heap.size, 0, none⟩ = some (.slice A0_0 l0_0.length c0_0) ∧ w'.cell? ⟨w.heap.size, 1, none⟩ = some (.slice A0_1 l0_1.length c0_1) ∧ w'.cell? ⟨w5.heap.size, 0, none⟩ = some (.slice AX n.length cX) ∧ w'.cell? ⟨w5.heap.size, 1, none⟩ = some (.slice AY ts.length cY) := fun w' hb => ⟨(blk_cell (blk_below K18.out hb) 0).trans rfl, (blk_cell (blk_below K18.out hb) 1).trans rfl, (blk_cell (blk_below K68.out hb) 0).trans rfl, (blk_cell (blk_below K68.out hb) 1).trans rfl⟩
 go_region_held3 (fun w' => w'.cell? ⟨w.heap.size, 0, none⟩ = some (.slice A0_0 l0_0.length c0_0) ∧ w'.cell? ⟨w.heap.size, 1, none⟩ = some (.slice A0_1 l0_1.length c0_1) ∧ w'.cell? ⟨w5.heap.size, 0, none⟩ = some (.slice AX n.length cX) ∧ w'.cell? ⟨w5.heap.size, 1, none⟩ = some (.slice AY ts.length cY)) (exact hS _ (by repeat (with_reducible first | exact Below.refl _ _ | apply pw_below_drewN | apply below_drew1 | refine below_step ?_ hb9 | refine below_step ?_ hb10))) (first
  | (go_at_call 6; (with_reducible refine (laws_toTree.calls k _ _ l0_0 _ _ l0_1 n ts _ (Kd.C_below HR0.out (by repeat (with_reducible first | exact HB8.out | exact Below.refl _ _ | apply pw_below_drewN | apply below_drew1 | refine below_step ?_ hb9))) HC0.out (Kd.C_below HR1.out (by repeat (with_reducible first | exact HB8.out | exact Below.refl _ _ | apply pw_below_drewN | apply below_drew1 | refine below_step ?_ hb9))) HC1.out HTO.out).mono ?_); rintro e w9 ⟨va, vb, rfl, ha, hbb, hb9⟩; obtain ⟨Aa, ca, rfl⟩ := Kd.S_slice ha; obtain ⟨Ab, cb_, rfl⟩ := Kd.R_slice hbb)
  | (go_at_call 8; (with_reducible refine (laws_eqTree.calls k _ _ n _ _ ts _ _ n _ _ ts true _ (Kd.S_reads' (Kd.S_below SX8.out (by repeat (with_reducible first | exact Below.refl _ _ | apply pw_below_drewN | apply below_drew1 | refine below_step ?_ hb9)))).2.2 (Kd.S_reads' SX8.out).2.1 (Kd.R_reads' (Kd.R_below RX8.out (by repeat (with_reducible first | exact Below.refl _ _ | apply pw_below_drewN | apply below_drew1 | refine below_step ?_ hb9)))).2.2 (Kd.R_reads' RX8.out).2.1 (Kd.S_reads' (Kd.S_below ha (by repeat (with_reducible first | exact Below.refl _ _ | apply pw_below_drewN | apply below_drew1 | refine below_step ?_ hb9)))).2.2 (Kd.S_reads' ha).2.1 (Kd.R_reads' (Kd.R_below hbb (by repeat (with_reducible first | exact Below.refl _ _ | apply pw_below_drewN | apply below_drew1 | refine below_step ?_ hb9)))).2.2 (Kd.R_reads' hbb).2.1 HEX.out).mono ?_); rintro e w10 ⟨rfl, hb10⟩))
 have hb : Below w8.heap.size w8 w10 := (by repeat (with_reducible first | exact Below.refl _ _ | apply pw_below_drewN | apply below_drew1 | refine below_step ?_ hb9 | refine below_step ?_ hb10))
 have HB10 := Aside0.mk (below_step HB8.out hb)
 have K110 := Aside0.mk (blk_below K18.out hb)
 have K410 := Aside0.mk (blk_below K48.out hb)
 have K710 := Aside0.mk (blk_below K78.out hb)
 have SW10 := Aside0.mk (Kd.S_below SW8.out hb)
 have RW10 := Aside0.mk (Kd.R_below RW8.out hb)
 have SX10 := Aside0.mk (Kd.S_below SX8.out hb)
 have RX10 := Aside0.mk (Kd.R_below RX8.out hb)
 have SG10 := Aside0.mk (Kd.S_below SG8.out hb)
 have RG10 := Aside0.mk (Kd.R_below RG8.out hb)
 obtain ⟨k10, k11, k60, k61⟩ := hS _ hb
 clear hS hb hb9 hb10 ha hbb
 go_upto_region 14 with ((go_at_call 9; (with_reducible refine (laws_markTree.calls k _ _ n _ _ ts 1 m1 xn xt w _ HB10.out SX10.out ?d1 (Kd.R_tight2 rfl RX10.out) ?d2 HM1.out).mono ?_); (case d1 => exact fun _ h1 h2 => h1.1 h2.1); (case d2 => exact fun _ h2 h1 => h1.1 h2.1); rintro e w11 ⟨rfl, _, _, hb, hkp⟩; have HB11 := Aside0.mk hb; have K111 := Aside0.mk (blk_kept K110.out hkp (fun hs => by have := HAG.out; rcases hs with ⟨_, h1, h2⟩ | ⟨_, _, h1, h2⟩ <;> omega)); have K411 := Aside0.mk (blk_kept K410.out hkp (fun hs => by have := HAG.out; rcases hs with ⟨_, h1, h2⟩ | ⟨_, _, h1, h2⟩ <;> omega)); have K711 := Aside0.mk (blk_kept K710.out hkp (fun hs => by have := HAG.out; rcases hs with ⟨_, h1, h2⟩ | ⟨_, _, h1, h2⟩ <;> omega)); have SW11 := Aside0.mk (S_stays SW10.out hkp (fun _ hk hs => by have := HAG.out; have := hk.2; rcases hs with ⟨_, h1, h2⟩ | ⟨_, _, h1, h2⟩ <;> omega)); have RW11 := Aside0.mk (R_stays RW10.out hkp (fun _ hk hs => by have := HAG.out; have := hk.2; rcases hs with ⟨_, h1, h2⟩ | ⟨_, _, h1, h2⟩ <;> omega)); have SG11 := Aside0.mk (S_stays SG10.out hkp (fun _ hk hs => by have := HAG.out; have := hk.2; rcases hs with ⟨_, h1, h2⟩ | ⟨_, _, h1, h2⟩ <;> omega)); have RG11 := Aside0.mk (R_stays RG10.out hkp (fun _ hk hs => by have := HAG.out; have := hk.2; rcases hs with ⟨_, h1, h2⟩ | ⟨_, _, h1, h2⟩ <;> omega)); have k40 := (blk_cell K411.out 0).trans rfl; have k41 := (blk_cell K411.out 1).trans rfl; have k70 := (blk_cell K711.out 0).trans rfl; have k71 := (blk_cell K711.out 1).trans rfl; have hl41 := blk_lt K411.out; have hl71 := blk_lt K711.out))
 go_upto_region 17 with ((go_at_call 8; (with_reducible refine (laws_eqTree.calls k _ _ gn _ _ gt _ _ wn _ _ wt true _ (Kd.S_reads' (Kd.S_below SG11.out (Below.refl _ _))).2.2 (Kd.S_reads' SG11.out).2.1 (Kd.R_reads' (Kd.R_below RG11.out (Below.refl _ _))).2.2 (Kd.R_reads' RG11.out).2.1 (Kd.S_reads' (Kd.S_below SW11.out (Below.refl _ _))).2.2 (Kd.S_reads' SW11.out).2.1 (Kd.R_reads' (Kd.R_below RW11.out (Below.refl _ _))).2.2 (Kd.R_reads' RW11.out).2.1 HEQ.out).mono ?_); rintro e w12 ⟨rfl, hb⟩; have HB12 := Aside0.mk (below_step HB11.out hb); have K112 := Aside0.mk (blk_below K111.out hb); have K412 := Aside0.mk (blk_below K411.out hb); have K712 := Aside0.mk (blk_below K711.out hb); have SW12 := Aside0.mk (Kd.S_below SW11.out hb); have RW12 := Aside0.mk (Kd.R_below RW11.out hb); have SG12 := Aside0.mk (Kd.S_below SG11.out hb); have RG12 := Aside0.mk (Kd.R_below RG11.out hb); clear k40 k41 k70 k71 hb; have k70 := (blk_cell K712.out 0).trans rfl; have k71 := (blk_cell K712.out 1).trans rfl; have hl72 := blk_lt K712.out))
 go_upto_region 19 with ((go_at_call 9; (with_reducible refine (laws_markTree.calls k _ _ gn _ _ gt 1 _ hn ht w _ HB12.out SG12.out ?d1 (Kd.R_tight2 rfl RG12.out) ?d2 HM2.out).mono ?_); (case d1 => exact fun _ h1 h2 => h1.1 h2.1); (case d2 => exact fun _ h2 h1 => h1.1 h2.1); rintro e w13 ⟨rfl, hy0, hy1, hb, hkp⟩; have HB13 := Aside0.mk hb; have SH13 := Aside0.mk hy0; have RH13 := Aside0.mk hy1; have K113 := Aside0.mk (blk_kept K112.out hkp (fun hs => by have := HAG.out; rcases hs with ⟨_, h1, h2⟩ | ⟨_, _, h1, h2⟩ <;> omega)); have K413 := Aside0.mk (blk_kept K412.out hkp (fun hs => by have := HAG.out; rcases hs with ⟨_, h1, h2⟩ | ⟨_, _, h1, h2⟩ <;> omega)); have K713 := Aside0.mk (blk_kept K712.out hkp (fun hs => by have := HAG.out; rcases hs with ⟨_, h1, h2⟩ | ⟨_, _, h1, h2⟩ <;> omega)); have SW13 := Aside0.mk (S_stays SW12.out hkp (fun _ hk hs => by have := HAG.out; have := hk.2; rcases hs with ⟨_, h1, h2⟩ | ⟨_, _, h1, h2⟩ <;> omega)); have RW13 := Aside0.mk (R_stays RW12.out hkp (fun _ hk hs => by have := HAG.out; have := hk.2; rcases hs with ⟨_, h1, h2⟩ | ⟨_, _, h1, h2⟩ <;> omega)); clear k70 k71 hkp hb hy0 hy1; have k70 := (blk_cell K713.out 0).trans rfl; have k71 := (blk_cell K713.out 1).trans rfl; have hl73 := blk_lt K713.out))
 go_upto_region 24 with ((go_at_call 10; (with_reducible refine (heldTree' k _ _ _ hn _ _ _ ht 1 _ _ (Kd.S_reads' SH13.out) (Kd.R_reads' RH13.out) HHE.out).mono ?_); rintro e w14 ⟨rfl, hb⟩; have HB14 := Aside0.mk (below_step HB13.out hb); have K114 := Aside0.mk (blk_below K113.out hb); have K414 := Aside0.mk (blk_below K413.out hb); have K714 := Aside0.mk (blk_below K713.out hb); have SW14 := Aside0.mk (Kd.S_below SW13.out hb); have RW14 := Aside0.mk (Kd.R_below RW13.out hb); have SH14 := Aside0.mk (Kd.S_below SH13.out hb); have RH14 := Aside0.mk (Kd.R_below RH13.out hb); clear k70 k71 hb; have k10 := (blk_cell K114.out 0).trans rfl; have k11 := (blk_cell K114.out 1).trans rfl; have hl14 := blk_lt K114.out))
 go_upto_region 25 with (first
  | (go_at_call 6; (with_reducible refine (laws_toTree.calls k _ _ l0_0 _ _ l0_1 n ts _ (Kd.C_below HR0.out HB14.out) HC0.out (Kd.C_below HR1.out HB14.out) HC1.out HTO.out).mono ?_); rintro e w15 ⟨va, vb, rfl, ha, hbb, hb⟩; obtain ⟨Ac, cc, rfl⟩ := Kd.S_slice ha; obtain ⟨Ad, cd_, rfl⟩ := Kd.R_slice hbb; have HA15 := Aside0.mk (Kd.S_reads' ha); have HAB15 := Aside0.mk (Kd.R_reads' hbb); have HB15 := Aside0.mk (below_step HB14.out hb); have K415 := Aside0.mk (blk_below K414.out hb); have K715 := Aside0.mk (blk_below K714.out hb); have SW15 := Aside0.mk (Kd.S_below SW14.out hb); have RW15 := Aside0.mk (Kd.R_below RW14.out hb); have SH15 := Aside0.mk (Kd.S_below SH14.out hb); have RH15 := Aside0.mk (Kd.R_below RH14.out hb); clear k10 k11 ha hbb hb)
  | (go_at_call 7; (with_reducible refine (impl_Fold.calls k _ _ n _ _ ts gn gt _ _ HA15.out.2.2 HA15.out.2.1 HAB15.out.2.2 HAB15.out.2.1 HIM.out).mono ?_); rintro e w16 ⟨va, vb, rfl, ha, hbb, hb⟩; obtain ⟨AP, cP, rfl⟩ := Kd.S_slice ha; obtain ⟨AQ, cQ, rfl⟩ := Kd.R_slice hbb; have SP16 := Aside0.mk ha; have RP16 := Aside0.mk hbb; have HB16 := Aside0.mk (below_step HB15.out hb); have K416 := Aside0.mk (blk_below K415.out hb); have K716 := Aside0.mk (blk_below K715.out hb); have SW16 := Aside0.mk (Kd.S_below SW15.out hb); have RW16 := Aside0.mk (Kd.R_below RW15.out hb); have SH16 := Aside0.mk (Kd.S_below SH15.out hb); have RH16 := Aside0.mk (Kd.R_below RH15.out hb); clear ha hbb hb; have k40 := (blk_cell K416.out 0).trans rfl; have k41 := (blk_cell K416.out 1).trans rfl; have hl46 := blk_lt K416.out))
 go_upto_region 28 with ((go_at_call 8; (with_reducible refine (laws_eqTree.calls k _ _ gn _ _ gt _ _ wn _ _ wt true _ (Kd.S_reads' (Kd.S_below SP16.out (below_alloc (Below.refl _ _) _))).2.2 (Kd.S_reads' SP16.out).2.1 (Kd.R_reads' (Kd.R_below RP16.out (below_alloc (Below.refl _ _) _))).2.2 (Kd.R_reads' RP16.out).2.1 (Kd.S_reads' (Kd.S_below SW16.out (below_alloc (Below.refl _ _) _))).2.2 (Kd.S_reads' SW16.out).2.1 (Kd.R_reads' (Kd.R_below RW16.out (below_alloc (Below.refl _ _) _))).2.2 (Kd.R_reads' RW16.out).2.1 HEQ.out).mono ?_); rintro e w17 ⟨rfl, hb_⟩; have hb : Below w16.heap.size w16 w17 := below_step (below_alloc (Below.refl _ _) _) hb_; have HB17 := Aside0.mk (below_step HB16.out hb); have K717 := Aside0.mk (blk_below K716.out hb); have SH17 := Aside0.mk (Kd.S_below SH16.out hb); have RH17 := Aside0.mk (Kd.R_below RH16.out hb); clear k40 k41 hb hb_; have k70 := (blk_cell K717.out 0).trans rfl; have k71 := (blk_cell K717.out 1).trans rfl; have hl77 := blk_lt K717.out))
 go_wp2_with ((go_at_call 10; (with_reducible refine (heldTree' k _ _ _ hn _ _ _ ht 1 _ _ (Kd.S_reads' SH17.out) (Kd.R_reads' RH17.out) HHE.out).mono ?_); rintro e w18 ⟨rfl, hb⟩; have HB18 := Aside0.mk (below_step HB17.out hb)))
 go_ret
 exact ⟨rfl, HB18.out⟩

end Go.Proofs.Ytiiakeakfllpjaa.PFnExactFold
