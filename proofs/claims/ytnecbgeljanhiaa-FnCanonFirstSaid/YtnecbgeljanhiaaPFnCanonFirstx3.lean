-- written by wip/tools/myprint.py out of the program's own print
import Derived.Test.YtnecbgeljanhiaaPFnCanonFirstx0
import Derived.Test.YtnecbgeljanhiaaPFnCanonFirstx2
namespace Go.Proofs.Ytnecbgeljanhiaa.PFnCanonFirst
open Go.RowKit Go.Proofs.YtnecbgeljanhiaaW.PrintWords Go.Proofs.YtnecbgeljanhiaaW.PrintLast Go.Proofs.YtnecbgeljanhiaaW.PrintMore
attribute [local go_sem] max2_int min2_int max_two min_two max_three min_three max_four min_four   -- for this text's walks alone
set_option linter.unusedVariables false
set_option linter.unusedSimpArgs false

/-! ### impl_canon: function 93 -/
mutual
def impl_canon.l0 : Nat → Int → List (S96) → List Int → Option (List Int × Bool)
  | 0, _, _, _ => none
  | k + 1, x0, x1, x6 => if (x6.length : Int) < x0 then (impl_canon.l1 k x0 x1 x6 (-1) (wrap64 (x0 - 1))) else (some (x6, true))
def impl_canon.l1 : Nat → Int → List (S96) → List Int → Int → Int → Option (List Int × Bool)
  | 0, _, _, _, _, _ => none
  | k + 1, x0, x1, x6, x7, x8 => if x8 ≥ 0 then ((impl_free.f k x1 x6 x8).bind fun t220 => (if t220 = true then (impl_canon.l1 k x0 x1 x6 x8 (wrap64 (x8 - 1))) else (impl_canon.l1 k x0 x1 x6 x7 (wrap64 (x8 - 1))))) else (if x7 < 0 then (some (([] : List Int), false)) else (if x6.length < 17592186044416 then (impl_canon.l0 k x0 x1 (x6 ++ [x7])) else (none)))
end
def impl_canon.f (k : Nat) (a0 : Int) (l1 : List (S96)) : Option (List Int × Bool) := impl_canon.l0 k a0 l1 (([] : List Int))
theorem impl_canon.mono_l : ∀ k, (∀ y0 y1 y2, LeO (impl_canon.l0 k y0 y1 y2) (impl_canon.l0 (k + 1) y0 y1 y2)) ∧ (∀ y0 y1 y2 y3 y4, LeO (impl_canon.l1 k y0 y1 y2 y3 y4) (impl_canon.l1 (k + 1) y0 y1 y2 y3 y4))
  | 0 => ⟨fun _ _ _ r h => by simp [impl_canon.l0] at h, fun _ _ _ _ _ r h => by simp [impl_canon.l1] at h⟩
  | k + 1 => by
    obtain ⟨ih0, ih1⟩ := impl_canon.mono_l k
    refine ⟨?_, ?_⟩
    · intro y0 y1 y2
      unfold impl_canon.l0
      repeat' first
      | (with_reducible exact ih0 _ _ _)
      | (with_reducible exact ih1 _ _ _ _ _)
      | (with_reducible exact impl_free.mono _ _ _ _)
      | (with_reducible exact LeO.refl _)
      | (with_reducible exact LeO.none _)
      | (with_reducible refine LeO.ite ?_ ?_)
      | (with_reducible refine LeO.bind ?_ (fun _ => ?_))
      | exact ih0 _ _ _
      | exact ih1 _ _ _ _ _
      | exact impl_free.mono _ _ _ _
      | exact LeO.none _
      | refine LeO.ite ?_ ?_
      | refine LeO.bind ?_ (fun _ => ?_)
    · intro y0 y1 y2 y3 y4
      unfold impl_canon.l1
      repeat' first
      | (with_reducible exact ih0 _ _ _)
      | (with_reducible exact ih1 _ _ _ _ _)
      | (with_reducible exact impl_free.mono _ _ _ _)
      | (with_reducible exact LeO.refl _)
      | (with_reducible exact LeO.none _)
      | (with_reducible refine LeO.ite ?_ ?_)
      | (with_reducible refine LeO.bind ?_ (fun _ => ?_))
      | exact ih0 _ _ _
      | exact ih1 _ _ _ _ _
      | exact impl_free.mono _ _ _ _
      | exact LeO.none _
      | refine LeO.ite ?_ ?_
      | refine LeO.bind ?_ (fun _ => ?_)
theorem impl_canon.mono : ∀ a0 a1 k, LeO (impl_canon.f k a0 a1) (impl_canon.f (k + 1) a0 a1) := by
  intro a0 a1 k
  obtain ⟨ih0, ih1⟩ := impl_canon.mono_l k
  unfold impl_canon.f
  repeat' first
      | (with_reducible exact ih0 _ _ _)
      | (with_reducible exact ih1 _ _ _ _ _)
      | (with_reducible exact impl_free.mono _ _ _ _)
      | (with_reducible exact LeO.refl _)
      | (with_reducible exact LeO.none _)
      | (with_reducible refine LeO.ite ?_ ?_)
      | (with_reducible refine LeO.bind ?_ (fun _ => ?_))
      | exact ih0 _ _ _
      | exact ih1 _ _ _ _ _
      | exact impl_free.mono _ _ _ _
      | exact LeO.none _
      | refine LeO.ite ?_ ?_
      | refine LeO.bind ?_ (fun _ => ?_)
set_option maxHeartbeats 8000000 in
set_option maxRecDepth 100000 in
theorem impl_canon.calls (k : Nat) (a0 : Int) (A1 : Option Addr) (c1 : Nat) (l1 : List (S96)) (r1 : List Int) (r2 : Bool) (w : World) (hr1 : Kd.C k96 w A1 l1.length l1) (hc1 : l1.length ≤ c1) (h : impl_canon.f k a0 l1 = some (r1, r2)) :
    Calls Try.prog 93 #[.int .i64 a0, .slice A1 l1.length c1] w fun e w' => ∃ v0_ : Value, e = .returned (.tuple #[v0_, .bool r2]) ∧ Kd.R (Kd.int .i64) 3 w' w.heap.size (fun _ => True) v0_ r1 ∧ Below w.heap.size w w' := by
  have HR1 := Aside0.mk hr1
  have HC1 := Aside0.mk hc1
  clear hr1 hc1
  have HB := Aside0.mk (Below.refl w.heap.size w)
  have H : (impl_canon.l0 k a0 l1 (([] : List Int))) = some (r1, r2) := h
  clear h
  obtain ⟨y217, hy217⟩ : ∃ y_ : List Int, y_ = (([] : List Int)) := ⟨_, rfl⟩
  replace H : (impl_canon.l0 k a0 l1 y217) = some (r1, r2) := by first | (rw [hy217]; with_reducible exact H) | (have H2_ := (Option.bind_some _ _).symm.trans H; rw [hy217]; with_reducible exact H2_) | (have H2_ := (Option.bind_some _ _).symm.trans H; with_reducible exact H2_) | with_reducible exact H | (rw [hy217]; exact H) | exact H
  have Ny217 := Aside0.mk hy217
  clear hy217
  have H' := Aside0.mk H
  clear H
  go_enter Try.func93, Try.ntmps93
  go_wp2_with (first | ((with_reducible refine gate_dst (N := 9) rfl ?_); refine Kd.R_lit (Kd.int .i64) _ 3 ?hg (N := 9) ?hd (xs := ([] : List Int)) (inner := []) (ok := fun _ => True) (okp := fun _ => True) ?hr ?hp (fun _ hk => hk) trivial (Below.refl _ _) (Nat.le_refl _) (by simp) ?_; (case hd => rfl); (case hg => rfl); (case hr => first | (go_simp; done) | (go_simp; rfl)); (case hp => exact (Reps.none _ _)); intro v218 w3 ho4 hb hg_ hnew_; clear hg_ hnew_; (first | rw [← Ny217.out] at ho4 | (simp only [Int.reduceToNat] at ho4; rw [← Ny217.out] at ho4)); have n0_ := Aside0.mk (Kd.R_lower ho4 (below_size (by repeat (first | (with_reducible first | exact HB.out | apply below_alloc | apply pw_below_drewN | apply below_drew1) | exact HB.out)))); have n1_ := Aside0.mk (below_step (by repeat (first | (with_reducible first | exact HB.out | apply below_alloc | apply pw_below_drewN | apply below_drew1) | exact HB.out)) hb); clear HB; have HO219 := n0_; have HB := n1_; clear n0_ n1_; clear hb ho4))
  go_loopg [6] k (fun kq v6 w' => ∃ (x6_1 : List Int), Aside0 (impl_canon.l0 kq a0 l1 x6_1 = some (r1, r2)) ∧ Aside0 (kq ≤ k) ∧ Aside0 (Kd.R (Kd.int .i64) 3 w' w.heap.size (fun _ => True) v6 x6_1) ∧ Aside0 (Below w.heap.size w w'))
  case atStart => exact ⟨(y217), H', ⟨Nat.le_refl _⟩, ⟨by (with_reducible repeat (first | apply Kd.R_alloc | apply Kd.R_drewN | apply Kd.R_drew)); exact HO219.out⟩, ⟨by repeat (first | (with_reducible first | exact HB.out | apply below_alloc | apply pw_below_drewN | apply below_drew1) | exact HB.out)⟩⟩
  case round =>
    clear H'
    try clear c1
    try clear p2
    obtain ⟨x6_1, HA, HK1, HO_6, HB⟩ := hrel
    cases gk with
    | zero => exact absurd HA.out (by simp [impl_canon.l0])
    | succ k1 =>
      have H := HA.out
      clear HA
      simp only [impl_canon.l0] at H
      by_cases c5 : (x6_1.length : Int) < a0
      · rw [if_pos c5] at H
        have c5b0 : decide ((x6_1.length : Int) < a0) = true := decide_eq_true c5
        clear c5
        have H' := Aside0.mk H
        clear H
        obtain ⟨Ao6, co6, eo6⟩ := Kd.R_slice HO_6.out
        subst eo6
        go_wp2
        go_loopg [7, 8] k1 (fun kq v7 v8 w' => ∃ (x7_2 : Int) (x8_2 : Int), v7 = .int .i64 x7_2 ∧ v8 = .int .i64 x8_2 ∧ Aside0 (impl_canon.l1 kq a0 l1 x6_1 x7_2 x8_2 = some (r1, r2)) ∧ Aside0 (kq ≤ k1) ∧ Aside0 (Kd.R (Kd.int .i64) 3 w' w.heap.size (fun _ => True) (.slice Ao6 x6_1.length co6) x6_1) ∧ Aside0 (Below w.heap.size w w'))
        case atStart => exact ⟨((-1)), (wrap64 (a0 - 1)), (by first | rfl | (simp; done) | (simp [*]; done)), (by first | rfl | (simp; done) | (simp [*]; done)), H', ⟨Nat.le_refl _⟩, ⟨by (with_reducible repeat (first | apply Kd.R_alloc | apply Kd.R_drewN | apply Kd.R_drew)); exact HO_6.out⟩, ⟨by repeat (first | (with_reducible first | exact HB.out | apply below_alloc | apply pw_below_drewN | apply below_drew1) | exact HB.out)⟩⟩
        case round =>
          clear H'
          try clear c1
          try clear p2
          try clear c5
          try clear c5b0
          try clear p6
          try clear p2
          obtain ⟨x7_2, x8_2, rfl, rfl, HA, HK2, HO_6, HB⟩ := hrel
          cases gk with
          | zero => exact absurd HA.out (by simp [impl_canon.l1])
          | succ k2 =>
            have H := HA.out
            clear HA
            simp only [impl_canon.l1] at H
            by_cases c7 : x8_2 ≥ 0
            · rw [if_pos c7] at H
              have c7b0 : decide (0 ≤ x8_2) = true := decide_eq_true c7
              clear c7
              replace H := Option.bind_eq_some_iff.mp H
              obtain ⟨t220, A80, H⟩ := H
              replace H : (if t220 = true then (impl_canon.l1 k2 a0 l1 x6_1 x8_2 (wrap64 (x8_2 - 1))) else (impl_canon.l1 k2 a0 l1 x6_1 x7_2 (wrap64 (x8_2 - 1)))) = some (r1, r2) := H
              have A8 := Aside0.mk A80
              clear A80
              by_cases c9 : t220 = true
              · subst c9
                have H1 : (impl_canon.l1 k2 a0 l1 x6_1 x8_2 (wrap64 (x8_2 - 1))) = some (r1, r2) := by rw [if_pos rfl] at H; exact H
                clear H
                have H := H1
                clear H1
                have H' := Aside0.mk H
                clear H
                go_wp2_with (first | ((with_reducible refine gate_callee (f := 95) rfl ?_); refine goesL_ (some 23) rfl rfl Try.func95 (by kernel_rfl) rfl #[.slice A1 l1.length c1, .slice Ao6 x6_1.length co6, .int .i64 x8_2] rfl (by (try simp only [List.map_toArray, List.map_cons, List.map_nil]); first | done | rfl | (simp only [List.length_drop, List.length_take]; rfl)) ?_; (with_reducible refine (impl_free.calls k2 _ _ l1 _ _ x6_1 x8_2 true _ ?side1 ?side2 ?side3 ?side4 A8.out).mono ?_); (case side1 => repeat (first | exact (Kd.C_below HR1.out HB.out) | (with_reducible refine Kd.C_alloc ?_ _) | (with_reducible refine Kd.C_drewN ?_ _) | (with_reducible refine Kd.C_drew ?_))); (case side2 => exact HC1.out); (case side3 => repeat (first | exact (Kd.R_reads' HO_6.out).2.2 | (with_reducible refine Kd.C_alloc ?_ _) | (with_reducible refine Kd.C_drewN ?_ _) | (with_reducible refine Kd.C_drew ?_))); (case side4 => exact (Kd.R_reads' HO_6.out).2.1); rintro e w10 ⟨rfl, hb⟩; refine ⟨_, rfl, ?_⟩; have n0_ := Aside0.mk (Kd.R_below (by (with_reducible repeat (first | apply Kd.R_alloc | apply Kd.R_drewN | apply Kd.R_drew)); exact HO_6.out) hb); have n1_ := Aside0.mk (below_step (by repeat (first | (with_reducible first | exact HB.out | apply below_alloc | apply pw_below_drewN | apply below_drew1) | exact HB.out)) hb); clear HO_6; clear HB; have HO_6 := n0_; have HB := n1_; clear n0_ n1_; (try clear hb); (try clear hb2); (try clear hk); (try clear hi)))
                go_roundg k2
                case measure => have := HK1.out; have := HK2.out; omega
                case rel => exact ⟨(x8_2), (wrap64 (x8_2 - 1)), (by first | rfl | (simp; done) | (simp [*]; done)), (by first | rfl | (simp; done) | (simp [*]; done)), H', ⟨by have := HK1.out; have := HK2.out; omega⟩, ⟨by (with_reducible repeat (first | apply Kd.R_alloc | apply Kd.R_drewN | apply Kd.R_drew)); exact HO_6.out⟩, ⟨by repeat (first | (with_reducible first | exact HB.out | apply below_alloc | apply pw_below_drewN | apply below_drew1) | exact HB.out)⟩⟩
              · replace c9 := Bool.eq_false_iff.mpr c9
                subst c9
                have H1 : (impl_canon.l1 k2 a0 l1 x6_1 x7_2 (wrap64 (x8_2 - 1))) = some (r1, r2) := by rw [if_neg (show ¬ (false = true) by decide)] at H; exact H
                clear H
                have H := H1
                clear H1
                have H' := Aside0.mk H
                clear H
                go_wp2_with (first | ((with_reducible refine gate_callee (f := 95) rfl ?_); refine goesL_ (some 23) rfl rfl Try.func95 (by kernel_rfl) rfl #[.slice A1 l1.length c1, .slice Ao6 x6_1.length co6, .int .i64 x8_2] rfl (by (try simp only [List.map_toArray, List.map_cons, List.map_nil]); first | done | rfl | (simp only [List.length_drop, List.length_take]; rfl)) ?_; (with_reducible refine (impl_free.calls k2 _ _ l1 _ _ x6_1 x8_2 false _ ?side1 ?side2 ?side3 ?side4 A8.out).mono ?_); (case side1 => repeat (first | exact (Kd.C_below HR1.out HB.out) | (with_reducible refine Kd.C_alloc ?_ _) | (with_reducible refine Kd.C_drewN ?_ _) | (with_reducible refine Kd.C_drew ?_))); (case side2 => exact HC1.out); (case side3 => repeat (first | exact (Kd.R_reads' HO_6.out).2.2 | (with_reducible refine Kd.C_alloc ?_ _) | (with_reducible refine Kd.C_drewN ?_ _) | (with_reducible refine Kd.C_drew ?_))); (case side4 => exact (Kd.R_reads' HO_6.out).2.1); rintro e w11 ⟨rfl, hb⟩; refine ⟨_, rfl, ?_⟩; have n0_ := Aside0.mk (Kd.R_below (by (with_reducible repeat (first | apply Kd.R_alloc | apply Kd.R_drewN | apply Kd.R_drew)); exact HO_6.out) hb); have n1_ := Aside0.mk (below_step (by repeat (first | (with_reducible first | exact HB.out | apply below_alloc | apply pw_below_drewN | apply below_drew1) | exact HB.out)) hb); clear HO_6; clear HB; have HO_6 := n0_; have HB := n1_; clear n0_ n1_; (try clear hb); (try clear hb2); (try clear hk); (try clear hi)))
                go_roundg k2
                case measure => have := HK1.out; have := HK2.out; omega
                case rel => exact ⟨(x7_2), (wrap64 (x8_2 - 1)), (by first | rfl | (simp; done) | (simp [*]; done)), (by first | rfl | (simp; done) | (simp [*]; done)), H', ⟨by have := HK1.out; have := HK2.out; omega⟩, ⟨by (with_reducible repeat (first | apply Kd.R_alloc | apply Kd.R_drewN | apply Kd.R_drew)); exact HO_6.out⟩, ⟨by repeat (first | (with_reducible first | exact HB.out | apply below_alloc | apply pw_below_drewN | apply below_drew1) | exact HB.out)⟩⟩
            · rw [if_neg c7] at H
              have c7b0 : decide (0 ≤ x8_2) = false := decide_eq_false c7
              clear c7
              by_cases c12 : x7_2 < 0
              · rw [if_pos c12] at H
                have c12b0 : decide (x7_2 < 0) = true := decide_eq_true c12
                clear c12
                simp only [Option.some.injEq, Prod.mk.injEq] at H
                obtain ⟨rfl, rfl⟩ := H
                go_wp2
                go_ret2
                exact ⟨_, by first | rfl | (simp [errW_none, errW_some] <;> rfl) | (simp [*, errW_none, errW_some] <;> rfl), by first | exact Kd.R_nil _ _ _ _ _ | exact Kd.N_nil _ _ _ _ _ | exact Kd.V_nil _ _ _ _ _ | exact Kd.Q_nil _ _ _ _ _ | exact Kd.S_nil _ _ _ _ _, by repeat (first | (with_reducible first | exact HB.out | apply below_alloc | apply pw_below_drewN | apply below_drew1) | exact HB.out)⟩
              · rw [if_neg c12] at H
                have c12b0 : decide (x7_2 < 0) = false := decide_eq_false c12
                clear c12
                by_cases c13 : x6_1.length < 17592186044416
                · rw [if_pos c13] at H
                  have LMc13 := Aside0.mk c13
                  clear c13
                  obtain ⟨y221, hy221⟩ : ∃ y_ : List Int, y_ = (x6_1 ++ [x7_2]) := ⟨_, rfl⟩
                  replace H : (impl_canon.l0 k2 a0 l1 y221) = some (r1, r2) := by first | (rw [hy221]; with_reducible exact H) | (have H2_ := (Option.bind_some _ _).symm.trans H; rw [hy221]; with_reducible exact H2_) | (have H2_ := (Option.bind_some _ _).symm.trans H; with_reducible exact H2_) | with_reducible exact H | (rw [hy221]; exact H) | exact H
                  have Ny221 := Aside0.mk hy221
                  clear hy221
                  have H' := Aside0.mk H
                  clear H
                  go_wp2_with (first | ((with_reducible refine gate_builtin (b := .append) (xs := #[.tmp 27, .tmp 29]) rfl ?_); at_builtin; refine Kd.R_append (Kd.int .i64) (w0 := w) w.heap.size rfl (.tmp 27) (.tmp 29) 41 3 (.int .i64 0) 8 rfl Try.underlying41 info3 rfl (by decide) (by omega) (.slice Ao6 x6_1.length co6) x6_1 x7_2 [.int .i64 x7_2] (fun _ => True) (fun _ => False) rfl rfl ?aP (fun _ hk => hk.elim) ?aF ?aO ?aB ?aS ?aL ?_; (case aP => exact rfl); (case aB => exact (by repeat (first | (with_reducible first | exact HB.out | apply below_alloc | apply pw_below_drewN | apply below_drew1) | exact HB.out))); (case aF => exact (fun _ _ => trivial)); (case aO => exact (by (with_reducible repeat (first | apply Kd.R_alloc | apply Kd.R_drewN | apply Kd.R_drew)); exact HO_6.out)); (case aS => exact (below_size (by repeat (first | (with_reducible first | exact HB.out | apply below_alloc | apply pw_below_drewN | apply below_drew1) | exact HB.out)))); (case aL => have := LMc13.out; omega); intro v222 w14 ho hb hg hat; rw [← Ny221.out] at ho; have n0_ := Aside0.mk (hb); have n1_ := Aside0.mk (ho); clear HB; clear HO_6; have HB := n0_; have HO223 := n1_; clear n0_ n1_; clear ho hb hg hat))
                  go_roundg k2
                  case measure => have := HK1.out; have := HK2.out; omega
                  case rel => exact ⟨(y221), H', ⟨by have := HK1.out; have := HK2.out; omega⟩, ⟨by (with_reducible repeat (first | apply Kd.R_alloc | apply Kd.R_drewN | apply Kd.R_drew)); exact HO223.out⟩, ⟨by repeat (first | (with_reducible first | exact HB.out | apply below_alloc | apply pw_below_drewN | apply below_drew1) | exact HB.out)⟩⟩
                · rw [if_neg c13] at H
                  exact absurd H (by simp)
      · rw [if_neg c5] at H
        have c5b0 : decide ((x6_1.length : Int) < a0) = false := decide_eq_false c5
        clear c5
        simp only [Option.some.injEq, Prod.mk.injEq] at H
        obtain ⟨rfl, rfl⟩ := H
        obtain ⟨Ao15, co15, eo15⟩ := Kd.R_slice HO_6.out
        subst eo15
        go_wp2
        go_ret2
        exact ⟨_, by first | rfl | (simp [errW_none, errW_some] <;> rfl) | (simp [*, errW_none, errW_some] <;> rfl), by (with_reducible repeat (first | apply Kd.R_alloc | apply Kd.R_drewN | apply Kd.R_drew)); exact HO_6.out, by repeat (first | (with_reducible first | exact HB.out | apply below_alloc | apply pw_below_drewN | apply below_drew1) | exact HB.out)⟩

/-! ### impl_Canon: function 35 -/
def impl_Canon.f (k : Nat) (a0 : Int) (l1 : List (S96)) : Option (List Int × Bool) := (impl_GraphOk.f k a0 l1).bind fun t224 => (if t224 = true then ((impl_canon.f k a0 l1).bind fun bt225 => (some (bt225.1, bt225.2))) else (some (([] : List Int), false)))
theorem impl_Canon.mono : ∀ a0 a1 k, LeO (impl_Canon.f k a0 a1) (impl_Canon.f (k + 1) a0 a1) := by
  intro a0 a1 k
  unfold impl_Canon.f
  repeat' first
      | (with_reducible exact impl_GraphOk.mono _ _ _)
      | (with_reducible exact impl_canon.mono _ _ _)
      | (with_reducible exact LeO.refl _)
      | (with_reducible exact LeO.none _)
      | (with_reducible refine LeO.ite ?_ ?_)
      | (with_reducible refine LeO.bind ?_ (fun _ => ?_))
      | exact impl_GraphOk.mono _ _ _
      | exact impl_canon.mono _ _ _
      | exact LeO.none _
      | refine LeO.ite ?_ ?_
      | refine LeO.bind ?_ (fun _ => ?_)
set_option maxHeartbeats 8000000 in
set_option maxRecDepth 100000 in
theorem impl_Canon.calls (k : Nat) (a0 : Int) (A1 : Option Addr) (c1 : Nat) (l1 : List (S96)) (r1 : List Int) (r2 : Bool) (w : World) (hr1 : Kd.C k96 w A1 l1.length l1) (hc1 : l1.length ≤ c1) (h : impl_Canon.f k a0 l1 = some (r1, r2)) :
    Calls Try.prog 35 #[.int .i64 a0, .slice A1 l1.length c1] w fun e w' => ∃ v0_ : Value, e = .returned (.tuple #[v0_, .bool r2]) ∧ Kd.R (Kd.int .i64) 3 w' w.heap.size (fun _ => True) v0_ r1 ∧ Below w.heap.size w w' := by
  have HR1 := Aside0.mk hr1
  have HC1 := Aside0.mk hc1
  clear hr1 hc1
  have HB := Aside0.mk (Below.refl w.heap.size w)
  have H : ((impl_GraphOk.f k a0 l1).bind fun t224 => (if t224 = true then ((impl_canon.f k a0 l1).bind fun bt225 => (some (bt225.1, bt225.2))) else (some (([] : List Int), false)))) = some (r1, r2) := h
  clear h
  replace H := Option.bind_eq_some_iff.mp H
  obtain ⟨t224, A30, H⟩ := H
  replace H : (if t224 = true then ((impl_canon.f k a0 l1).bind fun bt225 => (some (bt225.1, bt225.2))) else (some (([] : List Int), false))) = some (r1, r2) := H
  have A3 := Aside0.mk A30
  clear A30
  by_cases c4 : t224 = true
  · subst c4
    have H1 : ((impl_canon.f k a0 l1).bind fun bt225 => (some (bt225.1, bt225.2))) = some (r1, r2) := by rw [if_pos rfl] at H; exact H
    clear H
    have H := H1
    clear H1
    replace H := Option.bind_eq_some_iff.mp H
    obtain ⟨⟨t225, t226⟩, A50, H⟩ := H
    replace H : (some (t225, t226)) = some (r1, r2) := H
    have A5 := Aside0.mk A50
    clear A50
    simp only [Option.some.injEq, Prod.mk.injEq] at H
    obtain ⟨rfl, rfl⟩ := H
    go_enter Try.func35, Try.ntmps35
    go_wp2_with (first | ((with_reducible refine gate_callee (f := 92) rfl ?_); refine goesL_ (some 8) rfl rfl Try.func92 (by kernel_rfl) rfl #[.int .i64 a0, .slice A1 l1.length c1] rfl (by (try simp only [List.map_toArray, List.map_cons, List.map_nil]); first | done | rfl | (simp only [List.length_drop, List.length_take]; rfl)) ?_; (with_reducible refine (impl_GraphOk.calls k a0 _ _ l1 true _ ?side1 ?side2 A3.out).mono ?_); (case side1 => repeat (first | exact HR1.out | (with_reducible refine Kd.C_alloc ?_ _) | (with_reducible refine Kd.C_drewN ?_ _) | (with_reducible refine Kd.C_drew ?_))); (case side2 => exact HC1.out); rintro e w6 ⟨rfl, hb⟩; refine ⟨_, rfl, ?_⟩; have n0_ := Aside0.mk (below_step (by repeat (first | (with_reducible first | exact HB.out | apply below_alloc | apply pw_below_drewN | apply below_drew1) | exact HB.out)) hb); clear HB; have HB := n0_; clear n0_; (try clear hb); (try clear hb2); (try clear hk); (try clear hi)) | ((with_reducible refine gate_callee (f := 93) rfl ?_); refine goesL_ (some 12) rfl rfl Try.func93 (by kernel_rfl) rfl #[.int .i64 a0, .slice A1 l1.length c1] rfl (by (try simp only [List.map_toArray, List.map_cons, List.map_nil]); first | done | rfl | (simp only [List.length_drop, List.length_take]; rfl)) ?_; (with_reducible refine (impl_canon.calls k a0 _ _ l1 t225 t226 _ ?side1 ?side2 A5.out).mono ?_); (case side1 => repeat (first | exact (Kd.C_below HR1.out HB.out) | (with_reducible refine Kd.C_alloc ?_ _) | (with_reducible refine Kd.C_drewN ?_ _) | (with_reducible refine Kd.C_drew ?_))); (case side2 => exact HC1.out); rintro e w7 ⟨v227, rfl, ho0, hb⟩; refine ⟨_, rfl, ?_⟩; have n0_ := Aside0.mk (Kd.R_lower ho0 (below_size (by repeat (first | (with_reducible first | exact HB.out | apply below_alloc | apply pw_below_drewN | apply below_drew1) | exact HB.out)))); have n1_ := Aside0.mk (below_step (by repeat (first | (with_reducible first | exact HB.out | apply below_alloc | apply pw_below_drewN | apply below_drew1) | exact HB.out)) hb); clear HB; have HO228 := n0_; have HB := n1_; clear n0_ n1_; (try clear hb); (try clear hb2); (try clear hk); (try clear hi); (try clear ho0)))
    go_ret2
    exact ⟨_, by first | rfl | (simp [errW_none, errW_some] <;> rfl) | (simp [*, errW_none, errW_some] <;> rfl), by (with_reducible repeat (first | apply Kd.R_alloc | apply Kd.R_drewN | apply Kd.R_drew)); exact HO228.out, by repeat (first | (with_reducible first | exact HB.out | apply below_alloc | apply pw_below_drewN | apply below_drew1) | exact HB.out)⟩
  · replace c4 := Bool.eq_false_iff.mpr c4
    subst c4
    have H1 : (some (([] : List Int), false)) = some (r1, r2) := by rw [if_neg (show ¬ (false = true) by decide)] at H; exact H
    clear H
    have H := H1
    clear H1
    simp only [Option.some.injEq, Prod.mk.injEq] at H
    obtain ⟨rfl, rfl⟩ := H
    go_enter Try.func35, Try.ntmps35
    go_wp2_with (first | ((with_reducible refine gate_callee (f := 92) rfl ?_); refine goesL_ (some 8) rfl rfl Try.func92 (by kernel_rfl) rfl #[.int .i64 a0, .slice A1 l1.length c1] rfl (by (try simp only [List.map_toArray, List.map_cons, List.map_nil]); first | done | rfl | (simp only [List.length_drop, List.length_take]; rfl)) ?_; (with_reducible refine (impl_GraphOk.calls k a0 _ _ l1 false _ ?side1 ?side2 A3.out).mono ?_); (case side1 => repeat (first | exact HR1.out | (with_reducible refine Kd.C_alloc ?_ _) | (with_reducible refine Kd.C_drewN ?_ _) | (with_reducible refine Kd.C_drew ?_))); (case side2 => exact HC1.out); rintro e w8 ⟨rfl, hb⟩; refine ⟨_, rfl, ?_⟩; have n0_ := Aside0.mk (below_step (by repeat (first | (with_reducible first | exact HB.out | apply below_alloc | apply pw_below_drewN | apply below_drew1) | exact HB.out)) hb); clear HB; have HB := n0_; clear n0_; (try clear hb); (try clear hb2); (try clear hk); (try clear hi)))
    go_ret2
    exact ⟨_, by first | rfl | (simp [errW_none, errW_some] <;> rfl) | (simp [*, errW_none, errW_some] <;> rfl), by first | exact Kd.R_nil _ _ _ _ _ | exact Kd.N_nil _ _ _ _ _ | exact Kd.V_nil _ _ _ _ _ | exact Kd.Q_nil _ _ _ _ _ | exact Kd.S_nil _ _ _ _ _, by repeat (first | (with_reducible first | exact HB.out | apply below_alloc | apply pw_below_drewN | apply below_drew1) | exact HB.out)⟩

/-! ### impl_dist: function 71 -/
def dSet (M : List Int) (a b : Nat) (v : Int) : List Int := M.set (a * 16 + b) v
def dGet (M : List Int) (a b : Nat) : Int := M.getD (a * 16 + b) 0
def dInitB (a : Nat) (M : List Int) (N : Nat) : List Int := (List.range N).foldl (fun M b => dSet M a b (-1)) M
def dInit (N m : Nat) (M : List Int) : List Int := (List.range m).foldl (fun M a => dInitB a M N) M
def dEdges (l : List (S96)) (M : List Int) : List Int := l.foldl (fun M e => dSet M e.f0.toNat e.f1.toNat 1) M
def dStep (k a b : Nat) (M : List Int) : List Int :=
  if dGet M a k < 0 ∨ dGet M k b < 0 then M
  else if dGet M a b < 0 ∨ wrap64 (dGet M a k + dGet M k b) < dGet M a b then dSet M a b (wrap64 (dGet M a k + dGet M k b)) else M
def dRunB (k a : Nat) (m : Nat) (M : List Int) : List Int := (List.range m).foldl (fun M b => dStep k a b M) M
def dRunA (N k : Nat) (m : Nat) (M : List Int) : List Int := (List.range m).foldl (fun M a => dRunB k a N M) M
def dRun (N : Nat) (m : Nat) (M : List Int) : List Int := (List.range m).foldl (fun M k => dRunA N k N M) M
def dZero : List Int := List.replicate 256 0
def dEdgeOk (e : S96) : Bool := decide ((0 ≤ e.f0 ∧ e.f0 < 16) ∧ 0 ≤ e.f1 ∧ e.f1 < 16)
def impl_dist.f (a0 : Int) (l1 : List (S96)) : Option (List Int) :=
  if 0 ≤ a0 ∧ a0 ≤ 16 then (if l1.all dEdgeOk = true then some (dRun a0.toNat a0.toNat (dEdges l1 (dInit a0.toNat a0.toNat dZero))) else none) else none
theorem dW (i : Nat) (h : i ≤ 9223372036854775806) : wrap64 ((i : Int) + 1) = ((i + 1 : Nat) : Int) := by
  unfold wrap64
  omega
theorem dSet_len (M : List Int) (a b : Nat) (v : Int) : (dSet M a b v).length = M.length := by simp [dSet]
theorem foldl_len {α : Type} (f : List Int → α → List Int) (hf : ∀ M x, (f M x).length = M.length) (xs : List α) (M : List Int) : (xs.foldl f M).length = M.length := by
  induction xs generalizing M with
  | nil => rfl
  | cons a xs ih => rw [List.foldl_cons, ih, hf]
theorem dInitB_len (a : Nat) (M : List Int) (N : Nat) : (dInitB a M N).length = M.length := foldl_len _ (fun M b => dSet_len M a b _) _ _
theorem dInit_len (N m : Nat) (M : List Int) : (dInit N m M).length = M.length := foldl_len _ (fun M a => dInitB_len a M N) _ _
theorem dEdges_len (l : List (S96)) (M : List Int) : (dEdges l M).length = M.length := foldl_len _ (fun M e => dSet_len M _ _ _) _ _
theorem dStep_len (k a b : Nat) (M : List Int) : (dStep k a b M).length = M.length := by
  unfold dStep
  split
  · rfl
  · split
    · exact dSet_len _ _ _ _
    · rfl
theorem dRunB_len (k a m : Nat) (M : List Int) : (dRunB k a m M).length = M.length := foldl_len _ (fun M b => dStep_len k a b M) _ _
theorem dRunA_len (N k m : Nat) (M : List Int) : (dRunA N k m M).length = M.length := foldl_len _ (fun M a => dRunB_len k a N M) _ _
theorem dRun_len (N m : Nat) (M : List Int) : (dRun N m M).length = M.length := foldl_len _ (fun M k => dRunA_len N k N M) _ _
theorem impl_dist.len {a0 : Int} {l1 : List (S96)} {r : List Int} (h : impl_dist.f a0 l1 = some r) : r.length = 256 := by
  unfold impl_dist.f at h
  split at h
  · split at h
    · injection h with h
      rw [← h, dRun_len, dEdges_len, dInit_len]
      exact List.length_replicate
    · cases h
  · cases h
/-- A block of 256 numbers. -/
def dArr (M : List Int) : Array Value := (M.map (Value.int .i64)).toArray
theorem dArr_size (M : List Int) : (dArr M).size = M.length := by simp [dArr]
theorem dArr_get {M : List Int} {i : Nat} (h : i < M.length) : (dArr M)[i]? = some (.int .i64 (M.getD i 0)) := by
  simp [dArr, List.getElem?_eq_getElem h, List.getD_eq_getElem?_getD]
theorem dArr_set (M : List Int) (i : Nat) (v : Int) : (dArr M).setIfInBounds i (.int .i64 v) = dArr (M.set i v) := by
  simp [dArr, List.map_set]
theorem dArr_one (M : List Int) : (dArr M).all (·.oneCell') = true := by
  simp only [dArr, List.all_toArray, List.all_map, List.all_eq_true]
  intro x _
  rfl
theorem infoArr : (Try.prog.info? 100).map (fun i => (i.zero, i.size, i.bytes)) = some (some (.agg (dArr dZero)), 256, 2048) := by kernel_rfl
theorem allocArr {o : Oper} (ho : o.op = .alloc 100) (ρ : Operand → Value) (W : World) : (execOp ρ o).run Try.prog W = .ok (.value (.pointer (some ⟨W.heap.size, 0, none⟩))) (W.alloc (.cells (dArr dZero) 100 (0, 0))) := by
  obtain ⟨i, hi, hz⟩ := Option.map_eq_some_iff.1 infoArr
  generalize dArr dZero = z at hz ⊢
  simp only [Prod.mk.injEq] at hz
  obtain ⟨hz0, hz1, hz2⟩ := hz
  have hz' : ∀ W : World, (zeroValue 100).run Try.prog W = .ok (.agg z) W := fun W => by
    simp [zeroValue, typeInfo, hi, hz0]
  unfold execOp
  simp only [ho, Instr.alloc, Sem.run_bind, hz', Result.andThen_ok, Sem.run_pure]
  simp [newVar, newRow, Value.cells]
set_option maxHeartbeats 8000000 in
set_option maxRecDepth 100000 in
theorem impl_dist.calls (a0 : Int) (A1 : Option Addr) (c1 : Nat) (l1 : List (S96)) (r : List Int) (w : World) (hr1 : Kd.C k96 w A1 l1.length l1) (hc1 : l1.length ≤ c1) (h : impl_dist.f a0 l1 = some r) :
    Calls Try.prog 71 #[.int .i64 a0, .slice A1 l1.length c1] w fun e w' => e = .returned (.agg (dArr r)) ∧ Below w.heap.size w w' := by
  have HR1 := Aside0.mk hr1
  have HC1 := Aside0.mk hc1
  clear hr1 hc1
  have HLEN := Aside0.mk (impl_dist.len h)
  unfold impl_dist.f at h
  by_cases hn : 0 ≤ a0 ∧ a0 ≤ 16
  case neg => rw [if_neg hn] at h; cases h
  rw [if_pos hn] at h
  by_cases hl : l1.all dEdgeOk = true
  case neg => rw [if_neg hl] at h; cases h
  rw [if_pos hl] at h
  obtain ⟨N, rfl⟩ : ∃ N : Nat, a0 = (N : Int) := ⟨a0.toNat, by omega⟩
  rw [Int.toNat_natCast] at h
  have HN := Aside0.mk (show N ≤ 16 by omega)
  have HL := Aside0.mk hl
  have H := Aside0.mk (Option.some.inj h)
  clear hn hl h
  go_enter Try.func71, Try.ntmps71
  go_wp2_with (first
    | ((with_reducible refine gate_dst (N := 4) rfl ?_); refine box_event ?hg (N := 4) ?hd (cs := dArr dZero) (t := 100) ?hr ?_; (case hd => rfl); (case hg => rfl); (case hr => exact allocArr rfl _ _); intro g4 hg4 w4 hb4 hbel4; have HG4 := Aside0.mk hb4; have HB := Aside0.mk hbel4; have HS4 := Aside0.mk (show w.heap.size ≤ g4 by omega); clear hg4 hb4 hbel4)
    | ((with_reducible refine gate_dst (N := 5) rfl ?_); refine box_event ?hg (N := 5) ?hd (cs := dArr dZero) (t := 100) ?hr ?_; (case hd => rfl); (case hg => rfl); (case hr => exact allocArr rfl _ _); intro g5 hg5 w5 hb5 hbel5; have HG5 := Aside0.mk hb5; have HG4' := Aside0.mk (blk_below HG4.out hbel5); have HB' := Aside0.mk (below_step HB.out hbel5); have HS5 := Aside0.mk (show w.heap.size ≤ g5 by rw [hg5]; exact below_size HB.out); have HNE := Aside0.mk (show g4 ≠ g5 by rw [hg5]; have := blk_lt HG4.out; omega); clear HG4 HB; have HG4 := HG4'; have HB := HB'; clear HG4' HB'; clear hg5 hb5 hbel5))
  go_loopg [15] N (fun kq v15 w' => ∃ i : Nat, v15 = .int .i64 (i : Int) ∧ Aside0 (i + kq = N) ∧ Aside0 (w'.heap[g5]? = some (.cells (dArr (dInit N i dZero)) 100 (0, 0))) ∧ Aside0 (w'.heap[g4]? = some (.cells (dArr dZero) 100 (0, 0))) ∧ Aside0 (Below w.heap.size w w'))
  case atStart => exact ⟨0, rfl, ⟨by omega⟩, HG5, HG4, HB⟩
  case round =>
    clear HG5 HG4 HB
    obtain ⟨i, rfl, HI, HG5, HG4, HB⟩ := hrel
    by_cases c : i < N
    · have cb : decide ((i : Int) < (N : Int)) = true := by simpa using c
      go_wp2
      go_loopg [19] N (fun kq v19 w' => ∃ j : Nat, v19 = .int .i64 (j : Int) ∧ Aside0 (j + kq = N) ∧ Aside0 (w'.heap[g5]? = some (.cells (dArr (dInitB i (dInit N i dZero) j)) 100 (0, 0))) ∧ Aside0 (w'.heap[g4]? = some (.cells (dArr dZero) 100 (0, 0))) ∧ Aside0 (Below w.heap.size w w'))
      case atStart => exact ⟨0, rfl, ⟨by omega⟩, HG5, HG4, HB⟩
      case round =>
        clear HG5 HG4 HB
        obtain ⟨j, rfl, HJ, HG5, HG4, HB⟩ := hrel
        by_cases c2 : j < N
        · have cb2 : decide ((j : Int) < (N : Int)) = true := by simpa using c2
          have hx : wr.cell? ⟨g5, i * 16 + j, none⟩ = some (.int .i64 ((dInitB i (dInit N i dZero) j).getD (i * 16 + j) 0)) := by
            rw [blk_cell HG5.out]
            exact dArr_get (by rw [dInitB_len, dInit_len]; have := HN.out; simp only [dZero, List.length_replicate]; omega)
          have hf : wr.frozen? ⟨g5, i * 16 + j, none⟩ = false := blk_frozen HG5.out _
          have hi16 : i < 16 := by have := HN.out; omega
          have hj16 : j < 16 := by have := HN.out; omega
          go_wp2
          go_roundg (N - (j + 1))
          case measure => have := HJ.out; omega
          case rel => exact ⟨j + 1, (by first | rfl | rw [dW j (by have := HN.out; omega)]), ⟨by have := HJ.out; omega⟩, ⟨by rw [show dInitB i (dInit N i dZero) (j + 1) = dSet (dInitB i (dInit N i dZero) j) i j (-1) by simp [dInitB, List.range_succ, List.foldl_append], dSet, ← dArr_set]; exact blk_set HG5.out _ _⟩, ⟨blk_far HG4.out HNE.out _⟩, ⟨below_set HB.out HS5.out⟩⟩
        · have cb2 : decide ((j : Int) < (N : Int)) = false := by simpa using c2
          have ej : j = N := by have := HJ.out; omega
          subst ej
          go_wp2
          go_roundg (j - (i + 1))
          case measure => have := HI.out; omega
          case rel => exact ⟨i + 1, (by first | rfl | rw [dW i (by have := HN.out; omega)]), ⟨by have := HI.out; omega⟩, ⟨by rw [show dInit j (i + 1) dZero = dInitB i (dInit j i dZero) j by simp [dInit, List.range_succ, List.foldl_append]]; exact HG5.out⟩, HG4, HB⟩
    · have cb : decide ((i : Int) < (N : Int)) = false := by simpa using c
      have ei : i = N := by have := HI.out; omega
      subst ei
      go_wp2
      go_loopg [30] l1.length (fun kq v30 w' => ∃ j : Nat, v30 = .int .i64 (j : Int) ∧ Aside0 (j + kq = l1.length) ∧ Aside0 (w'.heap[g5]? = some (.cells (dArr (dEdges (l1.take j) (dInit i i dZero))) 100 (0, 0))) ∧ Aside0 (w'.heap[g4]? = some (.cells (dArr dZero) 100 (0, 0))) ∧ Aside0 (Below w.heap.size w w'))
      case atStart => exact ⟨0, rfl, ⟨by omega⟩, HG5, HG4, HB⟩
      case round =>
        clear HG5 HG4 HB
        obtain ⟨j, rfl, HJ, HG5, HG4, HB⟩ := hrel
        by_cases c2 : j < l1.length
        · have cb2 : decide ((j : Int) < (l1.length : Int)) = true := by simpa using c2
          obtain ⟨ad, ead, hx0, hx1⟩ := at_T96 HR1.out (j : Int) (by omega) (by omega)
          cases ead
          rw [Int.toNat_natCast] at hx0 hx1
          replace hx0 := (HB.out.cell (World.block_lt_of_cell? w _ hx0)).trans hx0
          replace hx1 := (HB.out.cell (World.block_lt_of_cell? w _ hx1)).trans hx1
          have hok : dEdgeOk l1[j] = true := List.all_eq_true.1 HL.out _ (List.getElem_mem c2)
          have hrd : rd_T96 l1 (j : Int) = l1[j] := by
            unfold rd_T96
            rw [Int.toNat_natCast, List.getD_eq_getElem?_getD, List.getElem?_eq_getElem c2]
            rfl
          rw [hrd] at hx0 hx1
          have hok2 : (0 ≤ l1[j].f0 ∧ l1[j].f0 < 16) ∧ 0 ≤ l1[j].f1 ∧ l1[j].f1 < 16 := of_decide_eq_true hok
          obtain ⟨a, ha⟩ : ∃ a : Nat, l1[j].f0 = (a : Int) := ⟨l1[j].f0.toNat, by omega⟩
          obtain ⟨b, hb⟩ : ∃ b : Nat, l1[j].f1 = (b : Int) := ⟨l1[j].f1.toNat, by omega⟩
          have hstep : dEdges (l1.take (j + 1)) (dInit i i dZero) = dSet (dEdges (l1.take j) (dInit i i dZero)) a b 1 := by
            rw [List.take_succ_eq_append_getElem c2]
            unfold dEdges
            rw [List.foldl_append, List.foldl_cons, List.foldl_nil, ha, hb, Int.toNat_natCast, Int.toNat_natCast]
          rw [ha] at hx0
          rw [hb] at hx1
          have ha16 : a < 16 := by omega
          have hb16 : b < 16 := by omega
          clear hok hok2 hrd ha hb
          go_wp2
          obtain ⟨b9, hb9⟩ : ∃ b9, b9 = wr.heap.size := ⟨_, rfl⟩
          obtain ⟨wq, hwq⟩ : ∃ wq, wq = wr.alloc (.cells #[.int .i64 (a : Int), .int .i64 (b : Int)] 96) := ⟨_, rfl⟩
          rw [← hwq, ← hb9]
          have hbel : Below wr.heap.size wr wq := by rw [hwq]; exact below_alloc (Below.refl _ _) _
          have hblk : wq.heap[b9]? = some (.cells #[.int .i64 (a : Int), .int .i64 (b : Int)] 96 (0, 0)) := by rw [hwq, hb9]; exact blk_new _ _
          have HG5' := Aside0.mk (blk_below HG5.out hbel)
          have HG4' := Aside0.mk (blk_below HG4.out hbel)
          have HB' := Aside0.mk (below_step HB.out hbel)
          have hq0 : wq.cell? ⟨b9, 0, none⟩ = some (.int .i64 (a : Int)) := by rw [blk_cell hblk]; rfl
          have hq1 : wq.cell? ⟨b9, 1, none⟩ = some (.int .i64 (b : Int)) := by rw [blk_cell hblk]; rfl
          have hqx : wq.cell? ⟨g5, a * 16 + b, none⟩ = some (.int .i64 ((dEdges (l1.take j) (dInit i i dZero)).getD (a * 16 + b) 0)) := by
            rw [blk_cell HG5'.out]
            exact dArr_get (by rw [dEdges_len, dInit_len]; simp only [dZero, List.length_replicate]; omega)
          have hqf : wq.frozen? ⟨g5, a * 16 + b, none⟩ = false := blk_frozen HG5'.out _
          clear hwq hb9 hbel hblk HG5 HG4 HB hx0 hx1
          go_region
          all_goals go_wp2
          all_goals go_roundg (l1.length - (j + 1))
          case measure => have := HJ.out; omega
          case rel => exact ⟨j + 1, (by first | rfl | rw [dW j (by have := HR1.out.2.1; omega)]), ⟨by have := HJ.out; omega⟩, ⟨by rw [hstep, dSet, ← dArr_set]; exact blk_set HG5'.out _ _⟩, ⟨blk_far HG4'.out HNE.out _⟩, ⟨below_drew1 (below_set HB'.out HS5.out)⟩⟩
        · have cb2 : decide ((j : Int) < (l1.length : Int)) = false := by simpa using c2
          have ej : j = l1.length := by have := HJ.out; omega
          subst ej
          rw [List.take_length] at HG5
          obtain ⟨M0, hM0⟩ : ∃ M0, M0 = dEdges l1 (dInit i i dZero) := ⟨_, rfl⟩
          rw [← hM0] at HG5
          have HM0 := Aside0.mk (show M0.length = 256 by rw [hM0, dEdges_len, dInit_len]; simp only [dZero, List.length_replicate])
          have HR := Aside0.mk (show dRun i i M0 = r by rw [hM0]; exact H.out)
          clear hM0 H HL c2 cb2 c cb HI HJ
          go_wp2
          go_loopg [42] i (fun kq v42 w' => ∃ kk : Nat, v42 = .int .i64 (kk : Int) ∧ Aside0 (kk + kq = i) ∧ Aside0 (w'.heap[g5]? = some (.cells (dArr (dRun i kk M0)) 100 (0, 0))) ∧ Aside0 (w'.heap[g4]? = some (.cells (dArr dZero) 100 (0, 0))) ∧ Aside0 (Below w.heap.size w w'))
          case atStart => exact ⟨0, rfl, ⟨by omega⟩, HG5, HG4, HB⟩
          case round =>
            clear HG5 HG4 HB
            obtain ⟨kk, rfl, HK, HG5, HG4, HB⟩ := hrel
            by_cases c3 : kk < i
            · have cb3 : decide ((kk : Int) < (i : Int)) = true := by simpa using c3
              go_wp2
              go_loopg [46] i (fun kq v46 w' => ∃ aa : Nat, v46 = .int .i64 (aa : Int) ∧ Aside0 (aa + kq = i) ∧ Aside0 (w'.heap[g5]? = some (.cells (dArr (dRunA i kk aa (dRun i kk M0))) 100 (0, 0))) ∧ Aside0 (w'.heap[g4]? = some (.cells (dArr dZero) 100 (0, 0))) ∧ Aside0 (Below w.heap.size w w'))
              case atStart => exact ⟨0, rfl, ⟨by omega⟩, HG5, HG4, HB⟩
              case round =>
                clear HG5 HG4 HB
                obtain ⟨aa, rfl, HA, HG5, HG4, HB⟩ := hrel
                by_cases c4 : aa < i
                · have cb4 : decide ((aa : Int) < (i : Int)) = true := by simpa using c4
                  go_wp2
                  go_loopg [50] i (fun kq v50 w' => ∃ bb : Nat, v50 = .int .i64 (bb : Int) ∧ Aside0 (bb + kq = i) ∧ Aside0 (w'.heap[g5]? = some (.cells (dArr (dRunB kk aa bb (dRunA i kk aa (dRun i kk M0)))) 100 (0, 0))) ∧ Aside0 (w'.heap[g4]? = some (.cells (dArr dZero) 100 (0, 0))) ∧ Aside0 (Below w.heap.size w w'))
                  case atStart => exact ⟨0, rfl, ⟨by omega⟩, HG5, HG4, HB⟩
                  case round =>
                    clear HG5 HG4 HB
                    obtain ⟨bb, rfl, HBB, HG5, HG4, HB⟩ := hrel
                    by_cases c5 : bb < i
                    · have cb5 : decide ((bb : Int) < (i : Int)) = true := by simpa using c5
                      obtain ⟨M, hM⟩ : ∃ M, M = dRunB kk aa bb (dRunA i kk aa (dRun i kk M0)) := ⟨_, rfl⟩
                      have hML : M.length = 256 := by rw [hM, dRunB_len, dRunA_len, dRun_len]; exact HM0.out
                      have hstep : dRunB kk aa (bb + 1) (dRunA i kk aa (dRun i kk M0)) = dStep kk aa bb M := by rw [hM]; simp [dRunB, List.range_succ, List.foldl_append]
                      rw [← hM] at HG5
                      have hk16 : kk < 16 := by have := HN.out; omega
                      have ha16 : aa < 16 := by have := HN.out; omega
                      have hb16 : bb < 16 := by have := HN.out; omega
                      have cell : ∀ q, q < 256 → wr.cell? ⟨g5, q, none⟩ = some (.int .i64 (M.getD q 0)) := fun q hq => by
                        rw [blk_cell HG5.out]
                        exact dArr_get (by omega)
                      have hx1 : wr.cell? ⟨g5, aa * 16 + kk, none⟩ = some (.int .i64 (dGet M aa kk)) := cell _ (by omega)
                      have hx2 : wr.cell? ⟨g5, kk * 16 + bb, none⟩ = some (.int .i64 (dGet M kk bb)) := cell _ (by omega)
                      have hx3 : wr.cell? ⟨g5, aa * 16 + bb, none⟩ = some (.int .i64 (dGet M aa bb)) := cell _ (by omega)
                      have hf3 : wr.frozen? ⟨g5, aa * 16 + bb, none⟩ = false := blk_frozen HG5.out _
                      clear cell hM
                      by_cases d1 : dGet M aa kk < 0
                      · have db1 : decide (dGet M aa kk < 0) = true := decide_eq_true d1
                        go_wp2
                        go_roundg (i - (bb + 1))
                        case measure => have := HBB.out; omega
                        case rel => exact ⟨bb + 1, (by first | rfl | rw [dW bb (by omega)]), ⟨by omega⟩, ⟨by rw [hstep, dStep, if_pos (Or.inl d1)]; exact HG5.out⟩, HG4, HB⟩
                      · have db1 : decide (dGet M aa kk < 0) = false := decide_eq_false d1
                        by_cases d2 : dGet M kk bb < 0
                        · have db2 : decide (dGet M kk bb < 0) = true := decide_eq_true d2
                          go_wp2
                          go_roundg (i - (bb + 1))
                          case measure => have := HBB.out; omega
                          case rel => exact ⟨bb + 1, (by first | rfl | rw [dW bb (by omega)]), ⟨by omega⟩, ⟨by rw [hstep, dStep, if_pos (Or.inr d2)]; exact HG5.out⟩, HG4, HB⟩
                        · have db2 : decide (dGet M kk bb < 0) = false := decide_eq_false d2
                          by_cases d3 : dGet M aa bb < 0 ∨ wrap64 (dGet M aa kk + dGet M kk bb) < dGet M aa bb
                          · have es : dStep kk aa bb M = dSet M aa bb (wrap64 (dGet M aa kk + dGet M kk bb)) := by
                              unfold dStep
                              rw [if_neg (by omega), if_pos d3]
                            by_cases d4 : dGet M aa bb < 0
                            · have db4 : decide (dGet M aa bb < 0) = true := decide_eq_true d4
                              go_wp2
                              go_region
                              all_goals go_wp2
                              all_goals go_roundg (i - (bb + 1))
                              case measure => have := HBB.out; omega
                              case rel => exact ⟨bb + 1, (by first | rfl | rw [dW bb (by omega)]), ⟨by omega⟩, ⟨by rw [hstep, es, dSet, ← dArr_set]; exact blk_set HG5.out _ _⟩, ⟨blk_far HG4.out HNE.out _⟩, ⟨below_drew1 (below_set HB.out HS5.out)⟩⟩
                            · have db4 : decide (dGet M aa bb < 0) = false := decide_eq_false d4
                              have db5 : decide (wrap64 (dGet M aa kk + dGet M kk bb) < dGet M aa bb) = true := decide_eq_true (by omega)
                              go_wp2
                              go_region
                              all_goals go_wp2
                              all_goals go_roundg (i - (bb + 1))
                              case measure => have := HBB.out; omega
                              case rel => exact ⟨bb + 1, (by first | rfl | rw [dW bb (by omega)]), ⟨by omega⟩, ⟨by rw [hstep, es, dSet, ← dArr_set]; exact blk_set HG5.out _ _⟩, ⟨blk_far HG4.out HNE.out _⟩, ⟨below_drew1 (below_set HB.out HS5.out)⟩⟩
                          · have es : dStep kk aa bb M = M := by
                              unfold dStep
                              rw [if_neg (by omega), if_neg d3]
                            have db4 : decide (dGet M aa bb < 0) = false := decide_eq_false (by omega)
                            have db5 : decide (wrap64 (dGet M aa kk + dGet M kk bb) < dGet M aa bb) = false := decide_eq_false (by omega)
                            go_wp2
                            go_region
                            all_goals go_wp2
                            all_goals go_roundg (i - (bb + 1))
                            case measure => have := HBB.out; omega
                            case rel => exact ⟨bb + 1, (by first | rfl | rw [dW bb (by omega)]), ⟨by omega⟩, ⟨by rw [hstep, es]; exact HG5.out⟩, ⟨HG4.out⟩, ⟨below_drew1 HB.out⟩⟩
                    · have cb5 : decide ((bb : Int) < (i : Int)) = false := by simpa using c5
                      have ej : bb = i := by have := HBB.out; omega
                      subst ej
                      go_wp2
                      go_roundg (bb - (aa + 1))
                      case measure => have := HA.out; omega
                      case rel => exact ⟨aa + 1, (by first | rfl | rw [dW aa (by have := HN.out; omega)]), ⟨by omega⟩, ⟨by rw [show dRunA bb kk (aa + 1) (dRun bb kk M0) = dRunB kk aa bb (dRunA bb kk aa (dRun bb kk M0)) by simp [dRunA, List.range_succ, List.foldl_append]]; exact HG5.out⟩, HG4, HB⟩
                · have cb4 : decide ((aa : Int) < (i : Int)) = false := by simpa using c4
                  have ej : aa = i := by have := HA.out; omega
                  subst ej
                  go_wp2
                  go_roundg (aa - (kk + 1))
                  case measure => have := HK.out; omega
                  case rel => exact ⟨kk + 1, (by first | rfl | rw [dW kk (by have := HN.out; omega)]), ⟨by omega⟩, ⟨by rw [show dRun aa (kk + 1) M0 = dRunA aa kk aa (dRun aa kk M0) by simp [dRun, List.range_succ, List.foldl_append]]; exact HG5.out⟩, HG4, HB⟩
            · have cb3 : decide ((kk : Int) < (i : Int)) = false := by simpa using c3
              have ej : kk = i := by have := HK.out; omega
              subst ej
              rw [HR.out] at HG5
              have hsz : (Try.prog.info? 100).map (·.size) = some (dArr r).size := by rw [dArr_size, HLEN.out]; kernel_rfl
              have huArr := Try.underlying100
              go_wp2_with (first
                | (refine wpList_load_row rfl 100 (.tmp 5) rfl g5 rfl 100 (dArr r) (0, 0) _ HG5.out huArr rfl hsz ?_)
                | (refine wpList_store_row rfl 100 (.tmp 4) (.tmp 101) rfl g4 (dArr r) rfl rfl 100 (dArr dZero) HG4.out hsz ?hold (dArr_one r) ?_; (case hold => rw [dArr_size, dArr_size, HLEN.out]; simp only [dZero, List.length_replicate])))
              (try simp only [Exit.inBlock, Exit.then])
              exact bodyPost_ret_by (results_cell_row rfl _ _ g4 100 (dArr r) (0, 0) _ rfl (setRow_heap _ g4 _ (dArr r) 100 (0, 0) HG4.out) huArr rfl hsz) rfl ⟨rfl, below_setRow HB.out HS4.out _⟩

/-! ### impl_Circle: function 36 -/
/-- The least number of the shortest circle: looked at from the numbers below i down. -/
def cScan (M : List Int) : Nat → Int → Int
  | 0, q => q
  | j + 1, q => cScan M j (if dGet M j j > 0 ∧ (q < 0 ∨ dGet M j j ≤ dGet M q.toNat q.toNat) then (j : Int) else q)
theorem cScan_succ (M : List Int) (j : Nat) (q : Int) : cScan M (j + 1) q = cScan M j (if dGet M j j > 0 ∧ (q < 0 ∨ dGet M j j ≤ dGet M q.toNat q.toNat) then (j : Int) else q) := rfl
def cNext (M : List Int) (N : Nat) (q : Nat) (last : Int) (left : Int) (v : Nat) : Bool := decide (dGet M last.toNat v = 1) && decide (dGet M v q = left)
def cLoop (M : List Int) (N q : Nat) : Nat → List Int → List Int
  | 0, o => o
  | m + 1, o => match (List.range N).find? (cNext M N q (o.getLastD 0) ((m + 1 : Nat) : Int)) with
    | some v => cLoop M N q m (o ++ [(v : Int)])
    | none => cLoop M N q m o
def impl_Circle.f (k : Nat) (a0 : Int) (l1 : List (S96)) : Option (List Int) :=
  (impl_GraphOk.f k a0 l1).bind fun t => if t = true then ((impl_dist.f a0 l1).bind fun M => if cScan M a0.toNat (-1) < 0 then some [] else (if 0 < dGet M (cScan M a0.toNat (-1)).toNat (cScan M a0.toNat (-1)).toNat ∧ dGet M (cScan M a0.toNat (-1)).toNat (cScan M a0.toNat (-1)).toNat ≤ 1000000 then some (cLoop M a0.toNat (cScan M a0.toNat (-1)).toNat (dGet M (cScan M a0.toNat (-1)).toNat (cScan M a0.toNat (-1)).toNat - 1).toNat [cScan M a0.toNat (-1)]) else none)) else some []
theorem impl_Circle.mono : ∀ a0 a1 k, LeO (impl_Circle.f k a0 a1) (impl_Circle.f (k + 1) a0 a1) := by
  intro a0 a1 k
  unfold impl_Circle.f
  exact LeO.bind (impl_GraphOk.mono _ _ _) (fun _ => LeO.refl _)
theorem cScan_lt (M : List Int) {i N : Nat} {q : Int} (hi : i ≤ N) (hq : q < (N : Int)) : cScan M i q < (N : Int) := by
  induction i generalizing q with
  | zero => exact hq
  | succ j ih =>
    unfold cScan
    refine ih (by omega) ?_
    split <;> omega
theorem impl_dist.n16 {a0 : Int} {l1 : List (S96)} {r : List Int} (h : impl_dist.f a0 l1 = some r) : 0 ≤ a0 ∧ a0 ≤ 16 := by
  unfold impl_dist.f at h
  split at h
  · assumption
  · cases h
set_option maxHeartbeats 8000000 in
set_option maxRecDepth 100000 in
theorem impl_Circle.calls (k : Nat) (a0 : Int) (A1 : Option Addr) (c1 : Nat) (l1 : List (S96)) (r : List Int) (w : World) (hr1 : Kd.C k96 w A1 l1.length l1) (hc1 : l1.length ≤ c1) (h : impl_Circle.f k a0 l1 = some r) :
    Calls Try.prog 36 #[.int .i64 a0, .slice A1 l1.length c1] w fun e w' => ∃ v0_ : Value, e = .returned (v0_) ∧ Kd.R (Kd.int .i64) 3 w' w.heap.size (fun _ => True) v0_ r ∧ Below w.heap.size w w' := by
  have HR1 := Aside0.mk hr1
  have HC1 := Aside0.mk hc1
  clear hr1 hc1
  have HB := Aside0.mk (Below.refl w.heap.size w)
  unfold impl_Circle.f at h
  obtain ⟨t1, e1, h⟩ := Option.bind_eq_some_iff.mp h
  have E1 := Aside0.mk e1
  clear e1
  cases t1 with
  | false =>
    rw [if_neg (by simp)] at h
    obtain rfl := Option.some.inj h
    go_enter Try.func36, Try.ntmps36
    go_wp2_with (first | ((with_reducible refine gate_dst (N := 11) rfl ?_); refine Kd.R_lit (Kd.int .i64) _ 3 ?hg (N := 11) ?hd (xs := ([] : List Int)) (inner := []) (ok := fun _ => True) (okp := fun _ => True) ?hr ?hp (fun _ hk => hk) trivial (Below.refl _ _) (Nat.le_refl _) (by simp) ?_; (case hd => rfl); (case hg => rfl); (case hr => first | (go_simp; done) | (go_simp; rfl)); (case hp => exact (Reps.none _ _)); intro v1 w3 ho hb hg_ hnew_; clear hg_ hnew_; have HO := Aside0.mk ho; have HBq := Aside0.mk hb; clear HB; have HB := HBq; clear HBq ho hb) | (go_at_call 92; (with_reducible refine (impl_GraphOk.calls k a0 _ _ l1 false _ ?s1 HC1.out E1.out).mono ?_); (case s1 => exact Kd.C_below HR1.out HB.out); rintro e w1 ⟨rfl, hb1⟩; have HOq := Aside0.mk (Kd.R_below HO.out hb1); have HBq := Aside0.mk (below_step HB.out hb1); clear HO HB hb1; have HO := HOq; have HB := HBq; clear HOq HBq))
    go_ret
    exact ⟨_, rfl, HO.out, HB.out⟩
  | true =>
    rw [if_pos rfl] at h
    obtain ⟨M, e4, h⟩ := Option.bind_eq_some_iff.mp h
    have E4 := Aside0.mk e4
    have HM := Aside0.mk (impl_dist.len e4)
    have hn16 := impl_dist.n16 e4
    clear e4
    obtain ⟨N, rfl⟩ : ∃ N : Nat, a0 = (N : Int) := ⟨a0.toNat, by omega⟩
    rw [Int.toNat_natCast] at h
    have HN := Aside0.mk (show N ≤ 16 by omega)
    have H := Aside0.mk h
    clear hn16 h
    go_enter Try.func36, Try.ntmps36
    go_wp2_with (first | ((with_reducible refine gate_dst (N := 11) rfl ?_); refine Kd.R_lit (Kd.int .i64) _ 3 ?hg (N := 11) ?hd (xs := ([] : List Int)) (inner := []) (ok := fun _ => True) (okp := fun _ => True) ?hr ?hp (fun _ hk => hk) trivial (Below.refl _ _) (Nat.le_refl _) (by simp) ?_; (case hd => rfl); (case hg => rfl); (case hr => first | (go_simp; done) | (go_simp; rfl)); (case hp => exact (Reps.none _ _)); intro v1 w3 ho hb hg_ hnew_; clear hg_ hnew_; have HO := Aside0.mk ho; have HBq := Aside0.mk hb; clear HB; have HB := HBq; clear HBq ho hb) | (go_at_call 92; (with_reducible refine (impl_GraphOk.calls k (N : Int) _ _ l1 true _ ?s1 HC1.out E1.out).mono ?_); (case s1 => exact Kd.C_below HR1.out HB.out); rintro e w1 ⟨rfl, hb1⟩; have HOq := Aside0.mk (Kd.R_below HO.out hb1); have HBq := Aside0.mk (below_step HB.out hb1); clear HO HB hb1; have HO := HOq; have HB := HBq; clear HOq HBq) | (go_at_call 71; (with_reducible refine (impl_dist.calls (N : Int) _ _ l1 M _ ?s1 HC1.out E4.out).mono ?_); (case s1 => exact Kd.C_below HR1.out HB.out); rintro e w2 ⟨rfl, hb2⟩; have HOq := Aside0.mk (Kd.R_below HO.out hb2); have HBq := Aside0.mk (below_step HB.out hb2); clear HO HB hb2; have HO := HOq; have HB := HBq; clear HOq HBq) | ((with_reducible refine gate_dst (N := 6) rfl ?_); refine box_event ?hg (N := 6) ?hd (cs := dArr dZero) (t := 100) ?hr ?_; (case hd => rfl); (case hg => rfl); (case hr => exact allocArr rfl _ _); intro g6 hg6 w6 hb6 hbel6; have HG6 := Aside0.mk hb6; have HOq := Aside0.mk (Kd.R_below HO.out hbel6); have HS6 := Aside0.mk (show w.heap.size ≤ g6 by rw [hg6]; exact below_size HB.out); have HBq := Aside0.mk (below_step HB.out hbel6); clear HO HB; have HO := HOq; have HB := HBq; clear HOq HBq hg6 hb6 hbel6) | (refine wpList_store_row rfl 100 (.tmp 6) (.tmp 19) rfl g6 (dArr M) rfl rfl 100 (dArr dZero) HG6.out (by rw [dArr_size, HM.out]; kernel_rfl) (by rw [dArr_size, dArr_size, HM.out]; simp only [dZero, List.length_replicate]) (dArr_one M) ?_; obtain ⟨w7, hw7⟩ : ∃ w7, w7 = w6.setRow g6 (dArr M) := ⟨_, rfl⟩; rw [← hw7]; have HGq := Aside0.mk (show w7.heap[g6]? = some (.cells (dArr M) 100 (0, 0)) by rw [hw7]; exact setRow_heap _ g6 _ (dArr M) 100 (0, 0) HG6.out); have HOq := Aside0.mk (show Kd.R (Kd.int .i64) 3 w7 w.heap.size (fun _ => True) v1 [] by rw [hw7]; exact Kd.R_mono (Kd.R_move (Kd.R_types HO.out HG6.out (by decide)) (fun k_ hk => setRow_other _ _ _ _ hk.2)) (fun _ _ => trivial)); have HBq := Aside0.mk (show Below w.heap.size w w7 by rw [hw7]; exact below_setRow HB.out HS6.out _); clear HO HB HG6 hw7; have HO := HOq; have HB := HBq; have HG6 := HGq; clear HOq HBq HGq))
    clear HC1 HR1 E1 E4
    go_loopg [7, 8] N (fun kq v7 v8 w' => ∃ (i : Nat) (q kk : Int), v7 = .int .i64 q ∧ v8 = .int .i64 kk ∧ Aside0 (kk = (i : Int) - 1) ∧ Aside0 (i ≤ N) ∧ Aside0 (i = kq) ∧ Aside0 (cScan M i q = cScan M N (-1)) ∧ Aside0 (q < (N : Int)) ∧ Aside0 (w'.heap[g6]? = some (.cells (dArr M) 100 (0, 0))) ∧ Aside0 (Kd.R (Kd.int .i64) 3 w' w.heap.size (fun _ => True) v1 []) ∧ Aside0 (Below w.heap.size w w'))
    case atStart => exact ⟨N, -1, _, rfl, rfl, ⟨by first | rfl | (have := HN.out; unfold wrap64; omega)⟩, ⟨Nat.le_refl _⟩, ⟨rfl⟩, ⟨rfl⟩, ⟨by omega⟩, HG6, HO, HB⟩
    case round =>
      clear HG6 HO HB
      obtain ⟨i, q, kk, rfl, rfl, hkk, HI, HK, HS, HQ, HG6, HO, HB⟩ := hrel
      cases i with
      | succ j =>
        obtain rfl : kk = (j : Int) := by have := hkk.out; omega
        clear hkk
        have hj16 : j < 16 := by have := HN.out; have := HI.out; omega
        have cell : ∀ p, p < 256 → wr.cell? ⟨g6, p, none⟩ = some (.int .i64 (M.getD p 0)) := fun p hp => by
          rw [blk_cell HG6.out]
          exact dArr_get (by have := HM.out; omega)
        have hx1 : wr.cell? ⟨g6, j * 16 + j, none⟩ = some (.int .i64 (dGet M j j)) := cell _ (by omega)
        by_cases d1 : dGet M j j > 0
        · have db1 : decide (0 < dGet M j j) = true := decide_eq_true d1
          by_cases d2 : q < 0
          · have db2 : decide (q < 0) = true := decide_eq_true d2
            clear cell
            have HS2 := Aside0.mk (show cScan M j (j : Int) = cScan M N (-1) by rw [← HS.out, cScan_succ, if_pos ⟨d1, Or.inl d2⟩])
            clear HS
            go_wp2
            go_region
            all_goals go_wp2
            all_goals go_roundg j
            case measure => have := HK.out; omega
            case rel => exact ⟨j, (j : Int), _, rfl, rfl, ⟨by first | rfl | (unfold wrap64; omega)⟩, ⟨by have := HI.out; omega⟩, ⟨rfl⟩, HS2, ⟨by have := HI.out; omega⟩, HG6, ⟨by (with_reducible repeat (first | apply Kd.R_alloc | apply Kd.R_drewN | apply Kd.R_drew)); exact HO.out⟩, ⟨by repeat (first | (with_reducible first | exact HB.out | apply below_alloc | apply pw_below_drewN | apply below_drew1) | exact HB.out)⟩⟩
          · have db2 : decide (q < 0) = false := decide_eq_false d2
            obtain ⟨p, rfl⟩ : ∃ p : Nat, q = (p : Int) := ⟨q.toNat, by omega⟩
            have hp16 : p < 16 := by have := HN.out; have := HQ.out; omega
            have hx2 : wr.cell? ⟨g6, p * 16 + p, none⟩ = some (.int .i64 (dGet M p p)) := cell _ (by omega)
            clear cell
            by_cases d3 : dGet M j j ≤ dGet M p p
            · have db3 : decide (dGet M j j ≤ dGet M p p) = true := decide_eq_true d3
              have HS2 := Aside0.mk (show cScan M j (j : Int) = cScan M N (-1) by rw [← HS.out, cScan_succ, if_pos ⟨d1, Or.inr (by rw [Int.toNat_natCast]; exact d3)⟩])
              clear HS
              go_wp2
              go_region
              all_goals go_wp2
              all_goals go_roundg j
              case measure => have := HK.out; omega
              case rel => exact ⟨j, (j : Int), _, rfl, rfl, ⟨by first | rfl | (unfold wrap64; omega)⟩, ⟨by have := HI.out; omega⟩, ⟨rfl⟩, HS2, ⟨by have := HI.out; omega⟩, HG6, ⟨by (with_reducible repeat (first | apply Kd.R_alloc | apply Kd.R_drewN | apply Kd.R_drew)); exact HO.out⟩, ⟨by repeat (first | (with_reducible first | exact HB.out | apply below_alloc | apply pw_below_drewN | apply below_drew1) | exact HB.out)⟩⟩
            · have db3 : decide (dGet M j j ≤ dGet M p p) = false := decide_eq_false d3
              have HS2 := Aside0.mk (show cScan M j (p : Int) = cScan M N (-1) by rw [← HS.out, cScan_succ, if_neg (by rintro ⟨_, h | h⟩; exact d2 h; rw [Int.toNat_natCast] at h; exact d3 h)])
              clear HS
              go_wp2
              go_region
              all_goals go_wp2
              all_goals go_roundg j
              case measure => have := HK.out; omega
              case rel => exact ⟨j, (p : Int), _, rfl, rfl, ⟨by first | rfl | (unfold wrap64; omega)⟩, ⟨by have := HI.out; omega⟩, ⟨rfl⟩, HS2, ⟨HQ.out⟩, HG6, ⟨by (with_reducible repeat (first | apply Kd.R_alloc | apply Kd.R_drewN | apply Kd.R_drew)); exact HO.out⟩, ⟨by repeat (first | (with_reducible first | exact HB.out | apply below_alloc | apply pw_below_drewN | apply below_drew1) | exact HB.out)⟩⟩
        · have db1 : decide (0 < dGet M j j) = false := decide_eq_false d1
          have HS2 := Aside0.mk (show cScan M j q = cScan M N (-1) by rw [← HS.out, cScan_succ, if_neg (fun h => d1 h.1)])
          clear HS
          clear cell
          go_wp2
          go_region
          all_goals go_wp2
          all_goals go_roundg j
          case measure => have := HK.out; omega
          case rel => exact ⟨j, q, _, rfl, rfl, ⟨by first | rfl | (unfold wrap64; omega)⟩, ⟨by have := HI.out; omega⟩, ⟨rfl⟩, HS2, ⟨HQ.out⟩, HG6, ⟨by (with_reducible repeat (first | apply Kd.R_alloc | apply Kd.R_drewN | apply Kd.R_drew)); exact HO.out⟩, ⟨by repeat (first | (with_reducible first | exact HB.out | apply below_alloc | apply pw_below_drewN | apply below_drew1) | exact HB.out)⟩⟩
      | zero =>
        obtain rfl : kk = -1 := by have := hkk.out; omega
        clear hkk
        have hs : q = cScan M N (-1) := HS.out
        rw [← hs] at H
        clear hs HS
        by_cases d2 : q < 0
        · have db2 : decide (q < 0) = true := decide_eq_true d2
          have h := H.out
          rw [if_pos d2] at h
          obtain rfl := Option.some.inj h
          clear h
          go_wp2
          go_ret
          exact ⟨_, rfl, HO.out, HB.out⟩
        · have db2 : decide (q < 0) = false := decide_eq_false d2
          obtain ⟨p, rfl⟩ : ∃ p : Nat, q = (p : Int) := ⟨q.toNat, by omega⟩
          have hp16 : p < 16 := by have := HN.out; have := HQ.out; omega
          have h := H.out
          rw [if_neg d2, Int.toNat_natCast] at h
          by_cases d3 : 0 < dGet M p p ∧ dGet M p p ≤ 1000000
          case neg => rw [if_neg d3] at h; cases h
          rw [if_pos d3] at h
          have HR := Aside0.mk (Option.some.inj h)
          have HD := Aside0.mk d3
          clear h d3 H
          have HW := Aside0.mk (show wrap64 (dGet M p p - 1) = dGet M p p - 1 by have := HD.out; unfold wrap64; omega)
          have hx1 : wr.cell? ⟨g6, p * 16 + p, none⟩ = some (.int .i64 (dGet M p p)) := by
            rw [blk_cell HG6.out]
            exact dArr_get (by have := HM.out; omega)
          obtain ⟨Ao, co, eo⟩ := Kd.R_slice HO.out
          subst eo
          go_wp2_with (first | ((with_reducible refine gate_builtin (b := .append) (xs := #[.tmp 53, .tmp 55]) rfl ?_); at_builtin; refine Kd.R_append (Kd.int .i64) (w0 := w) w.heap.size rfl (.tmp 53) (.tmp 55) 41 3 (.int .i64 0) 8 rfl Try.underlying41 info3 rfl (by decide) (by omega) (.slice Ao 0 co) ([] : List Int) (p : Int) [.int .i64 (p : Int)] (fun _ => True) (fun _ => False) rfl rfl ?aP (fun _ hk => hk.elim) ?aF ?aO ?aB ?aS ?aL ?_; (case aP => exact rfl); (case aB => exact (by repeat (first | (with_reducible first | exact HB.out | apply below_alloc | apply pw_below_drewN | apply below_drew1) | exact HB.out))); (case aF => exact (fun _ _ => trivial)); (case aO => exact (by (with_reducible repeat (first | apply Kd.R_alloc | apply Kd.R_drewN | apply Kd.R_drew)); exact HO.out)); (case aS => exact (below_size (by repeat (first | (with_reducible first | exact HB.out | apply below_alloc | apply pw_below_drewN | apply below_drew1) | exact HB.out)))); (case aL => show (0 + 1) * 8 ≤ 140737488355328; omega); intro v5 w5 ho hb hg hat; have HGq := Aside0.mk (blk_grown HG6.out hg (Kd.R_ne HO.out HG6.out (by decide))); have n0_ := Aside0.mk hb; have n1_ := Aside0.mk ho; clear HB HO HG6; have HB := n0_; have HO := n1_; have HG6 := HGq; have hx2 : w5.cell? ⟨g6, p * 16 + p, none⟩ = some (.int .i64 (dGet M p p)) := (by rw [blk_cell HG6.out]; exact dArr_get (by have := HM.out; omega)); clear n0_ n1_ HGq hx1; clear ho hb hg hat))
          clear hx2
          go_loopg [5, 9] (dGet M p p - 1).toNat (fun kq v5 v9 w' => ∃ (o : List Int) (lf : Int), v9 = .int .i64 lf ∧ Aside0 (lf.toNat = kq) ∧ Aside0 (cLoop M N p lf.toNat o = r) ∧ Aside0 (o.length + lf.toNat ≤ 1000002) ∧ Aside0 (o ≠ []) ∧ Aside0 (∀ x ∈ o, 0 ≤ x ∧ x < 16) ∧ Aside0 (w'.heap[g6]? = some (.cells (dArr M) 100 (0, 0))) ∧ Aside0 (Kd.R (Kd.int .i64) 3 w' w.heap.size (fun _ => True) v5 o) ∧ Aside0 (Below w.heap.size w w'))
          case atStart => exact ⟨[(p : Int)], _, rfl, ⟨by rw [HW.out]⟩, ⟨by rw [HW.out]; exact HR.out⟩, ⟨by have := HD.out; (try rw [HW.out]); simp only [List.length_singleton]; omega⟩, ⟨by simp⟩, ⟨by intro x hx; rw [List.mem_singleton.1 hx]; omega⟩, HG6, HO, HB⟩
          case round =>
            clear HG6 HO HB HR
            obtain ⟨o, lf, rfl, HKK, HR, HLM, HNE, HALL, HG6, HO, HB⟩ := hrel
            by_cases c1 : lf > 0
            · have cb1 : decide (0 < lf) = true := decide_eq_true c1
              obtain ⟨m, rfl⟩ : ∃ m : Nat, lf = ((m + 1 : Nat) : Int) := ⟨lf.toNat - 1, by omega⟩
              rw [Int.toNat_natCast] at HKK HR HLM
              obtain ⟨Ao2, co2, eo2⟩ := Kd.R_slice HO.out
              subst eo2
              obtain ⟨t, ht⟩ : ∃ t, o.length = t + 1 := ⟨o.length - 1, by have := List.length_pos_iff.2 HNE.out; omega⟩
              obtain ⟨ad, ead, hx0⟩ := Kd.at_int (Kd.R_reads' HO.out).2.2 (t : Int) (by omega) (by omega)
              cases ead
              have hlast : rd o (t : Int) = o.getLastD 0 := by
                unfold rd
                rw [Int.toNat_natCast, List.getD_eq_getElem?_getD, List.getLastD_eq_getLast?, List.getLast?_eq_getElem?, ht]
                rfl
              rw [hlast, Int.toNat_natCast] at hx0
              have hmem : 0 ≤ o.getLastD 0 ∧ o.getLastD 0 < 16 := by
                have h1 : o.getLastD 0 ∈ o := by
                  rw [← hlast]
                  unfold rd
                  rw [Int.toNat_natCast, List.getD_eq_getElem?_getD, List.getElem?_eq_getElem (by omega)]
                  exact List.getElem_mem _
                exact HALL.out _ h1
              obtain ⟨z, hz⟩ : ∃ z : Nat, o.getLastD 0 = (z : Int) := ⟨(o.getLastD 0).toNat, by omega⟩
              rw [hz] at hx0
              have hz16 : z < 16 := by omega
              have HR2 := Aside0.mk (show (match (List.range N).find? (cNext M N p (z : Int) ((m + 1 : Nat) : Int)) with | some v => cLoop M N p m (o ++ [(v : Int)]) | none => cLoop M N p m o) = r by rw [← HR.out, cLoop, hz])
              have HT := Aside0.mk ht
              rw [ht] at HO
              clear hmem hlast hz HR
              go_wp2
              go_loopg [5, 68] N (fun kq v5 v68 w' => ∃ v : Nat, v5 = .slice (some ad) (t + 1) co2 ∧ v68 = .int .i64 (v : Int) ∧ Aside0 (v + kq = N) ∧ Aside0 ((List.range N).find? (cNext M N p (z : Int) ((m + 1 : Nat) : Int)) = ((List.range N).drop v).find? (cNext M N p (z : Int) ((m + 1 : Nat) : Int))) ∧ Aside0 (w'.heap[g6]? = some (.cells (dArr M) 100 (0, 0))) ∧ Aside0 (w'.cell? (ad.add t) = some (.int .i64 (z : Int))) ∧ Aside0 (Kd.R (Kd.int .i64) 3 w' w.heap.size (fun _ => True) (.slice (some ad) (t + 1) co2) o) ∧ Aside0 (Below w.heap.size w w'))
              case atStart => exact ⟨0, by first | rfl | rw [HT.out], rfl, ⟨by omega⟩, ⟨rfl⟩, HG6, ⟨hx0⟩, HO, HB⟩
              case round =>
                clear HG6 HO HB hx0
                obtain ⟨v, rfl, rfl, HV, HF, HG6, HX0, HO, HB⟩ := hrel
                by_cases c2 : v < N
                · have cb2 : decide ((v : Int) < (N : Int)) = true := by simpa using c2
                  have hv16 : v < 16 := by have := HN.out; omega
                  have hx0 := HX0.out
                  have ht0 : t < 1000002 := by have := HLM.out; have := HT.out; omega
                  have hm0 : m < 1000002 := by have := HLM.out; omega
                  have cell : ∀ q, q < 256 → wr.cell? ⟨g6, q, none⟩ = some (.int .i64 (M.getD q 0)) := fun q hq => by
                    rw [blk_cell HG6.out]
                    exact dArr_get (by have := HM.out; omega)
                  have hx1 : wr.cell? ⟨g6, z * 16 + v, none⟩ = some (.int .i64 (dGet M z v)) := cell _ (by omega)
                  have hx2 : wr.cell? ⟨g6, v * 16 + p, none⟩ = some (.int .i64 (dGet M v p)) := cell _ (by omega)
                  clear cell
                  have hd : (List.range N).drop v = v :: (List.range N).drop (v + 1) := by rw [List.drop_eq_getElem_cons (by simpa using c2), List.getElem_range]
                  by_cases d1 : dGet M z v = 1
                  · have db1 : (dGet M z v == 1) = true := beq_iff_eq.mpr d1
                    by_cases d2 : dGet M v p = ((m + 1 : Nat) : Int)
                    · have db2 : (dGet M v p == (((m + 1 : Nat) : Int))) = true := beq_iff_eq.mpr d2
                      have HR3 := Aside0.mk (show cLoop M N p m (o ++ [(v : Int)]) = r by
                        have h := HR2.out
                        rw [HF.out, hd, List.find?_cons, show cNext M N p (z : Int) ((m + 1 : Nat) : Int) v = true by unfold cNext; rw [Int.toNat_natCast, decide_eq_true d1, decide_eq_true d2]; rfl] at h
                        exact h)
                      go_wp2_with (first | ((with_reducible refine gate_builtin (b := .append) (xs := #[.tmp 91, .tmp 93]) rfl ?_); at_builtin; refine Kd.R_append (Kd.int .i64) (w0 := w) w.heap.size rfl (.tmp 91) (.tmp 93) 41 3 (.int .i64 0) 8 rfl Try.underlying41 info3 rfl (by decide) (by omega) (.slice (some ad) (t + 1) co2) o (v : Int) [.int .i64 (v : Int)] (fun _ => True) (fun _ => False) rfl rfl ?aP (fun _ hk => hk.elim) ?aF ?aO ?aB ?aS ?aL ?_; (case aP => exact rfl); (case aB => exact (by repeat (first | (with_reducible first | exact HB.out | apply below_alloc | apply pw_below_drewN | apply below_drew1) | exact HB.out))); (case aF => exact (fun _ _ => trivial)); (case aO => exact (by (with_reducible repeat (first | apply Kd.R_alloc | apply Kd.R_drewN | apply Kd.R_drew)); exact HO.out)); (case aS => exact (below_size (by repeat (first | (with_reducible first | exact HB.out | apply below_alloc | apply pw_below_drewN | apply below_drew1) | exact HB.out)))); (case aL => have := HLM.out; have := HT.out; omega); intro v5 w5 ho hb hg hat; have HGq := Aside0.mk (blk_grown HG6.out hg (Kd.R_ne HO.out HG6.out (by decide))); have n0_ := Aside0.mk hb; have n1_ := Aside0.mk ho; clear HB HO HG6; have HB := n0_; have HO := n1_; have HG6 := HGq; clear n0_ n1_ HGq; clear ho hb hg hat))
                      go_roundg m
                      case measure => have := HKK.out; omega
                      case rel => exact ⟨o ++ [(v : Int)], (m : Int), (by first | rfl | (congr 1; unfold wrap64; omega)), ⟨Int.toNat_natCast m⟩, ⟨by rw [Int.toNat_natCast]; exact HR3.out⟩, ⟨by have := HLM.out; simp only [List.length_append, List.length_singleton, Int.toNat_natCast]; omega⟩, ⟨by simp⟩, ⟨by intro x hx; rcases List.mem_append.1 hx with hx | hx; exact HALL.out x hx; rw [List.mem_singleton.1 hx]; omega⟩, HG6, HO, HB⟩
                    · have db2 : (dGet M v p == (((m + 1 : Nat) : Int))) = false := beq_eq_false_iff_ne.mpr d2
                      have HF2 := Aside0.mk (show (List.range N).find? (cNext M N p (z : Int) ((m + 1 : Nat) : Int)) = ((List.range N).drop (v + 1)).find? (cNext M N p (z : Int) ((m + 1 : Nat) : Int)) by
                        rw [HF.out, hd, List.find?_cons, show cNext M N p (z : Int) ((m + 1 : Nat) : Int) v = false by unfold cNext; rw [Int.toNat_natCast, decide_eq_true d1, decide_eq_false d2]; rfl])
                      go_wp2
                      go_roundg (N - (v + 1))
                      case measure => have := HV.out; omega
                      case rel => exact ⟨v + 1, rfl, (by first | rfl | rw [dW v (by omega)]), ⟨by omega⟩, HF2, HG6, HX0, HO, HB⟩
                  · have db1 : (dGet M z v == 1) = false := beq_eq_false_iff_ne.mpr d1
                    have HF2 := Aside0.mk (show (List.range N).find? (cNext M N p (z : Int) ((m + 1 : Nat) : Int)) = ((List.range N).drop (v + 1)).find? (cNext M N p (z : Int) ((m + 1 : Nat) : Int)) by
                        rw [HF.out, hd, List.find?_cons, show cNext M N p (z : Int) ((m + 1 : Nat) : Int) v = false by unfold cNext; rw [Int.toNat_natCast, decide_eq_false d1]; rfl])
                    go_wp2
                    go_roundg (N - (v + 1))
                    case measure => have := HV.out; omega
                    case rel => exact ⟨v + 1, rfl, (by first | rfl | rw [dW v (by omega)]), ⟨by omega⟩, HF2, HG6, HX0, HO, HB⟩
                · have cb2 : decide ((v : Int) < (N : Int)) = false := by simpa using c2
                  have HR3 := Aside0.mk (show cLoop M N p m o = r by
                    have h := HR2.out
                    rw [HF.out, List.drop_of_length_le (by rw [List.length_range]; omega)] at h
                    exact h)
                  have hm0 : m < 1000002 := by have := HLM.out; omega
                  go_wp2
                  go_roundg m
                  case measure => have := HKK.out; omega
                  case rel => exact ⟨o, (m : Int), (by first | rfl | (congr 1; unfold wrap64; omega)), ⟨Int.toNat_natCast m⟩, ⟨by rw [Int.toNat_natCast]; exact HR3.out⟩, ⟨by have := HLM.out; rw [Int.toNat_natCast]; omega⟩, HNE, HALL, HG6, HO, HB⟩
            · have cb1 : decide (0 < lf) = false := decide_eq_false c1
              have h := HR.out
              rw [show lf.toNat = 0 by omega, cLoop] at h
              subst h
              go_wp2
              go_ret
              exact ⟨_, rfl, HO.out, HB.out⟩

/-! ### spec_l1In: function 73 -/
def spec_l1In.f (a0 : Int) (a1 : Int) (a2 : Int) : Option (Bool) := if a0 ≥ a1 then (some (decide (a0 ≤ a2))) else (some false)
set_option maxHeartbeats 8000000 in
set_option maxRecDepth 100000 in
theorem spec_l1In.calls (a0 : Int) (a1 : Int) (a2 : Int) (r : Bool) (w : World) (h : spec_l1In.f a0 a1 a2 = some r) :
    Calls Try.prog 73 #[.int .i64 a0, .int .i64 a1, .int .i64 a2] w fun e w' => e = .returned (.bool r) ∧ Drawn0 w w' := by
  have H : (if a0 ≥ a1 then (some (decide (a0 ≤ a2))) else (some false)) = some r := h
  clear h
  by_cases c4 : a0 ≥ a1
  · rw [if_pos c4] at H
    have c4b0 : decide (a1 ≤ a0) = true := decide_eq_true c4
    clear c4
    obtain rfl := Option.some.inj H
    go_enter Try.func73, Try.ntmps73
    go_wp2
    go_ret
    exact ⟨by first | rfl | (simp; done) | (simp [*]; done), by repeat (first | exact Drawn0.refl _ | apply Drawn0.step)⟩
  · rw [if_neg c4] at H
    have c4b0 : decide (a1 ≤ a0) = false := decide_eq_false c4
    clear c4
    obtain rfl := Option.some.inj H
    go_enter Try.func73, Try.ntmps73
    go_wp2
    go_ret
    exact ⟨by first | rfl | (simp; done) | (simp [*]; done), by repeat (first | exact Drawn0.refl _ | apply Drawn0.step)⟩

end Go.Proofs.Ytnecbgeljanhiaa.PFnCanonFirst
