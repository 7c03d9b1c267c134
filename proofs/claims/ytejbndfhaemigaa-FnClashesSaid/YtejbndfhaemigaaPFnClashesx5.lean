-- written by wip/tools/myprint.py out of the program's own print
import Derived.Test.YtejbndfhaemigaaPFnClashesx0
namespace Go.Proofs.Ytejbndfhaemigaa.PFnClashes
open Go.Proofs.Ytejbndfhaemigaa.Own (rS cS bS rB rN rT kS kC kc10 kf10)
open Go.RowKit Go.Proofs.YtejbndfhaemigaaW.PrintWords Go.Proofs.YtejbndfhaemigaaW.PrintLast Go.Proofs.YtejbndfhaemigaaW.PrintMore
attribute [local go_sem] max2_int min2_int max_two min_two max_three min_three max_four min_four   -- for this text's walks alone
set_option linter.unusedVariables false
set_option linter.unusedSimpArgs false

/-! ### spec_l16Both: function 15 -/
def spec_l16Both.l0 : Nat → List (S33) → Int → List Int → Int → Option ((List (S33)))
 | 0, _, _, _, _ => none
 | k + 1, x0, x1, x2, x7 => if x7 < (x2.length : Int) then (if 0 ≤ x7 then (if x0.length < 8796093022208 then (spec_l16Both.l0 k (x0 ++ [(⟨x1, rd x2 x7⟩ : S33)]) x1 x2 (wrap64 (x7 + 1))) else (none)) else (none)) else (some x0)
def spec_l16Both.f (k : Nat) (l0 : List (S33)) (a1 : Int) (l2 : List Int) : Option ((List (S33))) := spec_l16Both.l0 k l0 a1 l2 0
theorem spec_l16Both.mono_l : ∀ k, (∀ y0 y1 y2 y3, LeO (spec_l16Both.l0 k y0 y1 y2 y3) (spec_l16Both.l0 (k + 1) y0 y1 y2 y3))
 | 0 => fun _ _ _ _ r h => by simp [spec_l16Both.l0] at h
 | k + 1 => by
  have ih0 := spec_l16Both.mono_l k
  ·intro y0 y1 y2 y3
   unfold spec_l16Both.l0
   repeat' first
   | (with_reducible exact ih0 _ _ _ _)
   | (with_reducible exact LeO.refl _)
   | (with_reducible exact LeO.none _)
   | (with_reducible refine LeO.ite ?_ ?_)
   | (with_reducible refine LeO.bind ?_ (fun _ => ?_))
   | exact ih0 _ _ _ _
   | exact LeO.none _
   | refine LeO.ite ?_ ?_
   | refine LeO.bind ?_ (fun _ => ?_)
theorem spec_l16Both.mono : ∀ a0 a1 a2 k, LeO (spec_l16Both.f k a0 a1 a2) (spec_l16Both.f (k + 1) a0 a1 a2) := by
 intro a0 a1 a2 k
 have ih0 := spec_l16Both.mono_l k
 unfold spec_l16Both.f
 repeat' first
   | (with_reducible exact ih0 _ _ _ _)
   | (with_reducible exact LeO.refl _)
   | (with_reducible exact LeO.none _)
   | (with_reducible refine LeO.ite ?_ ?_)
   | (with_reducible refine LeO.bind ?_ (fun _ => ?_))
   | exact ih0 _ _ _ _
   | exact LeO.none _
   | refine LeO.ite ?_ ?_
   | refine LeO.bind ?_ (fun _ => ?_)
set_option maxHeartbeats 8000000 in
set_option maxRecDepth 100000 in
theorem spec_l16Both.calls (k : Nat) (P0_ : Nat → Prop) (u9000_ : Value) (l0 : List (S33)) (a1 : Int) (A2 : Option Addr) (c2 : Nat) (l2 : List Int) (r : List (S33)) (w0 w : World) (hB : Below w0.heap.size w0 w) (ho0 : Kd.R k33 33 w w0.heap.size P0_ u9000_ l0) (hr2 : ∀ W_, Kept w W_ (fun k_ => P0_ k_) → Kd.C (Kd.int .i64) W_ A2 l2.length l2) (hc2 : l2.length ≤ c2) (h : spec_l16Both.f k l0 a1 l2 = some r) :
  Calls Try.prog 15 #[u9000_, .int .i64 a1, .slice A2 l2.length c2] w fun e w' => ∃ v0_ : Value, e = .returned (v0_) ∧ Kd.R k33 33 w' w0.heap.size (fun k_ => (P0_ k_ ∨ w.heap.size ≤ k_)) v0_ r ∧ Below w0.heap.size w0 w' ∧ Kept w w' (fun k_ => P0_ k_) := by
 have hu33 := Try.underlying33
 have HO0 := Aside0.mk (show Kd.R k33 33 w w0.heap.size (fun k_ => (P0_ k_ ∨ w.heap.size ≤ k_)) u9000_ l0 from Kd.R_mono ho0 (fun k_ hk => (.inl hk)))
 have HR2 := Aside0.mk hr2
 have HC2 := Aside0.mk hc2
 clear hr2 hc2
 have HK := Aside0.mk (Kept.refl w (fun k_ => P0_ k_))
 have HW0 := Aside0.mk hB.size
 have HB := Aside0.mk hB
 clear hB
 have H : (spec_l16Both.l0 k l0 a1 l2 0) = some r := h
 clear h
 have H' := Aside0.mk H
 clear H
 go_enter Try.func15, Try.ntmps15
 go_wp2
 go_loopg [0, 7] k (fun kq v0 v7 w' => ∃ (x0_1 : List (S33)) (x7_1 : Int), v7 = .int .i64 x7_1 ∧ Aside0 (spec_l16Both.l0 kq x0_1 a1 l2 x7_1 = some r) ∧ Aside0 (kq ≤ k) ∧ Aside0 (Kd.R k33 33 w' w0.heap.size (fun k_ => (P0_ k_ ∨ w.heap.size ≤ k_)) v0 x0_1) ∧ Aside0 (Kept w w' (fun k_ => P0_ k_)) ∧ Aside0 (Below w0.heap.size w0 w'))
 case atStart => exact ⟨(l0), (0), (by first | rfl | (simp; done) | (simp [*]; done)), H', ⟨Nat.le_refl _⟩, ⟨by (with_reducible repeat (first | apply Kd.R_alloc | apply Kd.R_drewN | apply Kd.R_drew)); exact HO0.out⟩, ⟨by repeat (first | (with_reducible first | exact HK.out | apply Kept.alloc | apply Kept.drewN | apply Kept.drew) | exact HK.out)⟩, ⟨by repeat (first | (with_reducible first | exact HB.out | apply below_alloc | apply pw_below_drewN | apply below_drew1) | exact HB.out)⟩⟩
 case round =>
  clear H'
  try clear c1
  try clear c2
  try clear p2
  obtain ⟨x0_1, x7_1, rfl, HA, HK1, HO_0, HK, HB⟩ := hrel
  cases gk with
  | zero => exact absurd HA.out (by simp [spec_l16Both.l0])
  | succ k1 =>
   have H := HA.out
   clear HA
   simp only [spec_l16Both.l0] at H
   by_cases c4 : x7_1 < (l2.length : Int)
   ·rw [if_pos c4] at H
    have c4b0 : decide (x7_1 < (l2.length : Int)) = true := decide_eq_true c4
    clear c4
    by_cases c5 : 0 ≤ x7_1
    ·rw [if_pos c5] at H
     have c5b0 : decide (0 ≤ x7_1) = true := decide_eq_true c5
     clear c5
     by_cases c6 : x0_1.length < 8796093022208
     ·rw [if_pos c6] at H
      have LMc6 := Aside0.mk c6
      clear c6
      obtain ⟨y263, hy263⟩ : ∃ y_ : List (S33), y_ = (x0_1 ++ [(⟨a1, rd l2 x7_1⟩ : S33)]) := ⟨_, rfl⟩
      replace H : (spec_l16Both.l0 k1 y263 a1 l2 (wrap64 (x7_1 + 1))) = some r := by first | (rw [hy263]; with_reducible exact H) | (have H2_ := (Option.bind_some _ _).symm.trans H; rw [hy263]; with_reducible exact H2_) | (have H2_ := (Option.bind_some _ _).symm.trans H; with_reducible exact H2_) | with_reducible exact H | (rw [hy263]; exact H) | exact H
      have Ny263 := Aside0.mk hy263
      clear hy263
      have H' := Aside0.mk H
      clear H
      have p262 : 0 ≤ (x7_1 : Int) := of_decide_eq_true (by first | (with_reducible assumption) | assumption)
      have q262 : x7_1 < (l2.length : Int) := of_decide_eq_true (by first | (with_reducible assumption) | assumption)
      obtain ⟨ad262, e262, hx262_0⟩ := Kd.at_int (Kd.C_kept_now HR2.out HK.out) x7_1 p262 q262
      cases e262
      replace p262 := eq_true p262
      replace q262 := eq_true q262
      go_wp2_with (first | ((with_reducible refine gate_builtin (b := .append) (xs := #[.tmp 14, .tmp 21]) rfl ?_); at_builtin; refine Kd.R_append k33 (w0 := w0) w0.heap.size rfl (.tmp 14) (.tmp 21) 29 33 (.agg #[(.int .i64 0), (.int .i64 0)]) 16 rfl Try.underlying29 info33 rfl (by decide) (by omega) u0 x0_1 (⟨a1, rd l2 x7_1⟩ : S33) [.int .i64 a1, .int .i64 (rd l2 x7_1)] (fun k_ => (P0_ k_ ∨ w.heap.size ≤ k_)) (fun _ => False) rfl rfl ?aP (fun _ hk => hk.elim) ?aF ?aO ?aB ?aS ?aL ?_; (case aP => exact k33_mkM _ _ _ (⟨a1, rd l2 x7_1⟩ : S33)); (case aB => exact (bS HB.out)); (case aF => exact (fun k_ hk => (.inr (Nat.le_trans (by first | exact HK.out.1 | exact (show Kept w _ (fun k_ => P0_ k_) from by repeat (first | (with_reducible first | exact HK.out | apply Kept.alloc | apply Kept.drewN | apply Kept.drew) | exact HK.out)).1) hk)))); (case aO => exact (rS HO_0.out)); (case aS => exact (below_size (bS HB.out))); (case aL => have := LMc6.out; omega); intro v264 w7 ho hb hg hat; rw [← Ny263.out] at ho; replace HB := Aside0.mk (hb); replace HK := Aside0.mk (Kept.of_grown (S := (fun k_ => P0_ k_)) hg (by repeat (first | (with_reducible first | exact HK.out | apply Kept.alloc | apply Kept.drewN | apply Kept.drew) | exact HK.out)) (fun k_ e_ => (HO_0.out.1 k_ e_))); have HO265 := Aside0.mk (ho); clear HO_0; clear ho hb hg hat))
      go_roundg k1
      case measure => have := HK1.out; omega
      case rel => exact ⟨(y263), (wrap64 (x7_1 + 1)), (by first | rfl | (simp; done) | (simp [*]; done)), H', ⟨by have := HK1.out; omega⟩, ⟨by (with_reducible repeat (first | apply Kd.R_alloc | apply Kd.R_drewN | apply Kd.R_drew)); exact HO265.out⟩, ⟨by repeat (first | (with_reducible first | exact HK.out | apply Kept.alloc | apply Kept.drewN | apply Kept.drew) | exact HK.out)⟩, ⟨by repeat (first | (with_reducible first | exact HB.out | apply below_alloc | apply pw_below_drewN | apply below_drew1) | exact HB.out)⟩⟩
     ·rw [if_neg c6] at H
      exact absurd H (by simp)
    ·rw [if_neg c5] at H
     exact absurd H (by simp)
   ·rw [if_neg c4] at H
    have c4b0 : decide (x7_1 < (l2.length : Int)) = false := decide_eq_false c4
    clear c4
    obtain rfl := Option.some.inj H
    go_wp2
    go_ret
    exact ⟨_, by first | rfl | (simp [errW_none, errW_some] <;> rfl) | (simp [*, errW_none, errW_some] <;> rfl), by (with_reducible repeat (first | apply Kd.R_alloc | apply Kd.R_drewN | apply Kd.R_drew)); exact HO_0.out, by repeat (first | (with_reducible first | exact HB.out | apply below_alloc | apply pw_below_drewN | apply below_drew1) | exact HB.out), by repeat (first | (with_reducible first | exact HK.out | apply Kept.alloc | apply Kept.drewN | apply Kept.drew) | exact HK.out)⟩

/-! ### spec_l10Sorted: function 33 -/
mutual
def spec_l10Sorted.l0 : Nat → List Int → List Int → List Int → Int → Int → Option (List Int)
 | 0, _, _, _, _, _ => none
 | k + 1, x4, x5, x6, x7, x8 => if x7 < (x4.length : Int) then (spec_l10Sorted.j1 k x4 x5 x6 x7 x8 true) else (spec_l10Sorted.j1 k x4 x5 x6 x7 x8 (decide (x8 < (x5.length : Int))))
def spec_l10Sorted.j1 : Nat → List Int → List Int → List Int → Int → Int → Bool → Option (List Int)
 | 0, _, _, _, _, _, _ => none
 | k + 1, x4, x5, x6, x7, x8, x37 => if x37 = true then (if x8 ≥ (x5.length : Int) then (spec_l10Sorted.j2 k x4 x5 x6 x7 x8 true) else (if x7 < (x4.length : Int) then (if 0 ≤ x7 then (if 0 ≤ x8 then (if x8 < (x5.length : Int) then (spec_l10Sorted.j2 k x4 x5 x6 x7 x8 (decide ((rd x4 x7) ≤ (rd x5 x8)))) else (none)) else (none)) else (none)) else (spec_l10Sorted.j2 k x4 x5 x6 x7 x8 false))) else (some x6)
def spec_l10Sorted.j2 : Nat → List Int → List Int → List Int → Int → Int → Bool → Option (List Int)
 | 0, _, _, _, _, _, _ => none
 | k + 1, x4, x5, x6, x7, x8, x58 => if x58 = true then (if 0 ≤ x7 then (if x7 < (x4.length : Int) then (if (x6.length : Int) = 0 then (if x6.length < 17592186044416 then (spec_l10Sorted.l0 k x4 x5 (x6 ++ [rd x4 x7]) (wrap64 (x7 + 1)) x8) else (none)) else (if 0 ≤ (wrap64 ((x6.length : Int) - 1)) then (if (wrap64 ((x6.length : Int) - 1)) < (x6.length : Int) then (if (rd x6 (wrap64 ((x6.length : Int) - 1))) = (rd x4 x7) then (spec_l10Sorted.l0 k x4 x5 x6 (wrap64 (x7 + 1)) x8) else (if x6.length < 17592186044416 then (spec_l10Sorted.l0 k x4 x5 (x6 ++ [rd x4 x7]) (wrap64 (x7 + 1)) x8) else (none))) else (none)) else (none))) else (none)) else (none)) else (if 0 ≤ x8 then (if x8 < (x5.length : Int) then (if (x6.length : Int) = 0 then (if x6.length < 17592186044416 then (spec_l10Sorted.l0 k x4 x5 (x6 ++ [rd x5 x8]) x7 (wrap64 (x8 + 1))) else (none)) else (if 0 ≤ (wrap64 ((x6.length : Int) - 1)) then (if (wrap64 ((x6.length : Int) - 1)) < (x6.length : Int) then (if (rd x6 (wrap64 ((x6.length : Int) - 1))) = (rd x5 x8) then (spec_l10Sorted.l0 k x4 x5 x6 x7 (wrap64 (x8 + 1))) else (if x6.length < 17592186044416 then (spec_l10Sorted.l0 k x4 x5 (x6 ++ [rd x5 x8]) x7 (wrap64 (x8 + 1))) else (none))) else (none)) else (none))) else (none)) else (none))
def spec_l10Sorted.f : Nat → List Int → Option (List Int)
 | 0, _ => none
 | k + 1, l0 => if (l0.length : Int) < 2 then ((some (([] : List Int) : List Int)).bind fun y266 => (if y266.length + l0.length < 17592186044416 then (some (y266 ++ l0)) else (none))) else (if 0 ≤ (wrap64 ((l0.length : Int) / 2)) then (if (wrap64 ((l0.length : Int) / 2)) ≤ (l0.length : Int) then ((spec_l10Sorted.f k (l0.take ((wrap64 ((l0.length : Int) / 2)) : Int).toNat)).bind fun t273 => ((spec_l10Sorted.f k (l0.drop ((wrap64 ((l0.length : Int) / 2)) : Int).toNat)).bind fun t277 => (spec_l10Sorted.l0 k t273 t277 (([] : List Int)) 0 0))) else (none)) else (none))
end
theorem spec_l10Sorted.mono_l : ∀ k, (∀ y0, LeO (spec_l10Sorted.f k y0) (spec_l10Sorted.f (k + 1) y0)) ∧ (∀ y0 y1 y2 y3 y4, LeO (spec_l10Sorted.l0 k y0 y1 y2 y3 y4) (spec_l10Sorted.l0 (k + 1) y0 y1 y2 y3 y4)) ∧ (∀ y0 y1 y2 y3 y4 y5, LeO (spec_l10Sorted.j1 k y0 y1 y2 y3 y4 y5) (spec_l10Sorted.j1 (k + 1) y0 y1 y2 y3 y4 y5)) ∧ (∀ y0 y1 y2 y3 y4 y5, LeO (spec_l10Sorted.j2 k y0 y1 y2 y3 y4 y5) (spec_l10Sorted.j2 (k + 1) y0 y1 y2 y3 y4 y5))
 | 0 => ⟨fun _ r h => by simp [spec_l10Sorted.f] at h, fun _ _ _ _ _ r h => by simp [spec_l10Sorted.l0] at h, fun _ _ _ _ _ _ r h => by simp [spec_l10Sorted.j1] at h, fun _ _ _ _ _ _ r h => by simp [spec_l10Sorted.j2] at h⟩
 | k + 1 => by
  obtain ⟨ih0, ih1, ih2, ih3⟩ := spec_l10Sorted.mono_l k
  refine ⟨?_, ?_, ?_, ?_⟩
  ·intro y0
   unfold spec_l10Sorted.f
   repeat' first
   | (with_reducible exact ih0 _)
   | (with_reducible exact ih1 _ _ _ _ _)
   | (with_reducible exact ih2 _ _ _ _ _ _)
   | (with_reducible exact ih3 _ _ _ _ _ _)
   | (with_reducible exact LeO.refl _)
   | (with_reducible exact LeO.none _)
   | (with_reducible refine LeO.ite ?_ ?_)
   | (with_reducible refine LeO.bind ?_ (fun _ => ?_))
   | exact ih0 _
   | exact ih1 _ _ _ _ _
   | exact ih2 _ _ _ _ _ _
   | exact ih3 _ _ _ _ _ _
   | exact LeO.none _
   | refine LeO.ite ?_ ?_
   | refine LeO.bind ?_ (fun _ => ?_)
  ·intro y0 y1 y2 y3 y4
   unfold spec_l10Sorted.l0
   repeat' first
   | (with_reducible exact ih0 _)
   | (with_reducible exact ih1 _ _ _ _ _)
   | (with_reducible exact ih2 _ _ _ _ _ _)
   | (with_reducible exact ih3 _ _ _ _ _ _)
   | (with_reducible exact LeO.refl _)
   | (with_reducible exact LeO.none _)
   | (with_reducible refine LeO.ite ?_ ?_)
   | (with_reducible refine LeO.bind ?_ (fun _ => ?_))
   | exact ih0 _
   | exact ih1 _ _ _ _ _
   | exact ih2 _ _ _ _ _ _
   | exact ih3 _ _ _ _ _ _
   | exact LeO.none _
   | refine LeO.ite ?_ ?_
   | refine LeO.bind ?_ (fun _ => ?_)
  ·intro y0 y1 y2 y3 y4 y5
   unfold spec_l10Sorted.j1
   repeat' first
   | (with_reducible exact ih0 _)
   | (with_reducible exact ih1 _ _ _ _ _)
   | (with_reducible exact ih2 _ _ _ _ _ _)
   | (with_reducible exact ih3 _ _ _ _ _ _)
   | (with_reducible exact LeO.refl _)
   | (with_reducible exact LeO.none _)
   | (with_reducible refine LeO.ite ?_ ?_)
   | (with_reducible refine LeO.bind ?_ (fun _ => ?_))
   | exact ih0 _
   | exact ih1 _ _ _ _ _
   | exact ih2 _ _ _ _ _ _
   | exact ih3 _ _ _ _ _ _
   | exact LeO.none _
   | refine LeO.ite ?_ ?_
   | refine LeO.bind ?_ (fun _ => ?_)
  ·intro y0 y1 y2 y3 y4 y5
   unfold spec_l10Sorted.j2
   repeat' first
   | (with_reducible exact ih0 _)
   | (with_reducible exact ih1 _ _ _ _ _)
   | (with_reducible exact ih2 _ _ _ _ _ _)
   | (with_reducible exact ih3 _ _ _ _ _ _)
   | (with_reducible exact LeO.refl _)
   | (with_reducible exact LeO.none _)
   | (with_reducible refine LeO.ite ?_ ?_)
   | (with_reducible refine LeO.bind ?_ (fun _ => ?_))
   | exact ih0 _
   | exact ih1 _ _ _ _ _
   | exact ih2 _ _ _ _ _ _
   | exact ih3 _ _ _ _ _ _
   | exact LeO.none _
   | refine LeO.ite ?_ ?_
   | refine LeO.bind ?_ (fun _ => ?_)
theorem spec_l10Sorted.mono : ∀ a0 k, LeO (spec_l10Sorted.f k a0) (spec_l10Sorted.f (k + 1) a0) := by
 intro a0 k
 obtain ⟨ih0, ih1, ih2, ih3⟩ := spec_l10Sorted.mono_l k
 exact ih0 a0
set_option maxHeartbeats 8000000 in
set_option maxRecDepth 100000 in
theorem spec_l10Sorted.calls (k : Nat) : ∀ (A0 : Option Addr) (c0 : Nat) (l0 : List Int) (r : List Int) (w : World) (hr0 : Kd.C (Kd.int .i64) w A0 l0.length l0) (hc0 : l0.length ≤ c0) (h : spec_l10Sorted.f k l0 = some r),
  Calls Try.prog 33 #[.slice A0 l0.length c0] w fun e w' => ∃ v0_ : Value, e = .returned (v0_) ∧ Kd.R (Kd.int .i64) 3 w' w.heap.size (fun _ => True) v0_ r ∧ Below w.heap.size w w' := by
 induction k using Nat.strongRecOn with
 | _ k ih =>
 intro A0 c0 l0 r w hr0 hc0 h
 cases k with
 | zero => exact absurd h (by simp [spec_l10Sorted.f])
 | succ k =>
 simp only [spec_l10Sorted.f] at h
 have HR0 := Aside0.mk hr0
 have HC0 := Aside0.mk hc0
 clear hr0 hc0
 have HB := Aside0.mk (Below.refl w.heap.size w)
 have H : (if (l0.length : Int) < 2 then ((some (([] : List Int) : List Int)).bind fun y266 => (if y266.length + l0.length < 17592186044416 then (some (y266 ++ l0)) else (none))) else (if 0 ≤ (wrap64 ((l0.length : Int) / 2)) then (if (wrap64 ((l0.length : Int) / 2)) ≤ (l0.length : Int) then ((spec_l10Sorted.f k (l0.take ((wrap64 ((l0.length : Int) / 2)) : Int).toNat)).bind fun t273 => ((spec_l10Sorted.f k (l0.drop ((wrap64 ((l0.length : Int) / 2)) : Int).toNat)).bind fun t277 => (spec_l10Sorted.l0 k t273 t277 (([] : List Int)) 0 0))) else (none)) else (none))) = some r := h
 clear h
 by_cases c2 : (l0.length : Int) < 2
 ·rw [if_pos c2] at H
  have c2b0 : decide ((l0.length : Int) < 2) = true := decide_eq_true c2
  have c2b1 : decide (l0.length < 2) = true := decide_eq_true (by omega)
  clear c2
  obtain ⟨y266, hy266⟩ : ∃ y_ : List Int, y_ = (([] : List Int)) := ⟨_, rfl⟩
  replace H : (if y266.length + l0.length < 17592186044416 then (some (y266 ++ l0)) else (none)) = some r := by first | (rw [hy266]; with_reducible exact H) | (have H2_ := (Option.bind_some _ _).symm.trans H; rw [hy266]; with_reducible exact H2_) | (have H2_ := (Option.bind_some _ _).symm.trans H; with_reducible exact H2_) | with_reducible exact H | (rw [hy266]; exact H) | exact H
  have Ny266 := Aside0.mk hy266
  clear hy266
  by_cases c3 : y266.length + l0.length < 17592186044416
  ·rw [if_pos c3] at H
   have LMc3 := Aside0.mk c3
   clear c3
   obtain ⟨y269, hy269⟩ : ∃ y_ : List Int, y_ = (y266 ++ l0) := ⟨_, rfl⟩
   replace H : (some y269) = some r := by first | (rw [hy269]; with_reducible exact H) | (have H2_ := (Option.bind_some _ _).symm.trans H; rw [hy269]; with_reducible exact H2_) | (have H2_ := (Option.bind_some _ _).symm.trans H; with_reducible exact H2_) | with_reducible exact H | (rw [hy269]; exact H) | exact H
   have Ny269 := Aside0.mk hy269
   clear hy269
   obtain rfl := Option.some.inj H
   go_enter Try.func33, Try.ntmps33
   go_wp2_with (first | ((with_reducible refine gate_dst (N := 14) rfl ?_); (try (refine gate_guard (by rfl) ?_; dsimp only)); refine Kd.R_lit (Kd.int .i64) _ 3 ?hg (N := 14) ?hd (xs := ([] : List Int)) (inner := []) (ok := fun _ => True) (okp := fun _ => True) ?hr ?hp (fun _ hk => hk) trivial (Below.refl _ _) (Nat.le_refl _) (by simp) ?_; (case hd => rfl); (case hg => rfl); (case hr => first | (go_simp; done) | (go_simp; rfl)); (case hp => exact (Reps.none _ _)); intro v267 w4 ho5 hb hg_ hnew_; clear hg_ hnew_; (first | rw [← Ny266.out] at ho5 | (simp only [Int.reduceToNat] at ho5; rw [← Ny266.out] at ho5)); have HO268 := Aside0.mk (Kd.R_lower ho5 (below_size (bS HB.out))); replace HB := Aside0.mk (below_step (bS HB.out) hb); clear hb ho5) | ((with_reducible refine gate_builtin (b := .append) (xs := #[.tmp 14, .tmp 15]) rfl ?_); (try (refine gate_guard (by rfl) ?_; dsimp only)); at_builtin; refine Kd.R_append_rows (Kd.int .i64) (w0 := w) w.heap.size rfl (.tmp 14) (.tmp 15) 24 3 (.int .i64 0) 8 rfl Try.underlying24 info3 rfl (by decide) (by omega) v267 y266 l0 _ _ _ (fun _ => True) (fun _ => False) rfl rfl ?aO ?aR (fun _ _ h => h) (fun _ h => h.elim) ?aF ?aB ?aS ?aL ?_; (case aR => exact cS (Kd.C_below HR0.out HB.out)); (case aB => exact (bS HB.out)); (case aF => exact (fun _ _ => trivial)); (case aO => exact (rS HO268.out)); (case aS => exact (below_size (bS HB.out))); (case aL => have := LMc3.out; omega); intro v270 w6 ho hb hg hat; rw [← Ny269.out] at ho; replace HB := Aside0.mk (hb); have HO271 := Aside0.mk (ho); clear HO268; clear ho hb hg hat))
   repeat (go_quiet (first | ((with_reducible refine gate_dst (N := 14) rfl ?_); (try (refine gate_guard (by rfl) ?_; dsimp only)); refine Kd.R_lit (Kd.int .i64) _ 3 ?hg (N := 14) ?hd (xs := ([] : List Int)) (inner := []) (ok := fun _ => True) (okp := fun _ => True) ?hr ?hp (fun _ hk => hk) trivial (Below.refl _ _) (Nat.le_refl _) (by simp) ?_; (case hd => rfl); (case hg => rfl); (case hr => first | (go_simp; done) | (go_simp; rfl)); (case hp => exact (Reps.none _ _)); intro v267 w4 ho5 hb hg_ hnew_; clear hg_ hnew_; (first | rw [← Ny266.out] at ho5 | (simp only [Int.reduceToNat] at ho5; rw [← Ny266.out] at ho5)); have HO268 := Aside0.mk (Kd.R_lower ho5 (below_size (bS HB.out))); replace HB := Aside0.mk (below_step (bS HB.out) hb); clear hb ho5) | ((with_reducible refine gate_builtin (b := .append) (xs := #[.tmp 14, .tmp 15]) rfl ?_); (try (refine gate_guard (by rfl) ?_; dsimp only)); at_builtin; refine Kd.R_append_rows (Kd.int .i64) (w0 := w) w.heap.size rfl (.tmp 14) (.tmp 15) 24 3 (.int .i64 0) 8 rfl Try.underlying24 info3 rfl (by decide) (by omega) v267 y266 l0 _ _ _ (fun _ => True) (fun _ => False) rfl rfl ?aO ?aR (fun _ _ h => h) (fun _ h => h.elim) ?aF ?aB ?aS ?aL ?_; (case aR => exact cS (Kd.C_below HR0.out HB.out)); (case aB => exact (bS HB.out)); (case aF => exact (fun _ _ => trivial)); (case aO => exact (rS HO268.out)); (case aS => exact (below_size (bS HB.out))); (case aL => have := LMc3.out; omega); intro v270 w6 ho hb hg hat; rw [← Ny269.out] at ho; replace HB := Aside0.mk (hb); have HO271 := Aside0.mk (ho); clear HO268; clear ho hb hg hat)); try go_wp2_with (first | ((with_reducible refine gate_dst (N := 14) rfl ?_); (try (refine gate_guard (by rfl) ?_; dsimp only)); refine Kd.R_lit (Kd.int .i64) _ 3 ?hg (N := 14) ?hd (xs := ([] : List Int)) (inner := []) (ok := fun _ => True) (okp := fun _ => True) ?hr ?hp (fun _ hk => hk) trivial (Below.refl _ _) (Nat.le_refl _) (by simp) ?_; (case hd => rfl); (case hg => rfl); (case hr => first | (go_simp; done) | (go_simp; rfl)); (case hp => exact (Reps.none _ _)); intro v267 w4 ho5 hb hg_ hnew_; clear hg_ hnew_; (first | rw [← Ny266.out] at ho5 | (simp only [Int.reduceToNat] at ho5; rw [← Ny266.out] at ho5)); have HO268 := Aside0.mk (Kd.R_lower ho5 (below_size (bS HB.out))); replace HB := Aside0.mk (below_step (bS HB.out) hb); clear hb ho5) | ((with_reducible refine gate_builtin (b := .append) (xs := #[.tmp 14, .tmp 15]) rfl ?_); (try (refine gate_guard (by rfl) ?_; dsimp only)); at_builtin; refine Kd.R_append_rows (Kd.int .i64) (w0 := w) w.heap.size rfl (.tmp 14) (.tmp 15) 24 3 (.int .i64 0) 8 rfl Try.underlying24 info3 rfl (by decide) (by omega) v267 y266 l0 _ _ _ (fun _ => True) (fun _ => False) rfl rfl ?aO ?aR (fun _ _ h => h) (fun _ h => h.elim) ?aF ?aB ?aS ?aL ?_; (case aR => exact cS (Kd.C_below HR0.out HB.out)); (case aB => exact (bS HB.out)); (case aF => exact (fun _ _ => trivial)); (case aO => exact (rS HO268.out)); (case aS => exact (below_size (bS HB.out))); (case aL => have := LMc3.out; omega); intro v270 w6 ho hb hg hat; rw [← Ny269.out] at ho; replace HB := Aside0.mk (hb); have HO271 := Aside0.mk (ho); clear HO268; clear ho hb hg hat)))
   go_ret
   exact ⟨_, by first | rfl | (simp [errW_none, errW_some] <;> rfl) | (simp [*, errW_none, errW_some] <;> rfl), by (with_reducible repeat (first | apply Kd.R_alloc | apply Kd.R_drewN | apply Kd.R_drew)); exact HO271.out, by repeat (first | (with_reducible first | exact HB.out | apply below_alloc | apply pw_below_drewN | apply below_drew1) | exact HB.out)⟩
  ·rw [if_neg c3] at H
   exact absurd H (by simp)
 ·rw [if_neg c2] at H
  have c2b0 : decide ((l0.length : Int) < 2) = false := decide_eq_false c2
  have c2b1 : decide (l0.length < 2) = false := decide_eq_false (by omega)
  clear c2
  obtain ⟨ji7, hji7⟩ : ∃ j_ : Int, (wrap64 ((l0.length : Int) / 2)) = j_ := ⟨_, rfl⟩
  replace H : (if 0 ≤ (ji7) then (if (ji7) ≤ (l0.length : Int) then ((spec_l10Sorted.f k (l0.take ((ji7) : Int).toNat)).bind fun t273 => ((spec_l10Sorted.f k (l0.drop ((ji7) : Int).toNat)).bind fun t277 => (spec_l10Sorted.l0 k t273 t277 (([] : List Int)) 0 0))) else (none)) else (none)) = some r := by first | (rw [hji7] at H; exact H) | (simp only [hji7] at H ⊢; exact H)
  have hji7w : (IntKind.i64.wrap ((l0.length : Int) / 2)) = ji7 := (i64_w _).trans hji7
  by_cases c8 : 0 ≤ (ji7)
  ·rw [if_pos c8] at H
   have c8b0 := eq_true c8
   have c8b1 : decide (0 ≤ (ji7)) = true := decide_eq_true c8
   clear c8
   by_cases c9 : (ji7) ≤ (l0.length : Int)
   ·rw [if_pos c9] at H
    have c9b0 := eq_true c9
    have c9b1 : decide ((ji7) ≤ (l0.length : Int)) = true := decide_eq_true c9
    clear c9
    replace H := Option.bind_eq_some_iff.mp H
    obtain ⟨t273, A100, H⟩ := H
    (try dsimp only at H)
    have A10 := Aside0.mk A100
    clear A100
    have c11b0 := eq_true (of_decide_eq_true (by first | (with_reducible assumption) | assumption) : 0 ≤ (ji7))
    have c12b0 := eq_true (of_decide_eq_true (by first | (with_reducible assumption) | assumption) : (ji7) ≤ (l0.length : Int))
    replace H := Option.bind_eq_some_iff.mp H
    obtain ⟨t277, A130, H⟩ := H
    (try dsimp only at H)
    have A13 := Aside0.mk A130
    clear A130
    obtain ⟨y280, hy280⟩ : ∃ y_ : List Int, y_ = (([] : List Int)) := ⟨_, rfl⟩
    replace H : (spec_l10Sorted.l0 k t273 t277 y280 0 0) = some r := by first | (rw [hy280]; with_reducible exact H) | (have H2_ := (Option.bind_some _ _).symm.trans H; rw [hy280]; with_reducible exact H2_) | (have H2_ := (Option.bind_some _ _).symm.trans H; with_reducible exact H2_) | with_reducible exact H | (rw [hy280]; exact H) | exact H
    have Ny280 := Aside0.mk hy280
    clear hy280
    have H' := Aside0.mk H
    clear H
    obtain ⟨i014, hi014, _, hsz14, _⟩ := info_parts info3
    obtain ⟨hcut14, hA14, hC14⟩ := print_take_of (P := Try.prog) (Value.int .i64) 0 24 3 .i64 Try.underlying24 hi014 hsz14 A0 c0 l0 (ji7) (of_decide_eq_true (by first | (with_reducible assumption) | assumption)) (of_decide_eq_true (by first | (with_reducible assumption) | assumption)) HC0.out
    have HR272 := Aside0.mk (Kd.C_of_reads (h1 := fun _ => rfl) (hA14 _ (Kd.reads_of_C HR0.out)))
    have HC272 := Aside0.mk hC14
    clear hA14 hC14 hi014 hsz14
    go_enter Try.func33, Try.ntmps33
    go_wp2_with (first | (go_at_call 33; refine calls_of_args (args' := #[.slice A0 (l0.take ((ji7) : Int).toNat).length c0]) (by first | rfl | (simp only [List.length_take]; rw [Nat.min_eq_left (Int.toNat_le.2 (of_decide_eq_true (by first | (with_reducible assumption) | assumption)))]) | (simp only [List.length_take]; done) | (simp only [List.length_drop]; done) | (simp only [List.length_take, List.length_drop]; rfl)) ?_; (with_reducible refine (ih k (by omega) _ _ (l0.take ((ji7) : Int).toNat) t273 _ ?side1 ?side2 A10.out).mono ?_); (case side1 => exact cS HR272.out); (case side2 => exact HC272.out); rintro e w15 ⟨v274, rfl, ho0, hb⟩; have HO275 := Aside0.mk (Kd.R_lower ho0 (below_size (bS HB.out))); replace HB := Aside0.mk (below_step (bS HB.out) hb); (try clear hb); (try clear hb2); (try clear hk); (try clear hi); (try clear ho0); obtain ⟨i016, hi016, _, hsz16, _⟩ := info_parts info3; obtain ⟨A16, hcut16, hA16, hC16⟩ := print_drop_of (P := Try.prog) (Value.int .i64) 0 24 3 .i64 Try.underlying24 hi016 hsz16 A0 c0 l0 (ji7) (of_decide_eq_true (by first | (with_reducible assumption) | assumption)) (of_decide_eq_true (by first | (with_reducible assumption) | assumption)) HC0.out; have HR276 := Aside0.mk (Kd.C_of_reads (h1 := fun _ => rfl) (hA16 _ (Kd.reads_of_C HR0.out))); have HC276 := Aside0.mk hC16; clear hA16 hC16 hi016 hsz16) | (go_at_call 33; refine calls_of_args (args' := #[.slice A16 (l0.drop ((ji7) : Int).toNat).length (c0 - (ji7).toNat)]) (by first | rfl | (simp only [List.length_take]; rw [Nat.min_eq_left (Int.toNat_le.2 (of_decide_eq_true (by first | (with_reducible assumption) | assumption)))]) | (simp only [List.length_take]; done) | (simp only [List.length_drop]; done) | (simp only [List.length_take, List.length_drop]; rfl)) ?_; (with_reducible refine (ih k (by omega) _ _ (l0.drop ((ji7) : Int).toNat) t277 _ ?side1 ?side2 A13.out).mono ?_); (case side1 => exact cS (Kd.C_below HR276.out HB.out)); (case side2 => exact HC276.out); rintro e w17 ⟨v278, rfl, ho0, hb⟩; have n0_ := Aside0.mk (Kd.R_elder' (rS HO275.out) (Kd.R_base ho0) hb); have HO279 := Aside0.mk (Kd.R_lower (rN ho0 HO275.out) (below_size (bS HB.out))); replace HB := Aside0.mk (below_step (bS HB.out) hb); clear HO275; have HO275 := n0_; clear n0_; (try clear hb); (try clear hb2); (try clear hk); (try clear hi); (try clear ho0)) | ((with_reducible refine gate_dst (N := 27) rfl ?_); (try (refine gate_guard (by rfl) ?_; dsimp only)); refine Kd.R_lit (Kd.int .i64) _ 3 ?hg (N := 27) ?hd (xs := ([] : List Int)) (inner := []) (ok := fun _ => True) (okp := fun _ => True) ?hr ?hp (fun _ hk => hk) trivial (Below.refl _ _) (Nat.le_refl _) (by simp) ?_; (case hd => rfl); (case hg => rfl); (case hr => first | (go_simp; done) | (go_simp; rfl)); (case hp => exact (Reps.none _ _)); intro v281 w18 ho19 hb hg_ hnew_; clear hg_ hnew_; (first | rw [← Ny280.out] at ho19 | (simp only [Int.reduceToNat] at ho19; rw [← Ny280.out] at ho19)); have n0_ := Aside0.mk (Kd.R_elder' (rS HO275.out) (Kd.R_base ho19) hb); have n1_ := Aside0.mk (Kd.R_elder' (rS HO279.out) (Kd.R_base ho19) hb); have HO282 := Aside0.mk (Kd.R_lower (rN (rN ho19 HO275.out) HO279.out) (below_size (bS HB.out))); replace HB := Aside0.mk (below_step (bS HB.out) hb); clear HO275; clear HO279; have HO275 := n0_; have HO279 := n1_; clear n0_ n1_; clear hb ho19))
    repeat (go_quiet (first | (go_at_call 33; refine calls_of_args (args' := #[.slice A0 (l0.take ((ji7) : Int).toNat).length c0]) (by first | rfl | (simp only [List.length_take]; rw [Nat.min_eq_left (Int.toNat_le.2 (of_decide_eq_true (by first | (with_reducible assumption) | assumption)))]) | (simp only [List.length_take]; done) | (simp only [List.length_drop]; done) | (simp only [List.length_take, List.length_drop]; rfl)) ?_; (with_reducible refine (ih k (by omega) _ _ (l0.take ((ji7) : Int).toNat) t273 _ ?side1 ?side2 A10.out).mono ?_); (case side1 => exact cS HR272.out); (case side2 => exact HC272.out); rintro e w15 ⟨v274, rfl, ho0, hb⟩; have HO275 := Aside0.mk (Kd.R_lower ho0 (below_size (bS HB.out))); replace HB := Aside0.mk (below_step (bS HB.out) hb); (try clear hb); (try clear hb2); (try clear hk); (try clear hi); (try clear ho0); obtain ⟨i016, hi016, _, hsz16, _⟩ := info_parts info3; obtain ⟨A16, hcut16, hA16, hC16⟩ := print_drop_of (P := Try.prog) (Value.int .i64) 0 24 3 .i64 Try.underlying24 hi016 hsz16 A0 c0 l0 (ji7) (of_decide_eq_true (by first | (with_reducible assumption) | assumption)) (of_decide_eq_true (by first | (with_reducible assumption) | assumption)) HC0.out; have HR276 := Aside0.mk (Kd.C_of_reads (h1 := fun _ => rfl) (hA16 _ (Kd.reads_of_C HR0.out))); have HC276 := Aside0.mk hC16; clear hA16 hC16 hi016 hsz16) | (go_at_call 33; refine calls_of_args (args' := #[.slice A16 (l0.drop ((ji7) : Int).toNat).length (c0 - (ji7).toNat)]) (by first | rfl | (simp only [List.length_take]; rw [Nat.min_eq_left (Int.toNat_le.2 (of_decide_eq_true (by first | (with_reducible assumption) | assumption)))]) | (simp only [List.length_take]; done) | (simp only [List.length_drop]; done) | (simp only [List.length_take, List.length_drop]; rfl)) ?_; (with_reducible refine (ih k (by omega) _ _ (l0.drop ((ji7) : Int).toNat) t277 _ ?side1 ?side2 A13.out).mono ?_); (case side1 => exact cS (Kd.C_below HR276.out HB.out)); (case side2 => exact HC276.out); rintro e w17 ⟨v278, rfl, ho0, hb⟩; have n0_ := Aside0.mk (Kd.R_elder' (rS HO275.out) (Kd.R_base ho0) hb); have HO279 := Aside0.mk (Kd.R_lower (rN ho0 HO275.out) (below_size (bS HB.out))); replace HB := Aside0.mk (below_step (bS HB.out) hb); clear HO275; have HO275 := n0_; clear n0_; (try clear hb); (try clear hb2); (try clear hk); (try clear hi); (try clear ho0)) | ((with_reducible refine gate_dst (N := 27) rfl ?_); (try (refine gate_guard (by rfl) ?_; dsimp only)); refine Kd.R_lit (Kd.int .i64) _ 3 ?hg (N := 27) ?hd (xs := ([] : List Int)) (inner := []) (ok := fun _ => True) (okp := fun _ => True) ?hr ?hp (fun _ hk => hk) trivial (Below.refl _ _) (Nat.le_refl _) (by simp) ?_; (case hd => rfl); (case hg => rfl); (case hr => first | (go_simp; done) | (go_simp; rfl)); (case hp => exact (Reps.none _ _)); intro v281 w18 ho19 hb hg_ hnew_; clear hg_ hnew_; (first | rw [← Ny280.out] at ho19 | (simp only [Int.reduceToNat] at ho19; rw [← Ny280.out] at ho19)); have n0_ := Aside0.mk (Kd.R_elder' (rS HO275.out) (Kd.R_base ho19) hb); have n1_ := Aside0.mk (Kd.R_elder' (rS HO279.out) (Kd.R_base ho19) hb); have HO282 := Aside0.mk (Kd.R_lower (rN (rN ho19 HO275.out) HO279.out) (below_size (bS HB.out))); replace HB := Aside0.mk (below_step (bS HB.out) hb); clear HO275; clear HO279; have HO275 := n0_; have HO279 := n1_; clear n0_ n1_; clear hb ho19)); try go_wp2_with (first | (go_at_call 33; refine calls_of_args (args' := #[.slice A0 (l0.take ((ji7) : Int).toNat).length c0]) (by first | rfl | (simp only [List.length_take]; rw [Nat.min_eq_left (Int.toNat_le.2 (of_decide_eq_true (by first | (with_reducible assumption) | assumption)))]) | (simp only [List.length_take]; done) | (simp only [List.length_drop]; done) | (simp only [List.length_take, List.length_drop]; rfl)) ?_; (with_reducible refine (ih k (by omega) _ _ (l0.take ((ji7) : Int).toNat) t273 _ ?side1 ?side2 A10.out).mono ?_); (case side1 => exact cS HR272.out); (case side2 => exact HC272.out); rintro e w15 ⟨v274, rfl, ho0, hb⟩; have HO275 := Aside0.mk (Kd.R_lower ho0 (below_size (bS HB.out))); replace HB := Aside0.mk (below_step (bS HB.out) hb); (try clear hb); (try clear hb2); (try clear hk); (try clear hi); (try clear ho0); obtain ⟨i016, hi016, _, hsz16, _⟩ := info_parts info3; obtain ⟨A16, hcut16, hA16, hC16⟩ := print_drop_of (P := Try.prog) (Value.int .i64) 0 24 3 .i64 Try.underlying24 hi016 hsz16 A0 c0 l0 (ji7) (of_decide_eq_true (by first | (with_reducible assumption) | assumption)) (of_decide_eq_true (by first | (with_reducible assumption) | assumption)) HC0.out; have HR276 := Aside0.mk (Kd.C_of_reads (h1 := fun _ => rfl) (hA16 _ (Kd.reads_of_C HR0.out))); have HC276 := Aside0.mk hC16; clear hA16 hC16 hi016 hsz16) | (go_at_call 33; refine calls_of_args (args' := #[.slice A16 (l0.drop ((ji7) : Int).toNat).length (c0 - (ji7).toNat)]) (by first | rfl | (simp only [List.length_take]; rw [Nat.min_eq_left (Int.toNat_le.2 (of_decide_eq_true (by first | (with_reducible assumption) | assumption)))]) | (simp only [List.length_take]; done) | (simp only [List.length_drop]; done) | (simp only [List.length_take, List.length_drop]; rfl)) ?_; (with_reducible refine (ih k (by omega) _ _ (l0.drop ((ji7) : Int).toNat) t277 _ ?side1 ?side2 A13.out).mono ?_); (case side1 => exact cS (Kd.C_below HR276.out HB.out)); (case side2 => exact HC276.out); rintro e w17 ⟨v278, rfl, ho0, hb⟩; have n0_ := Aside0.mk (Kd.R_elder' (rS HO275.out) (Kd.R_base ho0) hb); have HO279 := Aside0.mk (Kd.R_lower (rN ho0 HO275.out) (below_size (bS HB.out))); replace HB := Aside0.mk (below_step (bS HB.out) hb); clear HO275; have HO275 := n0_; clear n0_; (try clear hb); (try clear hb2); (try clear hk); (try clear hi); (try clear ho0)) | ((with_reducible refine gate_dst (N := 27) rfl ?_); (try (refine gate_guard (by rfl) ?_; dsimp only)); refine Kd.R_lit (Kd.int .i64) _ 3 ?hg (N := 27) ?hd (xs := ([] : List Int)) (inner := []) (ok := fun _ => True) (okp := fun _ => True) ?hr ?hp (fun _ hk => hk) trivial (Below.refl _ _) (Nat.le_refl _) (by simp) ?_; (case hd => rfl); (case hg => rfl); (case hr => first | (go_simp; done) | (go_simp; rfl)); (case hp => exact (Reps.none _ _)); intro v281 w18 ho19 hb hg_ hnew_; clear hg_ hnew_; (first | rw [← Ny280.out] at ho19 | (simp only [Int.reduceToNat] at ho19; rw [← Ny280.out] at ho19)); have n0_ := Aside0.mk (Kd.R_elder' (rS HO275.out) (Kd.R_base ho19) hb); have n1_ := Aside0.mk (Kd.R_elder' (rS HO279.out) (Kd.R_base ho19) hb); have HO282 := Aside0.mk (Kd.R_lower (rN (rN ho19 HO275.out) HO279.out) (below_size (bS HB.out))); replace HB := Aside0.mk (below_step (bS HB.out) hb); clear HO275; clear HO279; have HO275 := n0_; have HO279 := n1_; clear n0_ n1_; clear hb ho19)))
    go_loopg [6, 7, 8] k (fun kq v6 v7 v8 w' => ∃ (x6_1 : List Int) (x7_1 : Int) (x8_1 : Int), v7 = .int .i64 x7_1 ∧ v8 = .int .i64 x8_1 ∧ Aside0 (spec_l10Sorted.l0 kq t273 t277 x6_1 x7_1 x8_1 = some r) ∧ Aside0 (kq ≤ k) ∧ Aside0 (Kd.R (Kd.int .i64) 3 w' w.heap.size (fun k_ => some k_ ≠ (v278 : Value).ownBlock ∧ some k_ ≠ (v6 : Value).ownBlock) v274 t273) ∧ Aside0 (Kd.R (Kd.int .i64) 3 w' w.heap.size (fun k_ => some k_ ≠ (v274 : Value).ownBlock ∧ some k_ ≠ (v6 : Value).ownBlock) v278 t277) ∧ Aside0 (Kd.R (Kd.int .i64) 3 w' w.heap.size (fun k_ => some k_ ≠ (v274 : Value).ownBlock ∧ some k_ ≠ (v278 : Value).ownBlock) v6 x6_1) ∧ Aside0 (Below w.heap.size w w'))
    case atStart => exact ⟨(y280), (0), (0), (by first | rfl | (simp; done) | (simp [*]; done)), (by first | rfl | (simp; done) | (simp [*]; done)), H', ⟨Nat.le_refl _⟩, ⟨by (with_reducible repeat (first | apply Kd.R_alloc | apply Kd.R_drewN | apply Kd.R_drew)); exact Kd.R_mono HO275.out (fun _ hk => ⟨hk.1.2, hk.2⟩)⟩, ⟨by (with_reducible repeat (first | apply Kd.R_alloc | apply Kd.R_drewN | apply Kd.R_drew)); exact Kd.R_mono HO279.out (fun _ hk => ⟨hk.1.2, hk.2⟩)⟩, ⟨by (with_reducible repeat (first | apply Kd.R_alloc | apply Kd.R_drewN | apply Kd.R_drew)); exact Kd.R_mono HO282.out (fun _ hk => ⟨hk.1.2, hk.2⟩)⟩, ⟨by repeat (first | (with_reducible first | exact HB.out | apply below_alloc | apply pw_below_drewN | apply below_drew1) | exact HB.out)⟩⟩
    case round =>
     clear H'
     try clear c1
     try clear c2
     try clear c2b0
     try clear c2b1
     try clear p2
     try clear c3
     try clear p6
     try clear c8
     try clear c8b0
     try clear c8b1
     try clear c9
     try clear c9b0
     try clear c9b1
     try clear c11
     try clear c11b0
     try clear c12
     try clear c12b0
     obtain ⟨x6_1, x7_1, x8_1, rfl, rfl, HA, HK1, HO_4, HO_5, HO_6, HB⟩ := hrel
     cases gk with
     | zero => exact absurd HA.out (by simp [spec_l10Sorted.l0])
     | succ k1 =>
      have H := HA.out
      clear HA
      simp only [spec_l10Sorted.l0] at H
      have HC20 := Aside0.mk H
      clear H
      go_upto_region 8 with (fail)
      repeat (go_quiet (fail); go_upto_region 8 with (fail))
      go_cut [37] (fun v37 wc => ∃ (kq : Nat) (x37_19 : Bool), v37 = .bool x37_19 ∧ Aside0 (spec_l10Sorted.j1 kq t273 t277 x6_1 x7_1 x8_1 x37_19 = some r) ∧ Aside0 (kq ≤ k1) ∧ Aside0 (Kd.R (Kd.int .i64) 3 wc w.heap.size (fun k_ => some k_ ≠ (v278 : Value).ownBlock ∧ some k_ ≠ (u6 : Value).ownBlock) v274 t273) ∧ Aside0 (Kd.R (Kd.int .i64) 3 wc w.heap.size (fun k_ => some k_ ≠ (v274 : Value).ownBlock ∧ some k_ ≠ (u6 : Value).ownBlock) v278 t277) ∧ Aside0 (Kd.R (Kd.int .i64) 3 wc w.heap.size (fun k_ => some k_ ≠ (v274 : Value).ownBlock ∧ some k_ ≠ (v278 : Value).ownBlock) u6 x6_1) ∧ Aside0 (Below w.heap.size w wc))
      case first =>
       have H := HC20.out
       clear HC20
       by_cases c21 : x7_1 < (t273.length : Int)
       ·rw [if_pos c21] at H
        have c21b0 : decide (x7_1 < (t273.length : Int)) = true := decide_eq_true c21
        clear c21
        (first | rw [c21b0] | (simp only [i64_w, i32_w]; rw [c21b0]) | skip)
        have H' := Aside0.mk H
        clear H
        obtain ⟨Ao22, co22, eo22⟩ := Kd.R_slice HO_4.out
        subst eo22
        go_wp2
        repeat (go_quiet (fail); try go_wp2)
        go_meet
        case rel => exact ⟨_, (true), (by first | rfl | (simp; done) | (simp [*]; done)), H', ⟨by have := HK1.out; first | omega | exact Nat.le_refl _⟩, ⟨by (with_reducible repeat (first | apply Kd.R_alloc | apply Kd.R_drewN | apply Kd.R_drew)); exact HO_4.out⟩, ⟨by (with_reducible repeat (first | apply Kd.R_alloc | apply Kd.R_drewN | apply Kd.R_drew)); exact HO_5.out⟩, ⟨by (with_reducible repeat (first | apply Kd.R_alloc | apply Kd.R_drewN | apply Kd.R_drew)); exact HO_6.out⟩, ⟨by repeat (first | (with_reducible first | exact HB.out | apply below_alloc | apply pw_below_drewN | apply below_drew1) | exact HB.out)⟩⟩
       ·rw [if_neg c21] at H
        have c21b0 : decide (x7_1 < (t273.length : Int)) = false := decide_eq_false c21
        clear c21
        (first | rw [c21b0] | (simp only [i64_w, i32_w]; rw [c21b0]) | skip)
        have H' := Aside0.mk H
        clear H
        obtain ⟨Ao23, co23, eo23⟩ := Kd.R_slice HO_4.out
        subst eo23
        obtain ⟨Ao24, co24, eo24⟩ := Kd.R_slice HO_5.out
        subst eo24
        go_wp2
        repeat (go_quiet (fail); try go_wp2)
        go_meet
        case rel => exact ⟨_, (decide (x8_1 < (t277.length : Int))), (by first | rfl | (simp; done) | (simp [*]; done)), H', ⟨by have := HK1.out; first | omega | exact Nat.le_refl _⟩, ⟨by (with_reducible repeat (first | apply Kd.R_alloc | apply Kd.R_drewN | apply Kd.R_drew)); exact HO_4.out⟩, ⟨by (with_reducible repeat (first | apply Kd.R_alloc | apply Kd.R_drewN | apply Kd.R_drew)); exact HO_5.out⟩, ⟨by (with_reducible repeat (first | apply Kd.R_alloc | apply Kd.R_drewN | apply Kd.R_drew)); exact HO_6.out⟩, ⟨by repeat (first | (with_reducible first | exact HB.out | apply below_alloc | apply pw_below_drewN | apply below_drew1) | exact HB.out)⟩⟩
      case rest =>
       clear HC20
       try clear c1
       try clear c2
       try clear c2b0
       try clear c2b1
       try clear p2
       try clear c3
       try clear p6
       try clear c8
       try clear c8b0
       try clear c8b1
       try clear c9
       try clear c9b0
       try clear c9b1
       try clear c11
       try clear c11b0
       try clear c12
       try clear c12b0
       try clear c21
       try clear c21b0
       try clear p2
       try clear p6
       obtain ⟨kq, x37_19, rfl, HA, HJ19, HO_4, HO_5, HO_6, HB⟩ := hcut
       cases kq with
       | zero => exact absurd HA.out (by simp [spec_l10Sorted.j1])
       | succ kj19 =>
        have H := HA.out
        clear HA
        simp only [spec_l10Sorted.j1] at H
        by_cases c25 : x37_19 = true
        ·subst c25
         have H1 : (if x8_1 ≥ (t277.length : Int) then (spec_l10Sorted.j2 kj19 t273 t277 x6_1 x7_1 x8_1 true) else (if x7_1 < (t273.length : Int) then (if 0 ≤ x7_1 then (if 0 ≤ x8_1 then (if x8_1 < (t277.length : Int) then (spec_l10Sorted.j2 kj19 t273 t277 x6_1 x7_1 x8_1 (decide ((rd t273 x7_1) ≤ (rd t277 x8_1)))) else (none)) else (none)) else (none)) else (spec_l10Sorted.j2 kj19 t273 t277 x6_1 x7_1 x8_1 false))) = some r := by rw [if_pos rfl] at H; exact H
         clear H
         have H := H1
         clear H1
         have HC26 := Aside0.mk H
         clear H
         go_upto_region 10 with (fail)
         repeat (go_quiet (fail); go_upto_region 10 with (fail))
         go_cut [58] (fun v58 wc => ∃ (kq : Nat) (x58_25 : Bool), v58 = .bool x58_25 ∧ Aside0 (spec_l10Sorted.j2 kq t273 t277 x6_1 x7_1 x8_1 x58_25 = some r) ∧ Aside0 (kq ≤ kj19) ∧ Aside0 (Kd.R (Kd.int .i64) 3 wc w.heap.size (fun k_ => some k_ ≠ (v278 : Value).ownBlock ∧ some k_ ≠ (u6 : Value).ownBlock) v274 t273) ∧ Aside0 (Kd.R (Kd.int .i64) 3 wc w.heap.size (fun k_ => some k_ ≠ (v274 : Value).ownBlock ∧ some k_ ≠ (u6 : Value).ownBlock) v278 t277) ∧ Aside0 (Kd.R (Kd.int .i64) 3 wc w.heap.size (fun k_ => some k_ ≠ (v274 : Value).ownBlock ∧ some k_ ≠ (v278 : Value).ownBlock) u6 x6_1) ∧ Aside0 (Below w.heap.size w wc))
         case first =>
          have H := HC26.out
          clear HC26
          by_cases c27 : x8_1 ≥ (t277.length : Int)
          ·rw [if_pos c27] at H
           have c27b0 : decide ((t277.length : Int) ≤ x8_1) = true := decide_eq_true c27
           clear c27
           (first | rw [c27b0] | (simp only [i64_w, i32_w]; rw [c27b0]) | skip)
           have H' := Aside0.mk H
           clear H
           obtain ⟨Ao28, co28, eo28⟩ := Kd.R_slice HO_5.out
           subst eo28
           go_wp2
           repeat (go_quiet (fail); try go_wp2)
           go_meet
           case rel => exact ⟨_, (true), (by first | rfl | (simp; done) | (simp [*]; done)), H', ⟨by have := HK1.out; have := HJ19.out; first | omega | exact Nat.le_refl _⟩, ⟨by (with_reducible repeat (first | apply Kd.R_alloc | apply Kd.R_drewN | apply Kd.R_drew)); exact HO_4.out⟩, ⟨by (with_reducible repeat (first | apply Kd.R_alloc | apply Kd.R_drewN | apply Kd.R_drew)); exact HO_5.out⟩, ⟨by (with_reducible repeat (first | apply Kd.R_alloc | apply Kd.R_drewN | apply Kd.R_drew)); exact HO_6.out⟩, ⟨by repeat (first | (with_reducible first | exact HB.out | apply below_alloc | apply pw_below_drewN | apply below_drew1) | exact HB.out)⟩⟩
          ·rw [if_neg c27] at H
           have c27b0 : decide ((t277.length : Int) ≤ x8_1) = false := decide_eq_false c27
           clear c27
           (first | rw [c27b0] | (simp only [i64_w, i32_w]; rw [c27b0]) | skip)
           by_cases c29 : x7_1 < (t273.length : Int)
           ·rw [if_pos c29] at H
            have c29b0 : decide (x7_1 < (t273.length : Int)) = true := decide_eq_true c29
            clear c29
            by_cases c30 : 0 ≤ x7_1
            ·rw [if_pos c30] at H
             have c30b0 : decide (0 ≤ x7_1) = true := decide_eq_true c30
             clear c30
             by_cases c31 : 0 ≤ x8_1
             ·rw [if_pos c31] at H
              have c31b0 : decide (0 ≤ x8_1) = true := decide_eq_true c31
              clear c31
              by_cases c32 : x8_1 < (t277.length : Int)
              ·rw [if_pos c32] at H
               have c32b0 : decide (x8_1 < (t277.length : Int)) = true := decide_eq_true c32
               clear c32
               have H' := Aside0.mk H
               clear H
               obtain ⟨Ao33, co33, eo33⟩ := Kd.R_slice HO_5.out
               subst eo33
               obtain ⟨Ao34, co34, eo34⟩ := Kd.R_slice HO_4.out
               subst eo34
               have p283 : 0 ≤ (x7_1 : Int) := of_decide_eq_true (by first | (with_reducible assumption) | assumption)
               have q283 : x7_1 < (t273.length : Int) := of_decide_eq_true (by first | (with_reducible assumption) | assumption)
               obtain ⟨ad283, e283, hx283_0⟩ := Kd.at_int (Kd.R_reads' HO_4.out).2.2 x7_1 p283 q283
               cases e283
               replace p283 := eq_true p283
               replace q283 := eq_true q283
               have p284 : 0 ≤ (x8_1 : Int) := of_decide_eq_true (by first | (with_reducible assumption) | assumption)
               have q284 : x8_1 < (t277.length : Int) := of_decide_eq_true (by first | (with_reducible assumption) | assumption)
               obtain ⟨ad284, e284, hx284_0⟩ := Kd.at_int (Kd.R_reads' HO_5.out).2.2 x8_1 p284 q284
               cases e284
               replace p284 := eq_true p284
               replace q284 := eq_true q284
               go_wp2
               repeat (go_quiet (fail); try go_wp2)
               go_meet
               case rel => exact ⟨_, (decide ((rd t273 x7_1) ≤ (rd t277 x8_1))), (by first | rfl | (simp; done) | (simp [*]; done)), H', ⟨by have := HK1.out; have := HJ19.out; first | omega | exact Nat.le_refl _⟩, ⟨by (with_reducible repeat (first | apply Kd.R_alloc | apply Kd.R_drewN | apply Kd.R_drew)); exact HO_4.out⟩, ⟨by (with_reducible repeat (first | apply Kd.R_alloc | apply Kd.R_drewN | apply Kd.R_drew)); exact HO_5.out⟩, ⟨by (with_reducible repeat (first | apply Kd.R_alloc | apply Kd.R_drewN | apply Kd.R_drew)); exact HO_6.out⟩, ⟨by repeat (first | (with_reducible first | exact HB.out | apply below_alloc | apply pw_below_drewN | apply below_drew1) | exact HB.out)⟩⟩
              ·rw [if_neg c32] at H
               exact absurd H (by simp)
             ·rw [if_neg c31] at H
              exact absurd H (by simp)
            ·rw [if_neg c30] at H
             exact absurd H (by simp)
           ·rw [if_neg c29] at H
            have c29b0 : decide (x7_1 < (t273.length : Int)) = false := decide_eq_false c29
            clear c29
            have H' := Aside0.mk H
            clear H
            obtain ⟨Ao35, co35, eo35⟩ := Kd.R_slice HO_5.out
            subst eo35
            obtain ⟨Ao36, co36, eo36⟩ := Kd.R_slice HO_4.out
            subst eo36
            go_wp2
            repeat (go_quiet (fail); try go_wp2)
            go_meet
            case rel => exact ⟨_, (false), (by first | rfl | (simp; done) | (simp [*]; done)), H', ⟨by have := HK1.out; have := HJ19.out; first | omega | exact Nat.le_refl _⟩, ⟨by (with_reducible repeat (first | apply Kd.R_alloc | apply Kd.R_drewN | apply Kd.R_drew)); exact HO_4.out⟩, ⟨by (with_reducible repeat (first | apply Kd.R_alloc | apply Kd.R_drewN | apply Kd.R_drew)); exact HO_5.out⟩, ⟨by (with_reducible repeat (first | apply Kd.R_alloc | apply Kd.R_drewN | apply Kd.R_drew)); exact HO_6.out⟩, ⟨by repeat (first | (with_reducible first | exact HB.out | apply below_alloc | apply pw_below_drewN | apply below_drew1) | exact HB.out)⟩⟩
         case rest =>
          clear HC26
          try clear c1
          try clear c2
          try clear c2b0
          try clear c2b1
          try clear p2
          try clear q2
          try clear hx2
          try clear c3
          try clear p6
          try clear c8
          try clear c8b0
          try clear c8b1
          try clear c9
          try clear c9b0
          try clear c9b1
          try clear c11
          try clear c11b0
          try clear c12
          try clear c12b0
          try clear c21
          try clear c21b0
          try clear c25
          try clear c27
          try clear c27b0
          try clear p28
          try clear q28
          try clear hx28
          try clear c29
          try clear c29b0
          try clear c30
          try clear c30b0
          try clear c31
          try clear c31b0
          try clear c32
          try clear c32b0
          try clear c33
          try clear hx283_0
          try clear hx284_0
          try clear p2
          try clear p283
          try clear p284
          try clear p6
          try clear q283
          try clear q284
          obtain ⟨kq, x58_25, rfl, HA, HJ25, HO_4, HO_5, HO_6, HB⟩ := hcut
          cases kq with
          | zero => exact absurd HA.out (by simp [spec_l10Sorted.j2])
          | succ kj25 =>
           have H := HA.out
           clear HA
           simp only [spec_l10Sorted.j2] at H
           by_cases c37 : x58_25 = true
           ·subst c37
            have H1 : (if 0 ≤ x7_1 then (if x7_1 < (t273.length : Int) then (if (x6_1.length : Int) = 0 then (if x6_1.length < 17592186044416 then (spec_l10Sorted.l0 kj25 t273 t277 (x6_1 ++ [rd t273 x7_1]) (wrap64 (x7_1 + 1)) x8_1) else (none)) else (if 0 ≤ (wrap64 ((x6_1.length : Int) - 1)) then (if (wrap64 ((x6_1.length : Int) - 1)) < (x6_1.length : Int) then (if (rd x6_1 (wrap64 ((x6_1.length : Int) - 1))) = (rd t273 x7_1) then (spec_l10Sorted.l0 kj25 t273 t277 x6_1 (wrap64 (x7_1 + 1)) x8_1) else (if x6_1.length < 17592186044416 then (spec_l10Sorted.l0 kj25 t273 t277 (x6_1 ++ [rd t273 x7_1]) (wrap64 (x7_1 + 1)) x8_1) else (none))) else (none)) else (none))) else (none)) else (none)) = some r := by rw [if_pos rfl] at H; exact H
            clear H
            have H := H1
            clear H1
            by_cases c38 : 0 ≤ x7_1
            ·rw [if_pos c38] at H
             have c38b0 : decide (0 ≤ x7_1) = true := decide_eq_true c38
             clear c38
             by_cases c39 : x7_1 < (t273.length : Int)
             ·rw [if_pos c39] at H
              have c39b0 : decide (x7_1 < (t273.length : Int)) = true := decide_eq_true c39
              clear c39
              by_cases c40 : (x6_1.length : Int) = 0
              ·rw [if_pos c40] at H
               have c40b0 : ((x6_1.length : Int) == 0) = true := beq_iff_eq.mpr c40
               have c40b1 : ((x6_1.length : Int) != 0) = false := bne_eq_false_iff_eq.mpr c40
               clear c40
               by_cases c41 : x6_1.length < 17592186044416
               ·rw [if_pos c41] at H
                have LMc41 := Aside0.mk c41
                clear c41
                obtain ⟨y286, hy286⟩ : ∃ y_ : List Int, y_ = (x6_1 ++ [rd t273 x7_1]) := ⟨_, rfl⟩
                replace H : (spec_l10Sorted.l0 kj25 t273 t277 y286 (wrap64 (x7_1 + 1)) x8_1) = some r := by first | (rw [hy286]; with_reducible exact H) | (have H2_ := (Option.bind_some _ _).symm.trans H; rw [hy286]; with_reducible exact H2_) | (have H2_ := (Option.bind_some _ _).symm.trans H; with_reducible exact H2_) | with_reducible exact H | (rw [hy286]; exact H) | exact H
                have Ny286 := Aside0.mk hy286
                clear hy286
                have H' := Aside0.mk H
                clear H
                obtain ⟨Ao42, co42, eo42⟩ := Kd.R_slice HO_4.out
                subst eo42
                have p285 : 0 ≤ (x7_1 : Int) := of_decide_eq_true (by first | (with_reducible assumption) | assumption)
                have q285 : x7_1 < (t273.length : Int) := of_decide_eq_true (by first | (with_reducible assumption) | assumption)
                obtain ⟨ad285, e285, hx285_0⟩ := Kd.at_int (Kd.R_reads' HO_4.out).2.2 x7_1 p285 q285
                cases e285
                replace p285 := eq_true p285
                replace q285 := eq_true q285
                obtain ⟨Ao43, co43, eo43⟩ := Kd.R_slice HO_6.out
                subst eo43
                go_wp2_with (first | ((with_reducible refine gate_builtin (b := .append) (xs := #[.tmp 84, .tmp 86]) rfl ?_); (try (refine gate_guard (by rfl) ?_; dsimp only)); at_builtin; refine Kd.R_append (Kd.int .i64) (w0 := w) w.heap.size rfl (.tmp 84) (.tmp 86) 24 3 (.int .i64 0) 8 rfl Try.underlying24 info3 rfl (by decide) (by omega) (.slice Ao43 x6_1.length co43) x6_1 (rd t273 x7_1) [.int .i64 (rd t273 x7_1)] (fun k_ => some k_ ≠ (.slice (some ad285) t273.length co42 : Value).ownBlock ∧ some k_ ≠ (v278 : Value).ownBlock) (fun _ => False) rfl rfl ?aP (fun _ hk => hk.elim) ?aF ?aO ?aB ?aS ?aL ?_; (case aP => exact rfl); (case aB => exact (bS HB.out)); (case aF => exact (fun k_ hk => ⟨Kd.fresh' (Kd.R_lt (rS HO_4.out)) k_ hk, Kd.fresh' (Kd.R_lt (rS HO_5.out)) k_ hk⟩)); (case aO => exact (rS HO_6.out)); (case aS => exact (below_size (bS HB.out))); (case aL => have := LMc41.out; omega); intro v287 w44 ho hb hg hat; rw [← Ny286.out] at ho; replace HO_4 := Aside0.mk (Kd.R_after (ok := (fun k_ => some k_ ≠ (v278 : Value).ownBlock)) (rS HO_4.out) hg hat); replace HO_5 := Aside0.mk (Kd.R_after (ok := (fun k_ => some k_ ≠ (.slice (some ad285) t273.length co42 : Value).ownBlock)) (rS HO_5.out) hg hat); replace HB := Aside0.mk (hb); have HO288 := Aside0.mk (ho); clear HO_6; clear ho hb hg hat))
                repeat (go_quiet (first | ((with_reducible refine gate_builtin (b := .append) (xs := #[.tmp 84, .tmp 86]) rfl ?_); (try (refine gate_guard (by rfl) ?_; dsimp only)); at_builtin; refine Kd.R_append (Kd.int .i64) (w0 := w) w.heap.size rfl (.tmp 84) (.tmp 86) 24 3 (.int .i64 0) 8 rfl Try.underlying24 info3 rfl (by decide) (by omega) (.slice Ao43 x6_1.length co43) x6_1 (rd t273 x7_1) [.int .i64 (rd t273 x7_1)] (fun k_ => some k_ ≠ (.slice (some ad285) t273.length co42 : Value).ownBlock ∧ some k_ ≠ (v278 : Value).ownBlock) (fun _ => False) rfl rfl ?aP (fun _ hk => hk.elim) ?aF ?aO ?aB ?aS ?aL ?_; (case aP => exact rfl); (case aB => exact (bS HB.out)); (case aF => exact (fun k_ hk => ⟨Kd.fresh' (Kd.R_lt (rS HO_4.out)) k_ hk, Kd.fresh' (Kd.R_lt (rS HO_5.out)) k_ hk⟩)); (case aO => exact (rS HO_6.out)); (case aS => exact (below_size (bS HB.out))); (case aL => have := LMc41.out; omega); intro v287 w44 ho hb hg hat; rw [← Ny286.out] at ho; replace HO_4 := Aside0.mk (Kd.R_after (ok := (fun k_ => some k_ ≠ (v278 : Value).ownBlock)) (rS HO_4.out) hg hat); replace HO_5 := Aside0.mk (Kd.R_after (ok := (fun k_ => some k_ ≠ (.slice (some ad285) t273.length co42 : Value).ownBlock)) (rS HO_5.out) hg hat); replace HB := Aside0.mk (hb); have HO288 := Aside0.mk (ho); clear HO_6; clear ho hb hg hat)); try go_wp2_with (first | ((with_reducible refine gate_builtin (b := .append) (xs := #[.tmp 84, .tmp 86]) rfl ?_); (try (refine gate_guard (by rfl) ?_; dsimp only)); at_builtin; refine Kd.R_append (Kd.int .i64) (w0 := w) w.heap.size rfl (.tmp 84) (.tmp 86) 24 3 (.int .i64 0) 8 rfl Try.underlying24 info3 rfl (by decide) (by omega) (.slice Ao43 x6_1.length co43) x6_1 (rd t273 x7_1) [.int .i64 (rd t273 x7_1)] (fun k_ => some k_ ≠ (.slice (some ad285) t273.length co42 : Value).ownBlock ∧ some k_ ≠ (v278 : Value).ownBlock) (fun _ => False) rfl rfl ?aP (fun _ hk => hk.elim) ?aF ?aO ?aB ?aS ?aL ?_; (case aP => exact rfl); (case aB => exact (bS HB.out)); (case aF => exact (fun k_ hk => ⟨Kd.fresh' (Kd.R_lt (rS HO_4.out)) k_ hk, Kd.fresh' (Kd.R_lt (rS HO_5.out)) k_ hk⟩)); (case aO => exact (rS HO_6.out)); (case aS => exact (below_size (bS HB.out))); (case aL => have := LMc41.out; omega); intro v287 w44 ho hb hg hat; rw [← Ny286.out] at ho; replace HO_4 := Aside0.mk (Kd.R_after (ok := (fun k_ => some k_ ≠ (v278 : Value).ownBlock)) (rS HO_4.out) hg hat); replace HO_5 := Aside0.mk (Kd.R_after (ok := (fun k_ => some k_ ≠ (.slice (some ad285) t273.length co42 : Value).ownBlock)) (rS HO_5.out) hg hat); replace HB := Aside0.mk (hb); have HO288 := Aside0.mk (ho); clear HO_6; clear ho hb hg hat)))
                go_roundg kj25
                case measure => have := HK1.out; have := HJ19.out; have := HJ25.out; omega
                case rel => exact ⟨(y286), (wrap64 (x7_1 + 1)), (x8_1), (by first | rfl | (simp; done) | (simp [*]; done)), (by first | rfl | (simp; done) | (simp [*]; done)), H', ⟨by have := HK1.out; have := HJ19.out; have := HJ25.out; omega⟩, ⟨by (with_reducible repeat (first | apply Kd.R_alloc | apply Kd.R_drewN | apply Kd.R_drew)); exact HO_4.out⟩, ⟨by (with_reducible repeat (first | apply Kd.R_alloc | apply Kd.R_drewN | apply Kd.R_drew)); exact HO_5.out⟩, ⟨by (with_reducible repeat (first | apply Kd.R_alloc | apply Kd.R_drewN | apply Kd.R_drew)); exact HO288.out⟩, ⟨by repeat (first | (with_reducible first | exact HB.out | apply below_alloc | apply pw_below_drewN | apply below_drew1) | exact HB.out)⟩⟩
               ·rw [if_neg c41] at H
                exact absurd H (by simp)
              ·rw [if_neg c40] at H
               have c40b0 : ((x6_1.length : Int) == 0) = false := beq_eq_false_iff_ne.mpr c40
               have c40b1 : ((x6_1.length : Int) != 0) = true := bne_iff_ne.mpr c40
               have c40b2 : ¬ (x6_1 = []) := fun h_ => c40 (by rw [h_]; rfl)
               obtain ⟨ji45, hji45⟩ : ∃ j_ : Int, (wrap64 ((x6_1.length : Int) - 1)) = j_ := ⟨_, rfl⟩
               replace H : (if 0 ≤ (ji45) then (if (ji45) < (x6_1.length : Int) then (if (rd x6_1 (ji45)) = (rd t273 x7_1) then (spec_l10Sorted.l0 kj25 t273 t277 x6_1 (wrap64 (x7_1 + 1)) x8_1) else (if x6_1.length < 17592186044416 then (spec_l10Sorted.l0 kj25 t273 t277 (x6_1 ++ [rd t273 x7_1]) (wrap64 (x7_1 + 1)) x8_1) else (none))) else (none)) else (none)) = some r := by first | (rw [hji45] at H; exact H) | (simp only [hji45] at H ⊢; exact H)
               have hji45w : (IntKind.i64.wrap ((x6_1.length : Int) - 1)) = ji45 := (i64_w _).trans hji45
               by_cases c46 : 0 ≤ (ji45)
               ·rw [if_pos c46] at H
                have c46b0 : decide (0 ≤ (ji45)) = true := decide_eq_true c46
                clear c46
                by_cases c47 : (ji45) < (x6_1.length : Int)
                ·rw [if_pos c47] at H
                 have c47b0 : decide ((ji45) < (x6_1.length : Int)) = true := decide_eq_true c47
                 clear c47
                 by_cases c48 : (rd x6_1 (ji45)) = (rd t273 x7_1)
                 ·rw [if_pos c48] at H
                  have c48b0 : ((rd x6_1 (ji45)) == (rd t273 x7_1)) = true := beq_iff_eq.mpr c48
                  have c48b1 : ((rd x6_1 (ji45)) != (rd t273 x7_1)) = false := bne_eq_false_iff_eq.mpr c48
                  clear c48
                  have H' := Aside0.mk H
                  clear H
                  obtain ⟨Ao49, co49, eo49⟩ := Kd.R_slice HO_4.out
                  subst eo49
                  have p285 : 0 ≤ (x7_1 : Int) := of_decide_eq_true (by first | (with_reducible assumption) | assumption)
                  have q285 : x7_1 < (t273.length : Int) := of_decide_eq_true (by first | (with_reducible assumption) | assumption)
                  obtain ⟨ad285, e285, hx285_0⟩ := Kd.at_int (Kd.R_reads' HO_4.out).2.2 x7_1 p285 q285
                  cases e285
                  replace p285 := eq_true p285
                  replace q285 := eq_true q285
                  obtain ⟨Ao50, co50, eo50⟩ := Kd.R_slice HO_6.out
                  subst eo50
                  have p289 : 0 ≤ ((ji45) : Int) := of_decide_eq_true (by first | (with_reducible assumption) | assumption)
                  have q289 : (ji45) < (x6_1.length : Int) := of_decide_eq_true (by first | (with_reducible assumption) | assumption)
                  obtain ⟨ad289, e289, hx289_0⟩ := Kd.at_int (Kd.R_reads' HO_6.out).2.2 (ji45) p289 q289
                  cases e289
                  replace p289 := eq_true p289
                  replace q289 := eq_true q289
                  go_wp2
                  repeat (go_quiet (fail); try go_wp2)
                  go_roundg kj25
                  case measure => have := HK1.out; have := HJ19.out; have := HJ25.out; omega
                  case rel => exact ⟨(x6_1), (wrap64 (x7_1 + 1)), (x8_1), (by first | rfl | (simp; done) | (simp [*]; done)), (by first | rfl | (simp; done) | (simp [*]; done)), H', ⟨by have := HK1.out; have := HJ19.out; have := HJ25.out; omega⟩, ⟨by (with_reducible repeat (first | apply Kd.R_alloc | apply Kd.R_drewN | apply Kd.R_drew)); exact HO_4.out⟩, ⟨by (with_reducible repeat (first | apply Kd.R_alloc | apply Kd.R_drewN | apply Kd.R_drew)); exact HO_5.out⟩, ⟨by (with_reducible repeat (first | apply Kd.R_alloc | apply Kd.R_drewN | apply Kd.R_drew)); exact HO_6.out⟩, ⟨by repeat (first | (with_reducible first | exact HB.out | apply below_alloc | apply pw_below_drewN | apply below_drew1) | exact HB.out)⟩⟩
                 ·rw [if_neg c48] at H
                  have c48b0 : ((rd x6_1 (ji45)) == (rd t273 x7_1)) = false := beq_eq_false_iff_ne.mpr c48
                  have c48b1 : ((rd x6_1 (ji45)) != (rd t273 x7_1)) = true := bne_iff_ne.mpr c48
                  by_cases c51 : x6_1.length < 17592186044416
                  ·rw [if_pos c51] at H
                   have LMc51 := Aside0.mk c51
                   clear c51
                   obtain ⟨y290, hy290⟩ : ∃ y_ : List Int, y_ = (x6_1 ++ [rd t273 x7_1]) := ⟨_, rfl⟩
                   replace H : (spec_l10Sorted.l0 kj25 t273 t277 y290 (wrap64 (x7_1 + 1)) x8_1) = some r := by first | (rw [hy290]; with_reducible exact H) | (have H2_ := (Option.bind_some _ _).symm.trans H; rw [hy290]; with_reducible exact H2_) | (have H2_ := (Option.bind_some _ _).symm.trans H; with_reducible exact H2_) | with_reducible exact H | (rw [hy290]; exact H) | exact H
                   have Ny290 := Aside0.mk hy290
                   clear hy290
                   have H' := Aside0.mk H
                   clear H
                   obtain ⟨Ao52, co52, eo52⟩ := Kd.R_slice HO_4.out
                   subst eo52
                   have p285 : 0 ≤ (x7_1 : Int) := of_decide_eq_true (by first | (with_reducible assumption) | assumption)
                   have q285 : x7_1 < (t273.length : Int) := of_decide_eq_true (by first | (with_reducible assumption) | assumption)
                   obtain ⟨ad285, e285, hx285_0⟩ := Kd.at_int (Kd.R_reads' HO_4.out).2.2 x7_1 p285 q285
                   cases e285
                   replace p285 := eq_true p285
                   replace q285 := eq_true q285
                   obtain ⟨Ao53, co53, eo53⟩ := Kd.R_slice HO_6.out
                   subst eo53
                   have p289 : 0 ≤ ((ji45) : Int) := of_decide_eq_true (by first | (with_reducible assumption) | assumption)
                   have q289 : (ji45) < (x6_1.length : Int) := of_decide_eq_true (by first | (with_reducible assumption) | assumption)
                   obtain ⟨ad289, e289, hx289_0⟩ := Kd.at_int (Kd.R_reads' HO_6.out).2.2 (ji45) p289 q289
                   cases e289
                   replace p289 := eq_true p289
                   replace q289 := eq_true q289
                   go_wp2_with (first | ((with_reducible refine gate_builtin (b := .append) (xs := #[.tmp 84, .tmp 86]) rfl ?_); (try (refine gate_guard (by rfl) ?_; dsimp only)); at_builtin; refine Kd.R_append (Kd.int .i64) (w0 := w) w.heap.size rfl (.tmp 84) (.tmp 86) 24 3 (.int .i64 0) 8 rfl Try.underlying24 info3 rfl (by decide) (by omega) (.slice (some ad289) x6_1.length co53) x6_1 (rd t273 x7_1) [.int .i64 (rd t273 x7_1)] (fun k_ => some k_ ≠ (.slice (some ad285) t273.length co52 : Value).ownBlock ∧ some k_ ≠ (v278 : Value).ownBlock) (fun _ => False) rfl rfl ?aP (fun _ hk => hk.elim) ?aF ?aO ?aB ?aS ?aL ?_; (case aP => exact rfl); (case aB => exact (bS HB.out)); (case aF => exact (fun k_ hk => ⟨Kd.fresh' (Kd.R_lt (rS HO_4.out)) k_ hk, Kd.fresh' (Kd.R_lt (rS HO_5.out)) k_ hk⟩)); (case aO => exact (rS HO_6.out)); (case aS => exact (below_size (bS HB.out))); (case aL => have := LMc51.out; omega); intro v291 w54 ho hb hg hat; rw [← Ny290.out] at ho; replace HO_4 := Aside0.mk (Kd.R_after (ok := (fun k_ => some k_ ≠ (v278 : Value).ownBlock)) (rS HO_4.out) hg hat); replace HO_5 := Aside0.mk (Kd.R_after (ok := (fun k_ => some k_ ≠ (.slice (some ad285) t273.length co52 : Value).ownBlock)) (rS HO_5.out) hg hat); replace HB := Aside0.mk (hb); have HO292 := Aside0.mk (ho); clear HO_6; clear ho hb hg hat))
                   repeat (go_quiet (first | ((with_reducible refine gate_builtin (b := .append) (xs := #[.tmp 84, .tmp 86]) rfl ?_); (try (refine gate_guard (by rfl) ?_; dsimp only)); at_builtin; refine Kd.R_append (Kd.int .i64) (w0 := w) w.heap.size rfl (.tmp 84) (.tmp 86) 24 3 (.int .i64 0) 8 rfl Try.underlying24 info3 rfl (by decide) (by omega) (.slice (some ad289) x6_1.length co53) x6_1 (rd t273 x7_1) [.int .i64 (rd t273 x7_1)] (fun k_ => some k_ ≠ (.slice (some ad285) t273.length co52 : Value).ownBlock ∧ some k_ ≠ (v278 : Value).ownBlock) (fun _ => False) rfl rfl ?aP (fun _ hk => hk.elim) ?aF ?aO ?aB ?aS ?aL ?_; (case aP => exact rfl); (case aB => exact (bS HB.out)); (case aF => exact (fun k_ hk => ⟨Kd.fresh' (Kd.R_lt (rS HO_4.out)) k_ hk, Kd.fresh' (Kd.R_lt (rS HO_5.out)) k_ hk⟩)); (case aO => exact (rS HO_6.out)); (case aS => exact (below_size (bS HB.out))); (case aL => have := LMc51.out; omega); intro v291 w54 ho hb hg hat; rw [← Ny290.out] at ho; replace HO_4 := Aside0.mk (Kd.R_after (ok := (fun k_ => some k_ ≠ (v278 : Value).ownBlock)) (rS HO_4.out) hg hat); replace HO_5 := Aside0.mk (Kd.R_after (ok := (fun k_ => some k_ ≠ (.slice (some ad285) t273.length co52 : Value).ownBlock)) (rS HO_5.out) hg hat); replace HB := Aside0.mk (hb); have HO292 := Aside0.mk (ho); clear HO_6; clear ho hb hg hat)); try go_wp2_with (first | ((with_reducible refine gate_builtin (b := .append) (xs := #[.tmp 84, .tmp 86]) rfl ?_); (try (refine gate_guard (by rfl) ?_; dsimp only)); at_builtin; refine Kd.R_append (Kd.int .i64) (w0 := w) w.heap.size rfl (.tmp 84) (.tmp 86) 24 3 (.int .i64 0) 8 rfl Try.underlying24 info3 rfl (by decide) (by omega) (.slice (some ad289) x6_1.length co53) x6_1 (rd t273 x7_1) [.int .i64 (rd t273 x7_1)] (fun k_ => some k_ ≠ (.slice (some ad285) t273.length co52 : Value).ownBlock ∧ some k_ ≠ (v278 : Value).ownBlock) (fun _ => False) rfl rfl ?aP (fun _ hk => hk.elim) ?aF ?aO ?aB ?aS ?aL ?_; (case aP => exact rfl); (case aB => exact (bS HB.out)); (case aF => exact (fun k_ hk => ⟨Kd.fresh' (Kd.R_lt (rS HO_4.out)) k_ hk, Kd.fresh' (Kd.R_lt (rS HO_5.out)) k_ hk⟩)); (case aO => exact (rS HO_6.out)); (case aS => exact (below_size (bS HB.out))); (case aL => have := LMc51.out; omega); intro v291 w54 ho hb hg hat; rw [← Ny290.out] at ho; replace HO_4 := Aside0.mk (Kd.R_after (ok := (fun k_ => some k_ ≠ (v278 : Value).ownBlock)) (rS HO_4.out) hg hat); replace HO_5 := Aside0.mk (Kd.R_after (ok := (fun k_ => some k_ ≠ (.slice (some ad285) t273.length co52 : Value).ownBlock)) (rS HO_5.out) hg hat); replace HB := Aside0.mk (hb); have HO292 := Aside0.mk (ho); clear HO_6; clear ho hb hg hat)))
                   go_roundg kj25
                   case measure => have := HK1.out; have := HJ19.out; have := HJ25.out; omega
                   case rel => exact ⟨(y290), (wrap64 (x7_1 + 1)), (x8_1), (by first | rfl | (simp; done) | (simp [*]; done)), (by first | rfl | (simp; done) | (simp [*]; done)), H', ⟨by have := HK1.out; have := HJ19.out; have := HJ25.out; omega⟩, ⟨by (with_reducible repeat (first | apply Kd.R_alloc | apply Kd.R_drewN | apply Kd.R_drew)); exact HO_4.out⟩, ⟨by (with_reducible repeat (first | apply Kd.R_alloc | apply Kd.R_drewN | apply Kd.R_drew)); exact HO_5.out⟩, ⟨by (with_reducible repeat (first | apply Kd.R_alloc | apply Kd.R_drewN | apply Kd.R_drew)); exact HO292.out⟩, ⟨by repeat (first | (with_reducible first | exact HB.out | apply below_alloc | apply pw_below_drewN | apply below_drew1) | exact HB.out)⟩⟩
                  ·rw [if_neg c51] at H
                   exact absurd H (by simp)
                ·rw [if_neg c47] at H
                 exact absurd H (by simp)
               ·rw [if_neg c46] at H
                exact absurd H (by simp)
             ·rw [if_neg c39] at H
              exact absurd H (by simp)
            ·rw [if_neg c38] at H
             exact absurd H (by simp)
           ·replace c37 := Bool.eq_false_iff.mpr c37
            subst c37
            have H1 : (if 0 ≤ x8_1 then (if x8_1 < (t277.length : Int) then (if (x6_1.length : Int) = 0 then (if x6_1.length < 17592186044416 then (spec_l10Sorted.l0 kj25 t273 t277 (x6_1 ++ [rd t277 x8_1]) x7_1 (wrap64 (x8_1 + 1))) else (none)) else (if 0 ≤ (wrap64 ((x6_1.length : Int) - 1)) then (if (wrap64 ((x6_1.length : Int) - 1)) < (x6_1.length : Int) then (if (rd x6_1 (wrap64 ((x6_1.length : Int) - 1))) = (rd t277 x8_1) then (spec_l10Sorted.l0 kj25 t273 t277 x6_1 x7_1 (wrap64 (x8_1 + 1))) else (if x6_1.length < 17592186044416 then (spec_l10Sorted.l0 kj25 t273 t277 (x6_1 ++ [rd t277 x8_1]) x7_1 (wrap64 (x8_1 + 1))) else (none))) else (none)) else (none))) else (none)) else (none)) = some r := by rw [if_neg (show ¬ (false = true) by decide)] at H; exact H
            clear H
            have H := H1
            clear H1
            by_cases c55 : 0 ≤ x8_1
            ·rw [if_pos c55] at H
             have c55b0 : decide (0 ≤ x8_1) = true := decide_eq_true c55
             clear c55
             by_cases c56 : x8_1 < (t277.length : Int)
             ·rw [if_pos c56] at H
              have c56b0 : decide (x8_1 < (t277.length : Int)) = true := decide_eq_true c56
              clear c56
              by_cases c57 : (x6_1.length : Int) = 0
              ·rw [if_pos c57] at H
               have c57b0 : ((x6_1.length : Int) == 0) = true := beq_iff_eq.mpr c57
               have c57b1 : ((x6_1.length : Int) != 0) = false := bne_eq_false_iff_eq.mpr c57
               clear c57
               by_cases c58 : x6_1.length < 17592186044416
               ·rw [if_pos c58] at H
                have LMc58 := Aside0.mk c58
                clear c58
                obtain ⟨y294, hy294⟩ : ∃ y_ : List Int, y_ = (x6_1 ++ [rd t277 x8_1]) := ⟨_, rfl⟩
                replace H : (spec_l10Sorted.l0 kj25 t273 t277 y294 x7_1 (wrap64 (x8_1 + 1))) = some r := by first | (rw [hy294]; with_reducible exact H) | (have H2_ := (Option.bind_some _ _).symm.trans H; rw [hy294]; with_reducible exact H2_) | (have H2_ := (Option.bind_some _ _).symm.trans H; with_reducible exact H2_) | with_reducible exact H | (rw [hy294]; exact H) | exact H
                have Ny294 := Aside0.mk hy294
                clear hy294
                have H' := Aside0.mk H
                clear H
                obtain ⟨Ao59, co59, eo59⟩ := Kd.R_slice HO_5.out
                subst eo59
                have p293 : 0 ≤ (x8_1 : Int) := of_decide_eq_true (by first | (with_reducible assumption) | assumption)
                have q293 : x8_1 < (t277.length : Int) := of_decide_eq_true (by first | (with_reducible assumption) | assumption)
                obtain ⟨ad293, e293, hx293_0⟩ := Kd.at_int (Kd.R_reads' HO_5.out).2.2 x8_1 p293 q293
                cases e293
                replace p293 := eq_true p293
                replace q293 := eq_true q293
                obtain ⟨Ao60, co60, eo60⟩ := Kd.R_slice HO_6.out
                subst eo60
                go_wp2_with (first | ((with_reducible refine gate_builtin (b := .append) (xs := #[.tmp 84, .tmp 86]) rfl ?_); (try (refine gate_guard (by rfl) ?_; dsimp only)); at_builtin; refine Kd.R_append (Kd.int .i64) (w0 := w) w.heap.size rfl (.tmp 84) (.tmp 86) 24 3 (.int .i64 0) 8 rfl Try.underlying24 info3 rfl (by decide) (by omega) (.slice Ao60 x6_1.length co60) x6_1 (rd t277 x8_1) [.int .i64 (rd t277 x8_1)] (fun k_ => some k_ ≠ (v274 : Value).ownBlock ∧ some k_ ≠ (.slice (some ad293) t277.length co59 : Value).ownBlock) (fun _ => False) rfl rfl ?aP (fun _ hk => hk.elim) ?aF ?aO ?aB ?aS ?aL ?_; (case aP => exact rfl); (case aB => exact (bS HB.out)); (case aF => exact (fun k_ hk => ⟨Kd.fresh' (Kd.R_lt (rS HO_4.out)) k_ hk, Kd.fresh' (Kd.R_lt (rS HO_5.out)) k_ hk⟩)); (case aO => exact (rS HO_6.out)); (case aS => exact (below_size (bS HB.out))); (case aL => have := LMc58.out; omega); intro v295 w61 ho hb hg hat; rw [← Ny294.out] at ho; replace HO_4 := Aside0.mk (Kd.R_after (ok := (fun k_ => some k_ ≠ (.slice (some ad293) t277.length co59 : Value).ownBlock)) (rS HO_4.out) hg hat); replace HO_5 := Aside0.mk (Kd.R_after (ok := (fun k_ => some k_ ≠ (v274 : Value).ownBlock)) (rS HO_5.out) hg hat); replace HB := Aside0.mk (hb); have HO296 := Aside0.mk (ho); clear HO_6; clear ho hb hg hat))
                repeat (go_quiet (first | ((with_reducible refine gate_builtin (b := .append) (xs := #[.tmp 84, .tmp 86]) rfl ?_); (try (refine gate_guard (by rfl) ?_; dsimp only)); at_builtin; refine Kd.R_append (Kd.int .i64) (w0 := w) w.heap.size rfl (.tmp 84) (.tmp 86) 24 3 (.int .i64 0) 8 rfl Try.underlying24 info3 rfl (by decide) (by omega) (.slice Ao60 x6_1.length co60) x6_1 (rd t277 x8_1) [.int .i64 (rd t277 x8_1)] (fun k_ => some k_ ≠ (v274 : Value).ownBlock ∧ some k_ ≠ (.slice (some ad293) t277.length co59 : Value).ownBlock) (fun _ => False) rfl rfl ?aP (fun _ hk => hk.elim) ?aF ?aO ?aB ?aS ?aL ?_; (case aP => exact rfl); (case aB => exact (bS HB.out)); (case aF => exact (fun k_ hk => ⟨Kd.fresh' (Kd.R_lt (rS HO_4.out)) k_ hk, Kd.fresh' (Kd.R_lt (rS HO_5.out)) k_ hk⟩)); (case aO => exact (rS HO_6.out)); (case aS => exact (below_size (bS HB.out))); (case aL => have := LMc58.out; omega); intro v295 w61 ho hb hg hat; rw [← Ny294.out] at ho; replace HO_4 := Aside0.mk (Kd.R_after (ok := (fun k_ => some k_ ≠ (.slice (some ad293) t277.length co59 : Value).ownBlock)) (rS HO_4.out) hg hat); replace HO_5 := Aside0.mk (Kd.R_after (ok := (fun k_ => some k_ ≠ (v274 : Value).ownBlock)) (rS HO_5.out) hg hat); replace HB := Aside0.mk (hb); have HO296 := Aside0.mk (ho); clear HO_6; clear ho hb hg hat)); try go_wp2_with (first | ((with_reducible refine gate_builtin (b := .append) (xs := #[.tmp 84, .tmp 86]) rfl ?_); (try (refine gate_guard (by rfl) ?_; dsimp only)); at_builtin; refine Kd.R_append (Kd.int .i64) (w0 := w) w.heap.size rfl (.tmp 84) (.tmp 86) 24 3 (.int .i64 0) 8 rfl Try.underlying24 info3 rfl (by decide) (by omega) (.slice Ao60 x6_1.length co60) x6_1 (rd t277 x8_1) [.int .i64 (rd t277 x8_1)] (fun k_ => some k_ ≠ (v274 : Value).ownBlock ∧ some k_ ≠ (.slice (some ad293) t277.length co59 : Value).ownBlock) (fun _ => False) rfl rfl ?aP (fun _ hk => hk.elim) ?aF ?aO ?aB ?aS ?aL ?_; (case aP => exact rfl); (case aB => exact (bS HB.out)); (case aF => exact (fun k_ hk => ⟨Kd.fresh' (Kd.R_lt (rS HO_4.out)) k_ hk, Kd.fresh' (Kd.R_lt (rS HO_5.out)) k_ hk⟩)); (case aO => exact (rS HO_6.out)); (case aS => exact (below_size (bS HB.out))); (case aL => have := LMc58.out; omega); intro v295 w61 ho hb hg hat; rw [← Ny294.out] at ho; replace HO_4 := Aside0.mk (Kd.R_after (ok := (fun k_ => some k_ ≠ (.slice (some ad293) t277.length co59 : Value).ownBlock)) (rS HO_4.out) hg hat); replace HO_5 := Aside0.mk (Kd.R_after (ok := (fun k_ => some k_ ≠ (v274 : Value).ownBlock)) (rS HO_5.out) hg hat); replace HB := Aside0.mk (hb); have HO296 := Aside0.mk (ho); clear HO_6; clear ho hb hg hat)))
                go_roundg kj25
                case measure => have := HK1.out; have := HJ19.out; have := HJ25.out; omega
                case rel => exact ⟨(y294), (x7_1), (wrap64 (x8_1 + 1)), (by first | rfl | (simp; done) | (simp [*]; done)), (by first | rfl | (simp; done) | (simp [*]; done)), H', ⟨by have := HK1.out; have := HJ19.out; have := HJ25.out; omega⟩, ⟨by (with_reducible repeat (first | apply Kd.R_alloc | apply Kd.R_drewN | apply Kd.R_drew)); exact HO_4.out⟩, ⟨by (with_reducible repeat (first | apply Kd.R_alloc | apply Kd.R_drewN | apply Kd.R_drew)); exact HO_5.out⟩, ⟨by (with_reducible repeat (first | apply Kd.R_alloc | apply Kd.R_drewN | apply Kd.R_drew)); exact HO296.out⟩, ⟨by repeat (first | (with_reducible first | exact HB.out | apply below_alloc | apply pw_below_drewN | apply below_drew1) | exact HB.out)⟩⟩
               ·rw [if_neg c58] at H
                exact absurd H (by simp)
              ·rw [if_neg c57] at H
               have c57b0 : ((x6_1.length : Int) == 0) = false := beq_eq_false_iff_ne.mpr c57
               have c57b1 : ((x6_1.length : Int) != 0) = true := bne_iff_ne.mpr c57
               have c57b2 : ¬ (x6_1 = []) := fun h_ => c57 (by rw [h_]; rfl)
               obtain ⟨ji62, hji62⟩ : ∃ j_ : Int, (wrap64 ((x6_1.length : Int) - 1)) = j_ := ⟨_, rfl⟩
               replace H : (if 0 ≤ (ji62) then (if (ji62) < (x6_1.length : Int) then (if (rd x6_1 (ji62)) = (rd t277 x8_1) then (spec_l10Sorted.l0 kj25 t273 t277 x6_1 x7_1 (wrap64 (x8_1 + 1))) else (if x6_1.length < 17592186044416 then (spec_l10Sorted.l0 kj25 t273 t277 (x6_1 ++ [rd t277 x8_1]) x7_1 (wrap64 (x8_1 + 1))) else (none))) else (none)) else (none)) = some r := by first | (rw [hji62] at H; exact H) | (simp only [hji62] at H ⊢; exact H)
               have hji62w : (IntKind.i64.wrap ((x6_1.length : Int) - 1)) = ji62 := (i64_w _).trans hji62
               by_cases c63 : 0 ≤ (ji62)
               ·rw [if_pos c63] at H
                have c63b0 : decide (0 ≤ (ji62)) = true := decide_eq_true c63
                clear c63
                by_cases c64 : (ji62) < (x6_1.length : Int)
                ·rw [if_pos c64] at H
                 have c64b0 : decide ((ji62) < (x6_1.length : Int)) = true := decide_eq_true c64
                 clear c64
                 by_cases c65 : (rd x6_1 (ji62)) = (rd t277 x8_1)
                 ·rw [if_pos c65] at H
                  have c65b0 : ((rd x6_1 (ji62)) == (rd t277 x8_1)) = true := beq_iff_eq.mpr c65
                  have c65b1 : ((rd x6_1 (ji62)) != (rd t277 x8_1)) = false := bne_eq_false_iff_eq.mpr c65
                  clear c65
                  have H' := Aside0.mk H
                  clear H
                  obtain ⟨Ao66, co66, eo66⟩ := Kd.R_slice HO_5.out
                  subst eo66
                  have p293 : 0 ≤ (x8_1 : Int) := of_decide_eq_true (by first | (with_reducible assumption) | assumption)
                  have q293 : x8_1 < (t277.length : Int) := of_decide_eq_true (by first | (with_reducible assumption) | assumption)
                  obtain ⟨ad293, e293, hx293_0⟩ := Kd.at_int (Kd.R_reads' HO_5.out).2.2 x8_1 p293 q293
                  cases e293
                  replace p293 := eq_true p293
                  replace q293 := eq_true q293
                  obtain ⟨Ao67, co67, eo67⟩ := Kd.R_slice HO_6.out
                  subst eo67
                  have p297 : 0 ≤ ((ji62) : Int) := of_decide_eq_true (by first | (with_reducible assumption) | assumption)
                  have q297 : (ji62) < (x6_1.length : Int) := of_decide_eq_true (by first | (with_reducible assumption) | assumption)
                  obtain ⟨ad297, e297, hx297_0⟩ := Kd.at_int (Kd.R_reads' HO_6.out).2.2 (ji62) p297 q297
                  cases e297
                  replace p297 := eq_true p297
                  replace q297 := eq_true q297
                  go_wp2
                  repeat (go_quiet (fail); try go_wp2)
                  go_roundg kj25
                  case measure => have := HK1.out; have := HJ19.out; have := HJ25.out; omega
                  case rel => exact ⟨(x6_1), (x7_1), (wrap64 (x8_1 + 1)), (by first | rfl | (simp; done) | (simp [*]; done)), (by first | rfl | (simp; done) | (simp [*]; done)), H', ⟨by have := HK1.out; have := HJ19.out; have := HJ25.out; omega⟩, ⟨by (with_reducible repeat (first | apply Kd.R_alloc | apply Kd.R_drewN | apply Kd.R_drew)); exact HO_4.out⟩, ⟨by (with_reducible repeat (first | apply Kd.R_alloc | apply Kd.R_drewN | apply Kd.R_drew)); exact HO_5.out⟩, ⟨by (with_reducible repeat (first | apply Kd.R_alloc | apply Kd.R_drewN | apply Kd.R_drew)); exact HO_6.out⟩, ⟨by repeat (first | (with_reducible first | exact HB.out | apply below_alloc | apply pw_below_drewN | apply below_drew1) | exact HB.out)⟩⟩
                 ·rw [if_neg c65] at H
                  have c65b0 : ((rd x6_1 (ji62)) == (rd t277 x8_1)) = false := beq_eq_false_iff_ne.mpr c65
                  have c65b1 : ((rd x6_1 (ji62)) != (rd t277 x8_1)) = true := bne_iff_ne.mpr c65
                  by_cases c68 : x6_1.length < 17592186044416
                  ·rw [if_pos c68] at H
                   have LMc68 := Aside0.mk c68
                   clear c68
                   obtain ⟨y298, hy298⟩ : ∃ y_ : List Int, y_ = (x6_1 ++ [rd t277 x8_1]) := ⟨_, rfl⟩
                   replace H : (spec_l10Sorted.l0 kj25 t273 t277 y298 x7_1 (wrap64 (x8_1 + 1))) = some r := by first | (rw [hy298]; with_reducible exact H) | (have H2_ := (Option.bind_some _ _).symm.trans H; rw [hy298]; with_reducible exact H2_) | (have H2_ := (Option.bind_some _ _).symm.trans H; with_reducible exact H2_) | with_reducible exact H | (rw [hy298]; exact H) | exact H
                   have Ny298 := Aside0.mk hy298
                   clear hy298
                   have H' := Aside0.mk H
                   clear H
                   obtain ⟨Ao69, co69, eo69⟩ := Kd.R_slice HO_5.out
                   subst eo69
                   have p293 : 0 ≤ (x8_1 : Int) := of_decide_eq_true (by first | (with_reducible assumption) | assumption)
                   have q293 : x8_1 < (t277.length : Int) := of_decide_eq_true (by first | (with_reducible assumption) | assumption)
                   obtain ⟨ad293, e293, hx293_0⟩ := Kd.at_int (Kd.R_reads' HO_5.out).2.2 x8_1 p293 q293
                   cases e293
                   replace p293 := eq_true p293
                   replace q293 := eq_true q293
                   obtain ⟨Ao70, co70, eo70⟩ := Kd.R_slice HO_6.out
                   subst eo70
                   have p297 : 0 ≤ ((ji62) : Int) := of_decide_eq_true (by first | (with_reducible assumption) | assumption)
                   have q297 : (ji62) < (x6_1.length : Int) := of_decide_eq_true (by first | (with_reducible assumption) | assumption)
                   obtain ⟨ad297, e297, hx297_0⟩ := Kd.at_int (Kd.R_reads' HO_6.out).2.2 (ji62) p297 q297
                   cases e297
                   replace p297 := eq_true p297
                   replace q297 := eq_true q297
                   go_wp2_with (first | ((with_reducible refine gate_builtin (b := .append) (xs := #[.tmp 84, .tmp 86]) rfl ?_); (try (refine gate_guard (by rfl) ?_; dsimp only)); at_builtin; refine Kd.R_append (Kd.int .i64) (w0 := w) w.heap.size rfl (.tmp 84) (.tmp 86) 24 3 (.int .i64 0) 8 rfl Try.underlying24 info3 rfl (by decide) (by omega) (.slice (some ad297) x6_1.length co70) x6_1 (rd t277 x8_1) [.int .i64 (rd t277 x8_1)] (fun k_ => some k_ ≠ (v274 : Value).ownBlock ∧ some k_ ≠ (.slice (some ad293) t277.length co69 : Value).ownBlock) (fun _ => False) rfl rfl ?aP (fun _ hk => hk.elim) ?aF ?aO ?aB ?aS ?aL ?_; (case aP => exact rfl); (case aB => exact (bS HB.out)); (case aF => exact (fun k_ hk => ⟨Kd.fresh' (Kd.R_lt (rS HO_4.out)) k_ hk, Kd.fresh' (Kd.R_lt (rS HO_5.out)) k_ hk⟩)); (case aO => exact (rS HO_6.out)); (case aS => exact (below_size (bS HB.out))); (case aL => have := LMc68.out; omega); intro v299 w71 ho hb hg hat; rw [← Ny298.out] at ho; replace HO_4 := Aside0.mk (Kd.R_after (ok := (fun k_ => some k_ ≠ (.slice (some ad293) t277.length co69 : Value).ownBlock)) (rS HO_4.out) hg hat); replace HO_5 := Aside0.mk (Kd.R_after (ok := (fun k_ => some k_ ≠ (v274 : Value).ownBlock)) (rS HO_5.out) hg hat); replace HB := Aside0.mk (hb); have HO300 := Aside0.mk (ho); clear HO_6; clear ho hb hg hat))
                   repeat (go_quiet (first | ((with_reducible refine gate_builtin (b := .append) (xs := #[.tmp 84, .tmp 86]) rfl ?_); (try (refine gate_guard (by rfl) ?_; dsimp only)); at_builtin; refine Kd.R_append (Kd.int .i64) (w0 := w) w.heap.size rfl (.tmp 84) (.tmp 86) 24 3 (.int .i64 0) 8 rfl Try.underlying24 info3 rfl (by decide) (by omega) (.slice (some ad297) x6_1.length co70) x6_1 (rd t277 x8_1) [.int .i64 (rd t277 x8_1)] (fun k_ => some k_ ≠ (v274 : Value).ownBlock ∧ some k_ ≠ (.slice (some ad293) t277.length co69 : Value).ownBlock) (fun _ => False) rfl rfl ?aP (fun _ hk => hk.elim) ?aF ?aO ?aB ?aS ?aL ?_; (case aP => exact rfl); (case aB => exact (bS HB.out)); (case aF => exact (fun k_ hk => ⟨Kd.fresh' (Kd.R_lt (rS HO_4.out)) k_ hk, Kd.fresh' (Kd.R_lt (rS HO_5.out)) k_ hk⟩)); (case aO => exact (rS HO_6.out)); (case aS => exact (below_size (bS HB.out))); (case aL => have := LMc68.out; omega); intro v299 w71 ho hb hg hat; rw [← Ny298.out] at ho; replace HO_4 := Aside0.mk (Kd.R_after (ok := (fun k_ => some k_ ≠ (.slice (some ad293) t277.length co69 : Value).ownBlock)) (rS HO_4.out) hg hat); replace HO_5 := Aside0.mk (Kd.R_after (ok := (fun k_ => some k_ ≠ (v274 : Value).ownBlock)) (rS HO_5.out) hg hat); replace HB := Aside0.mk (hb); have HO300 := Aside0.mk (ho); clear HO_6; clear ho hb hg hat)); try go_wp2_with (first | ((with_reducible refine gate_builtin (b := .append) (xs := #[.tmp 84, .tmp 86]) rfl ?_); (try (refine gate_guard (by rfl) ?_; dsimp only)); at_builtin; refine Kd.R_append (Kd.int .i64) (w0 := w) w.heap.size rfl (.tmp 84) (.tmp 86) 24 3 (.int .i64 0) 8 rfl Try.underlying24 info3 rfl (by decide) (by omega) (.slice (some ad297) x6_1.length co70) x6_1 (rd t277 x8_1) [.int .i64 (rd t277 x8_1)] (fun k_ => some k_ ≠ (v274 : Value).ownBlock ∧ some k_ ≠ (.slice (some ad293) t277.length co69 : Value).ownBlock) (fun _ => False) rfl rfl ?aP (fun _ hk => hk.elim) ?aF ?aO ?aB ?aS ?aL ?_; (case aP => exact rfl); (case aB => exact (bS HB.out)); (case aF => exact (fun k_ hk => ⟨Kd.fresh' (Kd.R_lt (rS HO_4.out)) k_ hk, Kd.fresh' (Kd.R_lt (rS HO_5.out)) k_ hk⟩)); (case aO => exact (rS HO_6.out)); (case aS => exact (below_size (bS HB.out))); (case aL => have := LMc68.out; omega); intro v299 w71 ho hb hg hat; rw [← Ny298.out] at ho; replace HO_4 := Aside0.mk (Kd.R_after (ok := (fun k_ => some k_ ≠ (.slice (some ad293) t277.length co69 : Value).ownBlock)) (rS HO_4.out) hg hat); replace HO_5 := Aside0.mk (Kd.R_after (ok := (fun k_ => some k_ ≠ (v274 : Value).ownBlock)) (rS HO_5.out) hg hat); replace HB := Aside0.mk (hb); have HO300 := Aside0.mk (ho); clear HO_6; clear ho hb hg hat)))
                   go_roundg kj25
                   case measure => have := HK1.out; have := HJ19.out; have := HJ25.out; omega
                   case rel => exact ⟨(y298), (x7_1), (wrap64 (x8_1 + 1)), (by first | rfl | (simp; done) | (simp [*]; done)), (by first | rfl | (simp; done) | (simp [*]; done)), H', ⟨by have := HK1.out; have := HJ19.out; have := HJ25.out; omega⟩, ⟨by (with_reducible repeat (first | apply Kd.R_alloc | apply Kd.R_drewN | apply Kd.R_drew)); exact HO_4.out⟩, ⟨by (with_reducible repeat (first | apply Kd.R_alloc | apply Kd.R_drewN | apply Kd.R_drew)); exact HO_5.out⟩, ⟨by (with_reducible repeat (first | apply Kd.R_alloc | apply Kd.R_drewN | apply Kd.R_drew)); exact HO300.out⟩, ⟨by repeat (first | (with_reducible first | exact HB.out | apply below_alloc | apply pw_below_drewN | apply below_drew1) | exact HB.out)⟩⟩
                  ·rw [if_neg c68] at H
                   exact absurd H (by simp)
                ·rw [if_neg c64] at H
                 exact absurd H (by simp)
               ·rw [if_neg c63] at H
                exact absurd H (by simp)
             ·rw [if_neg c56] at H
              exact absurd H (by simp)
            ·rw [if_neg c55] at H
             exact absurd H (by simp)
        ·replace c25 := Bool.eq_false_iff.mpr c25
         subst c25
         have H1 : (some x6_1) = some r := by rw [if_neg (show ¬ (false = true) by decide)] at H; exact H
         clear H
         have H := H1
         clear H1
         obtain rfl := Option.some.inj H
         go_wp2
         repeat (go_quiet (fail); try go_wp2)
         go_ret
         exact ⟨_, by first | rfl | (simp [errW_none, errW_some] <;> rfl) | (simp only [← hji7]; first | rfl | (simp [errW_none, errW_some] <;> rfl)) | (simp [*, errW_none, errW_some] <;> rfl), by (with_reducible repeat (first | apply Kd.R_alloc | apply Kd.R_drewN | apply Kd.R_drew)); exact Kd.R_mono HO_6.out (fun _ hk => trivial), by repeat (first | (with_reducible first | exact HB.out | apply below_alloc | apply pw_below_drewN | apply below_drew1) | exact HB.out)⟩
   ·rw [if_neg c9] at H
    exact absurd H (by simp)
  ·rw [if_neg c8] at H
   exact absurd H (by simp)

end Go.Proofs.Ytejbndfhaemigaa.PFnClashes
