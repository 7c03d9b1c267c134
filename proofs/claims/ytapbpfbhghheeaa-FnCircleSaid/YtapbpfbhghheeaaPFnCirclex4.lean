-- written by wip/tools/myprint.py out of the program's own print
import Derived.Test.YtapbpfbhghheeaaPFnCirclex0
import Derived.Test.YtapbpfbhghheeaaPFnCirclex1
import Derived.Test.YtapbpfbhghheeaaPFnCirclex3
namespace Go.Proofs.Ytapbpfbhghheeaa.PFnCircle
open Go.RowKit Go.Proofs.YtapbpfbhghheeaaW.PrintWords Go.Proofs.YtapbpfbhghheeaaW.PrintLast Go.Proofs.YtapbpfbhghheeaaW.PrintMore
attribute [local go_sem] max2_int min2_int max_two min_two max_three min_three max_four min_four   -- for this text's walks alone
set_option linter.unusedVariables false
set_option linter.unusedSimpArgs false

/-! ### spec_l14Some: function 72 -/
def spec_l14Some.l0 : Nat → Int → List (S60) → List Int → Int → Int → Option (Int × (List (S60)) × Int × Int)
  | 0, _, _, _, _, _ => none
  | k + 1, x6, x7, x1000, x1001, x1002 => (spec_l1Below.f x1000 x1001 x1002 2).bind fun bt214 => (if (x7.length : Int) < (wrap64 (200 + bt214.1)) then (if x6 > 1 then (if x7.length < 8796093022208 then (spec_l14Some.l0 k x6 (x7 ++ [(⟨0, 1⟩ : S60)]) x1000 bt214.2.1 bt214.2.2) else (none)) else (some (x6, x7, bt214.2.1, bt214.2.2))) else (some (x6, x7, bt214.2.1, bt214.2.2)))
def spec_l14Some.f (k : Nat) (s0_0 : List Int) (s0_1 : Int) (s0_2 : Int) (a1 : Int) : Option (Int × (List (S60)) × Int × Int) := (spec_l14Graph.f k s0_0 s0_1 s0_2 a1).bind fun bt190 => ((spec_l1Once.f s0_0 bt190.2.2.1 bt190.2.2.2 12).bind fun bt196 => (if bt196.1 = true then ((spec_l1Below.f s0_0 bt196.2.1 bt196.2.2 4).bind fun bt199 => (if bt199.1 = 0 then ((spec_l1PickInt.f s0_0 bt199.2.1 bt199.2.2 (([(-1), 16, 17] : List Int))).bind fun bt205 => (some (bt205.1, bt190.2.1, bt205.2.1, bt205.2.2))) else (if bt199.1 = 1 then (if bt190.2.1.length < 8796093022208 then (some (bt190.1, (bt190.2.1 ++ [(⟨0, bt190.1⟩ : S60)]), bt199.2.1, bt199.2.2)) else (none)) else (if bt199.1 = 2 then (if bt190.2.1.length < 8796093022208 then (some (bt190.1, (bt190.2.1 ++ [(⟨(-1), 0⟩ : S60)]), bt199.2.1, bt199.2.2)) else (none)) else (spec_l14Some.l0 k bt190.1 bt190.2.1 s0_0 bt199.2.1 bt199.2.2))))) else (some (bt190.1, bt190.2.1, bt196.2.1, bt196.2.2))))
theorem spec_l14Some.mono_l : ∀ k, (∀ y0 y1 y2 y3 y4, LeO (spec_l14Some.l0 k y0 y1 y2 y3 y4) (spec_l14Some.l0 (k + 1) y0 y1 y2 y3 y4))
  | 0 => fun _ _ _ _ _ r h => by simp [spec_l14Some.l0] at h
  | k + 1 => by
    have ih0 := spec_l14Some.mono_l k
    · intro y0 y1 y2 y3 y4
      unfold spec_l14Some.l0
      repeat' first
      | (with_reducible exact ih0 _ _ _ _ _)
      | (with_reducible exact spec_l14Graph.mono _ _ _ _ _)
      | (with_reducible exact LeO.refl _)
      | (with_reducible exact LeO.none _)
      | (with_reducible refine LeO.ite ?_ ?_)
      | (with_reducible refine LeO.bind ?_ (fun _ => ?_))
      | exact ih0 _ _ _ _ _
      | exact spec_l14Graph.mono _ _ _ _ _
      | exact LeO.none _
      | refine LeO.ite ?_ ?_
      | refine LeO.bind ?_ (fun _ => ?_)
theorem spec_l14Some.mono : ∀ a0 a1 a2 a3 k, LeO (spec_l14Some.f k a0 a1 a2 a3) (spec_l14Some.f (k + 1) a0 a1 a2 a3) := by
  intro a0 a1 a2 a3 k
  have ih0 := spec_l14Some.mono_l k
  unfold spec_l14Some.f
  repeat' first
      | (with_reducible exact ih0 _ _ _ _ _)
      | (with_reducible exact spec_l14Graph.mono _ _ _ _ _)
      | (with_reducible exact LeO.refl _)
      | (with_reducible exact LeO.none _)
      | (with_reducible refine LeO.ite ?_ ?_)
      | (with_reducible refine LeO.bind ?_ (fun _ => ?_))
      | exact ih0 _ _ _ _ _
      | exact spec_l14Graph.mono _ _ _ _ _
      | exact LeO.none _
      | refine LeO.ite ?_ ?_
      | refine LeO.bind ?_ (fun _ => ?_)
set_option maxHeartbeats 8000000 in
set_option maxRecDepth 100000 in
theorem spec_l14Some.calls (k : Nat) (g : Nat) (s0_0 : List Int) (s0_1 : Int) (s0_2 : Int) (a1 : Int) (r1 : Int) (r2 : List (S60)) (r3 : Int) (r4 : Int) (w0 w : World) (hI : IsS124 w0 w g s0_0 s0_1 s0_2) (hB : Below w0.heap.size w0 w) (h : spec_l14Some.f k s0_0 s0_1 s0_2 a1 = some (r1, r2, r3, r4)) :
    Calls Try.prog 72 #[.pointer (some ⟨g, 0, none⟩), .int .i64 a1] w fun e w' => ∃ v1_ : Value, e = .returned (.tuple #[.int .i64 r1, v1_]) ∧ Kd.R k60 60 w' w.heap.size (fun _ => True) v1_ r2 ∧ IsS124 w0 w' g s0_0 r3 r4 ∧ Below w0.heap.size w0 w' ∧ KeepBut w w' g none := by
  have hu60 := Try.underlying60
  have HI0 := Aside0.mk hI
  have HK := Aside0.mk (KeepBut.refl w g none)
  have HL := Aside0.mk hB.size
  clear hI
  have HW0 := Aside0.mk hB.size
  have HB := Aside0.mk hB
  clear hB
  have H : ((spec_l14Graph.f k s0_0 s0_1 s0_2 a1).bind fun bt190 => ((spec_l1Once.f s0_0 bt190.2.2.1 bt190.2.2.2 12).bind fun bt196 => (if bt196.1 = true then ((spec_l1Below.f s0_0 bt196.2.1 bt196.2.2 4).bind fun bt199 => (if bt199.1 = 0 then ((spec_l1PickInt.f s0_0 bt199.2.1 bt199.2.2 (([(-1), 16, 17] : List Int))).bind fun bt205 => (some (bt205.1, bt190.2.1, bt205.2.1, bt205.2.2))) else (if bt199.1 = 1 then (if bt190.2.1.length < 8796093022208 then (some (bt190.1, (bt190.2.1 ++ [(⟨0, bt190.1⟩ : S60)]), bt199.2.1, bt199.2.2)) else (none)) else (if bt199.1 = 2 then (if bt190.2.1.length < 8796093022208 then (some (bt190.1, (bt190.2.1 ++ [(⟨(-1), 0⟩ : S60)]), bt199.2.1, bt199.2.2)) else (none)) else (spec_l14Some.l0 k bt190.1 bt190.2.1 s0_0 bt199.2.1 bt199.2.2))))) else (some (bt190.1, bt190.2.1, bt196.2.1, bt196.2.2))))) = some (r1, r2, r3, r4) := h
  clear h
  replace H := Option.bind_eq_some_iff.mp H
  obtain ⟨⟨t190, t191, t194, t195⟩, A30, H⟩ := H
  replace H : ((spec_l1Once.f s0_0 t194 t195 12).bind fun bt196 => (if bt196.1 = true then ((spec_l1Below.f s0_0 bt196.2.1 bt196.2.2 4).bind fun bt199 => (if bt199.1 = 0 then ((spec_l1PickInt.f s0_0 bt199.2.1 bt199.2.2 (([(-1), 16, 17] : List Int))).bind fun bt205 => (some (bt205.1, t191, bt205.2.1, bt205.2.2))) else (if bt199.1 = 1 then (if t191.length < 8796093022208 then (some (t190, (t191 ++ [(⟨0, t190⟩ : S60)]), bt199.2.1, bt199.2.2)) else (none)) else (if bt199.1 = 2 then (if t191.length < 8796093022208 then (some (t190, (t191 ++ [(⟨(-1), 0⟩ : S60)]), bt199.2.1, bt199.2.2)) else (none)) else (spec_l14Some.l0 k t190 t191 s0_0 bt199.2.1 bt199.2.2))))) else (some (t190, t191, bt196.2.1, bt196.2.2)))) = some (r1, r2, r3, r4) := H
  have A3 := Aside0.mk A30
  clear A30
  replace H := Option.bind_eq_some_iff.mp H
  obtain ⟨⟨t196, t197, t198⟩, A40, H⟩ := H
  replace H : (if t196 = true then ((spec_l1Below.f s0_0 t197 t198 4).bind fun bt199 => (if bt199.1 = 0 then ((spec_l1PickInt.f s0_0 bt199.2.1 bt199.2.2 (([(-1), 16, 17] : List Int))).bind fun bt205 => (some (bt205.1, t191, bt205.2.1, bt205.2.2))) else (if bt199.1 = 1 then (if t191.length < 8796093022208 then (some (t190, (t191 ++ [(⟨0, t190⟩ : S60)]), bt199.2.1, bt199.2.2)) else (none)) else (if bt199.1 = 2 then (if t191.length < 8796093022208 then (some (t190, (t191 ++ [(⟨(-1), 0⟩ : S60)]), bt199.2.1, bt199.2.2)) else (none)) else (spec_l14Some.l0 k t190 t191 s0_0 bt199.2.1 bt199.2.2))))) else (some (t190, t191, t197, t198))) = some (r1, r2, r3, r4) := H
  have A4 := Aside0.mk A40
  clear A40
  by_cases c5 : t196 = true
  · subst c5
    have H1 : ((spec_l1Below.f s0_0 t197 t198 4).bind fun bt199 => (if bt199.1 = 0 then ((spec_l1PickInt.f s0_0 bt199.2.1 bt199.2.2 (([(-1), 16, 17] : List Int))).bind fun bt205 => (some (bt205.1, t191, bt205.2.1, bt205.2.2))) else (if bt199.1 = 1 then (if t191.length < 8796093022208 then (some (t190, (t191 ++ [(⟨0, t190⟩ : S60)]), bt199.2.1, bt199.2.2)) else (none)) else (if bt199.1 = 2 then (if t191.length < 8796093022208 then (some (t190, (t191 ++ [(⟨(-1), 0⟩ : S60)]), bt199.2.1, bt199.2.2)) else (none)) else (spec_l14Some.l0 k t190 t191 s0_0 bt199.2.1 bt199.2.2))))) = some (r1, r2, r3, r4) := by rw [if_pos rfl] at H; exact H
    clear H
    have H := H1
    clear H1
    replace H := Option.bind_eq_some_iff.mp H
    obtain ⟨⟨t199, t200, t201⟩, A60, H⟩ := H
    replace H : (if t199 = 0 then ((spec_l1PickInt.f s0_0 t200 t201 (([(-1), 16, 17] : List Int))).bind fun bt205 => (some (bt205.1, t191, bt205.2.1, bt205.2.2))) else (if t199 = 1 then (if t191.length < 8796093022208 then (some (t190, (t191 ++ [(⟨0, t190⟩ : S60)]), t200, t201)) else (none)) else (if t199 = 2 then (if t191.length < 8796093022208 then (some (t190, (t191 ++ [(⟨(-1), 0⟩ : S60)]), t200, t201)) else (none)) else (spec_l14Some.l0 k t190 t191 s0_0 t200 t201)))) = some (r1, r2, r3, r4) := H
    have A6 := Aside0.mk A60
    clear A60
    by_cases c7 : t199 = 0
    · rw [if_pos c7] at H
      have c7b0 : (t199 == 0) = true := beq_iff_eq.mpr c7
      have c7b1 : (t199 != 0) = false := bne_eq_false_iff_eq.mpr c7
      clear c7
      obtain ⟨y202, hy202⟩ : ∃ y_ : List Int, y_ = (([(-1), 16, 17] : List Int)) := ⟨_, rfl⟩
      replace H : ((spec_l1PickInt.f s0_0 t200 t201 y202).bind fun bt205 => (some (bt205.1, t191, bt205.2.1, bt205.2.2))) = some (r1, r2, r3, r4) := by first | (rw [hy202]; with_reducible exact H) | (have H2_ := (Option.bind_some _ _).symm.trans H; rw [hy202]; with_reducible exact H2_) | (have H2_ := (Option.bind_some _ _).symm.trans H; with_reducible exact H2_) | with_reducible exact H | (rw [hy202]; exact H) | exact H
      have Ny202 := Aside0.mk hy202
      clear hy202
      replace H := Option.bind_eq_some_iff.mp H
      obtain ⟨⟨t205, t206, t207⟩, A80, H⟩ := H
      replace H : (some (t205, t191, t206, t207)) = some (r1, r2, r3, r4) := H
      have A8 := Aside0.mk A80
      clear A80
      simp only [Option.some.injEq, Prod.mk.injEq] at H
      obtain ⟨rfl, rfl, rfl, rfl⟩ := H
      go_enter Try.func72, Try.ntmps72
      go_wp2_with (first | ((with_reducible refine gate_callee (f := 93) rfl ?_); refine goesL_ (some 11) rfl rfl Try.func93 (by kernel_rfl) rfl #[.pointer (some ⟨g, 0, none⟩), .int .i64 a1] rfl (by (try simp only [List.map_toArray, List.map_cons, List.map_nil]); first | done | rfl | (simp only [List.length_drop, List.length_take]; rfl)) ?_; (with_reducible refine (spec_l14Graph.calls k g s0_0 s0_1 s0_2 a1 t190 t191 t194 t195 w0 _ ?side1 ?side2 A3.out).mono ?_); (case side1 => repeat (first | (with_reducible first | exact HI0.out | apply IsS124.alloc | apply IsS124.drewN | apply IsS124.drew | apply IsS124.set_1 | apply IsS124.set_2) | exact HI0.out)); (case side2 => repeat (first | (with_reducible first | exact HB.out | apply below_alloc | apply pw_below_drewN | apply below_drew1 | refine below_set ?_ (IsS124.ge HI0.out)) | exact HB.out)); rintro e w9 ⟨v192, rfl, ho0, hi, hb, hk⟩; refine ⟨_, rfl, ?_⟩; have n0_ := Aside0.mk (Kd.R_lower ho0 (keep_size (w := w) (g := g) (row := none) (by repeat (first | (with_reducible first | exact HK.out | apply KeepBut.set_ | apply keep_drewN | apply keep_drew | apply keep_alloc) | exact HK.out)))); have n1_ := Aside0.mk (KeepBut.trans (by repeat (first | (with_reducible first | exact HK.out | apply KeepBut.set_ | apply keep_drewN | apply keep_drew | apply keep_alloc) | exact HK.out)) hk (.inl rfl)); have n2_ := Aside0.mk (hb); have n3_ := Aside0.mk (hi); clear HK; clear HB; clear HI0; have HO193 := n0_; have HK := n1_; have HB := n2_; have HI0 := n3_; clear n0_ n1_ n2_ n3_; (try clear hb); (try clear hb2); (try clear hk); (try clear hi); (try clear ho0)) | ((with_reducible refine gate_callee (f := 75) rfl ?_); refine goesL_ (some 15) rfl rfl Try.func75 (by kernel_rfl) rfl #[.pointer (some ⟨g, 0, none⟩), .int .i64 12] rfl (by (try simp only [List.map_toArray, List.map_cons, List.map_nil]); first | done | rfl | (simp only [List.length_drop, List.length_take]; rfl)) ?_; (with_reducible refine (spec_l1Once.calls g s0_0 t194 t195 12 true t197 t198 w0 _ ?side1 ?side2 A4.out).mono ?_); (case side1 => repeat (first | (with_reducible first | exact HI0.out | apply IsS124.alloc | apply IsS124.drewN | apply IsS124.drew | apply IsS124.set_1 | apply IsS124.set_2) | exact HI0.out)); (case side2 => repeat (first | (with_reducible first | exact HB.out | apply below_alloc | apply pw_below_drewN | apply below_drew1 | refine below_set ?_ (IsS124.ge HI0.out)) | exact HB.out)); rintro e w10 ⟨rfl, hi, hb, hk⟩; refine ⟨_, rfl, ?_⟩; have n0_ := Aside0.mk (Kd.R_mono (Kd.R_keep (IsS124.apart (show IsS124 w0 _ g s0_0 t194 t195 from by repeat (first | (with_reducible first | exact HI0.out | apply IsS124.alloc | apply IsS124.drewN | apply IsS124.drew | apply IsS124.set_1 | apply IsS124.set_2) | exact HI0.out)) (by (with_reducible repeat (first | apply Kd.R_alloc | apply Kd.R_drewN | apply Kd.R_drew)); exact HO193.out) (by decide)) hk (fun _ h => h.2)) (fun _ h => h.1)); have n1_ := Aside0.mk (KeepBut.trans (by repeat (first | (with_reducible first | exact HK.out | apply KeepBut.set_ | apply keep_drewN | apply keep_drew | apply keep_alloc) | exact HK.out)) hk (.inl rfl)); have n2_ := Aside0.mk (hb); have n3_ := Aside0.mk (hi); clear HO193; clear HK; clear HB; clear HI0; have HO193 := n0_; have HK := n1_; have HB := n2_; have HI0 := n3_; clear n0_ n1_ n2_ n3_; (try clear hb); (try clear hb2); (try clear hk); (try clear hi)) | ((with_reducible refine gate_callee (f := 74) rfl ?_); refine goesL_ (some 17) rfl rfl Try.func74 (by kernel_rfl) rfl #[.pointer (some ⟨g, 0, none⟩), .int .i64 4] rfl (by (try simp only [List.map_toArray, List.map_cons, List.map_nil]); first | done | rfl | (simp only [List.length_drop, List.length_take]; rfl)) ?_; (with_reducible refine (spec_l1Below.calls g s0_0 t197 t198 4 t199 t200 t201 w0 _ ?side1 ?side2 A6.out).mono ?_); (case side1 => repeat (first | (with_reducible first | exact HI0.out | apply IsS124.alloc | apply IsS124.drewN | apply IsS124.drew | apply IsS124.set_1 | apply IsS124.set_2) | exact HI0.out)); (case side2 => repeat (first | (with_reducible first | exact HB.out | apply below_alloc | apply pw_below_drewN | apply below_drew1 | refine below_set ?_ (IsS124.ge HI0.out)) | exact HB.out)); rintro e w11 ⟨rfl, hi, hb, hk⟩; refine ⟨_, rfl, ?_⟩; have n0_ := Aside0.mk (Kd.R_mono (Kd.R_keep (IsS124.apart (show IsS124 w0 _ g s0_0 t197 t198 from by repeat (first | (with_reducible first | exact HI0.out | apply IsS124.alloc | apply IsS124.drewN | apply IsS124.drew | apply IsS124.set_1 | apply IsS124.set_2) | exact HI0.out)) (by (with_reducible repeat (first | apply Kd.R_alloc | apply Kd.R_drewN | apply Kd.R_drew)); exact HO193.out) (by decide)) hk (fun _ h => h.2)) (fun _ h => h.1)); have n1_ := Aside0.mk (KeepBut.trans (by repeat (first | (with_reducible first | exact HK.out | apply KeepBut.set_ | apply keep_drewN | apply keep_drew | apply keep_alloc) | exact HK.out)) hk (.inl rfl)); have n2_ := Aside0.mk (hb); have n3_ := Aside0.mk (hi); clear HO193; clear HK; clear HB; clear HI0; have HO193 := n0_; have HK := n1_; have HB := n2_; have HI0 := n3_; clear n0_ n1_ n2_ n3_; (try clear hb); (try clear hb2); (try clear hk); (try clear hi)) | ((with_reducible refine gate_dst (N := 35) rfl ?_); refine Kd.R_lit (Kd.int .i64) _ 3 ?hg (N := 35) ?hd (xs := ([(-1), 16, 17] : List Int)) (inner := [.int .i64 (-1), .int .i64 16, .int .i64 17]) (ok := fun _ => True) (okp := fun _ => True) ?hr ?hp (fun _ hk => hk) trivial (Below.refl _ _) (Nat.le_refl _) (by simp) ?_; (case hd => rfl); (case hg => rfl); (case hr => first | (go_simp; done) | (go_simp; rfl)); (case hp => exact (Reps.one (show Kd.M (Kd.int .i64) _ _ _ (-1) [.int .i64 (-1)] from rfl) (Reps.one (show Kd.M (Kd.int .i64) _ _ _ 16 [.int .i64 16] from rfl) (Reps.one (show Kd.M (Kd.int .i64) _ _ _ 17 [.int .i64 17] from rfl) (Reps.none _ _))))); intro v203 w12 ho13 hb hg_ hnew_; clear hg_ hnew_; (first | rw [← Ny202.out] at ho13 | (simp only [Int.reduceToNat] at ho13; rw [← Ny202.out] at ho13)); have n0_ := Aside0.mk (Kd.R_below (by (with_reducible repeat (first | apply Kd.R_alloc | apply Kd.R_drewN | apply Kd.R_drew)); exact HO193.out) hb); have n1_ := Aside0.mk (Kd.R_lower ho13 (keep_size (w := w) (g := g) (row := none) (by repeat (first | (with_reducible first | exact HK.out | apply KeepBut.set_ | apply keep_drewN | apply keep_drew | apply keep_alloc) | exact HK.out)))); have n2_ := Aside0.mk (IsS124.below (by repeat (first | (with_reducible first | exact HI0.out | apply IsS124.alloc | apply IsS124.drewN | apply IsS124.drew | apply IsS124.set_1 | apply IsS124.set_2) | exact HI0.out)) hb); have n3_ := Aside0.mk (KeepBut.trans (by repeat (first | (with_reducible first | exact HK.out | apply KeepBut.set_ | apply keep_drewN | apply keep_drew | apply keep_alloc) | exact HK.out)) (KeepBut.of_below hb g none) (.inl rfl)); have n4_ := Aside0.mk (below_step (by repeat (first | (with_reducible first | exact HB.out | apply below_alloc | apply pw_below_drewN | apply below_drew1 | refine below_set ?_ (IsS124.ge HI0.out)) | exact HB.out)) hb); clear HO193; clear HI0; clear HK; clear HB; have HO193 := n0_; have HO204 := n1_; have HI0 := n2_; have HK := n3_; have HB := n4_; clear n0_ n1_ n2_ n3_ n4_; clear hb ho13; obtain ⟨Ao14, co14, eo14⟩ := Kd.R_slice HO204.out; subst eo14) | ((with_reducible refine gate_callee (f := 85) rfl ?_); refine goesL_ (some 36) rfl rfl Try.func85 (by kernel_rfl) rfl #[.pointer (some ⟨g, 0, none⟩), .slice Ao14 y202.length co14] rfl (by (try simp only [List.map_toArray, List.map_cons, List.map_nil]); first | done | rfl | (simp only [List.length_drop, List.length_take]; rfl)) ?_; (with_reducible refine (spec_l1PickInt.calls g s0_0 t200 t201 _ _ y202 t205 t206 t207 w0 _ ?side1 ?side2 ?side3 ?side4 ?side5 A8.out).mono ?_); (case side1 => repeat (first | (with_reducible first | exact HI0.out | apply IsS124.alloc | apply IsS124.drewN | apply IsS124.drew | apply IsS124.set_1 | apply IsS124.set_2) | exact HI0.out)); (case side2 => repeat (first | (with_reducible first | exact HB.out | apply below_alloc | apply pw_below_drewN | apply below_drew1 | refine below_set ?_ (IsS124.ge HI0.out)) | exact HB.out)); (case side3 => repeat (first | exact (Kd.R_reads' HO204.out).2.2 | (with_reducible refine Kd.C_alloc ?_ _) | (with_reducible refine Kd.C_drewN ?_ _) | (with_reducible refine Kd.C_drew ?_))); (case side4 => exact (Kd.R_reads' HO204.out).2.1); (case side5 => exact far_slice (IsS124.own_ne HI0.out HO204.out (by decide))); rintro e w15 ⟨rfl, hi, hb, hk⟩; refine ⟨_, rfl, ?_⟩; have n0_ := Aside0.mk (Kd.R_mono (Kd.R_keep (IsS124.apart (show IsS124 w0 _ g s0_0 t200 t201 from by repeat (first | (with_reducible first | exact HI0.out | apply IsS124.alloc | apply IsS124.drewN | apply IsS124.drew | apply IsS124.set_1 | apply IsS124.set_2) | exact HI0.out)) (by (with_reducible repeat (first | apply Kd.R_alloc | apply Kd.R_drewN | apply Kd.R_drew)); exact HO193.out) (by decide)) hk (fun _ h => h.2)) (fun _ h => h.1)); have n1_ := Aside0.mk (Kd.R_mono (Kd.R_keep (IsS124.apart (show IsS124 w0 _ g s0_0 t200 t201 from by repeat (first | (with_reducible first | exact HI0.out | apply IsS124.alloc | apply IsS124.drewN | apply IsS124.drew | apply IsS124.set_1 | apply IsS124.set_2) | exact HI0.out)) (by (with_reducible repeat (first | apply Kd.R_alloc | apply Kd.R_drewN | apply Kd.R_drew)); exact HO204.out) (by decide)) hk (fun _ h => h.2)) (fun _ h => h.1)); have n2_ := Aside0.mk (KeepBut.trans (by repeat (first | (with_reducible first | exact HK.out | apply KeepBut.set_ | apply keep_drewN | apply keep_drew | apply keep_alloc) | exact HK.out)) hk (.inl rfl)); have n3_ := Aside0.mk (hb); have n4_ := Aside0.mk (hi); clear HO193; clear HO204; clear HK; clear HB; clear HI0; have HO193 := n0_; have HO204 := n1_; have HK := n2_; have HB := n3_; have HI0 := n4_; clear n0_ n1_ n2_ n3_ n4_; (try clear hb); (try clear hb2); (try clear hk); (try clear hi)))
      go_ret2
      exact ⟨_, by first | rfl | (simp [errW_none, errW_some] <;> rfl) | (simp [*, errW_none, errW_some] <;> rfl), by (with_reducible repeat (first | apply Kd.R_alloc | apply Kd.R_drewN | apply Kd.R_drew)); exact HO193.out, by repeat (first | (with_reducible first | exact HI0.out | apply IsS124.alloc | apply IsS124.drewN | apply IsS124.drew | apply IsS124.set_1 | apply IsS124.set_2) | exact HI0.out), by repeat (first | (with_reducible first | exact HB.out | apply below_alloc | apply pw_below_drewN | apply below_drew1 | refine below_set ?_ (IsS124.ge HI0.out)) | exact HB.out), by repeat (first | (with_reducible first | exact HK.out | apply KeepBut.set_ | apply keep_drewN | apply keep_drew | apply keep_alloc) | exact HK.out)⟩
    · rw [if_neg c7] at H
      have c7b0 : (t199 == 0) = false := beq_eq_false_iff_ne.mpr c7
      have c7b1 : (t199 != 0) = true := bne_iff_ne.mpr c7
      by_cases c16 : t199 = 1
      · rw [if_pos c16] at H
        have c16b0 : (t199 == 1) = true := beq_iff_eq.mpr c16
        have c16b1 : (t199 != 1) = false := bne_eq_false_iff_eq.mpr c16
        clear c16
        by_cases c17 : t191.length < 8796093022208
        · rw [if_pos c17] at H
          have LMc17 := Aside0.mk c17
          clear c17
          obtain ⟨y208, hy208⟩ : ∃ y_ : List (S60), y_ = (t191 ++ [(⟨0, t190⟩ : S60)]) := ⟨_, rfl⟩
          replace H : (some (t190, y208, t200, t201)) = some (r1, r2, r3, r4) := by first | (rw [hy208]; with_reducible exact H) | (have H2_ := (Option.bind_some _ _).symm.trans H; rw [hy208]; with_reducible exact H2_) | (have H2_ := (Option.bind_some _ _).symm.trans H; with_reducible exact H2_) | with_reducible exact H | (rw [hy208]; exact H) | exact H
          have Ny208 := Aside0.mk hy208
          clear hy208
          simp only [Option.some.injEq, Prod.mk.injEq] at H
          obtain ⟨rfl, rfl, rfl, rfl⟩ := H
          go_enter Try.func72, Try.ntmps72
          go_wp2_with (first | ((with_reducible refine gate_callee (f := 93) rfl ?_); refine goesL_ (some 11) rfl rfl Try.func93 (by kernel_rfl) rfl #[.pointer (some ⟨g, 0, none⟩), .int .i64 a1] rfl (by (try simp only [List.map_toArray, List.map_cons, List.map_nil]); first | done | rfl | (simp only [List.length_drop, List.length_take]; rfl)) ?_; (with_reducible refine (spec_l14Graph.calls k g s0_0 s0_1 s0_2 a1 t190 t191 t194 t195 w0 _ ?side1 ?side2 A3.out).mono ?_); (case side1 => repeat (first | (with_reducible first | exact HI0.out | apply IsS124.alloc | apply IsS124.drewN | apply IsS124.drew | apply IsS124.set_1 | apply IsS124.set_2) | exact HI0.out)); (case side2 => repeat (first | (with_reducible first | exact HB.out | apply below_alloc | apply pw_below_drewN | apply below_drew1 | refine below_set ?_ (IsS124.ge HI0.out)) | exact HB.out)); rintro e w18 ⟨v192, rfl, ho0, hi, hb, hk⟩; refine ⟨_, rfl, ?_⟩; have n0_ := Aside0.mk (Kd.R_lower ho0 (keep_size (w := w) (g := g) (row := none) (by repeat (first | (with_reducible first | exact HK.out | apply KeepBut.set_ | apply keep_drewN | apply keep_drew | apply keep_alloc) | exact HK.out)))); have n1_ := Aside0.mk (KeepBut.trans (by repeat (first | (with_reducible first | exact HK.out | apply KeepBut.set_ | apply keep_drewN | apply keep_drew | apply keep_alloc) | exact HK.out)) hk (.inl rfl)); have n2_ := Aside0.mk (hb); have n3_ := Aside0.mk (hi); clear HK; clear HB; clear HI0; have HO193 := n0_; have HK := n1_; have HB := n2_; have HI0 := n3_; clear n0_ n1_ n2_ n3_; (try clear hb); (try clear hb2); (try clear hk); (try clear hi); (try clear ho0)) | ((with_reducible refine gate_callee (f := 75) rfl ?_); refine goesL_ (some 15) rfl rfl Try.func75 (by kernel_rfl) rfl #[.pointer (some ⟨g, 0, none⟩), .int .i64 12] rfl (by (try simp only [List.map_toArray, List.map_cons, List.map_nil]); first | done | rfl | (simp only [List.length_drop, List.length_take]; rfl)) ?_; (with_reducible refine (spec_l1Once.calls g s0_0 t194 t195 12 true t197 t198 w0 _ ?side1 ?side2 A4.out).mono ?_); (case side1 => repeat (first | (with_reducible first | exact HI0.out | apply IsS124.alloc | apply IsS124.drewN | apply IsS124.drew | apply IsS124.set_1 | apply IsS124.set_2) | exact HI0.out)); (case side2 => repeat (first | (with_reducible first | exact HB.out | apply below_alloc | apply pw_below_drewN | apply below_drew1 | refine below_set ?_ (IsS124.ge HI0.out)) | exact HB.out)); rintro e w19 ⟨rfl, hi, hb, hk⟩; refine ⟨_, rfl, ?_⟩; have n0_ := Aside0.mk (Kd.R_mono (Kd.R_keep (IsS124.apart (show IsS124 w0 _ g s0_0 t194 t195 from by repeat (first | (with_reducible first | exact HI0.out | apply IsS124.alloc | apply IsS124.drewN | apply IsS124.drew | apply IsS124.set_1 | apply IsS124.set_2) | exact HI0.out)) (by (with_reducible repeat (first | apply Kd.R_alloc | apply Kd.R_drewN | apply Kd.R_drew)); exact HO193.out) (by decide)) hk (fun _ h => h.2)) (fun _ h => h.1)); have n1_ := Aside0.mk (KeepBut.trans (by repeat (first | (with_reducible first | exact HK.out | apply KeepBut.set_ | apply keep_drewN | apply keep_drew | apply keep_alloc) | exact HK.out)) hk (.inl rfl)); have n2_ := Aside0.mk (hb); have n3_ := Aside0.mk (hi); clear HO193; clear HK; clear HB; clear HI0; have HO193 := n0_; have HK := n1_; have HB := n2_; have HI0 := n3_; clear n0_ n1_ n2_ n3_; (try clear hb); (try clear hb2); (try clear hk); (try clear hi)) | ((with_reducible refine gate_callee (f := 74) rfl ?_); refine goesL_ (some 17) rfl rfl Try.func74 (by kernel_rfl) rfl #[.pointer (some ⟨g, 0, none⟩), .int .i64 4] rfl (by (try simp only [List.map_toArray, List.map_cons, List.map_nil]); first | done | rfl | (simp only [List.length_drop, List.length_take]; rfl)) ?_; (with_reducible refine (spec_l1Below.calls g s0_0 t197 t198 4 t199 t200 t201 w0 _ ?side1 ?side2 A6.out).mono ?_); (case side1 => repeat (first | (with_reducible first | exact HI0.out | apply IsS124.alloc | apply IsS124.drewN | apply IsS124.drew | apply IsS124.set_1 | apply IsS124.set_2) | exact HI0.out)); (case side2 => repeat (first | (with_reducible first | exact HB.out | apply below_alloc | apply pw_below_drewN | apply below_drew1 | refine below_set ?_ (IsS124.ge HI0.out)) | exact HB.out)); rintro e w20 ⟨rfl, hi, hb, hk⟩; refine ⟨_, rfl, ?_⟩; have n0_ := Aside0.mk (Kd.R_mono (Kd.R_keep (IsS124.apart (show IsS124 w0 _ g s0_0 t197 t198 from by repeat (first | (with_reducible first | exact HI0.out | apply IsS124.alloc | apply IsS124.drewN | apply IsS124.drew | apply IsS124.set_1 | apply IsS124.set_2) | exact HI0.out)) (by (with_reducible repeat (first | apply Kd.R_alloc | apply Kd.R_drewN | apply Kd.R_drew)); exact HO193.out) (by decide)) hk (fun _ h => h.2)) (fun _ h => h.1)); have n1_ := Aside0.mk (KeepBut.trans (by repeat (first | (with_reducible first | exact HK.out | apply KeepBut.set_ | apply keep_drewN | apply keep_drew | apply keep_alloc) | exact HK.out)) hk (.inl rfl)); have n2_ := Aside0.mk (hb); have n3_ := Aside0.mk (hi); clear HO193; clear HK; clear HB; clear HI0; have HO193 := n0_; have HK := n1_; have HB := n2_; have HI0 := n3_; clear n0_ n1_ n2_ n3_; (try clear hb); (try clear hb2); (try clear hk); (try clear hi)) | ((with_reducible refine gate_builtin (b := .append) (xs := #[.tmp 39, .tmp 42]) rfl ?_); at_builtin; refine Kd.R_append k60 w.heap.size rfl (.tmp 39) (.tmp 42) 25 60 (.agg #[(.int .i64 0), (.int .i64 0)]) 16 rfl Try.underlying25 info60 rfl (by decide) (by omega) v192 t191 (⟨0, t190⟩ : S60) [.int .i64 0, .int .i64 t190] (fun _ => True) (fun _ => False) rfl rfl ?aP (fun _ hk => hk.elim) ?aF ?aO (Below.refl _ _) ?aS ?aL ?_; (case aP => exact k60_mkM _ _ _ (⟨0, t190⟩ : S60)); (case aF => exact (fun _ _ => trivial)); (case aO => exact (by (with_reducible repeat (first | apply Kd.R_alloc | apply Kd.R_drewN | apply Kd.R_drew)); exact HO193.out)); (case aS => exact (keep_size (w := w) (g := g) (row := none) (by repeat (first | (with_reducible first | exact HK.out | apply KeepBut.set_ | apply keep_drewN | apply keep_drew | apply keep_alloc) | exact HK.out)))); (case aL => have := LMc17.out; omega); intro v209 w21 ho hb hg hat; rw [← Ny208.out] at ho; have n0_ := Aside0.mk (IsS124.grown (by repeat (first | (with_reducible first | exact HI0.out | apply IsS124.alloc | apply IsS124.drewN | apply IsS124.drew | apply IsS124.set_1 | apply IsS124.set_2) | exact HI0.out)) hg (IsS124.own_ne HI0.out HO193.out (by decide))); have n1_ := Aside0.mk (below_weaken (by repeat (first | (with_reducible first | exact HB.out | apply below_alloc | apply pw_below_drewN | apply below_drew1 | refine below_set ?_ (IsS124.ge HI0.out)) | exact HB.out)) HL.out hb); have n2_ := Aside0.mk (KeepBut.trans (by repeat (first | (with_reducible first | exact HK.out | apply KeepBut.set_ | apply keep_drewN | apply keep_drew | apply keep_alloc) | exact HK.out)) (KeepBut.of_grown hg g) (Kd.R_base2 HO193.out)); have n3_ := Aside0.mk (ho); clear HI0; clear HB; clear HK; clear HO193; have HI0 := n0_; have HB := n1_; have HK := n2_; have HO210 := n3_; clear n0_ n1_ n2_ n3_; clear ho hb hg hat))
          go_ret2
          exact ⟨_, by first | rfl | (simp [errW_none, errW_some] <;> rfl) | (simp [*, errW_none, errW_some] <;> rfl), by (with_reducible repeat (first | apply Kd.R_alloc | apply Kd.R_drewN | apply Kd.R_drew)); exact HO210.out, by repeat (first | (with_reducible first | exact HI0.out | apply IsS124.alloc | apply IsS124.drewN | apply IsS124.drew | apply IsS124.set_1 | apply IsS124.set_2) | exact HI0.out), by repeat (first | (with_reducible first | exact HB.out | apply below_alloc | apply pw_below_drewN | apply below_drew1 | refine below_set ?_ (IsS124.ge HI0.out)) | exact HB.out), by repeat (first | (with_reducible first | exact HK.out | apply KeepBut.set_ | apply keep_drewN | apply keep_drew | apply keep_alloc) | exact HK.out)⟩
        · rw [if_neg c17] at H
          exact absurd H (by simp)
      · rw [if_neg c16] at H
        have c16b0 : (t199 == 1) = false := beq_eq_false_iff_ne.mpr c16
        have c16b1 : (t199 != 1) = true := bne_iff_ne.mpr c16
        by_cases c22 : t199 = 2
        · rw [if_pos c22] at H
          have c22b0 : (t199 == 2) = true := beq_iff_eq.mpr c22
          have c22b1 : (t199 != 2) = false := bne_eq_false_iff_eq.mpr c22
          clear c22
          by_cases c23 : t191.length < 8796093022208
          · rw [if_pos c23] at H
            have LMc23 := Aside0.mk c23
            clear c23
            obtain ⟨y211, hy211⟩ : ∃ y_ : List (S60), y_ = (t191 ++ [(⟨(-1), 0⟩ : S60)]) := ⟨_, rfl⟩
            replace H : (some (t190, y211, t200, t201)) = some (r1, r2, r3, r4) := by first | (rw [hy211]; with_reducible exact H) | (have H2_ := (Option.bind_some _ _).symm.trans H; rw [hy211]; with_reducible exact H2_) | (have H2_ := (Option.bind_some _ _).symm.trans H; with_reducible exact H2_) | with_reducible exact H | (rw [hy211]; exact H) | exact H
            have Ny211 := Aside0.mk hy211
            clear hy211
            simp only [Option.some.injEq, Prod.mk.injEq] at H
            obtain ⟨rfl, rfl, rfl, rfl⟩ := H
            go_enter Try.func72, Try.ntmps72
            go_wp2_with (first | ((with_reducible refine gate_callee (f := 93) rfl ?_); refine goesL_ (some 11) rfl rfl Try.func93 (by kernel_rfl) rfl #[.pointer (some ⟨g, 0, none⟩), .int .i64 a1] rfl (by (try simp only [List.map_toArray, List.map_cons, List.map_nil]); first | done | rfl | (simp only [List.length_drop, List.length_take]; rfl)) ?_; (with_reducible refine (spec_l14Graph.calls k g s0_0 s0_1 s0_2 a1 t190 t191 t194 t195 w0 _ ?side1 ?side2 A3.out).mono ?_); (case side1 => repeat (first | (with_reducible first | exact HI0.out | apply IsS124.alloc | apply IsS124.drewN | apply IsS124.drew | apply IsS124.set_1 | apply IsS124.set_2) | exact HI0.out)); (case side2 => repeat (first | (with_reducible first | exact HB.out | apply below_alloc | apply pw_below_drewN | apply below_drew1 | refine below_set ?_ (IsS124.ge HI0.out)) | exact HB.out)); rintro e w24 ⟨v192, rfl, ho0, hi, hb, hk⟩; refine ⟨_, rfl, ?_⟩; have n0_ := Aside0.mk (Kd.R_lower ho0 (keep_size (w := w) (g := g) (row := none) (by repeat (first | (with_reducible first | exact HK.out | apply KeepBut.set_ | apply keep_drewN | apply keep_drew | apply keep_alloc) | exact HK.out)))); have n1_ := Aside0.mk (KeepBut.trans (by repeat (first | (with_reducible first | exact HK.out | apply KeepBut.set_ | apply keep_drewN | apply keep_drew | apply keep_alloc) | exact HK.out)) hk (.inl rfl)); have n2_ := Aside0.mk (hb); have n3_ := Aside0.mk (hi); clear HK; clear HB; clear HI0; have HO193 := n0_; have HK := n1_; have HB := n2_; have HI0 := n3_; clear n0_ n1_ n2_ n3_; (try clear hb); (try clear hb2); (try clear hk); (try clear hi); (try clear ho0)) | ((with_reducible refine gate_callee (f := 75) rfl ?_); refine goesL_ (some 15) rfl rfl Try.func75 (by kernel_rfl) rfl #[.pointer (some ⟨g, 0, none⟩), .int .i64 12] rfl (by (try simp only [List.map_toArray, List.map_cons, List.map_nil]); first | done | rfl | (simp only [List.length_drop, List.length_take]; rfl)) ?_; (with_reducible refine (spec_l1Once.calls g s0_0 t194 t195 12 true t197 t198 w0 _ ?side1 ?side2 A4.out).mono ?_); (case side1 => repeat (first | (with_reducible first | exact HI0.out | apply IsS124.alloc | apply IsS124.drewN | apply IsS124.drew | apply IsS124.set_1 | apply IsS124.set_2) | exact HI0.out)); (case side2 => repeat (first | (with_reducible first | exact HB.out | apply below_alloc | apply pw_below_drewN | apply below_drew1 | refine below_set ?_ (IsS124.ge HI0.out)) | exact HB.out)); rintro e w25 ⟨rfl, hi, hb, hk⟩; refine ⟨_, rfl, ?_⟩; have n0_ := Aside0.mk (Kd.R_mono (Kd.R_keep (IsS124.apart (show IsS124 w0 _ g s0_0 t194 t195 from by repeat (first | (with_reducible first | exact HI0.out | apply IsS124.alloc | apply IsS124.drewN | apply IsS124.drew | apply IsS124.set_1 | apply IsS124.set_2) | exact HI0.out)) (by (with_reducible repeat (first | apply Kd.R_alloc | apply Kd.R_drewN | apply Kd.R_drew)); exact HO193.out) (by decide)) hk (fun _ h => h.2)) (fun _ h => h.1)); have n1_ := Aside0.mk (KeepBut.trans (by repeat (first | (with_reducible first | exact HK.out | apply KeepBut.set_ | apply keep_drewN | apply keep_drew | apply keep_alloc) | exact HK.out)) hk (.inl rfl)); have n2_ := Aside0.mk (hb); have n3_ := Aside0.mk (hi); clear HO193; clear HK; clear HB; clear HI0; have HO193 := n0_; have HK := n1_; have HB := n2_; have HI0 := n3_; clear n0_ n1_ n2_ n3_; (try clear hb); (try clear hb2); (try clear hk); (try clear hi)) | ((with_reducible refine gate_callee (f := 74) rfl ?_); refine goesL_ (some 17) rfl rfl Try.func74 (by kernel_rfl) rfl #[.pointer (some ⟨g, 0, none⟩), .int .i64 4] rfl (by (try simp only [List.map_toArray, List.map_cons, List.map_nil]); first | done | rfl | (simp only [List.length_drop, List.length_take]; rfl)) ?_; (with_reducible refine (spec_l1Below.calls g s0_0 t197 t198 4 t199 t200 t201 w0 _ ?side1 ?side2 A6.out).mono ?_); (case side1 => repeat (first | (with_reducible first | exact HI0.out | apply IsS124.alloc | apply IsS124.drewN | apply IsS124.drew | apply IsS124.set_1 | apply IsS124.set_2) | exact HI0.out)); (case side2 => repeat (first | (with_reducible first | exact HB.out | apply below_alloc | apply pw_below_drewN | apply below_drew1 | refine below_set ?_ (IsS124.ge HI0.out)) | exact HB.out)); rintro e w26 ⟨rfl, hi, hb, hk⟩; refine ⟨_, rfl, ?_⟩; have n0_ := Aside0.mk (Kd.R_mono (Kd.R_keep (IsS124.apart (show IsS124 w0 _ g s0_0 t197 t198 from by repeat (first | (with_reducible first | exact HI0.out | apply IsS124.alloc | apply IsS124.drewN | apply IsS124.drew | apply IsS124.set_1 | apply IsS124.set_2) | exact HI0.out)) (by (with_reducible repeat (first | apply Kd.R_alloc | apply Kd.R_drewN | apply Kd.R_drew)); exact HO193.out) (by decide)) hk (fun _ h => h.2)) (fun _ h => h.1)); have n1_ := Aside0.mk (KeepBut.trans (by repeat (first | (with_reducible first | exact HK.out | apply KeepBut.set_ | apply keep_drewN | apply keep_drew | apply keep_alloc) | exact HK.out)) hk (.inl rfl)); have n2_ := Aside0.mk (hb); have n3_ := Aside0.mk (hi); clear HO193; clear HK; clear HB; clear HI0; have HO193 := n0_; have HK := n1_; have HB := n2_; have HI0 := n3_; clear n0_ n1_ n2_ n3_; (try clear hb); (try clear hb2); (try clear hk); (try clear hi)) | ((with_reducible refine gate_builtin (b := .append) (xs := #[.tmp 46, .tmp 48]) rfl ?_); at_builtin; refine Kd.R_append k60 w.heap.size rfl (.tmp 46) (.tmp 48) 25 60 (.agg #[(.int .i64 0), (.int .i64 0)]) 16 rfl Try.underlying25 info60 rfl (by decide) (by omega) v192 t191 (⟨(-1), 0⟩ : S60) [.int .i64 (-1), .int .i64 0] (fun _ => True) (fun _ => False) rfl rfl ?aP (fun _ hk => hk.elim) ?aF ?aO (Below.refl _ _) ?aS ?aL ?_; (case aP => exact k60_mkM _ _ _ (⟨(-1), 0⟩ : S60)); (case aF => exact (fun _ _ => trivial)); (case aO => exact (by (with_reducible repeat (first | apply Kd.R_alloc | apply Kd.R_drewN | apply Kd.R_drew)); exact HO193.out)); (case aS => exact (keep_size (w := w) (g := g) (row := none) (by repeat (first | (with_reducible first | exact HK.out | apply KeepBut.set_ | apply keep_drewN | apply keep_drew | apply keep_alloc) | exact HK.out)))); (case aL => have := LMc23.out; omega); intro v212 w27 ho hb hg hat; rw [← Ny211.out] at ho; have n0_ := Aside0.mk (IsS124.grown (by repeat (first | (with_reducible first | exact HI0.out | apply IsS124.alloc | apply IsS124.drewN | apply IsS124.drew | apply IsS124.set_1 | apply IsS124.set_2) | exact HI0.out)) hg (IsS124.own_ne HI0.out HO193.out (by decide))); have n1_ := Aside0.mk (below_weaken (by repeat (first | (with_reducible first | exact HB.out | apply below_alloc | apply pw_below_drewN | apply below_drew1 | refine below_set ?_ (IsS124.ge HI0.out)) | exact HB.out)) HL.out hb); have n2_ := Aside0.mk (KeepBut.trans (by repeat (first | (with_reducible first | exact HK.out | apply KeepBut.set_ | apply keep_drewN | apply keep_drew | apply keep_alloc) | exact HK.out)) (KeepBut.of_grown hg g) (Kd.R_base2 HO193.out)); have n3_ := Aside0.mk (ho); clear HI0; clear HB; clear HK; clear HO193; have HI0 := n0_; have HB := n1_; have HK := n2_; have HO213 := n3_; clear n0_ n1_ n2_ n3_; clear ho hb hg hat))
            go_ret2
            exact ⟨_, by first | rfl | (simp [errW_none, errW_some] <;> rfl) | (simp [*, errW_none, errW_some] <;> rfl), by (with_reducible repeat (first | apply Kd.R_alloc | apply Kd.R_drewN | apply Kd.R_drew)); exact HO213.out, by repeat (first | (with_reducible first | exact HI0.out | apply IsS124.alloc | apply IsS124.drewN | apply IsS124.drew | apply IsS124.set_1 | apply IsS124.set_2) | exact HI0.out), by repeat (first | (with_reducible first | exact HB.out | apply below_alloc | apply pw_below_drewN | apply below_drew1 | refine below_set ?_ (IsS124.ge HI0.out)) | exact HB.out), by repeat (first | (with_reducible first | exact HK.out | apply KeepBut.set_ | apply keep_drewN | apply keep_drew | apply keep_alloc) | exact HK.out)⟩
          · rw [if_neg c23] at H
            exact absurd H (by simp)
        · rw [if_neg c22] at H
          have c22b0 : (t199 == 2) = false := beq_eq_false_iff_ne.mpr c22
          have c22b1 : (t199 != 2) = true := bne_iff_ne.mpr c22
          have H' := Aside0.mk H
          clear H
          go_enter Try.func72, Try.ntmps72
          go_wp2_with (first | ((with_reducible refine gate_callee (f := 93) rfl ?_); refine goesL_ (some 11) rfl rfl Try.func93 (by kernel_rfl) rfl #[.pointer (some ⟨g, 0, none⟩), .int .i64 a1] rfl (by (try simp only [List.map_toArray, List.map_cons, List.map_nil]); first | done | rfl | (simp only [List.length_drop, List.length_take]; rfl)) ?_; (with_reducible refine (spec_l14Graph.calls k g s0_0 s0_1 s0_2 a1 t190 t191 t194 t195 w0 _ ?side1 ?side2 A3.out).mono ?_); (case side1 => repeat (first | (with_reducible first | exact HI0.out | apply IsS124.alloc | apply IsS124.drewN | apply IsS124.drew | apply IsS124.set_1 | apply IsS124.set_2) | exact HI0.out)); (case side2 => repeat (first | (with_reducible first | exact HB.out | apply below_alloc | apply pw_below_drewN | apply below_drew1 | refine below_set ?_ (IsS124.ge HI0.out)) | exact HB.out)); rintro e w28 ⟨v192, rfl, ho0, hi, hb, hk⟩; refine ⟨_, rfl, ?_⟩; have n0_ := Aside0.mk (Kd.R_lower ho0 (keep_size (w := w) (g := g) (row := none) (by repeat (first | (with_reducible first | exact HK.out | apply KeepBut.set_ | apply keep_drewN | apply keep_drew | apply keep_alloc) | exact HK.out)))); have n1_ := Aside0.mk (KeepBut.trans (by repeat (first | (with_reducible first | exact HK.out | apply KeepBut.set_ | apply keep_drewN | apply keep_drew | apply keep_alloc) | exact HK.out)) hk (.inl rfl)); have n2_ := Aside0.mk (hb); have n3_ := Aside0.mk (hi); clear HK; clear HB; clear HI0; have HO193 := n0_; have HK := n1_; have HB := n2_; have HI0 := n3_; clear n0_ n1_ n2_ n3_; (try clear hb); (try clear hb2); (try clear hk); (try clear hi); (try clear ho0)) | ((with_reducible refine gate_callee (f := 75) rfl ?_); refine goesL_ (some 15) rfl rfl Try.func75 (by kernel_rfl) rfl #[.pointer (some ⟨g, 0, none⟩), .int .i64 12] rfl (by (try simp only [List.map_toArray, List.map_cons, List.map_nil]); first | done | rfl | (simp only [List.length_drop, List.length_take]; rfl)) ?_; (with_reducible refine (spec_l1Once.calls g s0_0 t194 t195 12 true t197 t198 w0 _ ?side1 ?side2 A4.out).mono ?_); (case side1 => repeat (first | (with_reducible first | exact HI0.out | apply IsS124.alloc | apply IsS124.drewN | apply IsS124.drew | apply IsS124.set_1 | apply IsS124.set_2) | exact HI0.out)); (case side2 => repeat (first | (with_reducible first | exact HB.out | apply below_alloc | apply pw_below_drewN | apply below_drew1 | refine below_set ?_ (IsS124.ge HI0.out)) | exact HB.out)); rintro e w29 ⟨rfl, hi, hb, hk⟩; refine ⟨_, rfl, ?_⟩; have n0_ := Aside0.mk (Kd.R_mono (Kd.R_keep (IsS124.apart (show IsS124 w0 _ g s0_0 t194 t195 from by repeat (first | (with_reducible first | exact HI0.out | apply IsS124.alloc | apply IsS124.drewN | apply IsS124.drew | apply IsS124.set_1 | apply IsS124.set_2) | exact HI0.out)) (by (with_reducible repeat (first | apply Kd.R_alloc | apply Kd.R_drewN | apply Kd.R_drew)); exact HO193.out) (by decide)) hk (fun _ h => h.2)) (fun _ h => h.1)); have n1_ := Aside0.mk (KeepBut.trans (by repeat (first | (with_reducible first | exact HK.out | apply KeepBut.set_ | apply keep_drewN | apply keep_drew | apply keep_alloc) | exact HK.out)) hk (.inl rfl)); have n2_ := Aside0.mk (hb); have n3_ := Aside0.mk (hi); clear HO193; clear HK; clear HB; clear HI0; have HO193 := n0_; have HK := n1_; have HB := n2_; have HI0 := n3_; clear n0_ n1_ n2_ n3_; (try clear hb); (try clear hb2); (try clear hk); (try clear hi)) | ((with_reducible refine gate_callee (f := 74) rfl ?_); refine goesL_ (some 17) rfl rfl Try.func74 (by kernel_rfl) rfl #[.pointer (some ⟨g, 0, none⟩), .int .i64 4] rfl (by (try simp only [List.map_toArray, List.map_cons, List.map_nil]); first | done | rfl | (simp only [List.length_drop, List.length_take]; rfl)) ?_; (with_reducible refine (spec_l1Below.calls g s0_0 t197 t198 4 t199 t200 t201 w0 _ ?side1 ?side2 A6.out).mono ?_); (case side1 => repeat (first | (with_reducible first | exact HI0.out | apply IsS124.alloc | apply IsS124.drewN | apply IsS124.drew | apply IsS124.set_1 | apply IsS124.set_2) | exact HI0.out)); (case side2 => repeat (first | (with_reducible first | exact HB.out | apply below_alloc | apply pw_below_drewN | apply below_drew1 | refine below_set ?_ (IsS124.ge HI0.out)) | exact HB.out)); rintro e w30 ⟨rfl, hi, hb, hk⟩; refine ⟨_, rfl, ?_⟩; have n0_ := Aside0.mk (Kd.R_mono (Kd.R_keep (IsS124.apart (show IsS124 w0 _ g s0_0 t197 t198 from by repeat (first | (with_reducible first | exact HI0.out | apply IsS124.alloc | apply IsS124.drewN | apply IsS124.drew | apply IsS124.set_1 | apply IsS124.set_2) | exact HI0.out)) (by (with_reducible repeat (first | apply Kd.R_alloc | apply Kd.R_drewN | apply Kd.R_drew)); exact HO193.out) (by decide)) hk (fun _ h => h.2)) (fun _ h => h.1)); have n1_ := Aside0.mk (KeepBut.trans (by repeat (first | (with_reducible first | exact HK.out | apply KeepBut.set_ | apply keep_drewN | apply keep_drew | apply keep_alloc) | exact HK.out)) hk (.inl rfl)); have n2_ := Aside0.mk (hb); have n3_ := Aside0.mk (hi); clear HO193; clear HK; clear HB; clear HI0; have HO193 := n0_; have HK := n1_; have HB := n2_; have HI0 := n3_; clear n0_ n1_ n2_ n3_; (try clear hb); (try clear hb2); (try clear hk); (try clear hi)))
          go_loopg [7] k (fun kq v7 w' => ∃ (x7_1 : List (S60)) (x1001_1 : Int) (x1002_1 : Int), Aside0 (spec_l14Some.l0 kq t190 x7_1 s0_0 x1001_1 x1002_1 = some (r1, r2, r3, r4)) ∧ Aside0 (kq ≤ k) ∧ Aside0 (Kd.R k60 60 w' w.heap.size (fun _ => True) v7 x7_1) ∧ Aside0 (IsS124 w0 w' g s0_0 x1001_1 x1002_1) ∧ Aside0 (KeepBut w w' g none) ∧ Aside0 (Below w0.heap.size w0 w'))
          case atStart => exact ⟨(t191), (t200), (t201), H', ⟨Nat.le_refl _⟩, ⟨by (with_reducible repeat (first | apply Kd.R_alloc | apply Kd.R_drewN | apply Kd.R_drew)); exact HO193.out⟩, ⟨by repeat (first | (with_reducible first | exact HI0.out | apply IsS124.alloc | apply IsS124.drewN | apply IsS124.drew | apply IsS124.set_1 | apply IsS124.set_2) | exact HI0.out)⟩, ⟨by repeat (first | (with_reducible first | exact HK.out | apply KeepBut.set_ | apply keep_drewN | apply keep_drew | apply keep_alloc) | exact HK.out)⟩, ⟨by repeat (first | (with_reducible first | exact HB.out | apply below_alloc | apply pw_below_drewN | apply below_drew1 | refine below_set ?_ (IsS124.ge HI0.out)) | exact HB.out)⟩⟩
          case round =>
            clear H'
            try clear c1
            try clear c2
            try clear p2
            try clear c5
            try clear c7
            try clear c7b0
            try clear c7b1
            try clear c8
            try clear c9
            try clear c16
            try clear c16b0
            try clear c16b1
            try clear c17
            try clear c22
            try clear c22b0
            try clear c22b1
            try clear c23
            obtain ⟨x7_1, x1001_1, x1002_1, HA, HK1, HO_7, HI0, HK, HB⟩ := hrel
            cases gk with
            | zero => exact absurd HA.out (by simp [spec_l14Some.l0])
            | succ k1 =>
              have H := HA.out
              clear HA
              simp only [spec_l14Some.l0] at H
              replace H := Option.bind_eq_some_iff.mp H
              obtain ⟨⟨t214, t215, t216⟩, A310, H⟩ := H
              replace H : (if (x7_1.length : Int) < (wrap64 (200 + t214)) then (if t190 > 1 then (if x7_1.length < 8796093022208 then (spec_l14Some.l0 k1 t190 (x7_1 ++ [(⟨0, 1⟩ : S60)]) s0_0 t215 t216) else (none)) else (some (t190, x7_1, t215, t216))) else (some (t190, x7_1, t215, t216))) = some (r1, r2, r3, r4) := H
              have A31 := Aside0.mk A310
              clear A310
              by_cases c32 : (x7_1.length : Int) < (wrap64 (200 + t214))
              · rw [if_pos c32] at H
                have c32b0 : decide ((x7_1.length : Int) < (wrap64 (200 + t214))) = true := decide_eq_true c32
                clear c32
                by_cases c33 : t190 > 1
                · rw [if_pos c33] at H
                  have c33b0 : decide (1 < t190) = true := decide_eq_true c33
                  clear c33
                  by_cases c34 : x7_1.length < 8796093022208
                  · rw [if_pos c34] at H
                    have LMc34 := Aside0.mk c34
                    clear c34
                    obtain ⟨y217, hy217⟩ : ∃ y_ : List (S60), y_ = (x7_1 ++ [(⟨0, 1⟩ : S60)]) := ⟨_, rfl⟩
                    replace H : (spec_l14Some.l0 k1 t190 y217 s0_0 t215 t216) = some (r1, r2, r3, r4) := by first | (rw [hy217]; with_reducible exact H) | (have H2_ := (Option.bind_some _ _).symm.trans H; rw [hy217]; with_reducible exact H2_) | (have H2_ := (Option.bind_some _ _).symm.trans H; with_reducible exact H2_) | with_reducible exact H | (rw [hy217]; exact H) | exact H
                    have Ny217 := Aside0.mk hy217
                    clear hy217
                    have H' := Aside0.mk H
                    clear H
                    obtain ⟨Ao35, co35, eo35⟩ := Kd.R_slice HO_7.out
                    subst eo35
                    go_wp2_with (first | ((with_reducible refine gate_callee (f := 74) rfl ?_); refine goesL_ (some 21) rfl rfl Try.func74 (by kernel_rfl) rfl #[.pointer (some ⟨g, 0, none⟩), .int .i64 2] rfl (by (try simp only [List.map_toArray, List.map_cons, List.map_nil]); first | done | rfl | (simp only [List.length_drop, List.length_take]; rfl)) ?_; (with_reducible refine (spec_l1Below.calls g s0_0 x1001_1 x1002_1 2 t214 t215 t216 w0 _ ?side1 ?side2 A31.out).mono ?_); (case side1 => repeat (first | (with_reducible first | exact HI0.out | apply IsS124.alloc | apply IsS124.drewN | apply IsS124.drew | apply IsS124.set_1 | apply IsS124.set_2) | exact HI0.out)); (case side2 => repeat (first | (with_reducible first | exact HB.out | apply below_alloc | apply pw_below_drewN | apply below_drew1 | refine below_set ?_ (IsS124.ge HI0.out)) | exact HB.out)); rintro e w36 ⟨rfl, hi, hb, hk⟩; refine ⟨_, rfl, ?_⟩; have n0_ := Aside0.mk (Kd.R_mono (Kd.R_keep (IsS124.apart (show IsS124 w0 _ g s0_0 x1001_1 x1002_1 from by repeat (first | (with_reducible first | exact HI0.out | apply IsS124.alloc | apply IsS124.drewN | apply IsS124.drew | apply IsS124.set_1 | apply IsS124.set_2) | exact HI0.out)) (by (with_reducible repeat (first | apply Kd.R_alloc | apply Kd.R_drewN | apply Kd.R_drew)); exact HO_7.out) (by decide)) hk (fun _ h => h.2)) (fun _ h => h.1)); have n1_ := Aside0.mk (KeepBut.trans (by repeat (first | (with_reducible first | exact HK.out | apply KeepBut.set_ | apply keep_drewN | apply keep_drew | apply keep_alloc) | exact HK.out)) hk (.inl rfl)); have n2_ := Aside0.mk (hb); have n3_ := Aside0.mk (hi); clear HO_7; clear HK; clear HB; clear HI0; have HO_7 := n0_; have HK := n1_; have HB := n2_; have HI0 := n3_; clear n0_ n1_ n2_ n3_; (try clear hb); (try clear hb2); (try clear hk); (try clear hi)) | ((with_reducible refine gate_builtin (b := .append) (xs := #[.tmp 28, .tmp 30]) rfl ?_); at_builtin; refine Kd.R_append k60 w.heap.size rfl (.tmp 28) (.tmp 30) 25 60 (.agg #[(.int .i64 0), (.int .i64 0)]) 16 rfl Try.underlying25 info60 rfl (by decide) (by omega) (.slice Ao35 x7_1.length co35) x7_1 (⟨0, 1⟩ : S60) [.int .i64 0, .int .i64 1] (fun _ => True) (fun _ => False) rfl rfl ?aP (fun _ hk => hk.elim) ?aF ?aO (Below.refl _ _) ?aS ?aL ?_; (case aP => exact k60_mkM _ _ _ (⟨0, 1⟩ : S60)); (case aF => exact (fun _ _ => trivial)); (case aO => exact (by (with_reducible repeat (first | apply Kd.R_alloc | apply Kd.R_drewN | apply Kd.R_drew)); exact HO_7.out)); (case aS => exact (keep_size (w := w) (g := g) (row := none) (by repeat (first | (with_reducible first | exact HK.out | apply KeepBut.set_ | apply keep_drewN | apply keep_drew | apply keep_alloc) | exact HK.out)))); (case aL => have := LMc34.out; omega); intro v218 w37 ho hb hg hat; rw [← Ny217.out] at ho; have n0_ := Aside0.mk (IsS124.grown (by repeat (first | (with_reducible first | exact HI0.out | apply IsS124.alloc | apply IsS124.drewN | apply IsS124.drew | apply IsS124.set_1 | apply IsS124.set_2) | exact HI0.out)) hg (IsS124.own_ne HI0.out HO_7.out (by decide))); have n1_ := Aside0.mk (below_weaken (by repeat (first | (with_reducible first | exact HB.out | apply below_alloc | apply pw_below_drewN | apply below_drew1 | refine below_set ?_ (IsS124.ge HI0.out)) | exact HB.out)) HL.out hb); have n2_ := Aside0.mk (KeepBut.trans (by repeat (first | (with_reducible first | exact HK.out | apply KeepBut.set_ | apply keep_drewN | apply keep_drew | apply keep_alloc) | exact HK.out)) (KeepBut.of_grown hg g) (Kd.R_base2 HO_7.out)); have n3_ := Aside0.mk (ho); clear HI0; clear HB; clear HK; clear HO_7; have HI0 := n0_; have HB := n1_; have HK := n2_; have HO219 := n3_; clear n0_ n1_ n2_ n3_; clear ho hb hg hat))
                    go_roundg k1
                    case measure => have := HK1.out; omega
                    case rel => exact ⟨(y217), (t215), (t216), H', ⟨by have := HK1.out; omega⟩, ⟨by (with_reducible repeat (first | apply Kd.R_alloc | apply Kd.R_drewN | apply Kd.R_drew)); exact HO219.out⟩, ⟨by repeat (first | (with_reducible first | exact HI0.out | apply IsS124.alloc | apply IsS124.drewN | apply IsS124.drew | apply IsS124.set_1 | apply IsS124.set_2) | exact HI0.out)⟩, ⟨by repeat (first | (with_reducible first | exact HK.out | apply KeepBut.set_ | apply keep_drewN | apply keep_drew | apply keep_alloc) | exact HK.out)⟩, ⟨by repeat (first | (with_reducible first | exact HB.out | apply below_alloc | apply pw_below_drewN | apply below_drew1 | refine below_set ?_ (IsS124.ge HI0.out)) | exact HB.out)⟩⟩
                  · rw [if_neg c34] at H
                    exact absurd H (by simp)
                · rw [if_neg c33] at H
                  have c33b0 : decide (1 < t190) = false := decide_eq_false c33
                  clear c33
                  simp only [Option.some.injEq, Prod.mk.injEq] at H
                  obtain ⟨rfl, rfl, rfl, rfl⟩ := H
                  obtain ⟨Ao38, co38, eo38⟩ := Kd.R_slice HO_7.out
                  subst eo38
                  go_wp2_with (first | ((with_reducible refine gate_callee (f := 74) rfl ?_); refine goesL_ (some 21) rfl rfl Try.func74 (by kernel_rfl) rfl #[.pointer (some ⟨g, 0, none⟩), .int .i64 2] rfl (by (try simp only [List.map_toArray, List.map_cons, List.map_nil]); first | done | rfl | (simp only [List.length_drop, List.length_take]; rfl)) ?_; (with_reducible refine (spec_l1Below.calls g s0_0 x1001_1 x1002_1 2 t214 t215 t216 w0 _ ?side1 ?side2 A31.out).mono ?_); (case side1 => repeat (first | (with_reducible first | exact HI0.out | apply IsS124.alloc | apply IsS124.drewN | apply IsS124.drew | apply IsS124.set_1 | apply IsS124.set_2) | exact HI0.out)); (case side2 => repeat (first | (with_reducible first | exact HB.out | apply below_alloc | apply pw_below_drewN | apply below_drew1 | refine below_set ?_ (IsS124.ge HI0.out)) | exact HB.out)); rintro e w39 ⟨rfl, hi, hb, hk⟩; refine ⟨_, rfl, ?_⟩; have n0_ := Aside0.mk (Kd.R_mono (Kd.R_keep (IsS124.apart (show IsS124 w0 _ g s0_0 x1001_1 x1002_1 from by repeat (first | (with_reducible first | exact HI0.out | apply IsS124.alloc | apply IsS124.drewN | apply IsS124.drew | apply IsS124.set_1 | apply IsS124.set_2) | exact HI0.out)) (by (with_reducible repeat (first | apply Kd.R_alloc | apply Kd.R_drewN | apply Kd.R_drew)); exact HO_7.out) (by decide)) hk (fun _ h => h.2)) (fun _ h => h.1)); have n1_ := Aside0.mk (KeepBut.trans (by repeat (first | (with_reducible first | exact HK.out | apply KeepBut.set_ | apply keep_drewN | apply keep_drew | apply keep_alloc) | exact HK.out)) hk (.inl rfl)); have n2_ := Aside0.mk (hb); have n3_ := Aside0.mk (hi); clear HO_7; clear HK; clear HB; clear HI0; have HO_7 := n0_; have HK := n1_; have HB := n2_; have HI0 := n3_; clear n0_ n1_ n2_ n3_; (try clear hb); (try clear hb2); (try clear hk); (try clear hi)))
                  go_ret2
                  exact ⟨_, by first | rfl | (simp [errW_none, errW_some] <;> rfl) | (simp [*, errW_none, errW_some] <;> rfl), by (with_reducible repeat (first | apply Kd.R_alloc | apply Kd.R_drewN | apply Kd.R_drew)); exact HO_7.out, by repeat (first | (with_reducible first | exact HI0.out | apply IsS124.alloc | apply IsS124.drewN | apply IsS124.drew | apply IsS124.set_1 | apply IsS124.set_2) | exact HI0.out), by repeat (first | (with_reducible first | exact HB.out | apply below_alloc | apply pw_below_drewN | apply below_drew1 | refine below_set ?_ (IsS124.ge HI0.out)) | exact HB.out), by repeat (first | (with_reducible first | exact HK.out | apply KeepBut.set_ | apply keep_drewN | apply keep_drew | apply keep_alloc) | exact HK.out)⟩
              · rw [if_neg c32] at H
                have c32b0 : decide ((x7_1.length : Int) < (wrap64 (200 + t214))) = false := decide_eq_false c32
                clear c32
                simp only [Option.some.injEq, Prod.mk.injEq] at H
                obtain ⟨rfl, rfl, rfl, rfl⟩ := H
                obtain ⟨Ao40, co40, eo40⟩ := Kd.R_slice HO_7.out
                subst eo40
                go_wp2_with (first | ((with_reducible refine gate_callee (f := 74) rfl ?_); refine goesL_ (some 21) rfl rfl Try.func74 (by kernel_rfl) rfl #[.pointer (some ⟨g, 0, none⟩), .int .i64 2] rfl (by (try simp only [List.map_toArray, List.map_cons, List.map_nil]); first | done | rfl | (simp only [List.length_drop, List.length_take]; rfl)) ?_; (with_reducible refine (spec_l1Below.calls g s0_0 x1001_1 x1002_1 2 t214 t215 t216 w0 _ ?side1 ?side2 A31.out).mono ?_); (case side1 => repeat (first | (with_reducible first | exact HI0.out | apply IsS124.alloc | apply IsS124.drewN | apply IsS124.drew | apply IsS124.set_1 | apply IsS124.set_2) | exact HI0.out)); (case side2 => repeat (first | (with_reducible first | exact HB.out | apply below_alloc | apply pw_below_drewN | apply below_drew1 | refine below_set ?_ (IsS124.ge HI0.out)) | exact HB.out)); rintro e w41 ⟨rfl, hi, hb, hk⟩; refine ⟨_, rfl, ?_⟩; have n0_ := Aside0.mk (Kd.R_mono (Kd.R_keep (IsS124.apart (show IsS124 w0 _ g s0_0 x1001_1 x1002_1 from by repeat (first | (with_reducible first | exact HI0.out | apply IsS124.alloc | apply IsS124.drewN | apply IsS124.drew | apply IsS124.set_1 | apply IsS124.set_2) | exact HI0.out)) (by (with_reducible repeat (first | apply Kd.R_alloc | apply Kd.R_drewN | apply Kd.R_drew)); exact HO_7.out) (by decide)) hk (fun _ h => h.2)) (fun _ h => h.1)); have n1_ := Aside0.mk (KeepBut.trans (by repeat (first | (with_reducible first | exact HK.out | apply KeepBut.set_ | apply keep_drewN | apply keep_drew | apply keep_alloc) | exact HK.out)) hk (.inl rfl)); have n2_ := Aside0.mk (hb); have n3_ := Aside0.mk (hi); clear HO_7; clear HK; clear HB; clear HI0; have HO_7 := n0_; have HK := n1_; have HB := n2_; have HI0 := n3_; clear n0_ n1_ n2_ n3_; (try clear hb); (try clear hb2); (try clear hk); (try clear hi)))
                go_ret2
                exact ⟨_, by first | rfl | (simp [errW_none, errW_some] <;> rfl) | (simp [*, errW_none, errW_some] <;> rfl), by (with_reducible repeat (first | apply Kd.R_alloc | apply Kd.R_drewN | apply Kd.R_drew)); exact HO_7.out, by repeat (first | (with_reducible first | exact HI0.out | apply IsS124.alloc | apply IsS124.drewN | apply IsS124.drew | apply IsS124.set_1 | apply IsS124.set_2) | exact HI0.out), by repeat (first | (with_reducible first | exact HB.out | apply below_alloc | apply pw_below_drewN | apply below_drew1 | refine below_set ?_ (IsS124.ge HI0.out)) | exact HB.out), by repeat (first | (with_reducible first | exact HK.out | apply KeepBut.set_ | apply keep_drewN | apply keep_drew | apply keep_alloc) | exact HK.out)⟩
  · replace c5 := Bool.eq_false_iff.mpr c5
    subst c5
    have H1 : (some (t190, t191, t197, t198)) = some (r1, r2, r3, r4) := by rw [if_neg (show ¬ (false = true) by decide)] at H; exact H
    clear H
    have H := H1
    clear H1
    simp only [Option.some.injEq, Prod.mk.injEq] at H
    obtain ⟨rfl, rfl, rfl, rfl⟩ := H
    go_enter Try.func72, Try.ntmps72
    go_wp2_with (first | ((with_reducible refine gate_callee (f := 93) rfl ?_); refine goesL_ (some 11) rfl rfl Try.func93 (by kernel_rfl) rfl #[.pointer (some ⟨g, 0, none⟩), .int .i64 a1] rfl (by (try simp only [List.map_toArray, List.map_cons, List.map_nil]); first | done | rfl | (simp only [List.length_drop, List.length_take]; rfl)) ?_; (with_reducible refine (spec_l14Graph.calls k g s0_0 s0_1 s0_2 a1 t190 t191 t194 t195 w0 _ ?side1 ?side2 A3.out).mono ?_); (case side1 => repeat (first | (with_reducible first | exact HI0.out | apply IsS124.alloc | apply IsS124.drewN | apply IsS124.drew | apply IsS124.set_1 | apply IsS124.set_2) | exact HI0.out)); (case side2 => repeat (first | (with_reducible first | exact HB.out | apply below_alloc | apply pw_below_drewN | apply below_drew1 | refine below_set ?_ (IsS124.ge HI0.out)) | exact HB.out)); rintro e w42 ⟨v192, rfl, ho0, hi, hb, hk⟩; refine ⟨_, rfl, ?_⟩; have n0_ := Aside0.mk (Kd.R_lower ho0 (keep_size (w := w) (g := g) (row := none) (by repeat (first | (with_reducible first | exact HK.out | apply KeepBut.set_ | apply keep_drewN | apply keep_drew | apply keep_alloc) | exact HK.out)))); have n1_ := Aside0.mk (KeepBut.trans (by repeat (first | (with_reducible first | exact HK.out | apply KeepBut.set_ | apply keep_drewN | apply keep_drew | apply keep_alloc) | exact HK.out)) hk (.inl rfl)); have n2_ := Aside0.mk (hb); have n3_ := Aside0.mk (hi); clear HK; clear HB; clear HI0; have HO193 := n0_; have HK := n1_; have HB := n2_; have HI0 := n3_; clear n0_ n1_ n2_ n3_; (try clear hb); (try clear hb2); (try clear hk); (try clear hi); (try clear ho0)) | ((with_reducible refine gate_callee (f := 75) rfl ?_); refine goesL_ (some 15) rfl rfl Try.func75 (by kernel_rfl) rfl #[.pointer (some ⟨g, 0, none⟩), .int .i64 12] rfl (by (try simp only [List.map_toArray, List.map_cons, List.map_nil]); first | done | rfl | (simp only [List.length_drop, List.length_take]; rfl)) ?_; (with_reducible refine (spec_l1Once.calls g s0_0 t194 t195 12 false t197 t198 w0 _ ?side1 ?side2 A4.out).mono ?_); (case side1 => repeat (first | (with_reducible first | exact HI0.out | apply IsS124.alloc | apply IsS124.drewN | apply IsS124.drew | apply IsS124.set_1 | apply IsS124.set_2) | exact HI0.out)); (case side2 => repeat (first | (with_reducible first | exact HB.out | apply below_alloc | apply pw_below_drewN | apply below_drew1 | refine below_set ?_ (IsS124.ge HI0.out)) | exact HB.out)); rintro e w43 ⟨rfl, hi, hb, hk⟩; refine ⟨_, rfl, ?_⟩; have n0_ := Aside0.mk (Kd.R_mono (Kd.R_keep (IsS124.apart (show IsS124 w0 _ g s0_0 t194 t195 from by repeat (first | (with_reducible first | exact HI0.out | apply IsS124.alloc | apply IsS124.drewN | apply IsS124.drew | apply IsS124.set_1 | apply IsS124.set_2) | exact HI0.out)) (by (with_reducible repeat (first | apply Kd.R_alloc | apply Kd.R_drewN | apply Kd.R_drew)); exact HO193.out) (by decide)) hk (fun _ h => h.2)) (fun _ h => h.1)); have n1_ := Aside0.mk (KeepBut.trans (by repeat (first | (with_reducible first | exact HK.out | apply KeepBut.set_ | apply keep_drewN | apply keep_drew | apply keep_alloc) | exact HK.out)) hk (.inl rfl)); have n2_ := Aside0.mk (hb); have n3_ := Aside0.mk (hi); clear HO193; clear HK; clear HB; clear HI0; have HO193 := n0_; have HK := n1_; have HB := n2_; have HI0 := n3_; clear n0_ n1_ n2_ n3_; (try clear hb); (try clear hb2); (try clear hk); (try clear hi)))
    go_ret2
    exact ⟨_, by first | rfl | (simp [errW_none, errW_some] <;> rfl) | (simp [*, errW_none, errW_some] <;> rfl), by (with_reducible repeat (first | apply Kd.R_alloc | apply Kd.R_drewN | apply Kd.R_drew)); exact HO193.out, by repeat (first | (with_reducible first | exact HI0.out | apply IsS124.alloc | apply IsS124.drewN | apply IsS124.drew | apply IsS124.set_1 | apply IsS124.set_2) | exact HI0.out), by repeat (first | (with_reducible first | exact HB.out | apply below_alloc | apply pw_below_drewN | apply below_drew1 | refine below_set ?_ (IsS124.ge HI0.out)) | exact HB.out), by repeat (first | (with_reducible first | exact HK.out | apply KeepBut.set_ | apply keep_drewN | apply keep_drew | apply keep_alloc) | exact HK.out)⟩

/-! ### spec_DrawCircle: function 43 -/
mutual
def spec_DrawCircle.l0 : Nat → Int → List (S60) → Int → Int → List Int → Int → Int → Option (Int × (List (S60)))
  | 0, _, _, _, _, _, _, _ => none
  | k + 1, x5, x6, x7, x8, x224000, x224001, x224002 => if x8 < x7 then (spec_DrawCircle.j1 k x5 x6 x7 x8 (decide (x5 > 1)) x224000 x224001 x224002) else (spec_DrawCircle.j1 k x5 x6 x7 x8 false x224000 x224001 x224002)
def spec_DrawCircle.j1 : Nat → Int → List (S60) → Int → Int → Bool → List Int → Int → Int → Option (Int × (List (S60)))
  | 0, _, _, _, _, _, _, _, _ => none
  | k + 1, x5, x6, x7, x8, x25, x224000, x224001, x224002 => if x25 = true then ((spec_l1Below.f x224000 x224001 x224002 (wrap64 (x5 - 1))).bind fun bt233 => ((spec_l1Below.f x224000 bt233.2.1 bt233.2.2 (wrap64 ((wrap64 (x5 - bt233.1)) - 1))).bind fun bt236 => (if x6.length < 8796093022208 then (spec_DrawCircle.l0 k x5 (x6 ++ [(⟨wrap64 ((wrap64 (bt233.1 + 1)) + bt236.1), bt233.1⟩ : S60)]) x7 (wrap64 (x8 + 1)) x224000 bt236.2.1 bt236.2.2) else (none)))) else (some (x5, x6))
end
def spec_DrawCircle.f (k : Nat) (l0 : List Int) : Option (Int × (List (S60))) := (spec_l1New.f k l0).bind fun bt220 => ((spec_l14Some.f k bt220.1 bt220.2.1 bt220.2.2 10).bind fun bt224 => ((spec_l1Below.f bt220.1 bt224.2.2.1 bt224.2.2.2 3).bind fun bt230 => (spec_DrawCircle.l0 k bt224.1 bt224.2.1 bt230.1 0 bt220.1 bt230.2.1 bt230.2.2)))
theorem spec_DrawCircle.mono_l : ∀ k, (∀ y0 y1 y2 y3 y4 y5 y6, LeO (spec_DrawCircle.l0 k y0 y1 y2 y3 y4 y5 y6) (spec_DrawCircle.l0 (k + 1) y0 y1 y2 y3 y4 y5 y6)) ∧ (∀ y0 y1 y2 y3 y4 y5 y6 y7, LeO (spec_DrawCircle.j1 k y0 y1 y2 y3 y4 y5 y6 y7) (spec_DrawCircle.j1 (k + 1) y0 y1 y2 y3 y4 y5 y6 y7))
  | 0 => ⟨fun _ _ _ _ _ _ _ r h => by simp [spec_DrawCircle.l0] at h, fun _ _ _ _ _ _ _ _ r h => by simp [spec_DrawCircle.j1] at h⟩
  | k + 1 => by
    obtain ⟨ih0, ih1⟩ := spec_DrawCircle.mono_l k
    refine ⟨?_, ?_⟩
    · intro y0 y1 y2 y3 y4 y5 y6
      unfold spec_DrawCircle.l0
      repeat' first
      | (with_reducible exact ih0 _ _ _ _ _ _ _)
      | (with_reducible exact ih1 _ _ _ _ _ _ _ _)
      | (with_reducible exact spec_l14Some.mono _ _ _ _ _)
      | (with_reducible exact spec_l1New.mono _ _)
      | (with_reducible exact LeO.refl _)
      | (with_reducible exact LeO.none _)
      | (with_reducible refine LeO.ite ?_ ?_)
      | (with_reducible refine LeO.bind ?_ (fun _ => ?_))
      | exact ih0 _ _ _ _ _ _ _
      | exact ih1 _ _ _ _ _ _ _ _
      | exact spec_l14Some.mono _ _ _ _ _
      | exact spec_l1New.mono _ _
      | exact LeO.none _
      | refine LeO.ite ?_ ?_
      | refine LeO.bind ?_ (fun _ => ?_)
    · intro y0 y1 y2 y3 y4 y5 y6 y7
      unfold spec_DrawCircle.j1
      repeat' first
      | (with_reducible exact ih0 _ _ _ _ _ _ _)
      | (with_reducible exact ih1 _ _ _ _ _ _ _ _)
      | (with_reducible exact spec_l14Some.mono _ _ _ _ _)
      | (with_reducible exact spec_l1New.mono _ _)
      | (with_reducible exact LeO.refl _)
      | (with_reducible exact LeO.none _)
      | (with_reducible refine LeO.ite ?_ ?_)
      | (with_reducible refine LeO.bind ?_ (fun _ => ?_))
      | exact ih0 _ _ _ _ _ _ _
      | exact ih1 _ _ _ _ _ _ _ _
      | exact spec_l14Some.mono _ _ _ _ _
      | exact spec_l1New.mono _ _
      | exact LeO.none _
      | refine LeO.ite ?_ ?_
      | refine LeO.bind ?_ (fun _ => ?_)
theorem spec_DrawCircle.mono : ∀ a0 k, LeO (spec_DrawCircle.f k a0) (spec_DrawCircle.f (k + 1) a0) := by
  intro a0 k
  obtain ⟨ih0, ih1⟩ := spec_DrawCircle.mono_l k
  unfold spec_DrawCircle.f
  repeat' first
      | (with_reducible exact ih0 _ _ _ _ _ _ _)
      | (with_reducible exact ih1 _ _ _ _ _ _ _ _)
      | (with_reducible exact spec_l14Some.mono _ _ _ _ _)
      | (with_reducible exact spec_l1New.mono _ _)
      | (with_reducible exact LeO.refl _)
      | (with_reducible exact LeO.none _)
      | (with_reducible refine LeO.ite ?_ ?_)
      | (with_reducible refine LeO.bind ?_ (fun _ => ?_))
      | exact ih0 _ _ _ _ _ _ _
      | exact ih1 _ _ _ _ _ _ _ _
      | exact spec_l14Some.mono _ _ _ _ _
      | exact spec_l1New.mono _ _
      | exact LeO.none _
      | refine LeO.ite ?_ ?_
      | refine LeO.bind ?_ (fun _ => ?_)
set_option maxHeartbeats 8000000 in
set_option maxRecDepth 100000 in
theorem spec_DrawCircle.calls (k : Nat) (A0 : Option Addr) (c0 : Nat) (l0 : List Int) (r1 : Int) (r2 : List (S60)) (w : World) (hr0 : Kd.C (Kd.int .u8) w A0 l0.length l0) (hc0 : l0.length ≤ c0) (h : spec_DrawCircle.f k l0 = some (r1, r2)) :
    Calls Try.prog 43 #[.slice A0 l0.length c0] w fun e w' => ∃ v1_ : Value, e = .returned (.tuple #[.int .i64 r1, v1_]) ∧ Kd.R k60 60 w' w.heap.size (fun _ => True) v1_ r2 ∧ Below w.heap.size w w' := by
  have hu60 := Try.underlying60
  have HR0 := Aside0.mk hr0
  have HC0 := Aside0.mk hc0
  clear hr0 hc0
  have HB := Aside0.mk (Below.refl w.heap.size w)
  have H : ((spec_l1New.f k l0).bind fun bt220 => ((spec_l14Some.f k bt220.1 bt220.2.1 bt220.2.2 10).bind fun bt224 => ((spec_l1Below.f bt220.1 bt224.2.2.1 bt224.2.2.2 3).bind fun bt230 => (spec_DrawCircle.l0 k bt224.1 bt224.2.1 bt230.1 0 bt220.1 bt230.2.1 bt230.2.2)))) = some (r1, r2) := h
  clear h
  replace H := Option.bind_eq_some_iff.mp H
  obtain ⟨⟨t220, t221, t222⟩, A20, H⟩ := H
  replace H : ((spec_l14Some.f k t220 t221 t222 10).bind fun bt224 => ((spec_l1Below.f t220 bt224.2.2.1 bt224.2.2.2 3).bind fun bt230 => (spec_DrawCircle.l0 k bt224.1 bt224.2.1 bt230.1 0 t220 bt230.2.1 bt230.2.2))) = some (r1, r2) := H
  have A2 := Aside0.mk A20
  clear A20
  replace H := Option.bind_eq_some_iff.mp H
  obtain ⟨⟨t224, t225, t228, t229⟩, A30, H⟩ := H
  replace H : ((spec_l1Below.f t220 t228 t229 3).bind fun bt230 => (spec_DrawCircle.l0 k t224 t225 bt230.1 0 t220 bt230.2.1 bt230.2.2)) = some (r1, r2) := H
  have A3 := Aside0.mk A30
  clear A30
  replace H := Option.bind_eq_some_iff.mp H
  obtain ⟨⟨t230, t231, t232⟩, A40, H⟩ := H
  replace H : (spec_DrawCircle.l0 k t224 t225 t230 0 t220 t231 t232) = some (r1, r2) := H
  have A4 := Aside0.mk A40
  clear A40
  have H' := Aside0.mk H
  clear H
  go_enter Try.func43, Try.ntmps43
  go_wp2_with (first | ((with_reducible refine gate_callee (f := 71) rfl ?_); refine goesL_ (some 11) rfl rfl Try.func71 (by kernel_rfl) rfl #[.slice A0 l0.length c0] rfl (by (try simp only [List.map_toArray, List.map_cons, List.map_nil]); first | done | rfl | (simp only [List.length_drop, List.length_take]; rfl)) ?_; (with_reducible refine (spec_l1New.calls k _ _ l0 t220 t221 t222 w _ ?side1 ?side2 ?side3 A2.out).mono ?_); (case side1 => repeat (first | (with_reducible first | exact HB.out | apply below_alloc | apply pw_below_drewN | apply below_drew1) | exact HB.out)); (case side2 => exact HR0.out); (case side3 => exact HC0.out); rintro e w5 ⟨g223, rfl, hi, hb, hb2⟩; refine ⟨_, rfl, ?_⟩; have n0_ := Aside0.mk (hb); have n1_ := Aside0.mk (hi); clear HB; have HB := n0_; have HI223 := n1_; clear n0_ n1_; (try clear hb); (try clear hb2); (try clear hk); (try clear hi)) | ((with_reducible refine gate_callee (f := 72) rfl ?_); refine goesL_ (some 14) rfl rfl Try.func72 (by kernel_rfl) rfl #[.pointer (some ⟨g223, 0, none⟩), .int .i64 10] rfl (by (try simp only [List.map_toArray, List.map_cons, List.map_nil]); first | done | rfl | (simp only [List.length_drop, List.length_take]; rfl)) ?_; (with_reducible refine (spec_l14Some.calls k g223 t220 t221 t222 10 t224 t225 t228 t229 w _ ?side1 ?side2 A3.out).mono ?_); (case side1 => repeat (first | (with_reducible first | exact HI223.out | apply IsS124.alloc | apply IsS124.drewN | apply IsS124.drew | apply IsS124.set_1 | apply IsS124.set_2) | exact HI223.out)); (case side2 => repeat (first | (with_reducible first | exact HB.out | apply below_alloc | apply pw_below_drewN | apply below_drew1 | refine below_set ?_ (IsS124.ge HI223.out)) | exact HB.out)); rintro e w6 ⟨v226, rfl, ho0, hi, hb, hk⟩; refine ⟨_, rfl, ?_⟩; have n0_ := Aside0.mk (Kd.R_lower ho0 (below_size (by repeat (first | (with_reducible first | exact HB.out | apply below_alloc | apply pw_below_drewN | apply below_drew1 | refine below_set ?_ (IsS124.ge HI223.out)) | exact HB.out)))); have n1_ := Aside0.mk (hb); have n2_ := Aside0.mk (hi); clear HB; clear HI223; have HO227 := n0_; have HB := n1_; have HI223 := n2_; clear n0_ n1_ n2_; (try clear hb); (try clear hb2); (try clear hk); (try clear hi); (try clear ho0)) | ((with_reducible refine gate_callee (f := 74) rfl ?_); refine goesL_ (some 18) rfl rfl Try.func74 (by kernel_rfl) rfl #[.pointer (some ⟨g223, 0, none⟩), .int .i64 3] rfl (by (try simp only [List.map_toArray, List.map_cons, List.map_nil]); first | done | rfl | (simp only [List.length_drop, List.length_take]; rfl)) ?_; (with_reducible refine (spec_l1Below.calls g223 t220 t228 t229 3 t230 t231 t232 w _ ?side1 ?side2 A4.out).mono ?_); (case side1 => repeat (first | (with_reducible first | exact HI223.out | apply IsS124.alloc | apply IsS124.drewN | apply IsS124.drew | apply IsS124.set_1 | apply IsS124.set_2) | exact HI223.out)); (case side2 => repeat (first | (with_reducible first | exact HB.out | apply below_alloc | apply pw_below_drewN | apply below_drew1 | refine below_set ?_ (IsS124.ge HI223.out)) | exact HB.out)); rintro e w7 ⟨rfl, hi, hb, hk⟩; refine ⟨_, rfl, ?_⟩; have n0_ := Aside0.mk (Kd.R_mono (Kd.R_keep (IsS124.apart (show IsS124 w _ g223 t220 t228 t229 from by repeat (first | (with_reducible first | exact HI223.out | apply IsS124.alloc | apply IsS124.drewN | apply IsS124.drew | apply IsS124.set_1 | apply IsS124.set_2) | exact HI223.out)) (by (with_reducible repeat (first | apply Kd.R_alloc | apply Kd.R_drewN | apply Kd.R_drew)); exact HO227.out) (by decide)) hk (fun _ h => h.2)) (fun _ h => h.1)); have n1_ := Aside0.mk (hb); have n2_ := Aside0.mk (hi); clear HO227; clear HB; clear HI223; have HO227 := n0_; have HB := n1_; have HI223 := n2_; clear n0_ n1_ n2_; (try clear hb); (try clear hb2); (try clear hk); (try clear hi)))
  go_loopg [6, 8] k (fun kq v6 v8 w' => ∃ (x6_1 : List (S60)) (x8_1 : Int) (x224001_1 : Int) (x224002_1 : Int), v8 = .int .i64 x8_1 ∧ Aside0 (spec_DrawCircle.l0 kq t224 x6_1 t230 x8_1 t220 x224001_1 x224002_1 = some (r1, r2)) ∧ Aside0 (kq ≤ k) ∧ Aside0 (Kd.R k60 60 w' w.heap.size (fun _ => True) v6 x6_1) ∧ Aside0 (IsS124 w w' g223 t220 x224001_1 x224002_1) ∧ Aside0 (Below w.heap.size w w'))
  case atStart => exact ⟨(t225), (0), (t231), (t232), (by first | rfl | (simp; done) | (simp [*]; done)), H', ⟨Nat.le_refl _⟩, ⟨by (with_reducible repeat (first | apply Kd.R_alloc | apply Kd.R_drewN | apply Kd.R_drew)); exact HO227.out⟩, ⟨by repeat (first | (with_reducible first | exact HI223.out | apply IsS124.alloc | apply IsS124.drewN | apply IsS124.drew | apply IsS124.set_1 | apply IsS124.set_2) | exact HI223.out)⟩, ⟨by repeat (first | (with_reducible first | exact HB.out | apply below_alloc | apply pw_below_drewN | apply below_drew1 | refine below_set ?_ (IsS124.ge HI223.out)) | exact HB.out)⟩⟩
  case round =>
    clear H'
    try clear p2
    try clear c4
    try clear c7
    obtain ⟨x6_1, x8_1, x224001_1, x224002_1, rfl, HA, HK1, HO_6, HI223, HB⟩ := hrel
    cases gk with
    | zero => exact absurd HA.out (by simp [spec_DrawCircle.l0])
    | succ k1 =>
      have H := HA.out
      clear HA
      simp only [spec_DrawCircle.l0] at H
      have HC8 := Aside0.mk H
      clear H
      go_upto_region 5 with (fail)
      go_cut [25] (fun v25 wc => ∃ (kq : Nat) (x25_7 : Bool), v25 = .bool x25_7 ∧ Aside0 (spec_DrawCircle.j1 kq t224 x6_1 t230 x8_1 x25_7 t220 x224001_1 x224002_1 = some (r1, r2)) ∧ Aside0 (kq ≤ k1) ∧ Aside0 (Kd.R k60 60 wc w.heap.size (fun _ => True) u6 x6_1) ∧ Aside0 (IsS124 w wc g223 t220 x224001_1 x224002_1) ∧ Aside0 (Below w.heap.size w wc))
      case first =>
        have H := HC8.out
        clear HC8
        by_cases c9 : x8_1 < t230
        · rw [if_pos c9] at H
          have c9b0 : decide (x8_1 < t230) = true := decide_eq_true c9
          clear c9
          (first | rw [c9b0] | (simp only [i64_w, i32_w]; rw [c9b0]) | skip)
          have H' := Aside0.mk H
          clear H
          go_wp2
          go_meet
          case rel => exact ⟨_, (decide (t224 > 1)), (by first | rfl | (simp; done) | (simp [*]; done)), H', ⟨by have := HK1.out; first | omega | exact Nat.le_refl _⟩, ⟨by (with_reducible repeat (first | apply Kd.R_alloc | apply Kd.R_drewN | apply Kd.R_drew)); exact HO_6.out⟩, ⟨by repeat (first | (with_reducible first | exact HI223.out | apply IsS124.alloc | apply IsS124.drewN | apply IsS124.drew | apply IsS124.set_1 | apply IsS124.set_2) | exact HI223.out)⟩, ⟨by repeat (first | (with_reducible first | exact HB.out | apply below_alloc | apply pw_below_drewN | apply below_drew1 | refine below_set ?_ (IsS124.ge HI223.out)) | exact HB.out)⟩⟩
        · rw [if_neg c9] at H
          have c9b0 : decide (x8_1 < t230) = false := decide_eq_false c9
          clear c9
          (first | rw [c9b0] | (simp only [i64_w, i32_w]; rw [c9b0]) | skip)
          have H' := Aside0.mk H
          clear H
          go_wp2
          go_meet
          case rel => exact ⟨_, (false), (by first | rfl | (simp; done) | (simp [*]; done)), H', ⟨by have := HK1.out; first | omega | exact Nat.le_refl _⟩, ⟨by (with_reducible repeat (first | apply Kd.R_alloc | apply Kd.R_drewN | apply Kd.R_drew)); exact HO_6.out⟩, ⟨by repeat (first | (with_reducible first | exact HI223.out | apply IsS124.alloc | apply IsS124.drewN | apply IsS124.drew | apply IsS124.set_1 | apply IsS124.set_2) | exact HI223.out)⟩, ⟨by repeat (first | (with_reducible first | exact HB.out | apply below_alloc | apply pw_below_drewN | apply below_drew1 | refine below_set ?_ (IsS124.ge HI223.out)) | exact HB.out)⟩⟩
      case rest =>
        clear HC8
        try clear p2
        try clear c4
        try clear c7
        try clear c9
        try clear c9b0
        try clear p2
        obtain ⟨kq, x25_7, rfl, HA, HJ7, HO_6, HI223, HB⟩ := hcut
        cases kq with
        | zero => exact absurd HA.out (by simp [spec_DrawCircle.j1])
        | succ kj7 =>
          have H := HA.out
          clear HA
          simp only [spec_DrawCircle.j1] at H
          by_cases c10 : x25_7 = true
          · subst c10
            have H1 : ((spec_l1Below.f t220 x224001_1 x224002_1 (wrap64 (t224 - 1))).bind fun bt233 => ((spec_l1Below.f t220 bt233.2.1 bt233.2.2 (wrap64 ((wrap64 (t224 - bt233.1)) - 1))).bind fun bt236 => (if x6_1.length < 8796093022208 then (spec_DrawCircle.l0 kj7 t224 (x6_1 ++ [(⟨wrap64 ((wrap64 (bt233.1 + 1)) + bt236.1), bt233.1⟩ : S60)]) t230 (wrap64 (x8_1 + 1)) t220 bt236.2.1 bt236.2.2) else (none)))) = some (r1, r2) := by rw [if_pos rfl] at H; exact H
            clear H
            have H := H1
            clear H1
            replace H := Option.bind_eq_some_iff.mp H
            obtain ⟨⟨t233, t234, t235⟩, A110, H⟩ := H
            replace H : ((spec_l1Below.f t220 t234 t235 (wrap64 ((wrap64 (t224 - t233)) - 1))).bind fun bt236 => (if x6_1.length < 8796093022208 then (spec_DrawCircle.l0 kj7 t224 (x6_1 ++ [(⟨wrap64 ((wrap64 (t233 + 1)) + bt236.1), t233⟩ : S60)]) t230 (wrap64 (x8_1 + 1)) t220 bt236.2.1 bt236.2.2) else (none))) = some (r1, r2) := H
            have A11 := Aside0.mk A110
            clear A110
            replace H := Option.bind_eq_some_iff.mp H
            obtain ⟨⟨t236, t237, t238⟩, A120, H⟩ := H
            replace H : (if x6_1.length < 8796093022208 then (spec_DrawCircle.l0 kj7 t224 (x6_1 ++ [(⟨wrap64 ((wrap64 (t233 + 1)) + t236), t233⟩ : S60)]) t230 (wrap64 (x8_1 + 1)) t220 t237 t238) else (none)) = some (r1, r2) := H
            have A12 := Aside0.mk A120
            clear A120
            by_cases c13 : x6_1.length < 8796093022208
            · rw [if_pos c13] at H
              have LMc13 := Aside0.mk c13
              clear c13
              obtain ⟨y239, hy239⟩ : ∃ y_ : List (S60), y_ = (x6_1 ++ [(⟨wrap64 ((wrap64 (t233 + 1)) + t236), t233⟩ : S60)]) := ⟨_, rfl⟩
              replace H : (spec_DrawCircle.l0 kj7 t224 y239 t230 (wrap64 (x8_1 + 1)) t220 t237 t238) = some (r1, r2) := by first | (rw [hy239]; with_reducible exact H) | (have H2_ := (Option.bind_some _ _).symm.trans H; rw [hy239]; with_reducible exact H2_) | (have H2_ := (Option.bind_some _ _).symm.trans H; with_reducible exact H2_) | with_reducible exact H | (rw [hy239]; exact H) | exact H
              have Ny239 := Aside0.mk hy239
              clear hy239
              have H' := Aside0.mk H
              clear H
              go_wp2_with (first | ((with_reducible refine gate_callee (f := 74) rfl ?_); refine goesL_ (some 31) rfl rfl Try.func74 (by kernel_rfl) rfl #[.pointer (some ⟨g223, 0, none⟩), .int .i64 (wrap64 (t224 - 1))] rfl (by (try simp only [List.map_toArray, List.map_cons, List.map_nil]); first | done | rfl | (simp only [List.length_drop, List.length_take]; rfl)) ?_; (with_reducible refine (spec_l1Below.calls g223 t220 x224001_1 x224002_1 (wrap64 (t224 - 1)) t233 t234 t235 w _ ?side1 ?side2 A11.out).mono ?_); (case side1 => repeat (first | (with_reducible first | exact HI223.out | apply IsS124.alloc | apply IsS124.drewN | apply IsS124.drew | apply IsS124.set_1 | apply IsS124.set_2) | exact HI223.out)); (case side2 => repeat (first | (with_reducible first | exact HB.out | apply below_alloc | apply pw_below_drewN | apply below_drew1 | refine below_set ?_ (IsS124.ge HI223.out)) | exact HB.out)); rintro e w14 ⟨rfl, hi, hb, hk⟩; refine ⟨_, rfl, ?_⟩; have n0_ := Aside0.mk (Kd.R_mono (Kd.R_keep (IsS124.apart (show IsS124 w _ g223 t220 x224001_1 x224002_1 from by repeat (first | (with_reducible first | exact HI223.out | apply IsS124.alloc | apply IsS124.drewN | apply IsS124.drew | apply IsS124.set_1 | apply IsS124.set_2) | exact HI223.out)) (by (with_reducible repeat (first | apply Kd.R_alloc | apply Kd.R_drewN | apply Kd.R_drew)); exact HO_6.out) (by decide)) hk (fun _ h => h.2)) (fun _ h => h.1)); have n1_ := Aside0.mk (hb); have n2_ := Aside0.mk (hi); clear HO_6; clear HB; clear HI223; have HO_6 := n0_; have HB := n1_; have HI223 := n2_; clear n0_ n1_ n2_; (try clear hb); (try clear hb2); (try clear hk); (try clear hi)) | ((with_reducible refine gate_callee (f := 74) rfl ?_); refine goesL_ (some 40) rfl rfl Try.func74 (by kernel_rfl) rfl #[.pointer (some ⟨g223, 0, none⟩), .int .i64 (wrap64 ((wrap64 (t224 - t233)) - 1))] rfl (by (try simp only [List.map_toArray, List.map_cons, List.map_nil]); first | done | rfl | (simp only [List.length_drop, List.length_take]; rfl)) ?_; (with_reducible refine (spec_l1Below.calls g223 t220 t234 t235 (wrap64 ((wrap64 (t224 - t233)) - 1)) t236 t237 t238 w _ ?side1 ?side2 A12.out).mono ?_); (case side1 => repeat (first | (with_reducible first | exact HI223.out | apply IsS124.alloc | apply IsS124.drewN | apply IsS124.drew | apply IsS124.set_1 | apply IsS124.set_2) | exact HI223.out)); (case side2 => repeat (first | (with_reducible first | exact HB.out | apply below_alloc | apply pw_below_drewN | apply below_drew1 | refine below_set ?_ (IsS124.ge HI223.out)) | exact HB.out)); rintro e w15 ⟨rfl, hi, hb, hk⟩; refine ⟨_, rfl, ?_⟩; have n0_ := Aside0.mk (Kd.R_mono (Kd.R_keep (IsS124.apart (show IsS124 w _ g223 t220 t234 t235 from by repeat (first | (with_reducible first | exact HI223.out | apply IsS124.alloc | apply IsS124.drewN | apply IsS124.drew | apply IsS124.set_1 | apply IsS124.set_2) | exact HI223.out)) (by (with_reducible repeat (first | apply Kd.R_alloc | apply Kd.R_drewN | apply Kd.R_drew)); exact HO_6.out) (by decide)) hk (fun _ h => h.2)) (fun _ h => h.1)); have n1_ := Aside0.mk (hb); have n2_ := Aside0.mk (hi); clear HO_6; clear HB; clear HI223; have HO_6 := n0_; have HB := n1_; have HI223 := n2_; clear n0_ n1_ n2_; (try clear hb); (try clear hb2); (try clear hk); (try clear hi)) | ((with_reducible refine gate_builtin (b := .append) (xs := #[.tmp 32, .tmp 44]) rfl ?_); at_builtin; refine Kd.R_append k60 (w0 := w) w.heap.size rfl (.tmp 32) (.tmp 44) 25 60 (.agg #[(.int .i64 0), (.int .i64 0)]) 16 rfl Try.underlying25 info60 rfl (by decide) (by omega) u6 x6_1 (⟨wrap64 ((wrap64 (t233 + 1)) + t236), t233⟩ : S60) [.int .i64 (wrap64 ((wrap64 (t233 + 1)) + t236)), .int .i64 t233] (fun _ => True) (fun _ => False) rfl rfl ?aP (fun _ hk => hk.elim) ?aF ?aO ?aB ?aS ?aL ?_; (case aP => exact k60_mkM _ _ _ (⟨wrap64 ((wrap64 (t233 + 1)) + t236), t233⟩ : S60)); (case aB => exact (by repeat (first | (with_reducible first | exact HB.out | apply below_alloc | apply pw_below_drewN | apply below_drew1 | refine below_set ?_ (IsS124.ge HI223.out)) | exact HB.out))); (case aF => exact (fun _ _ => trivial)); (case aO => exact (by (with_reducible repeat (first | apply Kd.R_alloc | apply Kd.R_drewN | apply Kd.R_drew)); exact HO_6.out)); (case aS => exact (below_size (by repeat (first | (with_reducible first | exact HB.out | apply below_alloc | apply pw_below_drewN | apply below_drew1 | refine below_set ?_ (IsS124.ge HI223.out)) | exact HB.out)))); (case aL => have := LMc13.out; omega); intro v240 w16 ho hb hg hat; rw [← Ny239.out] at ho; have n0_ := Aside0.mk (IsS124.grown (by repeat (first | (with_reducible first | exact HI223.out | apply IsS124.alloc | apply IsS124.drewN | apply IsS124.drew | apply IsS124.set_1 | apply IsS124.set_2) | exact HI223.out)) hg (IsS124.own_ne HI223.out HO_6.out (by decide))); have n1_ := Aside0.mk (hb); have n2_ := Aside0.mk (ho); clear HI223; clear HB; clear HO_6; have HI223 := n0_; have HB := n1_; have HO241 := n2_; clear n0_ n1_ n2_; clear ho hb hg hat))
              go_roundg kj7
              case measure => have := HK1.out; have := HJ7.out; omega
              case rel => exact ⟨(y239), (wrap64 (x8_1 + 1)), (t237), (t238), (by first | rfl | (simp; done) | (simp [*]; done)), H', ⟨by have := HK1.out; have := HJ7.out; omega⟩, ⟨by (with_reducible repeat (first | apply Kd.R_alloc | apply Kd.R_drewN | apply Kd.R_drew)); exact HO241.out⟩, ⟨by repeat (first | (with_reducible first | exact HI223.out | apply IsS124.alloc | apply IsS124.drewN | apply IsS124.drew | apply IsS124.set_1 | apply IsS124.set_2) | exact HI223.out)⟩, ⟨by repeat (first | (with_reducible first | exact HB.out | apply below_alloc | apply pw_below_drewN | apply below_drew1 | refine below_set ?_ (IsS124.ge HI223.out)) | exact HB.out)⟩⟩
            · rw [if_neg c13] at H
              exact absurd H (by simp)
          · replace c10 := Bool.eq_false_iff.mpr c10
            subst c10
            have H1 : (some (t224, x6_1)) = some (r1, r2) := by rw [if_neg (show ¬ (false = true) by decide)] at H; exact H
            clear H
            have H := H1
            clear H1
            simp only [Option.some.injEq, Prod.mk.injEq] at H
            obtain ⟨rfl, rfl⟩ := H
            go_wp2
            go_ret2
            exact ⟨_, by first | rfl | (simp [errW_none, errW_some] <;> rfl) | (simp [*, errW_none, errW_some] <;> rfl), by (with_reducible repeat (first | apply Kd.R_alloc | apply Kd.R_drewN | apply Kd.R_drew)); exact HO_6.out, by repeat (first | (with_reducible first | exact HB.out | apply below_alloc | apply pw_below_drewN | apply below_drew1 | refine below_set ?_ (IsS124.ge HI223.out)) | exact HB.out)⟩

/-! ### impl_Circle: function 44 -/
/-- The least number of the shortest circle: looked at from the numbers below i down. -/
def cScan (M : List Int) : Nat → Int → Int
  | 0, q => q
  | j + 1, q => cScan M j (if dGet M j j > 0 ∧ (q < 0 ∨ dGet M j j ≤ dGet M q.toNat q.toNat) then (j : Int) else q)
theorem cScan_succ (M : List Int) (j : Nat) (q : Int) : cScan M (j + 1) q = cScan M j (if dGet M j j > 0 ∧ (q < 0 ∨ dGet M j j ≤ dGet M q.toNat q.toNat) then (j : Int) else q) := rfl
def cNext (M : List Int) (N : Nat) (q : Nat) (last : Int) (left : Int) (v : Nat) : Bool := decide (dGet M last.toNat v = 1) && decide (dGet M v q = left)
def cLoop (M : List Int) (N q : Nat) : Nat → List Int → List Int
  | 0, o => o
  | m + 1, o => match (List.range N).find? (cNext M N q (o.getLastD 0) ((m + 1 : Nat) : Int)) with
    | some v => cLoop M N q m (o ++ [(v : Int)])
    | none => cLoop M N q m o
def impl_Circle.f (k : Nat) (a0 : Int) (l1 : List (S60)) : Option (List Int) :=
  (impl_GraphOk.f k a0 l1).bind fun t => if t = true then ((impl_dist.f a0 l1).bind fun M => if cScan M a0.toNat (-1) < 0 then some [] else (if 0 < dGet M (cScan M a0.toNat (-1)).toNat (cScan M a0.toNat (-1)).toNat ∧ dGet M (cScan M a0.toNat (-1)).toNat (cScan M a0.toNat (-1)).toNat ≤ 1000000 then some (cLoop M a0.toNat (cScan M a0.toNat (-1)).toNat (dGet M (cScan M a0.toNat (-1)).toNat (cScan M a0.toNat (-1)).toNat - 1).toNat [cScan M a0.toNat (-1)]) else none)) else some []
theorem impl_Circle.mono : ∀ a0 a1 k, LeO (impl_Circle.f k a0 a1) (impl_Circle.f (k + 1) a0 a1) := by
  intro a0 a1 k
  unfold impl_Circle.f
  exact LeO.bind (impl_GraphOk.mono _ _ _) (fun _ => LeO.refl _)
theorem cScan_lt (M : List Int) {i N : Nat} {q : Int} (hi : i ≤ N) (hq : q < (N : Int)) : cScan M i q < (N : Int) := by
  induction i generalizing q with
  | zero => exact hq
  | succ j ih =>
    unfold cScan
    refine ih (by omega) ?_
    split <;> omega
theorem impl_dist.n16 {a0 : Int} {l1 : List (S60)} {r : List Int} (h : impl_dist.f a0 l1 = some r) : 0 ≤ a0 ∧ a0 ≤ 16 := by
  unfold impl_dist.f at h
  split at h
  · assumption
  · cases h
set_option maxHeartbeats 8000000 in
set_option maxRecDepth 100000 in
theorem impl_Circle.calls (k : Nat) (a0 : Int) (A1 : Option Addr) (c1 : Nat) (l1 : List (S60)) (r : List Int) (w : World) (hr1 : Kd.C k60 w A1 l1.length l1) (hc1 : l1.length ≤ c1) (h : impl_Circle.f k a0 l1 = some r) :
    Calls Try.prog 44 #[.int .i64 a0, .slice A1 l1.length c1] w fun e w' => ∃ v0_ : Value, e = .returned (v0_) ∧ Kd.R (Kd.int .i64) 3 w' w.heap.size (fun _ => True) v0_ r ∧ Below w.heap.size w w' := by
  have HR1 := Aside0.mk hr1
  have HC1 := Aside0.mk hc1
  clear hr1 hc1
  have HB := Aside0.mk (Below.refl w.heap.size w)
  unfold impl_Circle.f at h
  obtain ⟨t1, e1, h⟩ := Option.bind_eq_some_iff.mp h
  have E1 := Aside0.mk e1
  clear e1
  cases t1 with
  | false =>
    rw [if_neg (by simp)] at h
    obtain rfl := Option.some.inj h
    go_enter Try.func44, Try.ntmps44
    go_wp2_with (first | ((with_reducible refine gate_dst (N := 11) rfl ?_); refine Kd.R_lit (Kd.int .i64) _ 3 ?hg (N := 11) ?hd (xs := ([] : List Int)) (inner := []) (ok := fun _ => True) (okp := fun _ => True) ?hr ?hp (fun _ hk => hk) trivial (Below.refl _ _) (Nat.le_refl _) (by simp) ?_; (case hd => rfl); (case hg => rfl); (case hr => first | (go_simp; done) | (go_simp; rfl)); (case hp => exact (Reps.none _ _)); intro v1 w3 ho hb hg_ hnew_; clear hg_ hnew_; have HO := Aside0.mk ho; have HBq := Aside0.mk hb; clear HB; have HB := HBq; clear HBq ho hb) | (go_at_call 18; (with_reducible refine (impl_GraphOk.calls k a0 _ _ l1 false _ ?s1 HC1.out E1.out).mono ?_); (case s1 => exact Kd.C_below HR1.out HB.out); rintro e w1 ⟨rfl, hb1⟩; have HOq := Aside0.mk (Kd.R_below HO.out hb1); have HBq := Aside0.mk (below_step HB.out hb1); clear HO HB hb1; have HO := HOq; have HB := HBq; clear HOq HBq))
    go_ret
    exact ⟨_, rfl, HO.out, HB.out⟩
  | true =>
    rw [if_pos rfl] at h
    obtain ⟨M, e4, h⟩ := Option.bind_eq_some_iff.mp h
    have E4 := Aside0.mk e4
    have HM := Aside0.mk (impl_dist.len e4)
    have hn16 := impl_dist.n16 e4
    clear e4
    obtain ⟨N, rfl⟩ : ∃ N : Nat, a0 = (N : Int) := ⟨a0.toNat, by omega⟩
    rw [Int.toNat_natCast] at h
    have HN := Aside0.mk (show N ≤ 16 by omega)
    have H := Aside0.mk h
    clear hn16 h
    go_enter Try.func44, Try.ntmps44
    go_wp2_with (first | ((with_reducible refine gate_dst (N := 11) rfl ?_); refine Kd.R_lit (Kd.int .i64) _ 3 ?hg (N := 11) ?hd (xs := ([] : List Int)) (inner := []) (ok := fun _ => True) (okp := fun _ => True) ?hr ?hp (fun _ hk => hk) trivial (Below.refl _ _) (Nat.le_refl _) (by simp) ?_; (case hd => rfl); (case hg => rfl); (case hr => first | (go_simp; done) | (go_simp; rfl)); (case hp => exact (Reps.none _ _)); intro v1 w3 ho hb hg_ hnew_; clear hg_ hnew_; have HO := Aside0.mk ho; have HBq := Aside0.mk hb; clear HB; have HB := HBq; clear HBq ho hb) | (go_at_call 18; (with_reducible refine (impl_GraphOk.calls k (N : Int) _ _ l1 true _ ?s1 HC1.out E1.out).mono ?_); (case s1 => exact Kd.C_below HR1.out HB.out); rintro e w1 ⟨rfl, hb1⟩; have HOq := Aside0.mk (Kd.R_below HO.out hb1); have HBq := Aside0.mk (below_step HB.out hb1); clear HO HB hb1; have HO := HOq; have HB := HBq; clear HOq HBq) | (go_at_call 65; (with_reducible refine (impl_dist.calls (N : Int) _ _ l1 M _ ?s1 HC1.out E4.out).mono ?_); (case s1 => exact Kd.C_below HR1.out HB.out); rintro e w2 ⟨rfl, hb2⟩; have HOq := Aside0.mk (Kd.R_below HO.out hb2); have HBq := Aside0.mk (below_step HB.out hb2); clear HO HB hb2; have HO := HOq; have HB := HBq; clear HOq HBq) | ((with_reducible refine gate_dst (N := 6) rfl ?_); refine box_event ?hg (N := 6) ?hd (cs := dArr dZero) (t := 87) ?hr ?_; (case hd => rfl); (case hg => rfl); (case hr => exact allocArr rfl _ _); intro g6 hg6 w6 hb6 hbel6; have HG6 := Aside0.mk hb6; have HOq := Aside0.mk (Kd.R_below HO.out hbel6); have HS6 := Aside0.mk (show w.heap.size ≤ g6 by rw [hg6]; exact below_size HB.out); have HBq := Aside0.mk (below_step HB.out hbel6); clear HO HB; have HO := HOq; have HB := HBq; clear HOq HBq hg6 hb6 hbel6) | (refine wpList_store_row rfl 87 (.tmp 6) (.tmp 19) rfl g6 (dArr M) rfl rfl 87 (dArr dZero) HG6.out (by rw [dArr_size, HM.out]; kernel_rfl) (by rw [dArr_size, dArr_size, HM.out]; simp only [dZero, List.length_replicate]) (dArr_one M) ?_; obtain ⟨w7, hw7⟩ : ∃ w7, w7 = w6.setRow g6 (dArr M) := ⟨_, rfl⟩; rw [← hw7]; have HGq := Aside0.mk (show w7.heap[g6]? = some (.cells (dArr M) 87 (0, 0)) by rw [hw7]; exact setRow_heap _ g6 _ (dArr M) 87 (0, 0) HG6.out); have HOq := Aside0.mk (show Kd.R (Kd.int .i64) 3 w7 w.heap.size (fun _ => True) v1 [] by rw [hw7]; exact Kd.R_mono (Kd.R_move (Kd.R_types HO.out HG6.out (by decide)) (fun k_ hk => setRow_other _ _ _ _ hk.2)) (fun _ _ => trivial)); have HBq := Aside0.mk (show Below w.heap.size w w7 by rw [hw7]; exact below_setRow HB.out HS6.out _); clear HO HB HG6 hw7; have HO := HOq; have HB := HBq; have HG6 := HGq; clear HOq HBq HGq))
    clear HC1 HR1 E1 E4
    go_loopg [7, 8] N (fun kq v7 v8 w' => ∃ (i : Nat) (q kk : Int), v7 = .int .i64 q ∧ v8 = .int .i64 kk ∧ Aside0 (kk = (i : Int) - 1) ∧ Aside0 (i ≤ N) ∧ Aside0 (i = kq) ∧ Aside0 (cScan M i q = cScan M N (-1)) ∧ Aside0 (q < (N : Int)) ∧ Aside0 (w'.heap[g6]? = some (.cells (dArr M) 87 (0, 0))) ∧ Aside0 (Kd.R (Kd.int .i64) 3 w' w.heap.size (fun _ => True) v1 []) ∧ Aside0 (Below w.heap.size w w'))
    case atStart => exact ⟨N, -1, _, rfl, rfl, ⟨by first | rfl | (have := HN.out; unfold wrap64; omega)⟩, ⟨Nat.le_refl _⟩, ⟨rfl⟩, ⟨rfl⟩, ⟨by omega⟩, HG6, HO, HB⟩
    case round =>
      clear HG6 HO HB
      obtain ⟨i, q, kk, rfl, rfl, hkk, HI, HK, HS, HQ, HG6, HO, HB⟩ := hrel
      cases i with
      | succ j =>
        obtain rfl : kk = (j : Int) := by have := hkk.out; omega
        clear hkk
        have hj16 : j < 16 := by have := HN.out; have := HI.out; omega
        have cell : ∀ p, p < 256 → wr.cell? ⟨g6, p, none⟩ = some (.int .i64 (M.getD p 0)) := fun p hp => by
          rw [blk_cell HG6.out]
          exact dArr_get (by have := HM.out; omega)
        have hx1 : wr.cell? ⟨g6, j * 16 + j, none⟩ = some (.int .i64 (dGet M j j)) := cell _ (by omega)
        by_cases d1 : dGet M j j > 0
        · have db1 : decide (0 < dGet M j j) = true := decide_eq_true d1
          by_cases d2 : q < 0
          · have db2 : decide (q < 0) = true := decide_eq_true d2
            clear cell
            have HS2 := Aside0.mk (show cScan M j (j : Int) = cScan M N (-1) by rw [← HS.out, cScan_succ, if_pos ⟨d1, Or.inl d2⟩])
            clear HS
            go_wp2
            go_region
            all_goals go_wp2
            all_goals go_roundg j
            case measure => have := HK.out; omega
            case rel => exact ⟨j, (j : Int), _, rfl, rfl, ⟨by first | rfl | (unfold wrap64; omega)⟩, ⟨by have := HI.out; omega⟩, ⟨rfl⟩, HS2, ⟨by have := HI.out; omega⟩, HG6, ⟨by (with_reducible repeat (first | apply Kd.R_alloc | apply Kd.R_drewN | apply Kd.R_drew)); exact HO.out⟩, ⟨by repeat (first | (with_reducible first | exact HB.out | apply below_alloc | apply pw_below_drewN | apply below_drew1) | exact HB.out)⟩⟩
          · have db2 : decide (q < 0) = false := decide_eq_false d2
            obtain ⟨p, rfl⟩ : ∃ p : Nat, q = (p : Int) := ⟨q.toNat, by omega⟩
            have hp16 : p < 16 := by have := HN.out; have := HQ.out; omega
            have hx2 : wr.cell? ⟨g6, p * 16 + p, none⟩ = some (.int .i64 (dGet M p p)) := cell _ (by omega)
            clear cell
            by_cases d3 : dGet M j j ≤ dGet M p p
            · have db3 : decide (dGet M j j ≤ dGet M p p) = true := decide_eq_true d3
              have HS2 := Aside0.mk (show cScan M j (j : Int) = cScan M N (-1) by rw [← HS.out, cScan_succ, if_pos ⟨d1, Or.inr (by rw [Int.toNat_natCast]; exact d3)⟩])
              clear HS
              go_wp2
              go_region
              all_goals go_wp2
              all_goals go_roundg j
              case measure => have := HK.out; omega
              case rel => exact ⟨j, (j : Int), _, rfl, rfl, ⟨by first | rfl | (unfold wrap64; omega)⟩, ⟨by have := HI.out; omega⟩, ⟨rfl⟩, HS2, ⟨by have := HI.out; omega⟩, HG6, ⟨by (with_reducible repeat (first | apply Kd.R_alloc | apply Kd.R_drewN | apply Kd.R_drew)); exact HO.out⟩, ⟨by repeat (first | (with_reducible first | exact HB.out | apply below_alloc | apply pw_below_drewN | apply below_drew1) | exact HB.out)⟩⟩
            · have db3 : decide (dGet M j j ≤ dGet M p p) = false := decide_eq_false d3
              have HS2 := Aside0.mk (show cScan M j (p : Int) = cScan M N (-1) by rw [← HS.out, cScan_succ, if_neg (by rintro ⟨_, h | h⟩; exact d2 h; rw [Int.toNat_natCast] at h; exact d3 h)])
              clear HS
              go_wp2
              go_region
              all_goals go_wp2
              all_goals go_roundg j
              case measure => have := HK.out; omega
              case rel => exact ⟨j, (p : Int), _, rfl, rfl, ⟨by first | rfl | (unfold wrap64; omega)⟩, ⟨by have := HI.out; omega⟩, ⟨rfl⟩, HS2, ⟨HQ.out⟩, HG6, ⟨by (with_reducible repeat (first | apply Kd.R_alloc | apply Kd.R_drewN | apply Kd.R_drew)); exact HO.out⟩, ⟨by repeat (first | (with_reducible first | exact HB.out | apply below_alloc | apply pw_below_drewN | apply below_drew1) | exact HB.out)⟩⟩
        · have db1 : decide (0 < dGet M j j) = false := decide_eq_false d1
          have HS2 := Aside0.mk (show cScan M j q = cScan M N (-1) by rw [← HS.out, cScan_succ, if_neg (fun h => d1 h.1)])
          clear HS
          clear cell
          go_wp2
          go_region
          all_goals go_wp2
          all_goals go_roundg j
          case measure => have := HK.out; omega
          case rel => exact ⟨j, q, _, rfl, rfl, ⟨by first | rfl | (unfold wrap64; omega)⟩, ⟨by have := HI.out; omega⟩, ⟨rfl⟩, HS2, ⟨HQ.out⟩, HG6, ⟨by (with_reducible repeat (first | apply Kd.R_alloc | apply Kd.R_drewN | apply Kd.R_drew)); exact HO.out⟩, ⟨by repeat (first | (with_reducible first | exact HB.out | apply below_alloc | apply pw_below_drewN | apply below_drew1) | exact HB.out)⟩⟩
      | zero =>
        obtain rfl : kk = -1 := by have := hkk.out; omega
        clear hkk
        have hs : q = cScan M N (-1) := HS.out
        rw [← hs] at H
        clear hs HS
        by_cases d2 : q < 0
        · have db2 : decide (q < 0) = true := decide_eq_true d2
          have h := H.out
          rw [if_pos d2] at h
          obtain rfl := Option.some.inj h
          clear h
          go_wp2
          go_ret
          exact ⟨_, rfl, HO.out, HB.out⟩
        · have db2 : decide (q < 0) = false := decide_eq_false d2
          obtain ⟨p, rfl⟩ : ∃ p : Nat, q = (p : Int) := ⟨q.toNat, by omega⟩
          have hp16 : p < 16 := by have := HN.out; have := HQ.out; omega
          have h := H.out
          rw [if_neg d2, Int.toNat_natCast] at h
          by_cases d3 : 0 < dGet M p p ∧ dGet M p p ≤ 1000000
          case neg => rw [if_neg d3] at h; cases h
          rw [if_pos d3] at h
          have HR := Aside0.mk (Option.some.inj h)
          have HD := Aside0.mk d3
          clear h d3 H
          have HW := Aside0.mk (show wrap64 (dGet M p p - 1) = dGet M p p - 1 by have := HD.out; unfold wrap64; omega)
          have hx1 : wr.cell? ⟨g6, p * 16 + p, none⟩ = some (.int .i64 (dGet M p p)) := by
            rw [blk_cell HG6.out]
            exact dArr_get (by have := HM.out; omega)
          obtain ⟨Ao, co, eo⟩ := Kd.R_slice HO.out
          subst eo
          go_wp2_with (first | ((with_reducible refine gate_builtin (b := .append) (xs := #[.tmp 53, .tmp 55]) rfl ?_); at_builtin; refine Kd.R_append (Kd.int .i64) (w0 := w) w.heap.size rfl (.tmp 53) (.tmp 55) 36 3 (.int .i64 0) 8 rfl Try.underlying36 info3 rfl (by decide) (by omega) (.slice Ao 0 co) ([] : List Int) (p : Int) [.int .i64 (p : Int)] (fun _ => True) (fun _ => False) rfl rfl ?aP (fun _ hk => hk.elim) ?aF ?aO ?aB ?aS ?aL ?_; (case aP => exact rfl); (case aB => exact (by repeat (first | (with_reducible first | exact HB.out | apply below_alloc | apply pw_below_drewN | apply below_drew1) | exact HB.out))); (case aF => exact (fun _ _ => trivial)); (case aO => exact (by (with_reducible repeat (first | apply Kd.R_alloc | apply Kd.R_drewN | apply Kd.R_drew)); exact HO.out)); (case aS => exact (below_size (by repeat (first | (with_reducible first | exact HB.out | apply below_alloc | apply pw_below_drewN | apply below_drew1) | exact HB.out)))); (case aL => show (0 + 1) * 8 ≤ 140737488355328; omega); intro v5 w5 ho hb hg hat; have HGq := Aside0.mk (blk_grown HG6.out hg (Kd.R_ne HO.out HG6.out (by decide))); have n0_ := Aside0.mk hb; have n1_ := Aside0.mk ho; clear HB HO HG6; have HB := n0_; have HO := n1_; have HG6 := HGq; have hx2 : w5.cell? ⟨g6, p * 16 + p, none⟩ = some (.int .i64 (dGet M p p)) := (by rw [blk_cell HG6.out]; exact dArr_get (by have := HM.out; omega)); clear n0_ n1_ HGq hx1; clear ho hb hg hat))
          clear hx2
          go_loopg [5, 9] (dGet M p p - 1).toNat (fun kq v5 v9 w' => ∃ (o : List Int) (lf : Int), v9 = .int .i64 lf ∧ Aside0 (lf.toNat = kq) ∧ Aside0 (cLoop M N p lf.toNat o = r) ∧ Aside0 (o.length + lf.toNat ≤ 1000002) ∧ Aside0 (o ≠ []) ∧ Aside0 (∀ x ∈ o, 0 ≤ x ∧ x < 16) ∧ Aside0 (w'.heap[g6]? = some (.cells (dArr M) 87 (0, 0))) ∧ Aside0 (Kd.R (Kd.int .i64) 3 w' w.heap.size (fun _ => True) v5 o) ∧ Aside0 (Below w.heap.size w w'))
          case atStart => exact ⟨[(p : Int)], _, rfl, ⟨by rw [HW.out]⟩, ⟨by rw [HW.out]; exact HR.out⟩, ⟨by have := HD.out; (try rw [HW.out]); simp only [List.length_singleton]; omega⟩, ⟨by simp⟩, ⟨by intro x hx; rw [List.mem_singleton.1 hx]; omega⟩, HG6, HO, HB⟩
          case round =>
            clear HG6 HO HB HR
            obtain ⟨o, lf, rfl, HKK, HR, HLM, HNE, HALL, HG6, HO, HB⟩ := hrel
            by_cases c1 : lf > 0
            · have cb1 : decide (0 < lf) = true := decide_eq_true c1
              obtain ⟨m, rfl⟩ : ∃ m : Nat, lf = ((m + 1 : Nat) : Int) := ⟨lf.toNat - 1, by omega⟩
              rw [Int.toNat_natCast] at HKK HR HLM
              obtain ⟨Ao2, co2, eo2⟩ := Kd.R_slice HO.out
              subst eo2
              obtain ⟨t, ht⟩ : ∃ t, o.length = t + 1 := ⟨o.length - 1, by have := List.length_pos_iff.2 HNE.out; omega⟩
              obtain ⟨ad, ead, hx0⟩ := Kd.at_int (Kd.R_reads' HO.out).2.2 (t : Int) (by omega) (by omega)
              cases ead
              have hlast : rd o (t : Int) = o.getLastD 0 := by
                unfold rd
                rw [Int.toNat_natCast, List.getD_eq_getElem?_getD, List.getLastD_eq_getLast?, List.getLast?_eq_getElem?, ht]
                rfl
              rw [hlast, Int.toNat_natCast] at hx0
              have hmem : 0 ≤ o.getLastD 0 ∧ o.getLastD 0 < 16 := by
                have h1 : o.getLastD 0 ∈ o := by
                  rw [← hlast]
                  unfold rd
                  rw [Int.toNat_natCast, List.getD_eq_getElem?_getD, List.getElem?_eq_getElem (by omega)]
                  exact List.getElem_mem _
                exact HALL.out _ h1
              obtain ⟨z, hz⟩ : ∃ z : Nat, o.getLastD 0 = (z : Int) := ⟨(o.getLastD 0).toNat, by omega⟩
              rw [hz] at hx0
              have hz16 : z < 16 := by omega
              have HR2 := Aside0.mk (show (match (List.range N).find? (cNext M N p (z : Int) ((m + 1 : Nat) : Int)) with | some v => cLoop M N p m (o ++ [(v : Int)]) | none => cLoop M N p m o) = r by rw [← HR.out, cLoop, hz])
              have HT := Aside0.mk ht
              rw [ht] at HO
              clear hmem hlast hz HR
              go_wp2
              go_loopg [5, 68] N (fun kq v5 v68 w' => ∃ v : Nat, v5 = .slice (some ad) (t + 1) co2 ∧ v68 = .int .i64 (v : Int) ∧ Aside0 (v + kq = N) ∧ Aside0 ((List.range N).find? (cNext M N p (z : Int) ((m + 1 : Nat) : Int)) = ((List.range N).drop v).find? (cNext M N p (z : Int) ((m + 1 : Nat) : Int))) ∧ Aside0 (w'.heap[g6]? = some (.cells (dArr M) 87 (0, 0))) ∧ Aside0 (w'.cell? (ad.add t) = some (.int .i64 (z : Int))) ∧ Aside0 (Kd.R (Kd.int .i64) 3 w' w.heap.size (fun _ => True) (.slice (some ad) (t + 1) co2) o) ∧ Aside0 (Below w.heap.size w w'))
              case atStart => exact ⟨0, by first | rfl | rw [HT.out], rfl, ⟨by omega⟩, ⟨rfl⟩, HG6, ⟨hx0⟩, HO, HB⟩
              case round =>
                clear HG6 HO HB hx0
                obtain ⟨v, rfl, rfl, HV, HF, HG6, HX0, HO, HB⟩ := hrel
                by_cases c2 : v < N
                · have cb2 : decide ((v : Int) < (N : Int)) = true := by simpa using c2
                  have hv16 : v < 16 := by have := HN.out; omega
                  have hx0 := HX0.out
                  have ht0 : t < 1000002 := by have := HLM.out; have := HT.out; omega
                  have hm0 : m < 1000002 := by have := HLM.out; omega
                  have cell : ∀ q, q < 256 → wr.cell? ⟨g6, q, none⟩ = some (.int .i64 (M.getD q 0)) := fun q hq => by
                    rw [blk_cell HG6.out]
                    exact dArr_get (by have := HM.out; omega)
                  have hx1 : wr.cell? ⟨g6, z * 16 + v, none⟩ = some (.int .i64 (dGet M z v)) := cell _ (by omega)
                  have hx2 : wr.cell? ⟨g6, v * 16 + p, none⟩ = some (.int .i64 (dGet M v p)) := cell _ (by omega)
                  clear cell
                  have hd : (List.range N).drop v = v :: (List.range N).drop (v + 1) := by rw [List.drop_eq_getElem_cons (by simpa using c2), List.getElem_range]
                  by_cases d1 : dGet M z v = 1
                  · have db1 : (dGet M z v == 1) = true := beq_iff_eq.mpr d1
                    by_cases d2 : dGet M v p = ((m + 1 : Nat) : Int)
                    · have db2 : (dGet M v p == (((m + 1 : Nat) : Int))) = true := beq_iff_eq.mpr d2
                      have HR3 := Aside0.mk (show cLoop M N p m (o ++ [(v : Int)]) = r by
                        have h := HR2.out
                        rw [HF.out, hd, List.find?_cons, show cNext M N p (z : Int) ((m + 1 : Nat) : Int) v = true by unfold cNext; rw [Int.toNat_natCast, decide_eq_true d1, decide_eq_true d2]; rfl] at h
                        exact h)
                      go_wp2_with (first | ((with_reducible refine gate_builtin (b := .append) (xs := #[.tmp 91, .tmp 93]) rfl ?_); at_builtin; refine Kd.R_append (Kd.int .i64) (w0 := w) w.heap.size rfl (.tmp 91) (.tmp 93) 36 3 (.int .i64 0) 8 rfl Try.underlying36 info3 rfl (by decide) (by omega) (.slice (some ad) (t + 1) co2) o (v : Int) [.int .i64 (v : Int)] (fun _ => True) (fun _ => False) rfl rfl ?aP (fun _ hk => hk.elim) ?aF ?aO ?aB ?aS ?aL ?_; (case aP => exact rfl); (case aB => exact (by repeat (first | (with_reducible first | exact HB.out | apply below_alloc | apply pw_below_drewN | apply below_drew1) | exact HB.out))); (case aF => exact (fun _ _ => trivial)); (case aO => exact (by (with_reducible repeat (first | apply Kd.R_alloc | apply Kd.R_drewN | apply Kd.R_drew)); exact HO.out)); (case aS => exact (below_size (by repeat (first | (with_reducible first | exact HB.out | apply below_alloc | apply pw_below_drewN | apply below_drew1) | exact HB.out)))); (case aL => have := HLM.out; have := HT.out; omega); intro v5 w5 ho hb hg hat; have HGq := Aside0.mk (blk_grown HG6.out hg (Kd.R_ne HO.out HG6.out (by decide))); have n0_ := Aside0.mk hb; have n1_ := Aside0.mk ho; clear HB HO HG6; have HB := n0_; have HO := n1_; have HG6 := HGq; clear n0_ n1_ HGq; clear ho hb hg hat))
                      go_roundg m
                      case measure => have := HKK.out; omega
                      case rel => exact ⟨o ++ [(v : Int)], (m : Int), (by first | rfl | (congr 1; unfold wrap64; omega)), ⟨Int.toNat_natCast m⟩, ⟨by rw [Int.toNat_natCast]; exact HR3.out⟩, ⟨by have := HLM.out; simp only [List.length_append, List.length_singleton, Int.toNat_natCast]; omega⟩, ⟨by simp⟩, ⟨by intro x hx; rcases List.mem_append.1 hx with hx | hx; exact HALL.out x hx; rw [List.mem_singleton.1 hx]; omega⟩, HG6, HO, HB⟩
                    · have db2 : (dGet M v p == (((m + 1 : Nat) : Int))) = false := beq_eq_false_iff_ne.mpr d2
                      have HF2 := Aside0.mk (show (List.range N).find? (cNext M N p (z : Int) ((m + 1 : Nat) : Int)) = ((List.range N).drop (v + 1)).find? (cNext M N p (z : Int) ((m + 1 : Nat) : Int)) by
                        rw [HF.out, hd, List.find?_cons, show cNext M N p (z : Int) ((m + 1 : Nat) : Int) v = false by unfold cNext; rw [Int.toNat_natCast, decide_eq_true d1, decide_eq_false d2]; rfl])
                      go_wp2
                      go_roundg (N - (v + 1))
                      case measure => have := HV.out; omega
                      case rel => exact ⟨v + 1, rfl, (by first | rfl | rw [dW v (by omega)]), ⟨by omega⟩, HF2, HG6, HX0, HO, HB⟩
                  · have db1 : (dGet M z v == 1) = false := beq_eq_false_iff_ne.mpr d1
                    have HF2 := Aside0.mk (show (List.range N).find? (cNext M N p (z : Int) ((m + 1 : Nat) : Int)) = ((List.range N).drop (v + 1)).find? (cNext M N p (z : Int) ((m + 1 : Nat) : Int)) by
                        rw [HF.out, hd, List.find?_cons, show cNext M N p (z : Int) ((m + 1 : Nat) : Int) v = false by unfold cNext; rw [Int.toNat_natCast, decide_eq_false d1]; rfl])
                    go_wp2
                    go_roundg (N - (v + 1))
                    case measure => have := HV.out; omega
                    case rel => exact ⟨v + 1, rfl, (by first | rfl | rw [dW v (by omega)]), ⟨by omega⟩, HF2, HG6, HX0, HO, HB⟩
                · have cb2 : decide ((v : Int) < (N : Int)) = false := by simpa using c2
                  have HR3 := Aside0.mk (show cLoop M N p m o = r by
                    have h := HR2.out
                    rw [HF.out, List.drop_of_length_le (by rw [List.length_range]; omega)] at h
                    exact h)
                  have hm0 : m < 1000002 := by have := HLM.out; omega
                  go_wp2
                  go_roundg m
                  case measure => have := HKK.out; omega
                  case rel => exact ⟨o, (m : Int), (by first | rfl | (congr 1; unfold wrap64; omega)), ⟨Int.toNat_natCast m⟩, ⟨by rw [Int.toNat_natCast]; exact HR3.out⟩, ⟨by have := HLM.out; rw [Int.toNat_natCast]; omega⟩, HNE, HALL, HG6, HO, HB⟩
            · have cb1 : decide (0 < lf) = false := decide_eq_false c1
              have h := HR.out
              rw [show lf.toNat = 0 by omega, cLoop] at h
              subst h
              go_wp2
              go_ret
              exact ⟨_, rfl, HO.out, HB.out⟩

end Go.Proofs.Ytapbpfbhghheeaa.PFnCircle
