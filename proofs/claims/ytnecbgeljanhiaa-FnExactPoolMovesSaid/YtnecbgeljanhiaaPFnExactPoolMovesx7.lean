-- written by wip/tools/myprint.py out of the program's own print
import Derived.Test.YtnecbgeljanhiaaPFnExactPoolMovesx0
import Derived.Test.YtnecbgeljanhiaaPFnExactPoolMovesx2
import Derived.Test.YtnecbgeljanhiaaPFnExactPoolMovesx4
import Derived.Test.YtnecbgeljanhiaaPFnExactPoolMovesx6
namespace Go.Proofs.Ytnecbgeljanhiaa.PFnExactPoolMoves
open Go.Proofs.Ytnecbgeljanhiaa.Own (rS cS bS rB rN rT kS kC kc10 kf10)
open Go.RowKit Go.Proofs.YtnecbgeljanhiaaW.PrintWords Go.Proofs.YtnecbgeljanhiaaW.PrintLast Go.Proofs.YtnecbgeljanhiaaW.PrintMore
attribute [local go_sem] max2_int min2_int max_two min_two max_three min_three max_four min_four   -- for this text's walks alone
set_option linter.unusedVariables false
set_option linter.unusedSimpArgs false

/-! ### laws_FnExactPoolMoves: function 4 -/
def laws_FnExactPoolMoves.f (k : Nat) (a0 : Int) (l1 : List (S98)) (a2 : Int) (l3 : List (S107)) : Option (Bool) := (laws_szEdgeS.f l1 1048576).bind fun t196 => (if t196 < 0 then (some true) else ((laws_szMoveS.f l3 t196).bind fun t197 => (if t197 < 0 then (some true) else ((laws_toEdgeS.f k l1).bind fun t198 => ((laws_toMoveS.f k l3).bind fun t201 => ((spec_PoolMoves.f k a0 t198 a2 t201).bind fun bt204 => ((laws_toEdgeS.f k l1).bind fun t208 => ((laws_toMoveS.f k l3).bind fun t211 => ((impl_PoolMoves.f k a0 t208 a2 t211).bind fun bt214 => ((laws_eqMoveS.f k bt214.1 bt204.1).bind fun t218 => (if t218 = true then (if (bt214.2 != bt204.2) = true then (none) else ((laws_toEdgeS.f k l1).bind fun t219 => ((laws_eqEdgeS.f k t208 t219).bind fun t222 => (if t222 = true then ((laws_toMoveS.f k l3).bind fun t223 => ((laws_eqMoveS.f k t211 t223).bind fun t226 => (if t226 = true then ((laws_markEdgeS.f k t208 1).bind fun bt227 => ((laws_markMoveS.f k t211 bt227.1).bind fun bt229 => (if bt229.1 < 0 then (none) else ((laws_eqMoveS.f k bt214.1 bt204.1).bind fun t231 => (if t231 = true then ((laws_markMoveS.f k bt214.1 1).bind fun bt232 => ((laws_heldMoveS.f k bt232.2 1).bind fun t234 => (if t234 < 0 then (none) else (if t234 = bt232.1 then ((laws_toEdgeS.f k l1).bind fun t235 => ((laws_toMoveS.f k l3).bind fun t238 => ((impl_PoolMoves.f k a0 t235 a2 t238).bind fun bt241 => ((laws_eqMoveS.f k bt241.1 bt204.1).bind fun t245 => (if t245 = true then (if (bt241.2 != bt204.2) = true then (none) else ((laws_heldMoveS.f k bt232.2 1).bind fun t246 => (if t246 < 0 then (none) else (if t246 = bt232.1 then (some true) else (none))))) else (none)))))) else (none))))) else (none)))))) else (none)))) else (none))))) else (none))))))))))))
theorem laws_FnExactPoolMoves.mono : ∀ a0 a1 a2 a3 k, LeO (laws_FnExactPoolMoves.f k a0 a1 a2 a3) (laws_FnExactPoolMoves.f (k + 1) a0 a1 a2 a3) := by
 intro a0 a1 a2 a3 k
 unfold laws_FnExactPoolMoves.f
 repeat' first
   | (with_reducible exact impl_PoolMoves.mono _ _ _ _ _)
   | (with_reducible exact laws_eqEdgeS.mono _ _ _)
   | (with_reducible exact laws_eqMoveS.mono _ _ _)
   | (with_reducible exact laws_heldMoveS.mono _ _ _)
   | (with_reducible exact laws_markEdgeS.mono _ _ _)
   | (with_reducible exact laws_markMoveS.mono _ _ _)
   | (with_reducible exact laws_toEdgeS.mono _ _)
   | (with_reducible exact laws_toMoveS.mono _ _)
   | (with_reducible exact spec_PoolMoves.mono _ _ _ _ _)
   | (with_reducible exact LeO.refl _)
   | (with_reducible exact LeO.none _)
   | (with_reducible refine LeO.ite ?_ ?_)
   | (with_reducible refine LeO.bind ?_ (fun _ => ?_))
   | exact impl_PoolMoves.mono _ _ _ _ _
   | exact laws_eqEdgeS.mono _ _ _
   | exact laws_eqMoveS.mono _ _ _
   | exact laws_heldMoveS.mono _ _ _
   | exact laws_markEdgeS.mono _ _ _
   | exact laws_markMoveS.mono _ _ _
   | exact laws_toEdgeS.mono _ _
   | exact laws_toMoveS.mono _ _
   | exact spec_PoolMoves.mono _ _ _ _ _
   | exact LeO.none _
   | refine LeO.ite ?_ ?_
   | refine LeO.bind ?_ (fun _ => ?_)
set_option maxHeartbeats 8000000 in
set_option maxRecDepth 100000 in
theorem laws_FnExactPoolMoves.calls (k : Nat) (a0 : Int) (A1 : Option Addr) (c1 : Nat) (l1 : List (S98)) (a2 : Int) (A3 : Option Addr) (c3 : Nat) (l3 : List (S107)) (r : Bool) (w : World) (hr1 : Kd.C k98 w A1 l1.length l1) (hc1 : l1.length ≤ c1) (hr3 : Kd.C k107 w A3 l3.length l3) (hc3 : l3.length ≤ c3) (h : laws_FnExactPoolMoves.f k a0 l1 a2 l3 = some r) :
  Calls Try.prog 4 #[.int .i64 a0, .slice A1 l1.length c1, .int .i64 a2, .slice A3 l3.length c3] w fun e w' => e = .returned (.bool r) ∧ Below w.heap.size w w' := by
 have HR1 := Aside0.mk hr1
 have HC1 := Aside0.mk hc1
 clear hr1 hc1
 have HR3 := Aside0.mk hr3
 have HC3 := Aside0.mk hc3
 clear hr3 hc3
 have HB := Aside0.mk (Below.refl w.heap.size w)
 have H : ((laws_szEdgeS.f l1 1048576).bind fun t196 => (if t196 < 0 then (some true) else ((laws_szMoveS.f l3 t196).bind fun t197 => (if t197 < 0 then (some true) else ((laws_toEdgeS.f k l1).bind fun t198 => ((laws_toMoveS.f k l3).bind fun t201 => ((spec_PoolMoves.f k a0 t198 a2 t201).bind fun bt204 => ((laws_toEdgeS.f k l1).bind fun t208 => ((laws_toMoveS.f k l3).bind fun t211 => ((impl_PoolMoves.f k a0 t208 a2 t211).bind fun bt214 => ((laws_eqMoveS.f k bt214.1 bt204.1).bind fun t218 => (if t218 = true then (if (bt214.2 != bt204.2) = true then (none) else ((laws_toEdgeS.f k l1).bind fun t219 => ((laws_eqEdgeS.f k t208 t219).bind fun t222 => (if t222 = true then ((laws_toMoveS.f k l3).bind fun t223 => ((laws_eqMoveS.f k t211 t223).bind fun t226 => (if t226 = true then ((laws_markEdgeS.f k t208 1).bind fun bt227 => ((laws_markMoveS.f k t211 bt227.1).bind fun bt229 => (if bt229.1 < 0 then (none) else ((laws_eqMoveS.f k bt214.1 bt204.1).bind fun t231 => (if t231 = true then ((laws_markMoveS.f k bt214.1 1).bind fun bt232 => ((laws_heldMoveS.f k bt232.2 1).bind fun t234 => (if t234 < 0 then (none) else (if t234 = bt232.1 then ((laws_toEdgeS.f k l1).bind fun t235 => ((laws_toMoveS.f k l3).bind fun t238 => ((impl_PoolMoves.f k a0 t235 a2 t238).bind fun bt241 => ((laws_eqMoveS.f k bt241.1 bt204.1).bind fun t245 => (if t245 = true then (if (bt241.2 != bt204.2) = true then (none) else ((laws_heldMoveS.f k bt232.2 1).bind fun t246 => (if t246 < 0 then (none) else (if t246 = bt232.1 then (some true) else (none))))) else (none)))))) else (none))))) else (none)))))) else (none)))) else (none))))) else (none))))))))))))) = some r := h
 clear h
 replace H := Option.bind_eq_some_iff.mp H
 obtain ⟨t196, A50, H⟩ := H
 (try dsimp only at H)
 have A5 := Aside0.mk A50
 clear A50
 by_cases c6 : t196 < 0
 ·rw [if_pos c6] at H
  have c6b0 : decide (t196 < 0) = true := decide_eq_true c6
  clear c6
  obtain rfl := Option.some.inj H
  go_enter Try.func4, Try.ntmps4
  go_wp2_with (first | ((with_reducible refine gate_callee (f := 15) rfl ?_); refine goesL_ (some 23) rfl rfl Try.func15 (by kernel_rfl) rfl #[.slice A1 l1.length c1, .int .i64 1048576] rfl (by (try simp only [List.map_toArray, List.map_cons, List.map_nil]); first | done | rfl | (simp only [List.length_drop, List.length_take]; rfl)) ?_; (with_reducible refine (laws_szEdgeS.calls _ _ l1 1048576 t196 _ ?side1 ?side2 A5.out).mono ?_); (case side1 => exact cS HR1.out); (case side2 => exact HC1.out); rintro e w' ⟨rfl, ⟨nd, rfl⟩⟩; refine ⟨_, rfl, ?_⟩))
  go_ret
  exact ⟨by first | rfl | (simp [errW_none, errW_some] <;> rfl) | (simp [*, errW_none, errW_some] <;> rfl), by repeat (first | (with_reducible first | exact HB.out | apply below_alloc | apply pw_below_drewN | apply below_drew1) | exact HB.out)⟩
 ·rw [if_neg c6] at H
  have c6b0 : decide (t196 < 0) = false := decide_eq_false c6
  clear c6
  replace H := Option.bind_eq_some_iff.mp H
  obtain ⟨t197, A70, H⟩ := H
  (try dsimp only at H)
  have A7 := Aside0.mk A70
  clear A70
  by_cases c8 : t197 < 0
  ·rw [if_pos c8] at H
   have c8b0 : decide (t197 < 0) = true := decide_eq_true c8
   clear c8
   obtain rfl := Option.some.inj H
   go_enter Try.func4, Try.ntmps4
   go_wp2_with (first | ((with_reducible refine gate_callee (f := 15) rfl ?_); refine goesL_ (some 23) rfl rfl Try.func15 (by kernel_rfl) rfl #[.slice A1 l1.length c1, .int .i64 1048576] rfl (by (try simp only [List.map_toArray, List.map_cons, List.map_nil]); first | done | rfl | (simp only [List.length_drop, List.length_take]; rfl)) ?_; (with_reducible refine (laws_szEdgeS.calls _ _ l1 1048576 t196 _ ?side1 ?side2 A5.out).mono ?_); (case side1 => exact cS HR1.out); (case side2 => exact HC1.out); rintro e w' ⟨rfl, ⟨nd, rfl⟩⟩; refine ⟨_, rfl, ?_⟩) | ((with_reducible refine gate_callee (f := 22) rfl ?_); refine goesL_ (some 28) rfl rfl Try.func22 (by kernel_rfl) rfl #[.slice A3 l3.length c3, .int .i64 t196] rfl (by (try simp only [List.map_toArray, List.map_cons, List.map_nil]); first | done | rfl | (simp only [List.length_drop, List.length_take]; rfl)) ?_; (with_reducible refine (laws_szMoveS.calls _ _ l3 t196 t197 _ ?side1 ?side2 A7.out).mono ?_); (case side1 => exact cS HR3.out); (case side2 => exact HC3.out); rintro e w' ⟨rfl, ⟨nd, rfl⟩⟩; refine ⟨_, rfl, ?_⟩))
   go_ret
   exact ⟨by first | rfl | (simp [errW_none, errW_some] <;> rfl) | (simp [*, errW_none, errW_some] <;> rfl), by repeat (first | (with_reducible first | exact HB.out | apply below_alloc | apply pw_below_drewN | apply below_drew1) | exact HB.out)⟩
  ·rw [if_neg c8] at H
   have c8b0 : decide (t197 < 0) = false := decide_eq_false c8
   clear c8
   replace H := Option.bind_eq_some_iff.mp H
   obtain ⟨t198, A90, H⟩ := H
   (try dsimp only at H)
   have A9 := Aside0.mk A90
   clear A90
   replace H := Option.bind_eq_some_iff.mp H
   obtain ⟨t201, A100, H⟩ := H
   (try dsimp only at H)
   have A10 := Aside0.mk A100
   clear A100
   replace H := Option.bind_eq_some_iff.mp H
   obtain ⟨⟨t204, t205⟩, A110, H⟩ := H
   (try dsimp only at H)
   have A11 := Aside0.mk A110
   clear A110
   replace H := Option.bind_eq_some_iff.mp H
   obtain ⟨t208, A120, H⟩ := H
   (try dsimp only at H)
   have A12 := Aside0.mk A120
   clear A120
   replace H := Option.bind_eq_some_iff.mp H
   obtain ⟨t211, A130, H⟩ := H
   (try dsimp only at H)
   have A13 := Aside0.mk A130
   clear A130
   replace H := Option.bind_eq_some_iff.mp H
   obtain ⟨⟨t214, t215⟩, A140, H⟩ := H
   (try dsimp only at H)
   have A14 := Aside0.mk A140
   clear A140
   replace H := Option.bind_eq_some_iff.mp H
   obtain ⟨t218, A150, H⟩ := H
   (try dsimp only at H)
   have A15 := Aside0.mk A150
   clear A150
   by_cases c16 : t218 = true
   ·subst c16
    have H1 : (if (t215 != t205) = true then (none) else ((laws_toEdgeS.f k l1).bind fun t219 => ((laws_eqEdgeS.f k t208 t219).bind fun t222 => (if t222 = true then ((laws_toMoveS.f k l3).bind fun t223 => ((laws_eqMoveS.f k t211 t223).bind fun t226 => (if t226 = true then ((laws_markEdgeS.f k t208 1).bind fun bt227 => ((laws_markMoveS.f k t211 bt227.1).bind fun bt229 => (if bt229.1 < 0 then (none) else ((laws_eqMoveS.f k t214 t204).bind fun t231 => (if t231 = true then ((laws_markMoveS.f k t214 1).bind fun bt232 => ((laws_heldMoveS.f k bt232.2 1).bind fun t234 => (if t234 < 0 then (none) else (if t234 = bt232.1 then ((laws_toEdgeS.f k l1).bind fun t235 => ((laws_toMoveS.f k l3).bind fun t238 => ((impl_PoolMoves.f k a0 t235 a2 t238).bind fun bt241 => ((laws_eqMoveS.f k bt241.1 t204).bind fun t245 => (if t245 = true then (if (bt241.2 != t205) = true then (none) else ((laws_heldMoveS.f k bt232.2 1).bind fun t246 => (if t246 < 0 then (none) else (if t246 = bt232.1 then (some true) else (none))))) else (none)))))) else (none))))) else (none)))))) else (none)))) else (none))))) = some r := by rw [if_pos rfl] at H; exact H
    clear H
    have H := H1
    clear H1
    by_cases c17 : (t215 != t205) = true
    ·rw [if_pos c17] at H
     exact absurd H (by simp)
    ·rw [if_neg c17] at H
     have c17b0 : (t215 != t205) = false := by simpa using c17
     (try (have c17b1 : decide (t215 = t205) = true := by simpa using c17))
     (try (have c17b2 : (t215 == t205) = true := by simpa using c17))
     clear c17
     replace H := Option.bind_eq_some_iff.mp H
     obtain ⟨t219, A180, H⟩ := H
     (try dsimp only at H)
     have A18 := Aside0.mk A180
     clear A180
     replace H := Option.bind_eq_some_iff.mp H
     obtain ⟨t222, A190, H⟩ := H
     (try dsimp only at H)
     have A19 := Aside0.mk A190
     clear A190
     by_cases c20 : t222 = true
     ·subst c20
      have H1 : ((laws_toMoveS.f k l3).bind fun t223 => ((laws_eqMoveS.f k t211 t223).bind fun t226 => (if t226 = true then ((laws_markEdgeS.f k t208 1).bind fun bt227 => ((laws_markMoveS.f k t211 bt227.1).bind fun bt229 => (if bt229.1 < 0 then (none) else ((laws_eqMoveS.f k t214 t204).bind fun t231 => (if t231 = true then ((laws_markMoveS.f k t214 1).bind fun bt232 => ((laws_heldMoveS.f k bt232.2 1).bind fun t234 => (if t234 < 0 then (none) else (if t234 = bt232.1 then ((laws_toEdgeS.f k l1).bind fun t235 => ((laws_toMoveS.f k l3).bind fun t238 => ((impl_PoolMoves.f k a0 t235 a2 t238).bind fun bt241 => ((laws_eqMoveS.f k bt241.1 t204).bind fun t245 => (if t245 = true then (if (bt241.2 != t205) = true then (none) else ((laws_heldMoveS.f k bt232.2 1).bind fun t246 => (if t246 < 0 then (none) else (if t246 = bt232.1 then (some true) else (none))))) else (none)))))) else (none))))) else (none)))))) else (none)))) = some r := by rw [if_pos rfl] at H; exact H
      clear H
      have H := H1
      clear H1
      replace H := Option.bind_eq_some_iff.mp H
      obtain ⟨t223, A210, H⟩ := H
      (try dsimp only at H)
      have A21 := Aside0.mk A210
      clear A210
      replace H := Option.bind_eq_some_iff.mp H
      obtain ⟨t226, A220, H⟩ := H
      (try dsimp only at H)
      have A22 := Aside0.mk A220
      clear A220
      by_cases c23 : t226 = true
      ·subst c23
       have H1 : ((laws_markEdgeS.f k t208 1).bind fun bt227 => ((laws_markMoveS.f k t211 bt227.1).bind fun bt229 => (if bt229.1 < 0 then (none) else ((laws_eqMoveS.f k t214 t204).bind fun t231 => (if t231 = true then ((laws_markMoveS.f k t214 1).bind fun bt232 => ((laws_heldMoveS.f k bt232.2 1).bind fun t234 => (if t234 < 0 then (none) else (if t234 = bt232.1 then ((laws_toEdgeS.f k l1).bind fun t235 => ((laws_toMoveS.f k l3).bind fun t238 => ((impl_PoolMoves.f k a0 t235 a2 t238).bind fun bt241 => ((laws_eqMoveS.f k bt241.1 t204).bind fun t245 => (if t245 = true then (if (bt241.2 != t205) = true then (none) else ((laws_heldMoveS.f k bt232.2 1).bind fun t246 => (if t246 < 0 then (none) else (if t246 = bt232.1 then (some true) else (none))))) else (none)))))) else (none))))) else (none)))))) = some r := by rw [if_pos rfl] at H; exact H
       clear H
       have H := H1
       clear H1
       replace H := Option.bind_eq_some_iff.mp H
       obtain ⟨⟨t227, t228⟩, A240, H⟩ := H
       (try dsimp only at H)
       have A24 := Aside0.mk A240
       clear A240
       replace H := Option.bind_eq_some_iff.mp H
       obtain ⟨⟨t229, t230⟩, A250, H⟩ := H
       (try dsimp only at H)
       have A25 := Aside0.mk A250
       clear A250
       by_cases c26 : t229 < 0
       ·rw [if_pos c26] at H
        exact absurd H (by simp)
       ·rw [if_neg c26] at H
        have c26b0 : decide (t229 < 0) = false := decide_eq_false c26
        clear c26
        replace H := Option.bind_eq_some_iff.mp H
        obtain ⟨t231, A270, H⟩ := H
        (try dsimp only at H)
        have A27 := Aside0.mk A270
        clear A270
        by_cases c28 : t231 = true
        ·subst c28
         have H1 : ((laws_markMoveS.f k t214 1).bind fun bt232 => ((laws_heldMoveS.f k bt232.2 1).bind fun t234 => (if t234 < 0 then (none) else (if t234 = bt232.1 then ((laws_toEdgeS.f k l1).bind fun t235 => ((laws_toMoveS.f k l3).bind fun t238 => ((impl_PoolMoves.f k a0 t235 a2 t238).bind fun bt241 => ((laws_eqMoveS.f k bt241.1 t204).bind fun t245 => (if t245 = true then (if (bt241.2 != t205) = true then (none) else ((laws_heldMoveS.f k bt232.2 1).bind fun t246 => (if t246 < 0 then (none) else (if t246 = bt232.1 then (some true) else (none))))) else (none)))))) else (none))))) = some r := by rw [if_pos rfl] at H; exact H
         clear H
         have H := H1
         clear H1
         replace H := Option.bind_eq_some_iff.mp H
         obtain ⟨⟨t232, t233⟩, A290, H⟩ := H
         (try dsimp only at H)
         have A29 := Aside0.mk A290
         clear A290
         replace H := Option.bind_eq_some_iff.mp H
         obtain ⟨t234, A300, H⟩ := H
         (try dsimp only at H)
         have A30 := Aside0.mk A300
         clear A300
         by_cases c31 : t234 < 0
         ·rw [if_pos c31] at H
          exact absurd H (by simp)
         ·rw [if_neg c31] at H
          have c31b0 : decide (t234 < 0) = false := decide_eq_false c31
          clear c31
          by_cases c32 : t234 = t232
          ·rw [if_pos c32] at H
           have c32b0 : (t234 == t232) = true := beq_iff_eq.mpr c32
           have c32b1 : (t234 != t232) = false := bne_eq_false_iff_eq.mpr c32
           clear c32
           replace H := Option.bind_eq_some_iff.mp H
           obtain ⟨t235, A330, H⟩ := H
           (try dsimp only at H)
           have A33 := Aside0.mk A330
           clear A330
           replace H := Option.bind_eq_some_iff.mp H
           obtain ⟨t238, A340, H⟩ := H
           (try dsimp only at H)
           have A34 := Aside0.mk A340
           clear A340
           replace H := Option.bind_eq_some_iff.mp H
           obtain ⟨⟨t241, t242⟩, A350, H⟩ := H
           (try dsimp only at H)
           have A35 := Aside0.mk A350
           clear A350
           replace H := Option.bind_eq_some_iff.mp H
           obtain ⟨t245, A360, H⟩ := H
           (try dsimp only at H)
           have A36 := Aside0.mk A360
           clear A360
           by_cases c37 : t245 = true
           ·subst c37
            have H1 : (if (t242 != t205) = true then (none) else ((laws_heldMoveS.f k t233 1).bind fun t246 => (if t246 < 0 then (none) else (if t246 = t232 then (some true) else (none))))) = some r := by rw [if_pos rfl] at H; exact H
            clear H
            have H := H1
            clear H1
            by_cases c38 : (t242 != t205) = true
            ·rw [if_pos c38] at H
             exact absurd H (by simp)
            ·rw [if_neg c38] at H
             have c38b0 : (t242 != t205) = false := by simpa using c38
             (try (have c38b1 : decide (t242 = t205) = true := by simpa using c38))
             (try (have c38b2 : (t242 == t205) = true := by simpa using c38))
             clear c38
             replace H := Option.bind_eq_some_iff.mp H
             obtain ⟨t246, A390, H⟩ := H
             (try dsimp only at H)
             have A39 := Aside0.mk A390
             clear A390
             by_cases c40 : t246 < 0
             ·rw [if_pos c40] at H
              exact absurd H (by simp)
             ·rw [if_neg c40] at H
              have c40b0 : decide (t246 < 0) = false := decide_eq_false c40
              clear c40
              by_cases c41 : t246 = t232
              ·rw [if_pos c41] at H
               have c41b0 : (t246 == t232) = true := beq_iff_eq.mpr c41
               have c41b1 : (t246 != t232) = false := bne_eq_false_iff_eq.mpr c41
               clear c41
               obtain rfl := Option.some.inj H
               go_enter Try.func4, Try.ntmps4
               go_wp2_with (first | ((with_reducible refine gate_callee (f := 15) rfl ?_); refine goesL_ (some 23) rfl rfl Try.func15 (by kernel_rfl) rfl #[.slice A1 l1.length c1, .int .i64 1048576] rfl (by (try simp only [List.map_toArray, List.map_cons, List.map_nil]); first | done | rfl | (simp only [List.length_drop, List.length_take]; rfl)) ?_; (with_reducible refine (laws_szEdgeS.calls _ _ l1 1048576 t196 _ ?side1 ?side2 A5.out).mono ?_); (case side1 => exact cS HR1.out); (case side2 => exact HC1.out); rintro e w' ⟨rfl, ⟨nd, rfl⟩⟩; refine ⟨_, rfl, ?_⟩) | ((with_reducible refine gate_callee (f := 22) rfl ?_); refine goesL_ (some 28) rfl rfl Try.func22 (by kernel_rfl) rfl #[.slice A3 l3.length c3, .int .i64 t196] rfl (by (try simp only [List.map_toArray, List.map_cons, List.map_nil]); first | done | rfl | (simp only [List.length_drop, List.length_take]; rfl)) ?_; (with_reducible refine (laws_szMoveS.calls _ _ l3 t196 t197 _ ?side1 ?side2 A7.out).mono ?_); (case side1 => exact cS HR3.out); (case side2 => exact HC3.out); rintro e w' ⟨rfl, ⟨nd, rfl⟩⟩; refine ⟨_, rfl, ?_⟩) | ((with_reducible refine gate_callee (f := 17) rfl ?_); refine goesL_ (some 34) rfl rfl Try.func17 (by kernel_rfl) rfl #[.slice A1 l1.length c1] rfl (by (try simp only [List.map_toArray, List.map_cons, List.map_nil]); first | done | rfl | (simp only [List.length_drop, List.length_take]; rfl)) ?_; (with_reducible refine (laws_toEdgeS.calls k _ _ l1 t198 _ ?side1 ?side2 A9.out).mono ?_); (case side1 => exact cS HR1.out); (case side2 => exact HC1.out); rintro e w42 ⟨v199, rfl, ho0, hb⟩; refine ⟨_, rfl, ?_⟩; have HO200 := Aside0.mk (Kd.R_lower ho0 (below_size (bS HB.out))); replace HB := Aside0.mk (below_step (bS HB.out) hb); (try clear hb); (try clear hb2); (try clear hk); (try clear hi); (try clear ho0)) | ((with_reducible refine gate_callee (f := 24) rfl ?_); refine goesL_ (some 37) rfl rfl Try.func24 (by kernel_rfl) rfl #[.slice A3 l3.length c3] rfl (by (try simp only [List.map_toArray, List.map_cons, List.map_nil]); first | done | rfl | (simp only [List.length_drop, List.length_take]; rfl)) ?_; (with_reducible refine (laws_toMoveS.calls k _ _ l3 t201 _ ?side1 ?side2 A10.out).mono ?_); (case side1 => exact cS (Kd.C_below HR3.out HB.out)); (case side2 => exact HC3.out); rintro e w43 ⟨v202, rfl, ho0, hb⟩; refine ⟨_, rfl, ?_⟩; replace HO200 := Aside0.mk (Kd.R_below (rS HO200.out) hb); have HO203 := Aside0.mk (Kd.R_lower ho0 (below_size (bS HB.out))); replace HB := Aside0.mk (below_step (bS HB.out) hb); (try clear hb); (try clear hb2); (try clear hk); (try clear hi); (try clear ho0); obtain ⟨Ao44, co44, eo44⟩ := Kd.R_slice HO200.out; subst eo44; obtain ⟨Ao45, co45, eo45⟩ := Kd.R_slice HO203.out; subst eo45) | ((with_reducible refine gate_callee (f := 23) rfl ?_); refine goesL_ (some 38) rfl rfl Try.func23 (by kernel_rfl) rfl #[.int .i64 a0, .slice Ao44 t198.length co44, .int .i64 a2, .slice Ao45 t201.length co45] rfl (by (try simp only [List.map_toArray, List.map_cons, List.map_nil]); first | done | rfl | (simp only [List.length_drop, List.length_take]; rfl)) ?_; (with_reducible refine (spec_PoolMoves.calls k a0 _ _ t198 a2 _ _ t201 t204 t205 _ ?side1 ?side2 ?side3 ?side4 A11.out).mono ?_); (case side1 => exact cS (Kd.R_reads' HO200.out).2.2); (case side2 => exact (Kd.R_reads' HO200.out).2.1); (case side3 => exact cS (Kd.R_reads' HO203.out).2.2); (case side4 => exact (Kd.R_reads' HO203.out).2.1); rintro e w46 ⟨v206, rfl, ho0, hb⟩; refine ⟨_, rfl, ?_⟩; replace HO200 := Aside0.mk (Kd.R_below (rS HO200.out) hb); have n1_ := Aside0.mk (Kd.R_elder' (rS HO203.out) (Kd.R_base ho0) hb); have HO207 := Aside0.mk (Kd.R_lower (rN ho0 HO203.out) (below_size (bS HB.out))); replace HB := Aside0.mk (below_step (bS HB.out) hb); clear HO203; have HO203 := n1_; clear n1_; (try clear hb); (try clear hb2); (try clear hk); (try clear hi); (try clear ho0)) | ((with_reducible refine gate_callee (f := 17) rfl ?_); refine goesL_ (some 42) rfl rfl Try.func17 (by kernel_rfl) rfl #[.slice A1 l1.length c1] rfl (by (try simp only [List.map_toArray, List.map_cons, List.map_nil]); first | done | rfl | (simp only [List.length_drop, List.length_take]; rfl)) ?_; (with_reducible refine (laws_toEdgeS.calls k _ _ l1 t208 _ ?side1 ?side2 A12.out).mono ?_); (case side1 => exact cS (Kd.C_below HR1.out HB.out)); (case side2 => exact HC1.out); rintro e w47 ⟨v209, rfl, ho0, hb⟩; refine ⟨_, rfl, ?_⟩; replace HO207 := Aside0.mk (Kd.R_below (rS HO207.out) hb); have HO210 := Aside0.mk (Kd.R_lower ho0 (below_size (bS HB.out))); replace HB := Aside0.mk (below_step (bS HB.out) hb); (try clear hb); (try clear hb2); (try clear hk); (try clear hi); (try clear ho0)) | ((with_reducible refine gate_callee (f := 24) rfl ?_); refine goesL_ (some 44) rfl rfl Try.func24 (by kernel_rfl) rfl #[.slice A3 l3.length c3] rfl (by (try simp only [List.map_toArray, List.map_cons, List.map_nil]); first | done | rfl | (simp only [List.length_drop, List.length_take]; rfl)) ?_; (with_reducible refine (laws_toMoveS.calls k _ _ l3 t211 _ ?side1 ?side2 A13.out).mono ?_); (case side1 => exact cS (Kd.C_below HR3.out HB.out)); (case side2 => exact HC3.out); rintro e w48 ⟨v212, rfl, ho0, hb⟩; refine ⟨_, rfl, ?_⟩; have n0_ := Aside0.mk (Kd.R_elder' (rS HO207.out) (Kd.R_base ho0) hb); replace HO210 := Aside0.mk (Kd.R_below (rS HO210.out) hb); have HO213 := Aside0.mk (Kd.R_lower (rN ho0 HO207.out) (below_size (bS HB.out))); replace HB := Aside0.mk (below_step (bS HB.out) hb); clear HO207; have HO207 := n0_; clear n0_; (try clear hb); (try clear hb2); (try clear hk); (try clear hi); (try clear ho0); obtain ⟨Ao49, co49, eo49⟩ := Kd.R_slice HO210.out; subst eo49; obtain ⟨Ao50, co50, eo50⟩ := Kd.R_slice HO213.out; subst eo50) | ((with_reducible refine gate_callee (f := 25) rfl ?_); refine goesL_ (some 50) rfl rfl Try.func25 (by kernel_rfl) rfl #[.int .i64 a0, .slice Ao49 t208.length co49, .int .i64 a2, .slice Ao50 t211.length co50] rfl (by (try simp only [List.map_toArray, List.map_cons, List.map_nil]); first | done | rfl | (simp only [List.length_drop, List.length_take]; rfl)) ?_; (with_reducible refine (impl_PoolMoves.calls k a0 _ _ t208 a2 _ _ t211 t214 t215 _ ?side1 ?side2 ?side3 ?side4 A14.out).mono ?_); (case side1 => exact cS (Kd.R_reads' HO210.out).2.2); (case side2 => exact (Kd.R_reads' HO210.out).2.1); (case side3 => exact cS (Kd.R_reads' HO213.out).2.2); (case side4 => exact (Kd.R_reads' HO213.out).2.1); rintro e w51 ⟨v216, rfl, ho0, hb⟩; refine ⟨_, rfl, ?_⟩; have n0_ := Aside0.mk (Kd.R_elder' (rS HO207.out) (Kd.R_base ho0) hb); replace HO210 := Aside0.mk (Kd.R_below (rS HO210.out) hb); have n2_ := Aside0.mk (Kd.R_elder' (rS HO213.out) (Kd.R_base ho0) hb); have HO217 := Aside0.mk (Kd.R_lower (rN (rN ho0 HO207.out) HO213.out) (below_size (bS HB.out))); replace HB := Aside0.mk (below_step (bS HB.out) hb); clear HO207; clear HO213; have HO207 := n0_; have HO213 := n2_; clear n0_ n2_; (try clear hb); (try clear hb2); (try clear hk); (try clear hi); (try clear ho0); obtain ⟨Ao52, co52, eo52⟩ := Kd.R_slice HO217.out; subst eo52; obtain ⟨Ao53, co53, eo53⟩ := Kd.R_slice HO207.out; subst eo53) | ((with_reducible refine gate_callee (f := 26) rfl ?_); refine goesL_ (some 55) rfl rfl Try.func26 (by kernel_rfl) rfl #[.slice Ao52 t214.length co52, .slice Ao53 t204.length co53] rfl (by (try simp only [List.map_toArray, List.map_cons, List.map_nil]); first | done | rfl | (simp only [List.length_drop, List.length_take]; rfl)) ?_; (with_reducible refine (laws_eqMoveS.calls k _ _ t214 _ _ t204 true _ ?side1 ?side2 ?side3 ?side4 A15.out).mono ?_); (case side1 => exact cS (Kd.R_reads' HO217.out).2.2); (case side2 => exact (Kd.R_reads' HO217.out).2.1); (case side3 => exact cS (Kd.R_reads' HO207.out).2.2); (case side4 => exact (Kd.R_reads' HO207.out).2.1); rintro e w54 ⟨rfl, hb⟩; refine ⟨_, rfl, ?_⟩; replace HO207 := Aside0.mk (Kd.R_below (rS HO207.out) hb); replace HO210 := Aside0.mk (Kd.R_below (rS HO210.out) hb); replace HO213 := Aside0.mk (Kd.R_below (rS HO213.out) hb); replace HO217 := Aside0.mk (Kd.R_below (rS HO217.out) hb); replace HB := Aside0.mk (below_step (bS HB.out) hb); (try clear hb); (try clear hb2); (try clear hk); (try clear hi)) | ((with_reducible refine gate_callee (f := 17) rfl ?_); refine goesL_ (some 64) rfl rfl Try.func17 (by kernel_rfl) rfl #[.slice A1 l1.length c1] rfl (by (try simp only [List.map_toArray, List.map_cons, List.map_nil]); first | done | rfl | (simp only [List.length_drop, List.length_take]; rfl)) ?_; (with_reducible refine (laws_toEdgeS.calls k _ _ l1 t219 _ ?side1 ?side2 A18.out).mono ?_); (case side1 => exact cS (Kd.C_below HR1.out HB.out)); (case side2 => exact HC1.out); rintro e w55 ⟨v220, rfl, ho0, hb⟩; refine ⟨_, rfl, ?_⟩; replace HO207 := Aside0.mk (Kd.R_below (rS HO207.out) hb); have n1_ := Aside0.mk (Kd.R_elder' (rS HO210.out) (Kd.R_base ho0) hb); replace HO213 := Aside0.mk (Kd.R_below (rS HO213.out) hb); replace HO217 := Aside0.mk (Kd.R_below (rS HO217.out) hb); have HO221 := Aside0.mk (Kd.R_lower (rN ho0 HO210.out) (below_size (bS HB.out))); replace HB := Aside0.mk (below_step (bS HB.out) hb); clear HO210; have HO210 := n1_; clear n1_; (try clear hb); (try clear hb2); (try clear hk); (try clear hi); (try clear ho0); obtain ⟨Ao56, co56, eo56⟩ := Kd.R_slice HO221.out; subst eo56) | ((with_reducible refine gate_callee (f := 19) rfl ?_); refine goesL_ (some 65) rfl rfl Try.func19 (by kernel_rfl) rfl #[.slice Ao49 t208.length co49, .slice Ao56 t219.length co56] rfl (by (try simp only [List.map_toArray, List.map_cons, List.map_nil]); first | done | rfl | (simp only [List.length_drop, List.length_take]; rfl)) ?_; (with_reducible refine (laws_eqEdgeS.calls k _ _ t208 _ _ t219 true _ ?side1 ?side2 ?side3 ?side4 A19.out).mono ?_); (case side1 => exact cS (Kd.R_reads' HO210.out).2.2); (case side2 => exact (Kd.R_reads' HO210.out).2.1); (case side3 => exact cS (Kd.R_reads' HO221.out).2.2); (case side4 => exact (Kd.R_reads' HO221.out).2.1); rintro e w57 ⟨rfl, hb⟩; refine ⟨_, rfl, ?_⟩; replace HO207 := Aside0.mk (Kd.R_below (rS HO207.out) hb); replace HO210 := Aside0.mk (Kd.R_below (rS HO210.out) hb); replace HO213 := Aside0.mk (Kd.R_below (rS HO213.out) hb); replace HO217 := Aside0.mk (Kd.R_below (rS HO217.out) hb); replace HO221 := Aside0.mk (Kd.R_below (rS HO221.out) hb); replace HB := Aside0.mk (below_step (bS HB.out) hb); (try clear hb); (try clear hb2); (try clear hk); (try clear hi)) | ((with_reducible refine gate_callee (f := 24) rfl ?_); refine goesL_ (some 69) rfl rfl Try.func24 (by kernel_rfl) rfl #[.slice A3 l3.length c3] rfl (by (try simp only [List.map_toArray, List.map_cons, List.map_nil]); first | done | rfl | (simp only [List.length_drop, List.length_take]; rfl)) ?_; (with_reducible refine (laws_toMoveS.calls k _ _ l3 t223 _ ?side1 ?side2 A21.out).mono ?_); (case side1 => exact cS (Kd.C_below HR3.out HB.out)); (case side2 => exact HC3.out); rintro e w58 ⟨v224, rfl, ho0, hb⟩; refine ⟨_, rfl, ?_⟩; have n0_ := Aside0.mk (Kd.R_elder' (rS HO207.out) (Kd.R_base ho0) hb); replace HO210 := Aside0.mk (Kd.R_below (rS HO210.out) hb); have n2_ := Aside0.mk (Kd.R_elder' (rS HO213.out) (Kd.R_base ho0) hb); have n3_ := Aside0.mk (Kd.R_elder' (rS HO217.out) (Kd.R_base ho0) hb); have HO225 := Aside0.mk (Kd.R_lower (rN (rN (rN ho0 HO207.out) HO213.out) HO217.out) (below_size (bS HB.out))); replace HB := Aside0.mk (below_step (bS HB.out) hb); clear HO207; clear HO213; clear HO217; have HO207 := n0_; have HO213 := n2_; have HO217 := n3_; clear n0_ n2_ n3_; (try clear hb); (try clear hb2); (try clear hk); (try clear hi); (try clear ho0); obtain ⟨Ao59, co59, eo59⟩ := Kd.R_slice HO225.out; subst eo59) | ((with_reducible refine gate_callee (f := 26) rfl ?_); refine goesL_ (some 70) rfl rfl Try.func26 (by kernel_rfl) rfl #[.slice Ao50 t211.length co50, .slice Ao59 t223.length co59] rfl (by (try simp only [List.map_toArray, List.map_cons, List.map_nil]); first | done | rfl | (simp only [List.length_drop, List.length_take]; rfl)) ?_; (with_reducible refine (laws_eqMoveS.calls k _ _ t211 _ _ t223 true _ ?side1 ?side2 ?side3 ?side4 A22.out).mono ?_); (case side1 => exact cS (Kd.R_reads' HO213.out).2.2); (case side2 => exact (Kd.R_reads' HO213.out).2.1); (case side3 => exact cS (Kd.R_reads' HO225.out).2.2); (case side4 => exact (Kd.R_reads' HO225.out).2.1); rintro e w60 ⟨rfl, hb⟩; refine ⟨_, rfl, ?_⟩; replace HO207 := Aside0.mk (Kd.R_below (rS HO207.out) hb); replace HO210 := Aside0.mk (Kd.R_below (rS HO210.out) hb); replace HO213 := Aside0.mk (Kd.R_below (rS HO213.out) hb); replace HO217 := Aside0.mk (Kd.R_below (rS HO217.out) hb); replace HO225 := Aside0.mk (Kd.R_below (rS HO225.out) hb); replace HB := Aside0.mk (below_step (bS HB.out) hb); (try clear hb); (try clear hb2); (try clear hk); (try clear hi)) | ((with_reducible refine gate_callee (f := 20) rfl ?_); refine goesL_ (some 74) rfl rfl Try.func20 (by kernel_rfl) rfl #[.slice Ao49 t208.length co49, .int .i64 1] rfl (by (try simp only [List.map_toArray, List.map_cons, List.map_nil]); first | done | rfl | (simp only [List.length_drop, List.length_take]; rfl)) ?_; (with_reducible refine (laws_markEdgeS.calls k (fun k_ => some k_ = (.slice Ao49 t208.length co49 : Value).ownBlock) (.slice Ao49 t208.length co49) t208 1 t227 t228 w _ ?side1 ?side2 A24.out).mono ?_); (case side1 => repeat (first | (with_reducible first | exact HB.out | apply below_alloc | apply pw_below_drewN | apply below_drew1) | exact HB.out)); (case side2 => exact Kd.R_tight rfl HO210.out); rintro e w61 ⟨rfl, hy0, hb, hkp⟩; refine ⟨_, rfl, ?_⟩; replace HO207 := Aside0.mk (Kd.R_mono (ok' := fun k_ => some k_ ≠ (.slice Ao50 t211.length co50 : Value).ownBlock ∧ some k_ ≠ (.slice Ao52 t214.length co52 : Value).ownBlock) (Kd.R_keptB ((Kd.R_apart' HO207.out (Kd.R_typed HO210.out) (by decide))) hkp (fun k_ hk_ hs_ => (hk_.2) hs_)) (fun k_ hk_ => ⟨hk_.1.1.1.1.2, hk_.1.1.1.2⟩)); have n1_ := Aside0.mk (Kd.R_reok rfl hy0 (fun k_ e_ => HO210.out.1 k_ e_)); replace HO213 := Aside0.mk (Kd.R_mono (ok' := fun k_ => some k_ ≠ (.slice Ao53 t204.length co53 : Value).ownBlock ∧ some k_ ≠ (.slice Ao52 t214.length co52 : Value).ownBlock) (Kd.R_keptB ((Kd.R_apart' HO213.out (Kd.R_typed HO210.out) (by decide))) hkp (fun k_ hk_ hs_ => (hk_.2) hs_)) (fun k_ hk_ => ⟨hk_.1.1.1.1.2, hk_.1.1.1.2⟩)); replace HO217 := Aside0.mk (Kd.R_mono (ok' := fun k_ => some k_ ≠ (.slice Ao53 t204.length co53 : Value).ownBlock ∧ some k_ ≠ (.slice Ao50 t211.length co50 : Value).ownBlock) (Kd.R_keptB ((Kd.R_apart' HO217.out (Kd.R_typed HO210.out) (by decide))) hkp (fun k_ hk_ hs_ => (hk_.2) hs_)) (fun k_ hk_ => ⟨hk_.1.1.1.1.2, hk_.1.1.1.2⟩)); replace HB := Aside0.mk (hb); clear HO210; have HO210 := n1_; clear n1_; (try clear hb); (try clear hkp); (try clear hy0)) | ((with_reducible refine gate_callee (f := 27) rfl ?_); refine goesL_ (some 77) rfl rfl Try.func27 (by kernel_rfl) rfl #[.slice Ao50 t211.length co50, .int .i64 t227] rfl (by (try simp only [List.map_toArray, List.map_cons, List.map_nil]); first | done | rfl | (simp only [List.length_drop, List.length_take]; rfl)) ?_; (with_reducible refine (laws_markMoveS.calls k (fun k_ => some k_ = (.slice Ao50 t211.length co50 : Value).ownBlock) (.slice Ao50 t211.length co50) t211 t227 t229 t230 w _ ?side1 ?side2 A25.out).mono ?_); (case side1 => repeat (first | (with_reducible first | exact HB.out | apply below_alloc | apply pw_below_drewN | apply below_drew1) | exact HB.out)); (case side2 => exact Kd.R_tight rfl HO213.out); rintro e w62 ⟨rfl, hy0, hb, hkp⟩; refine ⟨_, rfl, ?_⟩; replace HO207 := Aside0.mk (Kd.R_mono (ok' := fun k_ => some k_ ≠ (.slice Ao50 t211.length co50 : Value).ownBlock ∧ some k_ ≠ (.slice Ao52 t214.length co52 : Value).ownBlock) (Kd.R_keptB (HO207.out) hkp (fun k_ hk_ hs_ => (hk_.1) hs_)) (fun k_ hk_ => ⟨hk_.1.1, hk_.1.2⟩)); replace HO213 := Aside0.mk (Kd.R_reok rfl hy0 (fun k_ e_ => HO213.out.1 k_ e_)); replace HO217 := Aside0.mk (Kd.R_mono (ok' := fun k_ => some k_ ≠ (.slice Ao53 t204.length co53 : Value).ownBlock ∧ some k_ ≠ (.slice Ao50 t211.length co50 : Value).ownBlock) (Kd.R_keptB (HO217.out) hkp (fun k_ hk_ hs_ => (hk_.2) hs_)) (fun k_ hk_ => ⟨hk_.1.1, hk_.1.2⟩)); replace HB := Aside0.mk (hb); (try clear hb); (try clear hkp); (try clear hy0)) | (go_at_call 26; (with_reducible refine (laws_eqMoveS.calls k _ _ t214 _ _ t204 true _ ?side1 ?side2 ?side3 ?side4 A27.out).mono ?_); (case side1 => exact cS (Kd.R_reads' HO217.out).2.2); (case side2 => exact (Kd.R_reads' HO217.out).2.1); (case side3 => exact cS (Kd.R_reads' HO207.out).2.2); (case side4 => exact (Kd.R_reads' HO207.out).2.1); rintro e w63 ⟨rfl, hb⟩; replace HO207 := Aside0.mk (Kd.R_below (rS HO207.out) hb); replace HO217 := Aside0.mk (Kd.R_below (rS HO217.out) hb); replace HB := Aside0.mk (below_step (bS HB.out) hb); (try clear hb); (try clear hb2); (try clear hk); (try clear hi)) | ((with_reducible refine gate_callee (f := 27) rfl ?_); refine goesL_ (some 93) rfl rfl Try.func27 (by kernel_rfl) rfl #[.slice Ao52 t214.length co52, .int .i64 1] rfl (by (try simp only [List.map_toArray, List.map_cons, List.map_nil]); first | done | rfl | (simp only [List.length_drop, List.length_take]; rfl)) ?_; (with_reducible refine (laws_markMoveS.calls k (fun k_ => some k_ = (.slice Ao52 t214.length co52 : Value).ownBlock) (.slice Ao52 t214.length co52) t214 1 t232 t233 w _ ?side1 ?side2 A29.out).mono ?_); (case side1 => repeat (first | (with_reducible first | exact HB.out | apply below_alloc | apply pw_below_drewN | apply below_drew1) | exact HB.out)); (case side2 => exact Kd.R_tight rfl HO217.out); rintro e w64 ⟨rfl, hy0, hb, hkp⟩; refine ⟨_, rfl, ?_⟩; replace HO207 := Aside0.mk (Kd.R_mono (ok' := fun k_ => some k_ ≠ (.slice Ao52 t214.length co52 : Value).ownBlock) (Kd.R_keptB (HO207.out) hkp (fun k_ hk_ hs_ => (hk_.2) hs_)) (fun k_ hk_ => hk_.1.2)); replace HO217 := Aside0.mk (Kd.R_reok rfl hy0 (fun k_ e_ => HO217.out.1 k_ e_)); replace HB := Aside0.mk (hb); (try clear hb); (try clear hkp); (try clear hy0)) | ((with_reducible refine gate_callee (f := 28) rfl ?_); refine goesL_ (some 96) rfl rfl Try.func28 (by kernel_rfl) rfl #[.slice Ao52 t233.length co52, .int .i64 1] rfl (by (try simp only [List.map_toArray, List.map_cons, List.map_nil]); first | done | (rw [show t233.length = t214.length from (Kd.R_reads' HO217.out).1.symm] <;> rfl) | rfl | (simp only [List.length_drop, List.length_take]; rfl)) ?_; (with_reducible refine (laws_heldMoveS.calls k _ _ t233 1 t234 _ ?side1 ?side2 A30.out).mono ?_); (case side1 => exact cS (Kd.R_reads' HO217.out).2.2); (case side2 => rw [show t233.length = t214.length from (Kd.R_reads' HO217.out).1.symm]; exact (Kd.R_reads' HO217.out).2.1); rintro e w' ⟨rfl, ⟨nd, rfl⟩⟩; refine ⟨_, rfl, ?_⟩) | ((with_reducible refine gate_callee (f := 17) rfl ?_); refine goesL_ (some 105) rfl rfl Try.func17 (by kernel_rfl) rfl #[.slice A1 l1.length c1] rfl (by (try simp only [List.map_toArray, List.map_cons, List.map_nil]); first | done | rfl | (simp only [List.length_drop, List.length_take]; rfl)) ?_; (with_reducible refine (laws_toEdgeS.calls k _ _ l1 t235 _ ?side1 ?side2 A33.out).mono ?_); (case side1 => repeat (first | exact (Kd.C_below HR1.out (bS HB.out)) | (with_reducible refine Kd.C_alloc ?_ _) | (with_reducible refine Kd.C_drewN ?_ _) | (with_reducible refine Kd.C_drew ?_))); (case side2 => exact HC1.out); rintro e w65 ⟨v236, rfl, ho0, hb⟩; refine ⟨_, rfl, ?_⟩; replace HO207 := Aside0.mk (Kd.R_below (rS HO207.out) hb); replace HO217 := Aside0.mk (Kd.R_below (rS HO217.out) hb); have HO237 := Aside0.mk (Kd.R_lower ho0 (below_size (bS HB.out))); replace HB := Aside0.mk (below_step (bS HB.out) hb); (try clear hb); (try clear hb2); (try clear hk); (try clear hi); (try clear ho0)) | ((with_reducible refine gate_callee (f := 24) rfl ?_); refine goesL_ (some 108) rfl rfl Try.func24 (by kernel_rfl) rfl #[.slice A3 l3.length c3] rfl (by (try simp only [List.map_toArray, List.map_cons, List.map_nil]); first | done | rfl | (simp only [List.length_drop, List.length_take]; rfl)) ?_; (with_reducible refine (laws_toMoveS.calls k _ _ l3 t238 _ ?side1 ?side2 A34.out).mono ?_); (case side1 => exact cS (Kd.C_below HR3.out HB.out)); (case side2 => exact HC3.out); rintro e w66 ⟨v239, rfl, ho0, hb⟩; refine ⟨_, rfl, ?_⟩; have n0_ := Aside0.mk (Kd.R_elder' (rS HO207.out) (Kd.R_base ho0) hb); have n1_ := Aside0.mk (Kd.R_elder' (rS HO217.out) (Kd.R_base ho0) hb); replace HO237 := Aside0.mk (Kd.R_below (rS HO237.out) hb); have HO240 := Aside0.mk (Kd.R_lower (rN (rN ho0 HO207.out) HO217.out) (below_size (bS HB.out))); replace HB := Aside0.mk (below_step (bS HB.out) hb); clear HO207; clear HO217; have HO207 := n0_; have HO217 := n1_; clear n0_ n1_; (try clear hb); (try clear hb2); (try clear hk); (try clear hi); (try clear ho0); obtain ⟨Ao67, co67, eo67⟩ := Kd.R_slice HO237.out; subst eo67; obtain ⟨Ao68, co68, eo68⟩ := Kd.R_slice HO240.out; subst eo68) | ((with_reducible refine gate_callee (f := 25) rfl ?_); refine goesL_ (some 109) rfl rfl Try.func25 (by kernel_rfl) rfl #[.int .i64 a0, .slice Ao67 t235.length co67, .int .i64 a2, .slice Ao68 t238.length co68] rfl (by (try simp only [List.map_toArray, List.map_cons, List.map_nil]); first | done | rfl | (simp only [List.length_drop, List.length_take]; rfl)) ?_; (with_reducible refine (impl_PoolMoves.calls k a0 _ _ t235 a2 _ _ t238 t241 t242 _ ?side1 ?side2 ?side3 ?side4 A35.out).mono ?_); (case side1 => exact cS (Kd.R_reads' HO237.out).2.2); (case side2 => exact (Kd.R_reads' HO237.out).2.1); (case side3 => exact cS (Kd.R_reads' HO240.out).2.2); (case side4 => exact (Kd.R_reads' HO240.out).2.1); rintro e w69 ⟨v243, rfl, ho0, hb⟩; refine ⟨_, rfl, ?_⟩; have n0_ := Aside0.mk (Kd.R_elder' (rS HO207.out) (Kd.R_base ho0) hb); have n1_ := Aside0.mk (Kd.R_elder' (rS HO217.out) (Kd.R_base ho0) hb); replace HO237 := Aside0.mk (Kd.R_below (rS HO237.out) hb); have n3_ := Aside0.mk (Kd.R_elder' (rS HO240.out) (Kd.R_base ho0) hb); have HO244 := Aside0.mk (Kd.R_lower (rN (rN (rN ho0 HO207.out) HO217.out) HO240.out) (below_size (bS HB.out))); replace HB := Aside0.mk (below_step (bS HB.out) hb); clear HO207; clear HO217; clear HO240; have HO207 := n0_; have HO217 := n1_; have HO240 := n3_; clear n0_ n1_ n3_; (try clear hb); (try clear hb2); (try clear hk); (try clear hi); (try clear ho0); obtain ⟨Ao70, co70, eo70⟩ := Kd.R_slice HO244.out; subst eo70) | ((with_reducible refine gate_callee (f := 26) rfl ?_); refine goesL_ (some 114) rfl rfl Try.func26 (by kernel_rfl) rfl #[.slice Ao70 t241.length co70, .slice Ao53 t204.length co53] rfl (by (try simp only [List.map_toArray, List.map_cons, List.map_nil]); first | done | rfl | (simp only [List.length_drop, List.length_take]; rfl)) ?_; (with_reducible refine (laws_eqMoveS.calls k _ _ t241 _ _ t204 true _ ?side1 ?side2 ?side3 ?side4 A36.out).mono ?_); (case side1 => exact cS (Kd.R_reads' HO244.out).2.2); (case side2 => exact (Kd.R_reads' HO244.out).2.1); (case side3 => exact cS (Kd.R_reads' HO207.out).2.2); (case side4 => exact (Kd.R_reads' HO207.out).2.1); rintro e w71 ⟨rfl, hb⟩; refine ⟨_, rfl, ?_⟩; replace HO207 := Aside0.mk (Kd.R_below (rS HO207.out) hb); replace HO217 := Aside0.mk (Kd.R_below (rS HO217.out) hb); replace HO244 := Aside0.mk (Kd.R_below (rS HO244.out) hb); replace HB := Aside0.mk (below_step (bS HB.out) hb); (try clear hb); (try clear hb2); (try clear hk); (try clear hi)) | ((with_reducible refine gate_callee (f := 28) rfl ?_); refine goesL_ (some 123) rfl rfl Try.func28 (by kernel_rfl) rfl #[.slice Ao52 t233.length co52, .int .i64 1] rfl (by (try simp only [List.map_toArray, List.map_cons, List.map_nil]); first | done | (rw [show t233.length = t214.length from (Kd.R_reads' HO217.out).1.symm] <;> rfl) | rfl | (simp only [List.length_drop, List.length_take]; rfl)) ?_; (with_reducible refine (laws_heldMoveS.calls k _ _ t233 1 t246 _ ?side1 ?side2 A39.out).mono ?_); (case side1 => exact cS (Kd.R_reads' HO217.out).2.2); (case side2 => rw [show t233.length = t214.length from (Kd.R_reads' HO217.out).1.symm]; exact (Kd.R_reads' HO217.out).2.1); rintro e w' ⟨rfl, ⟨nd, rfl⟩⟩; refine ⟨_, rfl, ?_⟩))
               go_ret
               exact ⟨by first | rfl | (simp [errW_none, errW_some] <;> rfl) | (simp [*, errW_none, errW_some] <;> rfl), by repeat (first | (with_reducible first | exact HB.out | apply below_alloc | apply pw_below_drewN | apply below_drew1) | exact HB.out)⟩
              ·rw [if_neg c41] at H
               exact absurd H (by simp)
           ·replace c37 := Bool.eq_false_iff.mpr c37
            subst c37
            have H1 : (none) = some r := by rw [if_neg (show ¬ (false = true) by decide)] at H; exact H
            clear H
            have H := H1
            clear H1
            exact absurd H (by simp)
          ·rw [if_neg c32] at H
           exact absurd H (by simp)
        ·replace c28 := Bool.eq_false_iff.mpr c28
         subst c28
         have H1 : (none) = some r := by rw [if_neg (show ¬ (false = true) by decide)] at H; exact H
         clear H
         have H := H1
         clear H1
         exact absurd H (by simp)
      ·replace c23 := Bool.eq_false_iff.mpr c23
       subst c23
       have H1 : (none) = some r := by rw [if_neg (show ¬ (false = true) by decide)] at H; exact H
       clear H
       have H := H1
       clear H1
       exact absurd H (by simp)
     ·replace c20 := Bool.eq_false_iff.mpr c20
      subst c20
      have H1 : (none) = some r := by rw [if_neg (show ¬ (false = true) by decide)] at H; exact H
      clear H
      have H := H1
      clear H1
      exact absurd H (by simp)
   ·replace c16 := Bool.eq_false_iff.mpr c16
    subst c16
    have H1 : (none) = some r := by rw [if_neg (show ¬ (false = true) by decide)] at H; exact H
    clear H
    have H := H1
    clear H1
    exact absurd H (by simp)

end Go.Proofs.Ytnecbgeljanhiaa.PFnExactPoolMoves
