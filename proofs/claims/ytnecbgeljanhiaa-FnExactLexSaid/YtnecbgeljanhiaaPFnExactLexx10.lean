-- written by wip/tools/myprint.py out of the program's own print
import Derived.Test.YtnecbgeljanhiaaPFnExactLexx0
import Derived.Test.YtnecbgeljanhiaaPFnExactLexx4
import Derived.Test.YtnecbgeljanhiaaPFnExactLexx8
import Derived.Test.YtnecbgeljanhiaaPFnExactLexx9
namespace Go.Proofs.Ytnecbgeljanhiaa.PFnExactLex
open Go.Proofs.Ytnecbgeljanhiaa.Own (rS cS bS rB)
open Go.RowKit Go.Proofs.YtnecbgeljanhiaaW.PrintWords Go.Proofs.YtnecbgeljanhiaaW.PrintLast Go.Proofs.YtnecbgeljanhiaaW.PrintMore
attribute [local go_sem] max2_int min2_int max_two min_two max_three min_three max_four min_four   -- for this text's walks alone
attribute [local go_sem] Go.Proofs.Ytnecbgeljanhiaa.Own.run_store_float
set_option linter.unusedVariables false
set_option linter.unusedSimpArgs false

/-! ### laws_FnExactLex: function 11 -/
def laws_FnExactLex.f (k : Nat) (a0 : ByteArray) : Option (Bool) := if (a0.size : Int) > 1048576 then (some true) else ((spec_Lex.f k a0).bind fun bt219 => ((impl_Lex.f k a0).bind fun bt224 => ((laws_eqTokenS.f k bt224.1 bt219.1).bind fun t229 => (if t229 = true then (if bt224.2.1 = bt219.2.1 then (if bt224.2.2 = bt219.2.2 then ((laws_markTokenS.f k bt224.1 1).bind fun bt230 => ((laws_heldTokenS.f k bt230.2 1).bind fun t232 => (if t232 < 0 then (none) else (if t232 = bt230.1 then ((impl_Lex.f k a0).bind fun bt233 => ((laws_eqTokenS.f k bt233.1 bt219.1).bind fun t238 => (if t238 = true then (if bt233.2.1 = bt219.2.1 then (if bt233.2.2 = bt219.2.2 then ((laws_heldTokenS.f k bt230.2 1).bind fun t239 => (if t239 < 0 then (none) else (if t239 = bt230.1 then (some true) else (none)))) else (none)) else (none)) else (none)))) else (none))))) else (none)) else (none)) else (none)))))
theorem laws_FnExactLex.mono : ∀ a0 k, LeO (laws_FnExactLex.f k a0) (laws_FnExactLex.f (k + 1) a0) := by
  intro a0 k
  unfold laws_FnExactLex.f
  repeat' first
      | (with_reducible exact impl_Lex.mono _ _)
      | (with_reducible exact laws_eqTokenS.mono _ _ _)
      | (with_reducible exact laws_heldTokenS.mono _ _ _)
      | (with_reducible exact laws_markTokenS.mono _ _ _)
      | (with_reducible exact spec_Lex.mono _ _)
      | (with_reducible exact LeO.refl _)
      | (with_reducible exact LeO.none _)
      | (with_reducible refine LeO.ite ?_ ?_)
      | (with_reducible refine LeO.bind ?_ (fun _ => ?_))
      | exact impl_Lex.mono _ _
      | exact laws_eqTokenS.mono _ _ _
      | exact laws_heldTokenS.mono _ _ _
      | exact laws_markTokenS.mono _ _ _
      | exact spec_Lex.mono _ _
      | exact LeO.none _
      | refine LeO.ite ?_ ?_
      | refine LeO.bind ?_ (fun _ => ?_)
set_option maxHeartbeats 8000000 in
set_option maxRecDepth 100000 in
theorem laws_FnExactLex.calls (k : Nat) (a0 : ByteArray) (r : Bool) (w : World) (h : laws_FnExactLex.f k a0 = some r) :
    Calls Try.prog 11 #[.string a0] w fun e w' => e = .returned (.bool r) ∧ Below w.heap.size w w' := by
  have HB := Aside0.mk (Below.refl w.heap.size w)
  have H : (if (a0.size : Int) > 1048576 then (some true) else ((spec_Lex.f k a0).bind fun bt219 => ((impl_Lex.f k a0).bind fun bt224 => ((laws_eqTokenS.f k bt224.1 bt219.1).bind fun t229 => (if t229 = true then (if bt224.2.1 = bt219.2.1 then (if bt224.2.2 = bt219.2.2 then ((laws_markTokenS.f k bt224.1 1).bind fun bt230 => ((laws_heldTokenS.f k bt230.2 1).bind fun t232 => (if t232 < 0 then (none) else (if t232 = bt230.1 then ((impl_Lex.f k a0).bind fun bt233 => ((laws_eqTokenS.f k bt233.1 bt219.1).bind fun t238 => (if t238 = true then (if bt233.2.1 = bt219.2.1 then (if bt233.2.2 = bt219.2.2 then ((laws_heldTokenS.f k bt230.2 1).bind fun t239 => (if t239 < 0 then (none) else (if t239 = bt230.1 then (some true) else (none)))) else (none)) else (none)) else (none)))) else (none))))) else (none)) else (none)) else (none)))))) = some r := h
  clear h
  by_cases c2 : (a0.size : Int) > 1048576
  · rw [if_pos c2] at H
    have c2b0 : decide (1048576 < (a0.size : Int)) = true := decide_eq_true c2
    have c2b1 : decide (1048576 < a0.size) = true := decide_eq_true (by omega)
    clear c2
    obtain rfl := Option.some.inj H
    go_enter Try.func11, Try.ntmps11
    go_wp2
    go_ret
    exact ⟨by first | rfl | (simp [errW_none, errW_some] <;> rfl) | (simp [*, errW_none, errW_some] <;> rfl), by repeat (first | (with_reducible first | exact HB.out | apply below_alloc | apply pw_below_drewN | apply below_drew1) | exact HB.out)⟩
  · rw [if_neg c2] at H
    have c2b0 : decide (1048576 < (a0.size : Int)) = false := decide_eq_false c2
    have c2b1 : decide (1048576 < a0.size) = false := decide_eq_false (by omega)
    clear c2
    replace H := Option.bind_eq_some_iff.mp H
    obtain ⟨⟨t219, t220, t221⟩, A30, H⟩ := H
    replace H : ((impl_Lex.f k a0).bind fun bt224 => ((laws_eqTokenS.f k bt224.1 t219).bind fun t229 => (if t229 = true then (if bt224.2.1 = t220 then (if bt224.2.2 = t221 then ((laws_markTokenS.f k bt224.1 1).bind fun bt230 => ((laws_heldTokenS.f k bt230.2 1).bind fun t232 => (if t232 < 0 then (none) else (if t232 = bt230.1 then ((impl_Lex.f k a0).bind fun bt233 => ((laws_eqTokenS.f k bt233.1 t219).bind fun t238 => (if t238 = true then (if bt233.2.1 = t220 then (if bt233.2.2 = t221 then ((laws_heldTokenS.f k bt230.2 1).bind fun t239 => (if t239 < 0 then (none) else (if t239 = bt230.1 then (some true) else (none)))) else (none)) else (none)) else (none)))) else (none))))) else (none)) else (none)) else (none)))) = some r := H
    have A3 := Aside0.mk A30
    clear A30
    replace H := Option.bind_eq_some_iff.mp H
    obtain ⟨⟨t224, t225, t226⟩, A40, H⟩ := H
    replace H : ((laws_eqTokenS.f k t224 t219).bind fun t229 => (if t229 = true then (if t225 = t220 then (if t226 = t221 then ((laws_markTokenS.f k t224 1).bind fun bt230 => ((laws_heldTokenS.f k bt230.2 1).bind fun t232 => (if t232 < 0 then (none) else (if t232 = bt230.1 then ((impl_Lex.f k a0).bind fun bt233 => ((laws_eqTokenS.f k bt233.1 t219).bind fun t238 => (if t238 = true then (if bt233.2.1 = t220 then (if bt233.2.2 = t221 then ((laws_heldTokenS.f k bt230.2 1).bind fun t239 => (if t239 < 0 then (none) else (if t239 = bt230.1 then (some true) else (none)))) else (none)) else (none)) else (none)))) else (none))))) else (none)) else (none)) else (none))) = some r := H
    have A4 := Aside0.mk A40
    clear A40
    replace H := Option.bind_eq_some_iff.mp H
    obtain ⟨t229, A50, H⟩ := H
    replace H : (if t229 = true then (if t225 = t220 then (if t226 = t221 then ((laws_markTokenS.f k t224 1).bind fun bt230 => ((laws_heldTokenS.f k bt230.2 1).bind fun t232 => (if t232 < 0 then (none) else (if t232 = bt230.1 then ((impl_Lex.f k a0).bind fun bt233 => ((laws_eqTokenS.f k bt233.1 t219).bind fun t238 => (if t238 = true then (if bt233.2.1 = t220 then (if bt233.2.2 = t221 then ((laws_heldTokenS.f k bt230.2 1).bind fun t239 => (if t239 < 0 then (none) else (if t239 = bt230.1 then (some true) else (none)))) else (none)) else (none)) else (none)))) else (none))))) else (none)) else (none)) else (none)) = some r := H
    have A5 := Aside0.mk A50
    clear A50
    by_cases c6 : t229 = true
    · subst c6
      have H1 : (if t225 = t220 then (if t226 = t221 then ((laws_markTokenS.f k t224 1).bind fun bt230 => ((laws_heldTokenS.f k bt230.2 1).bind fun t232 => (if t232 < 0 then (none) else (if t232 = bt230.1 then ((impl_Lex.f k a0).bind fun bt233 => ((laws_eqTokenS.f k bt233.1 t219).bind fun t238 => (if t238 = true then (if bt233.2.1 = t220 then (if bt233.2.2 = t221 then ((laws_heldTokenS.f k bt230.2 1).bind fun t239 => (if t239 < 0 then (none) else (if t239 = bt230.1 then (some true) else (none)))) else (none)) else (none)) else (none)))) else (none))))) else (none)) else (none)) = some r := by rw [if_pos rfl] at H; exact H
      clear H
      have H := H1
      clear H1
      by_cases c7 : t225 = t220
      · rw [if_pos c7] at H
        have c7b0 : (t225 == t220) = true := beq_iff_eq.mpr c7
        have c7b1 : (t225 != t220) = false := bne_eq_false_iff_eq.mpr c7
        clear c7
        by_cases c8 : t226 = t221
        · rw [if_pos c8] at H
          have c8b0 : (t226 == t221) = true := beq_iff_eq.mpr c8
          have c8b1 : (t226 != t221) = false := bne_eq_false_iff_eq.mpr c8
          clear c8
          replace H := Option.bind_eq_some_iff.mp H
          obtain ⟨⟨t230, t231⟩, A90, H⟩ := H
          replace H : ((laws_heldTokenS.f k t231 1).bind fun t232 => (if t232 < 0 then (none) else (if t232 = t230 then ((impl_Lex.f k a0).bind fun bt233 => ((laws_eqTokenS.f k bt233.1 t219).bind fun t238 => (if t238 = true then (if bt233.2.1 = t220 then (if bt233.2.2 = t221 then ((laws_heldTokenS.f k t231 1).bind fun t239 => (if t239 < 0 then (none) else (if t239 = t230 then (some true) else (none)))) else (none)) else (none)) else (none)))) else (none)))) = some r := H
          have A9 := Aside0.mk A90
          clear A90
          replace H := Option.bind_eq_some_iff.mp H
          obtain ⟨t232, A100, H⟩ := H
          replace H : (if t232 < 0 then (none) else (if t232 = t230 then ((impl_Lex.f k a0).bind fun bt233 => ((laws_eqTokenS.f k bt233.1 t219).bind fun t238 => (if t238 = true then (if bt233.2.1 = t220 then (if bt233.2.2 = t221 then ((laws_heldTokenS.f k t231 1).bind fun t239 => (if t239 < 0 then (none) else (if t239 = t230 then (some true) else (none)))) else (none)) else (none)) else (none)))) else (none))) = some r := H
          have A10 := Aside0.mk A100
          clear A100
          by_cases c11 : t232 < 0
          · rw [if_pos c11] at H
            exact absurd H (by simp)
          · rw [if_neg c11] at H
            have c11b0 : decide (t232 < 0) = false := decide_eq_false c11
            clear c11
            by_cases c12 : t232 = t230
            · rw [if_pos c12] at H
              have c12b0 : (t232 == t230) = true := beq_iff_eq.mpr c12
              have c12b1 : (t232 != t230) = false := bne_eq_false_iff_eq.mpr c12
              clear c12
              replace H := Option.bind_eq_some_iff.mp H
              obtain ⟨⟨t233, t234, t235⟩, A130, H⟩ := H
              replace H : ((laws_eqTokenS.f k t233 t219).bind fun t238 => (if t238 = true then (if t234 = t220 then (if t235 = t221 then ((laws_heldTokenS.f k t231 1).bind fun t239 => (if t239 < 0 then (none) else (if t239 = t230 then (some true) else (none)))) else (none)) else (none)) else (none))) = some r := H
              have A13 := Aside0.mk A130
              clear A130
              replace H := Option.bind_eq_some_iff.mp H
              obtain ⟨t238, A140, H⟩ := H
              replace H : (if t238 = true then (if t234 = t220 then (if t235 = t221 then ((laws_heldTokenS.f k t231 1).bind fun t239 => (if t239 < 0 then (none) else (if t239 = t230 then (some true) else (none)))) else (none)) else (none)) else (none)) = some r := H
              have A14 := Aside0.mk A140
              clear A140
              by_cases c15 : t238 = true
              · subst c15
                have H1 : (if t234 = t220 then (if t235 = t221 then ((laws_heldTokenS.f k t231 1).bind fun t239 => (if t239 < 0 then (none) else (if t239 = t230 then (some true) else (none)))) else (none)) else (none)) = some r := by rw [if_pos rfl] at H; exact H
                clear H
                have H := H1
                clear H1
                by_cases c16 : t234 = t220
                · rw [if_pos c16] at H
                  have c16b0 : (t234 == t220) = true := beq_iff_eq.mpr c16
                  have c16b1 : (t234 != t220) = false := bne_eq_false_iff_eq.mpr c16
                  clear c16
                  by_cases c17 : t235 = t221
                  · rw [if_pos c17] at H
                    have c17b0 : (t235 == t221) = true := beq_iff_eq.mpr c17
                    have c17b1 : (t235 != t221) = false := bne_eq_false_iff_eq.mpr c17
                    clear c17
                    replace H := Option.bind_eq_some_iff.mp H
                    obtain ⟨t239, A180, H⟩ := H
                    replace H : (if t239 < 0 then (none) else (if t239 = t230 then (some true) else (none))) = some r := H
                    have A18 := Aside0.mk A180
                    clear A180
                    by_cases c19 : t239 < 0
                    · rw [if_pos c19] at H
                      exact absurd H (by simp)
                    · rw [if_neg c19] at H
                      have c19b0 : decide (t239 < 0) = false := decide_eq_false c19
                      clear c19
                      by_cases c20 : t239 = t230
                      · rw [if_pos c20] at H
                        have c20b0 : (t239 == t230) = true := beq_iff_eq.mpr c20
                        have c20b1 : (t239 != t230) = false := bne_eq_false_iff_eq.mpr c20
                        clear c20
                        obtain rfl := Option.some.inj H
                        go_enter Try.func11, Try.ntmps11
                        go_wp2_with (first | ((with_reducible refine gate_callee (f := 54) rfl ?_); refine goesL_ (some 19) rfl rfl Try.func54 (by kernel_rfl) rfl #[.string a0] rfl (by (try simp only [List.map_toArray, List.map_cons, List.map_nil]); first | done | rfl | (simp only [List.length_drop, List.length_take]; rfl)) ?_; (with_reducible refine (spec_Lex.calls k a0 t219 t220 t221 _ A3.out).mono ?_); rintro e w21 ⟨v222, rfl, ho0, hb⟩; refine ⟨_, rfl, ?_⟩; have n0_ := Aside0.mk (Kd.R_lower ho0 (below_size (by repeat (first | (with_reducible first | exact HB.out | apply below_alloc | apply pw_below_drewN | apply below_drew1) | exact HB.out)))); have n1_ := Aside0.mk (below_step (by repeat (first | (with_reducible first | exact HB.out | apply below_alloc | apply pw_below_drewN | apply below_drew1) | exact HB.out)) hb); clear HB; have HO223 := n0_; have HB := n1_; clear n0_ n1_; (try clear hb); (try clear hb2); (try clear hk); (try clear hi); (try clear ho0)) | ((with_reducible refine gate_callee (f := 55) rfl ?_); refine goesL_ (some 25) rfl rfl Try.func55 (by kernel_rfl) rfl #[.string a0] rfl (by (try simp only [List.map_toArray, List.map_cons, List.map_nil]); first | done | rfl | (simp only [List.length_drop, List.length_take]; rfl)) ?_; (with_reducible refine (impl_Lex.calls k a0 t224 t225 t226 _ A4.out).mono ?_); rintro e w22 ⟨v227, rfl, ho0, hb⟩; refine ⟨_, rfl, ?_⟩; have n0_ := Aside0.mk (Kd.R_elder' (by (with_reducible repeat (first | apply Kd.R_alloc | apply Kd.R_drewN | apply Kd.R_drew)); exact HO223.out) (Kd.R_base ho0) hb); have n1_ := Aside0.mk (Kd.R_lower (Kd.R_new' ho0 (Kd.R_lt (by (with_reducible repeat (first | apply Kd.R_alloc | apply Kd.R_drewN | apply Kd.R_drew)); exact HO223.out))) (below_size (by repeat (first | (with_reducible first | exact HB.out | apply below_alloc | apply pw_below_drewN | apply below_drew1) | exact HB.out)))); have n2_ := Aside0.mk (below_step (by repeat (first | (with_reducible first | exact HB.out | apply below_alloc | apply pw_below_drewN | apply below_drew1) | exact HB.out)) hb); clear HO223; clear HB; have HO223 := n0_; have HO228 := n1_; have HB := n2_; clear n0_ n1_ n2_; (try clear hb); (try clear hb2); (try clear hk); (try clear hi); (try clear ho0); obtain ⟨Ao23, co23, eo23⟩ := Kd.R_slice HO228.out; subst eo23; obtain ⟨Ao24, co24, eo24⟩ := Kd.R_slice HO223.out; subst eo24) | ((with_reducible refine gate_callee (f := 56) rfl ?_); refine goesL_ (some 31) rfl rfl Try.func56 (by kernel_rfl) rfl #[.slice Ao23 t224.length co23, .slice Ao24 t219.length co24] rfl (by (try simp only [List.map_toArray, List.map_cons, List.map_nil]); first | done | rfl | (simp only [List.length_drop, List.length_take]; rfl)) ?_; (with_reducible refine (laws_eqTokenS.calls k _ _ t224 _ _ t219 true _ ?side1 ?side2 ?side3 ?side4 A5.out).mono ?_); (case side1 => repeat (first | exact (Kd.R_reads' HO228.out).2.2 | (with_reducible refine Kd.C_alloc ?_ _) | (with_reducible refine Kd.C_drewN ?_ _) | (with_reducible refine Kd.C_drew ?_))); (case side2 => exact (Kd.R_reads' HO228.out).2.1); (case side3 => repeat (first | exact (Kd.R_reads' HO223.out).2.2 | (with_reducible refine Kd.C_alloc ?_ _) | (with_reducible refine Kd.C_drewN ?_ _) | (with_reducible refine Kd.C_drew ?_))); (case side4 => exact (Kd.R_reads' HO223.out).2.1); rintro e w25 ⟨rfl, hb⟩; refine ⟨_, rfl, ?_⟩; have n0_ := Aside0.mk (Kd.R_below (by (with_reducible repeat (first | apply Kd.R_alloc | apply Kd.R_drewN | apply Kd.R_drew)); exact HO223.out) hb); have n1_ := Aside0.mk (Kd.R_below (by (with_reducible repeat (first | apply Kd.R_alloc | apply Kd.R_drewN | apply Kd.R_drew)); exact HO228.out) hb); have n2_ := Aside0.mk (below_step (by repeat (first | (with_reducible first | exact HB.out | apply below_alloc | apply pw_below_drewN | apply below_drew1) | exact HB.out)) hb); clear HO223; clear HO228; clear HB; have HO223 := n0_; have HO228 := n1_; have HB := n2_; clear n0_ n1_ n2_; (try clear hb); (try clear hb2); (try clear hk); (try clear hi)) | ((with_reducible refine gate_callee (f := 57) rfl ?_); refine goesL_ (some 45) rfl rfl Try.func57 (by kernel_rfl) rfl #[.slice Ao23 t224.length co23, .int .i64 1] rfl (by (try simp only [List.map_toArray, List.map_cons, List.map_nil]); first | done | rfl | (simp only [List.length_drop, List.length_take]; rfl)) ?_; (with_reducible refine (laws_markTokenS.calls k (fun k_ => some k_ = (.slice Ao23 t224.length co23 : Value).ownBlock) (.slice Ao23 t224.length co23) t224 1 t230 t231 w _ ?side1 ?side2 A9.out).mono ?_); (case side1 => repeat (first | (with_reducible first | exact HB.out | apply below_alloc | apply pw_below_drewN | apply below_drew1) | exact HB.out)); (case side2 => exact Kd.R_tight rfl HO228.out); rintro e w26 ⟨rfl, hy0, hb, hkp⟩; refine ⟨_, rfl, ?_⟩; have n0_ := Aside0.mk (Kd.R_mono (ok' := fun k_ => some k_ ≠ (.slice Ao23 t224.length co23 : Value).ownBlock) (Kd.R_keptB (HO223.out) hkp (fun k_ hk_ hs_ => (hk_.2) hs_)) (fun k_ hk_ => hk_.1.2)); have n1_ := Aside0.mk (Kd.R_reok rfl hy0 (fun k_ e_ => HO228.out.1 k_ e_)); have n2_ := Aside0.mk (hb); clear HO223; clear HO228; clear HB; have HO223 := n0_; have HO228 := n1_; have HB := n2_; clear n0_ n1_ n2_; (try clear hb); (try clear hkp); (try clear hy0)) | ((with_reducible refine gate_callee (f := 58) rfl ?_); refine goesL_ (some 48) rfl rfl Try.func58 (by kernel_rfl) rfl #[.slice Ao23 t231.length co23, .int .i64 1] rfl (by (try simp only [List.map_toArray, List.map_cons, List.map_nil]); first | done | (rw [show t231.length = t224.length from (Kd.R_reads' HO228.out).1.symm] <;> rfl) | rfl | (simp only [List.length_drop, List.length_take]; rfl)) ?_; (with_reducible refine (laws_heldTokenS.calls k _ _ t231 1 t232 _ ?side1 ?side2 A10.out).mono ?_); (case side1 => repeat (first | exact (Kd.R_reads' HO228.out).2.2 | (with_reducible refine Kd.C_alloc ?_ _) | (with_reducible refine Kd.C_drewN ?_ _) | (with_reducible refine Kd.C_drew ?_))); (case side2 => rw [show t231.length = t224.length from (Kd.R_reads' HO228.out).1.symm]; exact (Kd.R_reads' HO228.out).2.1); rintro e w27 ⟨rfl, hb⟩; refine ⟨_, rfl, ?_⟩; have n0_ := Aside0.mk (Kd.R_below (by (with_reducible repeat (first | apply Kd.R_alloc | apply Kd.R_drewN | apply Kd.R_drew)); exact HO223.out) hb); have n1_ := Aside0.mk (Kd.R_below (by (with_reducible repeat (first | apply Kd.R_alloc | apply Kd.R_drewN | apply Kd.R_drew)); exact HO228.out) hb); have n2_ := Aside0.mk (below_step (by repeat (first | (with_reducible first | exact HB.out | apply below_alloc | apply pw_below_drewN | apply below_drew1) | exact HB.out)) hb); clear HO223; clear HO228; clear HB; have HO223 := n0_; have HO228 := n1_; have HB := n2_; clear n0_ n1_ n2_; (try clear hb); (try clear hb2); (try clear hk); (try clear hi)) | ((with_reducible refine gate_callee (f := 55) rfl ?_); refine goesL_ (some 56) rfl rfl Try.func55 (by kernel_rfl) rfl #[.string a0] rfl (by (try simp only [List.map_toArray, List.map_cons, List.map_nil]); first | done | rfl | (simp only [List.length_drop, List.length_take]; rfl)) ?_; (with_reducible refine (impl_Lex.calls k a0 t233 t234 t235 _ A13.out).mono ?_); rintro e w28 ⟨v236, rfl, ho0, hb⟩; refine ⟨_, rfl, ?_⟩; have n0_ := Aside0.mk (Kd.R_elder' (by (with_reducible repeat (first | apply Kd.R_alloc | apply Kd.R_drewN | apply Kd.R_drew)); exact HO223.out) (Kd.R_base ho0) hb); have n1_ := Aside0.mk (Kd.R_elder' (by (with_reducible repeat (first | apply Kd.R_alloc | apply Kd.R_drewN | apply Kd.R_drew)); exact HO228.out) (Kd.R_base ho0) hb); have n2_ := Aside0.mk (Kd.R_lower (Kd.R_new' (Kd.R_new' ho0 (Kd.R_lt (by (with_reducible repeat (first | apply Kd.R_alloc | apply Kd.R_drewN | apply Kd.R_drew)); exact HO223.out))) (Kd.R_lt (by (with_reducible repeat (first | apply Kd.R_alloc | apply Kd.R_drewN | apply Kd.R_drew)); exact HO228.out))) (below_size (by repeat (first | (with_reducible first | exact HB.out | apply below_alloc | apply pw_below_drewN | apply below_drew1) | exact HB.out)))); have n3_ := Aside0.mk (below_step (by repeat (first | (with_reducible first | exact HB.out | apply below_alloc | apply pw_below_drewN | apply below_drew1) | exact HB.out)) hb); clear HO223; clear HO228; clear HB; have HO223 := n0_; have HO228 := n1_; have HO237 := n2_; have HB := n3_; clear n0_ n1_ n2_ n3_; (try clear hb); (try clear hb2); (try clear hk); (try clear hi); (try clear ho0); obtain ⟨Ao29, co29, eo29⟩ := Kd.R_slice HO237.out; subst eo29) | ((with_reducible refine gate_callee (f := 56) rfl ?_); refine goesL_ (some 62) rfl rfl Try.func56 (by kernel_rfl) rfl #[.slice Ao29 t233.length co29, .slice Ao24 t219.length co24] rfl (by (try simp only [List.map_toArray, List.map_cons, List.map_nil]); first | done | rfl | (simp only [List.length_drop, List.length_take]; rfl)) ?_; (with_reducible refine (laws_eqTokenS.calls k _ _ t233 _ _ t219 true _ ?side1 ?side2 ?side3 ?side4 A14.out).mono ?_); (case side1 => repeat (first | exact (Kd.R_reads' HO237.out).2.2 | (with_reducible refine Kd.C_alloc ?_ _) | (with_reducible refine Kd.C_drewN ?_ _) | (with_reducible refine Kd.C_drew ?_))); (case side2 => exact (Kd.R_reads' HO237.out).2.1); (case side3 => repeat (first | exact (Kd.R_reads' HO223.out).2.2 | (with_reducible refine Kd.C_alloc ?_ _) | (with_reducible refine Kd.C_drewN ?_ _) | (with_reducible refine Kd.C_drew ?_))); (case side4 => exact (Kd.R_reads' HO223.out).2.1); rintro e w30 ⟨rfl, hb⟩; refine ⟨_, rfl, ?_⟩; have n0_ := Aside0.mk (Kd.R_below (by (with_reducible repeat (first | apply Kd.R_alloc | apply Kd.R_drewN | apply Kd.R_drew)); exact HO223.out) hb); have n1_ := Aside0.mk (Kd.R_below (by (with_reducible repeat (first | apply Kd.R_alloc | apply Kd.R_drewN | apply Kd.R_drew)); exact HO228.out) hb); have n2_ := Aside0.mk (Kd.R_below (by (with_reducible repeat (first | apply Kd.R_alloc | apply Kd.R_drewN | apply Kd.R_drew)); exact HO237.out) hb); have n3_ := Aside0.mk (below_step (by repeat (first | (with_reducible first | exact HB.out | apply below_alloc | apply pw_below_drewN | apply below_drew1) | exact HB.out)) hb); clear HO223; clear HO228; clear HO237; clear HB; have HO223 := n0_; have HO228 := n1_; have HO237 := n2_; have HB := n3_; clear n0_ n1_ n2_ n3_; (try clear hb); (try clear hb2); (try clear hk); (try clear hi)) | ((with_reducible refine gate_callee (f := 58) rfl ?_); refine goesL_ (some 76) rfl rfl Try.func58 (by kernel_rfl) rfl #[.slice Ao23 t231.length co23, .int .i64 1] rfl (by (try simp only [List.map_toArray, List.map_cons, List.map_nil]); first | done | (rw [show t231.length = t224.length from (Kd.R_reads' HO228.out).1.symm] <;> rfl) | rfl | (simp only [List.length_drop, List.length_take]; rfl)) ?_; (with_reducible refine (laws_heldTokenS.calls k _ _ t231 1 t239 _ ?side1 ?side2 A18.out).mono ?_); (case side1 => repeat (first | exact (Kd.R_reads' HO228.out).2.2 | (with_reducible refine Kd.C_alloc ?_ _) | (with_reducible refine Kd.C_drewN ?_ _) | (with_reducible refine Kd.C_drew ?_))); (case side2 => rw [show t231.length = t224.length from (Kd.R_reads' HO228.out).1.symm]; exact (Kd.R_reads' HO228.out).2.1); rintro e w31 ⟨rfl, hb⟩; refine ⟨_, rfl, ?_⟩; have n0_ := Aside0.mk (Kd.R_below (by (with_reducible repeat (first | apply Kd.R_alloc | apply Kd.R_drewN | apply Kd.R_drew)); exact HO228.out) hb); have n1_ := Aside0.mk (below_step (by repeat (first | (with_reducible first | exact HB.out | apply below_alloc | apply pw_below_drewN | apply below_drew1) | exact HB.out)) hb); clear HO228; clear HB; have HO228 := n0_; have HB := n1_; clear n0_ n1_; (try clear hb); (try clear hb2); (try clear hk); (try clear hi)))
                        go_ret
                        exact ⟨by first | rfl | (simp [errW_none, errW_some] <;> rfl) | (simp [*, errW_none, errW_some] <;> rfl), by repeat (first | (with_reducible first | exact HB.out | apply below_alloc | apply pw_below_drewN | apply below_drew1) | exact HB.out)⟩
                      · rw [if_neg c20] at H
                        exact absurd H (by simp)
                  · rw [if_neg c17] at H
                    exact absurd H (by simp)
                · rw [if_neg c16] at H
                  exact absurd H (by simp)
              · replace c15 := Bool.eq_false_iff.mpr c15
                subst c15
                have H1 : (none) = some r := by rw [if_neg (show ¬ (false = true) by decide)] at H; exact H
                clear H
                have H := H1
                clear H1
                exact absurd H (by simp)
            · rw [if_neg c12] at H
              exact absurd H (by simp)
        · rw [if_neg c8] at H
          exact absurd H (by simp)
      · rw [if_neg c7] at H
        exact absurd H (by simp)
    · replace c6 := Bool.eq_false_iff.mpr c6
      subst c6
      have H1 : (none) = some r := by rw [if_neg (show ¬ (false = true) by decide)] at H; exact H
      clear H
      have H := H1
      clear H1
      exact absurd H (by simp)

end Go.Proofs.Ytnecbgeljanhiaa.PFnExactLex
