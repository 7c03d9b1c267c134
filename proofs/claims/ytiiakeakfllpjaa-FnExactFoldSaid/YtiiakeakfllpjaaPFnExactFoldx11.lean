-- written by wip/tools/myprint.py out of the program's own print
import Derived.Test.YtiiakeakfllpjaaPFnExactFoldx0
import Derived.Test.YtiiakeakfllpjaaPFnExactFoldx8
import Derived.Test.YtiiakeakfllpjaaPFnExactFoldx9
import Derived.Test.YtiiakeakfllpjaaPFnExactFoldx10
namespace Go.Proofs.Ytiiakeakfllpjaa.PFnExactFold
open Go.Proofs.Ytiiakeakfllpjaa.Own (rS cS bS rB rN rT kS kC kc10 kf10)
open Go.RowKit Go.Proofs.YtiiakeakfllpjaaW.PrintWords Go.Proofs.YtiiakeakfllpjaaW.PrintLast Go.Proofs.YtiiakeakfllpjaaW.PrintMore
attribute [local go_sem] max2_int min2_int max_two min_two max_three min_three max_four min_four   -- for this text's walks alone
set_option linter.unusedVariables false
set_option linter.unusedSimpArgs false

/-! ### impl_textOk: function 43 -/
def impl_textOk.f (k : Nat) (a0_0 : Int) (a0_1 : ByteArray) (a0_2 : Int) (l0_3 : List Int) : Option (Bool) := if a0_0 = 2 then ((impl_RealOf.f k a0_1).bind fun bt236 => (some bt236.2)) else (if a0_0 = 4 then ((impl_NameOk.f k a0_1).bind fun t238 => (some t238)) else (if a0_0 = 5 then ((impl_NameOk.f k a0_1).bind fun t239 => (some t239)) else (if a0_0 = 6 then ((impl_NameOk.f k a0_1).bind fun t240 => (some t240)) else (if a0_0 = 7 then ((impl_NameOk.f k a0_1).bind fun t241 => (some t241)) else (if a0_0 = 12 then ((impl_NameOk.f k a0_1).bind fun t242 => (some t242)) else (if a0_0 = 13 then ((impl_NameOk.f k a0_1).bind fun t243 => (some t243)) else (if a0_0 = 14 then ((impl_NameOk.f k a0_1).bind fun t244 => (some t244)) else (if a0_0 = 15 then ((impl_NameOk.f k a0_1).bind fun t245 => (some t245)) else (if a0_0 = 19 then ((impl_NameOk.f k a0_1).bind fun t246 => (some t246)) else (if a0_0 = 20 then ((impl_NameOk.f k a0_1).bind fun t247 => (some t247)) else (if a0_0 = 23 then ((impl_NameOk.f k a0_1).bind fun t248 => (some t248)) else (if a0_0 = 24 then ((impl_NameOk.f k a0_1).bind fun t249 => (some t249)) else (if a0_0 = 28 then ((impl_NameOk.f k a0_1).bind fun t250 => (some t250)) else (if a0_0 = 31 then ((impl_NameOk.f k a0_1).bind fun t251 => (some t251)) else (if a0_0 = 32 then ((impl_NameOk.f k a0_1).bind fun t252 => (some t252)) else (if a0_0 = 33 then ((impl_NameOk.f k a0_1).bind fun t253 => (some t253)) else (if a0_0 = 34 then ((impl_NameOk.f k a0_1).bind fun t254 => (some t254)) else (some (a0_1.toList == ([] : List UInt8))))))))))))))))))))
set_option maxHeartbeats 8000000 in
set_option maxRecDepth 100000 in
theorem impl_textOk.calls (k : Nat) (a0_0 : Int) (a0_1 : ByteArray) (a0_2 : Int) (A0_3 : Option Addr) (c0_3 : Nat) (l0_3 : List Int) (r : Bool) (w : World) (hr0_3 : Kd.C (Kd.int .i64) w A0_3 l0_3.length l0_3) (hc0_3 : l0_3.length ≤ c0_3) (h : impl_textOk.f k a0_0 a0_1 a0_2 l0_3 = some r) :
  Calls Try.prog 43 #[.agg #[.int .i64 a0_0, .string a0_1, .int .i64 a0_2, .slice A0_3 l0_3.length c0_3]] w fun e w' => e = .returned (.bool r) ∧ Below w.heap.size w w' := by
 have hu56 := Try.underlying56
 have HR0_3 := Aside0.mk hr0_3
 have HC0_3 := Aside0.mk hc0_3
 clear hr0_3 hc0_3
 have HB := Aside0.mk (Below.refl w.heap.size w)
 have H : (if a0_0 = 2 then ((impl_RealOf.f k a0_1).bind fun bt236 => (some bt236.2)) else (if a0_0 = 4 then ((impl_NameOk.f k a0_1).bind fun t238 => (some t238)) else (if a0_0 = 5 then ((impl_NameOk.f k a0_1).bind fun t239 => (some t239)) else (if a0_0 = 6 then ((impl_NameOk.f k a0_1).bind fun t240 => (some t240)) else (if a0_0 = 7 then ((impl_NameOk.f k a0_1).bind fun t241 => (some t241)) else (if a0_0 = 12 then ((impl_NameOk.f k a0_1).bind fun t242 => (some t242)) else (if a0_0 = 13 then ((impl_NameOk.f k a0_1).bind fun t243 => (some t243)) else (if a0_0 = 14 then ((impl_NameOk.f k a0_1).bind fun t244 => (some t244)) else (if a0_0 = 15 then ((impl_NameOk.f k a0_1).bind fun t245 => (some t245)) else (if a0_0 = 19 then ((impl_NameOk.f k a0_1).bind fun t246 => (some t246)) else (if a0_0 = 20 then ((impl_NameOk.f k a0_1).bind fun t247 => (some t247)) else (if a0_0 = 23 then ((impl_NameOk.f k a0_1).bind fun t248 => (some t248)) else (if a0_0 = 24 then ((impl_NameOk.f k a0_1).bind fun t249 => (some t249)) else (if a0_0 = 28 then ((impl_NameOk.f k a0_1).bind fun t250 => (some t250)) else (if a0_0 = 31 then ((impl_NameOk.f k a0_1).bind fun t251 => (some t251)) else (if a0_0 = 32 then ((impl_NameOk.f k a0_1).bind fun t252 => (some t252)) else (if a0_0 = 33 then ((impl_NameOk.f k a0_1).bind fun t253 => (some t253)) else (if a0_0 = 34 then ((impl_NameOk.f k a0_1).bind fun t254 => (some t254)) else (some (a0_1.toList == ([] : List UInt8))))))))))))))))))))) = some r := h
 clear h
 by_cases c2 : a0_0 = 2
 ·rw [if_pos c2] at H
  have c2b0 : (a0_0 == 2) = true := beq_iff_eq.mpr c2
  have c2b1 : (a0_0 != 2) = false := bne_eq_false_iff_eq.mpr c2
  clear c2
  replace H := Option.bind_eq_some_iff.mp H
  obtain ⟨⟨t236, t237⟩, A30, H⟩ := H
  (try dsimp only at H)
  have A3 := Aside0.mk A30
  clear A30
  obtain rfl := Option.some.inj H
  go_enter Try.func43, Try.ntmps43
  go_wp2_with (first | ((with_reducible refine gate_dst (N := 1) rfl ?_); refine box_event ?hg (N := 1) ?hd (cs := #[.int .i64 a0_0, .string a0_1, .int .i64 a0_2, .slice A0_3 l0_3.length c0_3]) (t := 56) ?hr ?_; (case hd => rfl); (case hg => rfl); (case hr => first | (go_simp; done) | (go_simp; rfl)); intro gb235 hg w4 hbox hb; have n0_ := Aside0.mk (below_step (bS HB.out) hb); have BK235 := Aside0.mk (hbox); have GW235 := Aside0.mk ((by rw [hg]; exact (below_size (bS HB.out)) : w.heap.size ≤ gb235)); have GE235 := Aside0.mk ((by rw [hg]; exact (below_size (bS HB.out)) : w.heap.size ≤ gb235)); clear HB; have HB := n0_; clear n0_; clear hb hbox hg; have hcz5_0 : w4.cell? ⟨gb235, 0, none⟩ = some (.int .i64 a0_0) := kC BK235.out 0 rfl; have hcz5_1 : w4.cell? ⟨gb235, 1, none⟩ = some (.string a0_1) := kC BK235.out 1 rfl; have hcz5_2 : w4.cell? ⟨gb235, 2, none⟩ = some (.int .i64 a0_2) := kC BK235.out 2 rfl; have hcz5_3 : w4.cell? ⟨gb235, 3, none⟩ = some (.slice A0_3 l0_3.length c0_3) := kC BK235.out 3 rfl; have hfz5_0 := blk_frozen BK235.out 0; have hfz5_1 := blk_frozen BK235.out 1; have hfz5_2 := blk_frozen BK235.out 2; have hfz5_3 := blk_frozen BK235.out 3) | ((with_reducible refine gate_callee (f := 61) rfl ?_); refine goesL_ (some 12) rfl rfl Try.func61 (by kernel_rfl) rfl #[.string a0_1] rfl (by (try simp only [List.map_toArray, List.map_cons, List.map_nil]); first | done | rfl | (simp only [List.length_drop, List.length_take]; rfl)) ?_; (with_reducible refine (impl_RealOf.calls k a0_1 t236 t237 _ A3.out).mono ?_); rintro e w' ⟨rfl, ⟨nd, rfl⟩⟩; refine ⟨_, rfl, ?_⟩))
  go_ret
  exact ⟨by first | rfl | (simp [errW_none, errW_some] <;> rfl) | (simp [*, errW_none, errW_some] <;> rfl), by repeat (first | (with_reducible first | exact HB.out | apply below_alloc | apply pw_below_drewN | apply below_drew1 | refine below_set ?_ GE235.out) | exact HB.out)⟩
 ·rw [if_neg c2] at H
  have c2b0 : (a0_0 == 2) = false := beq_eq_false_iff_ne.mpr c2
  have c2b1 : (a0_0 != 2) = true := bne_iff_ne.mpr c2
  by_cases c6 : a0_0 = 4
  ·rw [if_pos c6] at H
   have c6b0 : (a0_0 == 4) = true := beq_iff_eq.mpr c6
   have c6b1 : (a0_0 != 4) = false := bne_eq_false_iff_eq.mpr c6
   clear c6
   replace H := Option.bind_eq_some_iff.mp H
   obtain ⟨t238, A70, H⟩ := H
   (try dsimp only at H)
   have A7 := Aside0.mk A70
   clear A70
   obtain rfl := Option.some.inj H
   go_enter Try.func43, Try.ntmps43
   go_wp2_with (first | ((with_reducible refine gate_dst (N := 1) rfl ?_); refine box_event ?hg (N := 1) ?hd (cs := #[.int .i64 a0_0, .string a0_1, .int .i64 a0_2, .slice A0_3 l0_3.length c0_3]) (t := 56) ?hr ?_; (case hd => rfl); (case hg => rfl); (case hr => first | (go_simp; done) | (go_simp; rfl)); intro gb235 hg w8 hbox hb; have n0_ := Aside0.mk (below_step (bS HB.out) hb); have BK235 := Aside0.mk (hbox); have GW235 := Aside0.mk ((by rw [hg]; exact (below_size (bS HB.out)) : w.heap.size ≤ gb235)); have GE235 := Aside0.mk ((by rw [hg]; exact (below_size (bS HB.out)) : w.heap.size ≤ gb235)); clear HB; have HB := n0_; clear n0_; clear hb hbox hg; have hcz9_0 : w8.cell? ⟨gb235, 0, none⟩ = some (.int .i64 a0_0) := kC BK235.out 0 rfl; have hcz9_1 : w8.cell? ⟨gb235, 1, none⟩ = some (.string a0_1) := kC BK235.out 1 rfl; have hcz9_2 : w8.cell? ⟨gb235, 2, none⟩ = some (.int .i64 a0_2) := kC BK235.out 2 rfl; have hcz9_3 : w8.cell? ⟨gb235, 3, none⟩ = some (.slice A0_3 l0_3.length c0_3) := kC BK235.out 3 rfl; have hfz9_0 := blk_frozen BK235.out 0; have hfz9_1 := blk_frozen BK235.out 1; have hfz9_2 := blk_frozen BK235.out 2; have hfz9_3 := blk_frozen BK235.out 3) | ((with_reducible refine gate_callee (f := 62) rfl ?_); refine goesL_ (some 36) rfl rfl Try.func62 (by kernel_rfl) rfl #[.string a0_1] rfl (by (try simp only [List.map_toArray, List.map_cons, List.map_nil]); first | done | rfl | (simp only [List.length_drop, List.length_take]; rfl)) ?_; (with_reducible refine (impl_NameOk.calls k a0_1 t238 _ A7.out).mono ?_); rintro e w' ⟨rfl, ⟨nd, rfl⟩⟩; refine ⟨_, rfl, ?_⟩))
   go_ret
   exact ⟨by first | rfl | (simp [errW_none, errW_some] <;> rfl) | (simp [*, errW_none, errW_some] <;> rfl), by repeat (first | (with_reducible first | exact HB.out | apply below_alloc | apply pw_below_drewN | apply below_drew1 | refine below_set ?_ GE235.out) | exact HB.out)⟩
  ·rw [if_neg c6] at H
   have c6b0 : (a0_0 == 4) = false := beq_eq_false_iff_ne.mpr c6
   have c6b1 : (a0_0 != 4) = true := bne_iff_ne.mpr c6
   by_cases c10 : a0_0 = 5
   ·rw [if_pos c10] at H
    have c10b0 : (a0_0 == 5) = true := beq_iff_eq.mpr c10
    have c10b1 : (a0_0 != 5) = false := bne_eq_false_iff_eq.mpr c10
    clear c10
    replace H := Option.bind_eq_some_iff.mp H
    obtain ⟨t239, A110, H⟩ := H
    (try dsimp only at H)
    have A11 := Aside0.mk A110
    clear A110
    obtain rfl := Option.some.inj H
    go_enter Try.func43, Try.ntmps43
    go_wp2_with (first | ((with_reducible refine gate_dst (N := 1) rfl ?_); refine box_event ?hg (N := 1) ?hd (cs := #[.int .i64 a0_0, .string a0_1, .int .i64 a0_2, .slice A0_3 l0_3.length c0_3]) (t := 56) ?hr ?_; (case hd => rfl); (case hg => rfl); (case hr => first | (go_simp; done) | (go_simp; rfl)); intro gb235 hg w12 hbox hb; have n0_ := Aside0.mk (below_step (bS HB.out) hb); have BK235 := Aside0.mk (hbox); have GW235 := Aside0.mk ((by rw [hg]; exact (below_size (bS HB.out)) : w.heap.size ≤ gb235)); have GE235 := Aside0.mk ((by rw [hg]; exact (below_size (bS HB.out)) : w.heap.size ≤ gb235)); clear HB; have HB := n0_; clear n0_; clear hb hbox hg; have hcz13_0 : w12.cell? ⟨gb235, 0, none⟩ = some (.int .i64 a0_0) := kC BK235.out 0 rfl; have hcz13_1 : w12.cell? ⟨gb235, 1, none⟩ = some (.string a0_1) := kC BK235.out 1 rfl; have hcz13_2 : w12.cell? ⟨gb235, 2, none⟩ = some (.int .i64 a0_2) := kC BK235.out 2 rfl; have hcz13_3 : w12.cell? ⟨gb235, 3, none⟩ = some (.slice A0_3 l0_3.length c0_3) := kC BK235.out 3 rfl; have hfz13_0 := blk_frozen BK235.out 0; have hfz13_1 := blk_frozen BK235.out 1; have hfz13_2 := blk_frozen BK235.out 2; have hfz13_3 := blk_frozen BK235.out 3) | ((with_reducible refine gate_callee (f := 62) rfl ?_); refine goesL_ (some 36) rfl rfl Try.func62 (by kernel_rfl) rfl #[.string a0_1] rfl (by (try simp only [List.map_toArray, List.map_cons, List.map_nil]); first | done | rfl | (simp only [List.length_drop, List.length_take]; rfl)) ?_; (with_reducible refine (impl_NameOk.calls k a0_1 t239 _ A11.out).mono ?_); rintro e w' ⟨rfl, ⟨nd, rfl⟩⟩; refine ⟨_, rfl, ?_⟩))
    go_ret
    exact ⟨by first | rfl | (simp [errW_none, errW_some] <;> rfl) | (simp [*, errW_none, errW_some] <;> rfl), by repeat (first | (with_reducible first | exact HB.out | apply below_alloc | apply pw_below_drewN | apply below_drew1 | refine below_set ?_ GE235.out) | exact HB.out)⟩
   ·rw [if_neg c10] at H
    have c10b0 : (a0_0 == 5) = false := beq_eq_false_iff_ne.mpr c10
    have c10b1 : (a0_0 != 5) = true := bne_iff_ne.mpr c10
    by_cases c14 : a0_0 = 6
    ·rw [if_pos c14] at H
     have c14b0 : (a0_0 == 6) = true := beq_iff_eq.mpr c14
     have c14b1 : (a0_0 != 6) = false := bne_eq_false_iff_eq.mpr c14
     clear c14
     replace H := Option.bind_eq_some_iff.mp H
     obtain ⟨t240, A150, H⟩ := H
     (try dsimp only at H)
     have A15 := Aside0.mk A150
     clear A150
     obtain rfl := Option.some.inj H
     go_enter Try.func43, Try.ntmps43
     go_wp2_with (first | ((with_reducible refine gate_dst (N := 1) rfl ?_); refine box_event ?hg (N := 1) ?hd (cs := #[.int .i64 a0_0, .string a0_1, .int .i64 a0_2, .slice A0_3 l0_3.length c0_3]) (t := 56) ?hr ?_; (case hd => rfl); (case hg => rfl); (case hr => first | (go_simp; done) | (go_simp; rfl)); intro gb235 hg w16 hbox hb; have n0_ := Aside0.mk (below_step (bS HB.out) hb); have BK235 := Aside0.mk (hbox); have GW235 := Aside0.mk ((by rw [hg]; exact (below_size (bS HB.out)) : w.heap.size ≤ gb235)); have GE235 := Aside0.mk ((by rw [hg]; exact (below_size (bS HB.out)) : w.heap.size ≤ gb235)); clear HB; have HB := n0_; clear n0_; clear hb hbox hg; have hcz17_0 : w16.cell? ⟨gb235, 0, none⟩ = some (.int .i64 a0_0) := kC BK235.out 0 rfl; have hcz17_1 : w16.cell? ⟨gb235, 1, none⟩ = some (.string a0_1) := kC BK235.out 1 rfl; have hcz17_2 : w16.cell? ⟨gb235, 2, none⟩ = some (.int .i64 a0_2) := kC BK235.out 2 rfl; have hcz17_3 : w16.cell? ⟨gb235, 3, none⟩ = some (.slice A0_3 l0_3.length c0_3) := kC BK235.out 3 rfl; have hfz17_0 := blk_frozen BK235.out 0; have hfz17_1 := blk_frozen BK235.out 1; have hfz17_2 := blk_frozen BK235.out 2; have hfz17_3 := blk_frozen BK235.out 3) | ((with_reducible refine gate_callee (f := 62) rfl ?_); refine goesL_ (some 36) rfl rfl Try.func62 (by kernel_rfl) rfl #[.string a0_1] rfl (by (try simp only [List.map_toArray, List.map_cons, List.map_nil]); first | done | rfl | (simp only [List.length_drop, List.length_take]; rfl)) ?_; (with_reducible refine (impl_NameOk.calls k a0_1 t240 _ A15.out).mono ?_); rintro e w' ⟨rfl, ⟨nd, rfl⟩⟩; refine ⟨_, rfl, ?_⟩))
     go_ret
     exact ⟨by first | rfl | (simp [errW_none, errW_some] <;> rfl) | (simp [*, errW_none, errW_some] <;> rfl), by repeat (first | (with_reducible first | exact HB.out | apply below_alloc | apply pw_below_drewN | apply below_drew1 | refine below_set ?_ GE235.out) | exact HB.out)⟩
    ·rw [if_neg c14] at H
     have c14b0 : (a0_0 == 6) = false := beq_eq_false_iff_ne.mpr c14
     have c14b1 : (a0_0 != 6) = true := bne_iff_ne.mpr c14
     by_cases c18 : a0_0 = 7
     ·rw [if_pos c18] at H
      have c18b0 : (a0_0 == 7) = true := beq_iff_eq.mpr c18
      have c18b1 : (a0_0 != 7) = false := bne_eq_false_iff_eq.mpr c18
      clear c18
      replace H := Option.bind_eq_some_iff.mp H
      obtain ⟨t241, A190, H⟩ := H
      (try dsimp only at H)
      have A19 := Aside0.mk A190
      clear A190
      obtain rfl := Option.some.inj H
      go_enter Try.func43, Try.ntmps43
      go_wp2_with (first | ((with_reducible refine gate_dst (N := 1) rfl ?_); refine box_event ?hg (N := 1) ?hd (cs := #[.int .i64 a0_0, .string a0_1, .int .i64 a0_2, .slice A0_3 l0_3.length c0_3]) (t := 56) ?hr ?_; (case hd => rfl); (case hg => rfl); (case hr => first | (go_simp; done) | (go_simp; rfl)); intro gb235 hg w20 hbox hb; have n0_ := Aside0.mk (below_step (bS HB.out) hb); have BK235 := Aside0.mk (hbox); have GW235 := Aside0.mk ((by rw [hg]; exact (below_size (bS HB.out)) : w.heap.size ≤ gb235)); have GE235 := Aside0.mk ((by rw [hg]; exact (below_size (bS HB.out)) : w.heap.size ≤ gb235)); clear HB; have HB := n0_; clear n0_; clear hb hbox hg; have hcz21_0 : w20.cell? ⟨gb235, 0, none⟩ = some (.int .i64 a0_0) := kC BK235.out 0 rfl; have hcz21_1 : w20.cell? ⟨gb235, 1, none⟩ = some (.string a0_1) := kC BK235.out 1 rfl; have hcz21_2 : w20.cell? ⟨gb235, 2, none⟩ = some (.int .i64 a0_2) := kC BK235.out 2 rfl; have hcz21_3 : w20.cell? ⟨gb235, 3, none⟩ = some (.slice A0_3 l0_3.length c0_3) := kC BK235.out 3 rfl; have hfz21_0 := blk_frozen BK235.out 0; have hfz21_1 := blk_frozen BK235.out 1; have hfz21_2 := blk_frozen BK235.out 2; have hfz21_3 := blk_frozen BK235.out 3) | ((with_reducible refine gate_callee (f := 62) rfl ?_); refine goesL_ (some 36) rfl rfl Try.func62 (by kernel_rfl) rfl #[.string a0_1] rfl (by (try simp only [List.map_toArray, List.map_cons, List.map_nil]); first | done | rfl | (simp only [List.length_drop, List.length_take]; rfl)) ?_; (with_reducible refine (impl_NameOk.calls k a0_1 t241 _ A19.out).mono ?_); rintro e w' ⟨rfl, ⟨nd, rfl⟩⟩; refine ⟨_, rfl, ?_⟩))
      go_ret
      exact ⟨by first | rfl | (simp [errW_none, errW_some] <;> rfl) | (simp [*, errW_none, errW_some] <;> rfl), by repeat (first | (with_reducible first | exact HB.out | apply below_alloc | apply pw_below_drewN | apply below_drew1 | refine below_set ?_ GE235.out) | exact HB.out)⟩
     ·rw [if_neg c18] at H
      have c18b0 : (a0_0 == 7) = false := beq_eq_false_iff_ne.mpr c18
      have c18b1 : (a0_0 != 7) = true := bne_iff_ne.mpr c18
      by_cases c22 : a0_0 = 12
      ·rw [if_pos c22] at H
       have c22b0 : (a0_0 == 12) = true := beq_iff_eq.mpr c22
       have c22b1 : (a0_0 != 12) = false := bne_eq_false_iff_eq.mpr c22
       clear c22
       replace H := Option.bind_eq_some_iff.mp H
       obtain ⟨t242, A230, H⟩ := H
       (try dsimp only at H)
       have A23 := Aside0.mk A230
       clear A230
       obtain rfl := Option.some.inj H
       go_enter Try.func43, Try.ntmps43
       go_wp2_with (first | ((with_reducible refine gate_dst (N := 1) rfl ?_); refine box_event ?hg (N := 1) ?hd (cs := #[.int .i64 a0_0, .string a0_1, .int .i64 a0_2, .slice A0_3 l0_3.length c0_3]) (t := 56) ?hr ?_; (case hd => rfl); (case hg => rfl); (case hr => first | (go_simp; done) | (go_simp; rfl)); intro gb235 hg w24 hbox hb; have n0_ := Aside0.mk (below_step (bS HB.out) hb); have BK235 := Aside0.mk (hbox); have GW235 := Aside0.mk ((by rw [hg]; exact (below_size (bS HB.out)) : w.heap.size ≤ gb235)); have GE235 := Aside0.mk ((by rw [hg]; exact (below_size (bS HB.out)) : w.heap.size ≤ gb235)); clear HB; have HB := n0_; clear n0_; clear hb hbox hg; have hcz25_0 : w24.cell? ⟨gb235, 0, none⟩ = some (.int .i64 a0_0) := kC BK235.out 0 rfl; have hcz25_1 : w24.cell? ⟨gb235, 1, none⟩ = some (.string a0_1) := kC BK235.out 1 rfl; have hcz25_2 : w24.cell? ⟨gb235, 2, none⟩ = some (.int .i64 a0_2) := kC BK235.out 2 rfl; have hcz25_3 : w24.cell? ⟨gb235, 3, none⟩ = some (.slice A0_3 l0_3.length c0_3) := kC BK235.out 3 rfl; have hfz25_0 := blk_frozen BK235.out 0; have hfz25_1 := blk_frozen BK235.out 1; have hfz25_2 := blk_frozen BK235.out 2; have hfz25_3 := blk_frozen BK235.out 3) | ((with_reducible refine gate_callee (f := 62) rfl ?_); refine goesL_ (some 36) rfl rfl Try.func62 (by kernel_rfl) rfl #[.string a0_1] rfl (by (try simp only [List.map_toArray, List.map_cons, List.map_nil]); first | done | rfl | (simp only [List.length_drop, List.length_take]; rfl)) ?_; (with_reducible refine (impl_NameOk.calls k a0_1 t242 _ A23.out).mono ?_); rintro e w' ⟨rfl, ⟨nd, rfl⟩⟩; refine ⟨_, rfl, ?_⟩))
       go_ret
       exact ⟨by first | rfl | (simp [errW_none, errW_some] <;> rfl) | (simp [*, errW_none, errW_some] <;> rfl), by repeat (first | (with_reducible first | exact HB.out | apply below_alloc | apply pw_below_drewN | apply below_drew1 | refine below_set ?_ GE235.out) | exact HB.out)⟩
      ·rw [if_neg c22] at H
       have c22b0 : (a0_0 == 12) = false := beq_eq_false_iff_ne.mpr c22
       have c22b1 : (a0_0 != 12) = true := bne_iff_ne.mpr c22
       by_cases c26 : a0_0 = 13
       ·rw [if_pos c26] at H
        have c26b0 : (a0_0 == 13) = true := beq_iff_eq.mpr c26
        have c26b1 : (a0_0 != 13) = false := bne_eq_false_iff_eq.mpr c26
        clear c26
        replace H := Option.bind_eq_some_iff.mp H
        obtain ⟨t243, A270, H⟩ := H
        (try dsimp only at H)
        have A27 := Aside0.mk A270
        clear A270
        obtain rfl := Option.some.inj H
        go_enter Try.func43, Try.ntmps43
        go_wp2_with (first | ((with_reducible refine gate_dst (N := 1) rfl ?_); refine box_event ?hg (N := 1) ?hd (cs := #[.int .i64 a0_0, .string a0_1, .int .i64 a0_2, .slice A0_3 l0_3.length c0_3]) (t := 56) ?hr ?_; (case hd => rfl); (case hg => rfl); (case hr => first | (go_simp; done) | (go_simp; rfl)); intro gb235 hg w28 hbox hb; have n0_ := Aside0.mk (below_step (bS HB.out) hb); have BK235 := Aside0.mk (hbox); have GW235 := Aside0.mk ((by rw [hg]; exact (below_size (bS HB.out)) : w.heap.size ≤ gb235)); have GE235 := Aside0.mk ((by rw [hg]; exact (below_size (bS HB.out)) : w.heap.size ≤ gb235)); clear HB; have HB := n0_; clear n0_; clear hb hbox hg; have hcz29_0 : w28.cell? ⟨gb235, 0, none⟩ = some (.int .i64 a0_0) := kC BK235.out 0 rfl; have hcz29_1 : w28.cell? ⟨gb235, 1, none⟩ = some (.string a0_1) := kC BK235.out 1 rfl; have hcz29_2 : w28.cell? ⟨gb235, 2, none⟩ = some (.int .i64 a0_2) := kC BK235.out 2 rfl; have hcz29_3 : w28.cell? ⟨gb235, 3, none⟩ = some (.slice A0_3 l0_3.length c0_3) := kC BK235.out 3 rfl; have hfz29_0 := blk_frozen BK235.out 0; have hfz29_1 := blk_frozen BK235.out 1; have hfz29_2 := blk_frozen BK235.out 2; have hfz29_3 := blk_frozen BK235.out 3) | ((with_reducible refine gate_callee (f := 62) rfl ?_); refine goesL_ (some 36) rfl rfl Try.func62 (by kernel_rfl) rfl #[.string a0_1] rfl (by (try simp only [List.map_toArray, List.map_cons, List.map_nil]); first | done | rfl | (simp only [List.length_drop, List.length_take]; rfl)) ?_; (with_reducible refine (impl_NameOk.calls k a0_1 t243 _ A27.out).mono ?_); rintro e w' ⟨rfl, ⟨nd, rfl⟩⟩; refine ⟨_, rfl, ?_⟩))
        go_ret
        exact ⟨by first | rfl | (simp [errW_none, errW_some] <;> rfl) | (simp [*, errW_none, errW_some] <;> rfl), by repeat (first | (with_reducible first | exact HB.out | apply below_alloc | apply pw_below_drewN | apply below_drew1 | refine below_set ?_ GE235.out) | exact HB.out)⟩
       ·rw [if_neg c26] at H
        have c26b0 : (a0_0 == 13) = false := beq_eq_false_iff_ne.mpr c26
        have c26b1 : (a0_0 != 13) = true := bne_iff_ne.mpr c26
        by_cases c30 : a0_0 = 14
        ·rw [if_pos c30] at H
         have c30b0 : (a0_0 == 14) = true := beq_iff_eq.mpr c30
         have c30b1 : (a0_0 != 14) = false := bne_eq_false_iff_eq.mpr c30
         clear c30
         replace H := Option.bind_eq_some_iff.mp H
         obtain ⟨t244, A310, H⟩ := H
         (try dsimp only at H)
         have A31 := Aside0.mk A310
         clear A310
         obtain rfl := Option.some.inj H
         go_enter Try.func43, Try.ntmps43
         go_wp2_with (first | ((with_reducible refine gate_dst (N := 1) rfl ?_); refine box_event ?hg (N := 1) ?hd (cs := #[.int .i64 a0_0, .string a0_1, .int .i64 a0_2, .slice A0_3 l0_3.length c0_3]) (t := 56) ?hr ?_; (case hd => rfl); (case hg => rfl); (case hr => first | (go_simp; done) | (go_simp; rfl)); intro gb235 hg w32 hbox hb; have n0_ := Aside0.mk (below_step (bS HB.out) hb); have BK235 := Aside0.mk (hbox); have GW235 := Aside0.mk ((by rw [hg]; exact (below_size (bS HB.out)) : w.heap.size ≤ gb235)); have GE235 := Aside0.mk ((by rw [hg]; exact (below_size (bS HB.out)) : w.heap.size ≤ gb235)); clear HB; have HB := n0_; clear n0_; clear hb hbox hg; have hcz33_0 : w32.cell? ⟨gb235, 0, none⟩ = some (.int .i64 a0_0) := kC BK235.out 0 rfl; have hcz33_1 : w32.cell? ⟨gb235, 1, none⟩ = some (.string a0_1) := kC BK235.out 1 rfl; have hcz33_2 : w32.cell? ⟨gb235, 2, none⟩ = some (.int .i64 a0_2) := kC BK235.out 2 rfl; have hcz33_3 : w32.cell? ⟨gb235, 3, none⟩ = some (.slice A0_3 l0_3.length c0_3) := kC BK235.out 3 rfl; have hfz33_0 := blk_frozen BK235.out 0; have hfz33_1 := blk_frozen BK235.out 1; have hfz33_2 := blk_frozen BK235.out 2; have hfz33_3 := blk_frozen BK235.out 3) | ((with_reducible refine gate_callee (f := 62) rfl ?_); refine goesL_ (some 36) rfl rfl Try.func62 (by kernel_rfl) rfl #[.string a0_1] rfl (by (try simp only [List.map_toArray, List.map_cons, List.map_nil]); first | done | rfl | (simp only [List.length_drop, List.length_take]; rfl)) ?_; (with_reducible refine (impl_NameOk.calls k a0_1 t244 _ A31.out).mono ?_); rintro e w' ⟨rfl, ⟨nd, rfl⟩⟩; refine ⟨_, rfl, ?_⟩))
         go_ret
         exact ⟨by first | rfl | (simp [errW_none, errW_some] <;> rfl) | (simp [*, errW_none, errW_some] <;> rfl), by repeat (first | (with_reducible first | exact HB.out | apply below_alloc | apply pw_below_drewN | apply below_drew1 | refine below_set ?_ GE235.out) | exact HB.out)⟩
        ·rw [if_neg c30] at H
         have c30b0 : (a0_0 == 14) = false := beq_eq_false_iff_ne.mpr c30
         have c30b1 : (a0_0 != 14) = true := bne_iff_ne.mpr c30
         by_cases c34 : a0_0 = 15
         ·rw [if_pos c34] at H
          have c34b0 : (a0_0 == 15) = true := beq_iff_eq.mpr c34
          have c34b1 : (a0_0 != 15) = false := bne_eq_false_iff_eq.mpr c34
          clear c34
          replace H := Option.bind_eq_some_iff.mp H
          obtain ⟨t245, A350, H⟩ := H
          (try dsimp only at H)
          have A35 := Aside0.mk A350
          clear A350
          obtain rfl := Option.some.inj H
          go_enter Try.func43, Try.ntmps43
          go_wp2_with (first | ((with_reducible refine gate_dst (N := 1) rfl ?_); refine box_event ?hg (N := 1) ?hd (cs := #[.int .i64 a0_0, .string a0_1, .int .i64 a0_2, .slice A0_3 l0_3.length c0_3]) (t := 56) ?hr ?_; (case hd => rfl); (case hg => rfl); (case hr => first | (go_simp; done) | (go_simp; rfl)); intro gb235 hg w36 hbox hb; have n0_ := Aside0.mk (below_step (bS HB.out) hb); have BK235 := Aside0.mk (hbox); have GW235 := Aside0.mk ((by rw [hg]; exact (below_size (bS HB.out)) : w.heap.size ≤ gb235)); have GE235 := Aside0.mk ((by rw [hg]; exact (below_size (bS HB.out)) : w.heap.size ≤ gb235)); clear HB; have HB := n0_; clear n0_; clear hb hbox hg; have hcz37_0 : w36.cell? ⟨gb235, 0, none⟩ = some (.int .i64 a0_0) := kC BK235.out 0 rfl; have hcz37_1 : w36.cell? ⟨gb235, 1, none⟩ = some (.string a0_1) := kC BK235.out 1 rfl; have hcz37_2 : w36.cell? ⟨gb235, 2, none⟩ = some (.int .i64 a0_2) := kC BK235.out 2 rfl; have hcz37_3 : w36.cell? ⟨gb235, 3, none⟩ = some (.slice A0_3 l0_3.length c0_3) := kC BK235.out 3 rfl; have hfz37_0 := blk_frozen BK235.out 0; have hfz37_1 := blk_frozen BK235.out 1; have hfz37_2 := blk_frozen BK235.out 2; have hfz37_3 := blk_frozen BK235.out 3) | ((with_reducible refine gate_callee (f := 62) rfl ?_); refine goesL_ (some 36) rfl rfl Try.func62 (by kernel_rfl) rfl #[.string a0_1] rfl (by (try simp only [List.map_toArray, List.map_cons, List.map_nil]); first | done | rfl | (simp only [List.length_drop, List.length_take]; rfl)) ?_; (with_reducible refine (impl_NameOk.calls k a0_1 t245 _ A35.out).mono ?_); rintro e w' ⟨rfl, ⟨nd, rfl⟩⟩; refine ⟨_, rfl, ?_⟩))
          go_ret
          exact ⟨by first | rfl | (simp [errW_none, errW_some] <;> rfl) | (simp [*, errW_none, errW_some] <;> rfl), by repeat (first | (with_reducible first | exact HB.out | apply below_alloc | apply pw_below_drewN | apply below_drew1 | refine below_set ?_ GE235.out) | exact HB.out)⟩
         ·rw [if_neg c34] at H
          have c34b0 : (a0_0 == 15) = false := beq_eq_false_iff_ne.mpr c34
          have c34b1 : (a0_0 != 15) = true := bne_iff_ne.mpr c34
          by_cases c38 : a0_0 = 19
          ·rw [if_pos c38] at H
           have c38b0 : (a0_0 == 19) = true := beq_iff_eq.mpr c38
           have c38b1 : (a0_0 != 19) = false := bne_eq_false_iff_eq.mpr c38
           clear c38
           replace H := Option.bind_eq_some_iff.mp H
           obtain ⟨t246, A390, H⟩ := H
           (try dsimp only at H)
           have A39 := Aside0.mk A390
           clear A390
           obtain rfl := Option.some.inj H
           go_enter Try.func43, Try.ntmps43
           go_wp2_with (first | ((with_reducible refine gate_dst (N := 1) rfl ?_); refine box_event ?hg (N := 1) ?hd (cs := #[.int .i64 a0_0, .string a0_1, .int .i64 a0_2, .slice A0_3 l0_3.length c0_3]) (t := 56) ?hr ?_; (case hd => rfl); (case hg => rfl); (case hr => first | (go_simp; done) | (go_simp; rfl)); intro gb235 hg w40 hbox hb; have n0_ := Aside0.mk (below_step (bS HB.out) hb); have BK235 := Aside0.mk (hbox); have GW235 := Aside0.mk ((by rw [hg]; exact (below_size (bS HB.out)) : w.heap.size ≤ gb235)); have GE235 := Aside0.mk ((by rw [hg]; exact (below_size (bS HB.out)) : w.heap.size ≤ gb235)); clear HB; have HB := n0_; clear n0_; clear hb hbox hg; have hcz41_0 : w40.cell? ⟨gb235, 0, none⟩ = some (.int .i64 a0_0) := kC BK235.out 0 rfl; have hcz41_1 : w40.cell? ⟨gb235, 1, none⟩ = some (.string a0_1) := kC BK235.out 1 rfl; have hcz41_2 : w40.cell? ⟨gb235, 2, none⟩ = some (.int .i64 a0_2) := kC BK235.out 2 rfl; have hcz41_3 : w40.cell? ⟨gb235, 3, none⟩ = some (.slice A0_3 l0_3.length c0_3) := kC BK235.out 3 rfl; have hfz41_0 := blk_frozen BK235.out 0; have hfz41_1 := blk_frozen BK235.out 1; have hfz41_2 := blk_frozen BK235.out 2; have hfz41_3 := blk_frozen BK235.out 3) | ((with_reducible refine gate_callee (f := 62) rfl ?_); refine goesL_ (some 36) rfl rfl Try.func62 (by kernel_rfl) rfl #[.string a0_1] rfl (by (try simp only [List.map_toArray, List.map_cons, List.map_nil]); first | done | rfl | (simp only [List.length_drop, List.length_take]; rfl)) ?_; (with_reducible refine (impl_NameOk.calls k a0_1 t246 _ A39.out).mono ?_); rintro e w' ⟨rfl, ⟨nd, rfl⟩⟩; refine ⟨_, rfl, ?_⟩))
           go_ret
           exact ⟨by first | rfl | (simp [errW_none, errW_some] <;> rfl) | (simp [*, errW_none, errW_some] <;> rfl), by repeat (first | (with_reducible first | exact HB.out | apply below_alloc | apply pw_below_drewN | apply below_drew1 | refine below_set ?_ GE235.out) | exact HB.out)⟩
          ·rw [if_neg c38] at H
           have c38b0 : (a0_0 == 19) = false := beq_eq_false_iff_ne.mpr c38
           have c38b1 : (a0_0 != 19) = true := bne_iff_ne.mpr c38
           by_cases c42 : a0_0 = 20
           ·rw [if_pos c42] at H
            have c42b0 : (a0_0 == 20) = true := beq_iff_eq.mpr c42
            have c42b1 : (a0_0 != 20) = false := bne_eq_false_iff_eq.mpr c42
            clear c42
            replace H := Option.bind_eq_some_iff.mp H
            obtain ⟨t247, A430, H⟩ := H
            (try dsimp only at H)
            have A43 := Aside0.mk A430
            clear A430
            obtain rfl := Option.some.inj H
            go_enter Try.func43, Try.ntmps43
            go_wp2_with (first | ((with_reducible refine gate_dst (N := 1) rfl ?_); refine box_event ?hg (N := 1) ?hd (cs := #[.int .i64 a0_0, .string a0_1, .int .i64 a0_2, .slice A0_3 l0_3.length c0_3]) (t := 56) ?hr ?_; (case hd => rfl); (case hg => rfl); (case hr => first | (go_simp; done) | (go_simp; rfl)); intro gb235 hg w44 hbox hb; have n0_ := Aside0.mk (below_step (bS HB.out) hb); have BK235 := Aside0.mk (hbox); have GW235 := Aside0.mk ((by rw [hg]; exact (below_size (bS HB.out)) : w.heap.size ≤ gb235)); have GE235 := Aside0.mk ((by rw [hg]; exact (below_size (bS HB.out)) : w.heap.size ≤ gb235)); clear HB; have HB := n0_; clear n0_; clear hb hbox hg; have hcz45_0 : w44.cell? ⟨gb235, 0, none⟩ = some (.int .i64 a0_0) := kC BK235.out 0 rfl; have hcz45_1 : w44.cell? ⟨gb235, 1, none⟩ = some (.string a0_1) := kC BK235.out 1 rfl; have hcz45_2 : w44.cell? ⟨gb235, 2, none⟩ = some (.int .i64 a0_2) := kC BK235.out 2 rfl; have hcz45_3 : w44.cell? ⟨gb235, 3, none⟩ = some (.slice A0_3 l0_3.length c0_3) := kC BK235.out 3 rfl; have hfz45_0 := blk_frozen BK235.out 0; have hfz45_1 := blk_frozen BK235.out 1; have hfz45_2 := blk_frozen BK235.out 2; have hfz45_3 := blk_frozen BK235.out 3) | ((with_reducible refine gate_callee (f := 62) rfl ?_); refine goesL_ (some 36) rfl rfl Try.func62 (by kernel_rfl) rfl #[.string a0_1] rfl (by (try simp only [List.map_toArray, List.map_cons, List.map_nil]); first | done | rfl | (simp only [List.length_drop, List.length_take]; rfl)) ?_; (with_reducible refine (impl_NameOk.calls k a0_1 t247 _ A43.out).mono ?_); rintro e w' ⟨rfl, ⟨nd, rfl⟩⟩; refine ⟨_, rfl, ?_⟩))
            go_ret
            exact ⟨by first | rfl | (simp [errW_none, errW_some] <;> rfl) | (simp [*, errW_none, errW_some] <;> rfl), by repeat (first | (with_reducible first | exact HB.out | apply below_alloc | apply pw_below_drewN | apply below_drew1 | refine below_set ?_ GE235.out) | exact HB.out)⟩
           ·rw [if_neg c42] at H
            have c42b0 : (a0_0 == 20) = false := beq_eq_false_iff_ne.mpr c42
            have c42b1 : (a0_0 != 20) = true := bne_iff_ne.mpr c42
            by_cases c46 : a0_0 = 23
            ·rw [if_pos c46] at H
             have c46b0 : (a0_0 == 23) = true := beq_iff_eq.mpr c46
             have c46b1 : (a0_0 != 23) = false := bne_eq_false_iff_eq.mpr c46
             clear c46
             replace H := Option.bind_eq_some_iff.mp H
             obtain ⟨t248, A470, H⟩ := H
             (try dsimp only at H)
             have A47 := Aside0.mk A470
             clear A470
             obtain rfl := Option.some.inj H
             go_enter Try.func43, Try.ntmps43
             go_wp2_with (first | ((with_reducible refine gate_dst (N := 1) rfl ?_); refine box_event ?hg (N := 1) ?hd (cs := #[.int .i64 a0_0, .string a0_1, .int .i64 a0_2, .slice A0_3 l0_3.length c0_3]) (t := 56) ?hr ?_; (case hd => rfl); (case hg => rfl); (case hr => first | (go_simp; done) | (go_simp; rfl)); intro gb235 hg w48 hbox hb; have n0_ := Aside0.mk (below_step (bS HB.out) hb); have BK235 := Aside0.mk (hbox); have GW235 := Aside0.mk ((by rw [hg]; exact (below_size (bS HB.out)) : w.heap.size ≤ gb235)); have GE235 := Aside0.mk ((by rw [hg]; exact (below_size (bS HB.out)) : w.heap.size ≤ gb235)); clear HB; have HB := n0_; clear n0_; clear hb hbox hg; have hcz49_0 : w48.cell? ⟨gb235, 0, none⟩ = some (.int .i64 a0_0) := kC BK235.out 0 rfl; have hcz49_1 : w48.cell? ⟨gb235, 1, none⟩ = some (.string a0_1) := kC BK235.out 1 rfl; have hcz49_2 : w48.cell? ⟨gb235, 2, none⟩ = some (.int .i64 a0_2) := kC BK235.out 2 rfl; have hcz49_3 : w48.cell? ⟨gb235, 3, none⟩ = some (.slice A0_3 l0_3.length c0_3) := kC BK235.out 3 rfl; have hfz49_0 := blk_frozen BK235.out 0; have hfz49_1 := blk_frozen BK235.out 1; have hfz49_2 := blk_frozen BK235.out 2; have hfz49_3 := blk_frozen BK235.out 3) | ((with_reducible refine gate_callee (f := 62) rfl ?_); refine goesL_ (some 36) rfl rfl Try.func62 (by kernel_rfl) rfl #[.string a0_1] rfl (by (try simp only [List.map_toArray, List.map_cons, List.map_nil]); first | done | rfl | (simp only [List.length_drop, List.length_take]; rfl)) ?_; (with_reducible refine (impl_NameOk.calls k a0_1 t248 _ A47.out).mono ?_); rintro e w' ⟨rfl, ⟨nd, rfl⟩⟩; refine ⟨_, rfl, ?_⟩))
             go_ret
             exact ⟨by first | rfl | (simp [errW_none, errW_some] <;> rfl) | (simp [*, errW_none, errW_some] <;> rfl), by repeat (first | (with_reducible first | exact HB.out | apply below_alloc | apply pw_below_drewN | apply below_drew1 | refine below_set ?_ GE235.out) | exact HB.out)⟩
            ·rw [if_neg c46] at H
             have c46b0 : (a0_0 == 23) = false := beq_eq_false_iff_ne.mpr c46
             have c46b1 : (a0_0 != 23) = true := bne_iff_ne.mpr c46
             by_cases c50 : a0_0 = 24
             ·rw [if_pos c50] at H
              have c50b0 : (a0_0 == 24) = true := beq_iff_eq.mpr c50
              have c50b1 : (a0_0 != 24) = false := bne_eq_false_iff_eq.mpr c50
              clear c50
              replace H := Option.bind_eq_some_iff.mp H
              obtain ⟨t249, A510, H⟩ := H
              (try dsimp only at H)
              have A51 := Aside0.mk A510
              clear A510
              obtain rfl := Option.some.inj H
              go_enter Try.func43, Try.ntmps43
              go_wp2_with (first | ((with_reducible refine gate_dst (N := 1) rfl ?_); refine box_event ?hg (N := 1) ?hd (cs := #[.int .i64 a0_0, .string a0_1, .int .i64 a0_2, .slice A0_3 l0_3.length c0_3]) (t := 56) ?hr ?_; (case hd => rfl); (case hg => rfl); (case hr => first | (go_simp; done) | (go_simp; rfl)); intro gb235 hg w52 hbox hb; have n0_ := Aside0.mk (below_step (bS HB.out) hb); have BK235 := Aside0.mk (hbox); have GW235 := Aside0.mk ((by rw [hg]; exact (below_size (bS HB.out)) : w.heap.size ≤ gb235)); have GE235 := Aside0.mk ((by rw [hg]; exact (below_size (bS HB.out)) : w.heap.size ≤ gb235)); clear HB; have HB := n0_; clear n0_; clear hb hbox hg; have hcz53_0 : w52.cell? ⟨gb235, 0, none⟩ = some (.int .i64 a0_0) := kC BK235.out 0 rfl; have hcz53_1 : w52.cell? ⟨gb235, 1, none⟩ = some (.string a0_1) := kC BK235.out 1 rfl; have hcz53_2 : w52.cell? ⟨gb235, 2, none⟩ = some (.int .i64 a0_2) := kC BK235.out 2 rfl; have hcz53_3 : w52.cell? ⟨gb235, 3, none⟩ = some (.slice A0_3 l0_3.length c0_3) := kC BK235.out 3 rfl; have hfz53_0 := blk_frozen BK235.out 0; have hfz53_1 := blk_frozen BK235.out 1; have hfz53_2 := blk_frozen BK235.out 2; have hfz53_3 := blk_frozen BK235.out 3) | ((with_reducible refine gate_callee (f := 62) rfl ?_); refine goesL_ (some 36) rfl rfl Try.func62 (by kernel_rfl) rfl #[.string a0_1] rfl (by (try simp only [List.map_toArray, List.map_cons, List.map_nil]); first | done | rfl | (simp only [List.length_drop, List.length_take]; rfl)) ?_; (with_reducible refine (impl_NameOk.calls k a0_1 t249 _ A51.out).mono ?_); rintro e w' ⟨rfl, ⟨nd, rfl⟩⟩; refine ⟨_, rfl, ?_⟩))
              go_ret
              exact ⟨by first | rfl | (simp [errW_none, errW_some] <;> rfl) | (simp [*, errW_none, errW_some] <;> rfl), by repeat (first | (with_reducible first | exact HB.out | apply below_alloc | apply pw_below_drewN | apply below_drew1 | refine below_set ?_ GE235.out) | exact HB.out)⟩
             ·rw [if_neg c50] at H
              have c50b0 : (a0_0 == 24) = false := beq_eq_false_iff_ne.mpr c50
              have c50b1 : (a0_0 != 24) = true := bne_iff_ne.mpr c50
              by_cases c54 : a0_0 = 28
              ·rw [if_pos c54] at H
               have c54b0 : (a0_0 == 28) = true := beq_iff_eq.mpr c54
               have c54b1 : (a0_0 != 28) = false := bne_eq_false_iff_eq.mpr c54
               clear c54
               replace H := Option.bind_eq_some_iff.mp H
               obtain ⟨t250, A550, H⟩ := H
               (try dsimp only at H)
               have A55 := Aside0.mk A550
               clear A550
               obtain rfl := Option.some.inj H
               go_enter Try.func43, Try.ntmps43
               go_wp2_with (first | ((with_reducible refine gate_dst (N := 1) rfl ?_); refine box_event ?hg (N := 1) ?hd (cs := #[.int .i64 a0_0, .string a0_1, .int .i64 a0_2, .slice A0_3 l0_3.length c0_3]) (t := 56) ?hr ?_; (case hd => rfl); (case hg => rfl); (case hr => first | (go_simp; done) | (go_simp; rfl)); intro gb235 hg w56 hbox hb; have n0_ := Aside0.mk (below_step (bS HB.out) hb); have BK235 := Aside0.mk (hbox); have GW235 := Aside0.mk ((by rw [hg]; exact (below_size (bS HB.out)) : w.heap.size ≤ gb235)); have GE235 := Aside0.mk ((by rw [hg]; exact (below_size (bS HB.out)) : w.heap.size ≤ gb235)); clear HB; have HB := n0_; clear n0_; clear hb hbox hg; have hcz57_0 : w56.cell? ⟨gb235, 0, none⟩ = some (.int .i64 a0_0) := kC BK235.out 0 rfl; have hcz57_1 : w56.cell? ⟨gb235, 1, none⟩ = some (.string a0_1) := kC BK235.out 1 rfl; have hcz57_2 : w56.cell? ⟨gb235, 2, none⟩ = some (.int .i64 a0_2) := kC BK235.out 2 rfl; have hcz57_3 : w56.cell? ⟨gb235, 3, none⟩ = some (.slice A0_3 l0_3.length c0_3) := kC BK235.out 3 rfl; have hfz57_0 := blk_frozen BK235.out 0; have hfz57_1 := blk_frozen BK235.out 1; have hfz57_2 := blk_frozen BK235.out 2; have hfz57_3 := blk_frozen BK235.out 3) | ((with_reducible refine gate_callee (f := 62) rfl ?_); refine goesL_ (some 36) rfl rfl Try.func62 (by kernel_rfl) rfl #[.string a0_1] rfl (by (try simp only [List.map_toArray, List.map_cons, List.map_nil]); first | done | rfl | (simp only [List.length_drop, List.length_take]; rfl)) ?_; (with_reducible refine (impl_NameOk.calls k a0_1 t250 _ A55.out).mono ?_); rintro e w' ⟨rfl, ⟨nd, rfl⟩⟩; refine ⟨_, rfl, ?_⟩))
               go_ret
               exact ⟨by first | rfl | (simp [errW_none, errW_some] <;> rfl) | (simp [*, errW_none, errW_some] <;> rfl), by repeat (first | (with_reducible first | exact HB.out | apply below_alloc | apply pw_below_drewN | apply below_drew1 | refine below_set ?_ GE235.out) | exact HB.out)⟩
              ·rw [if_neg c54] at H
               have c54b0 : (a0_0 == 28) = false := beq_eq_false_iff_ne.mpr c54
               have c54b1 : (a0_0 != 28) = true := bne_iff_ne.mpr c54
               by_cases c58 : a0_0 = 31
               ·rw [if_pos c58] at H
                have c58b0 : (a0_0 == 31) = true := beq_iff_eq.mpr c58
                have c58b1 : (a0_0 != 31) = false := bne_eq_false_iff_eq.mpr c58
                clear c58
                replace H := Option.bind_eq_some_iff.mp H
                obtain ⟨t251, A590, H⟩ := H
                (try dsimp only at H)
                have A59 := Aside0.mk A590
                clear A590
                obtain rfl := Option.some.inj H
                go_enter Try.func43, Try.ntmps43
                go_wp2_with (first | ((with_reducible refine gate_dst (N := 1) rfl ?_); refine box_event ?hg (N := 1) ?hd (cs := #[.int .i64 a0_0, .string a0_1, .int .i64 a0_2, .slice A0_3 l0_3.length c0_3]) (t := 56) ?hr ?_; (case hd => rfl); (case hg => rfl); (case hr => first | (go_simp; done) | (go_simp; rfl)); intro gb235 hg w60 hbox hb; have n0_ := Aside0.mk (below_step (bS HB.out) hb); have BK235 := Aside0.mk (hbox); have GW235 := Aside0.mk ((by rw [hg]; exact (below_size (bS HB.out)) : w.heap.size ≤ gb235)); have GE235 := Aside0.mk ((by rw [hg]; exact (below_size (bS HB.out)) : w.heap.size ≤ gb235)); clear HB; have HB := n0_; clear n0_; clear hb hbox hg; have hcz61_0 : w60.cell? ⟨gb235, 0, none⟩ = some (.int .i64 a0_0) := kC BK235.out 0 rfl; have hcz61_1 : w60.cell? ⟨gb235, 1, none⟩ = some (.string a0_1) := kC BK235.out 1 rfl; have hcz61_2 : w60.cell? ⟨gb235, 2, none⟩ = some (.int .i64 a0_2) := kC BK235.out 2 rfl; have hcz61_3 : w60.cell? ⟨gb235, 3, none⟩ = some (.slice A0_3 l0_3.length c0_3) := kC BK235.out 3 rfl; have hfz61_0 := blk_frozen BK235.out 0; have hfz61_1 := blk_frozen BK235.out 1; have hfz61_2 := blk_frozen BK235.out 2; have hfz61_3 := blk_frozen BK235.out 3) | ((with_reducible refine gate_callee (f := 62) rfl ?_); refine goesL_ (some 36) rfl rfl Try.func62 (by kernel_rfl) rfl #[.string a0_1] rfl (by (try simp only [List.map_toArray, List.map_cons, List.map_nil]); first | done | rfl | (simp only [List.length_drop, List.length_take]; rfl)) ?_; (with_reducible refine (impl_NameOk.calls k a0_1 t251 _ A59.out).mono ?_); rintro e w' ⟨rfl, ⟨nd, rfl⟩⟩; refine ⟨_, rfl, ?_⟩))
                go_ret
                exact ⟨by first | rfl | (simp [errW_none, errW_some] <;> rfl) | (simp [*, errW_none, errW_some] <;> rfl), by repeat (first | (with_reducible first | exact HB.out | apply below_alloc | apply pw_below_drewN | apply below_drew1 | refine below_set ?_ GE235.out) | exact HB.out)⟩
               ·rw [if_neg c58] at H
                have c58b0 : (a0_0 == 31) = false := beq_eq_false_iff_ne.mpr c58
                have c58b1 : (a0_0 != 31) = true := bne_iff_ne.mpr c58
                by_cases c62 : a0_0 = 32
                ·rw [if_pos c62] at H
                 have c62b0 : (a0_0 == 32) = true := beq_iff_eq.mpr c62
                 have c62b1 : (a0_0 != 32) = false := bne_eq_false_iff_eq.mpr c62
                 clear c62
                 replace H := Option.bind_eq_some_iff.mp H
                 obtain ⟨t252, A630, H⟩ := H
                 (try dsimp only at H)
                 have A63 := Aside0.mk A630
                 clear A630
                 obtain rfl := Option.some.inj H
                 go_enter Try.func43, Try.ntmps43
                 go_wp2_with (first | ((with_reducible refine gate_dst (N := 1) rfl ?_); refine box_event ?hg (N := 1) ?hd (cs := #[.int .i64 a0_0, .string a0_1, .int .i64 a0_2, .slice A0_3 l0_3.length c0_3]) (t := 56) ?hr ?_; (case hd => rfl); (case hg => rfl); (case hr => first | (go_simp; done) | (go_simp; rfl)); intro gb235 hg w64 hbox hb; have n0_ := Aside0.mk (below_step (bS HB.out) hb); have BK235 := Aside0.mk (hbox); have GW235 := Aside0.mk ((by rw [hg]; exact (below_size (bS HB.out)) : w.heap.size ≤ gb235)); have GE235 := Aside0.mk ((by rw [hg]; exact (below_size (bS HB.out)) : w.heap.size ≤ gb235)); clear HB; have HB := n0_; clear n0_; clear hb hbox hg; have hcz65_0 : w64.cell? ⟨gb235, 0, none⟩ = some (.int .i64 a0_0) := kC BK235.out 0 rfl; have hcz65_1 : w64.cell? ⟨gb235, 1, none⟩ = some (.string a0_1) := kC BK235.out 1 rfl; have hcz65_2 : w64.cell? ⟨gb235, 2, none⟩ = some (.int .i64 a0_2) := kC BK235.out 2 rfl; have hcz65_3 : w64.cell? ⟨gb235, 3, none⟩ = some (.slice A0_3 l0_3.length c0_3) := kC BK235.out 3 rfl; have hfz65_0 := blk_frozen BK235.out 0; have hfz65_1 := blk_frozen BK235.out 1; have hfz65_2 := blk_frozen BK235.out 2; have hfz65_3 := blk_frozen BK235.out 3) | ((with_reducible refine gate_callee (f := 62) rfl ?_); refine goesL_ (some 36) rfl rfl Try.func62 (by kernel_rfl) rfl #[.string a0_1] rfl (by (try simp only [List.map_toArray, List.map_cons, List.map_nil]); first | done | rfl | (simp only [List.length_drop, List.length_take]; rfl)) ?_; (with_reducible refine (impl_NameOk.calls k a0_1 t252 _ A63.out).mono ?_); rintro e w' ⟨rfl, ⟨nd, rfl⟩⟩; refine ⟨_, rfl, ?_⟩))
                 go_ret
                 exact ⟨by first | rfl | (simp [errW_none, errW_some] <;> rfl) | (simp [*, errW_none, errW_some] <;> rfl), by repeat (first | (with_reducible first | exact HB.out | apply below_alloc | apply pw_below_drewN | apply below_drew1 | refine below_set ?_ GE235.out) | exact HB.out)⟩
                ·rw [if_neg c62] at H
                 have c62b0 : (a0_0 == 32) = false := beq_eq_false_iff_ne.mpr c62
                 have c62b1 : (a0_0 != 32) = true := bne_iff_ne.mpr c62
                 by_cases c66 : a0_0 = 33
                 ·rw [if_pos c66] at H
                  have c66b0 : (a0_0 == 33) = true := beq_iff_eq.mpr c66
                  have c66b1 : (a0_0 != 33) = false := bne_eq_false_iff_eq.mpr c66
                  clear c66
                  replace H := Option.bind_eq_some_iff.mp H
                  obtain ⟨t253, A670, H⟩ := H
                  (try dsimp only at H)
                  have A67 := Aside0.mk A670
                  clear A670
                  obtain rfl := Option.some.inj H
                  go_enter Try.func43, Try.ntmps43
                  go_wp2_with (first | ((with_reducible refine gate_dst (N := 1) rfl ?_); refine box_event ?hg (N := 1) ?hd (cs := #[.int .i64 a0_0, .string a0_1, .int .i64 a0_2, .slice A0_3 l0_3.length c0_3]) (t := 56) ?hr ?_; (case hd => rfl); (case hg => rfl); (case hr => first | (go_simp; done) | (go_simp; rfl)); intro gb235 hg w68 hbox hb; have n0_ := Aside0.mk (below_step (bS HB.out) hb); have BK235 := Aside0.mk (hbox); have GW235 := Aside0.mk ((by rw [hg]; exact (below_size (bS HB.out)) : w.heap.size ≤ gb235)); have GE235 := Aside0.mk ((by rw [hg]; exact (below_size (bS HB.out)) : w.heap.size ≤ gb235)); clear HB; have HB := n0_; clear n0_; clear hb hbox hg; have hcz69_0 : w68.cell? ⟨gb235, 0, none⟩ = some (.int .i64 a0_0) := kC BK235.out 0 rfl; have hcz69_1 : w68.cell? ⟨gb235, 1, none⟩ = some (.string a0_1) := kC BK235.out 1 rfl; have hcz69_2 : w68.cell? ⟨gb235, 2, none⟩ = some (.int .i64 a0_2) := kC BK235.out 2 rfl; have hcz69_3 : w68.cell? ⟨gb235, 3, none⟩ = some (.slice A0_3 l0_3.length c0_3) := kC BK235.out 3 rfl; have hfz69_0 := blk_frozen BK235.out 0; have hfz69_1 := blk_frozen BK235.out 1; have hfz69_2 := blk_frozen BK235.out 2; have hfz69_3 := blk_frozen BK235.out 3) | ((with_reducible refine gate_callee (f := 62) rfl ?_); refine goesL_ (some 36) rfl rfl Try.func62 (by kernel_rfl) rfl #[.string a0_1] rfl (by (try simp only [List.map_toArray, List.map_cons, List.map_nil]); first | done | rfl | (simp only [List.length_drop, List.length_take]; rfl)) ?_; (with_reducible refine (impl_NameOk.calls k a0_1 t253 _ A67.out).mono ?_); rintro e w' ⟨rfl, ⟨nd, rfl⟩⟩; refine ⟨_, rfl, ?_⟩))
                  go_ret
                  exact ⟨by first | rfl | (simp [errW_none, errW_some] <;> rfl) | (simp [*, errW_none, errW_some] <;> rfl), by repeat (first | (with_reducible first | exact HB.out | apply below_alloc | apply pw_below_drewN | apply below_drew1 | refine below_set ?_ GE235.out) | exact HB.out)⟩
                 ·rw [if_neg c66] at H
                  have c66b0 : (a0_0 == 33) = false := beq_eq_false_iff_ne.mpr c66
                  have c66b1 : (a0_0 != 33) = true := bne_iff_ne.mpr c66
                  by_cases c70 : a0_0 = 34
                  ·rw [if_pos c70] at H
                   have c70b0 : (a0_0 == 34) = true := beq_iff_eq.mpr c70
                   have c70b1 : (a0_0 != 34) = false := bne_eq_false_iff_eq.mpr c70
                   clear c70
                   replace H := Option.bind_eq_some_iff.mp H
                   obtain ⟨t254, A710, H⟩ := H
                   (try dsimp only at H)
                   have A71 := Aside0.mk A710
                   clear A710
                   obtain rfl := Option.some.inj H
                   go_enter Try.func43, Try.ntmps43
                   go_wp2_with (first | ((with_reducible refine gate_dst (N := 1) rfl ?_); refine box_event ?hg (N := 1) ?hd (cs := #[.int .i64 a0_0, .string a0_1, .int .i64 a0_2, .slice A0_3 l0_3.length c0_3]) (t := 56) ?hr ?_; (case hd => rfl); (case hg => rfl); (case hr => first | (go_simp; done) | (go_simp; rfl)); intro gb235 hg w72 hbox hb; have n0_ := Aside0.mk (below_step (bS HB.out) hb); have BK235 := Aside0.mk (hbox); have GW235 := Aside0.mk ((by rw [hg]; exact (below_size (bS HB.out)) : w.heap.size ≤ gb235)); have GE235 := Aside0.mk ((by rw [hg]; exact (below_size (bS HB.out)) : w.heap.size ≤ gb235)); clear HB; have HB := n0_; clear n0_; clear hb hbox hg; have hcz73_0 : w72.cell? ⟨gb235, 0, none⟩ = some (.int .i64 a0_0) := kC BK235.out 0 rfl; have hcz73_1 : w72.cell? ⟨gb235, 1, none⟩ = some (.string a0_1) := kC BK235.out 1 rfl; have hcz73_2 : w72.cell? ⟨gb235, 2, none⟩ = some (.int .i64 a0_2) := kC BK235.out 2 rfl; have hcz73_3 : w72.cell? ⟨gb235, 3, none⟩ = some (.slice A0_3 l0_3.length c0_3) := kC BK235.out 3 rfl; have hfz73_0 := blk_frozen BK235.out 0; have hfz73_1 := blk_frozen BK235.out 1; have hfz73_2 := blk_frozen BK235.out 2; have hfz73_3 := blk_frozen BK235.out 3) | ((with_reducible refine gate_callee (f := 62) rfl ?_); refine goesL_ (some 36) rfl rfl Try.func62 (by kernel_rfl) rfl #[.string a0_1] rfl (by (try simp only [List.map_toArray, List.map_cons, List.map_nil]); first | done | rfl | (simp only [List.length_drop, List.length_take]; rfl)) ?_; (with_reducible refine (impl_NameOk.calls k a0_1 t254 _ A71.out).mono ?_); rintro e w' ⟨rfl, ⟨nd, rfl⟩⟩; refine ⟨_, rfl, ?_⟩))
                   go_ret
                   exact ⟨by first | rfl | (simp [errW_none, errW_some] <;> rfl) | (simp [*, errW_none, errW_some] <;> rfl), by repeat (first | (with_reducible first | exact HB.out | apply below_alloc | apply pw_below_drewN | apply below_drew1 | refine below_set ?_ GE235.out) | exact HB.out)⟩
                  ·rw [if_neg c70] at H
                   have c70b0 : (a0_0 == 34) = false := beq_eq_false_iff_ne.mpr c70
                   have c70b1 : (a0_0 != 34) = true := bne_iff_ne.mpr c70
                   obtain rfl := Option.some.inj H
                   go_enter Try.func43, Try.ntmps43
                   go_wp2_with (first | ((with_reducible refine gate_dst (N := 1) rfl ?_); refine box_event ?hg (N := 1) ?hd (cs := #[.int .i64 a0_0, .string a0_1, .int .i64 a0_2, .slice A0_3 l0_3.length c0_3]) (t := 56) ?hr ?_; (case hd => rfl); (case hg => rfl); (case hr => first | (go_simp; done) | (go_simp; rfl)); intro gb235 hg w74 hbox hb; have n0_ := Aside0.mk (below_step (bS HB.out) hb); have BK235 := Aside0.mk (hbox); have GW235 := Aside0.mk ((by rw [hg]; exact (below_size (bS HB.out)) : w.heap.size ≤ gb235)); have GE235 := Aside0.mk ((by rw [hg]; exact (below_size (bS HB.out)) : w.heap.size ≤ gb235)); clear HB; have HB := n0_; clear n0_; clear hb hbox hg; have hcz75_0 : w74.cell? ⟨gb235, 0, none⟩ = some (.int .i64 a0_0) := kC BK235.out 0 rfl; have hcz75_1 : w74.cell? ⟨gb235, 1, none⟩ = some (.string a0_1) := kC BK235.out 1 rfl; have hcz75_2 : w74.cell? ⟨gb235, 2, none⟩ = some (.int .i64 a0_2) := kC BK235.out 2 rfl; have hcz75_3 : w74.cell? ⟨gb235, 3, none⟩ = some (.slice A0_3 l0_3.length c0_3) := kC BK235.out 3 rfl; have hfz75_0 := blk_frozen BK235.out 0; have hfz75_1 := blk_frozen BK235.out 1; have hfz75_2 := blk_frozen BK235.out 2; have hfz75_3 := blk_frozen BK235.out 3))
                   go_ret
                   exact ⟨by first | rfl | (simp [errW_none, errW_some] <;> rfl) | (simp [*, errW_none, errW_some] <;> rfl), by repeat (first | (with_reducible first | exact HB.out | apply below_alloc | apply pw_below_drewN | apply below_drew1 | refine below_set ?_ GE235.out) | exact HB.out)⟩

/-! ### impl_isKind: function 63 -/
def impl_isKind.f (a0 : Int) : Option (Bool) := (impl_within.f a0 1 4).bind fun t255 => (some t255)
set_option maxHeartbeats 8000000 in
set_option maxRecDepth 100000 in
theorem impl_isKind.calls (a0 : Int) (r : Bool) (w : World) (h : impl_isKind.f a0 = some r) :
    Calls Try.prog 63 #[.int .i64 a0] w fun e w' => e = .returned (.bool r) ∧ Drawn0 w w' := by
  have H : ((impl_within.f a0 1 4).bind fun t255 => (some t255)) = some r := h
  clear h
  replace H := Option.bind_eq_some_iff.mp H
  obtain ⟨t255, A20, H⟩ := H
  replace H : (some t255) = some r := H
  have A2 := Aside0.mk A20
  clear A20
  obtain rfl := Option.some.inj H
  go_enter Try.func63, Try.ntmps63
  go_wp2_with (first | ((with_reducible refine gate_callee (f := 30) rfl ?_); refine goesL_ (some 4) rfl rfl Try.func30 (by kernel_rfl) rfl #[.int .i64 a0, .int .i64 1, .int .i64 4] rfl (by (try simp only [List.map_toArray, List.map_cons, List.map_nil]); first | done | rfl | (simp only [List.length_drop, List.length_take]; rfl)) ?_; (with_reducible refine (impl_within.calls a0 1 4 t255 _ A2.out).mono ?_); rintro e w' ⟨rfl, ⟨nd, rfl⟩⟩; refine ⟨_, rfl, ?_⟩))
  go_ret
  exact ⟨by first | rfl | (simp; done) | (simp [*]; done), by repeat (first | exact Drawn0.refl _ | apply Drawn0.step)⟩

/-! ### impl_numberOk: function 44 -/
def impl_numberOk.f (a0_0 : Int) (a0_1 : ByteArray) (a0_2 : Int) (l0_3 : List Int) : Option (Bool) := if a0_0 = 1 then ((impl_within.f a0_2 0 999999999999999).bind fun t257 => (some t257)) else (if a0_0 = 3 then ((impl_within.f a0_2 0 1).bind fun t258 => (some t258)) else (if a0_0 = 8 then ((impl_within.f a0_2 1 9).bind fun t259 => (some t259)) else (if a0_0 = 9 then ((impl_within.f a0_2 1 6).bind fun t260 => (some t260)) else (if a0_0 = 32 then ((impl_isKind.f a0_2).bind fun t261 => (some t261)) else (if a0_0 = 33 then ((impl_isKind.f a0_2).bind fun t262 => (some t262)) else (some (a0_2 == 0)))))))
set_option maxHeartbeats 8000000 in
set_option maxRecDepth 100000 in
theorem impl_numberOk.calls (a0_0 : Int) (a0_1 : ByteArray) (a0_2 : Int) (A0_3 : Option Addr) (c0_3 : Nat) (l0_3 : List Int) (r : Bool) (w : World) (hr0_3 : Kd.C (Kd.int .i64) w A0_3 l0_3.length l0_3) (hc0_3 : l0_3.length ≤ c0_3) (h : impl_numberOk.f a0_0 a0_1 a0_2 l0_3 = some r) :
  Calls Try.prog 44 #[.agg #[.int .i64 a0_0, .string a0_1, .int .i64 a0_2, .slice A0_3 l0_3.length c0_3]] w fun e w' => e = .returned (.bool r) ∧ Below w.heap.size w w' := by
 have hu56 := Try.underlying56
 have HR0_3 := Aside0.mk hr0_3
 have HC0_3 := Aside0.mk hc0_3
 clear hr0_3 hc0_3
 have HB := Aside0.mk (Below.refl w.heap.size w)
 have H : (if a0_0 = 1 then ((impl_within.f a0_2 0 999999999999999).bind fun t257 => (some t257)) else (if a0_0 = 3 then ((impl_within.f a0_2 0 1).bind fun t258 => (some t258)) else (if a0_0 = 8 then ((impl_within.f a0_2 1 9).bind fun t259 => (some t259)) else (if a0_0 = 9 then ((impl_within.f a0_2 1 6).bind fun t260 => (some t260)) else (if a0_0 = 32 then ((impl_isKind.f a0_2).bind fun t261 => (some t261)) else (if a0_0 = 33 then ((impl_isKind.f a0_2).bind fun t262 => (some t262)) else (some (a0_2 == 0)))))))) = some r := h
 clear h
 by_cases c2 : a0_0 = 1
 ·rw [if_pos c2] at H
  have c2b0 : (a0_0 == 1) = true := beq_iff_eq.mpr c2
  have c2b1 : (a0_0 != 1) = false := bne_eq_false_iff_eq.mpr c2
  clear c2
  replace H := Option.bind_eq_some_iff.mp H
  obtain ⟨t257, A30, H⟩ := H
  (try dsimp only at H)
  have A3 := Aside0.mk A30
  clear A30
  obtain rfl := Option.some.inj H
  go_enter Try.func44, Try.ntmps44
  go_wp2_with (first | ((with_reducible refine gate_dst (N := 1) rfl ?_); refine box_event ?hg (N := 1) ?hd (cs := #[.int .i64 a0_0, .string a0_1, .int .i64 a0_2, .slice A0_3 l0_3.length c0_3]) (t := 56) ?hr ?_; (case hd => rfl); (case hg => rfl); (case hr => first | (go_simp; done) | (go_simp; rfl)); intro gb256 hg w4 hbox hb; have n0_ := Aside0.mk (below_step (bS HB.out) hb); have BK256 := Aside0.mk (hbox); have GW256 := Aside0.mk ((by rw [hg]; exact (below_size (bS HB.out)) : w.heap.size ≤ gb256)); have GE256 := Aside0.mk ((by rw [hg]; exact (below_size (bS HB.out)) : w.heap.size ≤ gb256)); clear HB; have HB := n0_; clear n0_; clear hb hbox hg; have hcz5_0 : w4.cell? ⟨gb256, 0, none⟩ = some (.int .i64 a0_0) := kC BK256.out 0 rfl; have hcz5_1 : w4.cell? ⟨gb256, 1, none⟩ = some (.string a0_1) := kC BK256.out 1 rfl; have hcz5_2 : w4.cell? ⟨gb256, 2, none⟩ = some (.int .i64 a0_2) := kC BK256.out 2 rfl; have hcz5_3 : w4.cell? ⟨gb256, 3, none⟩ = some (.slice A0_3 l0_3.length c0_3) := kC BK256.out 3 rfl; have hfz5_0 := blk_frozen BK256.out 0; have hfz5_1 := blk_frozen BK256.out 1; have hfz5_2 := blk_frozen BK256.out 2; have hfz5_3 := blk_frozen BK256.out 3) | ((with_reducible refine gate_callee (f := 30) rfl ?_); refine goesL_ (some 9) rfl rfl Try.func30 (by kernel_rfl) rfl #[.int .i64 a0_2, .int .i64 0, .int .i64 999999999999999] rfl (by (try simp only [List.map_toArray, List.map_cons, List.map_nil]); first | done | rfl | (simp only [List.length_drop, List.length_take]; rfl)) ?_; (with_reducible refine (impl_within.calls a0_2 0 999999999999999 t257 _ A3.out).mono ?_); rintro e w' ⟨rfl, ⟨nd, rfl⟩⟩; refine ⟨_, rfl, ?_⟩))
  go_ret
  exact ⟨by first | rfl | (simp [errW_none, errW_some] <;> rfl) | (simp [*, errW_none, errW_some] <;> rfl), by repeat (first | (with_reducible first | exact HB.out | apply below_alloc | apply pw_below_drewN | apply below_drew1 | refine below_set ?_ GE256.out) | exact HB.out)⟩
 ·rw [if_neg c2] at H
  have c2b0 : (a0_0 == 1) = false := beq_eq_false_iff_ne.mpr c2
  have c2b1 : (a0_0 != 1) = true := bne_iff_ne.mpr c2
  by_cases c6 : a0_0 = 3
  ·rw [if_pos c6] at H
   have c6b0 : (a0_0 == 3) = true := beq_iff_eq.mpr c6
   have c6b1 : (a0_0 != 3) = false := bne_eq_false_iff_eq.mpr c6
   clear c6
   replace H := Option.bind_eq_some_iff.mp H
   obtain ⟨t258, A70, H⟩ := H
   (try dsimp only at H)
   have A7 := Aside0.mk A70
   clear A70
   obtain rfl := Option.some.inj H
   go_enter Try.func44, Try.ntmps44
   go_wp2_with (first | ((with_reducible refine gate_dst (N := 1) rfl ?_); refine box_event ?hg (N := 1) ?hd (cs := #[.int .i64 a0_0, .string a0_1, .int .i64 a0_2, .slice A0_3 l0_3.length c0_3]) (t := 56) ?hr ?_; (case hd => rfl); (case hg => rfl); (case hr => first | (go_simp; done) | (go_simp; rfl)); intro gb256 hg w8 hbox hb; have n0_ := Aside0.mk (below_step (bS HB.out) hb); have BK256 := Aside0.mk (hbox); have GW256 := Aside0.mk ((by rw [hg]; exact (below_size (bS HB.out)) : w.heap.size ≤ gb256)); have GE256 := Aside0.mk ((by rw [hg]; exact (below_size (bS HB.out)) : w.heap.size ≤ gb256)); clear HB; have HB := n0_; clear n0_; clear hb hbox hg; have hcz9_0 : w8.cell? ⟨gb256, 0, none⟩ = some (.int .i64 a0_0) := kC BK256.out 0 rfl; have hcz9_1 : w8.cell? ⟨gb256, 1, none⟩ = some (.string a0_1) := kC BK256.out 1 rfl; have hcz9_2 : w8.cell? ⟨gb256, 2, none⟩ = some (.int .i64 a0_2) := kC BK256.out 2 rfl; have hcz9_3 : w8.cell? ⟨gb256, 3, none⟩ = some (.slice A0_3 l0_3.length c0_3) := kC BK256.out 3 rfl; have hfz9_0 := blk_frozen BK256.out 0; have hfz9_1 := blk_frozen BK256.out 1; have hfz9_2 := blk_frozen BK256.out 2; have hfz9_3 := blk_frozen BK256.out 3) | ((with_reducible refine gate_callee (f := 30) rfl ?_); refine goesL_ (some 14) rfl rfl Try.func30 (by kernel_rfl) rfl #[.int .i64 a0_2, .int .i64 0, .int .i64 1] rfl (by (try simp only [List.map_toArray, List.map_cons, List.map_nil]); first | done | rfl | (simp only [List.length_drop, List.length_take]; rfl)) ?_; (with_reducible refine (impl_within.calls a0_2 0 1 t258 _ A7.out).mono ?_); rintro e w' ⟨rfl, ⟨nd, rfl⟩⟩; refine ⟨_, rfl, ?_⟩))
   go_ret
   exact ⟨by first | rfl | (simp [errW_none, errW_some] <;> rfl) | (simp [*, errW_none, errW_some] <;> rfl), by repeat (first | (with_reducible first | exact HB.out | apply below_alloc | apply pw_below_drewN | apply below_drew1 | refine below_set ?_ GE256.out) | exact HB.out)⟩
  ·rw [if_neg c6] at H
   have c6b0 : (a0_0 == 3) = false := beq_eq_false_iff_ne.mpr c6
   have c6b1 : (a0_0 != 3) = true := bne_iff_ne.mpr c6
   by_cases c10 : a0_0 = 8
   ·rw [if_pos c10] at H
    have c10b0 : (a0_0 == 8) = true := beq_iff_eq.mpr c10
    have c10b1 : (a0_0 != 8) = false := bne_eq_false_iff_eq.mpr c10
    clear c10
    replace H := Option.bind_eq_some_iff.mp H
    obtain ⟨t259, A110, H⟩ := H
    (try dsimp only at H)
    have A11 := Aside0.mk A110
    clear A110
    obtain rfl := Option.some.inj H
    go_enter Try.func44, Try.ntmps44
    go_wp2_with (first | ((with_reducible refine gate_dst (N := 1) rfl ?_); refine box_event ?hg (N := 1) ?hd (cs := #[.int .i64 a0_0, .string a0_1, .int .i64 a0_2, .slice A0_3 l0_3.length c0_3]) (t := 56) ?hr ?_; (case hd => rfl); (case hg => rfl); (case hr => first | (go_simp; done) | (go_simp; rfl)); intro gb256 hg w12 hbox hb; have n0_ := Aside0.mk (below_step (bS HB.out) hb); have BK256 := Aside0.mk (hbox); have GW256 := Aside0.mk ((by rw [hg]; exact (below_size (bS HB.out)) : w.heap.size ≤ gb256)); have GE256 := Aside0.mk ((by rw [hg]; exact (below_size (bS HB.out)) : w.heap.size ≤ gb256)); clear HB; have HB := n0_; clear n0_; clear hb hbox hg; have hcz13_0 : w12.cell? ⟨gb256, 0, none⟩ = some (.int .i64 a0_0) := kC BK256.out 0 rfl; have hcz13_1 : w12.cell? ⟨gb256, 1, none⟩ = some (.string a0_1) := kC BK256.out 1 rfl; have hcz13_2 : w12.cell? ⟨gb256, 2, none⟩ = some (.int .i64 a0_2) := kC BK256.out 2 rfl; have hcz13_3 : w12.cell? ⟨gb256, 3, none⟩ = some (.slice A0_3 l0_3.length c0_3) := kC BK256.out 3 rfl; have hfz13_0 := blk_frozen BK256.out 0; have hfz13_1 := blk_frozen BK256.out 1; have hfz13_2 := blk_frozen BK256.out 2; have hfz13_3 := blk_frozen BK256.out 3) | ((with_reducible refine gate_callee (f := 30) rfl ?_); refine goesL_ (some 19) rfl rfl Try.func30 (by kernel_rfl) rfl #[.int .i64 a0_2, .int .i64 1, .int .i64 9] rfl (by (try simp only [List.map_toArray, List.map_cons, List.map_nil]); first | done | rfl | (simp only [List.length_drop, List.length_take]; rfl)) ?_; (with_reducible refine (impl_within.calls a0_2 1 9 t259 _ A11.out).mono ?_); rintro e w' ⟨rfl, ⟨nd, rfl⟩⟩; refine ⟨_, rfl, ?_⟩))
    go_ret
    exact ⟨by first | rfl | (simp [errW_none, errW_some] <;> rfl) | (simp [*, errW_none, errW_some] <;> rfl), by repeat (first | (with_reducible first | exact HB.out | apply below_alloc | apply pw_below_drewN | apply below_drew1 | refine below_set ?_ GE256.out) | exact HB.out)⟩
   ·rw [if_neg c10] at H
    have c10b0 : (a0_0 == 8) = false := beq_eq_false_iff_ne.mpr c10
    have c10b1 : (a0_0 != 8) = true := bne_iff_ne.mpr c10
    by_cases c14 : a0_0 = 9
    ·rw [if_pos c14] at H
     have c14b0 : (a0_0 == 9) = true := beq_iff_eq.mpr c14
     have c14b1 : (a0_0 != 9) = false := bne_eq_false_iff_eq.mpr c14
     clear c14
     replace H := Option.bind_eq_some_iff.mp H
     obtain ⟨t260, A150, H⟩ := H
     (try dsimp only at H)
     have A15 := Aside0.mk A150
     clear A150
     obtain rfl := Option.some.inj H
     go_enter Try.func44, Try.ntmps44
     go_wp2_with (first | ((with_reducible refine gate_dst (N := 1) rfl ?_); refine box_event ?hg (N := 1) ?hd (cs := #[.int .i64 a0_0, .string a0_1, .int .i64 a0_2, .slice A0_3 l0_3.length c0_3]) (t := 56) ?hr ?_; (case hd => rfl); (case hg => rfl); (case hr => first | (go_simp; done) | (go_simp; rfl)); intro gb256 hg w16 hbox hb; have n0_ := Aside0.mk (below_step (bS HB.out) hb); have BK256 := Aside0.mk (hbox); have GW256 := Aside0.mk ((by rw [hg]; exact (below_size (bS HB.out)) : w.heap.size ≤ gb256)); have GE256 := Aside0.mk ((by rw [hg]; exact (below_size (bS HB.out)) : w.heap.size ≤ gb256)); clear HB; have HB := n0_; clear n0_; clear hb hbox hg; have hcz17_0 : w16.cell? ⟨gb256, 0, none⟩ = some (.int .i64 a0_0) := kC BK256.out 0 rfl; have hcz17_1 : w16.cell? ⟨gb256, 1, none⟩ = some (.string a0_1) := kC BK256.out 1 rfl; have hcz17_2 : w16.cell? ⟨gb256, 2, none⟩ = some (.int .i64 a0_2) := kC BK256.out 2 rfl; have hcz17_3 : w16.cell? ⟨gb256, 3, none⟩ = some (.slice A0_3 l0_3.length c0_3) := kC BK256.out 3 rfl; have hfz17_0 := blk_frozen BK256.out 0; have hfz17_1 := blk_frozen BK256.out 1; have hfz17_2 := blk_frozen BK256.out 2; have hfz17_3 := blk_frozen BK256.out 3) | ((with_reducible refine gate_callee (f := 30) rfl ?_); refine goesL_ (some 24) rfl rfl Try.func30 (by kernel_rfl) rfl #[.int .i64 a0_2, .int .i64 1, .int .i64 6] rfl (by (try simp only [List.map_toArray, List.map_cons, List.map_nil]); first | done | rfl | (simp only [List.length_drop, List.length_take]; rfl)) ?_; (with_reducible refine (impl_within.calls a0_2 1 6 t260 _ A15.out).mono ?_); rintro e w' ⟨rfl, ⟨nd, rfl⟩⟩; refine ⟨_, rfl, ?_⟩))
     go_ret
     exact ⟨by first | rfl | (simp [errW_none, errW_some] <;> rfl) | (simp [*, errW_none, errW_some] <;> rfl), by repeat (first | (with_reducible first | exact HB.out | apply below_alloc | apply pw_below_drewN | apply below_drew1 | refine below_set ?_ GE256.out) | exact HB.out)⟩
    ·rw [if_neg c14] at H
     have c14b0 : (a0_0 == 9) = false := beq_eq_false_iff_ne.mpr c14
     have c14b1 : (a0_0 != 9) = true := bne_iff_ne.mpr c14
     by_cases c18 : a0_0 = 32
     ·rw [if_pos c18] at H
      have c18b0 : (a0_0 == 32) = true := beq_iff_eq.mpr c18
      have c18b1 : (a0_0 != 32) = false := bne_eq_false_iff_eq.mpr c18
      clear c18
      replace H := Option.bind_eq_some_iff.mp H
      obtain ⟨t261, A190, H⟩ := H
      (try dsimp only at H)
      have A19 := Aside0.mk A190
      clear A190
      obtain rfl := Option.some.inj H
      go_enter Try.func44, Try.ntmps44
      go_wp2_with (first | ((with_reducible refine gate_dst (N := 1) rfl ?_); refine box_event ?hg (N := 1) ?hd (cs := #[.int .i64 a0_0, .string a0_1, .int .i64 a0_2, .slice A0_3 l0_3.length c0_3]) (t := 56) ?hr ?_; (case hd => rfl); (case hg => rfl); (case hr => first | (go_simp; done) | (go_simp; rfl)); intro gb256 hg w20 hbox hb; have n0_ := Aside0.mk (below_step (bS HB.out) hb); have BK256 := Aside0.mk (hbox); have GW256 := Aside0.mk ((by rw [hg]; exact (below_size (bS HB.out)) : w.heap.size ≤ gb256)); have GE256 := Aside0.mk ((by rw [hg]; exact (below_size (bS HB.out)) : w.heap.size ≤ gb256)); clear HB; have HB := n0_; clear n0_; clear hb hbox hg; have hcz21_0 : w20.cell? ⟨gb256, 0, none⟩ = some (.int .i64 a0_0) := kC BK256.out 0 rfl; have hcz21_1 : w20.cell? ⟨gb256, 1, none⟩ = some (.string a0_1) := kC BK256.out 1 rfl; have hcz21_2 : w20.cell? ⟨gb256, 2, none⟩ = some (.int .i64 a0_2) := kC BK256.out 2 rfl; have hcz21_3 : w20.cell? ⟨gb256, 3, none⟩ = some (.slice A0_3 l0_3.length c0_3) := kC BK256.out 3 rfl; have hfz21_0 := blk_frozen BK256.out 0; have hfz21_1 := blk_frozen BK256.out 1; have hfz21_2 := blk_frozen BK256.out 2; have hfz21_3 := blk_frozen BK256.out 3) | ((with_reducible refine gate_callee (f := 63) rfl ?_); refine goesL_ (some 30) rfl rfl Try.func63 (by kernel_rfl) rfl #[.int .i64 a0_2] rfl (by (try simp only [List.map_toArray, List.map_cons, List.map_nil]); first | done | rfl | (simp only [List.length_drop, List.length_take]; rfl)) ?_; (with_reducible refine (impl_isKind.calls a0_2 t261 _ A19.out).mono ?_); rintro e w' ⟨rfl, ⟨nd, rfl⟩⟩; refine ⟨_, rfl, ?_⟩))
      go_ret
      exact ⟨by first | rfl | (simp [errW_none, errW_some] <;> rfl) | (simp [*, errW_none, errW_some] <;> rfl), by repeat (first | (with_reducible first | exact HB.out | apply below_alloc | apply pw_below_drewN | apply below_drew1 | refine below_set ?_ GE256.out) | exact HB.out)⟩
     ·rw [if_neg c18] at H
      have c18b0 : (a0_0 == 32) = false := beq_eq_false_iff_ne.mpr c18
      have c18b1 : (a0_0 != 32) = true := bne_iff_ne.mpr c18
      by_cases c22 : a0_0 = 33
      ·rw [if_pos c22] at H
       have c22b0 : (a0_0 == 33) = true := beq_iff_eq.mpr c22
       have c22b1 : (a0_0 != 33) = false := bne_eq_false_iff_eq.mpr c22
       clear c22
       replace H := Option.bind_eq_some_iff.mp H
       obtain ⟨t262, A230, H⟩ := H
       (try dsimp only at H)
       have A23 := Aside0.mk A230
       clear A230
       obtain rfl := Option.some.inj H
       go_enter Try.func44, Try.ntmps44
       go_wp2_with (first | ((with_reducible refine gate_dst (N := 1) rfl ?_); refine box_event ?hg (N := 1) ?hd (cs := #[.int .i64 a0_0, .string a0_1, .int .i64 a0_2, .slice A0_3 l0_3.length c0_3]) (t := 56) ?hr ?_; (case hd => rfl); (case hg => rfl); (case hr => first | (go_simp; done) | (go_simp; rfl)); intro gb256 hg w24 hbox hb; have n0_ := Aside0.mk (below_step (bS HB.out) hb); have BK256 := Aside0.mk (hbox); have GW256 := Aside0.mk ((by rw [hg]; exact (below_size (bS HB.out)) : w.heap.size ≤ gb256)); have GE256 := Aside0.mk ((by rw [hg]; exact (below_size (bS HB.out)) : w.heap.size ≤ gb256)); clear HB; have HB := n0_; clear n0_; clear hb hbox hg; have hcz25_0 : w24.cell? ⟨gb256, 0, none⟩ = some (.int .i64 a0_0) := kC BK256.out 0 rfl; have hcz25_1 : w24.cell? ⟨gb256, 1, none⟩ = some (.string a0_1) := kC BK256.out 1 rfl; have hcz25_2 : w24.cell? ⟨gb256, 2, none⟩ = some (.int .i64 a0_2) := kC BK256.out 2 rfl; have hcz25_3 : w24.cell? ⟨gb256, 3, none⟩ = some (.slice A0_3 l0_3.length c0_3) := kC BK256.out 3 rfl; have hfz25_0 := blk_frozen BK256.out 0; have hfz25_1 := blk_frozen BK256.out 1; have hfz25_2 := blk_frozen BK256.out 2; have hfz25_3 := blk_frozen BK256.out 3) | ((with_reducible refine gate_callee (f := 63) rfl ?_); refine goesL_ (some 30) rfl rfl Try.func63 (by kernel_rfl) rfl #[.int .i64 a0_2] rfl (by (try simp only [List.map_toArray, List.map_cons, List.map_nil]); first | done | rfl | (simp only [List.length_drop, List.length_take]; rfl)) ?_; (with_reducible refine (impl_isKind.calls a0_2 t262 _ A23.out).mono ?_); rintro e w' ⟨rfl, ⟨nd, rfl⟩⟩; refine ⟨_, rfl, ?_⟩))
       go_ret
       exact ⟨by first | rfl | (simp [errW_none, errW_some] <;> rfl) | (simp [*, errW_none, errW_some] <;> rfl), by repeat (first | (with_reducible first | exact HB.out | apply below_alloc | apply pw_below_drewN | apply below_drew1 | refine below_set ?_ GE256.out) | exact HB.out)⟩
      ·rw [if_neg c22] at H
       have c22b0 : (a0_0 == 33) = false := beq_eq_false_iff_ne.mpr c22
       have c22b1 : (a0_0 != 33) = true := bne_iff_ne.mpr c22
       obtain rfl := Option.some.inj H
       go_enter Try.func44, Try.ntmps44
       go_wp2_with (first | ((with_reducible refine gate_dst (N := 1) rfl ?_); refine box_event ?hg (N := 1) ?hd (cs := #[.int .i64 a0_0, .string a0_1, .int .i64 a0_2, .slice A0_3 l0_3.length c0_3]) (t := 56) ?hr ?_; (case hd => rfl); (case hg => rfl); (case hr => first | (go_simp; done) | (go_simp; rfl)); intro gb256 hg w26 hbox hb; have n0_ := Aside0.mk (below_step (bS HB.out) hb); have BK256 := Aside0.mk (hbox); have GW256 := Aside0.mk ((by rw [hg]; exact (below_size (bS HB.out)) : w.heap.size ≤ gb256)); have GE256 := Aside0.mk ((by rw [hg]; exact (below_size (bS HB.out)) : w.heap.size ≤ gb256)); clear HB; have HB := n0_; clear n0_; clear hb hbox hg; have hcz27_0 : w26.cell? ⟨gb256, 0, none⟩ = some (.int .i64 a0_0) := kC BK256.out 0 rfl; have hcz27_1 : w26.cell? ⟨gb256, 1, none⟩ = some (.string a0_1) := kC BK256.out 1 rfl; have hcz27_2 : w26.cell? ⟨gb256, 2, none⟩ = some (.int .i64 a0_2) := kC BK256.out 2 rfl; have hcz27_3 : w26.cell? ⟨gb256, 3, none⟩ = some (.slice A0_3 l0_3.length c0_3) := kC BK256.out 3 rfl; have hfz27_0 := blk_frozen BK256.out 0; have hfz27_1 := blk_frozen BK256.out 1; have hfz27_2 := blk_frozen BK256.out 2; have hfz27_3 := blk_frozen BK256.out 3))
       go_ret
       exact ⟨by first | rfl | (simp [errW_none, errW_some] <;> rfl) | (simp [*, errW_none, errW_some] <;> rfl), by repeat (first | (with_reducible first | exact HB.out | apply below_alloc | apply pw_below_drewN | apply below_drew1 | refine below_set ?_ GE256.out) | exact HB.out)⟩

/-! ### impl_isExpr: function 45 -/
def impl_isExpr.f (a0 : Int) : Option (Bool) := (impl_within.f a0 1 11).bind fun t263 => (some t263)
set_option maxHeartbeats 8000000 in
set_option maxRecDepth 100000 in
theorem impl_isExpr.calls (a0 : Int) (r : Bool) (w : World) (h : impl_isExpr.f a0 = some r) :
    Calls Try.prog 45 #[.int .i64 a0] w fun e w' => e = .returned (.bool r) ∧ Drawn0 w w' := by
  have H : ((impl_within.f a0 1 11).bind fun t263 => (some t263)) = some r := h
  clear h
  replace H := Option.bind_eq_some_iff.mp H
  obtain ⟨t263, A20, H⟩ := H
  replace H : (some t263) = some r := H
  have A2 := Aside0.mk A20
  clear A20
  obtain rfl := Option.some.inj H
  go_enter Try.func45, Try.ntmps45
  go_wp2_with (first | ((with_reducible refine gate_callee (f := 30) rfl ?_); refine goesL_ (some 4) rfl rfl Try.func30 (by kernel_rfl) rfl #[.int .i64 a0, .int .i64 1, .int .i64 11] rfl (by (try simp only [List.map_toArray, List.map_cons, List.map_nil]); first | done | rfl | (simp only [List.length_drop, List.length_take]; rfl)) ?_; (with_reducible refine (impl_within.calls a0 1 11 t263 _ A2.out).mono ?_); rintro e w' ⟨rfl, ⟨nd, rfl⟩⟩; refine ⟨_, rfl, ?_⟩))
  go_ret
  exact ⟨by first | rfl | (simp; done) | (simp [*]; done), by repeat (first | exact Drawn0.refl _ | apply Drawn0.step)⟩

-- NOT PRINTED: function 64 (impl_Tree_are)

-- NOT PRINTED: function 65 (impl_Tree_kidsAre)

-- NOT PRINTED: function 85 (impl_just_1)

-- NOT PRINTED: function 66 (impl_just)

-- NOT PRINTED: function 777000001 (impl_Tree_are__impl_isExpr)

-- NOT PRINTED: function 46 (impl_Tree_exprOk)

/-! ### impl_isStatement: function 47 -/
def impl_isStatement.f (a0 : Int) : Option (Bool) := (impl_within.f a0 12 26).bind fun t268 => (some t268)
set_option maxHeartbeats 8000000 in
set_option maxRecDepth 100000 in
theorem impl_isStatement.calls (a0 : Int) (r : Bool) (w : World) (h : impl_isStatement.f a0 = some r) :
    Calls Try.prog 47 #[.int .i64 a0] w fun e w' => e = .returned (.bool r) ∧ Drawn0 w w' := by
  have H : ((impl_within.f a0 12 26).bind fun t268 => (some t268)) = some r := h
  clear h
  replace H := Option.bind_eq_some_iff.mp H
  obtain ⟨t268, A20, H⟩ := H
  replace H : (some t268) = some r := H
  have A2 := Aside0.mk A20
  clear A20
  obtain rfl := Option.some.inj H
  go_enter Try.func47, Try.ntmps47
  go_wp2_with (first | ((with_reducible refine gate_callee (f := 30) rfl ?_); refine goesL_ (some 4) rfl rfl Try.func30 (by kernel_rfl) rfl #[.int .i64 a0, .int .i64 12, .int .i64 26] rfl (by (try simp only [List.map_toArray, List.map_cons, List.map_nil]); first | done | rfl | (simp only [List.length_drop, List.length_take]; rfl)) ?_; (with_reducible refine (impl_within.calls a0 12 26 t268 _ A2.out).mono ?_); rintro e w' ⟨rfl, ⟨nd, rfl⟩⟩; refine ⟨_, rfl, ?_⟩))
  go_ret
  exact ⟨by first | rfl | (simp; done) | (simp [*]; done), by repeat (first | exact Drawn0.refl _ | apply Drawn0.step)⟩

-- NOT PRINTED: function 48 (impl_Tree_statementOk)

-- NOT PRINTED: function 777000002 (impl_Tree_are__impl_isStatement)

-- NOT PRINTED: function 49 (impl_Tree_otherOk)

-- NOT PRINTED: function 29 (impl_Tree_nodeOk)

-- NOT PRINTED: function 31 (impl_Tree_numbered)

end Go.Proofs.Ytiiakeakfllpjaa.PFnExactFold
