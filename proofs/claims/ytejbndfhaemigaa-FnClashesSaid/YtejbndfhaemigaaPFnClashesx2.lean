-- written by wip/tools/myprint.py out of the program's own print
import Derived.Test.YtejbndfhaemigaaPFnClashesx0
import Derived.Test.YtejbndfhaemigaaPFnClashesx1
namespace Go.Proofs.Ytejbndfhaemigaa.PFnClashes
open Go.Proofs.Ytejbndfhaemigaa.Own (rS cS bS rB rN rT kS kC kc10 kf10)
open Go.RowKit Go.Proofs.YtejbndfhaemigaaW.PrintWords Go.Proofs.YtejbndfhaemigaaW.PrintLast Go.Proofs.YtejbndfhaemigaaW.PrintMore
attribute [local go_sem] max2_int min2_int max_two min_two max_three min_three max_four min_four   -- for this text's walks alone
set_option linter.unusedVariables false
set_option linter.unusedSimpArgs false

/-! ### spec_DrawStrictly: function 5 -/
def spec_DrawStrictly.f (k : Nat) (l0 : List Int) : Option (List Int × List Int × List Int × List Int × List Int × List Int × List Int × List Int × Bool × Bool × List Int × List Int × List Int × List Int × List Int × List Int × List Int × List Int × Bool × Bool × Int) := (spec_l1New.f k l0).bind fun bt194 => ((spec_l10Effect.f k bt194.1 bt194.2.1 bt194.2.2).bind fun bt198 => ((spec_l10Effect.f k bt194.1 bt198.2.2.2.2.2.2.2.2.2.2.1 bt198.2.2.2.2.2.2.2.2.2.2.2).bind fun bt227 => ((spec_l1PickInt.f bt194.1 bt227.2.2.2.2.2.2.2.2.2.2.1 bt227.2.2.2.2.2.2.2.2.2.2.2 (([5, 5, 5, 0, (-1), 12, 13] : List Int))).bind fun bt259 => (some (bt198.1, bt198.2.1, bt198.2.2.1, bt198.2.2.2.1, bt198.2.2.2.2.1, bt198.2.2.2.2.2.1, bt198.2.2.2.2.2.2.1, bt198.2.2.2.2.2.2.2.1, bt198.2.2.2.2.2.2.2.2.1, bt198.2.2.2.2.2.2.2.2.2.1, bt227.1, bt227.2.1, bt227.2.2.1, bt227.2.2.2.1, bt227.2.2.2.2.1, bt227.2.2.2.2.2.1, bt227.2.2.2.2.2.2.1, bt227.2.2.2.2.2.2.2.1, bt227.2.2.2.2.2.2.2.2.1, bt227.2.2.2.2.2.2.2.2.2.1, bt259.1)))))
def E8V (w : World) (ok : Nat → Prop) (v0 v1 v2 v3 v4 v5 v6 v7 : Value) (l0 l1 l2 l3 l4 l5 l6 l7 : List Int) : Prop := Kd.V (Kd.int .i64) 3 w 0 ok v0 l0 ∧ Kd.V (Kd.int .i64) 3 w 0 ok v1 l1 ∧ Kd.V (Kd.int .i64) 3 w 0 ok v2 l2 ∧ Kd.V (Kd.int .i64) 3 w 0 ok v3 l3 ∧ Kd.V (Kd.int .i64) 3 w 0 ok v4 l4 ∧ Kd.V (Kd.int .i64) 3 w 0 ok v5 l5 ∧ Kd.V (Kd.int .i64) 3 w 0 ok v6 l6 ∧ Kd.V (Kd.int .i64) 3 w 0 ok v7 l7
theorem E8V.map {w w' : World} {ok ok' : Nat → Prop} {v0 v1 v2 v3 v4 v5 v6 v7 : Value} {l0 l1 l2 l3 l4 l5 l6 l7 : List Int} (h : E8V w ok v0 v1 v2 v3 v4 v5 v6 v7 l0 l1 l2 l3 l4 l5 l6 l7) (hf : ∀ (v : Value) (l : List Int), Kd.V (Kd.int .i64) 3 w 0 ok v l → Kd.V (Kd.int .i64) 3 w' 0 ok' v l) : E8V w' ok' v0 v1 v2 v3 v4 v5 v6 v7 l0 l1 l2 l3 l4 l5 l6 l7 :=
 ⟨hf _ _ h.1, hf _ _ h.2.1, hf _ _ h.2.2.1, hf _ _ h.2.2.2.1, hf _ _ h.2.2.2.2.1, hf _ _ h.2.2.2.2.2.1, hf _ _ h.2.2.2.2.2.2.1, hf _ _ h.2.2.2.2.2.2.2⟩
theorem E8V.keep {w w' : World} {ok : Nat → Prop} {g : Nat} {v0 v1 v2 v3 v4 v5 v6 v7 : Value} {l0 l1 l2 l3 l4 l5 l6 l7 : List Int} (h : E8V w ok v0 v1 v2 v3 v4 v5 v6 v7 l0 l1 l2 l3 l4 l5 l6 l7) (hk : KeepBut w w' g none) (hok : ∀ k, ok k → k ≠ g) : E8V w' ok v0 v1 v2 v3 v4 v5 v6 v7 l0 l1 l2 l3 l4 l5 l6 l7 := h.map fun _ _ h => Kd.V_keep h hk hok
theorem E8V.below {w w' : World} {ok : Nat → Prop} {v0 v1 v2 v3 v4 v5 v6 v7 : Value} {l0 l1 l2 l3 l4 l5 l6 l7 : List Int} (h : E8V w ok v0 v1 v2 v3 v4 v5 v6 v7 l0 l1 l2 l3 l4 l5 l6 l7) (hb : Below w.heap.size w w') : E8V w' ok v0 v1 v2 v3 v4 v5 v6 v7 l0 l1 l2 l3 l4 l5 l6 l7 := h.map fun _ _ h => Kd.V_below h hb
abbrev zEff : Obj := .cells #[.slice none 0 0, .slice none 0 0, .slice none 0 0, .slice none 0 0, .slice none 0 0, .slice none 0 0, .slice none 0 0, .slice none 0 0, .bool false, .bool false] 26 (0, 0)

theorem E8V.slices {w : World} {ok : Nat → Prop} {v0 v1 v2 v3 v4 v5 v6 v7 : Value} {l0 l1 l2 l3 l4 l5 l6 l7 : List Int} (h : E8V w ok v0 v1 v2 v3 v4 v5 v6 v7 l0 l1 l2 l3 l4 l5 l6 l7) : (∃ P c, v0 = .slice P l0.length c) ∧ (∃ P c, v1 = .slice P l1.length c) ∧ (∃ P c, v2 = .slice P l2.length c) ∧ (∃ P c, v3 = .slice P l3.length c) ∧ (∃ P c, v4 = .slice P l4.length c) ∧ (∃ P c, v5 = .slice P l5.length c) ∧ (∃ P c, v6 = .slice P l6.length c) ∧ (∃ P c, v7 = .slice P l7.length c) := by
 obtain ⟨h0, h1, h2, h3, h4, h5, h6, h7⟩ := h
 exact ⟨Kd.V_slice h0, Kd.V_slice h1, Kd.V_slice h2, Kd.V_slice h3, Kd.V_slice h4, Kd.V_slice h5, Kd.V_slice h6, Kd.V_slice h7⟩

theorem l10EffectV (k : Nat) (g : Nat) (s0 : List Int) (s1 s2 : Int) (l0 l1 l2 l3 l4 l5 l6 l7 : List Int) (b8 b9 : Bool) (r11 r12 : Int) (w0 w : World) (hI : IsS47 w0 w g s0 s1 s2) (hB : Below w0.heap.size w0 w) (h : spec_l10Effect.f k s0 s1 s2 = some (l0, l1, l2, l3, l4, l5, l6, l7, b8, b9, r11, r12)) :
  Calls Try.prog 11 #[.pointer (some ⟨g, 0, none⟩)] w fun e w' => ∃ v0 v1 v2 v3 v4 v5 v6 v7 : Value, e = .returned (.agg #[v0, v1, v2, v3, v4, v5, v6, v7, .bool b8, .bool b9]) ∧ E8V w' (fun k => w0.heap.size ≤ k ∧ k ≠ g) v0 v1 v2 v3 v4 v5 v6 v7 l0 l1 l2 l3 l4 l5 l6 l7 ∧ IsS47 w0 w' g s0 r11 r12 ∧ Below w0.heap.size w0 w' ∧ KeepBut w w' g none := by
 have hg : g < w.heap.size := by obtain ⟨_, _, hb, _, _⟩ := hI; exact blk_lt hb
 have hs := hB.size
 have R : ∀ {w' : World} {ok : Nat → Prop} {v : Value} {l : List Int}, Kd.R (Kd.int .i64) 3 w' w.heap.size ok v l → Kd.V (Kd.int .i64) 3 w' 0 (fun k => w0.heap.size ≤ k ∧ k ≠ g) v l := fun h => Kd.R_V (Kd.R_mono (Kd.R_bound h) fun k hk => ⟨by have := hk.2.1; omega, by have := hk.2.1; omega⟩)
 refine (spec_l10Effect.calls k g s0 s1 s2 l0 l1 l2 l3 l4 l5 l6 l7 b8 b9 r11 r12 w0 w hI hB h).mono ?_
 rintro e w' ⟨v0, v1, v2, v3, v4, v5, v6, v7, rfl, h0, h1, h2, h3, h4, h5, h6, h7, hi, hb, hk⟩
 exact ⟨_, _, _, _, _, _, _, _, rfl, ⟨R h0, R h1, R h2, R h3, R h4, R h5, R h6, R h7⟩, hi, hb, hk⟩

def spec_DrawStrictly.T4 : Bool × List (List Nat × List Nat) := (true, [([], []), ([], []), ([], []), ([], []), ([2, 3], [2, 3]), ([0, 4, 0], [0]), ([1, 5, 0, 1, 5], [1]), ([4, 6, 0, 1, 2, 3, 4, 5, 6], [4])])
def spec_DrawStrictly.B4 : List Nat := [0, 0, 0, 0, 12, 29, 63, 127]
theorem spec_DrawStrictly.tab4 : rtab .any (opsOf Try.f5 4) = spec_DrawStrictly.T4 := by kernel_rfl
theorem spec_DrawStrictly.bits4 : waitsOk spec_DrawStrictly.T4.2 spec_DrawStrictly.B4 = true := by kernel_rfl

set_option maxHeartbeats 8000000 in
set_option maxRecDepth 100000 in
theorem spec_DrawStrictly.calls (k : Nat) (A0 : Option Addr) (c0 : Nat) (l0 : List Int) (r1 r2 r3 r4 r5 r6 r7 r8 r11 r12 r13 r14 r15 r16 r17 r18 : List Int) (r9 r10 r19 r20 : Bool) (r21 : Int) (w : World) (hr0 : Kd.C (Kd.int .u8) w A0 l0.length l0) (hc0 : l0.length ≤ c0) (h : spec_DrawStrictly.f k l0 = some (r1, r2, r3, r4, r5, r6, r7, r8, r9, r10, r11, r12, r13, r14, r15, r16, r17, r18, r19, r20, r21)) :
  Calls Try.prog 5 #[.slice A0 l0.length c0] w fun e w' => ∃ v0 v1 v2 v3 v4 v5 v6 v7 u0 u1 u2 u3 u4 u5 u6 u7 : Value, e = .returned (.tuple #[.agg #[v0, v1, v2, v3, v4, v5, v6, v7, .bool r9, .bool r10], .agg #[u0, u1, u2, u3, u4, u5, u6, u7, .bool r19, .bool r20], .int .i64 r21]) ∧ E8V w' (fun _ => True) v0 v1 v2 v3 v4 v5 v6 v7 r1 r2 r3 r4 r5 r6 r7 r8 ∧ E8V w' (fun _ => True) u0 u1 u2 u3 u4 u5 u6 u7 r11 r12 r13 r14 r15 r16 r17 r18 ∧ Below w.heap.size w w' := by
 unfold spec_DrawStrictly.f at h
 obtain ⟨⟨t0, t1, t2⟩, a2, h1⟩ := Option.bind_eq_some_iff.mp h
 clear h
 obtain ⟨⟨x0, x1, x2, x3, x4, x5, x6, x7, x8, x9, x10, x11⟩, a3, h2⟩ := Option.bind_eq_some_iff.mp h1
 clear h1
 obtain ⟨⟨y0, y1, y2, y3, y4, y5, y6, y7, y8, y9, y10, y11⟩, a4, h3⟩ := Option.bind_eq_some_iff.mp h2
 clear h2
 obtain ⟨⟨p0, p1, p2⟩, a5, h⟩ := Option.bind_eq_some_iff.mp h3
 clear h3
 dsimp only at a3 a4 a5 h
 simp only [Option.some.injEq, Prod.mk.injEq] at h
 obtain ⟨rfl, rfl, rfl, rfl, rfl, rfl, rfl, rfl, rfl, rfl, rfl, rfl, rfl, rfl, rfl, rfl, rfl, rfl, rfl, rfl, rfl⟩ := h
 have A2 := Aside0.mk a2
 have A3 := Aside0.mk a3
 have A4 := Aside0.mk a4
 have HR0 := Aside0.mk hr0
 have HC0 := Aside0.mk hc0
 obtain ⟨pl, hpl⟩ : ∃ pl : List Int, pl = [5, 5, 5, 0, (-1), 12, 13] := ⟨_, rfl⟩
 rw [← hpl] at a5
 have HPL := Aside0.mk hpl
 have A5 := Aside0.mk a5
 clear a2 a3 a4 a5 hr0 hc0 hpl
 have hu26 := Try.underlying26
 obtain ⟨W0, hW0⟩ : ∃ W0, W0 = (w.alloc zEff).alloc zEff := ⟨_, rfl⟩
 have HW0 := Aside0.mk hW0
 have HB0 := Aside0.mk (show Below w.heap.size w W0 by rw [hW0]; exact below_alloc (below_alloc (Below.refl _ _) _) _)
 have HS0 := Aside0.mk (show W0.heap.size = w.heap.size + 2 by rw [hW0]; show (Array.push _ _).size = _; rw [Array.size_push]; show (Array.push _ _).size + 1 = _; rw [Array.size_push])
 have K0 := Aside0.mk (show W0.heap[w.heap.size]? = some zEff by rw [hW0]; exact blk_alloc (blk_new _ _) _)
 have K1 := Aside0.mk (show W0.heap[w.heap.size + 1]? = some zEff by rw [hW0]; have h := blk_new (w.alloc zEff) zEff; rwa [show (w.alloc zEff).heap.size = w.heap.size + 1 from Array.size_push _] at h)
 clear hW0
 go_enter Try.func5, Try.ntmps5
 go_upto_region 4 with (first
  | (go_at_call 10; (with_reducible refine (spec_l1New.calls k _ _ l0 t0 t1 t2 W0 _ ?b ?c HC0.out A2.out).mono ?_); (case b => rw [HW0.out]; exact Below.refl _ _); (case c => exact Kd.C_below HR0.out HB0.out); rintro e w1 ⟨g, rfl, hi, hb, hb'⟩; have HI1 := Aside0.mk hi; have HB1 := Aside0.mk hb; clear hi hb hb')
  | (go_at_call 11; (with_reducible refine (l10EffectV k g _ _ _ x0 x1 x2 x3 x4 x5 x6 x7 x8 x9 x10 x11 W0 _ HI1.out HB1.out A3.out).mono ?_); rintro e w2 ⟨v0, v1, v2, v3, v4, v5, v6, v7, rfl, hx, hi, hb, hk⟩; obtain ⟨⟨P0, P0c, rfl⟩, ⟨P1, P1c, rfl⟩, ⟨P2, P2c, rfl⟩, ⟨P3, P3c, rfl⟩, ⟨P4, P4c, rfl⟩, ⟨P5, P5c, rfl⟩, ⟨P6, P6c, rfl⟩, ⟨P7, P7c, rfl⟩⟩ := hx.slices; have HX2 := Aside0.mk hx; have HI2 := Aside0.mk hi; have HB2 := Aside0.mk hb; clear hx hi hb hk HI1 HB1)
  | (go_at_call 11; (with_reducible refine (l10EffectV k g _ _ _ y0 y1 y2 y3 y4 y5 y6 y7 y8 y9 y10 y11 W0 _ (IsS47.alloc HI2.out _) (below_alloc HB2.out _) A4.out).mono ?_); rintro e w3 ⟨u0, u1, u2, u3, u4, u5, u6, u7, rfl, hy, hi, hb, hk⟩; obtain ⟨⟨Q0, Q0c, rfl⟩, ⟨Q1, Q1c, rfl⟩, ⟨Q2, Q2c, rfl⟩, ⟨Q3, Q3c, rfl⟩, ⟨Q4, Q4c, rfl⟩, ⟨Q5, Q5c, rfl⟩, ⟨Q6, Q6c, rfl⟩, ⟨Q7, Q7c, rfl⟩⟩ := hy.slices; have HY3 := Aside0.mk hy; have HI3 := Aside0.mk hi; have HB3 := Aside0.mk hb; have HK3 := Aside0.mk hk; clear hy hi hb hk))
 obtain ⟨w4, hw4⟩ : ∃ w4, w4 = w3.alloc (.cells #[.slice Q0 y0.length Q0c, .slice Q1 y1.length Q1c, .slice Q2 y2.length Q2c, .slice Q3 y3.length Q3c, .slice Q4 y4.length Q4c, .slice Q5 y5.length Q5c, .slice Q6 y6.length Q6c, .slice Q7 y7.length Q7c, .bool y8, .bool y9] 26 (0, 0)) := ⟨_, rfl⟩
 have ng : w2.heap.size ≠ g := IsS47.fresh HI2.out _ (Nat.le_refl _)
 have hs2 := HB2.out.size
 have HK2 := Aside0.mk (show KeepBut w3 w4 g none by rw [hw4]; exact keep_alloc (KeepBut.refl _ _ _) _)
 have HX4 := Aside0.mk (((HX2.out.map fun _ _ h => Kd.V_alloc h _).keep HK3.out (fun _ hk => hk.2)).keep HK2.out (fun _ hk => hk.2))
 have HY4 := Aside0.mk (HY3.out.keep HK2.out (fun _ hk => hk.2))
 have KA := Aside0.mk (KeepBut.blk HK2.out (KeepBut.blk HK3.out (blk_new w2 _) ng (by simp)) ng (by simp))
 have KB := Aside0.mk (show w4.heap[w3.heap.size]? = some (.cells #[.slice Q0 y0.length Q0c, .slice Q1 y1.length Q1c, .slice Q2 y2.length Q2c, .slice Q3 y3.length Q3c, .slice Q4 y4.length Q4c, .slice Q5 y5.length Q5c, .slice Q6 y6.length Q6c, .slice Q7 y7.length Q7c, .bool y8, .bool y9] 26 (0, 0)) by rw [hw4]; exact blk_new _ _)
 have HI4 := Aside0.mk (show IsS47 W0 w4 g t0 y10 y11 by rw [hw4]; exact IsS47.alloc HI3.out _)
 have HB4 := Aside0.mk (show Below W0.heap.size W0 w4 by rw [hw4]; exact below_alloc HB3.out _)
 have hs3 := keep_size HK3.out
 rw [show (w2.alloc (.cells #[.slice P0 x0.length P0c, .slice P1 x1.length P1c, .slice P2 x2.length P2c, .slice P3 x3.length P3c, .slice P4 x4.length P4c, .slice P5 x5.length P5c, .slice P6 x6.length P6c, .slice P7 x7.length P7c, .bool x8, .bool x9] 26 (0, 0))).heap.size = w2.heap.size + 1 from Array.size_push _] at hs3
 have HNG := Aside0.mk ng
 have HNG3 := Aside0.mk (IsS47.fresh HI3.out _ (Nat.le_refl _))
 rw [← hw4]
 clear hw4 HX2 HY3 HI2 HI3 HB2 HB3 HK2 HK3 ng A2 A3 A4 HR0 HC0
 generalize w2.heap.size = gA at *
 generalize w3.heap.size = gB at *
 refine start_ (n := 8) (S := fun w' => w'.heap[gA]? = some (.cells #[.slice P0 x0.length P0c, .slice P1 x1.length P1c, .slice P2 x2.length P2c, .slice P3 x3.length P3c, .slice P4 x4.length P4c, .slice P5 x5.length P5c, .slice P6 x6.length P6c, .slice P7 x7.length P7c, .bool x8, .bool x9] 26 (0, 0)) ∧ w'.heap[gB]? = some (.cells #[.slice Q0 y0.length Q0c, .slice Q1 y1.length Q1c, .slice Q2 y2.length Q2c, .slice Q3 y3.length Q3c, .slice Q4 y4.length Q4c, .slice Q5 y5.length Q5c, .slice Q6 y6.length Q6c, .slice Q7 y7.length Q7c, .bool y8, .bool y9] 26 (0, 0))) (ds := []) #[false, false, false, false, false, false, false, false] (by kernel_rfl) rfl rfl ⟨blk_drew KA.out, blk_drew KB.out⟩ (fun hHeld => ?_)
 refine with_tabW spec_DrawStrictly.tab4 spec_DrawStrictly.bits4 (fun HT_ HW_ => ?_)
 have HI5 := Aside0.mk (IsS47.drew HI4.out)
 have HB5 := Aside0.mk (below_drew1 HB4.out)
 have HX5 := Aside0.mk (HX4.out.map fun _ _ h => Kd.V_drew h)
 have HY5 := Aside0.mk (HY4.out.map fun _ _ h => Kd.V_drew h)
 clear HI4 HB4 HX4 HY4 KA KB
 generalize w4.drew = w5 at *
 refine pure_ (i := 2) (N := some 16) (v := ?_) (a' := ?_) #[false, false, true, false, false, false, false, false] rfl rfl (any_of HT_.out (by kernel_rfl)) (fun _ _ _ h => h) (Or.inl ⟨by rfl, ?_⟩) ?_ ?_
 rotate_left
 ·intro w'
  go_simp
  with_reducible rfl
 rotate_left
 ·simp only [Act.put, List.setIfInBounds_toArray, List.set_cons_zero, List.set_cons_succ, i64_w, i32_w]
  rfl
 refine take_ (i := 0) (N := some 14) (v := ?_) (a' := ?_) #[true, false, true, false, false, false, false, false] rfl rfl (take_ofW HT_.out HW_.out (by kernel_rfl)) (fun _ _ _ h => h) (Or.inl ⟨by rfl, ?_⟩) hHeld ?_ ?_
 rotate_left
 ·rintro w' ⟨hA, hB⟩
  have s0 := (blk_cell hA 0).trans rfl
  have s1 := (blk_cell hA 1).trans rfl
  have s2 := (blk_cell hA 2).trans rfl
  have s3 := (blk_cell hA 3).trans rfl
  have s4 := (blk_cell hA 4).trans rfl
  have s5 := (blk_cell hA 5).trans rfl
  have s6 := (blk_cell hA 6).trans rfl
  have s7 := (blk_cell hA 7).trans rfl
  have s8 := (blk_cell hA 8).trans rfl
  have s9 := (blk_cell hA 9).trans rfl
  go_simp
  with_reducible rfl
 rotate_left
 ·simp only [Act.put, List.setIfInBounds_toArray, List.set_cons_zero, List.set_cons_succ, i64_w, i32_w]
  rfl
 refine take_ (i := 1) (N := some 15) (v := ?_) (a' := ?_) #[true, true, true, false, false, false, false, false] rfl rfl (take_ofW HT_.out HW_.out (by kernel_rfl)) (fun _ _ _ h => h) (Or.inl ⟨by rfl, ?_⟩) hHeld ?_ ?_
 rotate_left
 ·rintro w' ⟨hA, hB⟩
  have s0 := (blk_cell hB 0).trans rfl
  have s1 := (blk_cell hB 1).trans rfl
  have s2 := (blk_cell hB 2).trans rfl
  have s3 := (blk_cell hB 3).trans rfl
  have s4 := (blk_cell hB 4).trans rfl
  have s5 := (blk_cell hB 5).trans rfl
  have s6 := (blk_cell hB 6).trans rfl
  have s7 := (blk_cell hB 7).trans rfl
  have s8 := (blk_cell hB 8).trans rfl
  have s9 := (blk_cell hB 9).trans rfl
  go_simp
  with_reducible rfl
 rotate_left
 ·simp only [Act.put, List.setIfInBounds_toArray, List.set_cons_zero, List.set_cons_succ, i64_w, i32_w]
  rfl
 refine one_ (i := 3) (N := some 17) #[true, true, true, true, false, false, false, false] rfl rfl (one_of HT_.out (by kernel_rfl)) (by decide) (fun K hK => ?_)
 refine Kd.R_lit_step (Kd.int .i64) _ 3 ?hg (N := 17) ?hd (xs := ([5, 5, 5, 0, (-1), 12, 13] : List Int)) (inner := [.int .i64 5, .int .i64 5, .int .i64 5, .int .i64 0, .int .i64 (-1), .int .i64 12, .int .i64 13]) (ok := fun _ => True) (okp := fun _ => True) ?hr ?hp (fun _ hk => hk) trivial (Below.refl _ _) (Nat.le_refl _) (by simp) ?_; (case hd => rfl); (case hg => rfl); (case hr => first | (go_simp; done) | (go_simp; rfl)); (case hp => exact (Reps.one (show Kd.M (Kd.int .i64) _ _ _ 5 [.int .i64 5] from rfl) (Reps.one (show Kd.M (Kd.int .i64) _ _ _ 5 [.int .i64 5] from rfl) (Reps.one (show Kd.M (Kd.int .i64) _ _ _ 5 [.int .i64 5] from rfl) (Reps.one (show Kd.M (Kd.int .i64) _ _ _ 0 [.int .i64 0] from rfl) (Reps.one (show Kd.M (Kd.int .i64) _ _ _ (-1) [.int .i64 (-1)] from rfl) (Reps.one (show Kd.M (Kd.int .i64) _ _ _ 12 [.int .i64 12] from rfl) (Reps.one (show Kd.M (Kd.int .i64) _ _ _ 13 [.int .i64 13] from rfl) (Reps.none _ _)))))))))
 intro v6 w6 ho6 hb6 hg_ hnew_
 clear hg_ hnew_
 rw [← HPL.out] at ho6
 have HO6 := Aside0.mk ho6
 have HX6 := Aside0.mk (HX5.out.below hb6)
 have HY6 := Aside0.mk (HY5.out.below hb6)
 have HI6 := Aside0.mk (IsS47.below HI5.out hb6)
 have HB6 := Aside0.mk (below_step HB5.out hb6)
 have KA6 := Aside0.mk (blk_below hHeld.1 hb6)
 have KB6 := Aside0.mk (blk_below hHeld.2 hb6)
 clear HX5 HY5 HI5 HB5 hb6 ho6 hHeld
 obtain ⟨A6, c6, e6⟩ := Kd.R_slice HO6.out
 subst e6
 refine hK.out _ _ ⟨KA6.out, KB6.out⟩ (fun hHeld => ?_)
 clear hK K
 refine norm_ (a' := ?_) ?_ ?_
 rotate_left
 ·show Act.put _ (some 17) _ = _
  simp only [Act.put, List.setIfInBounds_toArray, List.set_cons_zero, List.set_cons_succ, i64_w, i32_w]
  rfl
 refine one_ (i := 4) (N := some 18) #[true, true, true, true, true, false, false, false] rfl rfl (one_of HT_.out (by kernel_rfl)) (by decide) (fun K hK => ?_)
 refine goes_ Try.func12 (by kernel_rfl) rfl #[.pointer (some ⟨g, 0, none⟩), .slice A6 pl.length c6] (by rfl) rfl rfl (by (try simp only [List.map_toArray, List.map_cons, List.map_nil]); first | done | rfl | (simp only [List.length_drop, List.length_take]; rfl)) ?_
 with_reducible refine (spec_l1PickInt.calls g t0 y10 y11 _ _ pl p0 p1 p2 W0 _ HI6.out HB6.out (Kd.R_reads' HO6.out).2.2 (Kd.R_reads' HO6.out).2.1 (far_slice (IsS47.own_ne HI6.out HO6.out (by decide))) A5.out).mono ?_
 rintro e w7 ⟨rfl, hi, hb, hk⟩
 refine ⟨_, rfl, ?_⟩
 have HX7 := Aside0.mk (HX6.out.keep hk (fun _ h => h.2))
 have HY7 := Aside0.mk (HY6.out.keep hk (fun _ h => h.2))
 have K07 := Aside0.mk (blk_below K0.out hb)
 have K17 := Aside0.mk (blk_below K1.out hb)
 have HBw7 := Aside0.mk (below_step HB0.out hb)
 refine hK.out _ _ ⟨KeepBut.blk hk KA6.out HNG.out (by simp), KeepBut.blk hk KB6.out HNG3.out (by simp)⟩ (fun hHeld => ?_)
 clear hK K HX6 HY6 HI6 HB6 KA6 KB6 hi hb hk HO6 A5 HPL
 refine norm_ (a' := ?_) ?_ ?_
 rotate_left
 ·show Act.put _ (some 18) _ = _
  simp only [Act.put, List.setIfInBounds_toArray, List.set_cons_zero, List.set_cons_succ, i64_w, i32_w]
  rfl
 refine one_ (i := 5) (N := none) #[true, true, true, true, true, true, false, false] rfl rfl (one_of HT_.out (by kernel_rfl)) (by decide) (fun K hK => ?_)
 have s0 := (blk_cell K07.out 0).trans rfl
 have f0 := blk_frozen K07.out 0
 have s1 := (blk_cell K07.out 1).trans rfl
 have f1 := blk_frozen K07.out 1
 have s2 := (blk_cell K07.out 2).trans rfl
 have f2 := blk_frozen K07.out 2
 have s3 := (blk_cell K07.out 3).trans rfl
 have f3 := blk_frozen K07.out 3
 have s4 := (blk_cell K07.out 4).trans rfl
 have f4 := blk_frozen K07.out 4
 have s5 := (blk_cell K07.out 5).trans rfl
 have f5 := blk_frozen K07.out 5
 have s6 := (blk_cell K07.out 6).trans rfl
 have f6 := blk_frozen K07.out 6
 have s7 := (blk_cell K07.out 7).trans rfl
 have f7 := blk_frozen K07.out 7
 have s8 := (blk_cell K07.out 8).trans rfl
 have f8 := blk_frozen K07.out 8
 have s9 := (blk_cell K07.out 9).trans rfl
 have f9 := blk_frozen K07.out 9
 refine skip_ (w1 := ?_) (by rfl) rfl ?_ ?_
 rotate_left
 ·go_simp
  rfl
 clear s0 f0 s1 f1 s2 f2 s3 f3 s4 f4 s5 f5 s6 f6 s7 f7 s8 f8 s9 f9
 obtain ⟨w8, hn⟩ : ∃ w8, w8 = ((((((((((w7.setCell ⟨w.heap.size, 0, none⟩ (.slice P0 x0.length P0c)).setCell ⟨w.heap.size, 1, none⟩ (.slice P1 x1.length P1c)).setCell ⟨w.heap.size, 2, none⟩ (.slice P2 x2.length P2c)).setCell ⟨w.heap.size, 3, none⟩ (.slice P3 x3.length P3c)).setCell ⟨w.heap.size, 4, none⟩ (.slice P4 x4.length P4c)).setCell ⟨w.heap.size, 5, none⟩ (.slice P5 x5.length P5c)).setCell ⟨w.heap.size, 6, none⟩ (.slice P6 x6.length P6c)).setCell ⟨w.heap.size, 7, none⟩ (.slice P7 x7.length P7c)).setCell ⟨w.heap.size, 8, none⟩ (.bool x8)).setCell ⟨w.heap.size, 9, none⟩ (.bool x9)) := ⟨_, rfl⟩
 have HKw8 := Aside0.mk (show KeepBut w7 w8 (w.heap.size) none by rw [hn]; exact (KeepBut.set_ (KeepBut.set_ (KeepBut.set_ (KeepBut.set_ (KeepBut.set_ (KeepBut.set_ (KeepBut.set_ (KeepBut.set_ (KeepBut.set_ (KeepBut.set_ (KeepBut.refl _ _ _) _ _) _ _) _ _) _ _) _ _) _ _) _ _) _ _) _ _) _ _))
 have Bw8 := Aside0.mk (show w8.heap[w.heap.size]? = some (.cells #[.slice P0 x0.length P0c, .slice P1 x1.length P1c, .slice P2 x2.length P2c, .slice P3 x3.length P3c, .slice P4 x4.length P4c, .slice P5 x5.length P5c, .slice P6 x6.length P6c, .slice P7 x7.length P7c, .bool x8, .bool x9] 26 (0, 0)) by rw [hn]; have b_ := (blk_set (blk_set (blk_set (blk_set (blk_set (blk_set (blk_set (blk_set (blk_set (blk_set K07.out 0 (.slice P0 x0.length P0c)) 1 (.slice P1 x1.length P1c)) 2 (.slice P2 x2.length P2c)) 3 (.slice P3 x3.length P3c)) 4 (.slice P4 x4.length P4c)) 5 (.slice P5 x5.length P5c)) 6 (.slice P6 x6.length P6c)) 7 (.slice P7 x7.length P7c)) 8 (.bool x8)) 9 (.bool x9)); simp only [List.setIfInBounds_toArray, List.set_cons_zero, List.set_cons_succ] at b_; exact b_)
 have HBw8 := Aside0.mk (show Below w.heap.size w w8 by rw [hn]; exact (below_set (below_set (below_set (below_set (below_set (below_set (below_set (below_set (below_set (below_set HBw7.out (Nat.le_refl _)) (Nat.le_refl _)) (Nat.le_refl _)) (Nat.le_refl _)) (Nat.le_refl _)) (Nat.le_refl _)) (Nat.le_refl _)) (Nat.le_refl _)) (Nat.le_refl _)) (Nat.le_refl _)))
 rw [← hn]
 clear hn
 have hk8 := keep_size HKw8.out
 have hlA : gA < w7.heap.size := blk_lt hHeld.1
 have hlB : gB < w7.heap.size := blk_lt hHeld.2
 have hsA : gA ≠ w.heap.size := by have := HS0.out; omega
 have hsB : gB ≠ w.heap.size := by have := HS0.out; omega
 have HX8 := Aside0.mk (HX7.out.keep HKw8.out (fun k hk => by have := HS0.out; have := hk.1; omega))
 have HY8 := Aside0.mk (HY7.out.keep HKw8.out (fun k hk => by have := HS0.out; have := hk.1; omega))
 have K18 := Aside0.mk (KeepBut.blk HKw8.out K17.out (by omega) (by simp))
 refine hK.out _ _ ⟨KeepBut.blk HKw8.out hHeld.1 hsA (by simp), KeepBut.blk HKw8.out hHeld.2 hsB (by simp)⟩ (fun hHeld => ?_)
 clear hK K
 refine one_ (i := 6) (N := none) #[true, true, true, true, true, true, true, false] rfl rfl (one_of HT_.out (by kernel_rfl)) (by decide) (fun K hK => ?_)
 have s0 := (blk_cell K18.out 0).trans rfl
 have f0 := blk_frozen K18.out 0
 have s1 := (blk_cell K18.out 1).trans rfl
 have f1 := blk_frozen K18.out 1
 have s2 := (blk_cell K18.out 2).trans rfl
 have f2 := blk_frozen K18.out 2
 have s3 := (blk_cell K18.out 3).trans rfl
 have f3 := blk_frozen K18.out 3
 have s4 := (blk_cell K18.out 4).trans rfl
 have f4 := blk_frozen K18.out 4
 have s5 := (blk_cell K18.out 5).trans rfl
 have f5 := blk_frozen K18.out 5
 have s6 := (blk_cell K18.out 6).trans rfl
 have f6 := blk_frozen K18.out 6
 have s7 := (blk_cell K18.out 7).trans rfl
 have f7 := blk_frozen K18.out 7
 have s8 := (blk_cell K18.out 8).trans rfl
 have f8 := blk_frozen K18.out 8
 have s9 := (blk_cell K18.out 9).trans rfl
 have f9 := blk_frozen K18.out 9
 refine skip_ (w1 := ?_) (by rfl) rfl ?_ ?_
 rotate_left
 ·go_simp
  rfl
 clear s0 f0 s1 f1 s2 f2 s3 f3 s4 f4 s5 f5 s6 f6 s7 f7 s8 f8 s9 f9
 obtain ⟨w9, hn⟩ : ∃ w9, w9 = ((((((((((w8.setCell ⟨w.heap.size + 1, 0, none⟩ (.slice Q0 y0.length Q0c)).setCell ⟨w.heap.size + 1, 1, none⟩ (.slice Q1 y1.length Q1c)).setCell ⟨w.heap.size + 1, 2, none⟩ (.slice Q2 y2.length Q2c)).setCell ⟨w.heap.size + 1, 3, none⟩ (.slice Q3 y3.length Q3c)).setCell ⟨w.heap.size + 1, 4, none⟩ (.slice Q4 y4.length Q4c)).setCell ⟨w.heap.size + 1, 5, none⟩ (.slice Q5 y5.length Q5c)).setCell ⟨w.heap.size + 1, 6, none⟩ (.slice Q6 y6.length Q6c)).setCell ⟨w.heap.size + 1, 7, none⟩ (.slice Q7 y7.length Q7c)).setCell ⟨w.heap.size + 1, 8, none⟩ (.bool y8)).setCell ⟨w.heap.size + 1, 9, none⟩ (.bool y9)) := ⟨_, rfl⟩
 have HKw9 := Aside0.mk (show KeepBut w8 w9 (w.heap.size + 1) none by rw [hn]; exact (KeepBut.set_ (KeepBut.set_ (KeepBut.set_ (KeepBut.set_ (KeepBut.set_ (KeepBut.set_ (KeepBut.set_ (KeepBut.set_ (KeepBut.set_ (KeepBut.set_ (KeepBut.refl _ _ _) _ _) _ _) _ _) _ _) _ _) _ _) _ _) _ _) _ _) _ _))
 have Bw9 := Aside0.mk (show w9.heap[w.heap.size + 1]? = some (.cells #[.slice Q0 y0.length Q0c, .slice Q1 y1.length Q1c, .slice Q2 y2.length Q2c, .slice Q3 y3.length Q3c, .slice Q4 y4.length Q4c, .slice Q5 y5.length Q5c, .slice Q6 y6.length Q6c, .slice Q7 y7.length Q7c, .bool y8, .bool y9] 26 (0, 0)) by rw [hn]; have b_ := (blk_set (blk_set (blk_set (blk_set (blk_set (blk_set (blk_set (blk_set (blk_set (blk_set K18.out 0 (.slice Q0 y0.length Q0c)) 1 (.slice Q1 y1.length Q1c)) 2 (.slice Q2 y2.length Q2c)) 3 (.slice Q3 y3.length Q3c)) 4 (.slice Q4 y4.length Q4c)) 5 (.slice Q5 y5.length Q5c)) 6 (.slice Q6 y6.length Q6c)) 7 (.slice Q7 y7.length Q7c)) 8 (.bool y8)) 9 (.bool y9)); simp only [List.setIfInBounds_toArray, List.set_cons_zero, List.set_cons_succ] at b_; exact b_)
 have HBw9 := Aside0.mk (show Below w.heap.size w w9 by rw [hn]; exact (below_set (below_set (below_set (below_set (below_set (below_set (below_set (below_set (below_set (below_set HBw8.out (Nat.le_succ _)) (Nat.le_succ _)) (Nat.le_succ _)) (Nat.le_succ _)) (Nat.le_succ _)) (Nat.le_succ _)) (Nat.le_succ _)) (Nat.le_succ _)) (Nat.le_succ _)) (Nat.le_succ _)))
 rw [← hn]
 clear hn
 have HX9 := Aside0.mk (HX8.out.keep HKw9.out (fun k hk => by have := HS0.out; have := hk.1; omega))
 have HY9 := Aside0.mk (HY8.out.keep HKw9.out (fun k hk => by have := HS0.out; have := hk.1; omega))
 have K09 := Aside0.mk (KeepBut.blk HKw9.out Bw8.out (by omega) (by simp))
 have hsA' : gA ≠ w.heap.size + 1 := by have := HS0.out; omega
 have hsB' : gB ≠ w.heap.size + 1 := by have := HS0.out; omega
 refine hK.out _ _ ⟨KeepBut.blk HKw9.out hHeld.1 hsA' (by simp), KeepBut.blk HKw9.out hHeld.2 hsB' (by simp)⟩ (fun hHeld => ?_)
 clear hK K
 refine pure_ (i := 7) (N := some 4) (v := ?_) (a' := ?_) #[true, true, true, true, true, true, true, true] rfl rfl (any_of HT_.out (by kernel_rfl)) (fun _ _ _ h => h) (Or.inl ⟨by rfl, ?_⟩) ?_ ?_
 rotate_left
 ·intro w'
  go_simp
  with_reducible rfl
 rotate_left
 ·simp only [Act.put, List.setIfInBounds_toArray, List.set_cons_zero, List.set_cons_succ, i64_w, i32_w]
  rfl
 refine done_ (done_of HT_.out (by kernel_rfl)) ?_
 try go_wp2
 refine bodyPost_ret (results_list (rs := [.cell 2 26, .cell 3 26, .tmp 4]) rfl (by simp) (.cell (w.heap.size) 26 #[.slice P0 x0.length P0c, .slice P1 x1.length P1c, .slice P2 x2.length P2c, .slice P3 x3.length P3c, .slice P4 x4.length P4c, .slice P5 x5.length P5c, .slice P6 x6.length P6c, .slice P7 x7.length P7c, .bool x8, .bool x9] (0, 0) _ rfl K09.out Try.underlying26 rfl (by kernel_rfl) (.cell (w.heap.size + 1) 26 #[.slice Q0 y0.length Q0c, .slice Q1 y1.length Q1c, .slice Q2 y2.length Q2c, .slice Q3 y3.length Q3c, .slice Q4 y4.length Q4c, .slice Q5 y5.length Q5c, .slice Q6 y6.length Q6c, .slice Q7 y7.length Q7c, .bool y8, .bool y9] (0, 0) _ rfl Bw9.out Try.underlying26 rfl (by kernel_rfl) (.tmp .nil)))) rfl ?_
 refine ⟨_, _, _, _, _, _, _, _, _, _, _, _, _, _, _, _, rfl, HX9.out.map fun _ _ h => Kd.V_mono h fun _ _ => trivial, HY9.out.map fun _ _ h => Kd.V_mono h fun _ _ => trivial, ?_⟩
 exact HBw9.out

/-! ### impl_ascending: function 24 -/
def lays189_ren : Go.Shelf.Ren := ⟨fun | 189 => 31 | 125 => 36 | 257 => 35 | 128 => 46 | 129 => 47 | 294 => 37 | 295 => 38 | 296 => 39 | 297 => 40 | 298 => 41 | 299 => 42 | 216 => 43 | 300 => 44 | 301 => 45 | 328 => 48 | 329 => 49 | 330 => 50 | 331 => 51 | 332 => 52 | 215 => 53 | 343 => 54 | n => n, fun | 28 => 24 | 3 => 3 | 46 => 57 | 0 => 0 | 51 => 71 | 53 => 73 | 4 => 4 | 183 => 63 | 182 => 62 | 131 => 68 | 5 => 5 | 9 => 9 | 218 => 74 | 222 => 78 | 228 => 81 | 229 => 82 | n => n, fun | n => n⟩
theorem lays189 : Go.Proofs.Lays.n189 Try.prog lays189_ren := {
  mixed := by kernel_rfl,
  f125 := Try.func36.trans (congrArg some (by kernel_rfl)),
  f128 := Try.func46.trans (congrArg some (by kernel_rfl)),
  f129 := Try.func47.trans (congrArg some (by kernel_rfl)),
  f189 := Try.func31.trans (congrArg some (by kernel_rfl)),
  f215 := Try.func53.trans (congrArg some (by kernel_rfl)),
  f216 := Try.func43.trans (congrArg some (by kernel_rfl)),
  f257 := Try.func35.trans (congrArg some (by kernel_rfl)),
  f294 := Try.func37.trans (congrArg some (by kernel_rfl)),
  f295 := Try.func38.trans (congrArg some (by kernel_rfl)),
  f296 := Try.func39.trans (congrArg some (by kernel_rfl)),
  f297 := Try.func40.trans (congrArg some (by kernel_rfl)),
  f298 := Try.func41.trans (congrArg some (by kernel_rfl)),
  f299 := Try.func42.trans (congrArg some (by kernel_rfl)),
  f300 := Try.func44.trans (congrArg some (by kernel_rfl)),
  f301 := Try.func45.trans (congrArg some (by kernel_rfl)),
  f328 := Try.func48.trans (congrArg some (by kernel_rfl)),
  f329 := Try.func49.trans (congrArg some (by kernel_rfl)),
  f330 := Try.func50.trans (congrArg some (by kernel_rfl)),
  f331 := Try.func51.trans (congrArg some (by kernel_rfl)),
  f332 := Try.func52.trans (congrArg some (by kernel_rfl)),
  f343 := Try.func54.trans (congrArg some (by kernel_rfl)),
  t0 := Try.underlying0,
  a0 := Try.isAgg0,
  z0 := Try.sizeOf0,
  v0 := Try.zeroValue0,
  t3 := Try.underlying3,
  a3 := Try.isAgg3,
  z3 := Try.sizeOf3,
  v3 := Try.zeroValue3,
  t4 := Try.underlying4,
  a4 := Try.isAgg4,
  z4 := Try.sizeOf4,
  v4 := Try.zeroValue4,
  t5 := Try.underlying5,
  a5 := Try.isAgg5,
  z5 := Try.sizeOf5,
  v5 := Try.zeroValue5,
  t9 := Try.underlying9,
  a9 := Try.isAgg9,
  z9 := Try.sizeOf9,
  v9 := Try.zeroValue9,
  t28 := Try.underlying24,
  a28 := Try.isAgg24,
  z28 := Try.sizeOf24,
  v28 := Try.zeroValue24,
  t46 := Try.underlying57,
  a46 := Try.isAgg57,
  z46 := Try.sizeOf57,
  v46 := Try.zeroValue57,
  t51 := Try.underlying71,
  a51 := Try.isAgg71,
  z51 := Try.sizeOf71,
  v51 := Try.zeroValue71,
  t53 := Try.underlying73,
  a53 := Try.isAgg73,
  z53 := Try.sizeOf73,
  v53 := Try.zeroValue73,
  t131 := Try.underlying68,
  a131 := Try.isAgg68,
  z131 := Try.sizeOf68,
  v131 := Try.zeroValue68,
  t182 := Try.underlying62,
  a182 := Try.isAgg62,
  z182 := Try.sizeOf62,
  v182 := Try.zeroValue62,
  t183 := Try.underlying63,
  a183 := Try.isAgg63,
  z183 := Try.sizeOf63,
  v183 := Try.zeroValue63,
  t218 := Try.underlying74,
  a218 := Try.isAgg74,
  z218 := Try.sizeOf74,
  v218 := Try.zeroValue74,
  t222 := Try.underlying78,
  a222 := Try.isAgg78,
  z222 := Try.sizeOf78,
  v222 := Try.zeroValue78,
  t228 := Try.underlying81,
  a228 := Try.isAgg81,
  z228 := Try.sizeOf81,
  v228 := Try.zeroValue81,
  t229 := Try.underlying82,
  a229 := Try.isAgg82,
  z229 := Try.sizeOf82,
  v229 := Try.zeroValue82 }

def lays2_20_ren : Go.Shelf.Ren := ⟨fun | 20 => 32 | n => n, fun | 22 => 24 | 3 => 3 | 4 => 4 | 0 => 0 | n => n, fun | n => n⟩
theorem lays2_20 : Go.Proofs.Lays2.n20 Try.prog lays2_20_ren := {
  mixed := by kernel_rfl,
  f20 := Try.func32.trans (congrArg some (by kernel_rfl)),
  t0 := Try.underlying0,
  a0 := Try.isAgg0,
  z0 := Try.sizeOf0,
  v0 := Try.zeroValue0,
  t3 := Try.underlying3,
  a3 := Try.isAgg3,
  z3 := Try.sizeOf3,
  v3 := Try.zeroValue3,
  t4 := Try.underlying4,
  a4 := Try.isAgg4,
  z4 := Try.sizeOf4,
  v4 := Try.zeroValue4,
  t22 := Try.underlying24,
  a22 := Try.isAgg24,
  z22 := Try.sizeOf24,
  v22 := Try.zeroValue24,
  i3 := by kernel_rfl }

theorem int_put {e g cap n : Nat} {w w2 : World} {base : Nat} {ok : Nat → Prop} {l l2 : List Int} (h : Kd.R (Kd.int .i64) e w base ok (.slice (some ⟨g, 0, none⟩) n cap) l) (cur2 : Array Value) (hb : w2.heap[g]? = some (.cells cur2 e (0, 0))) (hs : cur2.size = cap) (hl : l2.length ≤ n) (ht : cur2.toList.take l2.length = l2.map (Value.int .i64)) : Kd.R (Kd.int .i64) e w2 base ok (.slice (some ⟨g, 0, none⟩) l2.length cap) l2 := by
  obtain ⟨h0, inner, ⟨_, ho⟩, _⟩ := h
  have hsz : (Kd.int .i64).sz = 1 := rfl
  refine ⟨fun k hk => h0 k hk, l2.map (Value.int .i64), ⟨by rw [List.length_map, hsz, Nat.mul_one], .inr ?_⟩, ⟨by rw [List.length_map, hsz, Nat.mul_one], fun j p hp => ?_⟩⟩
  · rcases ho with ⟨hv, _⟩ | ⟨g', cap', cur, hv, hbase, hheap, hn, hm, hz, _⟩
    · cases hv
    · injection hv with h1 h2 h3
      injection h1 with h1
      injection h1 with h1
      subst h1; subst h3
      exact ⟨g, cap, cur2, rfl, hbase, hb, by omega, hm, by rw [hsz, Nat.mul_one]; exact hs, by rw [hsz, Nat.mul_one]; exact ht⟩
  · rw [hsz, Nat.mul_one]
    have hj : j < l2.length := (List.getElem?_eq_some_iff.1 hp).1
    have e1 : ((l2.map (Value.int .i64)).drop j).take 1 = [Value.int .i64 p] := by
      rw [List.drop_eq_getElem_cons (by simpa using hj)]
      simp only [List.take_succ_cons, List.take_zero, List.getElem_map]
      rw [(List.getElem?_eq_some_iff.1 hp).2]
    rw [e1]
    rfl
theorem putCells_take (l2 : List Int) (d : Array Int) (cur : Array Value) (m : Nat) (hm : m ≤ d.size) (hc : d.size ≤ cur.size) (hd : d.toList.take m = l2) : (Sort.putCells (Value.int .i64) 0 d cur).toList.take m = l2.map (Value.int .i64) := by
  subst hd
  apply List.ext_getElem?
  intro j
  rw [List.getElem?_take]
  by_cases hj : j < m
  · rw [if_pos hj, List.getElem?_map, List.getElem?_take, if_pos hj]
    have h1 : (Sort.putCells (Value.int .i64) 0 d cur)[j]? = some (.int .i64 (d[j]'(by omega))) := by
      unfold Sort.putCells
      rw [Array.getElem?_mapIdx, Array.getElem?_eq_getElem (by omega)]
      simp only [Option.map_some]
      rw [if_pos (by omega)]
      simp [Nat.sub_zero, getElem!_pos d j (by omega)]
    rw [Array.getElem?_toList, h1, Array.getElem?_toList, Array.getElem?_eq_getElem (by omega)]
    rfl
  · rw [if_neg hj, List.getElem?_map, List.getElem?_take, if_neg hj]
    rfl
theorem putRow_block {w : World} {g e : Nat} {cur : Array Value} (d : Array Int) (h : w.heap[g]? = some (.cells cur e (0, 0))) : (Sort.putRow (Value.int .i64) w g 0 d).heap[g]? = some (.cells (Sort.putCells (Value.int .i64) 0 d cur) e (0, 0)) := by
  unfold Sort.putRow Sort.mapBlock
  simp [Array.getElem?_modify, h, Sort.onCells]
theorem putRow_else {w : World} {g k : Nat} (d : Array Int) (h : k ≠ g) : (Sort.putRow (Value.int .i64) w g 0 d).heap[k]? = w.heap[k]? := by
  unfold Sort.putRow Sort.mapBlock
  simp [Array.getElem?_modify, Ne.symm h]
theorem grow_block (w : World) (os : Array Obj) {k : Nat} (h : k < w.heap.size) : (Sort.grow w os).heap[k]? = w.heap[k]? := by
  unfold Sort.grow
  exact Array.getElem?_append_left h
def ascL (l : List Int) : List Int := Lib.compact (l.mergeSort fun x y => decide (x ≤ y))
theorem compact_len (l : List Int) : (Lib.compact l).length ≤ l.length := by
  unfold Lib.compact Lib.compactUpTo
  rw [List.length_map]
  exact Nat.le_trans (List.length_filter_le _ _) (by simp)
theorem asc_len (l : List Int) : (ascL l).length ≤ l.length := by
  have := compact_len (l.mergeSort fun x y => decide (x ≤ y))
  rw [List.length_mergeSort] at this
  exact this
def impl_ascending.f (l0 : List Int) : Option (List Int) := if l0.length < 4611686018427387904 then some (ascL l0) else none
set_option maxHeartbeats 4000000 in
theorem impl_ascending.calls (P0_ : Nat → Prop) (u9000_ : Value) (l0 : List Int) (r : List Int) (w0 w : World) (hB : Below w0.heap.size w0 w) (ho0 : Kd.R (Kd.int .i64) 3 w w0.heap.size P0_ u9000_ l0) (h : impl_ascending.f l0 = some r) :
    Calls Try.prog 24 #[u9000_] w fun e w' => ∃ v0_ : Value, e = .returned (v0_) ∧ Kd.R (Kd.int .i64) 3 w' w0.heap.size (fun k_ => (P0_ k_ ∨ w.heap.size ≤ k_)) v0_ r ∧ Below w0.heap.size w0 w' ∧ Kept w w' (fun k_ => P0_ k_) := by
  unfold impl_ascending.f at h
  by_cases hlen : l0.length < 4611686018427387904
  · rw [if_pos hlen] at h
    obtain rfl := Option.some.inj h
    by_cases hz : l0 = []
    · subst hz
      obtain ⟨A, c, rfl⟩ := Kd.R_slice ho0
      have hs := fun W => Any.slices_Sort_int_none lays189 A c W
      have hc := fun W => Any.slices_Compact_int_empty lays2_20 A c W
      change ∀ W, Calls Try.prog 31 _ _ _ at hs
      change ∀ W, Calls Try.prog 32 _ _ _ at hc
      have HR := Aside0.mk ho0
      have HB := Aside0.mk hB
      clear ho0 hB
      go_enter Try.func24, Try.ntmps24
      go_wp2_with (first | (go_at_call 31; refine (hs _).mono ?_; rintro e w' ⟨rfl, rfl⟩) | (go_at_call 32; refine (hc _).mono ?_; rintro e w' ⟨rfl, rfl⟩))
      go_ret
      have e0 : ascL [] = [] := by simp [ascL, Lib.compact, Lib.compactUpTo]
      rw [e0]
      exact ⟨_, rfl, Kd.R_mono HR.out (fun k hk => .inl hk), HB.out, Kept.refl _ _⟩
    · obtain ⟨g, cap, rfl, hg0, hg1, cells, hcells⟩ := Kd.R_form ho0 (List.length_pos_iff.2 hz)
      obtain ⟨_, hcap, hC⟩ := Kd.R_reads' ho0
      have hP : P0_ g := ho0.1 g rfl
      have hcs : cells.size = cap := by
        obtain ⟨_, inner, ⟨_, ho⟩, _⟩ := ho0
        rcases ho with ⟨hv, _⟩ | ⟨g', cap', cur, hv, hbase, hheap, hn, hm, hz, _⟩
        · cases hv
        · injection hv with h1 h2 h3
          injection h1 with h1
          injection h1 with h1
          subst h1; subst h3
          rw [hcells] at hheap
          injection hheap with hheap
          injection hheap with h4
          rw [h4]
          have h5 : (Kd.int .i64).sz = 1 := rfl
          rw [h5, Nat.mul_one] at hz
          exact hz
      have hH : Sort.Holds (Value.int .i64) w g 0 l0.toArray := by
        intro j hj
        have hj' : j < l0.length := by simpa using hj
        obtain ⟨ad, ead, hx⟩ := Kd.at_int hC (j : Int) (by omega) (by omega)
        cases ead
        refine ⟨?_, blk_frozen hcells _⟩
        have e1 : rd l0 (j : Int) = l0.toArray[j]! := by
          unfold rd
          rw [Int.toNat_natCast, List.getD_eq_getElem?_getD, List.getElem?_eq_getElem hj', getElem!_pos l0.toArray j hj]
          simp
        rw [e1] at hx
        rw [← hx]
        congr 1
        by_cases hj0 : j = 0 <;> simp [Addr.add, hj0]
      obtain ⟨s, hs⟩ : ∃ s, s = l0.mergeSort fun x y => decide (x ≤ y) := ⟨_, rfl⟩
      have hsl : s.length = l0.length := by rw [hs, List.length_mergeSort]
      have hsort := fun W hH hb => Any.slices_Sort_int lays189 g 0 cap l0 W hH hb hlen
      change ∀ W, _ → _ → Calls Try.prog 31 _ _ _ at hsort
      rw [← hs] at hsort
      have hcomp := fun W hH => Any.slices_Compact_int lays2_20 g 0 cap s W hH (by omega) (by omega)
      change ∀ W, _ → Calls Try.prog 32 _ _ _ at hcomp
      rw [hsl] at hcomp
      have hH1 : ∀ n os, Sort.Holds (Value.int .i64) (Sort.grow (Sort.putRow (Value.int .i64) (Sort.ahead w n) g 0 s.toArray) os) g 0 s.toArray := by
        intro n os j hj
        have h1 := Sort.holds_putRow (Value.int .i64) (Sort.ahead w n) g 0 l0.toArray s.toArray (Sort.holds_ahead (Value.int .i64) w n g 0 l0.toArray hH) (by simpa using hsl) j hj
        have hb1 : (Sort.grow (Sort.putRow (Value.int .i64) (Sort.ahead w n) g 0 s.toArray) os).heap[g]? = some (.cells (Sort.putCells (Value.int .i64) 0 s.toArray cells) 3 (0, 0)) := by
          rw [grow_block _ _ (by simpa [Sort.ahead] using hg1)]
          exact putRow_block _ hcells
        refine ⟨?_, blk_frozen hb1 _⟩
        have hb2 : (Sort.putRow (Value.int .i64) (Sort.ahead w n) g 0 s.toArray).heap[g]? = some (.cells (Sort.putCells (Value.int .i64) 0 s.toArray cells) 3 (0, 0)) := putRow_block _ hcells
        rw [blk_cell hb1, ← blk_cell hb2]
        exact h1.1
      have HEND : Aside0 (∀ n os q, ∃ v0_ : Value, Ending.returned (Value.slice (some ⟨g, 0, none⟩) (Lib.compact s).length cap) = .returned v0_ ∧ Kd.R (Kd.int .i64) 3 (Sort.putRow (Value.int .i64) (Sort.ahead (Sort.grow (Sort.putRow (Value.int .i64) (Sort.ahead w n) g 0 s.toArray) os) q) g 0 (Lib.compact s ++ List.replicate (l0.length - (Lib.compact s).length) 0).toArray) w0.heap.size (fun k_ => (P0_ k_ ∨ w.heap.size ≤ k_)) v0_ (ascL l0) ∧ Below w0.heap.size w0 (Sort.putRow (Value.int .i64) (Sort.ahead (Sort.grow (Sort.putRow (Value.int .i64) (Sort.ahead w n) g 0 s.toArray) os) q) g 0 (Lib.compact s ++ List.replicate (l0.length - (Lib.compact s).length) 0).toArray) ∧ Kept w (Sort.putRow (Value.int .i64) (Sort.ahead (Sort.grow (Sort.putRow (Value.int .i64) (Sort.ahead w n) g 0 s.toArray) os) q) g 0 (Lib.compact s ++ List.replicate (l0.length - (Lib.compact s).length) 0).toArray) (fun k_ => P0_ k_)) := by
        rw [← hsl]
        refine ⟨fun n os q => ?_⟩
        have hcl := compact_len s
        have hb1 : (Sort.grow (Sort.putRow (Value.int .i64) (Sort.ahead w n) g 0 s.toArray) os).heap[g]? = some (.cells (Sort.putCells (Value.int .i64) 0 s.toArray cells) 3 (0, 0)) := by
          rw [grow_block _ _ (by simpa [Sort.ahead] using hg1)]
          exact putRow_block _ hcells
        have hb2 := putRow_block (w := Sort.ahead (Sort.grow (Sort.putRow (Value.int .i64) (Sort.ahead w n) g 0 s.toArray) os) q) (Lib.compact s ++ List.replicate (s.length - (Lib.compact s).length) 0).toArray hb1
        have hsz1 : ∀ d : Array Int, ∀ c : Array Value, (Sort.putCells (Value.int .i64) 0 d c).size = c.size := fun d c => by simp [Sort.putCells]
        have hka : ∀ k, k < w.heap.size → k ≠ g → (Sort.putRow (Value.int .i64) (Sort.ahead (Sort.grow (Sort.putRow (Value.int .i64) (Sort.ahead w n) g 0 s.toArray) os) q) g 0 (Lib.compact s ++ List.replicate (s.length - (Lib.compact s).length) 0).toArray).heap[k]? = w.heap[k]? := by
          intro k hk hne
          rw [putRow_else _ hne]
          show (Sort.grow _ os).heap[k]? = _
          rw [grow_block _ _ (by simpa [Sort.ahead] using hk), putRow_else _ hne]
          rfl
        have hsz : w.heap.size ≤ (Sort.putRow (Value.int .i64) (Sort.ahead (Sort.grow (Sort.putRow (Value.int .i64) (Sort.ahead w n) g 0 s.toArray) os) q) g 0 (Lib.compact s ++ List.replicate (s.length - (Lib.compact s).length) 0).toArray).heap.size := by
          simp [Sort.ahead, Sort.grow]
        refine ⟨_, rfl, ?_, ⟨hB.os, hB.tape, hB.output, Nat.le_trans hB.size hsz, fun k hk => ?_⟩, ⟨hsz, fun k hk hn => hka k hk (fun e => hn (e ▸ hP))⟩⟩
        · have e1 : ascL l0 = Lib.compact s := by rw [hs]; rfl
          rw [e1]
          refine Kd.R_mono (int_put ho0 _ hb2 (by rw [hsz1, hsz1, hcs]) (by omega) ?_) (fun k hk => .inl hk)
          refine putCells_take _ _ _ _ (by simp) (by rw [hsz1]; simp; omega) ?_
          simp
        · rw [hka k (by have := hB.size; omega) (by omega)]
          exact hB.block k hk
      have HH := Aside0.mk hH
      have HH1 := Aside0.mk hH1
      have HG := Aside0.mk hg1
      clear ho0 hB hC hH1 hH hg1 hg0 hcells hP hcs hs hsl hlen hz hcap
      go_enter Try.func24, Try.ntmps24
      go_wp2_with (first | (go_at_call 31; refine (hsort _ HH.out HG.out).mono ?_; rintro e w' ⟨rfl, n, os, rfl⟩) | (go_at_call 32; refine (hcomp _ (HH1.out _ _)).mono ?_; rintro e w' ⟨rfl, q, rfl⟩))
      go_ret
      exact HEND.out _ _ _
  · rw [if_neg hlen] at h
    cases h

/-! ### impl_copyInts: function 25 (a contract of this project's own) -/
def impl_copyInts.f (l0 : List Int) : Option (List Int) := if l0.length < 17592186044416 then some l0 else none
set_option maxHeartbeats 8000000 in
theorem impl_copyInts.calls (A0 : Option Addr) (c0 : Nat) (l0 : List Int) (r : List Int) (w : World) (hr0 : Kd.C (Kd.int .i64) w A0 l0.length l0) (hc0 : l0.length ≤ c0) (h : impl_copyInts.f l0 = some r) :
    Calls Try.prog 25 #[.slice A0 l0.length c0] w fun e w' => ∃ v0_ : Value, e = .returned (v0_) ∧ Kd.R (Kd.int .i64) 3 w' w.heap.size (fun _ => True) v0_ r ∧ Below w.heap.size w w' := by
  unfold impl_copyInts.f at h
  by_cases hl : l0.length < 17592186044416
  · rw [if_pos hl] at h
    obtain rfl := Option.some.inj h
    go_enter Try.func25, Try.ntmps25
    go_wp2_with (first | (at_builtin; refine Kd.R_append_rows (Kd.int .i64) (w0 := w) w.heap.size rfl (.const (.slice none 0 0)) (.tmp 3) 24 3 (.int .i64 0) 8 rfl Try.underlying24 info3 rfl (by decide) (by omega) (.slice none 0 0) [] l0 _ _ _ (fun _ => True) (fun _ => False) rfl rfl ?aO ?aR (fun _ _ h => h) (fun _ h => h.elim) ?aF ?aB ?aS ?aL ?_; (case aO => exact Kd.R_nil _ _ _ _ _); (case aR => exact hr0); (case aF => exact fun _ _ => trivial); (case aB => exact Below.refl _ _); (case aS => exact Nat.le_refl _); (case aL => simp only [List.length_nil]; omega); intro v1 w1 HO HB hg hat))
    go_ret
    exact ⟨_, rfl, HO, HB⟩
  · rw [if_neg hl] at h
    cases h

/-! ### impl_both: function 14 -/
def impl_both.f (l0 : List Int) (l1 : List Int) : Option (List Int) := (impl_copyInts.f l0).bind fun t192 => (if t192.length + l1.length < 17592186044416 then ((impl_ascending.f (t192 ++ l1)).bind fun t198 => (some t198)) else (none))
set_option maxHeartbeats 8000000 in
set_option maxRecDepth 100000 in
theorem impl_both.calls (A0 : Option Addr) (c0 : Nat) (l0 : List Int) (A1 : Option Addr) (c1 : Nat) (l1 : List Int) (r : List Int) (w : World) (hr0 : Kd.C (Kd.int .i64) w A0 l0.length l0) (hc0 : l0.length ≤ c0) (hr1 : Kd.C (Kd.int .i64) w A1 l1.length l1) (hc1 : l1.length ≤ c1) (h : impl_both.f l0 l1 = some r) :
    Calls Try.prog 14 #[.slice A0 l0.length c0, .slice A1 l1.length c1] w fun e w' => ∃ v0_ : Value, e = .returned (v0_) ∧ Kd.R (Kd.int .i64) 3 w' w.heap.size (fun _ => True) v0_ r ∧ Below w.heap.size w w' := by
  have HR0 := Aside0.mk hr0
  have HC0 := Aside0.mk hc0
  clear hr0 hc0
  have HR1 := Aside0.mk hr1
  have HC1 := Aside0.mk hc1
  clear hr1 hc1
  have HB := Aside0.mk (Below.refl w.heap.size w)
  have H : ((impl_copyInts.f l0).bind fun t192 => (if t192.length + l1.length < 17592186044416 then ((impl_ascending.f (t192 ++ l1)).bind fun t198 => (some t198)) else (none))) = some r := h
  clear h
  replace H := Option.bind_eq_some_iff.mp H
  obtain ⟨t192, A30, H⟩ := H
  replace H : (if t192.length + l1.length < 17592186044416 then ((impl_ascending.f (t192 ++ l1)).bind fun t198 => (some t198)) else (none)) = some r := H
  have A3 := Aside0.mk A30
  clear A30
  by_cases c4 : t192.length + l1.length < 17592186044416
  · rw [if_pos c4] at H
    have LMc4 := Aside0.mk c4
    clear c4
    obtain ⟨y195, hy195⟩ : ∃ y_ : List Int, y_ = (t192 ++ l1) := ⟨_, rfl⟩
    replace H : ((impl_ascending.f y195).bind fun t198 => (some t198)) = some r := by first | (rw [hy195]; with_reducible exact H) | (have H2_ := (Option.bind_some _ _).symm.trans H; rw [hy195]; with_reducible exact H2_) | (have H2_ := (Option.bind_some _ _).symm.trans H; with_reducible exact H2_) | with_reducible exact H | (rw [hy195]; exact H) | exact H
    have Ny195 := Aside0.mk hy195
    clear hy195
    replace H := Option.bind_eq_some_iff.mp H
    obtain ⟨t198, A50, H⟩ := H
    replace H : (some t198) = some r := H
    have A5 := Aside0.mk A50
    clear A50
    obtain rfl := Option.some.inj H
    go_enter Try.func14, Try.ntmps14
    go_wp2_with (first | ((with_reducible refine gate_callee (f := 25) rfl ?_); refine goesL_ (some 6) rfl rfl Try.func25 (by kernel_rfl) rfl #[.slice A0 l0.length c0] rfl (by (try simp only [List.map_toArray, List.map_cons, List.map_nil]); first | done | rfl | (simp only [List.length_drop, List.length_take]; rfl)) ?_; (with_reducible refine (impl_copyInts.calls _ _ l0 t192 _ ?side1 ?side2 A3.out).mono ?_); (case side1 => repeat (first | exact HR0.out | (with_reducible refine Kd.C_alloc ?_ _) | (with_reducible refine Kd.C_drewN ?_ _) | (with_reducible refine Kd.C_drew ?_))); (case side2 => exact HC0.out); rintro e w6 ⟨v193, rfl, ho0, hb⟩; refine ⟨_, rfl, ?_⟩; have n0_ := Aside0.mk (Kd.R_lower ho0 (below_size (by repeat (first | (with_reducible first | exact HB.out | apply below_alloc | apply pw_below_drewN | apply below_drew1) | exact HB.out)))); have n1_ := Aside0.mk (below_step (by repeat (first | (with_reducible first | exact HB.out | apply below_alloc | apply pw_below_drewN | apply below_drew1) | exact HB.out)) hb); clear HB; have HO194 := n0_; have HB := n1_; clear n0_ n1_; (try clear hb); (try clear hb2); (try clear hk); (try clear hi); (try clear ho0)) | ((with_reducible refine gate_builtin (b := .append) (xs := #[.tmp 6, .tmp 7]) rfl ?_); at_builtin; refine Kd.R_append_rows (Kd.int .i64) (w0 := w) w.heap.size rfl (.tmp 6) (.tmp 7) 24 3 (.int .i64 0) 8 rfl Try.underlying24 info3 rfl (by decide) (by omega) v193 t192 l1 _ _ _ (fun _ => True) (fun _ => False) rfl rfl ?aO ?aR (fun _ _ h => h) (fun _ h => h.elim) ?aF ?aB ?aS ?aL ?_; (case aR => repeat (first | exact (Kd.C_below HR1.out HB.out) | (with_reducible refine Kd.C_alloc ?_ _) | (with_reducible refine Kd.C_drewN ?_ _) | (with_reducible refine Kd.C_drew ?_))); (case aB => exact (by repeat (first | (with_reducible first | exact HB.out | apply below_alloc | apply pw_below_drewN | apply below_drew1) | exact HB.out))); (case aF => exact (fun _ _ => trivial)); (case aO => exact (by (with_reducible repeat (first | apply Kd.R_alloc | apply Kd.R_drewN | apply Kd.R_drew)); exact HO194.out)); (case aS => exact (below_size (by repeat (first | (with_reducible first | exact HB.out | apply below_alloc | apply pw_below_drewN | apply below_drew1) | exact HB.out)))); (case aL => have := LMc4.out; omega); intro v196 w7 ho hb hg hat; rw [← Ny195.out] at ho; have n0_ := Aside0.mk (hb); have n1_ := Aside0.mk (ho); clear HB; clear HO194; have HB := n0_; have HO197 := n1_; clear n0_ n1_; clear ho hb hg hat; obtain ⟨Ao8, co8, eo8⟩ := Kd.R_slice HO197.out; subst eo8) | ((with_reducible refine gate_callee (f := 24) rfl ?_); refine goesL_ (some 9) rfl rfl Try.func24 (by kernel_rfl) rfl #[.slice Ao8 y195.length co8] rfl (by (try simp only [List.map_toArray, List.map_cons, List.map_nil]); first | done | rfl | (simp only [List.length_drop, List.length_take]; rfl)) ?_; (with_reducible refine (impl_ascending.calls (fun k_ => some k_ = (.slice Ao8 y195.length co8 : Value).ownBlock) (.slice Ao8 y195.length co8) y195 t198 w _ ?side1 ?side2 A5.out).mono ?_); (case side1 => repeat (first | (with_reducible first | exact HB.out | apply below_alloc | apply pw_below_drewN | apply below_drew1) | exact HB.out)); (case side2 => exact Kd.R_tight rfl HO197.out); rintro e w9 ⟨v199, rfl, ho0, hb, hkp⟩; refine ⟨_, rfl, ?_⟩; have n0_ := Aside0.mk (Kd.R_mono (ok' := fun k_ => True) ho0 (fun k_ hk_ => trivial)); have n1_ := Aside0.mk (hb); clear HB; clear HO197; have HO200 := n0_; have HB := n1_; clear n0_ n1_; (try clear hb); (try clear hkp); (try clear ho0)))
    go_ret
    exact ⟨_, by first | rfl | (simp [errW_none, errW_some] <;> rfl) | (simp [*, errW_none, errW_some] <;> rfl), by (with_reducible repeat (first | apply Kd.R_alloc | apply Kd.R_drewN | apply Kd.R_drew)); exact HO200.out, by repeat (first | (with_reducible first | exact HB.out | apply below_alloc | apply pw_below_drewN | apply below_drew1) | exact HB.out)⟩
  · rw [if_neg c4] at H
    exact absurd H (by simp)

/-! ### slices_Index_int_int: function 34 -/
def slices_Index_int_int.l0 : Nat → List Int → Int → Int → Int → Option (Int)
  | 0, _, _, _, _ => none
  | k + 1, x0, x1, x7, x8 => if x8 < x7 then (if 0 ≤ x8 then (if x8 < (x0.length : Int) then (if x1 = (rd x0 x8) then (some x8) else (slices_Index_int_int.l0 k x0 x1 x7 (wrap64 (x8 + 1)))) else (none)) else (none)) else (some (-1))
def slices_Index_int_int.f (k : Nat) (l0 : List Int) (a1 : Int) : Option (Int) := slices_Index_int_int.l0 k l0 a1 (l0.length : Int) 0
theorem slices_Index_int_int.mono_l : ∀ k, (∀ y0 y1 y2 y3, LeO (slices_Index_int_int.l0 k y0 y1 y2 y3) (slices_Index_int_int.l0 (k + 1) y0 y1 y2 y3))
  | 0 => fun _ _ _ _ r h => by simp [slices_Index_int_int.l0] at h
  | k + 1 => by
    have ih0 := slices_Index_int_int.mono_l k
    · intro y0 y1 y2 y3
      unfold slices_Index_int_int.l0
      repeat' first
      | (with_reducible exact ih0 _ _ _ _)
      | (with_reducible exact LeO.refl _)
      | (with_reducible exact LeO.none _)
      | (with_reducible refine LeO.ite ?_ ?_)
      | (with_reducible refine LeO.bind ?_ (fun _ => ?_))
      | exact ih0 _ _ _ _
      | exact LeO.none _
      | refine LeO.ite ?_ ?_
      | refine LeO.bind ?_ (fun _ => ?_)
theorem slices_Index_int_int.mono : ∀ a0 a1 k, LeO (slices_Index_int_int.f k a0 a1) (slices_Index_int_int.f (k + 1) a0 a1) := by
  intro a0 a1 k
  have ih0 := slices_Index_int_int.mono_l k
  unfold slices_Index_int_int.f
  repeat' first
      | (with_reducible exact ih0 _ _ _ _)
      | (with_reducible exact LeO.refl _)
      | (with_reducible exact LeO.none _)
      | (with_reducible refine LeO.ite ?_ ?_)
      | (with_reducible refine LeO.bind ?_ (fun _ => ?_))
      | exact ih0 _ _ _ _
      | exact LeO.none _
      | refine LeO.ite ?_ ?_
      | refine LeO.bind ?_ (fun _ => ?_)
set_option maxHeartbeats 8000000 in
set_option maxRecDepth 100000 in
theorem slices_Index_int_int.calls (k : Nat) (A0 : Option Addr) (c0 : Nat) (l0 : List Int) (a1 : Int) (r : Int) (w : World) (hr0 : Kd.C (Kd.int .i64) w A0 l0.length l0) (hc0 : l0.length ≤ c0) (h : slices_Index_int_int.f k l0 a1 = some r) :
    Calls Try.prog 34 #[.slice A0 l0.length c0, .int .i64 a1] w fun e w' => e = .returned (.int .i64 r) ∧ Drawn0 w w' := by
  have HR0 := Aside0.mk hr0
  have HC0 := Aside0.mk hc0
  clear hr0 hc0
  have H : (slices_Index_int_int.l0 k l0 a1 (l0.length : Int) 0) = some r := h
  clear h
  have H' := Aside0.mk H
  clear H
  go_enter Try.func34, Try.ntmps34
  go_wp2
  go_loopg [8] k (fun kq v8 w' => ∃ (x8_1 : Int), v8 = .int .i64 x8_1 ∧ Aside0 (slices_Index_int_int.l0 kq l0 a1 (l0.length : Int) x8_1 = some r) ∧ Aside0 (kq ≤ k) ∧ Drawn0 w w')
  case atStart => exact ⟨(0), (by first | rfl | (simp; done) | (simp [*]; done)), H', ⟨Nat.le_refl _⟩, by repeat (first | exact Drawn0.refl _ | apply Drawn0.step)⟩
  case round =>
    clear H'
    try clear p2
    obtain ⟨x8_1, rfl, HA, HK1, ⟨m1, rfl⟩⟩ := hrel
    cases gk with
    | zero => exact absurd HA.out (by simp [slices_Index_int_int.l0])
    | succ k1 =>
      have H := HA.out
      clear HA
      simp only [slices_Index_int_int.l0] at H
      by_cases c3 : x8_1 < (l0.length : Int)
      · rw [if_pos c3] at H
        have c3b0 : decide (x8_1 < (l0.length : Int)) = true := decide_eq_true c3
        clear c3
        by_cases c4 : 0 ≤ x8_1
        · rw [if_pos c4] at H
          have c4b0 : decide (0 ≤ x8_1) = true := decide_eq_true c4
          clear c4
          by_cases c5 : x8_1 < (l0.length : Int)
          · rw [if_pos c5] at H
            have c5b0 : decide (x8_1 < (l0.length : Int)) = true := decide_eq_true c5
            clear c5
            by_cases c6 : a1 = (rd l0 x8_1)
            · rw [if_pos c6] at H
              have c6b0 : (a1 == (rd l0 x8_1)) = true := beq_iff_eq.mpr c6
              have c6b1 : (a1 != (rd l0 x8_1)) = false := bne_eq_false_iff_eq.mpr c6
              clear c6
              obtain rfl := Option.some.inj H
              have p201 : 0 ≤ (x8_1 : Int) := of_decide_eq_true (by first | (with_reducible assumption) | assumption)
              have q201 : x8_1 < (l0.length : Int) := of_decide_eq_true (by first | (with_reducible assumption) | assumption)
              obtain ⟨ad201, e201, hx201_0⟩ := Kd.at_int HR0.out x8_1 p201 q201
              cases e201
              replace p201 := eq_true p201
              replace q201 := eq_true q201
              go_wp2
              go_ret
              exact ⟨by first | rfl | (simp; done) | (simp [*]; done), by repeat (first | exact Drawn0.refl _ | apply Drawn0.step)⟩
            · rw [if_neg c6] at H
              have c6b0 : (a1 == (rd l0 x8_1)) = false := beq_eq_false_iff_ne.mpr c6
              have c6b1 : (a1 != (rd l0 x8_1)) = true := bne_iff_ne.mpr c6
              have H' := Aside0.mk H
              clear H
              have p201 : 0 ≤ (x8_1 : Int) := of_decide_eq_true (by first | (with_reducible assumption) | assumption)
              have q201 : x8_1 < (l0.length : Int) := of_decide_eq_true (by first | (with_reducible assumption) | assumption)
              obtain ⟨ad201, e201, hx201_0⟩ := Kd.at_int HR0.out x8_1 p201 q201
              cases e201
              replace p201 := eq_true p201
              replace q201 := eq_true q201
              go_wp2
              go_roundg k1
              case measure => have := HK1.out; omega
              case rel => exact ⟨(wrap64 (x8_1 + 1)), (by first | rfl | (simp; done) | (simp [*]; done)), H', ⟨by have := HK1.out; omega⟩, by repeat (first | exact Drawn0.refl _ | apply Drawn0.step)⟩
          · rw [if_neg c5] at H
            exact absurd H (by simp)
        · rw [if_neg c4] at H
          exact absurd H (by simp)
      · rw [if_neg c3] at H
        have c3b0 : decide (x8_1 < (l0.length : Int)) = false := decide_eq_false c3
        clear c3
        obtain rfl := Option.some.inj H
        go_wp2
        go_ret
        exact ⟨by first | rfl | (simp; done) | (simp [*]; done), by repeat (first | exact Drawn0.refl _ | apply Drawn0.step)⟩

/-! ### slices_Contains_int_int: function 30 -/
def slices_Contains_int_int.f (k : Nat) (l0 : List Int) (a1 : Int) : Option (Bool) := (slices_Index_int_int.f k l0 a1).bind fun t202 => (some (decide (t202 ≥ 0)))
theorem slices_Contains_int_int.mono : ∀ a0 a1 k, LeO (slices_Contains_int_int.f k a0 a1) (slices_Contains_int_int.f (k + 1) a0 a1) := by
  intro a0 a1 k
  unfold slices_Contains_int_int.f
  repeat' first
      | (with_reducible exact slices_Index_int_int.mono _ _ _)
      | (with_reducible exact LeO.refl _)
      | (with_reducible exact LeO.none _)
      | (with_reducible refine LeO.ite ?_ ?_)
      | (with_reducible refine LeO.bind ?_ (fun _ => ?_))
      | exact slices_Index_int_int.mono _ _ _
      | exact LeO.none _
      | refine LeO.ite ?_ ?_
      | refine LeO.bind ?_ (fun _ => ?_)
set_option maxHeartbeats 8000000 in
set_option maxRecDepth 100000 in
theorem slices_Contains_int_int.calls (k : Nat) (A0 : Option Addr) (c0 : Nat) (l0 : List Int) (a1 : Int) (r : Bool) (w : World) (hr0 : Kd.C (Kd.int .i64) w A0 l0.length l0) (hc0 : l0.length ≤ c0) (h : slices_Contains_int_int.f k l0 a1 = some r) :
    Calls Try.prog 30 #[.slice A0 l0.length c0, .int .i64 a1] w fun e w' => e = .returned (.bool r) ∧ Drawn0 w w' := by
  have HR0 := Aside0.mk hr0
  have HC0 := Aside0.mk hc0
  clear hr0 hc0
  have H : ((slices_Index_int_int.f k l0 a1).bind fun t202 => (some (decide (t202 ≥ 0)))) = some r := h
  clear h
  replace H := Option.bind_eq_some_iff.mp H
  obtain ⟨t202, A30, H⟩ := H
  replace H : (some (decide (t202 ≥ 0))) = some r := H
  have A3 := Aside0.mk A30
  clear A30
  obtain rfl := Option.some.inj H
  go_enter Try.func30, Try.ntmps30
  go_wp2_with (first | ((with_reducible refine gate_callee (f := 34) rfl ?_); refine goesL_ (some 7) rfl rfl Try.func34 (by kernel_rfl) rfl #[.slice A0 l0.length c0, .int .i64 a1] rfl (by (try simp only [List.map_toArray, List.map_cons, List.map_nil]); first | done | rfl | (simp only [List.length_drop, List.length_take]; rfl)) ?_; (with_reducible refine (slices_Index_int_int.calls k _ _ l0 a1 t202 _ ?side1 ?side2 A3.out).mono ?_); (case side1 => repeat (first | exact HR0.out | (with_reducible refine Kd.C_alloc ?_ _) | (with_reducible refine Kd.C_drewN ?_ _) | (with_reducible refine Kd.C_drew ?_))); (case side2 => exact HC0.out); rintro e w' ⟨rfl, ⟨nd, rfl⟩⟩; refine ⟨_, rfl, ?_⟩))
  go_ret
  exact ⟨by first | rfl | (simp; done) | (simp [*]; done), by repeat (first | exact Drawn0.refl _ | apply Drawn0.step)⟩

end Go.Proofs.Ytejbndfhaemigaa.PFnClashes
