-- written by wip/tools/myprint.py out of the program's own print
import Derived.Test.YtgilggacmklijaaPFnExactSizesx0
import Derived.Test.YtgilggacmklijaaPFnExactSizesx1
import Derived.Test.YtgilggacmklijaaPFnExactSizesx6
import Derived.Test.YtgilggacmklijaaPFnExactSizesx7
import Derived.Test.YtgilggacmklijaaPFnExactSizesx12
namespace Go.Proofs.Ytgilggacmklijaa.PFnExactSizes
open Go.Proofs.Ytgilggacmklijaa.Own (rS cS bS rB rN rT kS kC kc10 kf10)
open Go.RowKit Go.Proofs.YtgilggacmklijaaW.PrintWords Go.Proofs.YtgilggacmklijaaW.PrintLast Go.Proofs.YtgilggacmklijaaW.PrintMore
attribute [local go_sem] max2_int min2_int max_two min_two max_three min_three max_four min_four   -- for this text's walks alone
set_option linter.unusedVariables false
set_option linter.unusedSimpArgs false

/-! ### laws_markText: function 29 -/
def laws_markText.l0 : Nat → Int → ByteArray → Option (ByteArray)
  | 0, _, _ => none
  | k + 1, x0, x3 => if x0 > 0 then ((some (([(wrap64 (48 + (Int.tmod x0 10))) % 256] : List Int) : List Int)).bind fun y308 => (if (strOfNums y308).size + x3.size ≤ 9223372036854775807 then (laws_markText.l0 k (wrap64 (Int.tdiv x0 10)) ((strOfNums y308) ++ x3)) else (none))) else (if 1 + x3.size ≤ 9223372036854775807 then (some ((⟨#[109]⟩ : ByteArray) ++ x3)) else (none))
def laws_markText.f (k : Nat) (a0 : Int) : Option (ByteArray) := if a0 ≤ 0 then (some (⟨#[109, 48]⟩ : ByteArray)) else (laws_markText.l0 k a0 (⟨#[]⟩ : ByteArray))
theorem laws_markText.mono_l : ∀ k, (∀ y0 y1, LeO (laws_markText.l0 k y0 y1) (laws_markText.l0 (k + 1) y0 y1))
  | 0 => fun _ _ r h => by simp [laws_markText.l0] at h
  | k + 1 => by
    have ih0 := laws_markText.mono_l k
    · intro y0 y1
      unfold laws_markText.l0
      repeat' first
      | (with_reducible exact ih0 _ _)
      | (with_reducible exact LeO.refl _)
      | (with_reducible exact LeO.none _)
      | (with_reducible refine LeO.ite ?_ ?_)
      | (with_reducible refine LeO.bind ?_ (fun _ => ?_))
      | exact ih0 _ _
      | exact LeO.none _
      | refine LeO.ite ?_ ?_
      | refine LeO.bind ?_ (fun _ => ?_)
theorem laws_markText.mono : ∀ a0 k, LeO (laws_markText.f k a0) (laws_markText.f (k + 1) a0) := by
  intro a0 k
  have ih0 := laws_markText.mono_l k
  unfold laws_markText.f
  repeat' first
      | (with_reducible exact ih0 _ _)
      | (with_reducible exact LeO.refl _)
      | (with_reducible exact LeO.none _)
      | (with_reducible refine LeO.ite ?_ ?_)
      | (with_reducible refine LeO.bind ?_ (fun _ => ?_))
      | exact ih0 _ _
      | exact LeO.none _
      | refine LeO.ite ?_ ?_
      | refine LeO.bind ?_ (fun _ => ?_)
set_option maxHeartbeats 8000000 in
set_option maxRecDepth 100000 in
theorem laws_markText.calls (k : Nat) (a0 : Int) (r : ByteArray) (w : World) (h : laws_markText.f k a0 = some r) :
    Calls Try.prog 29 #[.int .i64 a0] w fun e w' => e = .returned (.string r) ∧ Below w.heap.size w w' := by
  have HB := Aside0.mk (Below.refl w.heap.size w)
  have H : (if a0 ≤ 0 then (some (⟨#[109, 48]⟩ : ByteArray)) else (laws_markText.l0 k a0 (⟨#[]⟩ : ByteArray))) = some r := h
  clear h
  by_cases c2 : a0 ≤ 0
  · rw [if_pos c2] at H
    have c2b0 : decide (a0 ≤ 0) = true := decide_eq_true c2
    clear c2
    obtain rfl := Option.some.inj H
    go_enter Try.func29, Try.ntmps29
    go_wp2
    go_ret
    exact ⟨by first | rfl | (simp [errW_none, errW_some] <;> rfl) | (simp [*, errW_none, errW_some] <;> rfl), by repeat (first | (with_reducible first | exact HB.out | apply below_alloc | apply pw_below_drewN | apply below_drew1) | exact HB.out)⟩
  · rw [if_neg c2] at H
    have c2b0 : decide (a0 ≤ 0) = false := decide_eq_false c2
    clear c2
    have H' := Aside0.mk H
    clear H
    go_enter Try.func29, Try.ntmps29
    go_wp2
    go_loopg [0, 3] k (fun kq v0 v3 w' => ∃ (x0_1 : Int) (x3_1 : ByteArray), v0 = .int .i64 x0_1 ∧ v3 = .string x3_1 ∧ Aside0 (laws_markText.l0 kq x0_1 x3_1 = some r) ∧ Aside0 (kq ≤ k) ∧ Aside0 (Below w.heap.size w w'))
    case atStart => exact ⟨(a0), ((⟨#[]⟩ : ByteArray)), (by first | rfl | (simp; done) | (simp [*]; done)), (by first | rfl | (simp; done) | (simp [*]; done)), H', ⟨Nat.le_refl _⟩, ⟨by repeat (first | (with_reducible first | exact HB.out | apply below_alloc | apply pw_below_drewN | apply below_drew1) | exact HB.out)⟩⟩
    case round =>
      clear H'
      try clear c2
      try clear c2b0
      try clear p2
      obtain ⟨x0_1, x3_1, rfl, rfl, HA, HK1, HB⟩ := hrel
      cases gk with
      | zero => exact absurd HA.out (by simp [laws_markText.l0])
      | succ k1 =>
        have H := HA.out
        clear HA
        simp only [laws_markText.l0] at H
        by_cases c3 : x0_1 > 0
        · rw [if_pos c3] at H
          have c3b0 : decide (0 < x0_1) = true := decide_eq_true c3
          clear c3
          obtain ⟨y308, hy308⟩ : ∃ y_ : List Int, y_ = (([(wrap64 (48 + (Int.tmod x0_1 10))) % 256] : List Int)) := ⟨_, rfl⟩
          replace H : (if (strOfNums y308).size + x3_1.size ≤ 9223372036854775807 then (laws_markText.l0 k1 (wrap64 (Int.tdiv x0_1 10)) ((strOfNums y308) ++ x3_1)) else (none)) = some r := by first | (rw [hy308]; with_reducible exact H) | (have H2_ := (Option.bind_some _ _).symm.trans H; rw [hy308]; with_reducible exact H2_) | (have H2_ := (Option.bind_some _ _).symm.trans H; with_reducible exact H2_) | with_reducible exact H | (rw [hy308]; exact H) | exact H
          have Ny308 := Aside0.mk hy308
          clear hy308
          by_cases c4 : (strOfNums y308).size + x3_1.size ≤ 9223372036854775807
          · rw [if_pos c4] at H
            have c4b0 := eq_true c4
            have c4b1 : decide ((strOfNums y308).size + x3_1.size ≤ 9223372036854775807) = true := decide_eq_true c4
            try have c4b2 : (9223372036854775807 < (strOfNums y308).size + x3_1.size) = False := eq_false (Nat.not_lt.2 c4)
            have H' := Aside0.mk H
            clear H
            go_wp2_with (first | ((with_reducible refine gate_dst (N := 12) rfl ?_); refine Kd.R_lit (Kd.int .u8) _ 5 ?hg (N := 12) ?hd (xs := ([(wrap64 (48 + (Int.tmod x0_1 10))) % 256] : List Int)) (inner := [.int .u8 ((wrap64 (48 + (Int.tmod x0_1 10))) % 256)]) (ok := fun _ => True) (okp := fun _ => True) ?hr ?hp (fun _ hk => hk) trivial (Below.refl _ _) (Nat.le_refl _) (by simp) ?_; (case hd => rfl); (case hg => rfl); (case hr => first | (go_simp; done) | (go_simp; rfl)); (case hp => exact (Reps.one (show Kd.M (Kd.int .u8) _ _ _ ((wrap64 (48 + (Int.tmod x0_1 10))) % 256) [.int .u8 ((wrap64 (48 + (Int.tmod x0_1 10))) % 256)] from rfl) (Reps.none _ _))); intro v309 w5 ho6 hb hg_ hnew_; clear hg_ hnew_; (first | rw [← Ny308.out] at ho6 | (simp only [Int.reduceToNat] at ho6; rw [← Ny308.out] at ho6)); have n0_ := Aside0.mk (Kd.R_lower ho6 (below_size (by repeat (first | (with_reducible first | exact HB.out | apply below_alloc | apply pw_below_drewN | apply below_drew1) | exact HB.out)))); have n1_ := Aside0.mk (below_step (by repeat (first | (with_reducible first | exact HB.out | apply below_alloc | apply pw_below_drewN | apply below_drew1) | exact HB.out)) hb); clear HB; have HO310 := n0_; have HB := n1_; clear n0_ n1_; clear hb ho6; have hcv7 := own_string (P := Try.prog) Try.underlying61 Try.underlying5 Try.underlying9 (Kd.own_of_R HO310.out)))
            go_roundg k1
            case measure => have := HK1.out; omega
            case rel => exact ⟨(wrap64 (Int.tdiv x0_1 10)), ((strOfNums y308) ++ x3_1), (by first | rfl | (simp; done) | (simp [*]; done)), (by first | rfl | (simp; done) | (simp [*]; done)), H', ⟨by have := HK1.out; omega⟩, ⟨by repeat (first | (with_reducible first | exact HB.out | apply below_alloc | apply pw_below_drewN | apply below_drew1) | exact HB.out)⟩⟩
          · rw [if_neg c4] at H
            exact absurd H (by simp)
        · rw [if_neg c3] at H
          have c3b0 : decide (0 < x0_1) = false := decide_eq_false c3
          clear c3
          by_cases c8 : 1 + x3_1.size ≤ 9223372036854775807
          · rw [if_pos c8] at H
            have c8b0 := eq_true c8
            have c8b1 : decide (1 + x3_1.size ≤ 9223372036854775807) = true := decide_eq_true c8
            try have c8b2 : (9223372036854775807 < 1 + x3_1.size) = False := eq_false (Nat.not_lt.2 c8)
            obtain rfl := Option.some.inj H
            go_wp2
            go_ret
            exact ⟨by first | rfl | (simp [errW_none, errW_some] <;> rfl) | (simp [*, errW_none, errW_some] <;> rfl), by repeat (first | (with_reducible first | exact HB.out | apply below_alloc | apply pw_below_drewN | apply below_drew1) | exact HB.out)⟩
          · rw [if_neg c8] at H
            exact absurd H (by simp)

/-! ### laws_markNodeS: function 21 -/
def laws_markNodeS.l0 : Nat → List S50 → Int → Int → Option (Int × List S50)
  | 0, _, _, _ => none
  | k + 1, x0, x1, x5 => if x5 < (x0.length : Int) then (if 0 ≤ x5 then ((laws_markText.f k (wrap64 (x1 + 1))).bind fun t => ((laws_markIntS.f k (rd_T50 x0 x5).f3 (wrap64 (wrap64 (wrap64 (x1 + 1) + 1) + 1))).bind fun p => laws_markNodeS.l0 k (x0.set x5.toNat ⟨x1, t, wrap64 (wrap64 (x1 + 1) + 1), p.2⟩) p.1 (wrap64 (x5 + 1)))) else none) else some (x1, x0)
def laws_markNodeS.f (k : Nat) (l0 : List S50) (a1 : Int) : Option (Int × List S50) := laws_markNodeS.l0 k l0 a1 0
theorem laws_markNodeS.mono_l : ∀ k x0 x1 x5, LeO (laws_markNodeS.l0 k x0 x1 x5) (laws_markNodeS.l0 (k + 1) x0 x1 x5) := by
  intro k
  induction k with
  | zero => intro x0 x1 x5 r h; cases h
  | succ k ih =>
    intro x0 x1 x5 r h
    unfold laws_markNodeS.l0 at h ⊢
    split at h
    · next c =>
      rw [if_pos c]
      split at h
      · next c2 =>
        rw [if_pos c2]
        exact LeO.bind (laws_markText.mono _ _) (fun t => LeO.bind (laws_markIntS.mono _ _ _) (fun p => ih _ _ _)) r h
      · cases h
    · next c =>
      rw [if_neg c]
      exact h
theorem laws_markNodeS.mono : ∀ a0 a1 k, LeO (laws_markNodeS.f k a0 a1) (laws_markNodeS.f (k + 1) a0 a1) := fun a0 a1 k => laws_markNodeS.mono_l k a0 a1 0
theorem ownBlock_at (g n cap : Nat) : (Value.slice (some ⟨g, 0, none⟩) n cap).ownBlock = some g := rfl
set_option maxHeartbeats 8000000 in
set_option maxRecDepth 100000 in
theorem laws_markNodeS.calls (k : Nat) (P0_ : Nat → Prop) (u9000_ : Value) (l0 : List S50) (a1 : Int) (r1 : Int) (r2 : List S50) (w0 w : World) (hB : Below w0.heap.size w0 w) (ho0 : Kd.S k50 50 w w0.heap.size P0_ u9000_ l0) (h : laws_markNodeS.f k l0 a1 = some (r1, r2)) :
    Calls Try.prog 21 #[u9000_, .int .i64 a1] w fun e w' => e = .returned (.int .i64 r1) ∧ Kd.S k50 50 w' w0.heap.size (fun k_ => (P0_ k_ ∨ w.heap.size ≤ k_)) u9000_ r2 ∧ Below w0.heap.size w0 w' ∧ Kept w w' (fun k_ => P0_ k_) := by
  have hu141 := Try.underlying50
  have HO0 := Aside0.mk (show Kd.S k50 50 w w0.heap.size (fun k_ => (P0_ k_ ∨ w.heap.size ≤ k_)) u9000_ l0 from Kd.S_mono ho0 (fun k_ hk => (.inl hk)))
  have HK := Aside0.mk (Kept.refl w (fun k_ => P0_ k_))
  have HW0 := Aside0.mk hB.size
  have HB := Aside0.mk hB
  clear hB
  have H' := Aside0.mk (show laws_markNodeS.l0 k l0 a1 0 = some (r1, r2) from h)
  clear h ho0
  go_enter Try.func21, Try.ntmps21
  go_wp2
  go_loopg [1, 5] k (fun kq v1 v5 w' => ∃ (x0_1 : List S50) (x1_1 : Int) (x5_1 : Int), v1 = .int .i64 x1_1 ∧ v5 = .int .i64 x5_1 ∧ Aside0 (laws_markNodeS.l0 kq x0_1 x1_1 x5_1 = some (r1, r2)) ∧ Aside0 (kq ≤ k) ∧ Aside0 (Kd.S k50 50 w' w0.heap.size (fun k_ => (P0_ k_ ∨ w.heap.size ≤ k_)) u9000_ x0_1) ∧ Aside0 (Kept w w' (fun k_ => P0_ k_)) ∧ Aside0 (Below w0.heap.size w0 w'))
  case atStart => exact ⟨l0, a1, 0, rfl, rfl, H', ⟨Nat.le_refl _⟩, HO0, HK, HB⟩
  case round =>
    clear H' HO0 HK HB
    obtain ⟨x0, x1, x5, rfl, rfl, HA, HK1, HO, HK, HB⟩ := hrel
    cases gk with
    | zero => exact absurd HA.out (by simp [laws_markNodeS.l0])
    | succ k1 =>
      have H := HA.out
      clear HA
      obtain ⟨Ao, co, eo⟩ := Kd.S_slice HO.out
      subst eo
      simp only [laws_markNodeS.l0] at H
      by_cases c3 : x5 < (x0.length : Int)
      · rw [if_pos c3] at H
        have c3b : decide (x5 < (x0.length : Int)) = true := decide_eq_true c3
        by_cases c4 : 0 ≤ x5
        · rw [if_pos c4] at H
          obtain ⟨t, ht, H⟩ := Option.bind_eq_some_iff.mp H
          obtain ⟨⟨p1, p2⟩, hp, H⟩ := Option.bind_eq_some_iff.mp H
          dsimp only at H
          obtain ⟨g, cap, eg, gb, gl, cells, hgc⟩ := Kd.S_form HO.out (by omega)
          cases eg
          obtain ⟨oki, c, hcl, hM, hcc, hfr, hoki, hH⟩ := Kd.S_elem HO.out z50 x5 c4 c3
          obtain ⟨v3, rfl, hR3⟩ := k50_openM hM
          have hcc : ∀ j u, [Value.int .i64 (rd_T50 x0 x5).f0, .string (rd_T50 x0 x5).f1, .int .i64 (rd_T50 x0 x5).f2, v3][j]? = some u → wr.cell? ⟨g, x5.toNat * 4 + j, none⟩ = some u := hcc
          have hR3 : Kd.R (Kd.int .i64) 3 wr w0.heap.size oki v3 (rd_T50 x0 x5).f3 := hR3
          have hH : Kd.H k50 50 wr w0.heap.size (fun k_ => (P0_ k_ ∨ w.heap.size ≤ k_)) (.slice (some ⟨g, 0, none⟩) x0.length co) x0 x5 oki [Value.int .i64 (rd_T50 x0 x5).f0, .string (rd_T50 x0 x5).f1, .int .i64 (rd_T50 x0 x5).f2, v3] := hH
          have hx0 : wr.cell? ⟨g, x5.toNat * 4, none⟩ = some (.int .i64 (rd_T50 x0 x5).f0) := hcc 0 _ rfl
          have hf0 : wr.frozen? ⟨g, x5.toNat * 4, none⟩ = false := blk_frozen hgc _
          have HMg := Aside0.mk (show P0_ g ∨ w.heap.size ≤ g from (Kd.S_R HO.out).1 g rfl)
          have HGB := Aside0.mk gb
          have HGC := Aside0.mk hgc
          have HOKI := Aside0.mk hoki
          have HT := Aside0.mk ht
          have HP := Aside0.mk hp
          have HR3 := Aside0.mk hR3
          have h1 : Kd.H k50 50 (wr.setCell ⟨g, x5.toNat * 4, none⟩ (.int .i64 x1)) w0.heap.size (fun k_ => (P0_ k_ ∨ w.heap.size ≤ k_)) (.slice (some ⟨g, 0, none⟩) x0.length co) x0 x5 oki [Value.int .i64 x1, .string (rd_T50 x0 x5).f1, .int .i64 (rd_T50 x0 x5).f2, v3] :=
            (Kd.H_seg hH c4 c3 (seg := [.int .i64 x1]) (j := 0) (show 0 + 1 ≤ 4 from by decide) (by simp [Value.oneCell'])).1
          have HH1 := Aside0.mk h1
          have HC3 := Aside0.mk c3
          have HC4 := Aside0.mk c4
          have HN := Aside0.mk H
          clear hcc hR3 hH hgc hoki ht hp hcl hM hfr h1 H gb gl
          replace c3 := eq_true c3
          replace c4 := eq_true c4
          go_wp2_with (first
            | (go_at_call 29; (with_reducible refine (laws_markText.calls k1 (wrap64 (x1 + 1)) t _ HT.out).mono ?_); rintro e w5 ⟨rfl, hb5⟩;
                have h2 := Kd.H_below HH1.out hb5;
                have hgc5 := blk_below (blk_set HGC.out (x5.toNat * 4) (.int .i64 x1)) hb5;
                obtain ⟨_, _, _, _, _, hcc5, _⟩ := Kd.H_raw h2 HC4.out HC3.out;
                have hy1 : w5.cell? ⟨g, x5.toNat * 4 + 1, none⟩ = some (.string (rd_T50 x0 x5).f1) := hcc5 1 _ rfl;
                have hy2 : w5.cell? ⟨g, x5.toNat * 4 + 2, none⟩ = some (.int .i64 (rd_T50 x0 x5).f2) := hcc5 2 _ rfl;
                have hy3 : w5.cell? ⟨g, x5.toNat * 4 + 3, none⟩ = some v3 := hcc5 3 _ rfl;
                have hf1 : w5.frozen? ⟨g, x5.toNat * 4 + 1, none⟩ = false := blk_frozen hgc5 _;
                have hf2 : w5.frozen? ⟨g, x5.toNat * 4 + 2, none⟩ = false := blk_frozen hgc5 _;
                have HH2 := Aside0.mk h2; have HB5 := Aside0.mk hb5; clear hcc5 h2 hgc5 hb5 hx0 hf0)
            | (go_at_call 11;
                have h3 := (Kd.H_seg HH2.out HC4.out HC3.out (seg := [.string t]) (j := 1) (show 1 + 1 ≤ 4 from by decide) (by simp [Value.oneCell'])).1;
                have h4 := (Kd.H_seg h3 HC4.out HC3.out (seg := [.int .i64 (wrap64 (wrap64 (x1 + 1) + 1))]) (j := 2) (show 2 + 1 ≤ 4 from by decide) (by simp [Value.oneCell'])).1;
                have HH4 := Aside0.mk h4; clear h3 h4;
                have hB2 := below_set (j := x5.toNat * 4 + 2) (v := .int .i64 (wrap64 (wrap64 (x1 + 1) + 1))) (below_set (j := x5.toNat * 4 + 1) (v := .string t) (below_step (below_set (j := x5.toNat * 4) (v := .int .i64 x1) HB.out HGB.out) HB5.out) HGB.out) HGB.out;
                have hR2 := Kd.R_far (p := ⟨g, x5.toNat * 4 + 2, none⟩) (Kd.R_far (p := ⟨g, x5.toNat * 4 + 1, none⟩) (Kd.R_below (Kd.R_far (p := ⟨g, x5.toNat * 4, none⟩) HR3.out (fun k hk => (HOKI.out k hk).2) (.int .i64 x1)) HB5.out) (fun k hk => (HOKI.out k hk).2) (.string t)) (fun k hk => (HOKI.out k hk).2) (.int .i64 (wrap64 (wrap64 (x1 + 1) + 1)));
                (with_reducible refine (laws_markIntS.calls k1 oki v3 (rd_T50 x0 x5).f3 _ p1 p2 w0 _ hB2 hR2 HP.out).mono ?_); rintro e w6 ⟨rfl, hR6, hb6, hk6⟩; have HR6 := Aside0.mk hR6; have HB6 := Aside0.mk hb6; have HK6 := Aside0.mk hk6; clear hR6 hb6 hk6 hB2 hR2))
          have hk2 := ((((HK.out.setCell (p := ⟨g, x5.toNat * 4, none⟩) HMg.out (.int .i64 x1)).below HB5.out).setCell (p := ⟨g, x5.toNat * 4 + 1, none⟩) HMg.out (.string t)).setCell (p := ⟨g, x5.toNat * 4 + 2, none⟩) HMg.out (.int .i64 (wrap64 (wrap64 (x1 + 1) + 1))))
          have h6 := Kd.H_step (Kd.H_widen HH4.out) (fun k hok hno hlt => HK6.out.2 k hlt (fun ho => hno (.inl ho)))
          have hM := k50_mkM w6 w0.heap.size _ (⟨x1, t, wrap64 (wrap64 (x1 + 1) + 1), p2⟩ : S50) HR6.out
          have hS6 := Kd.H_back h6 hM (fun k hk => hk.elim .inl (fun h => .inr ⟨.inr (Nat.le_trans hk2.1 h), h⟩))
          have HS6 := Aside0.mk hS6
          have HKW := Aside0.mk (hk2.then_ HK6.out (fun k hk => (HOKI.out k hk).1))
          clear hk2 h6 hM hS6
          go_roundg k1
          case measure => have := HK1.out; omega
          case rel => exact ⟨_, p1, wrap64 (x5 + 1), rfl, rfl, HN, ⟨by have := HK1.out; omega⟩, HS6, HKW, HB6⟩
        · rw [if_neg c4] at H
          cases H
      · rw [if_neg c3] at H
        have c3b : decide (x5 < (x0.length : Int)) = false := decide_eq_false c3
        cases H
        clear c3
        go_wp2
        go_ret
        exact ⟨rfl, HO.out, HB.out, HK.out⟩

/-! ### laws_markTree: function 10 -/
def laws_markTree.f (k : Nat) (l0_0 : List S50) (l0_1 : List Int) (a1 : Int) : Option (Int × List S50 × List Int) :=
  (laws_markNodeS.f k l0_0 a1).bind fun p => (laws_markIntS.f k l0_1 p.1).bind fun q => some (q.1, p.2, q.2)
theorem laws_markTree.mono : ∀ a0 a1 a2 k, LeO (laws_markTree.f k a0 a1 a2) (laws_markTree.f (k + 1) a0 a1 a2) := by
  intro a0 a1 a2 k
  unfold laws_markTree.f
  exact LeO.bind (laws_markNodeS.mono _ _ _) (fun _ => LeO.bind (laws_markIntS.mono _ _ _) (fun _ => LeO.refl _))
theorem mtx0 (w : World) (u v : Value) : (w.alloc (.cells #[u, v] 30)).cell? ⟨w.heap.size, 0, none⟩ = some u := by simp
theorem mtx1 (w : World) (u v : Value) : (w.alloc (.cells #[u, v] 30)).cell? ⟨w.heap.size, 1, none⟩ = some v := by simp
theorem mtKeep {w w' : World} {S : Nat → Prop} (hk : Kept w w' S) {b o : Nat} {v : Value} (hc : w.cell? ⟨b, o, none⟩ = some v) (hn : ¬ S b) : w'.cell? ⟨b, o, none⟩ = some v := by
  have h := hk.2 b (World.block_lt_of_cell? w _ hc) hn
  rw [← hc]
  unfold World.cell?
  rw [h]
set_option maxHeartbeats 8000000 in
set_option maxRecDepth 100000 in
theorem laws_markTree.calls (k : Nat) (P0_0_ : Nat → Prop) (u9000_ : Value) (l0_0 : List S50) (P0_1_ : Nat → Prop) (u9001_ : Value) (l0_1 : List Int) (a1 : Int) (r1 : Int) (r2 : List S50) (r3 : List Int) (w0 w : World) (hB : Below w0.heap.size w0 w) (ho0_0 : Kd.S k50 50 w w0.heap.size P0_0_ u9000_ l0_0) (hp0_0_0_1 : ∀ k_, P0_0_ k_ → ¬ P0_1_ k_) (ho0_1 : Kd.R (Kd.int .i64) 3 w w0.heap.size P0_1_ u9001_ l0_1) (hp0_1_0_0 : ∀ k_, P0_1_ k_ → ¬ P0_0_ k_) (h : laws_markTree.f k l0_0 l0_1 a1 = some (r1, r2, r3)) :
    Calls Try.prog 10 #[.agg #[u9000_, u9001_], .int .i64 a1] w fun e w' => e = .returned (.int .i64 r1) ∧ Kd.S k50 50 w' w0.heap.size (fun k_ => ((P0_0_ k_ ∨ P0_1_ k_) ∨ w.heap.size ≤ k_)) u9000_ r2 ∧ Kd.R (Kd.int .i64) 3 w' w0.heap.size (fun k_ => ((P0_0_ k_ ∨ P0_1_ k_) ∨ w.heap.size ≤ k_)) u9001_ r3 ∧ Below w0.heap.size w0 w' ∧ Kept w w' (fun k_ => P0_0_ k_ ∨ P0_1_ k_) := by
  have hu59 := Try.underlying30
  unfold laws_markTree.f at h
  obtain ⟨⟨p1, p2⟩, hp, h⟩ := Option.bind_eq_some_iff.mp h
  obtain ⟨⟨q1, q2⟩, hq, h⟩ := Option.bind_eq_some_iff.mp h
  dsimp only at hq h
  cases h
  obtain ⟨A0, c0, e0⟩ := Kd.S_slice ho0_0
  subst e0
  obtain ⟨A1, c1, e1⟩ := Kd.R_slice ho0_1
  subst e1
  have HP := Aside0.mk hp
  have HQ := Aside0.mk hq
  have hbx : Below w.heap.size w (w.alloc (.cells #[.slice A0 l0_0.length c0, .slice A1 l0_1.length c1] 30)) := below_alloc (Below.refl _ _) _
  have HBX := Aside0.mk hbx
  have HSZ := Aside0.mk (show (w.alloc (.cells #[.slice A0 l0_0.length c0, .slice A1 l0_1.length c1] 30)).heap.size = w.heap.size + 1 from World.size_alloc ..)
  have HS := Aside0.mk (Kd.S_below (Kd.S_mono (ok' := fun k => P0_0_ k ∧ k < w.heap.size) (Kd.S_bound ho0_0) (fun k hk => ⟨hk.1, hk.2.2.1⟩)) hbx)
  have HR := Aside0.mk (Kd.R_below (Kd.R_mono (ok' := fun k => P0_1_ k ∧ k < w.heap.size) (Kd.R_bound ho0_1) (fun k hk => ⟨hk.1, hk.2.2.1⟩)) hbx)
  have HB := Aside0.mk (below_step hB hbx)
  have HN1 := Aside0.mk hp0_0_0_1
  have HN2 := Aside0.mk hp0_1_0_0
  have hb0 := mtx0 w (.slice A0 l0_0.length c0) (.slice A1 l0_1.length c1)
  have hb1 := mtx1 w (.slice A0 l0_0.length c0) (.slice A1 l0_1.length c1)
  clear hp hq ho0_0 ho0_1 hbx hp0_0_0_1 hp0_1_0_0 hB
  go_enter Try.func10, Try.ntmps10
  go_wp2_with (first
    | (go_at_call 21; (with_reducible refine (laws_markNodeS.calls k _ _ l0_0 a1 p1 r2 w0 _ HB.out HS.out HP.out).mono ?_); rintro e w5 ⟨rfl, hS5, hb5, hk5⟩;
        have hc1 := mtKeep hk5 hb1 (fun hk => Nat.lt_irrefl _ hk.2);
        have HR5 := Aside0.mk (Kd.R_kept HR.out hk5 (fun k hk hs => HN2.out k hk.1 hs.1));
        have HS5 := Aside0.mk hS5; have HB5 := Aside0.mk hb5; have HK5 := Aside0.mk hk5; clear hS5 hb5 hk5 hb0 hb1)
    | (go_at_call 11; (with_reducible refine (laws_markIntS.calls k _ _ l0_1 p1 r1 r3 w0 _ HB5.out HR5.out HQ.out).mono ?_); rintro e w6 ⟨rfl, hR6, hb6, hk6⟩; have HR6 := Aside0.mk hR6; have HB6 := Aside0.mk hb6; have HK6 := Aside0.mk hk6; clear hR6 hb6 hk6))
  go_ret
  have hz := HSZ.out
  refine ⟨rfl, ?_, ?_, HB6.out, ?_⟩
  · refine Kd.S_mono (Kd.S_step HS5.out (fun k hk hlt => HK6.out.2 k hlt (fun h1 => ?_))) (fun k hk => ?_)
    · rcases hk with hk | hk
      · exact HN1.out k hk.1 h1.1
      · have := h1.2; omega
    · rcases hk with hk | hk
      · exact .inl (.inl hk.1)
      · exact .inr (by omega)
  · refine Kd.R_mono HR6.out (fun k hk => ?_)
    rcases hk with hk | hk
    · exact .inl (.inr hk.1)
    · exact .inr (by have := HK5.out.1; omega)
  · refine ((Kept.of_below HBX.out _).then_ HK5.out (fun k hk => .inl (.inl hk.1))).then_ HK6.out (fun k hk => .inl (.inr hk.1))

/-! ### laws_heldIntS: function 12 -/
def laws_heldIntS.l0 : Nat → List Int → Int → Int → Option (Int)
  | 0, _, _, _ => none
  | k + 1, x0, x1, x5 => if x5 < (x0.length : Int) then (if 0 ≤ x5 then (if (rd x0 x5) = x1 then (laws_heldIntS.l0 k x0 (wrap64 (x1 + 1)) (wrap64 (x5 + 1))) else (none)) else (none)) else (some x1)
def laws_heldIntS.f (k : Nat) (l0 : List Int) (a1 : Int) : Option (Int) := laws_heldIntS.l0 k l0 a1 0
theorem laws_heldIntS.mono_l : ∀ k, (∀ y0 y1 y2, LeO (laws_heldIntS.l0 k y0 y1 y2) (laws_heldIntS.l0 (k + 1) y0 y1 y2))
  | 0 => fun _ _ _ r h => by simp [laws_heldIntS.l0] at h
  | k + 1 => by
    have ih0 := laws_heldIntS.mono_l k
    · intro y0 y1 y2
      unfold laws_heldIntS.l0
      repeat' first
      | (with_reducible exact ih0 _ _ _)
      | (with_reducible exact LeO.refl _)
      | (with_reducible exact LeO.none _)
      | (with_reducible refine LeO.ite ?_ ?_)
      | (with_reducible refine LeO.bind ?_ (fun _ => ?_))
      | exact ih0 _ _ _
      | exact LeO.none _
      | refine LeO.ite ?_ ?_
      | refine LeO.bind ?_ (fun _ => ?_)
theorem laws_heldIntS.mono : ∀ a0 a1 k, LeO (laws_heldIntS.f k a0 a1) (laws_heldIntS.f (k + 1) a0 a1) := by
  intro a0 a1 k
  have ih0 := laws_heldIntS.mono_l k
  unfold laws_heldIntS.f
  repeat' first
      | (with_reducible exact ih0 _ _ _)
      | (with_reducible exact LeO.refl _)
      | (with_reducible exact LeO.none _)
      | (with_reducible refine LeO.ite ?_ ?_)
      | (with_reducible refine LeO.bind ?_ (fun _ => ?_))
      | exact ih0 _ _ _
      | exact LeO.none _
      | refine LeO.ite ?_ ?_
      | refine LeO.bind ?_ (fun _ => ?_)
set_option maxHeartbeats 8000000 in
set_option maxRecDepth 100000 in
theorem laws_heldIntS.calls (k : Nat) (A0 : Option Addr) (c0 : Nat) (l0 : List Int) (a1 : Int) (r : Int) (w : World) (hr0 : Kd.C (Kd.int .i64) w A0 l0.length l0) (hc0 : l0.length ≤ c0) (h : laws_heldIntS.f k l0 a1 = some r) :
    Calls Try.prog 12 #[.slice A0 l0.length c0, .int .i64 a1] w fun e w' => e = .returned (.int .i64 r) ∧ Drawn0 w w' := by
  have HR0 := Aside0.mk hr0
  have HC0 := Aside0.mk hc0
  clear hr0 hc0
  have H : (laws_heldIntS.l0 k l0 a1 0) = some r := h
  clear h
  have H' := Aside0.mk H
  clear H
  go_enter Try.func12, Try.ntmps12
  go_wp2
  go_loopg [1, 5] k (fun kq v1 v5 w' => ∃ (x1_1 : Int) (x5_1 : Int), v1 = .int .i64 x1_1 ∧ v5 = .int .i64 x5_1 ∧ Aside0 (laws_heldIntS.l0 kq l0 x1_1 x5_1 = some r) ∧ Aside0 (kq ≤ k) ∧ Drawn0 w w')
  case atStart => exact ⟨(a1), (0), (by first | rfl | (simp; done) | (simp [*]; done)), (by first | rfl | (simp; done) | (simp [*]; done)), H', ⟨Nat.le_refl _⟩, by repeat (first | exact Drawn0.refl _ | apply Drawn0.step)⟩
  case round =>
    clear H'
    try clear c1
    try clear p2
    obtain ⟨x1_1, x5_1, rfl, rfl, HA, HK1, ⟨m1, rfl⟩⟩ := hrel
    cases gk with
    | zero => exact absurd HA.out (by simp [laws_heldIntS.l0])
    | succ k1 =>
      have H := HA.out
      clear HA
      simp only [laws_heldIntS.l0] at H
      by_cases c3 : x5_1 < (l0.length : Int)
      · rw [if_pos c3] at H
        have c3b0 : decide (x5_1 < (l0.length : Int)) = true := decide_eq_true c3
        clear c3
        by_cases c4 : 0 ≤ x5_1
        · rw [if_pos c4] at H
          have c4b0 : decide (0 ≤ x5_1) = true := decide_eq_true c4
          clear c4
          by_cases c5 : (rd l0 x5_1) = x1_1
          · rw [if_pos c5] at H
            have c5b0 : ((rd l0 x5_1) == x1_1) = true := beq_iff_eq.mpr c5
            have c5b1 : ((rd l0 x5_1) != x1_1) = false := bne_eq_false_iff_eq.mpr c5
            clear c5
            have H' := Aside0.mk H
            clear H
            have p311 : 0 ≤ (x5_1 : Int) := of_decide_eq_true (by first | (with_reducible assumption) | assumption)
            have q311 : x5_1 < (l0.length : Int) := of_decide_eq_true (by first | (with_reducible assumption) | assumption)
            obtain ⟨ad311, e311, hx311_0⟩ := Kd.at_int HR0.out x5_1 p311 q311
            cases e311
            replace p311 := eq_true p311
            replace q311 := eq_true q311
            go_wp2
            go_roundg k1
            case measure => have := HK1.out; omega
            case rel => exact ⟨(wrap64 (x1_1 + 1)), (wrap64 (x5_1 + 1)), (by first | rfl | (simp; done) | (simp [*]; done)), (by first | rfl | (simp; done) | (simp [*]; done)), H', ⟨by have := HK1.out; omega⟩, by repeat (first | exact Drawn0.refl _ | apply Drawn0.step)⟩
          · rw [if_neg c5] at H
            exact absurd H (by simp)
        · rw [if_neg c4] at H
          exact absurd H (by simp)
      · rw [if_neg c3] at H
        have c3b0 : decide (x5_1 < (l0.length : Int)) = false := decide_eq_false c3
        clear c3
        obtain rfl := Option.some.inj H
        go_wp2
        go_ret
        exact ⟨by first | rfl | (simp; done) | (simp [*]; done), by repeat (first | exact Drawn0.refl _ | apply Drawn0.step)⟩

/-! ### laws_FnExactSizes: function 3 -/
def laws_FnExactSizes.f (k : Nat) (l0_0 : List (S46)) (l0_1 : List Int) : Option (Bool) := (laws_szTree.f k l0_0 l0_1 1048576).bind fun t313 => (if t313 < 0 then (some true) else ((laws_toTree.f k l0_0 l0_1).bind fun bt314 => ((spec_Sizes.f k bt314.1 bt314.2).bind fun t320 => ((laws_toTree.f k l0_0 l0_1).bind fun bt323 => ((impl_Sizes.f k bt323.1 bt323.2).bind fun t330 => ((laws_eqIntS.f k t330 t320).bind fun t333 => (if t333 = true then ((laws_toTree.f k l0_0 l0_1).bind fun bt334 => ((laws_eqTree.f k bt323.1 bt323.2 bt334.1 bt334.2).bind fun t340 => (if t340 = true then ((laws_markTree.f k bt323.1 bt323.2 1).bind fun bt341 => (if bt341.1 < 0 then (none) else ((laws_eqIntS.f k t330 t320).bind fun t344 => (if t344 = true then ((laws_markIntS.f k t330 1).bind fun bt345 => ((laws_heldIntS.f k bt345.2 1).bind fun t347 => (if t347 < 0 then (none) else (if t347 = bt345.1 then ((laws_toTree.f k l0_0 l0_1).bind fun bt348 => ((impl_Sizes.f k bt348.1 bt348.2).bind fun t354 => ((laws_eqIntS.f k t354 t320).bind fun t357 => (if t357 = true then ((laws_heldIntS.f k bt345.2 1).bind fun t358 => (if t358 < 0 then (none) else (if t358 = bt345.1 then (some true) else (none)))) else (none))))) else (none))))) else (none))))) else (none)))) else (none))))))))
theorem laws_FnExactSizes.mono : ∀ a0 a1 k, LeO (laws_FnExactSizes.f k a0 a1) (laws_FnExactSizes.f (k + 1) a0 a1) := by
 intro a0 a1 k
 unfold laws_FnExactSizes.f
 repeat' first
   | (with_reducible exact impl_Sizes.mono _ _ _)
   | (with_reducible exact laws_eqIntS.mono _ _ _)
   | (with_reducible exact laws_eqTree.mono _ _ _ _ _)
   | (with_reducible exact laws_heldIntS.mono _ _ _)
   | (with_reducible exact laws_markIntS.mono _ _ _)
   | (with_reducible exact laws_markTree.mono _ _ _ _)
   | (with_reducible exact laws_szTree.mono _ _ _ _)
   | (with_reducible exact laws_toTree.mono _ _ _)
   | (with_reducible exact spec_Sizes.mono _ _ _)
   | (with_reducible exact LeO.refl _)
   | (with_reducible exact LeO.none _)
   | (with_reducible refine LeO.ite ?_ ?_)
   | (with_reducible refine LeO.bind ?_ (fun _ => ?_))
   | exact impl_Sizes.mono _ _ _
   | exact laws_eqIntS.mono _ _ _
   | exact laws_eqTree.mono _ _ _ _ _
   | exact laws_heldIntS.mono _ _ _
   | exact laws_markIntS.mono _ _ _
   | exact laws_markTree.mono _ _ _ _
   | exact laws_szTree.mono _ _ _ _
   | exact laws_toTree.mono _ _ _
   | exact spec_Sizes.mono _ _ _
   | exact LeO.none _
   | refine LeO.ite ?_ ?_
   | refine LeO.bind ?_ (fun _ => ?_)
set_option maxHeartbeats 8000000 in
set_option maxRecDepth 100000 in
theorem laws_FnExactSizes.calls (k : Nat) (A0_0 : Option Addr) (c0_0 : Nat) (l0_0 : List (S46)) (A0_1 : Option Addr) (c0_1 : Nat) (l0_1 : List Int) (r : Bool) (w : World) (hr0_0 : Kd.C k46 w A0_0 l0_0.length l0_0) (hc0_0 : l0_0.length ≤ c0_0) (hr0_1 : Kd.C (Kd.int .i64) w A0_1 l0_1.length l0_1) (hc0_1 : l0_1.length ≤ c0_1) (h : laws_FnExactSizes.f k l0_0 l0_1 = some r) :
  Calls Try.prog 3 #[.agg #[.slice A0_0 l0_0.length c0_0, .slice A0_1 l0_1.length c0_1]] w fun e w' => e = .returned (.bool r) ∧ Below w.heap.size w w' := by
 have hu25 := Try.underlying25
 have hu30 := Try.underlying30
 have HR0_0 := Aside0.mk hr0_0
 have HC0_0 := Aside0.mk hc0_0
 clear hr0_0 hc0_0
 have HR0_1 := Aside0.mk hr0_1
 have HC0_1 := Aside0.mk hc0_1
 clear hr0_1 hc0_1
 have HB := Aside0.mk (Below.refl w.heap.size w)
 have H : ((laws_szTree.f k l0_0 l0_1 1048576).bind fun t313 => (if t313 < 0 then (some true) else ((laws_toTree.f k l0_0 l0_1).bind fun bt314 => ((spec_Sizes.f k bt314.1 bt314.2).bind fun t320 => ((laws_toTree.f k l0_0 l0_1).bind fun bt323 => ((impl_Sizes.f k bt323.1 bt323.2).bind fun t330 => ((laws_eqIntS.f k t330 t320).bind fun t333 => (if t333 = true then ((laws_toTree.f k l0_0 l0_1).bind fun bt334 => ((laws_eqTree.f k bt323.1 bt323.2 bt334.1 bt334.2).bind fun t340 => (if t340 = true then ((laws_markTree.f k bt323.1 bt323.2 1).bind fun bt341 => (if bt341.1 < 0 then (none) else ((laws_eqIntS.f k t330 t320).bind fun t344 => (if t344 = true then ((laws_markIntS.f k t330 1).bind fun bt345 => ((laws_heldIntS.f k bt345.2 1).bind fun t347 => (if t347 < 0 then (none) else (if t347 = bt345.1 then ((laws_toTree.f k l0_0 l0_1).bind fun bt348 => ((impl_Sizes.f k bt348.1 bt348.2).bind fun t354 => ((laws_eqIntS.f k t354 t320).bind fun t357 => (if t357 = true then ((laws_heldIntS.f k bt345.2 1).bind fun t358 => (if t358 < 0 then (none) else (if t358 = bt345.1 then (some true) else (none)))) else (none))))) else (none))))) else (none))))) else (none)))) else (none))))))))) = some r := h
 clear h
 replace H := Option.bind_eq_some_iff.mp H
 obtain ⟨t313, A20, H⟩ := H
 (try dsimp only at H)
 have A2 := Aside0.mk A20
 clear A20
 by_cases c3 : t313 < 0
 ·rw [if_pos c3] at H
  have c3b0 : decide (t313 < 0) = true := decide_eq_true c3
  clear c3
  obtain rfl := Option.some.inj H
  go_enter Try.func3, Try.ntmps3
  go_wp2_with (first | ((with_reducible refine gate_dst (N := 1) rfl ?_); refine box_event ?hg (N := 1) ?hd (cs := #[.slice A0_0 l0_0.length c0_0, .slice A0_1 l0_1.length c0_1]) (t := 25) ?hr ?_; (case hd => rfl); (case hg => rfl); (case hr => first | (go_simp; done) | (go_simp; rfl)); intro gb312 hg w4 hbox hb; have n0_ := Aside0.mk (below_step (bS HB.out) hb); have BK312 := Aside0.mk (hbox); have GW312 := Aside0.mk ((by rw [hg]; exact (below_size (bS HB.out)) : w.heap.size ≤ gb312)); have GE312 := Aside0.mk ((by rw [hg]; exact (below_size (bS HB.out)) : w.heap.size ≤ gb312)); clear HB; have HB := n0_; clear n0_; clear hb hbox hg; have hcz5_0 : w4.cell? ⟨gb312, 0, none⟩ = some (.slice A0_0 l0_0.length c0_0) := kC BK312.out 0 rfl; have hcz5_1 : w4.cell? ⟨gb312, 1, none⟩ = some (.slice A0_1 l0_1.length c0_1) := kC BK312.out 1 rfl; have hfz5_0 := blk_frozen BK312.out 0; have hfz5_1 := blk_frozen BK312.out 1) | ((with_reducible refine gate_callee (f := 4) rfl ?_); refine goesL_ (some 13) rfl rfl Try.func4 (by kernel_rfl) rfl #[.agg #[.slice A0_0 l0_0.length c0_0, .slice A0_1 l0_1.length c0_1], .int .i64 1048576] rfl (by (try simp only [List.map_toArray, List.map_cons, List.map_nil]); first | done | rfl | (simp only [List.length_drop, List.length_take]; rfl)) ?_; (with_reducible refine (laws_szTree.calls k _ _ l0_0 _ _ l0_1 1048576 t313 _ ?side1 ?side2 ?side3 ?side4 A2.out).mono ?_); (case side1 => exact cS (Kd.C_below HR0_0.out HB.out)); (case side2 => exact HC0_0.out); (case side3 => exact cS (Kd.C_below HR0_1.out HB.out)); (case side4 => exact HC0_1.out); rintro e w6 ⟨rfl, hb⟩; refine ⟨_, rfl, ?_⟩; replace BK312 := Aside0.mk (kS BK312.out hb); replace HB := Aside0.mk (below_step (by repeat (first | (with_reducible first | exact HB.out | apply below_alloc | apply pw_below_drewN | apply below_drew1 | refine below_set ?_ GE312.out) | exact HB.out)) hb); (try clear hb); (try clear hb2); (try clear hk); (try clear hi)))
  go_ret
  exact ⟨by first | rfl | (simp [errW_none, errW_some] <;> rfl) | (simp [*, errW_none, errW_some] <;> rfl), by repeat (first | (with_reducible first | exact HB.out | apply below_alloc | apply pw_below_drewN | apply below_drew1 | refine below_set ?_ GE312.out) | exact HB.out)⟩
 ·rw [if_neg c3] at H
  have c3b0 : decide (t313 < 0) = false := decide_eq_false c3
  clear c3
  replace H := Option.bind_eq_some_iff.mp H
  obtain ⟨⟨t314, t317⟩, A70, H⟩ := H
  (try dsimp only at H)
  have A7 := Aside0.mk A70
  clear A70
  replace H := Option.bind_eq_some_iff.mp H
  obtain ⟨t320, A80, H⟩ := H
  (try dsimp only at H)
  have A8 := Aside0.mk A80
  clear A80
  replace H := Option.bind_eq_some_iff.mp H
  obtain ⟨⟨t323, t326⟩, A90, H⟩ := H
  (try dsimp only at H)
  have A9 := Aside0.mk A90
  clear A90
  replace H := Option.bind_eq_some_iff.mp H
  obtain ⟨t330, A100, H⟩ := H
  (try dsimp only at H)
  have A10 := Aside0.mk A100
  clear A100
  replace H := Option.bind_eq_some_iff.mp H
  obtain ⟨t333, A110, H⟩ := H
  (try dsimp only at H)
  have A11 := Aside0.mk A110
  clear A110
  by_cases c12 : t333 = true
  ·subst c12
   have H1 : ((laws_toTree.f k l0_0 l0_1).bind fun bt334 => ((laws_eqTree.f k t323 t326 bt334.1 bt334.2).bind fun t340 => (if t340 = true then ((laws_markTree.f k t323 t326 1).bind fun bt341 => (if bt341.1 < 0 then (none) else ((laws_eqIntS.f k t330 t320).bind fun t344 => (if t344 = true then ((laws_markIntS.f k t330 1).bind fun bt345 => ((laws_heldIntS.f k bt345.2 1).bind fun t347 => (if t347 < 0 then (none) else (if t347 = bt345.1 then ((laws_toTree.f k l0_0 l0_1).bind fun bt348 => ((impl_Sizes.f k bt348.1 bt348.2).bind fun t354 => ((laws_eqIntS.f k t354 t320).bind fun t357 => (if t357 = true then ((laws_heldIntS.f k bt345.2 1).bind fun t358 => (if t358 < 0 then (none) else (if t358 = bt345.1 then (some true) else (none)))) else (none))))) else (none))))) else (none))))) else (none)))) = some r := by rw [if_pos rfl] at H; exact H
   clear H
   have H := H1
   clear H1
   replace H := Option.bind_eq_some_iff.mp H
   obtain ⟨⟨t334, t337⟩, A130, H⟩ := H
   (try dsimp only at H)
   have A13 := Aside0.mk A130
   clear A130
   replace H := Option.bind_eq_some_iff.mp H
   obtain ⟨t340, A140, H⟩ := H
   (try dsimp only at H)
   have A14 := Aside0.mk A140
   clear A140
   by_cases c15 : t340 = true
   ·subst c15
    have H1 : ((laws_markTree.f k t323 t326 1).bind fun bt341 => (if bt341.1 < 0 then (none) else ((laws_eqIntS.f k t330 t320).bind fun t344 => (if t344 = true then ((laws_markIntS.f k t330 1).bind fun bt345 => ((laws_heldIntS.f k bt345.2 1).bind fun t347 => (if t347 < 0 then (none) else (if t347 = bt345.1 then ((laws_toTree.f k l0_0 l0_1).bind fun bt348 => ((impl_Sizes.f k bt348.1 bt348.2).bind fun t354 => ((laws_eqIntS.f k t354 t320).bind fun t357 => (if t357 = true then ((laws_heldIntS.f k bt345.2 1).bind fun t358 => (if t358 < 0 then (none) else (if t358 = bt345.1 then (some true) else (none)))) else (none))))) else (none))))) else (none))))) = some r := by rw [if_pos rfl] at H; exact H
    clear H
    have H := H1
    clear H1
    replace H := Option.bind_eq_some_iff.mp H
    obtain ⟨⟨t341, t342, t343⟩, A160, H⟩ := H
    (try dsimp only at H)
    have A16 := Aside0.mk A160
    clear A160
    by_cases c17 : t341 < 0
    ·rw [if_pos c17] at H
     exact absurd H (by simp)
    ·rw [if_neg c17] at H
     have c17b0 : decide (t341 < 0) = false := decide_eq_false c17
     clear c17
     replace H := Option.bind_eq_some_iff.mp H
     obtain ⟨t344, A180, H⟩ := H
     (try dsimp only at H)
     have A18 := Aside0.mk A180
     clear A180
     by_cases c19 : t344 = true
     ·subst c19
      have H1 : ((laws_markIntS.f k t330 1).bind fun bt345 => ((laws_heldIntS.f k bt345.2 1).bind fun t347 => (if t347 < 0 then (none) else (if t347 = bt345.1 then ((laws_toTree.f k l0_0 l0_1).bind fun bt348 => ((impl_Sizes.f k bt348.1 bt348.2).bind fun t354 => ((laws_eqIntS.f k t354 t320).bind fun t357 => (if t357 = true then ((laws_heldIntS.f k bt345.2 1).bind fun t358 => (if t358 < 0 then (none) else (if t358 = bt345.1 then (some true) else (none)))) else (none))))) else (none))))) = some r := by rw [if_pos rfl] at H; exact H
      clear H
      have H := H1
      clear H1
      replace H := Option.bind_eq_some_iff.mp H
      obtain ⟨⟨t345, t346⟩, A200, H⟩ := H
      (try dsimp only at H)
      have A20 := Aside0.mk A200
      clear A200
      replace H := Option.bind_eq_some_iff.mp H
      obtain ⟨t347, A210, H⟩ := H
      (try dsimp only at H)
      have A21 := Aside0.mk A210
      clear A210
      by_cases c22 : t347 < 0
      ·rw [if_pos c22] at H
       exact absurd H (by simp)
      ·rw [if_neg c22] at H
       have c22b0 : decide (t347 < 0) = false := decide_eq_false c22
       clear c22
       by_cases c23 : t347 = t345
       ·rw [if_pos c23] at H
        have c23b0 : (t347 == t345) = true := beq_iff_eq.mpr c23
        have c23b1 : (t347 != t345) = false := bne_eq_false_iff_eq.mpr c23
        clear c23
        replace H := Option.bind_eq_some_iff.mp H
        obtain ⟨⟨t348, t351⟩, A240, H⟩ := H
        (try dsimp only at H)
        have A24 := Aside0.mk A240
        clear A240
        replace H := Option.bind_eq_some_iff.mp H
        obtain ⟨t354, A250, H⟩ := H
        (try dsimp only at H)
        have A25 := Aside0.mk A250
        clear A250
        replace H := Option.bind_eq_some_iff.mp H
        obtain ⟨t357, A260, H⟩ := H
        (try dsimp only at H)
        have A26 := Aside0.mk A260
        clear A260
        by_cases c27 : t357 = true
        ·subst c27
         have H1 : ((laws_heldIntS.f k t346 1).bind fun t358 => (if t358 < 0 then (none) else (if t358 = t345 then (some true) else (none)))) = some r := by rw [if_pos rfl] at H; exact H
         clear H
         have H := H1
         clear H1
         replace H := Option.bind_eq_some_iff.mp H
         obtain ⟨t358, A280, H⟩ := H
         (try dsimp only at H)
         have A28 := Aside0.mk A280
         clear A280
         by_cases c29 : t358 < 0
         ·rw [if_pos c29] at H
          exact absurd H (by simp)
         ·rw [if_neg c29] at H
          have c29b0 : decide (t358 < 0) = false := decide_eq_false c29
          clear c29
          by_cases c30 : t358 = t345
          ·rw [if_pos c30] at H
           have c30b0 : (t358 == t345) = true := beq_iff_eq.mpr c30
           have c30b1 : (t358 != t345) = false := bne_eq_false_iff_eq.mpr c30
           clear c30
           obtain rfl := Option.some.inj H
           go_enter Try.func3, Try.ntmps3
           try go_wp2_with (first | ((with_reducible refine gate_dst (N := 1) rfl ?_); refine box_event ?hg (N := 1) ?hd (cs := #[.slice A0_0 l0_0.length c0_0, .slice A0_1 l0_1.length c0_1]) (t := 25) ?hr ?_; (case hd => rfl); (case hg => rfl); (case hr => first | (go_simp; done) | (go_simp; rfl)); intro gb312 hg w31 hbox hb; have n0_ := Aside0.mk (below_step (bS HB.out) hb); have BK312 := Aside0.mk (hbox); have GW312 := Aside0.mk ((by rw [hg]; exact (below_size (bS HB.out)) : w.heap.size ≤ gb312)); have GE312 := Aside0.mk ((by rw [hg]; exact (below_size (bS HB.out)) : w.heap.size ≤ gb312)); clear HB; have HB := n0_; clear n0_; clear hb hbox hg; have hcz32_0 : w31.cell? ⟨gb312, 0, none⟩ = some (.slice A0_0 l0_0.length c0_0) := kC BK312.out 0 rfl; have hcz32_1 : w31.cell? ⟨gb312, 1, none⟩ = some (.slice A0_1 l0_1.length c0_1) := kC BK312.out 1 rfl; have hfz32_0 := blk_frozen BK312.out 0; have hfz32_1 := blk_frozen BK312.out 1) | ((with_reducible refine gate_callee (f := 4) rfl ?_); refine goesL_ (some 13) rfl rfl Try.func4 (by kernel_rfl) rfl #[.agg #[.slice A0_0 l0_0.length c0_0, .slice A0_1 l0_1.length c0_1], .int .i64 1048576] rfl (by (try simp only [List.map_toArray, List.map_cons, List.map_nil]); first | done | rfl | (simp only [List.length_drop, List.length_take]; rfl)) ?_; (with_reducible refine (laws_szTree.calls k _ _ l0_0 _ _ l0_1 1048576 t313 _ ?side1 ?side2 ?side3 ?side4 A2.out).mono ?_); (case side1 => exact cS (Kd.C_below HR0_0.out HB.out)); (case side2 => exact HC0_0.out); (case side3 => exact cS (Kd.C_below HR0_1.out HB.out)); (case side4 => exact HC0_1.out); rintro e w33 ⟨rfl, hb⟩; refine ⟨_, rfl, ?_⟩; replace BK312 := Aside0.mk (kS BK312.out hb); replace HB := Aside0.mk (below_step (by repeat (first | (with_reducible first | exact HB.out | apply below_alloc | apply pw_below_drewN | apply below_drew1 | refine below_set ?_ GE312.out) | exact HB.out)) hb); (try clear hb); (try clear hb2); (try clear hk); (try clear hi); have hcz34_0 : w33.cell? ⟨gb312, 0, none⟩ = some (.slice A0_0 l0_0.length c0_0) := kC BK312.out 0 rfl; have hcz34_1 : w33.cell? ⟨gb312, 1, none⟩ = some (.slice A0_1 l0_1.length c0_1) := kC BK312.out 1 rfl; have hfz34_0 := blk_frozen BK312.out 0; have hfz34_1 := blk_frozen BK312.out 1) | ((with_reducible refine gate_callee (f := 6) rfl ?_); refine goesL_ (some 17) rfl rfl Try.func6 (by kernel_rfl) rfl #[.agg #[.slice A0_0 l0_0.length c0_0, .slice A0_1 l0_1.length c0_1]] rfl (by (try simp only [List.map_toArray, List.map_cons, List.map_nil]); first | done | rfl | (simp only [List.length_drop, List.length_take]; rfl)) ?_; (with_reducible refine (laws_toTree.calls k _ _ l0_0 _ _ l0_1 t314 t317 _ ?side1 ?side2 ?side3 ?side4 A7.out).mono ?_); (case side1 => exact cS (Kd.C_below HR0_0.out HB.out)); (case side2 => exact HC0_0.out); (case side3 => exact cS (Kd.C_below HR0_1.out HB.out)); (case side4 => exact HC0_1.out); rintro e w35 ⟨v315, v318, rfl, ho0, ho1, hb⟩; refine ⟨_, rfl, ?_⟩; have HO316 := Aside0.mk (Kd.S_lower ho0 (below_size (by repeat (first | (with_reducible first | exact HB.out | apply below_alloc | apply pw_below_drewN | apply below_drew1 | refine below_set ?_ GE312.out) | exact HB.out)))); have HO319 := Aside0.mk (Kd.R_lower ho1 (below_size (by repeat (first | (with_reducible first | exact HB.out | apply below_alloc | apply pw_below_drewN | apply below_drew1 | refine below_set ?_ GE312.out) | exact HB.out)))); replace BK312 := Aside0.mk (kS BK312.out hb); replace HB := Aside0.mk (below_step (by repeat (first | (with_reducible first | exact HB.out | apply below_alloc | apply pw_below_drewN | apply below_drew1 | refine below_set ?_ GE312.out) | exact HB.out)) hb); (try clear hb); (try clear hb2); (try clear hk); (try clear hi); (try clear ho0); (try clear ho1); obtain ⟨Ao36, co36, eo36⟩ := Kd.S_slice HO316.out; subst eo36; obtain ⟨Ao37, co37, eo37⟩ := Kd.R_slice HO319.out; subst eo37) | ((with_reducible refine gate_callee (f := 5) rfl ?_); refine goesL_ (some 18) rfl rfl Try.func5 (by kernel_rfl) rfl #[.agg #[.slice Ao36 t314.length co36, .slice Ao37 t317.length co37]] rfl (by (try simp only [List.map_toArray, List.map_cons, List.map_nil]); first | done | rfl | (simp only [List.length_drop, List.length_take]; rfl)) ?_; (with_reducible refine (spec_Sizes.calls k _ _ t314 _ _ t317 t320 _ ?side1 ?side2 ?side3 ?side4 A8.out).mono ?_); (case side1 => repeat (first | exact (Kd.S_reads' HO316.out).2.2 | (with_reducible refine Kd.C_alloc ?_ _) | (with_reducible refine Kd.C_drewN ?_ _) | (with_reducible refine Kd.C_drew ?_))); (case side2 => exact (Kd.S_reads' HO316.out).2.1); (case side3 => exact cS (Kd.R_reads' HO319.out).2.2); (case side4 => exact (Kd.R_reads' HO319.out).2.1); rintro e w38 ⟨v321, rfl, ho0, hb⟩; refine ⟨_, rfl, ?_⟩; replace HO316 := Aside0.mk (Kd.S_elder' (by (with_reducible repeat (first | apply Kd.S_alloc | apply Kd.S_drewN | apply Kd.S_drew)); exact HO316.out) (Kd.R_base ho0) hb); have n1_ := Aside0.mk (Kd.R_elder' (rS HO319.out) (Kd.R_base ho0) hb); have HO322 := Aside0.mk (Kd.R_lower (Kd.R_new' ho0 (Kd.R_lt (rS HO319.out))) (below_size (by repeat (first | (with_reducible first | exact HB.out | apply below_alloc | apply pw_below_drewN | apply below_drew1 | refine below_set ?_ GE312.out) | exact HB.out)))); replace BK312 := Aside0.mk (kS BK312.out hb); replace HB := Aside0.mk (below_step (by repeat (first | (with_reducible first | exact HB.out | apply below_alloc | apply pw_below_drewN | apply below_drew1 | refine below_set ?_ GE312.out) | exact HB.out)) hb); clear HO319; have HO319 := n1_; clear n1_; (try clear hb); (try clear hb2); (try clear hk); (try clear hi); (try clear ho0); have hcz39_0 : w38.cell? ⟨gb312, 0, none⟩ = some (.slice A0_0 l0_0.length c0_0) := kC BK312.out 0 rfl; have hcz39_1 : w38.cell? ⟨gb312, 1, none⟩ = some (.slice A0_1 l0_1.length c0_1) := kC BK312.out 1 rfl; have hfz39_0 := blk_frozen BK312.out 0; have hfz39_1 := blk_frozen BK312.out 1) | ((with_reducible refine gate_callee (f := 6) rfl ?_); refine goesL_ (some 20) rfl rfl Try.func6 (by kernel_rfl) rfl #[.agg #[.slice A0_0 l0_0.length c0_0, .slice A0_1 l0_1.length c0_1]] rfl (by (try simp only [List.map_toArray, List.map_cons, List.map_nil]); first | done | rfl | (simp only [List.length_drop, List.length_take]; rfl)) ?_; (with_reducible refine (laws_toTree.calls k _ _ l0_0 _ _ l0_1 t323 t326 _ ?side1 ?side2 ?side3 ?side4 A9.out).mono ?_); (case side1 => exact cS (Kd.C_below HR0_0.out HB.out)); (case side2 => exact HC0_0.out); (case side3 => exact cS (Kd.C_below HR0_1.out HB.out)); (case side4 => exact HC0_1.out); rintro e w40 ⟨v324, v327, rfl, ho0, ho1, hb⟩; refine ⟨_, rfl, ?_⟩; have n0_ := Aside0.mk (Kd.R_elder' (rS HO322.out) (Kd.R_base ho1) hb); have HO325 := Aside0.mk (Kd.S_lower (Kd.S_new' ho0 (Kd.R_lt (rS HO322.out))) (below_size (by repeat (first | (with_reducible first | exact HB.out | apply below_alloc | apply pw_below_drewN | apply below_drew1 | refine below_set ?_ GE312.out) | exact HB.out)))); have HO328 := Aside0.mk (Kd.R_lower (Kd.R_new' ho1 (Kd.R_lt (rS HO322.out))) (below_size (by repeat (first | (with_reducible first | exact HB.out | apply below_alloc | apply pw_below_drewN | apply below_drew1 | refine below_set ?_ GE312.out) | exact HB.out)))); replace BK312 := Aside0.mk (kS BK312.out hb); replace HB := Aside0.mk (below_step (by repeat (first | (with_reducible first | exact HB.out | apply below_alloc | apply pw_below_drewN | apply below_drew1 | refine below_set ?_ GE312.out) | exact HB.out)) hb); clear HO322; have HO322 := n0_; clear n0_; (try clear hb); (try clear hb2); (try clear hk); (try clear hi); (try clear ho0); (try clear ho1)) | ((with_reducible refine gate_dst (N := 5) rfl ?_); refine box_event ?hg (N := 5) ?hd (cs := #[.slice none 0 0, .slice none 0 0]) (t := 30) ?hr ?_; (case hd => rfl); (case hg => rfl); (case hr => first | (go_simp; done) | (go_simp; rfl)); intro gb329 hg w41 hbox hb; replace HO322 := Aside0.mk (Kd.R_below (rS HO322.out) hb); replace HO325 := Aside0.mk (Kd.S_below (by (with_reducible repeat (first | apply Kd.S_alloc | apply Kd.S_drewN | apply Kd.S_drew)); exact HO325.out) hb); replace HO328 := Aside0.mk (Kd.R_below (rS HO328.out) hb); have n3_ := Aside0.mk (kS BK312.out hb); have n4_ := Aside0.mk (below_step (by repeat (first | (with_reducible first | exact HB.out | apply below_alloc | apply pw_below_drewN | apply below_drew1 | refine below_set ?_ GE312.out) | exact HB.out)) hb); have BK329 := Aside0.mk (hbox); have GW329 := Aside0.mk ((by rw [hg]; exact (below_size (by repeat (first | (with_reducible first | exact HB.out | apply below_alloc | apply pw_below_drewN | apply below_drew1 | refine below_set ?_ GE312.out) | exact HB.out))) : w.heap.size ≤ gb329)); have GE329 := Aside0.mk ((by rw [hg]; exact (below_size (by repeat (first | (with_reducible first | exact HB.out | apply below_alloc | apply pw_below_drewN | apply below_drew1 | refine below_set ?_ GE312.out) | exact HB.out))) : w.heap.size ≤ gb329)); have NB312_329 := Aside0.mk ((by rw [hg]; exact Nat.ne_of_lt (blk_lt (g := gb312) (o := .cells #[.slice A0_0 l0_0.length c0_0, .slice A0_1 l0_1.length c0_1] 25 (0, 0)) (by (with_reducible repeat (first | refine blk_drewN ?_ _ | refine blk_drew ?_ | refine blk_alloc ?_ _)); exact BK312.out)) : gb312 ≠ gb329)); have NB329_312 := Aside0.mk ((by rw [hg]; exact Nat.ne_of_gt (blk_lt (g := gb312) (o := .cells #[.slice A0_0 l0_0.length c0_0, .slice A0_1 l0_1.length c0_1] 25 (0, 0)) (by (with_reducible repeat (first | refine blk_drewN ?_ _ | refine blk_drew ?_ | refine blk_alloc ?_ _)); exact BK312.out)) : gb329 ≠ gb312)); clear BK312; clear HB; have BK312 := n3_; have HB := n4_; clear n3_ n4_; clear hb hbox hg; obtain ⟨Ao42, co42, eo42⟩ := Kd.S_slice HO325.out; subst eo42; have hnb43 := NB329_312.out; have hnc43 := NB312_329.out; have hcz44_0 : w41.cell? ⟨gb329, 0, none⟩ = some (.slice none 0 0) := kC BK329.out 0 rfl; have hcz44_1 : w41.cell? ⟨gb329, 1, none⟩ = some (.slice none 0 0) := kC BK329.out 1 rfl; have hfz44_0 := blk_frozen BK329.out 0; have hfz44_1 := blk_frozen BK329.out 1; obtain ⟨Ao45, co45, eo45⟩ := Kd.R_slice HO328.out; subst eo45) | ((with_reducible refine gate_callee (f := 7) rfl ?_); refine goesL_ (some 22) rfl rfl Try.func7 (by kernel_rfl) rfl #[.agg #[.slice Ao42 t323.length co42, .slice Ao45 t326.length co45]] rfl (by (try simp only [List.map_toArray, List.map_cons, List.map_nil]); first | done | rfl | (simp only [List.length_drop, List.length_take]; rfl)) ?_; (with_reducible refine (impl_Sizes.calls k _ _ t323 _ _ t326 t330 _ ?side1 ?side2 ?side3 ?side4 A10.out).mono ?_); (case side1 => refine (Kd.S_reads' (e := 50) (base := w.heap.size) (ok := fun k_ => (some k_ ≠ (.slice Ao45 t326.length co45 : Value).ownBlock ∧ some k_ ≠ (v321 : Value).ownBlock)) (n := t323.length) (c := co42) ?_).2.2; exact (by (with_reducible repeat (first | apply Kd.S_alloc | apply Kd.S_drewN | apply Kd.S_drew)); exact (Kd.S_mono (Kd.S_far (p := ⟨gb329, 1, none⟩) (Kd.S_far (p := ⟨gb329, 0, none⟩) (Kd.S_types HO325.out BK329.out (by decide)) (fun _ hk => hk.2) (.slice Ao42 t323.length co42)) (fun _ hk => hk.2) (.slice Ao45 t326.length co45)) (fun _ h_ => by first | exact h_.1 | trivial)))); (case side2 => exact (Kd.S_reads' HO325.out).2.1); (case side3 => refine (Kd.R_reads' (e := 3) (base := w.heap.size) (ok := fun k_ => (True ∧ some k_ ≠ (v321 : Value).ownBlock)) (n := t326.length) (c := co45) ?_).2.2; exact (rB HO328.out BK329.out (by decide))); (case side4 => exact (Kd.R_reads' HO328.out).2.1); rintro e w46 ⟨v331, rfl, ho0, hb⟩; refine ⟨_, rfl, ?_⟩; have n0_ := Aside0.mk (Kd.R_elder' (rB HO322.out BK329.out (by decide)) (Kd.R_base ho0) hb); replace HO325 := Aside0.mk (Kd.S_elder' (by (with_reducible repeat (first | apply Kd.S_alloc | apply Kd.S_drewN | apply Kd.S_drew)); exact (Kd.S_mono (Kd.S_far (p := ⟨gb329, 1, none⟩) (Kd.S_far (p := ⟨gb329, 0, none⟩) (Kd.S_types HO325.out BK329.out (by decide)) (fun _ hk => hk.2) (.slice Ao42 t323.length co42)) (fun _ hk => hk.2) (.slice Ao45 t326.length co45)) (fun _ h_ => by first | exact h_.1 | trivial))) (Kd.R_base ho0) hb); have n2_ := Aside0.mk (Kd.R_elder' (rB HO328.out BK329.out (by decide)) (Kd.R_base ho0) hb); have HO332 := Aside0.mk (Kd.R_lower (Kd.R_new' (Kd.R_new' ho0 (Kd.R_lt (rB HO322.out BK329.out (by decide)))) (Kd.R_lt (rB HO328.out BK329.out (by decide)))) (below_size (by repeat (first | (with_reducible first | exact HB.out | apply below_alloc | apply pw_below_drewN | apply below_drew1 | refine below_set ?_ GE312.out | refine below_set ?_ GE329.out) | exact HB.out)))); replace BK312 := Aside0.mk (blk_below (g := gb312) (o := .cells #[.slice A0_0 l0_0.length c0_0, .slice A0_1 l0_1.length c0_1] 25 (0, 0)) (by (with_reducible repeat (first | refine blk_drewN ?_ _ | refine blk_drew ?_ | refine blk_alloc ?_ _)); refine blk_far ?_ NB312_329.out _; (with_reducible repeat (first | refine blk_drewN ?_ _ | refine blk_drew ?_ | refine blk_alloc ?_ _)); refine blk_far ?_ NB312_329.out _; (with_reducible repeat (first | refine blk_drewN ?_ _ | refine blk_drew ?_ | refine blk_alloc ?_ _)); exact BK312.out) hb); replace BK329 := Aside0.mk (blk_below (g := gb329) (o := .cells #[.slice Ao42 t323.length co42, .slice Ao45 t326.length co45] 30 (0, 0)) (by (with_reducible repeat (first | refine blk_drewN ?_ _ | refine blk_drew ?_ | refine blk_alloc ?_ _)); refine blk_put (cs := #[.slice Ao42 t323.length co42, .slice none 0 0]) ?_ 1 _ rfl; (with_reducible repeat (first | refine blk_drewN ?_ _ | refine blk_drew ?_ | refine blk_alloc ?_ _)); refine blk_put (cs := #[.slice none 0 0, .slice none 0 0]) ?_ 0 _ rfl; (with_reducible repeat (first | refine blk_drewN ?_ _ | refine blk_drew ?_ | refine blk_alloc ?_ _)); exact BK329.out) hb); replace HB := Aside0.mk (below_step (by repeat (first | (with_reducible first | exact HB.out | apply below_alloc | apply pw_below_drewN | apply below_drew1 | refine below_set ?_ GE312.out | refine below_set ?_ GE329.out) | exact HB.out)) hb); clear HO322; clear HO328; have HO322 := n0_; have HO328 := n2_; clear n0_ n2_; (try clear hb); (try clear hb2); (try clear hk); (try clear hi); (try clear ho0); obtain ⟨Ao47, co47, eo47⟩ := Kd.R_slice HO332.out; subst eo47; obtain ⟨Ao48, co48, eo48⟩ := Kd.R_slice HO322.out; subst eo48) | ((with_reducible refine gate_callee (f := 8) rfl ?_); refine goesL_ (some 25) rfl rfl Try.func8 (by kernel_rfl) rfl #[.slice Ao47 t330.length co47, .slice Ao48 t320.length co48] rfl (by (try simp only [List.map_toArray, List.map_cons, List.map_nil]); first | done | rfl | (simp only [List.length_drop, List.length_take]; rfl)) ?_; (with_reducible refine (laws_eqIntS.calls k _ _ t330 _ _ t320 true _ ?side1 ?side2 ?side3 ?side4 A11.out).mono ?_); (case side1 => exact cS (Kd.R_reads' HO332.out).2.2); (case side2 => exact (Kd.R_reads' HO332.out).2.1); (case side3 => exact cS (Kd.R_reads' HO322.out).2.2); (case side4 => exact (Kd.R_reads' HO322.out).2.1); rintro e w' ⟨rfl, ⟨nd, rfl⟩⟩; refine ⟨_, rfl, ?_⟩))
           (try (rw [drewN_self w46]; generalize hq_ : World.drewN w46 _ = w46; replace HO322 : Aside0 (Kd.R (Kd.int .i64) 3 w46 w.heap.size (fun k_ => some k_ ≠ (.slice Ao45 t326.length co45 : Value).ownBlock ∧ some k_ ≠ (.slice Ao47 t330.length co47 : Value).ownBlock) (.slice Ao48 t320.length co48) t320) := ⟨by rw [← hq_]; exact (by (with_reducible repeat (first | apply Kd.R_alloc | apply Kd.R_drewN | apply Kd.R_drew)); exact Kd.R_mono HO322.out (fun _ hk => ⟨hk.1.2, hk.2⟩))⟩; replace HO325 : Aside0 (Kd.S k50 50 w46 w.heap.size (fun k_ => some k_ ≠ (.slice Ao48 t320.length co48 : Value).ownBlock ∧ some k_ ≠ (.slice Ao45 t326.length co45 : Value).ownBlock ∧ some k_ ≠ (.slice Ao47 t330.length co47 : Value).ownBlock) (.slice Ao42 t323.length co42) t323) := ⟨by rw [← hq_]; exact (by (with_reducible repeat (first | apply Kd.S_alloc | apply Kd.S_drewN | apply Kd.S_drew)); exact Kd.S_mono HO325.out (fun _ hk => ⟨hk.1.2, ⟨hk.1.1, hk.2⟩⟩))⟩; replace HO328 : Aside0 (Kd.R (Kd.int .i64) 3 w46 w.heap.size (fun k_ => some k_ ≠ (.slice Ao48 t320.length co48 : Value).ownBlock ∧ some k_ ≠ (.slice Ao47 t330.length co47 : Value).ownBlock) (.slice Ao45 t326.length co45) t326) := ⟨by rw [← hq_]; exact (by (with_reducible repeat (first | apply Kd.R_alloc | apply Kd.R_drewN | apply Kd.R_drew)); exact Kd.R_mono HO328.out (fun _ hk => ⟨hk.1.2, hk.2⟩))⟩; replace HO332 : Aside0 (Kd.R (Kd.int .i64) 3 w46 w.heap.size (fun k_ => some k_ ≠ (.slice Ao48 t320.length co48 : Value).ownBlock ∧ some k_ ≠ (.slice Ao45 t326.length co45 : Value).ownBlock) (.slice Ao47 t330.length co47) t330) := ⟨by rw [← hq_]; exact (by (with_reducible repeat (first | apply Kd.R_alloc | apply Kd.R_drewN | apply Kd.R_drew)); exact Kd.R_mono HO332.out (fun _ hk => ⟨hk.1.2, hk.2⟩))⟩; replace BK312 : Aside0 (w46.heap[gb312]? = some (.cells #[.slice A0_0 l0_0.length c0_0, .slice A0_1 l0_1.length c0_1] 25 (0, 0))) := ⟨by rw [← hq_]; exact (by (with_reducible repeat (first | refine blk_drewN ?_ _ | refine blk_drew ?_ | refine blk_alloc ?_ _)); exact BK312.out)⟩; replace BK329 : Aside0 (w46.heap[gb329]? = some (.cells #[.slice Ao42 t323.length co42, .slice Ao45 t326.length co45] 30 (0, 0))) := ⟨by rw [← hq_]; exact (by (with_reducible repeat (first | refine blk_drewN ?_ _ | refine blk_drew ?_ | refine blk_alloc ?_ _)); exact BK329.out)⟩; replace HB : Aside0 (Below w.heap.size w w46) := ⟨by rw [← hq_]; exact (by repeat (first | (with_reducible first | exact HB.out | apply below_alloc | apply pw_below_drewN | apply below_drew1 | refine below_set ?_ GE312.out | refine below_set ?_ GE329.out) | exact HB.out))⟩; clear hq_))
           replace HO322 := Aside0.mk (Kd.R_drew HO322.out)
           replace HO325 := Aside0.mk (Kd.S_drew HO325.out)
           replace HO328 := Aside0.mk (Kd.R_drew HO328.out)
           replace HO332 := Aside0.mk (Kd.R_drew HO332.out)
           replace BK312 := Aside0.mk (blk_drew BK312.out)
           replace BK329 := Aside0.mk (blk_drew BK329.out)
           replace HB := Aside0.mk (below_drew1 HB.out)
           refine start_ (n := 5) (S := fun w' => w'.cell? ⟨gb329, 0, none⟩ = some (.slice Ao42 t323.length co42) ∧ w'.cell? ⟨gb329, 1, none⟩ = some (.slice Ao45 t326.length co45) ∧ w'.cell? ⟨gb312, 0, none⟩ = some (.slice A0_0 l0_0.length c0_0) ∧ w'.cell? ⟨gb312, 1, none⟩ = some (.slice A0_1 l0_1.length c0_1)) (ds := []) #[false, false, false, false, false] (by kernel_rfl) rfl rfl ⟨kC BK329.out 0 rfl, kC BK329.out 1 rfl, kC BK312.out 0 rfl, kC BK312.out 1 rfl⟩ (fun hHeld => ?_)
           generalize w46.drew = w49 at HO322 HO325 HO328 HO332 BK312 BK329 HB hHeld ⊢
           refine take_ (i := 0) (N := some 27) (v := ?_) (a' := ?_) #[true, false, false, false, false] rfl rfl (by kernel_rfl) (fun _ _ _ h => h) (Or.inl ⟨by rfl, ?_⟩) hHeld ?_ ?_
           rotate_left
           ·rintro w' ⟨s0, s1, s2, s3⟩
            go_simp
            with_reducible rfl
           rotate_left
           ·simp only [Act.put, List.setIfInBounds_toArray, List.set_cons_zero, List.set_cons_succ, i64_w, i32_w]
            rfl
           refine take_ (i := 1) (N := some 28) (v := ?_) (a' := ?_) #[true, true, false, false, false] rfl rfl (by kernel_rfl) (fun _ _ _ h => h) (Or.inl ⟨by rfl, ?_⟩) hHeld ?_ ?_
           rotate_left
           ·rintro w' ⟨s0, s1, s2, s3⟩
            go_simp
            with_reducible rfl
           rotate_left
           ·simp only [Act.put, List.setIfInBounds_toArray, List.set_cons_zero, List.set_cons_succ, i64_w, i32_w]
            rfl
           refine one_ (i := 2) (N := some 29) #[true, true, true, false, false] rfl rfl (by kernel_rfl) (by decide) (fun K hK => ?_)
           refine goes_ Try.func6 (by kernel_rfl) rfl #[.agg #[.slice A0_0 l0_0.length c0_0, .slice A0_1 l0_1.length c0_1]] (by rfl) rfl rfl (by (try simp only [List.map_toArray, List.map_cons, List.map_nil]); first | done | rfl | (simp only [List.length_drop, List.length_take]; rfl)) ?_
           with_reducible refine (laws_toTree.calls k _ _ l0_0 _ _ l0_1 t334 t337 _ ?side1 ?side2 ?side3 ?side4 A13.out).mono ?_
           (case side1 => exact cS (Kd.C_below HR0_0.out HB.out))
           (case side2 => exact HC0_0.out)
           (case side3 => exact cS (Kd.C_below HR0_1.out HB.out))
           (case side4 => exact HC0_1.out)
           rintro e w50 ⟨v335, v338, rfl, ho0, ho1, hb⟩
           refine ⟨_, rfl, ?_⟩
           have n0_ := Aside0.mk (Kd.R_elder' (rS HO322.out) (Kd.R_base ho1) hb)
           have n1_ := Aside0.mk (Kd.S_mono (Kd.S_told (Kd.S_told (Kd.S_old (by (with_reducible repeat (first | apply Kd.S_alloc | apply Kd.S_drewN | apply Kd.S_drew)); exact HO325.out) hb) (Kd.S_base ho0)) (Kd.R_base ho1)) (fun _ h_ => by first | exact h_.1 | trivial))
           have n2_ := Aside0.mk (Kd.R_elder' (rS HO328.out) (Kd.R_base ho1) hb)
           have n3_ := Aside0.mk (Kd.R_elder' (rS HO332.out) (Kd.R_base ho1) hb)
           have HO336 := Aside0.mk (Kd.S_lower (Kd.S_new' (Kd.S_new' (Kd.S_new' (Kd.S_new' ho0 (Kd.R_lt (rS HO322.out))) (Kd.S_lt (by (with_reducible repeat (first | apply Kd.S_alloc | apply Kd.S_drewN | apply Kd.S_drew)); exact HO325.out))) (Kd.R_lt (rS HO328.out))) (Kd.R_lt (rS HO332.out))) (below_size (by repeat (first | (with_reducible first | exact HB.out | apply below_alloc | apply pw_below_drewN | apply below_drew1 | refine below_set ?_ GE312.out | refine below_set ?_ GE329.out) | exact HB.out))))
           have HO339 := Aside0.mk (Kd.R_lower (rN (rN (rN ho1 HO322.out) HO328.out) HO332.out) (below_size (by repeat (first | (with_reducible first | exact HB.out | apply below_alloc | apply pw_below_drewN | apply below_drew1 | refine below_set ?_ GE312.out | refine below_set ?_ GE329.out) | exact HB.out))))
           replace BK312 := Aside0.mk (kS BK312.out hb)
           replace BK329 := Aside0.mk (kS BK329.out hb)
           replace HB := Aside0.mk (below_step (by repeat (first | (with_reducible first | exact HB.out | apply below_alloc | apply pw_below_drewN | apply below_drew1 | refine below_set ?_ GE312.out | refine below_set ?_ GE329.out) | exact HB.out)) hb)
           clear HO322
           clear HO325
           clear HO328
           clear HO332
           have HO322 := n0_
           have HO325 := n1_
           have HO328 := n2_
           have HO332 := n3_
           clear n0_ n1_ n2_ n3_
           (try clear hb)
           (try clear hb2)
           (try clear hk)
           (try clear hi)
           (try clear ho0)
           (try clear ho1)
           obtain ⟨Ao51, co51, eo51⟩ := Kd.S_slice HO336.out
           (first | subst eo51 | (injection eo51 with f1_ f2_ f3_; have f4_ := f1_.symm; have f5_ := f3_.symm; clear f1_ f2_ f3_; subst f4_; subst f5_))
           obtain ⟨Ao52, co52, eo52⟩ := Kd.R_slice HO339.out
           (first | subst eo52 | (injection eo52 with f1_ f2_ f3_; have f4_ := f1_.symm; have f5_ := f3_.symm; clear f1_ f2_ f3_; subst f4_; subst f5_))
           refine hK.out _ _ ⟨kC BK329.out 0 rfl, kC BK329.out 1 rfl, kC BK312.out 0 rfl, kC BK312.out 1 rfl⟩ (fun hHeld => ?_)
           clear hK K
           refine norm_ (a' := ?_) ?_ ?_
           rotate_left
           ·show Act.put _ (some 29) _ = _
            simp only [Act.put, List.setIfInBounds_toArray, List.set_cons_zero, List.set_cons_succ, i64_w, i32_w]
            rfl
           refine one_ (i := 3) (N := some 30) #[true, true, true, true, false] rfl rfl (by kernel_rfl) (by decide) (fun K hK => ?_)
           refine goes_ Try.func9 (by kernel_rfl) rfl #[.agg #[.slice Ao42 t323.length co42, .slice Ao45 t326.length co45], .agg #[.slice Ao51 t334.length co51, .slice Ao52 t337.length co52]] (by rfl) rfl rfl (by (try simp only [List.map_toArray, List.map_cons, List.map_nil]); first | done | rfl | (simp only [List.length_drop, List.length_take]; rfl)) ?_
           with_reducible refine (laws_eqTree.calls k _ _ t323 _ _ t326 _ _ t334 _ _ t337 true _ ?side1 ?side2 ?side3 ?side4 ?side5 ?side6 ?side7 ?side8 A14.out).mono ?_
           (case side1 => repeat (first | exact (Kd.S_reads' HO325.out).2.2 | (with_reducible refine Kd.C_alloc ?_ _) | (with_reducible refine Kd.C_drewN ?_ _) | (with_reducible refine Kd.C_drew ?_)))
           (case side2 => exact (Kd.S_reads' HO325.out).2.1)
           (case side3 => exact cS (Kd.R_reads' HO328.out).2.2)
           (case side4 => exact (Kd.R_reads' HO328.out).2.1)
           (case side5 => repeat (first | exact (Kd.S_reads' HO336.out).2.2 | (with_reducible refine Kd.C_alloc ?_ _) | (with_reducible refine Kd.C_drewN ?_ _) | (with_reducible refine Kd.C_drew ?_)))
           (case side6 => exact (Kd.S_reads' HO336.out).2.1)
           (case side7 => exact cS (Kd.R_reads' HO339.out).2.2)
           (case side8 => exact (Kd.R_reads' HO339.out).2.1)
           rintro e w53 ⟨rfl, hb⟩
           refine ⟨_, rfl, ?_⟩
           replace HO322 := Aside0.mk (Kd.R_below (rS HO322.out) hb)
           replace HO325 := Aside0.mk (Kd.S_below (by (with_reducible repeat (first | apply Kd.S_alloc | apply Kd.S_drewN | apply Kd.S_drew)); exact HO325.out) hb)
           replace HO328 := Aside0.mk (Kd.R_below (rS HO328.out) hb)
           replace HO332 := Aside0.mk (Kd.R_below (rS HO332.out) hb)
           replace HO336 := Aside0.mk (Kd.S_below (by (with_reducible repeat (first | apply Kd.S_alloc | apply Kd.S_drewN | apply Kd.S_drew)); exact HO336.out) hb)
           replace HO339 := Aside0.mk (Kd.R_below (rS HO339.out) hb)
           replace BK312 := Aside0.mk (kS BK312.out hb)
           replace BK329 := Aside0.mk (kS BK329.out hb)
           replace HB := Aside0.mk (below_step (by repeat (first | (with_reducible first | exact HB.out | apply below_alloc | apply pw_below_drewN | apply below_drew1 | refine below_set ?_ GE312.out | refine below_set ?_ GE329.out) | exact HB.out)) hb)
           (try clear hb)
           (try clear hb2)
           (try clear hk)
           (try clear hi)
           refine hK.out _ _ ⟨kC BK329.out 0 rfl, kC BK329.out 1 rfl, kC BK312.out 0 rfl, kC BK312.out 1 rfl⟩ (fun hHeld => ?_)
           clear hK K
           refine norm_ (a' := ?_) ?_ ?_
           rotate_left
           ·show Act.put _ (some 30) _ = _
            simp only [Act.put, List.setIfInBounds_toArray, List.set_cons_zero, List.set_cons_succ, i64_w, i32_w]
            rfl
           refine pure_ (i := 4) (N := some 31) (v := ?_) (a' := ?_) #[true, true, true, true, true] rfl rfl (by kernel_rfl) (fun _ _ _ h => h) (Or.inl ⟨by rfl, ?_⟩) ?_ ?_
           rotate_left
           ·intro w'
            go_simp
            with_reducible rfl
           rotate_left
           ·simp only [Act.put, List.setIfInBounds_toArray, List.set_cons_zero, List.set_cons_succ, i64_w, i32_w]
            rfl
           refine done_ (by kernel_rfl) ?_
           have hcz54_0 : w53.cell? ⟨gb329, 0, none⟩ = some (.slice Ao42 t323.length co42) := kC BK329.out 0 rfl
           have hcz54_1 : w53.cell? ⟨gb329, 1, none⟩ = some (.slice Ao45 t326.length co45) := kC BK329.out 1 rfl
           have hfz54_0 := blk_frozen BK329.out 0
           have hfz54_1 := blk_frozen BK329.out 1
           try go_wp2_with (first | ((with_reducible refine gate_callee (f := 10) rfl ?_); refine goesL_ (some 34) rfl rfl Try.func10 (by kernel_rfl) rfl #[.agg #[.slice Ao42 t323.length co42, .slice Ao45 t326.length co45], .int .i64 1] rfl (by (try simp only [List.map_toArray, List.map_cons, List.map_nil]); first | done | rfl | (simp only [List.length_drop, List.length_take]; rfl)) ?_; (with_reducible refine (laws_markTree.calls k (fun k_ => ((some k_ ≠ (.slice Ao48 t320.length co48 : Value).ownBlock ∧ (some k_ ≠ (.slice Ao45 t326.length co45 : Value).ownBlock ∧ (some k_ ≠ (.slice Ao47 t330.length co47 : Value).ownBlock ∧ (k_ ≠ gb312 ∧ k_ ≠ gb329)))) ∧ w.heap.size ≤ k_)) (.slice Ao42 t323.length co42) t323 (fun k_ => some k_ = (.slice Ao45 t326.length co45 : Value).ownBlock) (.slice Ao45 t326.length co45) t326 1 t341 t342 t343 w _ ?side1 ?side2 ?side3 ?side4 ?side5 A16.out).mono ?_); (case side1 => repeat (first | (with_reducible first | exact HB.out | apply below_alloc | apply pw_below_drewN | apply below_drew1 | refine below_set ?_ GE312.out | refine below_set ?_ GE329.out) | exact HB.out)); (case side2 => exact Kd.S_mono (Kd.S_bound (Kd.S_mono (ok' := fun k_ => (some k_ ≠ (.slice Ao48 t320.length co48 : Value).ownBlock ∧ (some k_ ≠ (.slice Ao45 t326.length co45 : Value).ownBlock ∧ (some k_ ≠ (.slice Ao47 t330.length co47 : Value).ownBlock ∧ (k_ ≠ gb312 ∧ k_ ≠ gb329))))) (Kd.S_types (Kd.S_types HO325.out BK312.out (by decide)) BK329.out (by decide)) (fun k_ hk => by (try simp only [and_assoc] at hk); (repeat (obtain ⟨_, hk⟩ := hk)); (repeat' (refine And.intro ?_ ?_)) <;> first | assumption | trivial))) (fun k_ hk_ => ⟨hk_.1, hk_.2.1⟩)); (case side3 => exact fun k_ e_ => e_.1.2.1); (case side4 => exact Kd.R_tight rfl HO328.out); (case side5 => exact fun k_ e_ e2_ => (e2_.1.2.1) e_); rintro e w55 ⟨rfl, hy0, hy1, hb, hkp⟩; refine ⟨_, rfl, ?_⟩; replace BK312 := Aside0.mk (blk_kept (by (with_reducible repeat (first | refine blk_drewN ?_ _ | refine blk_drew ?_ | refine blk_alloc ?_ _)); exact BK312.out) hkp (fun hs_ => Or.elim hs_ (fun e_ => (fun e_ => (e_.1.2.2.2.1) rfl) e_) (fun e_ => (fun e_ => (Kd.R_ne HO328.out BK312.out (by decide)) e_) e_))); replace HO322 := Aside0.mk (Kd.R_mono (ok' := fun k_ => some k_ ≠ (.slice Ao45 t326.length co45 : Value).ownBlock ∧ some k_ ≠ (.slice Ao47 t330.length co47 : Value).ownBlock) (Kd.R_keptB ((Kd.R_mono (ok' := fun k_ => ((some k_ ≠ (.slice Ao45 t326.length co45 : Value).ownBlock ∧ some k_ ≠ (.slice Ao47 t330.length co47 : Value).ownBlock)) ∧ ¬ ((some k_ ≠ (.slice Ao48 t320.length co48 : Value).ownBlock ∧ (some k_ ≠ (.slice Ao45 t326.length co45 : Value).ownBlock ∧ (some k_ ≠ (.slice Ao47 t330.length co47 : Value).ownBlock ∧ (k_ ≠ gb312 ∧ k_ ≠ gb329)))) ∧ w.heap.size ≤ k_)) (Kd.R_tight2 rfl (Kd.R_mono (ok' := fun k_ => (some k_ ≠ (.slice Ao45 t326.length co45 : Value).ownBlock ∧ some k_ ≠ (.slice Ao47 t330.length co47 : Value).ownBlock)) HO322.out (fun k_ hk => by (try simp only [and_assoc] at hk); (repeat (obtain ⟨_, hk⟩ := hk)); (repeat' (refine And.intro ?_ ?_)) <;> first | assumption | trivial))) (fun k_ hk => ⟨hk.2, fun e_ => (e_.1.1) hk.1⟩))) hkp (fun k_ hk_ hs_ => Or.elim hs_ (fun e_ => (hk_.2) e_) (fun e_ => (hk_.1.1) e_))) (fun k_ hk_ => ⟨hk_.1.1.1, hk_.1.1.2⟩)); have n2_ := Aside0.mk (Kd.R_reok rfl hy1 (fun k_ e_ => HO328.out.1 k_ e_)); replace BK329 := Aside0.mk (blk_kept (by (with_reducible repeat (first | refine blk_drewN ?_ _ | refine blk_drew ?_ | refine blk_alloc ?_ _)); exact BK329.out) hkp (fun hs_ => Or.elim hs_ (fun e_ => (fun e_ => (e_.1.2.2.2.2) rfl) e_) (fun e_ => (fun e_ => (Kd.R_ne HO328.out BK329.out (by decide)) e_) e_))); replace HO332 := Aside0.mk (Kd.R_mono (ok' := fun k_ => some k_ ≠ (.slice Ao48 t320.length co48 : Value).ownBlock ∧ some k_ ≠ (.slice Ao45 t326.length co45 : Value).ownBlock) (Kd.R_keptB ((Kd.R_mono (ok' := fun k_ => ((some k_ ≠ (.slice Ao48 t320.length co48 : Value).ownBlock ∧ some k_ ≠ (.slice Ao45 t326.length co45 : Value).ownBlock)) ∧ ¬ ((some k_ ≠ (.slice Ao48 t320.length co48 : Value).ownBlock ∧ (some k_ ≠ (.slice Ao45 t326.length co45 : Value).ownBlock ∧ (some k_ ≠ (.slice Ao47 t330.length co47 : Value).ownBlock ∧ (k_ ≠ gb312 ∧ k_ ≠ gb329)))) ∧ w.heap.size ≤ k_)) (Kd.R_tight2 rfl (Kd.R_mono (ok' := fun k_ => (some k_ ≠ (.slice Ao48 t320.length co48 : Value).ownBlock ∧ some k_ ≠ (.slice Ao45 t326.length co45 : Value).ownBlock)) HO332.out (fun k_ hk => by (try simp only [and_assoc] at hk); (repeat (obtain ⟨_, hk⟩ := hk)); (repeat' (refine And.intro ?_ ?_)) <;> first | assumption | trivial))) (fun k_ hk => ⟨hk.2, fun e_ => (e_.1.2.2.1) hk.1⟩))) hkp (fun k_ hk_ hs_ => Or.elim hs_ (fun e_ => (hk_.2) e_) (fun e_ => (hk_.1.2) e_))) (fun k_ hk_ => ⟨hk_.1.1.1, hk_.1.1.2⟩)); replace HB := Aside0.mk (hb); clear HO328; clear HO325; have HO328 := n2_; clear n2_; (try clear hb); (try clear hkp); (try clear hy0); (try clear hy1)) | (go_at_call 8; (with_reducible refine (laws_eqIntS.calls k _ _ t330 _ _ t320 true _ ?side1 ?side2 ?side3 ?side4 A18.out).mono ?_); (case side1 => exact cS (Kd.R_reads' HO332.out).2.2); (case side2 => exact (Kd.R_reads' HO332.out).2.1); (case side3 => exact cS (Kd.R_reads' HO322.out).2.2); (case side4 => exact (Kd.R_reads' HO322.out).2.1); rintro e w' ⟨rfl, ⟨nd, rfl⟩⟩) | ((with_reducible refine gate_callee (f := 11) rfl ?_); refine goesL_ (some 45) rfl rfl Try.func11 (by kernel_rfl) rfl #[.slice Ao47 t330.length co47, .int .i64 1] rfl (by (try simp only [List.map_toArray, List.map_cons, List.map_nil]); first | done | rfl | (simp only [List.length_drop, List.length_take]; rfl)) ?_; (with_reducible refine (laws_markIntS.calls k (fun k_ => some k_ = (.slice Ao47 t330.length co47 : Value).ownBlock) (.slice Ao47 t330.length co47) t330 1 t345 t346 w _ ?side1 ?side2 A20.out).mono ?_); (case side1 => repeat (first | (with_reducible first | exact HB.out | apply below_alloc | apply pw_below_drewN | apply below_drew1 | refine below_set ?_ GE312.out | refine below_set ?_ GE329.out) | exact HB.out)); (case side2 => exact Kd.R_tight rfl HO332.out); rintro e w56 ⟨rfl, hy0, hb, hkp⟩; refine ⟨_, rfl, ?_⟩; replace BK312 := Aside0.mk (blk_kept (by (with_reducible repeat (first | refine blk_drewN ?_ _ | refine blk_drew ?_ | refine blk_alloc ?_ _)); exact BK312.out) hkp (fun hs_ => (fun e_ => (Kd.R_ne HO332.out BK312.out (by decide)) e_) hs_)); replace HO322 := Aside0.mk (Kd.R_mono (ok' := fun k_ => some k_ ≠ (.slice Ao47 t330.length co47 : Value).ownBlock) (Kd.R_keptB (HO322.out) hkp (fun k_ hk_ hs_ => (hk_.2) hs_)) (fun k_ hk_ => hk_.1.2)); replace BK329 := Aside0.mk (blk_kept (by (with_reducible repeat (first | refine blk_drewN ?_ _ | refine blk_drew ?_ | refine blk_alloc ?_ _)); exact BK329.out) hkp (fun hs_ => (fun e_ => (Kd.R_ne HO332.out BK329.out (by decide)) e_) hs_)); replace HO332 := Aside0.mk (Kd.R_reok rfl hy0 (fun k_ e_ => HO332.out.1 k_ e_)); replace HB := Aside0.mk (hb); (try clear hb); (try clear hkp); (try clear hy0)) | ((with_reducible refine gate_callee (f := 12) rfl ?_); refine goesL_ (some 48) rfl rfl Try.func12 (by kernel_rfl) rfl #[.slice Ao47 t346.length co47, .int .i64 1] rfl (by (try simp only [List.map_toArray, List.map_cons, List.map_nil]); first | done | (rw [show t346.length = t330.length from (Kd.R_reads' HO332.out).1.symm] <;> rfl) | rfl | (simp only [List.length_drop, List.length_take]; rfl)) ?_; (with_reducible refine (laws_heldIntS.calls k _ _ t346 1 t347 _ ?side1 ?side2 A21.out).mono ?_); (case side1 => exact cS (Kd.R_reads' HO332.out).2.2); (case side2 => rw [show t346.length = t330.length from (Kd.R_reads' HO332.out).1.symm]; exact (Kd.R_reads' HO332.out).2.1); rintro e w' ⟨rfl, ⟨nd, rfl⟩⟩; refine ⟨_, rfl, ?_⟩; have hcz57_0 : w56.cell? ⟨gb312, 0, none⟩ = some (.slice A0_0 l0_0.length c0_0) := kC BK312.out 0 rfl; have hcz57_1 : w56.cell? ⟨gb312, 1, none⟩ = some (.slice A0_1 l0_1.length c0_1) := kC BK312.out 1 rfl; have hfz57_0 := blk_frozen BK312.out 0; have hfz57_1 := blk_frozen BK312.out 1) | ((with_reducible refine gate_callee (f := 6) rfl ?_); refine goesL_ (some 55) rfl rfl Try.func6 (by kernel_rfl) rfl #[.agg #[.slice A0_0 l0_0.length c0_0, .slice A0_1 l0_1.length c0_1]] rfl (by (try simp only [List.map_toArray, List.map_cons, List.map_nil]); first | done | rfl | (simp only [List.length_drop, List.length_take]; rfl)) ?_; (with_reducible refine (laws_toTree.calls k _ _ l0_0 _ _ l0_1 t348 t351 _ ?side1 ?side2 ?side3 ?side4 A24.out).mono ?_); (case side1 => repeat (first | exact (Kd.C_below HR0_0.out (by repeat (first | (with_reducible first | exact HB.out | apply below_alloc | apply pw_below_drewN | apply below_drew1 | refine below_set ?_ GE312.out | refine below_set ?_ GE329.out) | exact HB.out))) | (with_reducible refine Kd.C_alloc ?_ _) | (with_reducible refine Kd.C_drewN ?_ _) | (with_reducible refine Kd.C_drew ?_))); (case side2 => exact HC0_0.out); (case side3 => repeat (first | exact (Kd.C_below HR0_1.out (by repeat (first | (with_reducible first | exact HB.out | apply below_alloc | apply pw_below_drewN | apply below_drew1 | refine below_set ?_ GE312.out | refine below_set ?_ GE329.out) | exact HB.out))) | (with_reducible refine Kd.C_alloc ?_ _) | (with_reducible refine Kd.C_drewN ?_ _) | (with_reducible refine Kd.C_drew ?_))); (case side4 => exact HC0_1.out); rintro e w58 ⟨v349, v352, rfl, ho0, ho1, hb⟩; refine ⟨_, rfl, ?_⟩; have n0_ := Aside0.mk (Kd.R_elder' (rS HO322.out) (Kd.R_base ho1) hb); have n1_ := Aside0.mk (Kd.R_elder' (rS HO332.out) (Kd.R_base ho1) hb); have HO350 := Aside0.mk (Kd.S_lower (Kd.S_new' (Kd.S_new' ho0 (Kd.R_lt (rS HO322.out))) (Kd.R_lt (rS HO332.out))) (below_size (by repeat (first | (with_reducible first | exact HB.out | apply below_alloc | apply pw_below_drewN | apply below_drew1 | refine below_set ?_ GE312.out | refine below_set ?_ GE329.out) | exact HB.out)))); have HO353 := Aside0.mk (Kd.R_lower (Kd.R_new' (Kd.R_new' ho1 (Kd.R_lt (rS HO322.out))) (Kd.R_lt (rS HO332.out))) (below_size (by repeat (first | (with_reducible first | exact HB.out | apply below_alloc | apply pw_below_drewN | apply below_drew1 | refine below_set ?_ GE312.out | refine below_set ?_ GE329.out) | exact HB.out)))); replace BK312 := Aside0.mk (kS BK312.out hb); replace BK329 := Aside0.mk (kS BK329.out hb); replace HB := Aside0.mk (below_step (by repeat (first | (with_reducible first | exact HB.out | apply below_alloc | apply pw_below_drewN | apply below_drew1 | refine below_set ?_ GE312.out | refine below_set ?_ GE329.out) | exact HB.out)) hb); clear HO322; clear HO332; have HO322 := n0_; have HO332 := n1_; clear n0_ n1_; (try clear hb); (try clear hb2); (try clear hk); (try clear hi); (try clear ho0); (try clear ho1); obtain ⟨Ao59, co59, eo59⟩ := Kd.S_slice HO350.out; subst eo59; obtain ⟨Ao60, co60, eo60⟩ := Kd.R_slice HO353.out; subst eo60) | ((with_reducible refine gate_callee (f := 7) rfl ?_); refine goesL_ (some 56) rfl rfl Try.func7 (by kernel_rfl) rfl #[.agg #[.slice Ao59 t348.length co59, .slice Ao60 t351.length co60]] rfl (by (try simp only [List.map_toArray, List.map_cons, List.map_nil]); first | done | rfl | (simp only [List.length_drop, List.length_take]; rfl)) ?_; (with_reducible refine (impl_Sizes.calls k _ _ t348 _ _ t351 t354 _ ?side1 ?side2 ?side3 ?side4 A25.out).mono ?_); (case side1 => repeat (first | exact (Kd.S_reads' HO350.out).2.2 | (with_reducible refine Kd.C_alloc ?_ _) | (with_reducible refine Kd.C_drewN ?_ _) | (with_reducible refine Kd.C_drew ?_))); (case side2 => exact (Kd.S_reads' HO350.out).2.1); (case side3 => exact cS (Kd.R_reads' HO353.out).2.2); (case side4 => exact (Kd.R_reads' HO353.out).2.1); rintro e w61 ⟨v355, rfl, ho0, hb⟩; refine ⟨_, rfl, ?_⟩; have n0_ := Aside0.mk (Kd.R_elder' (rS HO322.out) (Kd.R_base ho0) hb); have n1_ := Aside0.mk (Kd.R_elder' (rS HO332.out) (Kd.R_base ho0) hb); replace HO350 := Aside0.mk (Kd.S_elder' (by (with_reducible repeat (first | apply Kd.S_alloc | apply Kd.S_drewN | apply Kd.S_drew)); exact HO350.out) (Kd.R_base ho0) hb); have n3_ := Aside0.mk (Kd.R_elder' (rS HO353.out) (Kd.R_base ho0) hb); have HO356 := Aside0.mk (Kd.R_lower (Kd.R_new' (Kd.R_new' (Kd.R_new' ho0 (Kd.R_lt (rS HO322.out))) (Kd.R_lt (rS HO332.out))) (Kd.R_lt (rS HO353.out))) (below_size (by repeat (first | (with_reducible first | exact HB.out | apply below_alloc | apply pw_below_drewN | apply below_drew1 | refine below_set ?_ GE312.out | refine below_set ?_ GE329.out) | exact HB.out)))); replace BK312 := Aside0.mk (kS BK312.out hb); replace BK329 := Aside0.mk (kS BK329.out hb); replace HB := Aside0.mk (below_step (by repeat (first | (with_reducible first | exact HB.out | apply below_alloc | apply pw_below_drewN | apply below_drew1 | refine below_set ?_ GE312.out | refine below_set ?_ GE329.out) | exact HB.out)) hb); clear HO322; clear HO332; clear HO353; have HO322 := n0_; have HO332 := n1_; have HO353 := n3_; clear n0_ n1_ n3_; (try clear hb); (try clear hb2); (try clear hk); (try clear hi); (try clear ho0); obtain ⟨Ao62, co62, eo62⟩ := Kd.R_slice HO356.out; subst eo62) | ((with_reducible refine gate_callee (f := 8) rfl ?_); refine goesL_ (some 59) rfl rfl Try.func8 (by kernel_rfl) rfl #[.slice Ao62 t354.length co62, .slice Ao48 t320.length co48] rfl (by (try simp only [List.map_toArray, List.map_cons, List.map_nil]); first | done | rfl | (simp only [List.length_drop, List.length_take]; rfl)) ?_; (with_reducible refine (laws_eqIntS.calls k _ _ t354 _ _ t320 true _ ?side1 ?side2 ?side3 ?side4 A26.out).mono ?_); (case side1 => exact cS (Kd.R_reads' HO356.out).2.2); (case side2 => exact (Kd.R_reads' HO356.out).2.1); (case side3 => exact cS (Kd.R_reads' HO322.out).2.2); (case side4 => exact (Kd.R_reads' HO322.out).2.1); rintro e w' ⟨rfl, ⟨nd, rfl⟩⟩; refine ⟨_, rfl, ?_⟩) | ((with_reducible refine gate_callee (f := 12) rfl ?_); refine goesL_ (some 63) rfl rfl Try.func12 (by kernel_rfl) rfl #[.slice Ao47 t346.length co47, .int .i64 1] rfl (by (try simp only [List.map_toArray, List.map_cons, List.map_nil]); first | done | (rw [show t346.length = t330.length from (Kd.R_reads' HO332.out).1.symm] <;> rfl) | rfl | (simp only [List.length_drop, List.length_take]; rfl)) ?_; (with_reducible refine (laws_heldIntS.calls k _ _ t346 1 t358 _ ?side1 ?side2 A28.out).mono ?_); (case side1 => exact cS (Kd.R_reads' HO332.out).2.2); (case side2 => rw [show t346.length = t330.length from (Kd.R_reads' HO332.out).1.symm]; exact (Kd.R_reads' HO332.out).2.1); rintro e w' ⟨rfl, ⟨nd, rfl⟩⟩; refine ⟨_, rfl, ?_⟩))
           go_ret
           exact ⟨by first | rfl | (simp [errW_none, errW_some] <;> rfl) | (simp [*, errW_none, errW_some] <;> rfl), by repeat (first | (with_reducible first | exact HB.out | apply below_alloc | apply pw_below_drewN | apply below_drew1 | refine below_set ?_ GE312.out | refine below_set ?_ GE329.out) | exact HB.out)⟩
          ·rw [if_neg c30] at H
           exact absurd H (by simp)
        ·replace c27 := Bool.eq_false_iff.mpr c27
         subst c27
         have H1 : (none) = some r := by rw [if_neg (show ¬ (false = true) by decide)] at H; exact H
         clear H
         have H := H1
         clear H1
         exact absurd H (by simp)
       ·rw [if_neg c23] at H
        exact absurd H (by simp)
     ·replace c19 := Bool.eq_false_iff.mpr c19
      subst c19
      have H1 : (none) = some r := by rw [if_neg (show ¬ (false = true) by decide)] at H; exact H
      clear H
      have H := H1
      clear H1
      exact absurd H (by simp)
   ·replace c15 := Bool.eq_false_iff.mpr c15
    subst c15
    have H1 : (none) = some r := by rw [if_neg (show ¬ (false = true) by decide)] at H; exact H
    clear H
    have H := H1
    clear H1
    exact absurd H (by simp)
  ·replace c12 := Bool.eq_false_iff.mpr c12
   subst c12
   have H1 : (none) = some r := by rw [if_neg (show ¬ (false = true) by decide)] at H; exact H
   clear H
   have H := H1
   clear H1
   exact absurd H (by simp)

end Go.Proofs.Ytgilggacmklijaa.PFnExactSizes
