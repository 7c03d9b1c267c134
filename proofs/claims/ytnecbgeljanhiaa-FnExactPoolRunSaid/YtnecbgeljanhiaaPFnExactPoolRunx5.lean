-- written by wip/tools/myprint.py out of the program's own print
import Derived.Test.YtnecbgeljanhiaaPFnExactPoolRunx0
import Derived.Test.YtnecbgeljanhiaaPFnExactPoolRunx1
import Derived.Test.YtnecbgeljanhiaaPFnExactPoolRunx2
import Derived.Test.YtnecbgeljanhiaaPFnExactPoolRunx3
import Derived.Test.YtnecbgeljanhiaaPFnExactPoolRunx4
namespace Go.Proofs.Ytnecbgeljanhiaa.PFnExactPoolRun
open Go.Proofs.Ytnecbgeljanhiaa.Own (rS cS bS rB rN rT kS kC kc10 kf10)
open Go.RowKit Go.Proofs.YtnecbgeljanhiaaW.PrintWords Go.Proofs.YtnecbgeljanhiaaW.PrintLast Go.Proofs.YtnecbgeljanhiaaW.PrintMore
attribute [local go_sem] max2_int min2_int max_two min_two max_three min_three max_four min_four   -- for this text's walks alone
set_option linter.unusedVariables false
set_option linter.unusedSimpArgs false

/-! ### impl_PoolRun: function 42 -/
def playL (l : List S96) (wk : Int) (picks : List Int) : Nat → Nat → List Int → List S46 → Option (List S46)
  | 0, _, _, _ => none
  | k + 1, fr, is, out => if (movesL l wk is).length = 0 then some out else if 1000 ≤ fr then none else
      ((if fr < picks.length then impl_modulo.f (rd picks (fr : Int)) ((movesL l wk is).length : Int) else some 0) : Option Int).bind fun j => if 0 ≤ j ∧ j < ((movesL l wk is).length : Int) then playL l wk picks k (fr + 1) (doL is (rd_T46 (movesL l wk is) j).f1) (out ++ [rd_T46 (movesL l wk is) j]) else none
theorem playL.mono (l : List S96) (wk : Int) (picks : List Int) : ∀ k fr is out, LeO (playL l wk picks k fr is out) (playL l wk picks (k + 1) fr is out) := by
  intro k
  induction k with
  | zero => intro fr is out; exact LeO.none _
  | succ k ih =>
    intro fr is out
    show LeO (if _ then _ else _) (if _ then _ else _)
    exact LeO.ite (LeO.refl _) (LeO.ite (LeO.refl _) (LeO.bind (LeO.refl _) (fun j => LeO.ite (ih _ _ _) (LeO.refl _))))
theorem addr0 (a : Addr) : a.add (Int.toNat 0 * 2) = a := by simp [Addr.add]
theorem PoolAt.grown {w w1 : World} {g gi : Nat} {A1 : Option Addr} {c1 : Nat} {l : List S96} {wk : Int} {is : List Int} {row : Option Nat} (h : PoolAt w g gi A1 c1 l wk is) (hg : w.grownBy w1 row) (n1 : some gi ≠ row) (n2 : some g ≠ row) (he : Kd.C k96 w1 A1 l.length l) : PoolAt w1 g gi A1 c1 l wk is :=
  ⟨blk_grown h.own hg n2, blk_grown h.tasks hg n1, he, h.cap, h.few, h.fit⟩
set_option maxHeartbeats 8000000 in
set_option maxRecDepth 100000 in
theorem play97.calls (k : Nat) (l : List S96) (wk : Int) (is : List Int) (A2 : Option Addr) (c2 : Nat) (picks : List Int) (r : List S46) (w0 w : World) (g gi : Nat) (A1 : Option Addr) (c1 : Nat) (hP : PoolAt w g gi A1 c1 l wk is) (hB : Below w0.heap.size w0 w) (hl : Kd.C k96 w0 A1 l.length l) (hgi : w0.heap.size ≤ gi) (hne : g ≠ gi) (hr2 : Kd.C (Kd.int .i64) w0 A2 picks.length picks) (hc2 : picks.length ≤ c2) (h : playL l wk picks k 0 is [] = some r) :
    Calls Try.prog 97 #[.pointer (some ⟨g, 0, none⟩), .slice A2 picks.length c2, .int .i64 0] w fun e w' => ∃ (v0_ : Value) (q : Int), e = .returned (.tuple #[v0_, .int .i64 q]) ∧ Kd.R k46 46 w' w0.heap.size (fun _ => True) v0_ r ∧ Below w0.heap.size w0 w' := by
  have HP := Aside0.mk hP
  have HB := Aside0.mk hB
  have HL := Aside0.mk hl
  have HGI := Aside0.mk hgi
  have HNE := Aside0.mk hne
  have HR2 := Aside0.mk hr2
  have HC2 := Aside0.mk hc2
  have H := Aside0.mk h
  clear hP hB hl hgi hne hr2 hc2 h
  go_enter Try.func97, Try.ntmps97
  go_wp2_with (first | ((with_reducible refine gate_dst (N := 11) rfl ?_); refine Kd.R_lit k46 _ 46 ?hg (N := 11) ?hd (xs := ([] : List S46)) (inner := []) (ok := fun b => b ≠ gi) (okp := fun _ => False) ?hr ?hp (fun _ hk => hk.elim) ?hf (Below.refl _ _) (Nat.le_refl _) (by simp) ?_; (case hd => rfl); (case hg => rfl); (case hr => first | (go_simp; done) | (go_simp; rfl)); (case hp => exact (Reps.none _ _)); (case hf => have := blk_lt HP.out.tasks; omega); intro v1 w3 ho hb hg_ hnew_; clear hg_ hnew_; have HO := Aside0.mk (Kd.R_lower ho HB.out.size); have HP3 := Aside0.mk (HP.out.below hb); have HB3 := Aside0.mk (below_step HB.out hb); clear HB HP ho hb))
  go_loopg [2, 8] k (fun kq v2 v8 w' => ∃ (fr : Nat) (is : List Int) (out : List S46), v2 = .int .i64 (fr : Int) ∧ Aside0 (playL l wk picks kq fr is out = some r) ∧ Aside0 (PoolAt w' g gi A1 c1 l wk is) ∧ Aside0 (Kd.R k46 46 w' w0.heap.size (fun b => b ≠ gi) v8 out) ∧ Aside0 (Below w0.heap.size w0 w') ∧ Aside0 (out.length ≤ fr))
  case atStart => exact ⟨0, is, [], rfl, H, HP3, HO, HB3, ⟨by simp⟩⟩
  case round =>
    clear H HP3 HO HB3
    obtain ⟨fr, is, out, rfl, H, HP, HO, HB, HOL⟩ := hrel
    cases gk with
    | zero => exact absurd H.out (by simp [playL])
    | succ k1 =>
      have hh := H.out
      clear H
      have hmv := fun w1 hP => moves79.calls l wk is w1 g gi A1 c1 hP
      have hmem := @movesL_mem l wk is
      have hml := movesL_len l wk is
      have hu : playL l wk picks (k1 + 1) fr is out = if (movesL l wk is).length = 0 then some out else if 1000 ≤ fr then none else
        ((if fr < picks.length then impl_modulo.f (rd picks (fr : Int)) ((movesL l wk is).length : Int) else some 0) : Option Int).bind fun j => if 0 ≤ j ∧ j < ((movesL l wk is).length : Int) then playL l wk picks k1 (fr + 1) (doL is (rd_T46 (movesL l wk is) j).f1) (out ++ [rd_T46 (movesL l wk is) j]) else none := rfl
      rw [hu] at hh
      clear hu
      generalize movesL l wk is = ml at hh hmv hmem hml
      by_cases cz : ml.length = 0
      · rw [if_pos cz] at hh
        obtain rfl := Option.some.inj hh
        obtain rfl := List.length_eq_zero_iff.1 cz
        clear cz hh hmem hml
        go_wp2_with (first | (go_at_call 79; (with_reducible refine (hmv _ HP.out).mono ?_); rintro e w5 ⟨v0, rfl, ho, hb⟩; obtain ⟨A5, c5, rfl⟩ := Kd.R_slice ho; have HO5 := Aside0.mk (Kd.R_below HO.out hb); have HB5 := Aside0.mk (below_step HB.out hb); clear ho hb HO HB))
        go_ret2
        exact ⟨_, _, rfl, Kd.R_mono HO5.out (fun _ _ => trivial), HB5.out⟩
      · rw [if_neg cz] at hh
        by_cases cf : 1000 ≤ fr
        · rw [if_pos cf] at hh
          cases hh
        · rw [if_neg cf] at hh
          obtain ⟨j, hj, hh⟩ := Option.bind_eq_some_iff.mp hh
          by_cases cj : 0 ≤ j ∧ j < (ml.length : Int)
          · rw [if_pos cj] at hh
            have hmi : rd_T46 ml j ∈ ml := by
              unfold rd_T46
              rw [List.getD_eq_getElem?_getD, List.getElem?_eq_getElem (by omega)]
              exact List.getElem_mem _
            obtain ⟨t, ht1, ht2, ht3⟩ := hmem hmi
            clear hmem hml
            have HT := Aside0.mk ht1
            have HV := Aside0.mk (show 0 ≤ rd is (t : Int) ∧ rd is (t : Int) ≤ 1000 by rcases ht3 with h3 | h3 <;> omega)
            have cz1 : ((ml.length : Int) == 0) = false := beq_eq_false_iff_ne.2 (by omega)
            have HFR := Aside0.mk (show fr ≤ 1000 by omega)
            have HJ := Aside0.mk cj
            clear ht1 ht3 cz
            obtain ⟨p0, q0⟩ := cj
            obtain ⟨m0, hm0⟩ : ∃ m0, m0 = (rd_T46 ml j).f0 := ⟨_, rfl⟩
            have HH : Aside0 (playL l wk picks k1 (fr + 1) (doL is (t : Int)) (out ++ [⟨m0, (t : Int)⟩]) = some r) := ⟨by
              have e : rd_T46 ml j = ⟨m0, (t : Int)⟩ := by rw [hm0, ← ht2]
              rw [ht2, e] at hh
              exact hh⟩
            have HE0 := Aside0.mk hm0
            have HE1 := Aside0.mk ht2
            clear hh hmi hm0 ht2
            by_cases cp : fr < picks.length
            · rw [if_pos cp] at hj
              have cpb : decide ((fr : Int) < (picks.length : Int)) = true := by simpa using cp
              have HMJ := Aside0.mk hj
              obtain ⟨ad2, ead2, hx2⟩ := Kd.at_int HR2.out (fr : Int) (by omega) (by omega)
              cases ead2
              rw [Int.toNat_natCast] at hx2
              clear hj
              replace p0 := eq_true p0
              replace q0 := eq_true q0
              go_wp2_with (first | (go_at_call 79; (with_reducible refine (hmv _ HP.out).mono ?_); rintro e w5 ⟨v0, rfl, ho, hb⟩; obtain ⟨A5, c5, rfl⟩ := Kd.R_slice ho; have HM5 := Aside0.mk (Kd.R_mono (Kd.R_bound ho) (ok' := fun b => b ≠ gi) (fun b hk => by have := hk.2.1; have := blk_lt HP.out.tasks; omega)); have HO5 := Aside0.mk (Kd.R_below HO.out hb); have HB5 := Aside0.mk (below_step HB.out hb); have HP5 := Aside0.mk (HP.out.below hb); clear ho hb HO HB HP; replace hx2 := (HB5.out.cell (World.block_lt_of_cell? w0 _ hx2)).trans hx2) | (go_at_call 134; (with_reducible refine (impl_modulo.calls _ _ _ _ HMJ.out).mono ?_); rintro e w6 ⟨rfl, hd6⟩; have hb6 : Below w5.heap.size w5 w6 := (by obtain ⟨nd, rfl⟩ := hd6; exact pw_below_drewN (Below.refl _ _) _); have HM6 := Aside0.mk (Kd.R_below HM5.out hb6); have HO6 := Aside0.mk (Kd.R_below HO5.out hb6); have HB6 := Aside0.mk (below_step HB5.out hb6); have HP6 := Aside0.mk (HP5.out.below hb6); clear HM5 HO5 HB5 HP5 hb6 hd6 hx2; obtain ⟨ad5, ead5, hx5, hy5⟩ := at_T46 (Kd.R_reads' HM6.out).2.2 j HJ.out.1 HJ.out.2; cases ead5; rw [HE1.out] at hy5; rw [← HE0.out] at hx5) | (go_at_call 80; (with_reducible refine (doP.calls m0 t l wk is w0 w6 g gi A1 c1 HP6.out HB6.out HL.out HGI.out HNE.out HT.out HV.out).mono ?_); rintro e w7 ⟨rfl, hp7, hb7, hk7⟩; have HP7 := Aside0.mk hp7; have HB7 := Aside0.mk hb7; have HO7 := Aside0.mk (Kd.R_keep HO6.out hk7 (fun _ hk => hk)); have HM7 := Aside0.mk (Kd.R_keep HM6.out hk7 (fun _ hk => hk)); clear HO6 HM6 HP6 HB6 hk7 hp7 hb7 hx5 hy5; obtain ⟨ad7, ead7, hx7, hy7⟩ := at_T46 (Kd.R_reads' HM7.out).2.2 j HJ.out.1 HJ.out.2; cases ead7; rw [HE1.out] at hy7; rw [← HE0.out] at hx7) | (at_builtin; refine Kd.R_append k46 (w0 := w0) w0.heap.size rfl (.tmp 38) (.tmp 43) 32 46 (.agg #[(.int .i64 0), (.int .i64 0)]) 16 rfl Try.underlying32 info46 rfl (by decide) (by omega) _ out ⟨m0, (t : Int)⟩ [.int .i64 m0, .int .i64 (t : Int)] (fun b => b ≠ gi) (fun _ => False) rfl ?aX ?aP (fun _ hk => hk.elim) ?aF ?aO ?aB ?aS ?aL ?_; (case aX => rfl); (case aP => exact k46_mkM _ _ _ _); (case aF => exact fun b hb => by have := blk_lt HP7.out.tasks; omega); (case aO => exact HO7.out); (case aB => exact HB7.out); (case aS => exact below_size HB7.out); (case aL => have := HOL.out; have := HFR.out; omega); intro v8 w8 ho8 hb8 hg8 hat8; have HO8 := Aside0.mk ho8; have HB8 := Aside0.mk hb8; have HP8 := Aside0.mk (show PoolAt w8 g gi A1 c1 l wk (doL is (t : Int)) from PoolAt.grown HP7.out hg8 (by have := Kd.R_away HO7.out (fun _ hk => hk); exact this) (Kd.R_ne HO7.out HP7.out.own (by decide)) (Kd.C_below HL.out hb8)); clear ho8 hb8 hg8 hat8 HO7 HB7 HP7 HM7 hx7 hy7))
              go_roundg k1
              case measure => omega
              case rel => exact ⟨fr + 1, doL is (t : Int), out ++ [⟨m0, (t : Int)⟩], (by first | rfl | rw [pW fr (by have := HFR.out; omega)]), HH, HP8, HO8, HB8, ⟨by rw [List.length_append]; have := HOL.out; simp; omega⟩⟩
            · rw [if_neg cp] at hj
              obtain rfl := Option.some.inj hj
              have cpb : decide ((fr : Int) < (picks.length : Int)) = false := by simpa using cp
              clear hj
              have q0n : (0 < ml.length) = True := eq_true (by omega)
              replace p0 := eq_true p0
              replace q0 := eq_true q0
              go_wp2_with (first | (go_at_call 79; (with_reducible refine (hmv _ HP.out).mono ?_); rintro e w5 ⟨v0, rfl, ho, hb⟩; obtain ⟨A5, c5, rfl⟩ := Kd.R_slice ho; have HM5 := Aside0.mk (Kd.R_mono (Kd.R_bound ho) (ok' := fun b => b ≠ gi) (fun b hk => by have := hk.2.1; have := blk_lt HP.out.tasks; omega)); have HO5 := Aside0.mk (Kd.R_below HO.out hb); have HB5 := Aside0.mk (below_step HB.out hb); have HP5 := Aside0.mk (HP.out.below hb); clear ho hb HO HB HP; obtain ⟨ad5, ead5, hx5, hy5⟩ := at_T46 (Kd.R_reads' HM5.out).2.2 0 HJ.out.1 HJ.out.2; cases ead5; rw [addr0] at hx5 hy5; rw [HE1.out] at hy5; rw [← HE0.out] at hx5) | (go_at_call 80; (with_reducible refine (doP.calls m0 t l wk is w0 w5 g gi A1 c1 HP5.out HB5.out HL.out HGI.out HNE.out HT.out HV.out).mono ?_); rintro e w7 ⟨rfl, hp7, hb7, hk7⟩; have HP7 := Aside0.mk hp7; have HB7 := Aside0.mk hb7; have HO7 := Aside0.mk (Kd.R_keep HO5.out hk7 (fun _ hk => hk)); have HM7 := Aside0.mk (Kd.R_keep HM5.out hk7 (fun _ hk => hk)); clear HO5 HM5 HP5 HB5 hk7 hp7 hb7 hx5 hy5; obtain ⟨ad7, ead7, hx7, hy7⟩ := at_T46 (Kd.R_reads' HM7.out).2.2 0 HJ.out.1 HJ.out.2; cases ead7; rw [addr0] at hx7 hy7; rw [HE1.out] at hy7; rw [← HE0.out] at hx7) | (at_builtin; refine Kd.R_append k46 (w0 := w0) w0.heap.size rfl (.tmp 38) (.tmp 43) 32 46 (.agg #[(.int .i64 0), (.int .i64 0)]) 16 rfl Try.underlying32 info46 rfl (by decide) (by omega) _ out ⟨m0, (t : Int)⟩ [.int .i64 m0, .int .i64 (t : Int)] (fun b => b ≠ gi) (fun _ => False) rfl ?aX ?aP (fun _ hk => hk.elim) ?aF ?aO ?aB ?aS ?aL ?_; (case aX => rfl); (case aP => exact k46_mkM _ _ _ _); (case aF => exact fun b hb => by have := blk_lt HP7.out.tasks; omega); (case aO => exact HO7.out); (case aB => exact HB7.out); (case aS => exact below_size HB7.out); (case aL => have := HOL.out; have := HFR.out; omega); intro v8 w8 ho8 hb8 hg8 hat8; have HO8 := Aside0.mk ho8; have HB8 := Aside0.mk hb8; have HP8 := Aside0.mk (show PoolAt w8 g gi A1 c1 l wk (doL is (t : Int)) from PoolAt.grown HP7.out hg8 (by have := Kd.R_away HO7.out (fun _ hk => hk); exact this) (Kd.R_ne HO7.out HP7.out.own (by decide)) (Kd.C_below HL.out hb8)); clear ho8 hb8 hg8 hat8 HO7 HB7 HP7 HM7 hx7 hy7))
              go_roundg k1
              case measure => omega
              case rel => exact ⟨fr + 1, doL is (t : Int), out ++ [⟨m0, (t : Int)⟩], (by first | rfl | rw [pW fr (by have := HFR.out; omega)]), HH, HP8, HO8, HB8, ⟨by rw [List.length_append]; have := HOL.out; simp; omega⟩⟩
          · rw [if_neg cj] at hh
            cases hh
def impl_PoolRun.f (k : Nat) (a0 : Int) (l1 : List S96) (a2 : Int) (l3 : List Int) : Option (List S46 × Bool) :=
  (impl_isPool.f k a0 l1 a2).bind fun b => if b = true then (if 2000 < l3.length then some ([], false) else if fitB a0 l1 = true then ((playL l1 a2 l3 k 0 (List.replicate a0.toNat 0) []).bind fun out => some (out, true)) else none) else some ([], false)
theorem impl_PoolRun.mono : ∀ a0 a1 a2 a3 k, LeO (impl_PoolRun.f k a0 a1 a2 a3) (impl_PoolRun.f (k + 1) a0 a1 a2 a3) := by
  intro a0 a1 a2 a3 k
  unfold impl_PoolRun.f
  exact LeO.bind (impl_isPool.mono _ _ _ _) (fun _ => LeO.ite (LeO.ite (LeO.refl _) (LeO.ite (LeO.bind (playL.mono _ _ _ _ _ _ _) (fun _ => LeO.refl _)) (LeO.refl _))) (LeO.refl _))
set_option maxHeartbeats 8000000 in
set_option maxRecDepth 100000 in
theorem impl_PoolRun.calls (k : Nat) (a0 : Int) (A1 : Option Addr) (c1 : Nat) (l1 : List S96) (a2 : Int) (A3 : Option Addr) (c3 : Nat) (l3 : List Int) (r1 : List S46) (r2 : Bool) (w : World) (hr1 : Kd.C k96 w A1 l1.length l1) (hc1 : l1.length ≤ c1) (hr3 : Kd.C (Kd.int .i64) w A3 l3.length l3) (hc3 : l3.length ≤ c3) (h : impl_PoolRun.f k a0 l1 a2 l3 = some (r1, r2)) :
    Calls Try.prog 42 #[.int .i64 a0, .slice A1 l1.length c1, .int .i64 a2, .slice A3 l3.length c3] w fun e w' => ∃ v0_ : Value, e = .returned (.tuple #[v0_, .bool r2]) ∧ Kd.R k46 46 w' w.heap.size (fun _ => True) v0_ r1 ∧ Below w.heap.size w w' := by
  have HR1 := Aside0.mk hr1
  have HC1 := Aside0.mk hc1
  have HR3 := Aside0.mk hr3
  have HC3 := Aside0.mk hc3
  clear hr1 hc1 hr3 hc3
  unfold impl_PoolRun.f at h
  obtain ⟨b, e1, h⟩ := Option.bind_eq_some_iff.mp h
  have E1 := Aside0.mk e1
  clear e1
  cases b with
  | false =>
    rw [if_neg (by simp)] at h
    injection h with h
    injection h with h1 h2
    subst h1 h2
    go_enter Try.func42, Try.ntmps42
    go_wp2_with (first | (go_at_call 77; (with_reducible refine (impl_isPool.calls k a0 _ _ l1 a2 false _ HR1.out HC1.out E1.out).mono ?_); rintro e w1 ⟨rfl, hb1⟩; have HB1 := Aside0.mk hb1; clear hb1))
    go_ret2
    exact ⟨_, rfl, Kd.R_nil _ _ _ _ _, HB1.out⟩
  | true =>
    rw [if_pos rfl] at h
    by_cases hbig : 2000 < l3.length
    · rw [if_pos hbig] at h
      injection h with h
      injection h with h1 h2
      subst h1 h2
      have hbb : decide (2000 < (l3.length : Int)) = true := decide_eq_true (by omega)
      have hbb2 : decide (2000 < l3.length) = true := decide_eq_true hbig
      clear hbig
      go_enter Try.func42, Try.ntmps42
      go_wp2_with (first | (go_at_call 77; (with_reducible refine (impl_isPool.calls k a0 _ _ l1 a2 true _ HR1.out HC1.out E1.out).mono ?_); rintro e w1 ⟨rfl, hb1⟩; have HB1 := Aside0.mk hb1; clear hb1))
      go_ret2
      exact ⟨_, rfl, Kd.R_nil _ _ _ _ _, HB1.out⟩
    · rw [if_neg hbig] at h
      have hbb : decide (2000 < (l3.length : Int)) = false := decide_eq_false (by omega)
      have hbb2 : decide (2000 < l3.length) = false := decide_eq_false hbig
      by_cases hf : fitB a0 l1 = true
      · rw [if_pos hf] at h
        obtain ⟨out, ho, h⟩ := Option.bind_eq_some_iff.mp h
        injection h with h
        injection h with h1 h2
        subst h1 h2
        unfold fitB at hf
        rw [Bool.and_eq_true, Bool.and_eq_true] at hf
        obtain ⟨⟨hn0, hn1⟩, hfit⟩ := hf
        replace hn0 := of_decide_eq_true hn0
        replace hn1 := of_decide_eq_true hn1
        obtain ⟨n, rfl⟩ : ∃ n : Nat, a0 = (n : Int) := ⟨a0.toNat, by omega⟩
        rw [Int.toNat_natCast] at ho
        have HH := Aside0.mk ho
        have HN := Aside0.mk (show n ≤ 16 by omega)
        have HFIT := Aside0.mk (show ∀ e ∈ l1, 0 ≤ e.f0 ∧ e.f0 < (n : Int) from fun e he => by
          have := List.all_eq_true.1 hfit e he
          rw [Bool.and_eq_true] at this
          exact ⟨of_decide_eq_true this.1, of_decide_eq_true this.2⟩)
        have hmk := mkInts n (by omega)
        clear ho hn1 hfit hbig
        go_enter Try.func42, Try.ntmps42
        go_wp2_with (first | (go_at_call 77; (with_reducible refine (impl_isPool.calls k (n : Int) _ _ l1 a2 true _ HR1.out HC1.out E1.out).mono ?_); rintro e w1 ⟨rfl, hb1⟩; have HB1 := Aside0.mk hb1; clear hb1) | (go_at_call 97; obtain ⟨w2, hw2⟩ : ∃ w2, w2 = (w1.alloc (.cells (isA (List.replicate n 0)) 3)).alloc (.cells #[.slice A1 l1.length c1, .int .i64 a2, .slice (some ⟨w1.heap.size, 0, none⟩) n n] 111) := ⟨_, rfl⟩; rw [← hw2]; have hsz := HB1.out.size; obtain ⟨gi, hgi⟩ : ∃ gi, gi = w1.heap.size := ⟨_, rfl⟩; obtain ⟨g, hg⟩ : ∃ g, g = gi + 1 := ⟨_, rfl⟩; have HB2 := Aside0.mk (show Below w.heap.size w w2 by rw [hw2]; exact below_alloc (below_alloc HB1.out _) _); have HP := Aside0.mk (newPool (a2 := a2) hw2 (Kd.C_below HR1.out HB2.out) HC1.out HN.out HFIT.out); rw [← hgi, ← hg]; rw [← hgi, ← hg] at HP; (with_reducible refine (play97.calls k l1 a2 (List.replicate n 0) _ _ l3 out w w2 g gi A1 c1 HP.out HB2.out HR1.out (by omega) (by omega) HR3.out HC3.out HH.out).mono ?_); rintro e w3 ⟨v0, q, rfl, ho, hb⟩; have HO3 := Aside0.mk ho; have HB3 := Aside0.mk hb; clear ho hb HP))
        go_ret2
        exact ⟨_, rfl, HO3.out, HB3.out⟩
      · rw [if_neg hf] at h
        cases h

/-! ### laws_eqIntS: function 43 -/
def laws_eqIntS.l0 : Nat → List Int → List Int → Int → Option (Bool)
  | 0, _, _, _ => none
  | k + 1, x0, x1, x5 => if x5 < (x0.length : Int) then (if 0 ≤ x5 then (if x5 < (x1.length : Int) then (if (rd x0 x5) = (rd x1 x5) then (laws_eqIntS.l0 k x0 x1 (wrap64 (x5 + 1))) else (none)) else (none)) else (none)) else (some true)
def laws_eqIntS.f (k : Nat) (l0 : List Int) (l1 : List Int) : Option (Bool) := if (l0.length : Int) = (l1.length : Int) then (laws_eqIntS.l0 k l0 l1 0) else (none)
theorem laws_eqIntS.mono_l : ∀ k, (∀ y0 y1 y2, LeO (laws_eqIntS.l0 k y0 y1 y2) (laws_eqIntS.l0 (k + 1) y0 y1 y2))
  | 0 => fun _ _ _ r h => by simp [laws_eqIntS.l0] at h
  | k + 1 => by
    have ih0 := laws_eqIntS.mono_l k
    · intro y0 y1 y2
      unfold laws_eqIntS.l0
      repeat' first
      | (with_reducible exact ih0 _ _ _)
      | (with_reducible exact LeO.refl _)
      | (with_reducible exact LeO.none _)
      | (with_reducible refine LeO.ite ?_ ?_)
      | (with_reducible refine LeO.bind ?_ (fun _ => ?_))
      | exact ih0 _ _ _
      | exact LeO.none _
      | refine LeO.ite ?_ ?_
      | refine LeO.bind ?_ (fun _ => ?_)
theorem laws_eqIntS.mono : ∀ a0 a1 k, LeO (laws_eqIntS.f k a0 a1) (laws_eqIntS.f (k + 1) a0 a1) := by
  intro a0 a1 k
  have ih0 := laws_eqIntS.mono_l k
  unfold laws_eqIntS.f
  repeat' first
      | (with_reducible exact ih0 _ _ _)
      | (with_reducible exact LeO.refl _)
      | (with_reducible exact LeO.none _)
      | (with_reducible refine LeO.ite ?_ ?_)
      | (with_reducible refine LeO.bind ?_ (fun _ => ?_))
      | exact ih0 _ _ _
      | exact LeO.none _
      | refine LeO.ite ?_ ?_
      | refine LeO.bind ?_ (fun _ => ?_)
set_option maxHeartbeats 8000000 in
set_option maxRecDepth 100000 in
theorem laws_eqIntS.calls (k : Nat) (A0 : Option Addr) (c0 : Nat) (l0 : List Int) (A1 : Option Addr) (c1 : Nat) (l1 : List Int) (r : Bool) (w : World) (hr0 : Kd.C (Kd.int .i64) w A0 l0.length l0) (hc0 : l0.length ≤ c0) (hr1 : Kd.C (Kd.int .i64) w A1 l1.length l1) (hc1 : l1.length ≤ c1) (h : laws_eqIntS.f k l0 l1 = some r) :
    Calls Try.prog 43 #[.slice A0 l0.length c0, .slice A1 l1.length c1] w fun e w' => e = .returned (.bool r) ∧ Drawn0 w w' := by
  have HR0 := Aside0.mk hr0
  have HC0 := Aside0.mk hc0
  clear hr0 hc0
  have HR1 := Aside0.mk hr1
  have HC1 := Aside0.mk hc1
  clear hr1 hc1
  have H : (if (l0.length : Int) = (l1.length : Int) then (laws_eqIntS.l0 k l0 l1 0) else (none)) = some r := h
  clear h
  by_cases c3 : (l0.length : Int) = (l1.length : Int)
  · rw [if_pos c3] at H
    have c3b0 : ((l0.length : Int) == (l1.length : Int)) = true := beq_iff_eq.mpr c3
    have c3b1 : ((l0.length : Int) != (l1.length : Int)) = false := bne_eq_false_iff_eq.mpr c3
    have c3b2 : (l0.length == l1.length) = true := by first | simpa using c3 | (simp at c3 ⊢; omega)
    clear c3
    have H' := Aside0.mk H
    clear H
    go_enter Try.func43, Try.ntmps43
    go_wp2
    repeat (go_quiet (fail); try go_wp2)
    go_loopg [5] k (fun kq v5 w' => ∃ (x5_1 : Int), v5 = .int .i64 x5_1 ∧ Aside0 (laws_eqIntS.l0 kq l0 l1 x5_1 = some r) ∧ Aside0 (kq ≤ k) ∧ Drawn0 w w')
    case atStart => exact ⟨(0), (by first | rfl | (simp; done) | (simp [*]; done)), H', ⟨Nat.le_refl _⟩, by repeat (first | exact Drawn0.refl _ | apply Drawn0.step)⟩
    case round =>
      clear H'
      try clear c1
      try clear p2
      try clear c3
      try clear c3b0
      try clear c3b1
      try clear c3b2
      obtain ⟨x5_1, rfl, HA, HK1, ⟨m1, rfl⟩⟩ := hrel
      cases gk with
      | zero => exact absurd HA.out (by simp [laws_eqIntS.l0])
      | succ k1 =>
        have H := HA.out
        clear HA
        simp only [laws_eqIntS.l0] at H
        by_cases c4 : x5_1 < (l0.length : Int)
        · rw [if_pos c4] at H
          have c4b0 : decide (x5_1 < (l0.length : Int)) = true := decide_eq_true c4
          clear c4
          by_cases c5 : 0 ≤ x5_1
          · rw [if_pos c5] at H
            have c5b0 : decide (0 ≤ x5_1) = true := decide_eq_true c5
            clear c5
            by_cases c6 : x5_1 < (l1.length : Int)
            · rw [if_pos c6] at H
              have c6b0 : decide (x5_1 < (l1.length : Int)) = true := decide_eq_true c6
              clear c6
              by_cases c7 : (rd l0 x5_1) = (rd l1 x5_1)
              · rw [if_pos c7] at H
                have c7b0 : ((rd l0 x5_1) == (rd l1 x5_1)) = true := beq_iff_eq.mpr c7
                have c7b1 : ((rd l0 x5_1) != (rd l1 x5_1)) = false := bne_eq_false_iff_eq.mpr c7
                clear c7
                have H' := Aside0.mk H
                clear H
                have p201 : 0 ≤ (x5_1 : Int) := of_decide_eq_true (by first | (with_reducible assumption) | assumption)
                have q201 : x5_1 < (l0.length : Int) := of_decide_eq_true (by first | (with_reducible assumption) | assumption)
                obtain ⟨ad201, e201, hx201_0⟩ := Kd.at_int HR0.out x5_1 p201 q201
                cases e201
                replace p201 := eq_true p201
                replace q201 := eq_true q201
                have p202 : 0 ≤ (x5_1 : Int) := of_decide_eq_true (by first | (with_reducible assumption) | assumption)
                have q202 : x5_1 < (l1.length : Int) := of_decide_eq_true (by first | (with_reducible assumption) | assumption)
                obtain ⟨ad202, e202, hx202_0⟩ := Kd.at_int HR1.out x5_1 p202 q202
                cases e202
                replace p202 := eq_true p202
                replace q202 := eq_true q202
                go_wp2
                repeat (go_quiet (fail); try go_wp2)
                go_roundg k1
                case measure => have := HK1.out; omega
                case rel => exact ⟨(wrap64 (x5_1 + 1)), (by first | rfl | (simp; done) | (simp [*]; done)), H', ⟨by have := HK1.out; omega⟩, by repeat (first | exact Drawn0.refl _ | apply Drawn0.step)⟩
              · rw [if_neg c7] at H
                exact absurd H (by simp)
            · rw [if_neg c6] at H
              exact absurd H (by simp)
          · rw [if_neg c5] at H
            exact absurd H (by simp)
        · rw [if_neg c4] at H
          have c4b0 : decide (x5_1 < (l0.length : Int)) = false := decide_eq_false c4
          clear c4
          obtain rfl := Option.some.inj H
          go_wp2
          repeat (go_quiet (fail); try go_wp2)
          go_ret
          exact ⟨by first | rfl | (simp; done) | (simp [*]; done), by repeat (first | exact Drawn0.refl _ | apply Drawn0.step)⟩
  · rw [if_neg c3] at H
    exact absurd H (by simp)

/-! ### laws_markIntS: function 44 -/
def laws_markIntS.l0 : Nat → List Int → Int → Int → Option (Int × List Int)
  | 0, _, _, _ => none
  | k + 1, x0, x1, x5 => if x5 < (x0.length : Int) then (if 0 ≤ x5 then (laws_markIntS.l0 k (x0.set (x5 : Int).toNat x1) (wrap64 (x1 + 1)) (wrap64 (x5 + 1))) else (none)) else (some (x1, x0))
def laws_markIntS.f (k : Nat) (l0 : List Int) (a1 : Int) : Option (Int × List Int) := laws_markIntS.l0 k l0 a1 0
theorem laws_markIntS.mono_l : ∀ k, (∀ y0 y1 y2, LeO (laws_markIntS.l0 k y0 y1 y2) (laws_markIntS.l0 (k + 1) y0 y1 y2))
  | 0 => fun _ _ _ r h => by simp [laws_markIntS.l0] at h
  | k + 1 => by
    have ih0 := laws_markIntS.mono_l k
    · intro y0 y1 y2
      unfold laws_markIntS.l0
      repeat' first
      | (with_reducible exact ih0 _ _ _)
      | (with_reducible exact LeO.refl _)
      | (with_reducible exact LeO.none _)
      | (with_reducible refine LeO.ite ?_ ?_)
      | (with_reducible refine LeO.bind ?_ (fun _ => ?_))
      | exact ih0 _ _ _
      | exact LeO.none _
      | refine LeO.ite ?_ ?_
      | refine LeO.bind ?_ (fun _ => ?_)
theorem laws_markIntS.mono : ∀ a0 a1 k, LeO (laws_markIntS.f k a0 a1) (laws_markIntS.f (k + 1) a0 a1) := by
  intro a0 a1 k
  have ih0 := laws_markIntS.mono_l k
  unfold laws_markIntS.f
  repeat' first
      | (with_reducible exact ih0 _ _ _)
      | (with_reducible exact LeO.refl _)
      | (with_reducible exact LeO.none _)
      | (with_reducible refine LeO.ite ?_ ?_)
      | (with_reducible refine LeO.bind ?_ (fun _ => ?_))
      | exact ih0 _ _ _
      | exact LeO.none _
      | refine LeO.ite ?_ ?_
      | refine LeO.bind ?_ (fun _ => ?_)
set_option maxHeartbeats 8000000 in
set_option maxRecDepth 100000 in
theorem laws_markIntS.calls (k : Nat) (P0_ : Nat → Prop) (u9000_ : Value) (l0 : List Int) (a1 : Int) (r1 : Int) (r2 : List Int) (w0 w : World) (hB : Below w0.heap.size w0 w) (ho0 : Kd.R (Kd.int .i64) 3 w w0.heap.size P0_ u9000_ l0) (h : laws_markIntS.f k l0 a1 = some (r1, r2)) :
    Calls Try.prog 44 #[u9000_, .int .i64 a1] w fun e w' => e = .returned (.int .i64 r1) ∧ Kd.R (Kd.int .i64) 3 w' w0.heap.size (fun k_ => (P0_ k_ ∨ w.heap.size ≤ k_)) u9000_ r2 ∧ Below w0.heap.size w0 w' ∧ Kept w w' (fun k_ => P0_ k_) := by
  have HO0 := Aside0.mk (show Kd.R (Kd.int .i64) 3 w w0.heap.size (fun k_ => (P0_ k_ ∨ w.heap.size ≤ k_)) u9000_ l0 from Kd.R_mono ho0 (fun k_ hk => (.inl hk)))
  have HK := Aside0.mk (Kept.refl w (fun k_ => P0_ k_))
  have HW0 := Aside0.mk hB.size
  have HB := Aside0.mk hB
  clear hB
  have H : (laws_markIntS.l0 k l0 a1 0) = some (r1, r2) := h
  clear h
  have H' := Aside0.mk H
  clear H
  go_enter Try.func44, Try.ntmps44
  go_wp2
  go_loopg [1, 5] k (fun kq v1 v5 w' => ∃ (x0_1 : List Int) (x1_1 : Int) (x5_1 : Int), v1 = .int .i64 x1_1 ∧ v5 = .int .i64 x5_1 ∧ Aside0 (laws_markIntS.l0 kq x0_1 x1_1 x5_1 = some (r1, r2)) ∧ Aside0 (kq ≤ k) ∧ Aside0 (Kd.R (Kd.int .i64) 3 w' w0.heap.size (fun k_ => (P0_ k_ ∨ w.heap.size ≤ k_)) u9000_ x0_1) ∧ Aside0 (Kept w w' (fun k_ => P0_ k_)) ∧ Aside0 (Below w0.heap.size w0 w'))
  case atStart => exact ⟨(l0), (a1), (0), (by first | rfl | (simp; done) | (simp [*]; done)), (by first | rfl | (simp; done) | (simp [*]; done)), H', ⟨Nat.le_refl _⟩, ⟨by (with_reducible repeat (first | apply Kd.R_alloc | apply Kd.R_drewN | apply Kd.R_drew)); exact HO0.out⟩, ⟨by repeat (first | (with_reducible first | exact HK.out | apply Kept.alloc | apply Kept.drewN | apply Kept.drew) | exact HK.out)⟩, ⟨by repeat (first | (with_reducible first | exact HB.out | apply below_alloc | apply pw_below_drewN | apply below_drew1) | exact HB.out)⟩⟩
  case round =>
    clear H'
    try clear p2
    obtain ⟨x0_1, x1_1, x5_1, rfl, rfl, HA, HK1, HO_0, HK, HB⟩ := hrel
    cases gk with
    | zero => exact absurd HA.out (by simp [laws_markIntS.l0])
    | succ k1 =>
      have H := HA.out
      clear HA
      simp only [laws_markIntS.l0] at H
      by_cases c3 : x5_1 < (x0_1.length : Int)
      · rw [if_pos c3] at H
        have c3b0 : decide (x5_1 < (x0_1.length : Int)) = true := decide_eq_true c3
        clear c3
        by_cases c4 : 0 ≤ x5_1
        · rw [if_pos c4] at H
          have c4b0 : decide (0 ≤ x5_1) = true := decide_eq_true c4
          clear c4
          obtain ⟨y203, hy203⟩ : ∃ y_ : List Int, y_ = (x0_1.set (x5_1 : Int).toNat x1_1) := ⟨_, rfl⟩
          replace H : (laws_markIntS.l0 k1 y203 (wrap64 (x1_1 + 1)) (wrap64 (x5_1 + 1))) = some (r1, r2) := by first | (rw [hy203]; with_reducible exact H) | (have H2_ := (Option.bind_some _ _).symm.trans H; rw [hy203]; with_reducible exact H2_) | (have H2_ := (Option.bind_some _ _).symm.trans H; with_reducible exact H2_) | with_reducible exact H | (rw [hy203]; exact H) | exact H
          have Ny203 := Aside0.mk hy203
          clear hy203
          have H' := Aside0.mk H
          clear H
          obtain ⟨Ao6, co6, eo6⟩ := Kd.R_slice HO_0.out
          subst eo6
          have p5 : 0 ≤ (x5_1 : Int) := of_decide_eq_true (by first | (with_reducible assumption) | assumption)
          have q5 : (x5_1 : Int) < ((x0_1.length : Int) : Int) := of_decide_eq_true (by first | (with_reducible assumption) | assumption)
          obtain ⟨go5, co5, eo5, gb5, gl5, cl5, HG5⟩ := Kd.R_form HO_0.out (by omega)
          (first | cases eo5 | (injection eo5 with ea_ en_ ec_; (first | subst ea_ | (injection ea_ with ea_; subst ea_)); subst ec_; clear en_))
          have GB5 := Aside0.mk gb5
          have GG5 := Aside0.mk HG5
          clear gb5 gl5 HG5
          have HMgo5 := Aside0.mk (show (P0_ go5 ∨ w.heap.size ≤ go5) from (HO_0.out.1 _ rfl))
          obtain ⟨hx5_0, hf5_0⟩ := Kd.R_celln 0 HO_0.out (x5_1 : Int) p5 q5
          replace p5 := eq_true p5
          replace q5 := eq_true q5
          have HP7 := Kd.R_putg HO_0.out (x5_1 : Int) x1_1
          go_wp2_with (first | ((with_reducible refine gate_store (t := 3) (p := 15) rfl ?_); refine store_event (t := 3) (p := 15) (v := ?vo_w8) (w1 := (wr.setCell ⟨go5, (x5_1 : Int).toNat, none⟩ (.int .i64 x1_1))) ?hg ?ho ?hn ?hr ?_; (case ho => rfl); (case hg => rfl); (case hn => rfl); (case hr => first | (go_simp; done) | (go_simp; rfl)); intro w8 hw; have hg : wr.grownBy w8 (some go5) := (by rw [hw]; exact HP7.2); have hp_ : Kd.R (Kd.int .i64) 3 w8 w0.heap.size (fun k_ => (P0_ k_ ∨ w.heap.size ≤ k_)) (.slice (some ⟨go5, 0, none⟩) x0_1.length co6) y203 := (by rw [hw, Ny203.out]; exact HP7.1); clear HP7; have n0_ := Aside0.mk (hp_); have n1_ := Aside0.mk ((by rw [hw]; exact below_set (HB.out) GB5.out : Below w0.heap.size w0 w8)); have n2_ := Aside0.mk (Kept.of_grown (S := (fun k_ => P0_ k_)) hg (by repeat (first | (with_reducible first | exact HK.out | apply Kept.alloc | apply Kept.drewN | apply Kept.drew) | exact HK.out)) (fun k_ e_ => (HO_0.out.1 k_ e_))); clear HO_0; clear HB; clear HK; have HO_0 := n0_; have HB := n1_; have HK := n2_; clear n0_ n1_ n2_; clear hg hw hp_))
          go_roundg k1
          case measure => have := HK1.out; omega
          case rel => exact ⟨(y203), (wrap64 (x1_1 + 1)), (wrap64 (x5_1 + 1)), (by first | rfl | (simp; done) | (simp [*]; done)), (by first | rfl | (simp; done) | (simp [*]; done)), H', ⟨by have := HK1.out; omega⟩, ⟨by (with_reducible repeat (first | apply Kd.R_alloc | apply Kd.R_drewN | apply Kd.R_drew)); exact HO_0.out⟩, ⟨by repeat (first | (with_reducible first | exact HK.out | apply Kept.alloc | apply Kept.drewN | apply Kept.drew) | exact HK.out)⟩, ⟨by repeat (first | (with_reducible first | exact HB.out | apply below_alloc | apply pw_below_drewN | apply below_drew1) | exact HB.out)⟩⟩
        · rw [if_neg c4] at H
          exact absurd H (by simp)
      · rw [if_neg c3] at H
        have c3b0 : decide (x5_1 < (x0_1.length : Int)) = false := decide_eq_false c3
        clear c3
        simp only [Option.some.injEq, Prod.mk.injEq] at H
        obtain ⟨rfl, rfl⟩ := H
        obtain ⟨Ao9, co9, eo9⟩ := Kd.R_slice HO_0.out
        subst eo9
        go_wp2
        go_ret
        exact ⟨by first | rfl | (simp [errW_none, errW_some] <;> rfl) | (simp [*, errW_none, errW_some] <;> rfl), by (with_reducible repeat (first | apply Kd.R_alloc | apply Kd.R_drewN | apply Kd.R_drew)); exact HO_0.out, by repeat (first | (with_reducible first | exact HB.out | apply below_alloc | apply pw_below_drewN | apply below_drew1) | exact HB.out), by repeat (first | (with_reducible first | exact HK.out | apply Kept.alloc | apply Kept.drewN | apply Kept.drew) | exact HK.out)⟩

/-! ### laws_FnExactPoolRun: function 8 -/
def laws_FnExactPoolRun.f (k : Nat) (a0 : Int) (l1 : List (S98)) (a2 : Int) (l3 : List Int) : Option (Bool) := if (l3.length : Int) > 1048576 then (some true) else ((laws_szEdgeS.f l1 1048576).bind fun t204 => (if t204 < 0 then (some true) else ((laws_toEdgeS.f k l1).bind fun t205 => ((laws_toIntS.f k l3).bind fun t208 => ((spec_PoolRun.f k a0 t205 a2 t208).bind fun bt211 => ((laws_toEdgeS.f k l1).bind fun t215 => ((laws_toIntS.f k l3).bind fun t218 => ((impl_PoolRun.f k a0 t215 a2 t218).bind fun bt221 => ((laws_eqMoveS.f k bt221.1 bt211.1).bind fun t225 => (if t225 = true then (if (bt221.2 != bt211.2) = true then (none) else ((laws_toEdgeS.f k l1).bind fun t226 => ((laws_eqEdgeS.f k t215 t226).bind fun t229 => (if t229 = true then ((laws_toIntS.f k l3).bind fun t230 => ((laws_eqIntS.f k t218 t230).bind fun t233 => (if t233 = true then ((laws_markEdgeS.f k t215 1).bind fun bt234 => ((laws_markIntS.f k t218 bt234.1).bind fun bt236 => (if bt236.1 < 0 then (none) else ((laws_eqMoveS.f k bt221.1 bt211.1).bind fun t238 => (if t238 = true then ((laws_markMoveS.f k bt221.1 1).bind fun bt239 => ((laws_heldMoveS.f k bt239.2 1).bind fun t241 => (if t241 < 0 then (none) else (if t241 = bt239.1 then ((laws_toEdgeS.f k l1).bind fun t242 => ((laws_toIntS.f k l3).bind fun t245 => ((impl_PoolRun.f k a0 t242 a2 t245).bind fun bt248 => ((laws_eqMoveS.f k bt248.1 bt211.1).bind fun t252 => (if t252 = true then (if (bt248.2 != bt211.2) = true then (none) else ((laws_heldMoveS.f k bt239.2 1).bind fun t253 => (if t253 < 0 then (none) else (if t253 = bt239.1 then (some true) else (none))))) else (none)))))) else (none))))) else (none)))))) else (none)))) else (none))))) else (none)))))))))))
theorem laws_FnExactPoolRun.mono : ∀ a0 a1 a2 a3 k, LeO (laws_FnExactPoolRun.f k a0 a1 a2 a3) (laws_FnExactPoolRun.f (k + 1) a0 a1 a2 a3) := by
 intro a0 a1 a2 a3 k
 unfold laws_FnExactPoolRun.f
 repeat' first
   | (with_reducible exact impl_PoolRun.mono _ _ _ _ _)
   | (with_reducible exact laws_eqEdgeS.mono _ _ _)
   | (with_reducible exact laws_eqIntS.mono _ _ _)
   | (with_reducible exact laws_eqMoveS.mono _ _ _)
   | (with_reducible exact laws_heldMoveS.mono _ _ _)
   | (with_reducible exact laws_markEdgeS.mono _ _ _)
   | (with_reducible exact laws_markIntS.mono _ _ _)
   | (with_reducible exact laws_markMoveS.mono _ _ _)
   | (with_reducible exact laws_toEdgeS.mono _ _)
   | (with_reducible exact laws_toIntS.mono _ _)
   | (with_reducible exact spec_PoolRun.mono _ _ _ _ _)
   | (with_reducible exact LeO.refl _)
   | (with_reducible exact LeO.none _)
   | (with_reducible refine LeO.ite ?_ ?_)
   | (with_reducible refine LeO.bind ?_ (fun _ => ?_))
   | exact impl_PoolRun.mono _ _ _ _ _
   | exact laws_eqEdgeS.mono _ _ _
   | exact laws_eqIntS.mono _ _ _
   | exact laws_eqMoveS.mono _ _ _
   | exact laws_heldMoveS.mono _ _ _
   | exact laws_markEdgeS.mono _ _ _
   | exact laws_markIntS.mono _ _ _
   | exact laws_markMoveS.mono _ _ _
   | exact laws_toEdgeS.mono _ _
   | exact laws_toIntS.mono _ _
   | exact spec_PoolRun.mono _ _ _ _ _
   | exact LeO.none _
   | refine LeO.ite ?_ ?_
   | refine LeO.bind ?_ (fun _ => ?_)
set_option maxHeartbeats 8000000 in
set_option maxRecDepth 100000 in
theorem laws_FnExactPoolRun.calls (k : Nat) (a0 : Int) (A1 : Option Addr) (c1 : Nat) (l1 : List (S98)) (a2 : Int) (A3 : Option Addr) (c3 : Nat) (l3 : List Int) (r : Bool) (w : World) (hr1 : Kd.C k98 w A1 l1.length l1) (hc1 : l1.length ≤ c1) (hr3 : Kd.C (Kd.int .i64) w A3 l3.length l3) (hc3 : l3.length ≤ c3) (h : laws_FnExactPoolRun.f k a0 l1 a2 l3 = some r) :
  Calls Try.prog 8 #[.int .i64 a0, .slice A1 l1.length c1, .int .i64 a2, .slice A3 l3.length c3] w fun e w' => e = .returned (.bool r) ∧ Below w.heap.size w w' := by
 have HR1 := Aside0.mk hr1
 have HC1 := Aside0.mk hc1
 clear hr1 hc1
 have HR3 := Aside0.mk hr3
 have HC3 := Aside0.mk hc3
 clear hr3 hc3
 have HB := Aside0.mk (Below.refl w.heap.size w)
 have H : (if (l3.length : Int) > 1048576 then (some true) else ((laws_szEdgeS.f l1 1048576).bind fun t204 => (if t204 < 0 then (some true) else ((laws_toEdgeS.f k l1).bind fun t205 => ((laws_toIntS.f k l3).bind fun t208 => ((spec_PoolRun.f k a0 t205 a2 t208).bind fun bt211 => ((laws_toEdgeS.f k l1).bind fun t215 => ((laws_toIntS.f k l3).bind fun t218 => ((impl_PoolRun.f k a0 t215 a2 t218).bind fun bt221 => ((laws_eqMoveS.f k bt221.1 bt211.1).bind fun t225 => (if t225 = true then (if (bt221.2 != bt211.2) = true then (none) else ((laws_toEdgeS.f k l1).bind fun t226 => ((laws_eqEdgeS.f k t215 t226).bind fun t229 => (if t229 = true then ((laws_toIntS.f k l3).bind fun t230 => ((laws_eqIntS.f k t218 t230).bind fun t233 => (if t233 = true then ((laws_markEdgeS.f k t215 1).bind fun bt234 => ((laws_markIntS.f k t218 bt234.1).bind fun bt236 => (if bt236.1 < 0 then (none) else ((laws_eqMoveS.f k bt221.1 bt211.1).bind fun t238 => (if t238 = true then ((laws_markMoveS.f k bt221.1 1).bind fun bt239 => ((laws_heldMoveS.f k bt239.2 1).bind fun t241 => (if t241 < 0 then (none) else (if t241 = bt239.1 then ((laws_toEdgeS.f k l1).bind fun t242 => ((laws_toIntS.f k l3).bind fun t245 => ((impl_PoolRun.f k a0 t242 a2 t245).bind fun bt248 => ((laws_eqMoveS.f k bt248.1 bt211.1).bind fun t252 => (if t252 = true then (if (bt248.2 != bt211.2) = true then (none) else ((laws_heldMoveS.f k bt239.2 1).bind fun t253 => (if t253 < 0 then (none) else (if t253 = bt239.1 then (some true) else (none))))) else (none)))))) else (none))))) else (none)))))) else (none)))) else (none))))) else (none)))))))))))) = some r := h
 clear h
 by_cases c5 : (l3.length : Int) > 1048576
 ·rw [if_pos c5] at H
  have c5b0 : decide (1048576 < (l3.length : Int)) = true := decide_eq_true c5
  have c5b1 : decide (1048576 < l3.length) = true := decide_eq_true (by omega)
  clear c5
  obtain rfl := Option.some.inj H
  go_enter Try.func8, Try.ntmps8
  go_wp2
  go_ret
  exact ⟨by first | rfl | (simp [errW_none, errW_some] <;> rfl) | (simp [*, errW_none, errW_some] <;> rfl), by repeat (first | (with_reducible first | exact HB.out | apply below_alloc | apply pw_below_drewN | apply below_drew1) | exact HB.out)⟩
 ·rw [if_neg c5] at H
  have c5b0 : decide (1048576 < (l3.length : Int)) = false := decide_eq_false c5
  have c5b1 : decide (1048576 < l3.length) = false := decide_eq_false (by omega)
  clear c5
  replace H := Option.bind_eq_some_iff.mp H
  obtain ⟨t204, A60, H⟩ := H
  (try dsimp only at H)
  have A6 := Aside0.mk A60
  clear A60
  by_cases c7 : t204 < 0
  ·rw [if_pos c7] at H
   have c7b0 : decide (t204 < 0) = true := decide_eq_true c7
   clear c7
   obtain rfl := Option.some.inj H
   go_enter Try.func8, Try.ntmps8
   go_wp2_with (first | ((with_reducible refine gate_callee (f := 15) rfl ?_); refine goesL_ (some 26) rfl rfl Try.func15 (by kernel_rfl) rfl #[.slice A1 l1.length c1, .int .i64 1048576] rfl (by (try simp only [List.map_toArray, List.map_cons, List.map_nil]); first | done | rfl | (simp only [List.length_drop, List.length_take]; rfl)) ?_; (with_reducible refine (laws_szEdgeS.calls _ _ l1 1048576 t204 _ ?side1 ?side2 A6.out).mono ?_); (case side1 => exact cS HR1.out); (case side2 => exact HC1.out); rintro e w' ⟨rfl, ⟨nd, rfl⟩⟩; refine ⟨_, rfl, ?_⟩))
   go_ret
   exact ⟨by first | rfl | (simp [errW_none, errW_some] <;> rfl) | (simp [*, errW_none, errW_some] <;> rfl), by repeat (first | (with_reducible first | exact HB.out | apply below_alloc | apply pw_below_drewN | apply below_drew1) | exact HB.out)⟩
  ·rw [if_neg c7] at H
   have c7b0 : decide (t204 < 0) = false := decide_eq_false c7
   clear c7
   replace H := Option.bind_eq_some_iff.mp H
   obtain ⟨t205, A80, H⟩ := H
   (try dsimp only at H)
   have A8 := Aside0.mk A80
   clear A80
   replace H := Option.bind_eq_some_iff.mp H
   obtain ⟨t208, A90, H⟩ := H
   (try dsimp only at H)
   have A9 := Aside0.mk A90
   clear A90
   replace H := Option.bind_eq_some_iff.mp H
   obtain ⟨⟨t211, t212⟩, A100, H⟩ := H
   (try dsimp only at H)
   have A10 := Aside0.mk A100
   clear A100
   replace H := Option.bind_eq_some_iff.mp H
   obtain ⟨t215, A110, H⟩ := H
   (try dsimp only at H)
   have A11 := Aside0.mk A110
   clear A110
   replace H := Option.bind_eq_some_iff.mp H
   obtain ⟨t218, A120, H⟩ := H
   (try dsimp only at H)
   have A12 := Aside0.mk A120
   clear A120
   replace H := Option.bind_eq_some_iff.mp H
   obtain ⟨⟨t221, t222⟩, A130, H⟩ := H
   (try dsimp only at H)
   have A13 := Aside0.mk A130
   clear A130
   replace H := Option.bind_eq_some_iff.mp H
   obtain ⟨t225, A140, H⟩ := H
   (try dsimp only at H)
   have A14 := Aside0.mk A140
   clear A140
   by_cases c15 : t225 = true
   ·subst c15
    have H1 : (if (t222 != t212) = true then (none) else ((laws_toEdgeS.f k l1).bind fun t226 => ((laws_eqEdgeS.f k t215 t226).bind fun t229 => (if t229 = true then ((laws_toIntS.f k l3).bind fun t230 => ((laws_eqIntS.f k t218 t230).bind fun t233 => (if t233 = true then ((laws_markEdgeS.f k t215 1).bind fun bt234 => ((laws_markIntS.f k t218 bt234.1).bind fun bt236 => (if bt236.1 < 0 then (none) else ((laws_eqMoveS.f k t221 t211).bind fun t238 => (if t238 = true then ((laws_markMoveS.f k t221 1).bind fun bt239 => ((laws_heldMoveS.f k bt239.2 1).bind fun t241 => (if t241 < 0 then (none) else (if t241 = bt239.1 then ((laws_toEdgeS.f k l1).bind fun t242 => ((laws_toIntS.f k l3).bind fun t245 => ((impl_PoolRun.f k a0 t242 a2 t245).bind fun bt248 => ((laws_eqMoveS.f k bt248.1 t211).bind fun t252 => (if t252 = true then (if (bt248.2 != t212) = true then (none) else ((laws_heldMoveS.f k bt239.2 1).bind fun t253 => (if t253 < 0 then (none) else (if t253 = bt239.1 then (some true) else (none))))) else (none)))))) else (none))))) else (none)))))) else (none)))) else (none))))) = some r := by rw [if_pos rfl] at H; exact H
    clear H
    have H := H1
    clear H1
    by_cases c16 : (t222 != t212) = true
    ·rw [if_pos c16] at H
     exact absurd H (by simp)
    ·rw [if_neg c16] at H
     have c16b0 : (t222 != t212) = false := by simpa using c16
     (try (have c16b1 : decide (t222 = t212) = true := by simpa using c16))
     (try (have c16b2 : (t222 == t212) = true := by simpa using c16))
     clear c16
     replace H := Option.bind_eq_some_iff.mp H
     obtain ⟨t226, A170, H⟩ := H
     (try dsimp only at H)
     have A17 := Aside0.mk A170
     clear A170
     replace H := Option.bind_eq_some_iff.mp H
     obtain ⟨t229, A180, H⟩ := H
     (try dsimp only at H)
     have A18 := Aside0.mk A180
     clear A180
     by_cases c19 : t229 = true
     ·subst c19
      have H1 : ((laws_toIntS.f k l3).bind fun t230 => ((laws_eqIntS.f k t218 t230).bind fun t233 => (if t233 = true then ((laws_markEdgeS.f k t215 1).bind fun bt234 => ((laws_markIntS.f k t218 bt234.1).bind fun bt236 => (if bt236.1 < 0 then (none) else ((laws_eqMoveS.f k t221 t211).bind fun t238 => (if t238 = true then ((laws_markMoveS.f k t221 1).bind fun bt239 => ((laws_heldMoveS.f k bt239.2 1).bind fun t241 => (if t241 < 0 then (none) else (if t241 = bt239.1 then ((laws_toEdgeS.f k l1).bind fun t242 => ((laws_toIntS.f k l3).bind fun t245 => ((impl_PoolRun.f k a0 t242 a2 t245).bind fun bt248 => ((laws_eqMoveS.f k bt248.1 t211).bind fun t252 => (if t252 = true then (if (bt248.2 != t212) = true then (none) else ((laws_heldMoveS.f k bt239.2 1).bind fun t253 => (if t253 < 0 then (none) else (if t253 = bt239.1 then (some true) else (none))))) else (none)))))) else (none))))) else (none)))))) else (none)))) = some r := by rw [if_pos rfl] at H; exact H
      clear H
      have H := H1
      clear H1
      replace H := Option.bind_eq_some_iff.mp H
      obtain ⟨t230, A200, H⟩ := H
      (try dsimp only at H)
      have A20 := Aside0.mk A200
      clear A200
      replace H := Option.bind_eq_some_iff.mp H
      obtain ⟨t233, A210, H⟩ := H
      (try dsimp only at H)
      have A21 := Aside0.mk A210
      clear A210
      by_cases c22 : t233 = true
      ·subst c22
       have H1 : ((laws_markEdgeS.f k t215 1).bind fun bt234 => ((laws_markIntS.f k t218 bt234.1).bind fun bt236 => (if bt236.1 < 0 then (none) else ((laws_eqMoveS.f k t221 t211).bind fun t238 => (if t238 = true then ((laws_markMoveS.f k t221 1).bind fun bt239 => ((laws_heldMoveS.f k bt239.2 1).bind fun t241 => (if t241 < 0 then (none) else (if t241 = bt239.1 then ((laws_toEdgeS.f k l1).bind fun t242 => ((laws_toIntS.f k l3).bind fun t245 => ((impl_PoolRun.f k a0 t242 a2 t245).bind fun bt248 => ((laws_eqMoveS.f k bt248.1 t211).bind fun t252 => (if t252 = true then (if (bt248.2 != t212) = true then (none) else ((laws_heldMoveS.f k bt239.2 1).bind fun t253 => (if t253 < 0 then (none) else (if t253 = bt239.1 then (some true) else (none))))) else (none)))))) else (none))))) else (none)))))) = some r := by rw [if_pos rfl] at H; exact H
       clear H
       have H := H1
       clear H1
       replace H := Option.bind_eq_some_iff.mp H
       obtain ⟨⟨t234, t235⟩, A230, H⟩ := H
       (try dsimp only at H)
       have A23 := Aside0.mk A230
       clear A230
       replace H := Option.bind_eq_some_iff.mp H
       obtain ⟨⟨t236, t237⟩, A240, H⟩ := H
       (try dsimp only at H)
       have A24 := Aside0.mk A240
       clear A240
       by_cases c25 : t236 < 0
       ·rw [if_pos c25] at H
        exact absurd H (by simp)
       ·rw [if_neg c25] at H
        have c25b0 : decide (t236 < 0) = false := decide_eq_false c25
        clear c25
        replace H := Option.bind_eq_some_iff.mp H
        obtain ⟨t238, A260, H⟩ := H
        (try dsimp only at H)
        have A26 := Aside0.mk A260
        clear A260
        by_cases c27 : t238 = true
        ·subst c27
         have H1 : ((laws_markMoveS.f k t221 1).bind fun bt239 => ((laws_heldMoveS.f k bt239.2 1).bind fun t241 => (if t241 < 0 then (none) else (if t241 = bt239.1 then ((laws_toEdgeS.f k l1).bind fun t242 => ((laws_toIntS.f k l3).bind fun t245 => ((impl_PoolRun.f k a0 t242 a2 t245).bind fun bt248 => ((laws_eqMoveS.f k bt248.1 t211).bind fun t252 => (if t252 = true then (if (bt248.2 != t212) = true then (none) else ((laws_heldMoveS.f k bt239.2 1).bind fun t253 => (if t253 < 0 then (none) else (if t253 = bt239.1 then (some true) else (none))))) else (none)))))) else (none))))) = some r := by rw [if_pos rfl] at H; exact H
         clear H
         have H := H1
         clear H1
         replace H := Option.bind_eq_some_iff.mp H
         obtain ⟨⟨t239, t240⟩, A280, H⟩ := H
         (try dsimp only at H)
         have A28 := Aside0.mk A280
         clear A280
         replace H := Option.bind_eq_some_iff.mp H
         obtain ⟨t241, A290, H⟩ := H
         (try dsimp only at H)
         have A29 := Aside0.mk A290
         clear A290
         by_cases c30 : t241 < 0
         ·rw [if_pos c30] at H
          exact absurd H (by simp)
         ·rw [if_neg c30] at H
          have c30b0 : decide (t241 < 0) = false := decide_eq_false c30
          clear c30
          by_cases c31 : t241 = t239
          ·rw [if_pos c31] at H
           have c31b0 : (t241 == t239) = true := beq_iff_eq.mpr c31
           have c31b1 : (t241 != t239) = false := bne_eq_false_iff_eq.mpr c31
           clear c31
           replace H := Option.bind_eq_some_iff.mp H
           obtain ⟨t242, A320, H⟩ := H
           (try dsimp only at H)
           have A32 := Aside0.mk A320
           clear A320
           replace H := Option.bind_eq_some_iff.mp H
           obtain ⟨t245, A330, H⟩ := H
           (try dsimp only at H)
           have A33 := Aside0.mk A330
           clear A330
           replace H := Option.bind_eq_some_iff.mp H
           obtain ⟨⟨t248, t249⟩, A340, H⟩ := H
           (try dsimp only at H)
           have A34 := Aside0.mk A340
           clear A340
           replace H := Option.bind_eq_some_iff.mp H
           obtain ⟨t252, A350, H⟩ := H
           (try dsimp only at H)
           have A35 := Aside0.mk A350
           clear A350
           by_cases c36 : t252 = true
           ·subst c36
            have H1 : (if (t249 != t212) = true then (none) else ((laws_heldMoveS.f k t240 1).bind fun t253 => (if t253 < 0 then (none) else (if t253 = t239 then (some true) else (none))))) = some r := by rw [if_pos rfl] at H; exact H
            clear H
            have H := H1
            clear H1
            by_cases c37 : (t249 != t212) = true
            ·rw [if_pos c37] at H
             exact absurd H (by simp)
            ·rw [if_neg c37] at H
             have c37b0 : (t249 != t212) = false := by simpa using c37
             (try (have c37b1 : decide (t249 = t212) = true := by simpa using c37))
             (try (have c37b2 : (t249 == t212) = true := by simpa using c37))
             clear c37
             replace H := Option.bind_eq_some_iff.mp H
             obtain ⟨t253, A380, H⟩ := H
             (try dsimp only at H)
             have A38 := Aside0.mk A380
             clear A380
             by_cases c39 : t253 < 0
             ·rw [if_pos c39] at H
              exact absurd H (by simp)
             ·rw [if_neg c39] at H
              have c39b0 : decide (t253 < 0) = false := decide_eq_false c39
              clear c39
              by_cases c40 : t253 = t239
              ·rw [if_pos c40] at H
               have c40b0 : (t253 == t239) = true := beq_iff_eq.mpr c40
               have c40b1 : (t253 != t239) = false := bne_eq_false_iff_eq.mpr c40
               clear c40
               obtain rfl := Option.some.inj H
               go_enter Try.func8, Try.ntmps8
               go_wp2_with (first | ((with_reducible refine gate_callee (f := 15) rfl ?_); refine goesL_ (some 26) rfl rfl Try.func15 (by kernel_rfl) rfl #[.slice A1 l1.length c1, .int .i64 1048576] rfl (by (try simp only [List.map_toArray, List.map_cons, List.map_nil]); first | done | rfl | (simp only [List.length_drop, List.length_take]; rfl)) ?_; (with_reducible refine (laws_szEdgeS.calls _ _ l1 1048576 t204 _ ?side1 ?side2 A6.out).mono ?_); (case side1 => exact cS HR1.out); (case side2 => exact HC1.out); rintro e w' ⟨rfl, ⟨nd, rfl⟩⟩; refine ⟨_, rfl, ?_⟩) | ((with_reducible refine gate_callee (f := 17) rfl ?_); refine goesL_ (some 32) rfl rfl Try.func17 (by kernel_rfl) rfl #[.slice A1 l1.length c1] rfl (by (try simp only [List.map_toArray, List.map_cons, List.map_nil]); first | done | rfl | (simp only [List.length_drop, List.length_take]; rfl)) ?_; (with_reducible refine (laws_toEdgeS.calls k _ _ l1 t205 _ ?side1 ?side2 A8.out).mono ?_); (case side1 => exact cS HR1.out); (case side2 => exact HC1.out); rintro e w41 ⟨v206, rfl, ho0, hb⟩; refine ⟨_, rfl, ?_⟩; have HO207 := Aside0.mk (Kd.R_lower ho0 (below_size (bS HB.out))); replace HB := Aside0.mk (below_step (bS HB.out) hb); (try clear hb); (try clear hb2); (try clear hk); (try clear hi); (try clear ho0)) | ((with_reducible refine gate_callee (f := 41) rfl ?_); refine goesL_ (some 35) rfl rfl Try.func41 (by kernel_rfl) rfl #[.slice A3 l3.length c3] rfl (by (try simp only [List.map_toArray, List.map_cons, List.map_nil]); first | done | rfl | (simp only [List.length_drop, List.length_take]; rfl)) ?_; (with_reducible refine (laws_toIntS.calls k _ _ l3 t208 _ ?side1 ?side2 A9.out).mono ?_); (case side1 => exact cS (Kd.C_below HR3.out HB.out)); (case side2 => exact HC3.out); rintro e w42 ⟨v209, rfl, ho0, hb⟩; refine ⟨_, rfl, ?_⟩; replace HO207 := Aside0.mk (Kd.R_below (rS HO207.out) hb); have HO210 := Aside0.mk (Kd.R_lower ho0 (below_size (bS HB.out))); replace HB := Aside0.mk (below_step (bS HB.out) hb); (try clear hb); (try clear hb2); (try clear hk); (try clear hi); (try clear ho0); obtain ⟨Ao43, co43, eo43⟩ := Kd.R_slice HO207.out; subst eo43; obtain ⟨Ao44, co44, eo44⟩ := Kd.R_slice HO210.out; subst eo44) | ((with_reducible refine gate_callee (f := 31) rfl ?_); refine goesL_ (some 36) rfl rfl Try.func31 (by kernel_rfl) rfl #[.int .i64 a0, .slice Ao43 t205.length co43, .int .i64 a2, .slice Ao44 t208.length co44] rfl (by (try simp only [List.map_toArray, List.map_cons, List.map_nil]); first | done | rfl | (simp only [List.length_drop, List.length_take]; rfl)) ?_; (with_reducible refine (spec_PoolRun.calls k a0 _ _ t205 a2 _ _ t208 t211 t212 _ ?side1 ?side2 ?side3 ?side4 A10.out).mono ?_); (case side1 => exact cS (Kd.R_reads' HO207.out).2.2); (case side2 => exact (Kd.R_reads' HO207.out).2.1); (case side3 => exact cS (Kd.R_reads' HO210.out).2.2); (case side4 => exact (Kd.R_reads' HO210.out).2.1); rintro e w45 ⟨v213, rfl, ho0, hb⟩; refine ⟨_, rfl, ?_⟩; replace HO207 := Aside0.mk (Kd.R_below (rS HO207.out) hb); replace HO210 := Aside0.mk (Kd.R_below (rS HO210.out) hb); have HO214 := Aside0.mk (Kd.R_lower ho0 (below_size (bS HB.out))); replace HB := Aside0.mk (below_step (bS HB.out) hb); (try clear hb); (try clear hb2); (try clear hk); (try clear hi); (try clear ho0)) | ((with_reducible refine gate_callee (f := 17) rfl ?_); refine goesL_ (some 40) rfl rfl Try.func17 (by kernel_rfl) rfl #[.slice A1 l1.length c1] rfl (by (try simp only [List.map_toArray, List.map_cons, List.map_nil]); first | done | rfl | (simp only [List.length_drop, List.length_take]; rfl)) ?_; (with_reducible refine (laws_toEdgeS.calls k _ _ l1 t215 _ ?side1 ?side2 A11.out).mono ?_); (case side1 => exact cS (Kd.C_below HR1.out HB.out)); (case side2 => exact HC1.out); rintro e w46 ⟨v216, rfl, ho0, hb⟩; refine ⟨_, rfl, ?_⟩; replace HO214 := Aside0.mk (Kd.R_below (rS HO214.out) hb); have HO217 := Aside0.mk (Kd.R_lower ho0 (below_size (bS HB.out))); replace HB := Aside0.mk (below_step (bS HB.out) hb); (try clear hb); (try clear hb2); (try clear hk); (try clear hi); (try clear ho0)) | ((with_reducible refine gate_callee (f := 41) rfl ?_); refine goesL_ (some 42) rfl rfl Try.func41 (by kernel_rfl) rfl #[.slice A3 l3.length c3] rfl (by (try simp only [List.map_toArray, List.map_cons, List.map_nil]); first | done | rfl | (simp only [List.length_drop, List.length_take]; rfl)) ?_; (with_reducible refine (laws_toIntS.calls k _ _ l3 t218 _ ?side1 ?side2 A12.out).mono ?_); (case side1 => exact cS (Kd.C_below HR3.out HB.out)); (case side2 => exact HC3.out); rintro e w47 ⟨v219, rfl, ho0, hb⟩; refine ⟨_, rfl, ?_⟩; replace HO214 := Aside0.mk (Kd.R_below (rS HO214.out) hb); replace HO217 := Aside0.mk (Kd.R_below (rS HO217.out) hb); have HO220 := Aside0.mk (Kd.R_lower ho0 (below_size (bS HB.out))); replace HB := Aside0.mk (below_step (bS HB.out) hb); (try clear hb); (try clear hb2); (try clear hk); (try clear hi); (try clear ho0); obtain ⟨Ao48, co48, eo48⟩ := Kd.R_slice HO217.out; subst eo48; obtain ⟨Ao49, co49, eo49⟩ := Kd.R_slice HO220.out; subst eo49) | ((with_reducible refine gate_callee (f := 42) rfl ?_); refine goesL_ (some 48) rfl rfl Try.func42 (by kernel_rfl) rfl #[.int .i64 a0, .slice Ao48 t215.length co48, .int .i64 a2, .slice Ao49 t218.length co49] rfl (by (try simp only [List.map_toArray, List.map_cons, List.map_nil]); first | done | rfl | (simp only [List.length_drop, List.length_take]; rfl)) ?_; (with_reducible refine (impl_PoolRun.calls k a0 _ _ t215 a2 _ _ t218 t221 t222 _ ?side1 ?side2 ?side3 ?side4 A13.out).mono ?_); (case side1 => exact cS (Kd.R_reads' HO217.out).2.2); (case side2 => exact (Kd.R_reads' HO217.out).2.1); (case side3 => exact cS (Kd.R_reads' HO220.out).2.2); (case side4 => exact (Kd.R_reads' HO220.out).2.1); rintro e w50 ⟨v223, rfl, ho0, hb⟩; refine ⟨_, rfl, ?_⟩; have n0_ := Aside0.mk (Kd.R_elder' (rS HO214.out) (Kd.R_base ho0) hb); replace HO217 := Aside0.mk (Kd.R_below (rS HO217.out) hb); replace HO220 := Aside0.mk (Kd.R_below (rS HO220.out) hb); have HO224 := Aside0.mk (Kd.R_lower (rN ho0 HO214.out) (below_size (bS HB.out))); replace HB := Aside0.mk (below_step (bS HB.out) hb); clear HO214; have HO214 := n0_; clear n0_; (try clear hb); (try clear hb2); (try clear hk); (try clear hi); (try clear ho0); obtain ⟨Ao51, co51, eo51⟩ := Kd.R_slice HO224.out; subst eo51; obtain ⟨Ao52, co52, eo52⟩ := Kd.R_slice HO214.out; subst eo52) | ((with_reducible refine gate_callee (f := 26) rfl ?_); refine goesL_ (some 53) rfl rfl Try.func26 (by kernel_rfl) rfl #[.slice Ao51 t221.length co51, .slice Ao52 t211.length co52] rfl (by (try simp only [List.map_toArray, List.map_cons, List.map_nil]); first | done | rfl | (simp only [List.length_drop, List.length_take]; rfl)) ?_; (with_reducible refine (laws_eqMoveS.calls k _ _ t221 _ _ t211 true _ ?side1 ?side2 ?side3 ?side4 A14.out).mono ?_); (case side1 => exact cS (Kd.R_reads' HO224.out).2.2); (case side2 => exact (Kd.R_reads' HO224.out).2.1); (case side3 => exact cS (Kd.R_reads' HO214.out).2.2); (case side4 => exact (Kd.R_reads' HO214.out).2.1); rintro e w53 ⟨rfl, hb⟩; refine ⟨_, rfl, ?_⟩; replace HO214 := Aside0.mk (Kd.R_below (rS HO214.out) hb); replace HO217 := Aside0.mk (Kd.R_below (rS HO217.out) hb); replace HO220 := Aside0.mk (Kd.R_below (rS HO220.out) hb); replace HO224 := Aside0.mk (Kd.R_below (rS HO224.out) hb); replace HB := Aside0.mk (below_step (bS HB.out) hb); (try clear hb); (try clear hb2); (try clear hk); (try clear hi)) | ((with_reducible refine gate_callee (f := 17) rfl ?_); refine goesL_ (some 62) rfl rfl Try.func17 (by kernel_rfl) rfl #[.slice A1 l1.length c1] rfl (by (try simp only [List.map_toArray, List.map_cons, List.map_nil]); first | done | rfl | (simp only [List.length_drop, List.length_take]; rfl)) ?_; (with_reducible refine (laws_toEdgeS.calls k _ _ l1 t226 _ ?side1 ?side2 A17.out).mono ?_); (case side1 => exact cS (Kd.C_below HR1.out HB.out)); (case side2 => exact HC1.out); rintro e w54 ⟨v227, rfl, ho0, hb⟩; refine ⟨_, rfl, ?_⟩; replace HO214 := Aside0.mk (Kd.R_below (rS HO214.out) hb); have n1_ := Aside0.mk (Kd.R_elder' (rS HO217.out) (Kd.R_base ho0) hb); replace HO220 := Aside0.mk (Kd.R_below (rS HO220.out) hb); replace HO224 := Aside0.mk (Kd.R_below (rS HO224.out) hb); have HO228 := Aside0.mk (Kd.R_lower (rN ho0 HO217.out) (below_size (bS HB.out))); replace HB := Aside0.mk (below_step (bS HB.out) hb); clear HO217; have HO217 := n1_; clear n1_; (try clear hb); (try clear hb2); (try clear hk); (try clear hi); (try clear ho0); obtain ⟨Ao55, co55, eo55⟩ := Kd.R_slice HO228.out; subst eo55) | ((with_reducible refine gate_callee (f := 19) rfl ?_); refine goesL_ (some 63) rfl rfl Try.func19 (by kernel_rfl) rfl #[.slice Ao48 t215.length co48, .slice Ao55 t226.length co55] rfl (by (try simp only [List.map_toArray, List.map_cons, List.map_nil]); first | done | rfl | (simp only [List.length_drop, List.length_take]; rfl)) ?_; (with_reducible refine (laws_eqEdgeS.calls k _ _ t215 _ _ t226 true _ ?side1 ?side2 ?side3 ?side4 A18.out).mono ?_); (case side1 => exact cS (Kd.R_reads' HO217.out).2.2); (case side2 => exact (Kd.R_reads' HO217.out).2.1); (case side3 => exact cS (Kd.R_reads' HO228.out).2.2); (case side4 => exact (Kd.R_reads' HO228.out).2.1); rintro e w56 ⟨rfl, hb⟩; refine ⟨_, rfl, ?_⟩; replace HO214 := Aside0.mk (Kd.R_below (rS HO214.out) hb); replace HO217 := Aside0.mk (Kd.R_below (rS HO217.out) hb); replace HO220 := Aside0.mk (Kd.R_below (rS HO220.out) hb); replace HO224 := Aside0.mk (Kd.R_below (rS HO224.out) hb); replace HO228 := Aside0.mk (Kd.R_below (rS HO228.out) hb); replace HB := Aside0.mk (below_step (bS HB.out) hb); (try clear hb); (try clear hb2); (try clear hk); (try clear hi)) | ((with_reducible refine gate_callee (f := 41) rfl ?_); refine goesL_ (some 67) rfl rfl Try.func41 (by kernel_rfl) rfl #[.slice A3 l3.length c3] rfl (by (try simp only [List.map_toArray, List.map_cons, List.map_nil]); first | done | rfl | (simp only [List.length_drop, List.length_take]; rfl)) ?_; (with_reducible refine (laws_toIntS.calls k _ _ l3 t230 _ ?side1 ?side2 A20.out).mono ?_); (case side1 => exact cS (Kd.C_below HR3.out HB.out)); (case side2 => exact HC3.out); rintro e w57 ⟨v231, rfl, ho0, hb⟩; refine ⟨_, rfl, ?_⟩; replace HO214 := Aside0.mk (Kd.R_below (rS HO214.out) hb); replace HO217 := Aside0.mk (Kd.R_below (rS HO217.out) hb); have n2_ := Aside0.mk (Kd.R_elder' (rS HO220.out) (Kd.R_base ho0) hb); replace HO224 := Aside0.mk (Kd.R_below (rS HO224.out) hb); have HO232 := Aside0.mk (Kd.R_lower (rN ho0 HO220.out) (below_size (bS HB.out))); replace HB := Aside0.mk (below_step (bS HB.out) hb); clear HO220; have HO220 := n2_; clear n2_; (try clear hb); (try clear hb2); (try clear hk); (try clear hi); (try clear ho0); obtain ⟨Ao58, co58, eo58⟩ := Kd.R_slice HO232.out; subst eo58) | ((with_reducible refine gate_callee (f := 43) rfl ?_); refine goesL_ (some 68) rfl rfl Try.func43 (by kernel_rfl) rfl #[.slice Ao49 t218.length co49, .slice Ao58 t230.length co58] rfl (by (try simp only [List.map_toArray, List.map_cons, List.map_nil]); first | done | rfl | (simp only [List.length_drop, List.length_take]; rfl)) ?_; (with_reducible refine (laws_eqIntS.calls k _ _ t218 _ _ t230 true _ ?side1 ?side2 ?side3 ?side4 A21.out).mono ?_); (case side1 => exact cS (Kd.R_reads' HO220.out).2.2); (case side2 => exact (Kd.R_reads' HO220.out).2.1); (case side3 => exact cS (Kd.R_reads' HO232.out).2.2); (case side4 => exact (Kd.R_reads' HO232.out).2.1); rintro e w' ⟨rfl, ⟨nd, rfl⟩⟩; refine ⟨_, rfl, ?_⟩) | ((with_reducible refine gate_callee (f := 20) rfl ?_); refine goesL_ (some 72) rfl rfl Try.func20 (by kernel_rfl) rfl #[.slice Ao48 t215.length co48, .int .i64 1] rfl (by (try simp only [List.map_toArray, List.map_cons, List.map_nil]); first | done | rfl | (simp only [List.length_drop, List.length_take]; rfl)) ?_; (with_reducible refine (laws_markEdgeS.calls k (fun k_ => some k_ = (.slice Ao48 t215.length co48 : Value).ownBlock) (.slice Ao48 t215.length co48) t215 1 t234 t235 w _ ?side1 ?side2 A23.out).mono ?_); (case side1 => repeat (first | (with_reducible first | exact HB.out | apply below_alloc | apply pw_below_drewN | apply below_drew1) | exact HB.out)); (case side2 => exact Kd.R_tight rfl HO217.out); rintro e w59 ⟨rfl, hy0, hb, hkp⟩; refine ⟨_, rfl, ?_⟩; replace HO214 := Aside0.mk (Kd.R_mono (ok' := fun k_ => some k_ ≠ (.slice Ao51 t221.length co51 : Value).ownBlock) (Kd.R_keptB ((Kd.R_apart' HO214.out (Kd.R_typed HO217.out) (by decide))) hkp (fun k_ hk_ hs_ => (hk_.2) hs_)) (fun k_ hk_ => hk_.1.1.2)); have n1_ := Aside0.mk (Kd.R_reok rfl hy0 (fun k_ e_ => HO217.out.1 k_ e_)); replace HO220 := Aside0.mk (Kd.R_mono (ok' := fun k_ => True) (Kd.R_keptB ((Kd.R_apart' HO220.out (Kd.R_typed HO217.out) (by decide))) hkp (fun k_ hk_ hs_ => (hk_.2) hs_)) (fun k_ hk_ => trivial)); replace HO224 := Aside0.mk (Kd.R_mono (ok' := fun k_ => some k_ ≠ (.slice Ao52 t211.length co52 : Value).ownBlock) (Kd.R_keptB ((Kd.R_apart' HO224.out (Kd.R_typed HO217.out) (by decide))) hkp (fun k_ hk_ hs_ => (hk_.2) hs_)) (fun k_ hk_ => hk_.1.1.2)); replace HB := Aside0.mk (hb); clear HO217; have HO217 := n1_; clear n1_; (try clear hb); (try clear hkp); (try clear hy0)) | ((with_reducible refine gate_callee (f := 44) rfl ?_); refine goesL_ (some 75) rfl rfl Try.func44 (by kernel_rfl) rfl #[.slice Ao49 t218.length co49, .int .i64 t234] rfl (by (try simp only [List.map_toArray, List.map_cons, List.map_nil]); first | done | rfl | (simp only [List.length_drop, List.length_take]; rfl)) ?_; (with_reducible refine (laws_markIntS.calls k (fun k_ => some k_ = (.slice Ao49 t218.length co49 : Value).ownBlock) (.slice Ao49 t218.length co49) t218 t234 t236 t237 w _ ?side1 ?side2 A24.out).mono ?_); (case side1 => repeat (first | (with_reducible first | exact HB.out | apply below_alloc | apply pw_below_drewN | apply below_drew1) | exact HB.out)); (case side2 => exact Kd.R_tight rfl HO220.out); rintro e w60 ⟨rfl, hy0, hb, hkp⟩; refine ⟨_, rfl, ?_⟩; replace HO214 := Aside0.mk (Kd.R_mono (ok' := fun k_ => some k_ ≠ (.slice Ao51 t221.length co51 : Value).ownBlock) (Kd.R_keptB ((Kd.R_apart' HO214.out (Kd.R_typed HO220.out) (by decide))) hkp (fun k_ hk_ hs_ => (hk_.2) hs_)) (fun k_ hk_ => hk_.1.1)); have n1_ := Aside0.mk (Kd.R_reok rfl hy0 (fun k_ e_ => HO220.out.1 k_ e_)); replace HO224 := Aside0.mk (Kd.R_mono (ok' := fun k_ => some k_ ≠ (.slice Ao52 t211.length co52 : Value).ownBlock) (Kd.R_keptB ((Kd.R_apart' HO224.out (Kd.R_typed HO220.out) (by decide))) hkp (fun k_ hk_ hs_ => (hk_.2) hs_)) (fun k_ hk_ => hk_.1.1)); replace HB := Aside0.mk (hb); clear HO220; have HO220 := n1_; clear n1_; (try clear hb); (try clear hkp); (try clear hy0)) | (go_at_call 26; (with_reducible refine (laws_eqMoveS.calls k _ _ t221 _ _ t211 true _ ?side1 ?side2 ?side3 ?side4 A26.out).mono ?_); (case side1 => exact cS (Kd.R_reads' HO224.out).2.2); (case side2 => exact (Kd.R_reads' HO224.out).2.1); (case side3 => exact cS (Kd.R_reads' HO214.out).2.2); (case side4 => exact (Kd.R_reads' HO214.out).2.1); rintro e w61 ⟨rfl, hb⟩; replace HO214 := Aside0.mk (Kd.R_below (rS HO214.out) hb); replace HO224 := Aside0.mk (Kd.R_below (rS HO224.out) hb); replace HB := Aside0.mk (below_step (bS HB.out) hb); (try clear hb); (try clear hb2); (try clear hk); (try clear hi)) | ((with_reducible refine gate_callee (f := 27) rfl ?_); refine goesL_ (some 91) rfl rfl Try.func27 (by kernel_rfl) rfl #[.slice Ao51 t221.length co51, .int .i64 1] rfl (by (try simp only [List.map_toArray, List.map_cons, List.map_nil]); first | done | rfl | (simp only [List.length_drop, List.length_take]; rfl)) ?_; (with_reducible refine (laws_markMoveS.calls k (fun k_ => some k_ = (.slice Ao51 t221.length co51 : Value).ownBlock) (.slice Ao51 t221.length co51) t221 1 t239 t240 w _ ?side1 ?side2 A28.out).mono ?_); (case side1 => repeat (first | (with_reducible first | exact HB.out | apply below_alloc | apply pw_below_drewN | apply below_drew1) | exact HB.out)); (case side2 => exact Kd.R_tight rfl HO224.out); rintro e w62 ⟨rfl, hy0, hb, hkp⟩; refine ⟨_, rfl, ?_⟩; replace HO214 := Aside0.mk (Kd.R_mono (ok' := fun k_ => some k_ ≠ (.slice Ao51 t221.length co51 : Value).ownBlock) (Kd.R_keptB (HO214.out) hkp (fun k_ hk_ hs_ => (hk_) hs_)) (fun k_ hk_ => hk_.1)); replace HO224 := Aside0.mk (Kd.R_reok rfl hy0 (fun k_ e_ => HO224.out.1 k_ e_)); replace HB := Aside0.mk (hb); (try clear hb); (try clear hkp); (try clear hy0)) | ((with_reducible refine gate_callee (f := 28) rfl ?_); refine goesL_ (some 94) rfl rfl Try.func28 (by kernel_rfl) rfl #[.slice Ao51 t240.length co51, .int .i64 1] rfl (by (try simp only [List.map_toArray, List.map_cons, List.map_nil]); first | done | (rw [show t240.length = t221.length from (Kd.R_reads' HO224.out).1.symm] <;> rfl) | rfl | (simp only [List.length_drop, List.length_take]; rfl)) ?_; (with_reducible refine (laws_heldMoveS.calls k _ _ t240 1 t241 _ ?side1 ?side2 A29.out).mono ?_); (case side1 => exact cS (Kd.R_reads' HO224.out).2.2); (case side2 => rw [show t240.length = t221.length from (Kd.R_reads' HO224.out).1.symm]; exact (Kd.R_reads' HO224.out).2.1); rintro e w' ⟨rfl, ⟨nd, rfl⟩⟩; refine ⟨_, rfl, ?_⟩) | ((with_reducible refine gate_callee (f := 17) rfl ?_); refine goesL_ (some 103) rfl rfl Try.func17 (by kernel_rfl) rfl #[.slice A1 l1.length c1] rfl (by (try simp only [List.map_toArray, List.map_cons, List.map_nil]); first | done | rfl | (simp only [List.length_drop, List.length_take]; rfl)) ?_; (with_reducible refine (laws_toEdgeS.calls k _ _ l1 t242 _ ?side1 ?side2 A32.out).mono ?_); (case side1 => repeat (first | exact (Kd.C_below HR1.out (bS HB.out)) | (with_reducible refine Kd.C_alloc ?_ _) | (with_reducible refine Kd.C_drewN ?_ _) | (with_reducible refine Kd.C_drew ?_))); (case side2 => exact HC1.out); rintro e w63 ⟨v243, rfl, ho0, hb⟩; refine ⟨_, rfl, ?_⟩; replace HO214 := Aside0.mk (Kd.R_below (rS HO214.out) hb); replace HO224 := Aside0.mk (Kd.R_below (rS HO224.out) hb); have HO244 := Aside0.mk (Kd.R_lower ho0 (below_size (bS HB.out))); replace HB := Aside0.mk (below_step (bS HB.out) hb); (try clear hb); (try clear hb2); (try clear hk); (try clear hi); (try clear ho0)) | ((with_reducible refine gate_callee (f := 41) rfl ?_); refine goesL_ (some 106) rfl rfl Try.func41 (by kernel_rfl) rfl #[.slice A3 l3.length c3] rfl (by (try simp only [List.map_toArray, List.map_cons, List.map_nil]); first | done | rfl | (simp only [List.length_drop, List.length_take]; rfl)) ?_; (with_reducible refine (laws_toIntS.calls k _ _ l3 t245 _ ?side1 ?side2 A33.out).mono ?_); (case side1 => exact cS (Kd.C_below HR3.out HB.out)); (case side2 => exact HC3.out); rintro e w64 ⟨v246, rfl, ho0, hb⟩; refine ⟨_, rfl, ?_⟩; replace HO214 := Aside0.mk (Kd.R_below (rS HO214.out) hb); replace HO224 := Aside0.mk (Kd.R_below (rS HO224.out) hb); replace HO244 := Aside0.mk (Kd.R_below (rS HO244.out) hb); have HO247 := Aside0.mk (Kd.R_lower ho0 (below_size (bS HB.out))); replace HB := Aside0.mk (below_step (bS HB.out) hb); (try clear hb); (try clear hb2); (try clear hk); (try clear hi); (try clear ho0); obtain ⟨Ao65, co65, eo65⟩ := Kd.R_slice HO244.out; subst eo65; obtain ⟨Ao66, co66, eo66⟩ := Kd.R_slice HO247.out; subst eo66) | ((with_reducible refine gate_callee (f := 42) rfl ?_); refine goesL_ (some 107) rfl rfl Try.func42 (by kernel_rfl) rfl #[.int .i64 a0, .slice Ao65 t242.length co65, .int .i64 a2, .slice Ao66 t245.length co66] rfl (by (try simp only [List.map_toArray, List.map_cons, List.map_nil]); first | done | rfl | (simp only [List.length_drop, List.length_take]; rfl)) ?_; (with_reducible refine (impl_PoolRun.calls k a0 _ _ t242 a2 _ _ t245 t248 t249 _ ?side1 ?side2 ?side3 ?side4 A34.out).mono ?_); (case side1 => exact cS (Kd.R_reads' HO244.out).2.2); (case side2 => exact (Kd.R_reads' HO244.out).2.1); (case side3 => exact cS (Kd.R_reads' HO247.out).2.2); (case side4 => exact (Kd.R_reads' HO247.out).2.1); rintro e w67 ⟨v250, rfl, ho0, hb⟩; refine ⟨_, rfl, ?_⟩; have n0_ := Aside0.mk (Kd.R_elder' (rS HO214.out) (Kd.R_base ho0) hb); have n1_ := Aside0.mk (Kd.R_elder' (rS HO224.out) (Kd.R_base ho0) hb); replace HO244 := Aside0.mk (Kd.R_below (rS HO244.out) hb); replace HO247 := Aside0.mk (Kd.R_below (rS HO247.out) hb); have HO251 := Aside0.mk (Kd.R_lower (rN (rN ho0 HO214.out) HO224.out) (below_size (bS HB.out))); replace HB := Aside0.mk (below_step (bS HB.out) hb); clear HO214; clear HO224; have HO214 := n0_; have HO224 := n1_; clear n0_ n1_; (try clear hb); (try clear hb2); (try clear hk); (try clear hi); (try clear ho0); obtain ⟨Ao68, co68, eo68⟩ := Kd.R_slice HO251.out; subst eo68) | ((with_reducible refine gate_callee (f := 26) rfl ?_); refine goesL_ (some 112) rfl rfl Try.func26 (by kernel_rfl) rfl #[.slice Ao68 t248.length co68, .slice Ao52 t211.length co52] rfl (by (try simp only [List.map_toArray, List.map_cons, List.map_nil]); first | done | rfl | (simp only [List.length_drop, List.length_take]; rfl)) ?_; (with_reducible refine (laws_eqMoveS.calls k _ _ t248 _ _ t211 true _ ?side1 ?side2 ?side3 ?side4 A35.out).mono ?_); (case side1 => exact cS (Kd.R_reads' HO251.out).2.2); (case side2 => exact (Kd.R_reads' HO251.out).2.1); (case side3 => exact cS (Kd.R_reads' HO214.out).2.2); (case side4 => exact (Kd.R_reads' HO214.out).2.1); rintro e w69 ⟨rfl, hb⟩; refine ⟨_, rfl, ?_⟩; replace HO214 := Aside0.mk (Kd.R_below (rS HO214.out) hb); replace HO224 := Aside0.mk (Kd.R_below (rS HO224.out) hb); replace HO251 := Aside0.mk (Kd.R_below (rS HO251.out) hb); replace HB := Aside0.mk (below_step (bS HB.out) hb); (try clear hb); (try clear hb2); (try clear hk); (try clear hi)) | ((with_reducible refine gate_callee (f := 28) rfl ?_); refine goesL_ (some 121) rfl rfl Try.func28 (by kernel_rfl) rfl #[.slice Ao51 t240.length co51, .int .i64 1] rfl (by (try simp only [List.map_toArray, List.map_cons, List.map_nil]); first | done | (rw [show t240.length = t221.length from (Kd.R_reads' HO224.out).1.symm] <;> rfl) | rfl | (simp only [List.length_drop, List.length_take]; rfl)) ?_; (with_reducible refine (laws_heldMoveS.calls k _ _ t240 1 t253 _ ?side1 ?side2 A38.out).mono ?_); (case side1 => exact cS (Kd.R_reads' HO224.out).2.2); (case side2 => rw [show t240.length = t221.length from (Kd.R_reads' HO224.out).1.symm]; exact (Kd.R_reads' HO224.out).2.1); rintro e w' ⟨rfl, ⟨nd, rfl⟩⟩; refine ⟨_, rfl, ?_⟩))
               go_ret
               exact ⟨by first | rfl | (simp [errW_none, errW_some] <;> rfl) | (simp [*, errW_none, errW_some] <;> rfl), by repeat (first | (with_reducible first | exact HB.out | apply below_alloc | apply pw_below_drewN | apply below_drew1) | exact HB.out)⟩
              ·rw [if_neg c40] at H
               exact absurd H (by simp)
           ·replace c36 := Bool.eq_false_iff.mpr c36
            subst c36
            have H1 : (none) = some r := by rw [if_neg (show ¬ (false = true) by decide)] at H; exact H
            clear H
            have H := H1
            clear H1
            exact absurd H (by simp)
          ·rw [if_neg c31] at H
           exact absurd H (by simp)
        ·replace c27 := Bool.eq_false_iff.mpr c27
         subst c27
         have H1 : (none) = some r := by rw [if_neg (show ¬ (false = true) by decide)] at H; exact H
         clear H
         have H := H1
         clear H1
         exact absurd H (by simp)
      ·replace c22 := Bool.eq_false_iff.mpr c22
       subst c22
       have H1 : (none) = some r := by rw [if_neg (show ¬ (false = true) by decide)] at H; exact H
       clear H
       have H := H1
       clear H1
       exact absurd H (by simp)
     ·replace c19 := Bool.eq_false_iff.mpr c19
      subst c19
      have H1 : (none) = some r := by rw [if_neg (show ¬ (false = true) by decide)] at H; exact H
      clear H
      have H := H1
      clear H1
      exact absurd H (by simp)
   ·replace c15 := Bool.eq_false_iff.mpr c15
    subst c15
    have H1 : (none) = some r := by rw [if_neg (show ¬ (false = true) by decide)] at H; exact H
    clear H
    have H := H1
    clear H1
    exact absurd H (by simp)

end Go.Proofs.Ytnecbgeljanhiaa.PFnExactPoolRun
