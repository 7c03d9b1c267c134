-- written by wip/tools/myprint.py out of the program's own print
import Derived.Test.YtapbpfbhghheeaaPFnExactCirclex0
import Derived.Test.YtapbpfbhghheeaaPFnExactCirclex2
namespace Go.Proofs.Ytapbpfbhghheeaa.PFnExactCircle
open Go.RowKit Go.Proofs.YtapbpfbhghheeaaW.PrintWords Go.Proofs.YtapbpfbhghheeaaW.PrintLast Go.Proofs.YtapbpfbhghheeaaW.PrintMore
attribute [local go_sem] max2_int min2_int max_two min_two max_three min_three max_four min_four   -- for this text's walks alone
set_option linter.unusedVariables false
set_option linter.unusedSimpArgs false

/-! ### impl_Circle: function 44 -/
/-- The least number of the shortest circle: looked at from the numbers below i down. -/
def cScan (M : List Int) : Nat → Int → Int
  | 0, q => q
  | j + 1, q => cScan M j (if dGet M j j > 0 ∧ (q < 0 ∨ dGet M j j ≤ dGet M q.toNat q.toNat) then (j : Int) else q)
theorem cScan_succ (M : List Int) (j : Nat) (q : Int) : cScan M (j + 1) q = cScan M j (if dGet M j j > 0 ∧ (q < 0 ∨ dGet M j j ≤ dGet M q.toNat q.toNat) then (j : Int) else q) := rfl
def cNext (M : List Int) (N : Nat) (q : Nat) (last : Int) (left : Int) (v : Nat) : Bool := decide (dGet M last.toNat v = 1) && decide (dGet M v q = left)
def cLoop (M : List Int) (N q : Nat) : Nat → List Int → List Int
  | 0, o => o
  | m + 1, o => match (List.range N).find? (cNext M N q (o.getLastD 0) ((m + 1 : Nat) : Int)) with
    | some v => cLoop M N q m (o ++ [(v : Int)])
    | none => cLoop M N q m o
def impl_Circle.f (k : Nat) (a0 : Int) (l1 : List (S60)) : Option (List Int) :=
  (impl_GraphOk.f k a0 l1).bind fun t => if t = true then ((impl_dist.f a0 l1).bind fun M => if cScan M a0.toNat (-1) < 0 then some [] else (if 0 < dGet M (cScan M a0.toNat (-1)).toNat (cScan M a0.toNat (-1)).toNat ∧ dGet M (cScan M a0.toNat (-1)).toNat (cScan M a0.toNat (-1)).toNat ≤ 1000000 then some (cLoop M a0.toNat (cScan M a0.toNat (-1)).toNat (dGet M (cScan M a0.toNat (-1)).toNat (cScan M a0.toNat (-1)).toNat - 1).toNat [cScan M a0.toNat (-1)]) else none)) else some []
theorem impl_Circle.mono : ∀ a0 a1 k, LeO (impl_Circle.f k a0 a1) (impl_Circle.f (k + 1) a0 a1) := by
  intro a0 a1 k
  unfold impl_Circle.f
  exact LeO.bind (impl_GraphOk.mono _ _ _) (fun _ => LeO.refl _)
theorem cScan_lt (M : List Int) {i N : Nat} {q : Int} (hi : i ≤ N) (hq : q < (N : Int)) : cScan M i q < (N : Int) := by
  induction i generalizing q with
  | zero => exact hq
  | succ j ih =>
    unfold cScan
    refine ih (by omega) ?_
    split <;> omega
theorem impl_dist.n16 {a0 : Int} {l1 : List (S60)} {r : List Int} (h : impl_dist.f a0 l1 = some r) : 0 ≤ a0 ∧ a0 ≤ 16 := by
  unfold impl_dist.f at h
  split at h
  · assumption
  · cases h
set_option maxHeartbeats 8000000 in
set_option maxRecDepth 100000 in
theorem impl_Circle.calls (k : Nat) (a0 : Int) (A1 : Option Addr) (c1 : Nat) (l1 : List (S60)) (r : List Int) (w : World) (hr1 : Kd.C k60 w A1 l1.length l1) (hc1 : l1.length ≤ c1) (h : impl_Circle.f k a0 l1 = some r) :
    Calls Try.prog 44 #[.int .i64 a0, .slice A1 l1.length c1] w fun e w' => ∃ v0_ : Value, e = .returned (v0_) ∧ Kd.R (Kd.int .i64) 3 w' w.heap.size (fun _ => True) v0_ r ∧ Below w.heap.size w w' := by
  have HR1 := Aside0.mk hr1
  have HC1 := Aside0.mk hc1
  clear hr1 hc1
  have HB := Aside0.mk (Below.refl w.heap.size w)
  unfold impl_Circle.f at h
  obtain ⟨t1, e1, h⟩ := Option.bind_eq_some_iff.mp h
  have E1 := Aside0.mk e1
  clear e1
  cases t1 with
  | false =>
    rw [if_neg (by simp)] at h
    obtain rfl := Option.some.inj h
    go_enter Try.func44, Try.ntmps44
    go_wp2_with (first | ((with_reducible refine gate_dst (N := 11) rfl ?_); refine Kd.R_lit (Kd.int .i64) _ 3 ?hg (N := 11) ?hd (xs := ([] : List Int)) (inner := []) (ok := fun _ => True) (okp := fun _ => True) ?hr ?hp (fun _ hk => hk) trivial (Below.refl _ _) (Nat.le_refl _) (by simp) ?_; (case hd => rfl); (case hg => rfl); (case hr => first | (go_simp; done) | (go_simp; rfl)); (case hp => exact (Reps.none _ _)); intro v1 w3 ho hb hg_ hnew_; clear hg_ hnew_; have HO := Aside0.mk ho; have HBq := Aside0.mk hb; clear HB; have HB := HBq; clear HBq ho hb) | (go_at_call 18; (with_reducible refine (impl_GraphOk.calls k a0 _ _ l1 false _ ?s1 HC1.out E1.out).mono ?_); (case s1 => exact Kd.C_below HR1.out HB.out); rintro e w1 ⟨rfl, hb1⟩; have HOq := Aside0.mk (Kd.R_below HO.out hb1); have HBq := Aside0.mk (below_step HB.out hb1); clear HO HB hb1; have HO := HOq; have HB := HBq; clear HOq HBq))
    go_ret
    exact ⟨_, rfl, HO.out, HB.out⟩
  | true =>
    rw [if_pos rfl] at h
    obtain ⟨M, e4, h⟩ := Option.bind_eq_some_iff.mp h
    have E4 := Aside0.mk e4
    have HM := Aside0.mk (impl_dist.len e4)
    have hn16 := impl_dist.n16 e4
    clear e4
    obtain ⟨N, rfl⟩ : ∃ N : Nat, a0 = (N : Int) := ⟨a0.toNat, by omega⟩
    rw [Int.toNat_natCast] at h
    have HN := Aside0.mk (show N ≤ 16 by omega)
    have H := Aside0.mk h
    clear hn16 h
    go_enter Try.func44, Try.ntmps44
    go_wp2_with (first | ((with_reducible refine gate_dst (N := 11) rfl ?_); refine Kd.R_lit (Kd.int .i64) _ 3 ?hg (N := 11) ?hd (xs := ([] : List Int)) (inner := []) (ok := fun _ => True) (okp := fun _ => True) ?hr ?hp (fun _ hk => hk) trivial (Below.refl _ _) (Nat.le_refl _) (by simp) ?_; (case hd => rfl); (case hg => rfl); (case hr => first | (go_simp; done) | (go_simp; rfl)); (case hp => exact (Reps.none _ _)); intro v1 w3 ho hb hg_ hnew_; clear hg_ hnew_; have HO := Aside0.mk ho; have HBq := Aside0.mk hb; clear HB; have HB := HBq; clear HBq ho hb) | (go_at_call 18; (with_reducible refine (impl_GraphOk.calls k (N : Int) _ _ l1 true _ ?s1 HC1.out E1.out).mono ?_); (case s1 => exact Kd.C_below HR1.out HB.out); rintro e w1 ⟨rfl, hb1⟩; have HOq := Aside0.mk (Kd.R_below HO.out hb1); have HBq := Aside0.mk (below_step HB.out hb1); clear HO HB hb1; have HO := HOq; have HB := HBq; clear HOq HBq) | (go_at_call 65; (with_reducible refine (impl_dist.calls (N : Int) _ _ l1 M _ ?s1 HC1.out E4.out).mono ?_); (case s1 => exact Kd.C_below HR1.out HB.out); rintro e w2 ⟨rfl, hb2⟩; have HOq := Aside0.mk (Kd.R_below HO.out hb2); have HBq := Aside0.mk (below_step HB.out hb2); clear HO HB hb2; have HO := HOq; have HB := HBq; clear HOq HBq) | ((with_reducible refine gate_dst (N := 6) rfl ?_); refine box_event ?hg (N := 6) ?hd (cs := dArr dZero) (t := 87) ?hr ?_; (case hd => rfl); (case hg => rfl); (case hr => exact allocArr rfl _ _); intro g6 hg6 w6 hb6 hbel6; have HG6 := Aside0.mk hb6; have HOq := Aside0.mk (Kd.R_below HO.out hbel6); have HS6 := Aside0.mk (show w.heap.size ≤ g6 by rw [hg6]; exact below_size HB.out); have HBq := Aside0.mk (below_step HB.out hbel6); clear HO HB; have HO := HOq; have HB := HBq; clear HOq HBq hg6 hb6 hbel6) | (refine wpList_store_row rfl 87 (.tmp 6) (.tmp 19) rfl g6 (dArr M) rfl rfl 87 (dArr dZero) HG6.out (by rw [dArr_size, HM.out]; kernel_rfl) (by rw [dArr_size, dArr_size, HM.out]; simp only [dZero, List.length_replicate]) (dArr_one M) ?_; obtain ⟨w7, hw7⟩ : ∃ w7, w7 = w6.setRow g6 (dArr M) := ⟨_, rfl⟩; rw [← hw7]; have HGq := Aside0.mk (show w7.heap[g6]? = some (.cells (dArr M) 87 (0, 0)) by rw [hw7]; exact setRow_heap _ g6 _ (dArr M) 87 (0, 0) HG6.out); have HOq := Aside0.mk (show Kd.R (Kd.int .i64) 3 w7 w.heap.size (fun _ => True) v1 [] by rw [hw7]; exact Kd.R_mono (Kd.R_move (Kd.R_types HO.out HG6.out (by decide)) (fun k_ hk => setRow_other _ _ _ _ hk.2)) (fun _ _ => trivial)); have HBq := Aside0.mk (show Below w.heap.size w w7 by rw [hw7]; exact below_setRow HB.out HS6.out _); clear HO HB HG6 hw7; have HO := HOq; have HB := HBq; have HG6 := HGq; clear HOq HBq HGq))
    clear HC1 HR1 E1 E4
    go_loopg [7, 8] N (fun kq v7 v8 w' => ∃ (i : Nat) (q kk : Int), v7 = .int .i64 q ∧ v8 = .int .i64 kk ∧ Aside0 (kk = (i : Int) - 1) ∧ Aside0 (i ≤ N) ∧ Aside0 (i = kq) ∧ Aside0 (cScan M i q = cScan M N (-1)) ∧ Aside0 (q < (N : Int)) ∧ Aside0 (w'.heap[g6]? = some (.cells (dArr M) 87 (0, 0))) ∧ Aside0 (Kd.R (Kd.int .i64) 3 w' w.heap.size (fun _ => True) v1 []) ∧ Aside0 (Below w.heap.size w w'))
    case atStart => exact ⟨N, -1, _, rfl, rfl, ⟨by first | rfl | (have := HN.out; unfold wrap64; omega)⟩, ⟨Nat.le_refl _⟩, ⟨rfl⟩, ⟨rfl⟩, ⟨by omega⟩, HG6, HO, HB⟩
    case round =>
      clear HG6 HO HB
      obtain ⟨i, q, kk, rfl, rfl, hkk, HI, HK, HS, HQ, HG6, HO, HB⟩ := hrel
      cases i with
      | succ j =>
        obtain rfl : kk = (j : Int) := by have := hkk.out; omega
        clear hkk
        have hj16 : j < 16 := by have := HN.out; have := HI.out; omega
        have cell : ∀ p, p < 256 → wr.cell? ⟨g6, p, none⟩ = some (.int .i64 (M.getD p 0)) := fun p hp => by
          rw [blk_cell HG6.out]
          exact dArr_get (by have := HM.out; omega)
        have hx1 : wr.cell? ⟨g6, j * 16 + j, none⟩ = some (.int .i64 (dGet M j j)) := cell _ (by omega)
        by_cases d1 : dGet M j j > 0
        · have db1 : decide (0 < dGet M j j) = true := decide_eq_true d1
          by_cases d2 : q < 0
          · have db2 : decide (q < 0) = true := decide_eq_true d2
            clear cell
            have HS2 := Aside0.mk (show cScan M j (j : Int) = cScan M N (-1) by rw [← HS.out, cScan_succ, if_pos ⟨d1, Or.inl d2⟩])
            clear HS
            go_wp2
            go_region
            all_goals go_wp2
            all_goals go_roundg j
            case measure => have := HK.out; omega
            case rel => exact ⟨j, (j : Int), _, rfl, rfl, ⟨by first | rfl | (unfold wrap64; omega)⟩, ⟨by have := HI.out; omega⟩, ⟨rfl⟩, HS2, ⟨by have := HI.out; omega⟩, HG6, ⟨by (with_reducible repeat (first | apply Kd.R_alloc | apply Kd.R_drewN | apply Kd.R_drew)); exact HO.out⟩, ⟨by repeat (first | (with_reducible first | exact HB.out | apply below_alloc | apply pw_below_drewN | apply below_drew1) | exact HB.out)⟩⟩
          · have db2 : decide (q < 0) = false := decide_eq_false d2
            obtain ⟨p, rfl⟩ : ∃ p : Nat, q = (p : Int) := ⟨q.toNat, by omega⟩
            have hp16 : p < 16 := by have := HN.out; have := HQ.out; omega
            have hx2 : wr.cell? ⟨g6, p * 16 + p, none⟩ = some (.int .i64 (dGet M p p)) := cell _ (by omega)
            clear cell
            by_cases d3 : dGet M j j ≤ dGet M p p
            · have db3 : decide (dGet M j j ≤ dGet M p p) = true := decide_eq_true d3
              have HS2 := Aside0.mk (show cScan M j (j : Int) = cScan M N (-1) by rw [← HS.out, cScan_succ, if_pos ⟨d1, Or.inr (by rw [Int.toNat_natCast]; exact d3)⟩])
              clear HS
              go_wp2
              go_region
              all_goals go_wp2
              all_goals go_roundg j
              case measure => have := HK.out; omega
              case rel => exact ⟨j, (j : Int), _, rfl, rfl, ⟨by first | rfl | (unfold wrap64; omega)⟩, ⟨by have := HI.out; omega⟩, ⟨rfl⟩, HS2, ⟨by have := HI.out; omega⟩, HG6, ⟨by (with_reducible repeat (first | apply Kd.R_alloc | apply Kd.R_drewN | apply Kd.R_drew)); exact HO.out⟩, ⟨by repeat (first | (with_reducible first | exact HB.out | apply below_alloc | apply pw_below_drewN | apply below_drew1) | exact HB.out)⟩⟩
            · have db3 : decide (dGet M j j ≤ dGet M p p) = false := decide_eq_false d3
              have HS2 := Aside0.mk (show cScan M j (p : Int) = cScan M N (-1) by rw [← HS.out, cScan_succ, if_neg (by rintro ⟨_, h | h⟩; exact d2 h; rw [Int.toNat_natCast] at h; exact d3 h)])
              clear HS
              go_wp2
              go_region
              all_goals go_wp2
              all_goals go_roundg j
              case measure => have := HK.out; omega
              case rel => exact ⟨j, (p : Int), _, rfl, rfl, ⟨by first | rfl | (unfold wrap64; omega)⟩, ⟨by have := HI.out; omega⟩, ⟨rfl⟩, HS2, ⟨HQ.out⟩, HG6, ⟨by (with_reducible repeat (first | apply Kd.R_alloc | apply Kd.R_drewN | apply Kd.R_drew)); exact HO.out⟩, ⟨by repeat (first | (with_reducible first | exact HB.out | apply below_alloc | apply pw_below_drewN | apply below_drew1) | exact HB.out)⟩⟩
        · have db1 : decide (0 < dGet M j j) = false := decide_eq_false d1
          have HS2 := Aside0.mk (show cScan M j q = cScan M N (-1) by rw [← HS.out, cScan_succ, if_neg (fun h => d1 h.1)])
          clear HS
          clear cell
          go_wp2
          go_region
          all_goals go_wp2
          all_goals go_roundg j
          case measure => have := HK.out; omega
          case rel => exact ⟨j, q, _, rfl, rfl, ⟨by first | rfl | (unfold wrap64; omega)⟩, ⟨by have := HI.out; omega⟩, ⟨rfl⟩, HS2, ⟨HQ.out⟩, HG6, ⟨by (with_reducible repeat (first | apply Kd.R_alloc | apply Kd.R_drewN | apply Kd.R_drew)); exact HO.out⟩, ⟨by repeat (first | (with_reducible first | exact HB.out | apply below_alloc | apply pw_below_drewN | apply below_drew1) | exact HB.out)⟩⟩
      | zero =>
        obtain rfl : kk = -1 := by have := hkk.out; omega
        clear hkk
        have hs : q = cScan M N (-1) := HS.out
        rw [← hs] at H
        clear hs HS
        by_cases d2 : q < 0
        · have db2 : decide (q < 0) = true := decide_eq_true d2
          have h := H.out
          rw [if_pos d2] at h
          obtain rfl := Option.some.inj h
          clear h
          go_wp2
          go_ret
          exact ⟨_, rfl, HO.out, HB.out⟩
        · have db2 : decide (q < 0) = false := decide_eq_false d2
          obtain ⟨p, rfl⟩ : ∃ p : Nat, q = (p : Int) := ⟨q.toNat, by omega⟩
          have hp16 : p < 16 := by have := HN.out; have := HQ.out; omega
          have h := H.out
          rw [if_neg d2, Int.toNat_natCast] at h
          by_cases d3 : 0 < dGet M p p ∧ dGet M p p ≤ 1000000
          case neg => rw [if_neg d3] at h; cases h
          rw [if_pos d3] at h
          have HR := Aside0.mk (Option.some.inj h)
          have HD := Aside0.mk d3
          clear h d3 H
          have HW := Aside0.mk (show wrap64 (dGet M p p - 1) = dGet M p p - 1 by have := HD.out; unfold wrap64; omega)
          have hx1 : wr.cell? ⟨g6, p * 16 + p, none⟩ = some (.int .i64 (dGet M p p)) := by
            rw [blk_cell HG6.out]
            exact dArr_get (by have := HM.out; omega)
          obtain ⟨Ao, co, eo⟩ := Kd.R_slice HO.out
          subst eo
          go_wp2_with (first | ((with_reducible refine gate_builtin (b := .append) (xs := #[.tmp 53, .tmp 55]) rfl ?_); at_builtin; refine Kd.R_append (Kd.int .i64) (w0 := w) w.heap.size rfl (.tmp 53) (.tmp 55) 36 3 (.int .i64 0) 8 rfl Try.underlying36 info3 rfl (by decide) (by omega) (.slice Ao 0 co) ([] : List Int) (p : Int) [.int .i64 (p : Int)] (fun _ => True) (fun _ => False) rfl rfl ?aP (fun _ hk => hk.elim) ?aF ?aO ?aB ?aS ?aL ?_; (case aP => exact rfl); (case aB => exact (by repeat (first | (with_reducible first | exact HB.out | apply below_alloc | apply pw_below_drewN | apply below_drew1) | exact HB.out))); (case aF => exact (fun _ _ => trivial)); (case aO => exact (by (with_reducible repeat (first | apply Kd.R_alloc | apply Kd.R_drewN | apply Kd.R_drew)); exact HO.out)); (case aS => exact (below_size (by repeat (first | (with_reducible first | exact HB.out | apply below_alloc | apply pw_below_drewN | apply below_drew1) | exact HB.out)))); (case aL => show (0 + 1) * 8 ≤ 140737488355328; omega); intro v5 w5 ho hb hg hat; have HGq := Aside0.mk (blk_grown HG6.out hg (Kd.R_ne HO.out HG6.out (by decide))); have n0_ := Aside0.mk hb; have n1_ := Aside0.mk ho; clear HB HO HG6; have HB := n0_; have HO := n1_; have HG6 := HGq; have hx2 : w5.cell? ⟨g6, p * 16 + p, none⟩ = some (.int .i64 (dGet M p p)) := (by rw [blk_cell HG6.out]; exact dArr_get (by have := HM.out; omega)); clear n0_ n1_ HGq hx1; clear ho hb hg hat))
          clear hx2
          go_loopg [5, 9] (dGet M p p - 1).toNat (fun kq v5 v9 w' => ∃ (o : List Int) (lf : Int), v9 = .int .i64 lf ∧ Aside0 (lf.toNat = kq) ∧ Aside0 (cLoop M N p lf.toNat o = r) ∧ Aside0 (o.length + lf.toNat ≤ 1000002) ∧ Aside0 (o ≠ []) ∧ Aside0 (∀ x ∈ o, 0 ≤ x ∧ x < 16) ∧ Aside0 (w'.heap[g6]? = some (.cells (dArr M) 87 (0, 0))) ∧ Aside0 (Kd.R (Kd.int .i64) 3 w' w.heap.size (fun _ => True) v5 o) ∧ Aside0 (Below w.heap.size w w'))
          case atStart => exact ⟨[(p : Int)], _, rfl, ⟨by rw [HW.out]⟩, ⟨by rw [HW.out]; exact HR.out⟩, ⟨by have := HD.out; (try rw [HW.out]); simp only [List.length_singleton]; omega⟩, ⟨by simp⟩, ⟨by intro x hx; rw [List.mem_singleton.1 hx]; omega⟩, HG6, HO, HB⟩
          case round =>
            clear HG6 HO HB HR
            obtain ⟨o, lf, rfl, HKK, HR, HLM, HNE, HALL, HG6, HO, HB⟩ := hrel
            by_cases c1 : lf > 0
            · have cb1 : decide (0 < lf) = true := decide_eq_true c1
              obtain ⟨m, rfl⟩ : ∃ m : Nat, lf = ((m + 1 : Nat) : Int) := ⟨lf.toNat - 1, by omega⟩
              rw [Int.toNat_natCast] at HKK HR HLM
              obtain ⟨Ao2, co2, eo2⟩ := Kd.R_slice HO.out
              subst eo2
              obtain ⟨t, ht⟩ : ∃ t, o.length = t + 1 := ⟨o.length - 1, by have := List.length_pos_iff.2 HNE.out; omega⟩
              obtain ⟨ad, ead, hx0⟩ := Kd.at_int (Kd.R_reads' HO.out).2.2 (t : Int) (by omega) (by omega)
              cases ead
              have hlast : rd o (t : Int) = o.getLastD 0 := by
                unfold rd
                rw [Int.toNat_natCast, List.getD_eq_getElem?_getD, List.getLastD_eq_getLast?, List.getLast?_eq_getElem?, ht]
                rfl
              rw [hlast, Int.toNat_natCast] at hx0
              have hmem : 0 ≤ o.getLastD 0 ∧ o.getLastD 0 < 16 := by
                have h1 : o.getLastD 0 ∈ o := by
                  rw [← hlast]
                  unfold rd
                  rw [Int.toNat_natCast, List.getD_eq_getElem?_getD, List.getElem?_eq_getElem (by omega)]
                  exact List.getElem_mem _
                exact HALL.out _ h1
              obtain ⟨z, hz⟩ : ∃ z : Nat, o.getLastD 0 = (z : Int) := ⟨(o.getLastD 0).toNat, by omega⟩
              rw [hz] at hx0
              have hz16 : z < 16 := by omega
              have HR2 := Aside0.mk (show (match (List.range N).find? (cNext M N p (z : Int) ((m + 1 : Nat) : Int)) with | some v => cLoop M N p m (o ++ [(v : Int)]) | none => cLoop M N p m o) = r by rw [← HR.out, cLoop, hz])
              have HT := Aside0.mk ht
              rw [ht] at HO
              clear hmem hlast hz HR
              go_wp2
              go_loopg [5, 68] N (fun kq v5 v68 w' => ∃ v : Nat, v5 = .slice (some ad) (t + 1) co2 ∧ v68 = .int .i64 (v : Int) ∧ Aside0 (v + kq = N) ∧ Aside0 ((List.range N).find? (cNext M N p (z : Int) ((m + 1 : Nat) : Int)) = ((List.range N).drop v).find? (cNext M N p (z : Int) ((m + 1 : Nat) : Int))) ∧ Aside0 (w'.heap[g6]? = some (.cells (dArr M) 87 (0, 0))) ∧ Aside0 (w'.cell? (ad.add t) = some (.int .i64 (z : Int))) ∧ Aside0 (Kd.R (Kd.int .i64) 3 w' w.heap.size (fun _ => True) (.slice (some ad) (t + 1) co2) o) ∧ Aside0 (Below w.heap.size w w'))
              case atStart => exact ⟨0, by first | rfl | rw [HT.out], rfl, ⟨by omega⟩, ⟨rfl⟩, HG6, ⟨hx0⟩, HO, HB⟩
              case round =>
                clear HG6 HO HB hx0
                obtain ⟨v, rfl, rfl, HV, HF, HG6, HX0, HO, HB⟩ := hrel
                by_cases c2 : v < N
                · have cb2 : decide ((v : Int) < (N : Int)) = true := by simpa using c2
                  have hv16 : v < 16 := by have := HN.out; omega
                  have hx0 := HX0.out
                  have ht0 : t < 1000002 := by have := HLM.out; have := HT.out; omega
                  have hm0 : m < 1000002 := by have := HLM.out; omega
                  have cell : ∀ q, q < 256 → wr.cell? ⟨g6, q, none⟩ = some (.int .i64 (M.getD q 0)) := fun q hq => by
                    rw [blk_cell HG6.out]
                    exact dArr_get (by have := HM.out; omega)
                  have hx1 : wr.cell? ⟨g6, z * 16 + v, none⟩ = some (.int .i64 (dGet M z v)) := cell _ (by omega)
                  have hx2 : wr.cell? ⟨g6, v * 16 + p, none⟩ = some (.int .i64 (dGet M v p)) := cell _ (by omega)
                  clear cell
                  have hd : (List.range N).drop v = v :: (List.range N).drop (v + 1) := by rw [List.drop_eq_getElem_cons (by simpa using c2), List.getElem_range]
                  by_cases d1 : dGet M z v = 1
                  · have db1 : (dGet M z v == 1) = true := beq_iff_eq.mpr d1
                    by_cases d2 : dGet M v p = ((m + 1 : Nat) : Int)
                    · have db2 : (dGet M v p == (((m + 1 : Nat) : Int))) = true := beq_iff_eq.mpr d2
                      have HR3 := Aside0.mk (show cLoop M N p m (o ++ [(v : Int)]) = r by
                        have h := HR2.out
                        rw [HF.out, hd, List.find?_cons, show cNext M N p (z : Int) ((m + 1 : Nat) : Int) v = true by unfold cNext; rw [Int.toNat_natCast, decide_eq_true d1, decide_eq_true d2]; rfl] at h
                        exact h)
                      go_wp2_with (first | ((with_reducible refine gate_builtin (b := .append) (xs := #[.tmp 91, .tmp 93]) rfl ?_); at_builtin; refine Kd.R_append (Kd.int .i64) (w0 := w) w.heap.size rfl (.tmp 91) (.tmp 93) 36 3 (.int .i64 0) 8 rfl Try.underlying36 info3 rfl (by decide) (by omega) (.slice (some ad) (t + 1) co2) o (v : Int) [.int .i64 (v : Int)] (fun _ => True) (fun _ => False) rfl rfl ?aP (fun _ hk => hk.elim) ?aF ?aO ?aB ?aS ?aL ?_; (case aP => exact rfl); (case aB => exact (by repeat (first | (with_reducible first | exact HB.out | apply below_alloc | apply pw_below_drewN | apply below_drew1) | exact HB.out))); (case aF => exact (fun _ _ => trivial)); (case aO => exact (by (with_reducible repeat (first | apply Kd.R_alloc | apply Kd.R_drewN | apply Kd.R_drew)); exact HO.out)); (case aS => exact (below_size (by repeat (first | (with_reducible first | exact HB.out | apply below_alloc | apply pw_below_drewN | apply below_drew1) | exact HB.out)))); (case aL => have := HLM.out; have := HT.out; omega); intro v5 w5 ho hb hg hat; have HGq := Aside0.mk (blk_grown HG6.out hg (Kd.R_ne HO.out HG6.out (by decide))); have n0_ := Aside0.mk hb; have n1_ := Aside0.mk ho; clear HB HO HG6; have HB := n0_; have HO := n1_; have HG6 := HGq; clear n0_ n1_ HGq; clear ho hb hg hat))
                      go_roundg m
                      case measure => have := HKK.out; omega
                      case rel => exact ⟨o ++ [(v : Int)], (m : Int), (by first | rfl | (congr 1; unfold wrap64; omega)), ⟨Int.toNat_natCast m⟩, ⟨by rw [Int.toNat_natCast]; exact HR3.out⟩, ⟨by have := HLM.out; simp only [List.length_append, List.length_singleton, Int.toNat_natCast]; omega⟩, ⟨by simp⟩, ⟨by intro x hx; rcases List.mem_append.1 hx with hx | hx; exact HALL.out x hx; rw [List.mem_singleton.1 hx]; omega⟩, HG6, HO, HB⟩
                    · have db2 : (dGet M v p == (((m + 1 : Nat) : Int))) = false := beq_eq_false_iff_ne.mpr d2
                      have HF2 := Aside0.mk (show (List.range N).find? (cNext M N p (z : Int) ((m + 1 : Nat) : Int)) = ((List.range N).drop (v + 1)).find? (cNext M N p (z : Int) ((m + 1 : Nat) : Int)) by
                        rw [HF.out, hd, List.find?_cons, show cNext M N p (z : Int) ((m + 1 : Nat) : Int) v = false by unfold cNext; rw [Int.toNat_natCast, decide_eq_true d1, decide_eq_false d2]; rfl])
                      go_wp2
                      go_roundg (N - (v + 1))
                      case measure => have := HV.out; omega
                      case rel => exact ⟨v + 1, rfl, (by first | rfl | rw [dW v (by omega)]), ⟨by omega⟩, HF2, HG6, HX0, HO, HB⟩
                  · have db1 : (dGet M z v == 1) = false := beq_eq_false_iff_ne.mpr d1
                    have HF2 := Aside0.mk (show (List.range N).find? (cNext M N p (z : Int) ((m + 1 : Nat) : Int)) = ((List.range N).drop (v + 1)).find? (cNext M N p (z : Int) ((m + 1 : Nat) : Int)) by
                        rw [HF.out, hd, List.find?_cons, show cNext M N p (z : Int) ((m + 1 : Nat) : Int) v = false by unfold cNext; rw [Int.toNat_natCast, decide_eq_false d1]; rfl])
                    go_wp2
                    go_roundg (N - (v + 1))
                    case measure => have := HV.out; omega
                    case rel => exact ⟨v + 1, rfl, (by first | rfl | rw [dW v (by omega)]), ⟨by omega⟩, HF2, HG6, HX0, HO, HB⟩
                · have cb2 : decide ((v : Int) < (N : Int)) = false := by simpa using c2
                  have HR3 := Aside0.mk (show cLoop M N p m o = r by
                    have h := HR2.out
                    rw [HF.out, List.drop_of_length_le (by rw [List.length_range]; omega)] at h
                    exact h)
                  have hm0 : m < 1000002 := by have := HLM.out; omega
                  go_wp2
                  go_roundg m
                  case measure => have := HKK.out; omega
                  case rel => exact ⟨o, (m : Int), (by first | rfl | (congr 1; unfold wrap64; omega)), ⟨Int.toNat_natCast m⟩, ⟨by rw [Int.toNat_natCast]; exact HR3.out⟩, ⟨by have := HLM.out; rw [Int.toNat_natCast]; omega⟩, HNE, HALL, HG6, HO, HB⟩
            · have cb1 : decide (0 < lf) = false := decide_eq_false c1
              have h := HR.out
              rw [show lf.toNat = 0 by omega, cLoop] at h
              subst h
              go_wp2
              go_ret
              exact ⟨_, rfl, HO.out, HB.out⟩

/-! ### spec_l1In: function 54 -/
def spec_l1In.f (a0 : Int) (a1 : Int) (a2 : Int) : Option (Bool) := if a0 ≥ a1 then (some (decide (a0 ≤ a2))) else (some false)
set_option maxHeartbeats 8000000 in
set_option maxRecDepth 100000 in
theorem spec_l1In.calls (a0 : Int) (a1 : Int) (a2 : Int) (r : Bool) (w : World) (h : spec_l1In.f a0 a1 a2 = some r) :
    Calls Try.prog 54 #[.int .i64 a0, .int .i64 a1, .int .i64 a2] w fun e w' => e = .returned (.bool r) ∧ Drawn0 w w' := by
  have H : (if a0 ≥ a1 then (some (decide (a0 ≤ a2))) else (some false)) = some r := h
  clear h
  by_cases c4 : a0 ≥ a1
  · rw [if_pos c4] at H
    have c4b0 : decide (a1 ≤ a0) = true := decide_eq_true c4
    clear c4
    obtain rfl := Option.some.inj H
    go_enter Try.func54, Try.ntmps54
    go_wp2
    go_ret
    exact ⟨by first | rfl | (simp; done) | (simp [*]; done), by repeat (first | exact Drawn0.refl _ | apply Drawn0.step)⟩
  · rw [if_neg c4] at H
    have c4b0 : decide (a1 ≤ a0) = false := decide_eq_false c4
    clear c4
    obtain rfl := Option.some.inj H
    go_enter Try.func54, Try.ntmps54
    go_wp2
    go_ret
    exact ⟨by first | rfl | (simp; done) | (simp [*]; done), by repeat (first | exact Drawn0.refl _ | apply Drawn0.step)⟩

/-! ### spec_GraphOk: function 16 -/
mutual
def spec_GraphOk.j0 : Nat → Int → List (S60) → Bool → Option (Bool)
  | 0, _, _, _ => none
  | k + 1, x0, x1, x13 => if x13 = true then (some false) else (spec_GraphOk.l0 k x0 x1 0)
def spec_GraphOk.l0 : Nat → Int → List (S60) → Int → Option (Bool)
  | 0, _, _, _ => none
  | k + 1, x0, x1, x5 => if x5 < (x1.length : Int) then (if 0 ≤ x5 then ((spec_l1In.f ((rd_T60 x1 x5).f0) 0 (wrap64 (x0 - 1))).bind fun t129 => (if t129 = true then ((spec_l1In.f ((rd_T60 x1 x5).f1) 0 (wrap64 (x0 - 1))).bind fun t131 => (if t131 = true then (spec_GraphOk.l0 k x0 x1 (wrap64 (x5 + 1))) else (some false))) else (some false))) else (none)) else (some true)
end
def spec_GraphOk.f (k : Nat) (a0 : Int) (l1 : List (S60)) : Option (Bool) := (spec_l1In.f a0 0 16).bind fun t127 => (if t127 = true then (spec_GraphOk.j0 k a0 l1 (decide ((l1.length : Int) > 200))) else (spec_GraphOk.j0 k a0 l1 true))
theorem spec_GraphOk.mono_l : ∀ k, (∀ y0 y1 y2, LeO (spec_GraphOk.j0 k y0 y1 y2) (spec_GraphOk.j0 (k + 1) y0 y1 y2)) ∧ (∀ y0 y1 y2, LeO (spec_GraphOk.l0 k y0 y1 y2) (spec_GraphOk.l0 (k + 1) y0 y1 y2))
  | 0 => ⟨fun _ _ _ r h => by simp [spec_GraphOk.j0] at h, fun _ _ _ r h => by simp [spec_GraphOk.l0] at h⟩
  | k + 1 => by
    obtain ⟨ih0, ih1⟩ := spec_GraphOk.mono_l k
    refine ⟨?_, ?_⟩
    · intro y0 y1 y2
      unfold spec_GraphOk.j0
      repeat' first
      | (with_reducible exact ih0 _ _ _)
      | (with_reducible exact ih1 _ _ _)
      | (with_reducible exact LeO.refl _)
      | (with_reducible exact LeO.none _)
      | (with_reducible refine LeO.ite ?_ ?_)
      | (with_reducible refine LeO.bind ?_ (fun _ => ?_))
      | exact ih0 _ _ _
      | exact ih1 _ _ _
      | exact LeO.none _
      | refine LeO.ite ?_ ?_
      | refine LeO.bind ?_ (fun _ => ?_)
    · intro y0 y1 y2
      unfold spec_GraphOk.l0
      repeat' first
      | (with_reducible exact ih0 _ _ _)
      | (with_reducible exact ih1 _ _ _)
      | (with_reducible exact LeO.refl _)
      | (with_reducible exact LeO.none _)
      | (with_reducible refine LeO.ite ?_ ?_)
      | (with_reducible refine LeO.bind ?_ (fun _ => ?_))
      | exact ih0 _ _ _
      | exact ih1 _ _ _
      | exact LeO.none _
      | refine LeO.ite ?_ ?_
      | refine LeO.bind ?_ (fun _ => ?_)
theorem spec_GraphOk.mono : ∀ a0 a1 k, LeO (spec_GraphOk.f k a0 a1) (spec_GraphOk.f (k + 1) a0 a1) := by
  intro a0 a1 k
  obtain ⟨ih0, ih1⟩ := spec_GraphOk.mono_l k
  unfold spec_GraphOk.f
  repeat' first
      | (with_reducible exact ih0 _ _ _)
      | (with_reducible exact ih1 _ _ _)
      | (with_reducible exact LeO.refl _)
      | (with_reducible exact LeO.none _)
      | (with_reducible refine LeO.ite ?_ ?_)
      | (with_reducible refine LeO.bind ?_ (fun _ => ?_))
      | exact ih0 _ _ _
      | exact ih1 _ _ _
      | exact LeO.none _
      | refine LeO.ite ?_ ?_
      | refine LeO.bind ?_ (fun _ => ?_)
set_option maxHeartbeats 8000000 in
set_option maxRecDepth 100000 in
theorem spec_GraphOk.calls (k : Nat) (a0 : Int) (A1 : Option Addr) (c1 : Nat) (l1 : List (S60)) (r : Bool) (w : World) (hr1 : Kd.C k60 w A1 l1.length l1) (hc1 : l1.length ≤ c1) (h : spec_GraphOk.f k a0 l1 = some r) :
    Calls Try.prog 16 #[.int .i64 a0, .slice A1 l1.length c1] w fun e w' => e = .returned (.bool r) ∧ Drawn0 w w' := by
  have HR1 := Aside0.mk hr1
  have HC1 := Aside0.mk hc1
  clear hr1 hc1
  have H : ((spec_l1In.f a0 0 16).bind fun t127 => (if t127 = true then (spec_GraphOk.j0 k a0 l1 (decide ((l1.length : Int) > 200))) else (spec_GraphOk.j0 k a0 l1 true))) = some r := h
  clear h
  have HC3 := Aside0.mk H
  clear H
  go_enter Try.func16, Try.ntmps16
  go_upto_region 1 with (fail)
  go_cut [13] (fun v13 wc => ∃ (kq : Nat) (x13_2 : Bool), v13 = .bool x13_2 ∧ Aside0 (spec_GraphOk.j0 kq a0 l1 x13_2 = some r) ∧ Aside0 (kq ≤ k) ∧ Drawn0 w wc)
  case first =>
    have H := HC3.out
    clear HC3
    replace H := Option.bind_eq_some_iff.mp H
    obtain ⟨t127, A40, H⟩ := H
    replace H : (if t127 = true then (spec_GraphOk.j0 k a0 l1 (decide ((l1.length : Int) > 200))) else (spec_GraphOk.j0 k a0 l1 true)) = some r := H
    have A4 := Aside0.mk A40
    clear A40
    by_cases c5 : t127 = true
    · subst c5
      have H1 : (spec_GraphOk.j0 k a0 l1 (decide ((l1.length : Int) > 200))) = some r := by rw [if_pos rfl] at H; exact H
      clear H
      have H := H1
      clear H1
      have H' := Aside0.mk H
      clear H
      go_wp2_with (first | ((with_reducible refine gate_callee (f := 54) rfl ?_); refine goesL_ (some 7) rfl rfl Try.func54 (by kernel_rfl) rfl #[.int .i64 a0, .int .i64 0, .int .i64 16] rfl (by (try simp only [List.map_toArray, List.map_cons, List.map_nil]); first | done | rfl | (simp only [List.length_drop, List.length_take]; rfl)) ?_; (with_reducible refine (spec_l1In.calls a0 0 16 true _ A4.out).mono ?_); rintro e w' ⟨rfl, ⟨nd, rfl⟩⟩; refine ⟨_, rfl, ?_⟩))
      go_meet
      case rel => exact ⟨_, (decide ((l1.length : Int) > 200)), (by first | rfl | (simp; done) | (simp [*]; done)), H', ⟨by first | omega | exact Nat.le_refl _⟩, by repeat (first | exact Drawn0.refl _ | apply Drawn0.step)⟩
    · replace c5 := Bool.eq_false_iff.mpr c5
      subst c5
      have H1 : (spec_GraphOk.j0 k a0 l1 true) = some r := by rw [if_neg (show ¬ (false = true) by decide)] at H; exact H
      clear H
      have H := H1
      clear H1
      have H' := Aside0.mk H
      clear H
      go_wp2_with (first | ((with_reducible refine gate_callee (f := 54) rfl ?_); refine goesL_ (some 7) rfl rfl Try.func54 (by kernel_rfl) rfl #[.int .i64 a0, .int .i64 0, .int .i64 16] rfl (by (try simp only [List.map_toArray, List.map_cons, List.map_nil]); first | done | rfl | (simp only [List.length_drop, List.length_take]; rfl)) ?_; (with_reducible refine (spec_l1In.calls a0 0 16 false _ A4.out).mono ?_); rintro e w' ⟨rfl, ⟨nd, rfl⟩⟩; refine ⟨_, rfl, ?_⟩))
      go_meet
      case rel => exact ⟨_, (true), (by first | rfl | (simp; done) | (simp [*]; done)), H', ⟨by first | omega | exact Nat.le_refl _⟩, by repeat (first | exact Drawn0.refl _ | apply Drawn0.step)⟩
  case rest =>
    clear HC3
    try clear c1
    try clear p2
    try clear c5
    obtain ⟨kq, x13_2, rfl, HA, HJ2, ⟨mc2, rfl⟩⟩ := hcut
    cases kq with
    | zero => exact absurd HA.out (by simp [spec_GraphOk.j0])
    | succ kj2 =>
      have H := HA.out
      clear HA
      simp only [spec_GraphOk.j0] at H
      by_cases c6 : x13_2 = true
      · subst c6
        have H1 : (some false) = some r := by rw [if_pos rfl] at H; exact H
        clear H
        have H := H1
        clear H1
        obtain rfl := Option.some.inj H
        go_wp2
        go_ret
        exact ⟨by first | rfl | (simp; done) | (simp [*]; done), by repeat (first | exact Drawn0.refl _ | apply Drawn0.step)⟩
      · replace c6 := Bool.eq_false_iff.mpr c6
        subst c6
        have H1 : (spec_GraphOk.l0 kj2 a0 l1 0) = some r := by rw [if_neg (show ¬ (false = true) by decide)] at H; exact H
        clear H
        have H := H1
        clear H1
        have H' := Aside0.mk H
        clear H
        go_wp2
        go_loopg [5] kj2 (fun kq v5 w' => ∃ (x5_2 : Int), v5 = .int .i64 x5_2 ∧ Aside0 (spec_GraphOk.l0 kq a0 l1 x5_2 = some r) ∧ Aside0 (kq ≤ kj2) ∧ Drawn0 w w')
        case atStart => exact ⟨(0), (by first | rfl | (simp; done) | (simp [*]; done)), H', ⟨Nat.le_refl _⟩, by repeat (first | exact Drawn0.refl _ | apply Drawn0.step)⟩
        case round =>
          clear H'
          try clear c1
          try clear c2
          try clear p2
          try clear c5
          try clear c6
          try clear p2
          obtain ⟨x5_2, rfl, HA, HK2, ⟨m2, rfl⟩⟩ := hrel
          cases gk with
          | zero => exact absurd HA.out (by simp [spec_GraphOk.l0])
          | succ k2 =>
            have H := HA.out
            clear HA
            simp only [spec_GraphOk.l0] at H
            by_cases c7 : x5_2 < (l1.length : Int)
            · rw [if_pos c7] at H
              have c7b0 : decide (x5_2 < (l1.length : Int)) = true := decide_eq_true c7
              clear c7
              by_cases c8 : 0 ≤ x5_2
              · rw [if_pos c8] at H
                have c8b0 : decide (0 ≤ x5_2) = true := decide_eq_true c8
                clear c8
                replace H := Option.bind_eq_some_iff.mp H
                obtain ⟨t129, A90, H⟩ := H
                replace H : (if t129 = true then ((spec_l1In.f ((rd_T60 l1 x5_2).f1) 0 (wrap64 (a0 - 1))).bind fun t131 => (if t131 = true then (spec_GraphOk.l0 k2 a0 l1 (wrap64 (x5_2 + 1))) else (some false))) else (some false)) = some r := H
                have A9 := Aside0.mk A90
                clear A90
                by_cases c10 : t129 = true
                · subst c10
                  have H1 : ((spec_l1In.f ((rd_T60 l1 x5_2).f1) 0 (wrap64 (a0 - 1))).bind fun t131 => (if t131 = true then (spec_GraphOk.l0 k2 a0 l1 (wrap64 (x5_2 + 1))) else (some false))) = some r := by rw [if_pos rfl] at H; exact H
                  clear H
                  have H := H1
                  clear H1
                  replace H := Option.bind_eq_some_iff.mp H
                  obtain ⟨t131, A110, H⟩ := H
                  replace H : (if t131 = true then (spec_GraphOk.l0 k2 a0 l1 (wrap64 (x5_2 + 1))) else (some false)) = some r := H
                  have A11 := Aside0.mk A110
                  clear A110
                  by_cases c12 : t131 = true
                  · subst c12
                    have H1 : (spec_GraphOk.l0 k2 a0 l1 (wrap64 (x5_2 + 1))) = some r := by rw [if_pos rfl] at H; exact H
                    clear H
                    have H := H1
                    clear H1
                    have H' := Aside0.mk H
                    clear H
                    have p128 : 0 ≤ (x5_2 : Int) := of_decide_eq_true (by first | (with_reducible assumption) | assumption)
                    have q128 : x5_2 < (l1.length : Int) := of_decide_eq_true (by first | (with_reducible assumption) | assumption)
                    obtain ⟨ad128, e128, hx128_0, hx128_1⟩ := at_T60 HR1.out x5_2 p128 q128
                    cases e128
                    replace p128 := eq_true p128
                    replace q128 := eq_true q128
                    go_wp2_with (first | ((with_reducible refine gate_callee (f := 54) rfl ?_); refine goesL_ (some 27) rfl rfl Try.func54 (by kernel_rfl) rfl #[.int .i64 ((rd_T60 l1 x5_2).f0), .int .i64 0, .int .i64 (wrap64 (a0 - 1))] rfl (by (try simp only [List.map_toArray, List.map_cons, List.map_nil]); first | done | rfl | (simp only [List.length_drop, List.length_take]; rfl)) ?_; (with_reducible refine (spec_l1In.calls ((rd_T60 l1 x5_2).f0) 0 (wrap64 (a0 - 1)) true _ A9.out).mono ?_); rintro e w' ⟨rfl, ⟨nd, rfl⟩⟩; refine ⟨_, rfl, ?_⟩; have p130 : 0 ≤ (x5_2 : Int) := of_decide_eq_true (by first | (with_reducible assumption) | assumption); have q130 : x5_2 < (l1.length : Int) := of_decide_eq_true (by first | (with_reducible assumption) | assumption); obtain ⟨ad130, e130, hx130_0, hx130_1⟩ := at_T60 HR1.out x5_2 p130 q130; obtain rfl : ad128 = ad130 := (by injection e130); replace p130 := eq_true p130; replace q130 := eq_true q130) | (go_at_call 54; (with_reducible refine (spec_l1In.calls ((rd_T60 l1 x5_2).f1) 0 (wrap64 (a0 - 1)) true _ A11.out).mono ?_); rintro e w' ⟨rfl, ⟨nd, rfl⟩⟩))
                    go_roundg k2
                    case measure => have := HJ2.out; have := HK2.out; omega
                    case rel => exact ⟨(wrap64 (x5_2 + 1)), (by first | rfl | (simp; done) | (simp [*]; done)), H', ⟨by have := HJ2.out; have := HK2.out; omega⟩, by repeat (first | exact Drawn0.refl _ | apply Drawn0.step)⟩
                  · replace c12 := Bool.eq_false_iff.mpr c12
                    subst c12
                    have H1 : (some false) = some r := by rw [if_neg (show ¬ (false = true) by decide)] at H; exact H
                    clear H
                    have H := H1
                    clear H1
                    obtain rfl := Option.some.inj H
                    have p128 : 0 ≤ (x5_2 : Int) := of_decide_eq_true (by first | (with_reducible assumption) | assumption)
                    have q128 : x5_2 < (l1.length : Int) := of_decide_eq_true (by first | (with_reducible assumption) | assumption)
                    obtain ⟨ad128, e128, hx128_0, hx128_1⟩ := at_T60 HR1.out x5_2 p128 q128
                    cases e128
                    replace p128 := eq_true p128
                    replace q128 := eq_true q128
                    go_wp2_with (first | ((with_reducible refine gate_callee (f := 54) rfl ?_); refine goesL_ (some 27) rfl rfl Try.func54 (by kernel_rfl) rfl #[.int .i64 ((rd_T60 l1 x5_2).f0), .int .i64 0, .int .i64 (wrap64 (a0 - 1))] rfl (by (try simp only [List.map_toArray, List.map_cons, List.map_nil]); first | done | rfl | (simp only [List.length_drop, List.length_take]; rfl)) ?_; (with_reducible refine (spec_l1In.calls ((rd_T60 l1 x5_2).f0) 0 (wrap64 (a0 - 1)) true _ A9.out).mono ?_); rintro e w' ⟨rfl, ⟨nd, rfl⟩⟩; refine ⟨_, rfl, ?_⟩; have p130 : 0 ≤ (x5_2 : Int) := of_decide_eq_true (by first | (with_reducible assumption) | assumption); have q130 : x5_2 < (l1.length : Int) := of_decide_eq_true (by first | (with_reducible assumption) | assumption); obtain ⟨ad130, e130, hx130_0, hx130_1⟩ := at_T60 HR1.out x5_2 p130 q130; obtain rfl : ad128 = ad130 := (by injection e130); replace p130 := eq_true p130; replace q130 := eq_true q130) | (go_at_call 54; (with_reducible refine (spec_l1In.calls ((rd_T60 l1 x5_2).f1) 0 (wrap64 (a0 - 1)) false _ A11.out).mono ?_); rintro e w' ⟨rfl, ⟨nd, rfl⟩⟩))
                    go_ret
                    exact ⟨by first | rfl | (simp; done) | (simp [*]; done), by repeat (first | exact Drawn0.refl _ | apply Drawn0.step)⟩
                · replace c10 := Bool.eq_false_iff.mpr c10
                  subst c10
                  have H1 : (some false) = some r := by rw [if_neg (show ¬ (false = true) by decide)] at H; exact H
                  clear H
                  have H := H1
                  clear H1
                  obtain rfl := Option.some.inj H
                  have p128 : 0 ≤ (x5_2 : Int) := of_decide_eq_true (by first | (with_reducible assumption) | assumption)
                  have q128 : x5_2 < (l1.length : Int) := of_decide_eq_true (by first | (with_reducible assumption) | assumption)
                  obtain ⟨ad128, e128, hx128_0, hx128_1⟩ := at_T60 HR1.out x5_2 p128 q128
                  cases e128
                  replace p128 := eq_true p128
                  replace q128 := eq_true q128
                  go_wp2_with (first | ((with_reducible refine gate_callee (f := 54) rfl ?_); refine goesL_ (some 27) rfl rfl Try.func54 (by kernel_rfl) rfl #[.int .i64 ((rd_T60 l1 x5_2).f0), .int .i64 0, .int .i64 (wrap64 (a0 - 1))] rfl (by (try simp only [List.map_toArray, List.map_cons, List.map_nil]); first | done | rfl | (simp only [List.length_drop, List.length_take]; rfl)) ?_; (with_reducible refine (spec_l1In.calls ((rd_T60 l1 x5_2).f0) 0 (wrap64 (a0 - 1)) false _ A9.out).mono ?_); rintro e w' ⟨rfl, ⟨nd, rfl⟩⟩; refine ⟨_, rfl, ?_⟩))
                  go_ret
                  exact ⟨by first | rfl | (simp; done) | (simp [*]; done), by repeat (first | exact Drawn0.refl _ | apply Drawn0.step)⟩
              · rw [if_neg c8] at H
                exact absurd H (by simp)
            · rw [if_neg c7] at H
              have c7b0 : decide (x5_2 < (l1.length : Int)) = false := decide_eq_false c7
              clear c7
              obtain rfl := Option.some.inj H
              go_wp2
              go_ret
              exact ⟨by first | rfl | (simp; done) | (simp [*]; done), by repeat (first | exact Drawn0.refl _ | apply Drawn0.step)⟩

/-! ### spec_l14Way: function 64 -/
mutual
def spec_l14Way.l0 : Nat → Int → List (S60) → Int → List Bool → Int → Option (Int)
  | 0, _, _, _, _, _ => none
  | k + 1, x0, x1, x3, x9, x10 => if x10 ≤ x0 then (if 0 ≤ x0 then (if (x0 : Int).toNat ≤ 281474976710656 then (spec_l14Way.l1 k x0 x1 x3 x9 x10 (List.replicate (x0 : Int).toNat false) 0) else (none)) else (none)) else (some 0)
def spec_l14Way.l1 : Nat → Int → List (S60) → Int → List Bool → Int → List Bool → Int → Option (Int)
  | 0, _, _, _, _, _, _, _ => none
  | k + 1, x0, x1, x3, x9, x10, x11, x12 => if x12 < (x1.length : Int) then (if 0 ≤ x12 then (if 0 ≤ ((rd_T60 x1 x12).f0) then (if ((rd_T60 x1 x12).f0) < (x9.length : Int) then (if rdOf false x9 ((rd_T60 x1 x12).f0) = true then (if 0 ≤ ((rd_T60 x1 x12).f1) then (if ((rd_T60 x1 x12).f1) < (x11.length : Int) then (spec_l14Way.l1 k x0 x1 x3 x9 x10 (x11.set (((rd_T60 x1 x12).f1) : Int).toNat true) (wrap64 (x12 + 1))) else (none)) else (none)) else (spec_l14Way.l1 k x0 x1 x3 x9 x10 x11 (wrap64 (x12 + 1)))) else (none)) else (none)) else (none)) else (if 0 ≤ x3 then (if x3 < (x11.length : Int) then (if rdOf false x11 x3 = true then (some x10) else (spec_l14Way.l0 k x0 x1 x3 x11 (wrap64 (x10 + 1)))) else (none)) else (none))
end
def spec_l14Way.f (k : Nat) (a0 : Int) (l1 : List (S60)) (a2 : Int) (a3 : Int) : Option (Int) := if 0 ≤ a0 then (if (a0 : Int).toNat ≤ 281474976710656 then ((some (List.replicate (a0 : Int).toNat false : List Bool)).bind fun y132 => (if 0 ≤ a2 then (if a2 < (y132.length : Int) then (spec_l14Way.l0 k a0 l1 a3 (y132.set (a2 : Int).toNat true) 1) else (none)) else (none))) else (none)) else (none)
theorem spec_l14Way.mono_l : ∀ k, (∀ y0 y1 y2 y3 y4, LeO (spec_l14Way.l0 k y0 y1 y2 y3 y4) (spec_l14Way.l0 (k + 1) y0 y1 y2 y3 y4)) ∧ (∀ y0 y1 y2 y3 y4 y5 y6, LeO (spec_l14Way.l1 k y0 y1 y2 y3 y4 y5 y6) (spec_l14Way.l1 (k + 1) y0 y1 y2 y3 y4 y5 y6))
  | 0 => ⟨fun _ _ _ _ _ r h => by simp [spec_l14Way.l0] at h, fun _ _ _ _ _ _ _ r h => by simp [spec_l14Way.l1] at h⟩
  | k + 1 => by
    obtain ⟨ih0, ih1⟩ := spec_l14Way.mono_l k
    refine ⟨?_, ?_⟩
    · intro y0 y1 y2 y3 y4
      unfold spec_l14Way.l0
      repeat' first
      | (with_reducible exact ih0 _ _ _ _ _)
      | (with_reducible exact ih1 _ _ _ _ _ _ _)
      | (with_reducible exact LeO.refl _)
      | (with_reducible exact LeO.none _)
      | (with_reducible refine LeO.ite ?_ ?_)
      | (with_reducible refine LeO.bind ?_ (fun _ => ?_))
      | exact ih0 _ _ _ _ _
      | exact ih1 _ _ _ _ _ _ _
      | exact LeO.none _
      | refine LeO.ite ?_ ?_
      | refine LeO.bind ?_ (fun _ => ?_)
    · intro y0 y1 y2 y3 y4 y5 y6
      unfold spec_l14Way.l1
      repeat' first
      | (with_reducible exact ih0 _ _ _ _ _)
      | (with_reducible exact ih1 _ _ _ _ _ _ _)
      | (with_reducible exact LeO.refl _)
      | (with_reducible exact LeO.none _)
      | (with_reducible refine LeO.ite ?_ ?_)
      | (with_reducible refine LeO.bind ?_ (fun _ => ?_))
      | exact ih0 _ _ _ _ _
      | exact ih1 _ _ _ _ _ _ _
      | exact LeO.none _
      | refine LeO.ite ?_ ?_
      | refine LeO.bind ?_ (fun _ => ?_)
theorem spec_l14Way.mono : ∀ a0 a1 a2 a3 k, LeO (spec_l14Way.f k a0 a1 a2 a3) (spec_l14Way.f (k + 1) a0 a1 a2 a3) := by
  intro a0 a1 a2 a3 k
  obtain ⟨ih0, ih1⟩ := spec_l14Way.mono_l k
  unfold spec_l14Way.f
  repeat' first
      | (with_reducible exact ih0 _ _ _ _ _)
      | (with_reducible exact ih1 _ _ _ _ _ _ _)
      | (with_reducible exact LeO.refl _)
      | (with_reducible exact LeO.none _)
      | (with_reducible refine LeO.ite ?_ ?_)
      | (with_reducible refine LeO.bind ?_ (fun _ => ?_))
      | exact ih0 _ _ _ _ _
      | exact ih1 _ _ _ _ _ _ _
      | exact LeO.none _
      | refine LeO.ite ?_ ?_
      | refine LeO.bind ?_ (fun _ => ?_)
set_option maxHeartbeats 8000000 in
set_option maxRecDepth 100000 in
theorem spec_l14Way.calls (k : Nat) (a0 : Int) (A1 : Option Addr) (c1 : Nat) (l1 : List (S60)) (a2 : Int) (a3 : Int) (r : Int) (w : World) (hr1 : Kd.C k60 w A1 l1.length l1) (hc1 : l1.length ≤ c1) (h : spec_l14Way.f k a0 l1 a2 a3 = some r) :
    Calls Try.prog 64 #[.int .i64 a0, .slice A1 l1.length c1, .int .i64 a2, .int .i64 a3] w fun e w' => e = .returned (.int .i64 r) ∧ Below w.heap.size w w' := by
  have HR1 := Aside0.mk hr1
  have HC1 := Aside0.mk hc1
  clear hr1 hc1
  have HB := Aside0.mk (Below.refl w.heap.size w)
  have H : (if 0 ≤ a0 then (if (a0 : Int).toNat ≤ 281474976710656 then ((some (List.replicate (a0 : Int).toNat false : List Bool)).bind fun y132 => (if 0 ≤ a2 then (if a2 < (y132.length : Int) then (spec_l14Way.l0 k a0 l1 a3 (y132.set (a2 : Int).toNat true) 1) else (none)) else (none))) else (none)) else (none)) = some r := h
  clear h
  by_cases c5 : 0 ≤ a0
  · rw [if_pos c5] at H
    have c5b0 := eq_true c5
    have c5b1 : decide (0 ≤ a0) = true := decide_eq_true c5
    clear c5
    by_cases c6 : (a0 : Int).toNat ≤ 281474976710656
    · rw [if_pos c6] at H
      have c6b0 := eq_true c6
      have c6b1 : decide ((a0 : Int).toNat ≤ 281474976710656) = true := decide_eq_true c6
      clear c6
      obtain ⟨y132, hy132⟩ : ∃ y_ : List Bool, y_ = (List.replicate (a0 : Int).toNat false) := ⟨_, rfl⟩
      replace H : (if 0 ≤ a2 then (if a2 < (y132.length : Int) then (spec_l14Way.l0 k a0 l1 a3 (y132.set (a2 : Int).toNat true) 1) else (none)) else (none)) = some r := by first | (rw [hy132]; with_reducible exact H) | (have H2_ := (Option.bind_some _ _).symm.trans H; rw [hy132]; with_reducible exact H2_) | (have H2_ := (Option.bind_some _ _).symm.trans H; with_reducible exact H2_) | with_reducible exact H | (rw [hy132]; exact H) | exact H
      have Ny132 := Aside0.mk hy132
      clear hy132
      by_cases c7 : 0 ≤ a2
      · rw [if_pos c7] at H
        have c7b0 : decide (0 ≤ a2) = true := decide_eq_true c7
        clear c7
        by_cases c8 : a2 < (y132.length : Int)
        · rw [if_pos c8] at H
          have c8b0 : decide (a2 < (y132.length : Int)) = true := decide_eq_true c8
          clear c8
          obtain ⟨y135, hy135⟩ : ∃ y_ : List Bool, y_ = (y132.set (a2 : Int).toNat true) := ⟨_, rfl⟩
          replace H : (spec_l14Way.l0 k a0 l1 a3 y135 1) = some r := by first | (rw [hy135]; with_reducible exact H) | (have H2_ := (Option.bind_some _ _).symm.trans H; rw [hy135]; with_reducible exact H2_) | (have H2_ := (Option.bind_some _ _).symm.trans H; with_reducible exact H2_) | with_reducible exact H | (rw [hy135]; exact H) | exact H
          have Ny135 := Aside0.mk hy135
          clear hy135
          have H' := Aside0.mk H
          clear H
          go_enter Try.func64, Try.ntmps64
          go_wp2_with (first | ((with_reducible refine gate_dst (N := 14) rfl ?_); refine Kd.R_make Kd.bool _ 4 rfl (N := 14) rfl 91 _ _ rfl a0 rfl rfl Try.underlying91 (.bool false) 1 info4 rfl (by decide) (by omega) false (ok := fun _ => True) (okp := fun _ => True) rfl (fun _ hk => hk) trivial (of_decide_eq_true (by first | (with_reducible assumption) | assumption)) (Nat.le_trans (Nat.mul_le_mul_right _ (of_decide_eq_true (by first | (with_reducible assumption) | assumption) : a0.toNat ≤ 281474976710656)) (by omega)) (Below.refl _ _) (Nat.le_refl _) ?_; intro v133 w10 ho11 hb hg_ hnew_; clear hg_ hnew_; (first | rw [← Ny132.out] at ho11 | (simp only [Int.reduceToNat] at ho11; rw [← Ny132.out] at ho11)); have n0_ := Aside0.mk (Kd.R_lower ho11 (below_size (by repeat (first | (with_reducible first | exact HB.out | apply below_alloc | apply pw_below_drewN | apply below_drew1) | exact HB.out)))); have n1_ := Aside0.mk (below_step (by repeat (first | (with_reducible first | exact HB.out | apply below_alloc | apply pw_below_drewN | apply below_drew1) | exact HB.out)) hb); clear HB; have HO134 := n0_; have HB := n1_; clear n0_ n1_; clear hb ho11; have p9 : 0 ≤ (a2 : Int) := of_decide_eq_true (by first | (with_reducible assumption) | assumption); have q9 : (a2 : Int) < ((y132.length : Int) : Int) := of_decide_eq_true (by first | (with_reducible assumption) | assumption); obtain ⟨go9, co9, eo9, gb9, gl9, cl9, HG9⟩ := Kd.R_form HO134.out (by omega); (first | cases eo9 | (injection eo9 with ea_ en_ ec_; (first | subst ea_ | (injection ea_ with ea_; subst ea_)); subst ec_; clear en_)); have GB9 := Aside0.mk gb9; have GG9 := Aside0.mk HG9; clear gb9 gl9 HG9; obtain ⟨hx9_0, hf9_0⟩ := Kd.R_celln false HO134.out (a2 : Int) p9 q9; replace p9 := eq_true p9; replace q9 := eq_true q9; obtain ⟨hy12_, hz12_⟩ := Kd.R_celln false HO134.out (a2 : Int) (of_decide_eq_true (by first | (with_reducible assumption) | assumption)) (of_decide_eq_true (by first | (with_reducible assumption) | assumption)); have HP12 := Kd.R_putg HO134.out (a2 : Int) true) | ((with_reducible refine gate_store (t := 4) (p := 17) rfl ?_); refine store_event (t := 4) (p := 17) (v := ?vo_w13) (w1 := (w10.setCell ⟨go9, (a2 : Int).toNat, none⟩ (.bool true))) ?hg ?ho ?hn ?hr ?_; (case ho => rfl); (case hg => rfl); (case hn => rfl); (case hr => first | (go_simp; done) | (go_simp; rfl)); intro w13 hw; have hg : w10.grownBy w13 (some go9) := (by rw [hw]; exact HP12.2); have hp_ : Kd.R Kd.bool 4 w13 w.heap.size (fun _ => True) (.slice (some ⟨go9, 0, none⟩) y132.length co9) y135 := (by rw [hw, Ny135.out]; exact HP12.1); clear HP12; have n0_ := Aside0.mk (hp_); have n1_ := Aside0.mk ((by rw [hw]; exact below_set (HB.out) GB9.out : Below w.heap.size w w13)); clear HO134; clear HB; have HO134 := n0_; have HB := n1_; clear n0_ n1_; clear hg hw hp_))
          go_loopg [9, 10] k (fun kq v9 v10 w' => ∃ (x9_1 : List Bool) (x10_1 : Int), v10 = .int .i64 x10_1 ∧ Aside0 (spec_l14Way.l0 kq a0 l1 a3 x9_1 x10_1 = some r) ∧ Aside0 (kq ≤ k) ∧ Aside0 (Kd.R Kd.bool 4 w' w.heap.size (fun _ => True) v9 x9_1) ∧ Aside0 (Below w.heap.size w w'))
          case atStart => exact ⟨(y135), (1), (by first | rfl | (simp; done) | (simp [*]; done)), H', ⟨Nat.le_refl _⟩, ⟨by (with_reducible repeat (first | apply Kd.R_alloc | apply Kd.R_drewN | apply Kd.R_drew)); exact HO134.out⟩, ⟨by repeat (first | (with_reducible first | exact HB.out | apply below_alloc | apply pw_below_drewN | apply below_drew1) | exact HB.out)⟩⟩
          case round =>
            clear H'
            try clear c1
            try clear p2
            try clear c5
            try clear c5b0
            try clear c5b1
            try clear c6
            try clear c6b0
            try clear c6b1
            try clear c7
            try clear c7b0
            try clear c8
            try clear c8b0
            try clear p9
            try clear q9
            try clear hx9
            try clear hf9
            try clear hx9_0
            try clear p9
            try clear q9
            obtain ⟨x9_1, x10_1, rfl, HA, HK1, HO_9, HB⟩ := hrel
            cases gk with
            | zero => exact absurd HA.out (by simp [spec_l14Way.l0])
            | succ k1 =>
              have H := HA.out
              clear HA
              simp only [spec_l14Way.l0] at H
              by_cases c14 : x10_1 ≤ a0
              · rw [if_pos c14] at H
                have c14b0 : decide (x10_1 ≤ a0) = true := decide_eq_true c14
                clear c14
                by_cases c15 : 0 ≤ a0
                · rw [if_pos c15] at H
                  have c15b0 := eq_true c15
                  have c15b1 : decide (0 ≤ a0) = true := decide_eq_true c15
                  clear c15
                  by_cases c16 : (a0 : Int).toNat ≤ 281474976710656
                  · rw [if_pos c16] at H
                    have c16b0 := eq_true c16
                    have c16b1 : decide ((a0 : Int).toNat ≤ 281474976710656) = true := decide_eq_true c16
                    clear c16
                    obtain ⟨y136, hy136⟩ : ∃ y_ : List Bool, y_ = (List.replicate (a0 : Int).toNat false) := ⟨_, rfl⟩
                    replace H : (spec_l14Way.l1 k1 a0 l1 a3 x9_1 x10_1 y136 0) = some r := by first | (rw [hy136]; with_reducible exact H) | (have H2_ := (Option.bind_some _ _).symm.trans H; rw [hy136]; with_reducible exact H2_) | (have H2_ := (Option.bind_some _ _).symm.trans H; with_reducible exact H2_) | with_reducible exact H | (rw [hy136]; exact H) | exact H
                    have Ny136 := Aside0.mk hy136
                    clear hy136
                    have H' := Aside0.mk H
                    clear H
                    go_wp2_with (first | ((with_reducible refine gate_dst (N := 24) rfl ?_); refine Kd.R_make Kd.bool _ 4 rfl (N := 24) rfl 91 _ _ rfl a0 rfl rfl Try.underlying91 (.bool false) 1 info4 rfl (by decide) (by omega) false (ok := fun _ => True) (okp := fun _ => True) rfl (fun _ hk => hk) trivial (of_decide_eq_true (by first | (with_reducible assumption) | assumption)) (Nat.le_trans (Nat.mul_le_mul_right _ (of_decide_eq_true (by first | (with_reducible assumption) | assumption) : a0.toNat ≤ 281474976710656)) (by omega)) (Below.refl _ _) (Nat.le_refl _) ?_; intro v137 w17 ho18 hb hg_ hnew_; clear hg_ hnew_; (first | rw [← Ny136.out] at ho18 | (simp only [Int.reduceToNat] at ho18; rw [← Ny136.out] at ho18)); have n0_ := Aside0.mk (Kd.R_elder' (by (with_reducible repeat (first | apply Kd.R_alloc | apply Kd.R_drewN | apply Kd.R_drew)); exact HO_9.out) (Kd.R_base ho18) hb); have n1_ := Aside0.mk (Kd.R_lower (Kd.R_new' ho18 (Kd.R_lt (by (with_reducible repeat (first | apply Kd.R_alloc | apply Kd.R_drewN | apply Kd.R_drew)); exact HO_9.out))) (below_size (by repeat (first | (with_reducible first | exact HB.out | apply below_alloc | apply pw_below_drewN | apply below_drew1) | exact HB.out)))); have n2_ := Aside0.mk (below_step (by repeat (first | (with_reducible first | exact HB.out | apply below_alloc | apply pw_below_drewN | apply below_drew1) | exact HB.out)) hb); clear HO_9; clear HB; have HO_9 := n0_; have HO138 := n1_; have HB := n2_; clear n0_ n1_ n2_; clear hb ho18))
                    go_loopg [12] k1 (fun kq v12 w' => ∃ (x11_2 : List Bool) (x12_2 : Int), v12 = .int .i64 x12_2 ∧ Aside0 (spec_l14Way.l1 kq a0 l1 a3 x9_1 x10_1 x11_2 x12_2 = some r) ∧ Aside0 (kq ≤ k1) ∧ Aside0 (Kd.R Kd.bool 4 w' w.heap.size (fun k_ => some k_ ≠ (v137 : Value).ownBlock) u9 x9_1) ∧ Aside0 (Kd.R Kd.bool 4 w' w.heap.size (fun k_ => some k_ ≠ (u9 : Value).ownBlock) v137 x11_2) ∧ Aside0 (Below w.heap.size w w'))
                    case atStart => exact ⟨(y136), (0), (by first | rfl | (simp; done) | (simp [*]; done)), H', ⟨Nat.le_refl _⟩, ⟨by (with_reducible repeat (first | apply Kd.R_alloc | apply Kd.R_drewN | apply Kd.R_drew)); exact Kd.R_mono HO_9.out (fun _ hk => hk.2)⟩, ⟨by (with_reducible repeat (first | apply Kd.R_alloc | apply Kd.R_drewN | apply Kd.R_drew)); exact Kd.R_mono HO138.out (fun _ hk => hk.2)⟩, ⟨by repeat (first | (with_reducible first | exact HB.out | apply below_alloc | apply pw_below_drewN | apply below_drew1) | exact HB.out)⟩⟩
                    case round =>
                      clear H'
                      try clear c1
                      try clear p2
                      try clear c5
                      try clear c5b0
                      try clear c5b1
                      try clear c6
                      try clear c6b0
                      try clear c6b1
                      try clear c7
                      try clear c7b0
                      try clear c8
                      try clear c8b0
                      try clear p9
                      try clear q9
                      try clear hx9
                      try clear hf9
                      try clear c14
                      try clear c14b0
                      try clear c15
                      try clear c15b0
                      try clear c15b1
                      try clear c16
                      try clear c16b0
                      try clear c16b1
                      try clear hx9_0
                      try clear p2
                      try clear p9
                      try clear q9
                      obtain ⟨x11_2, x12_2, rfl, HA, HK2, HO_9, HO_11, HB⟩ := hrel
                      cases gk with
                      | zero => exact absurd HA.out (by simp [spec_l14Way.l1])
                      | succ k2 =>
                        have H := HA.out
                        clear HA
                        simp only [spec_l14Way.l1] at H
                        by_cases c19 : x12_2 < (l1.length : Int)
                        · rw [if_pos c19] at H
                          have c19b0 : decide (x12_2 < (l1.length : Int)) = true := decide_eq_true c19
                          clear c19
                          by_cases c20 : 0 ≤ x12_2
                          · rw [if_pos c20] at H
                            have c20b0 : decide (0 ≤ x12_2) = true := decide_eq_true c20
                            clear c20
                            by_cases c21 : 0 ≤ ((rd_T60 l1 x12_2).f0)
                            · rw [if_pos c21] at H
                              have c21b0 : decide (0 ≤ ((rd_T60 l1 x12_2).f0)) = true := decide_eq_true c21
                              clear c21
                              by_cases c22 : ((rd_T60 l1 x12_2).f0) < (x9_1.length : Int)
                              · rw [if_pos c22] at H
                                have c22b0 : decide (((rd_T60 l1 x12_2).f0) < (x9_1.length : Int)) = true := decide_eq_true c22
                                clear c22
                                obtain ⟨bq23, hbq23⟩ : ∃ b_ : Bool, b_ = (rdOf false x9_1 ((rd_T60 l1 x12_2).f0)) := ⟨_, rfl⟩
                                replace H : (if bq23 = true then (if 0 ≤ ((rd_T60 l1 x12_2).f1) then (if ((rd_T60 l1 x12_2).f1) < (x11_2.length : Int) then (spec_l14Way.l1 k2 a0 l1 a3 x9_1 x10_1 (x11_2.set (((rd_T60 l1 x12_2).f1) : Int).toNat true) (wrap64 (x12_2 + 1))) else (none)) else (none)) else (spec_l14Way.l1 k2 a0 l1 a3 x9_1 x10_1 x11_2 (wrap64 (x12_2 + 1)))) = some r := by rw [← hbq23] at H; exact H
                                have Nbq23 := Aside0.mk hbq23
                                clear hbq23
                                by_cases c24 : bq23 = true
                                · subst c24
                                  have H1 : (if 0 ≤ ((rd_T60 l1 x12_2).f1) then (if ((rd_T60 l1 x12_2).f1) < (x11_2.length : Int) then (spec_l14Way.l1 k2 a0 l1 a3 x9_1 x10_1 (x11_2.set (((rd_T60 l1 x12_2).f1) : Int).toNat true) (wrap64 (x12_2 + 1))) else (none)) else (none)) = some r := by rw [if_pos rfl] at H; exact H
                                  clear H
                                  have H := H1
                                  clear H1
                                  by_cases c25 : 0 ≤ ((rd_T60 l1 x12_2).f1)
                                  · rw [if_pos c25] at H
                                    have c25b0 : decide (0 ≤ ((rd_T60 l1 x12_2).f1)) = true := decide_eq_true c25
                                    clear c25
                                    by_cases c26 : ((rd_T60 l1 x12_2).f1) < (x11_2.length : Int)
                                    · rw [if_pos c26] at H
                                      have c26b0 : decide (((rd_T60 l1 x12_2).f1) < (x11_2.length : Int)) = true := decide_eq_true c26
                                      clear c26
                                      obtain ⟨y142, hy142⟩ : ∃ y_ : List Bool, y_ = (x11_2.set (((rd_T60 l1 x12_2).f1) : Int).toNat true) := ⟨_, rfl⟩
                                      replace H : (spec_l14Way.l1 k2 a0 l1 a3 x9_1 x10_1 y142 (wrap64 (x12_2 + 1))) = some r := by first | (rw [hy142]; with_reducible exact H) | (have H2_ := (Option.bind_some _ _).symm.trans H; rw [hy142]; with_reducible exact H2_) | (have H2_ := (Option.bind_some _ _).symm.trans H; with_reducible exact H2_) | with_reducible exact H | (rw [hy142]; exact H) | exact H
                                      have Ny142 := Aside0.mk hy142
                                      clear hy142
                                      have H' := Aside0.mk H
                                      clear H
                                      have p139 : 0 ≤ (x12_2 : Int) := of_decide_eq_true (by first | (with_reducible assumption) | assumption)
                                      have q139 : x12_2 < (l1.length : Int) := of_decide_eq_true (by first | (with_reducible assumption) | assumption)
                                      obtain ⟨ad139, e139, hx139_0, hx139_1⟩ := at_T60 HR1.out x12_2 p139 q139
                                      cases e139
                                      replace hx139_0 := (HB.out.cell (World.block_lt_of_cell? w _ hx139_0)).trans hx139_0
                                      replace hx139_1 := (HB.out.cell (World.block_lt_of_cell? w _ hx139_1)).trans hx139_1
                                      replace p139 := eq_true p139
                                      replace q139 := eq_true q139
                                      obtain ⟨Ao28, co28, eo28⟩ := Kd.R_slice HO_9.out
                                      subst eo28
                                      have p140 : 0 ≤ (((rd_T60 l1 x12_2).f0) : Int) := of_decide_eq_true (by first | (with_reducible assumption) | assumption)
                                      have q140 : ((rd_T60 l1 x12_2).f0) < (x9_1.length : Int) := of_decide_eq_true (by first | (with_reducible assumption) | assumption)
                                      obtain ⟨ad140, e140, hx140_0⟩ := Kd.at_bool (Kd.R_reads' HO_9.out).2.2 ((rd_T60 l1 x12_2).f0) p140 q140
                                      (try rw [← Nbq23.out] at hx140_0)
                                      cases e140
                                      replace p140 := eq_true p140
                                      replace q140 := eq_true q140
                                      have p141 : 0 ≤ (x12_2 : Int) := of_decide_eq_true (by first | (with_reducible assumption) | assumption)
                                      have q141 : x12_2 < (l1.length : Int) := of_decide_eq_true (by first | (with_reducible assumption) | assumption)
                                      obtain ⟨ad141, e141, hx141_0, hx141_1⟩ := at_T60 HR1.out x12_2 p141 q141
                                      obtain rfl : ad139 = ad141 := (by injection e141)
                                      replace hx141_0 := (HB.out.cell (World.block_lt_of_cell? w _ hx141_0)).trans hx141_0
                                      replace hx141_1 := (HB.out.cell (World.block_lt_of_cell? w _ hx141_1)).trans hx141_1
                                      replace p141 := eq_true p141
                                      replace q141 := eq_true q141
                                      have p27 : 0 ≤ (((rd_T60 l1 x12_2).f1) : Int) := of_decide_eq_true (by first | (with_reducible assumption) | assumption)
                                      have q27 : (((rd_T60 l1 x12_2).f1) : Int) < ((x11_2.length : Int) : Int) := of_decide_eq_true (by first | (with_reducible assumption) | assumption)
                                      obtain ⟨go27, co27, eo27, gb27, gl27, cl27, HG27⟩ := Kd.R_form HO_11.out (by omega)
                                      (first | cases eo27 | (injection eo27 with ea_ en_ ec_; (first | subst ea_ | (injection ea_ with ea_; subst ea_)); subst ec_; clear en_))
                                      have GB27 := Aside0.mk gb27
                                      have GG27 := Aside0.mk HG27
                                      clear gb27 gl27 HG27
                                      obtain ⟨hx27_0, hf27_0⟩ := Kd.R_celln false HO_11.out (((rd_T60 l1 x12_2).f1) : Int) p27 q27
                                      replace p27 := eq_true p27
                                      replace q27 := eq_true q27
                                      have HP29 := Kd.R_putg HO_11.out (((rd_T60 l1 x12_2).f1) : Int) true
                                      go_wp2_with (first | ((with_reducible refine gate_store (t := 4) (p := 45) rfl ?_); refine store_event (t := 4) (p := 45) (v := ?vo_w30) (w1 := (wr.setCell ⟨go27, (((rd_T60 l1 x12_2).f1) : Int).toNat, none⟩ (.bool true))) ?hg ?ho ?hn ?hr ?_; (case ho => rfl); (case hg => rfl); (case hn => rfl); (case hr => first | (go_simp; done) | (go_simp; rfl)); intro w30 hw; have hg : wr.grownBy w30 (some go27) := (by rw [hw]; exact HP29.2); have hp_ : Kd.R Kd.bool 4 w30 w.heap.size (fun k_ => some k_ ≠ (.slice (some ad140) x9_1.length co28 : Value).ownBlock) (.slice (some ⟨go27, 0, none⟩) x11_2.length co27) y142 := (by rw [hw, Ny142.out]; exact HP29.1); clear HP29; have n0_ := Aside0.mk (Kd.R_after (v := (.slice (some ⟨go27, 0, none⟩) x11_2.length co27)) (v1 := (.slice (some ⟨go27, 0, none⟩) x11_2.length co27)) (ok := (fun _ => True)) (by (with_reducible repeat (first | apply Kd.R_alloc | apply Kd.R_drewN | apply Kd.R_drew)); exact Kd.R_mono HO_9.out (fun _ hk => ⟨trivial, hk⟩)) hg (.inl rfl)); have n1_ := Aside0.mk (hp_); have n2_ := Aside0.mk ((by rw [hw]; exact below_set (HB.out) GB27.out : Below w.heap.size w w30)); clear HO_9; clear HO_11; clear HB; have HO_9 := n0_; have HO_11 := n1_; have HB := n2_; clear n0_ n1_ n2_; clear hg hw hp_))
                                      go_roundg k2
                                      case measure => have := HK1.out; have := HK2.out; omega
                                      case rel => exact ⟨(y142), (wrap64 (x12_2 + 1)), (by first | rfl | (simp; done) | (simp [*]; done)), H', ⟨by have := HK1.out; have := HK2.out; omega⟩, ⟨by (with_reducible repeat (first | apply Kd.R_alloc | apply Kd.R_drewN | apply Kd.R_drew)); exact Kd.R_mono HO_9.out (fun _ hk => hk.2)⟩, ⟨by (with_reducible repeat (first | apply Kd.R_alloc | apply Kd.R_drewN | apply Kd.R_drew)); exact HO_11.out⟩, ⟨by repeat (first | (with_reducible first | exact HB.out | apply below_alloc | apply pw_below_drewN | apply below_drew1) | exact HB.out)⟩⟩
                                    · rw [if_neg c26] at H
                                      exact absurd H (by simp)
                                  · rw [if_neg c25] at H
                                    exact absurd H (by simp)
                                · replace c24 := Bool.eq_false_iff.mpr c24
                                  subst c24
                                  have H1 : (spec_l14Way.l1 k2 a0 l1 a3 x9_1 x10_1 x11_2 (wrap64 (x12_2 + 1))) = some r := by rw [if_neg (show ¬ (false = true) by decide)] at H; exact H
                                  clear H
                                  have H := H1
                                  clear H1
                                  have H' := Aside0.mk H
                                  clear H
                                  have p139 : 0 ≤ (x12_2 : Int) := of_decide_eq_true (by first | (with_reducible assumption) | assumption)
                                  have q139 : x12_2 < (l1.length : Int) := of_decide_eq_true (by first | (with_reducible assumption) | assumption)
                                  obtain ⟨ad139, e139, hx139_0, hx139_1⟩ := at_T60 HR1.out x12_2 p139 q139
                                  cases e139
                                  replace hx139_0 := (HB.out.cell (World.block_lt_of_cell? w _ hx139_0)).trans hx139_0
                                  replace hx139_1 := (HB.out.cell (World.block_lt_of_cell? w _ hx139_1)).trans hx139_1
                                  replace p139 := eq_true p139
                                  replace q139 := eq_true q139
                                  obtain ⟨Ao31, co31, eo31⟩ := Kd.R_slice HO_9.out
                                  subst eo31
                                  have p140 : 0 ≤ (((rd_T60 l1 x12_2).f0) : Int) := of_decide_eq_true (by first | (with_reducible assumption) | assumption)
                                  have q140 : ((rd_T60 l1 x12_2).f0) < (x9_1.length : Int) := of_decide_eq_true (by first | (with_reducible assumption) | assumption)
                                  obtain ⟨ad140, e140, hx140_0⟩ := Kd.at_bool (Kd.R_reads' HO_9.out).2.2 ((rd_T60 l1 x12_2).f0) p140 q140
                                  (try rw [← Nbq23.out] at hx140_0)
                                  cases e140
                                  replace p140 := eq_true p140
                                  replace q140 := eq_true q140
                                  go_wp2
                                  go_roundg k2
                                  case measure => have := HK1.out; have := HK2.out; omega
                                  case rel => exact ⟨(x11_2), (wrap64 (x12_2 + 1)), (by first | rfl | (simp; done) | (simp [*]; done)), H', ⟨by have := HK1.out; have := HK2.out; omega⟩, ⟨by (with_reducible repeat (first | apply Kd.R_alloc | apply Kd.R_drewN | apply Kd.R_drew)); exact HO_9.out⟩, ⟨by (with_reducible repeat (first | apply Kd.R_alloc | apply Kd.R_drewN | apply Kd.R_drew)); exact HO_11.out⟩, ⟨by repeat (first | (with_reducible first | exact HB.out | apply below_alloc | apply pw_below_drewN | apply below_drew1) | exact HB.out)⟩⟩
                              · rw [if_neg c22] at H
                                exact absurd H (by simp)
                            · rw [if_neg c21] at H
                              exact absurd H (by simp)
                          · rw [if_neg c20] at H
                            exact absurd H (by simp)
                        · rw [if_neg c19] at H
                          have c19b0 : decide (x12_2 < (l1.length : Int)) = false := decide_eq_false c19
                          clear c19
                          by_cases c32 : 0 ≤ a3
                          · rw [if_pos c32] at H
                            have c32b0 : decide (0 ≤ a3) = true := decide_eq_true c32
                            clear c32
                            by_cases c33 : a3 < (x11_2.length : Int)
                            · rw [if_pos c33] at H
                              have c33b0 : decide (a3 < (x11_2.length : Int)) = true := decide_eq_true c33
                              clear c33
                              obtain ⟨bq34, hbq34⟩ : ∃ b_ : Bool, b_ = (rdOf false x11_2 a3) := ⟨_, rfl⟩
                              replace H : (if bq34 = true then (some x10_1) else (spec_l14Way.l0 k2 a0 l1 a3 x11_2 (wrap64 (x10_1 + 1)))) = some r := by rw [← hbq34] at H; exact H
                              have Nbq34 := Aside0.mk hbq34
                              clear hbq34
                              by_cases c35 : bq34 = true
                              · subst c35
                                have H1 : (some x10_1) = some r := by rw [if_pos rfl] at H; exact H
                                clear H
                                have H := H1
                                clear H1
                                obtain rfl := Option.some.inj H
                                obtain ⟨Ao36, co36, eo36⟩ := Kd.R_slice HO_11.out
                                subst eo36
                                have p143 : 0 ≤ (a3 : Int) := of_decide_eq_true (by first | (with_reducible assumption) | assumption)
                                have q143 : a3 < (x11_2.length : Int) := of_decide_eq_true (by first | (with_reducible assumption) | assumption)
                                obtain ⟨ad143, e143, hx143_0⟩ := Kd.at_bool (Kd.R_reads' HO_11.out).2.2 a3 p143 q143
                                (try rw [← Nbq34.out] at hx143_0)
                                cases e143
                                replace p143 := eq_true p143
                                replace q143 := eq_true q143
                                go_wp2
                                go_ret
                                exact ⟨by first | rfl | (simp [errW_none, errW_some] <;> rfl) | (simp [*, errW_none, errW_some] <;> rfl), by repeat (first | (with_reducible first | exact HB.out | apply below_alloc | apply pw_below_drewN | apply below_drew1) | exact HB.out)⟩
                              · replace c35 := Bool.eq_false_iff.mpr c35
                                subst c35
                                have H1 : (spec_l14Way.l0 k2 a0 l1 a3 x11_2 (wrap64 (x10_1 + 1))) = some r := by rw [if_neg (show ¬ (false = true) by decide)] at H; exact H
                                clear H
                                have H := H1
                                clear H1
                                have H' := Aside0.mk H
                                clear H
                                obtain ⟨Ao37, co37, eo37⟩ := Kd.R_slice HO_11.out
                                subst eo37
                                have p143 : 0 ≤ (a3 : Int) := of_decide_eq_true (by first | (with_reducible assumption) | assumption)
                                have q143 : a3 < (x11_2.length : Int) := of_decide_eq_true (by first | (with_reducible assumption) | assumption)
                                obtain ⟨ad143, e143, hx143_0⟩ := Kd.at_bool (Kd.R_reads' HO_11.out).2.2 a3 p143 q143
                                (try rw [← Nbq34.out] at hx143_0)
                                cases e143
                                replace p143 := eq_true p143
                                replace q143 := eq_true q143
                                go_wp2
                                go_roundg k2
                                case measure => have := HK1.out; have := HK2.out; omega
                                case rel => exact ⟨(x11_2), (wrap64 (x10_1 + 1)), (by first | rfl | (simp; done) | (simp [*]; done)), H', ⟨by have := HK1.out; have := HK2.out; omega⟩, ⟨by (with_reducible repeat (first | apply Kd.R_alloc | apply Kd.R_drewN | apply Kd.R_drew)); exact Kd.R_mono HO_11.out (fun _ hk => trivial)⟩, ⟨by repeat (first | (with_reducible first | exact HB.out | apply below_alloc | apply pw_below_drewN | apply below_drew1) | exact HB.out)⟩⟩
                            · rw [if_neg c33] at H
                              exact absurd H (by simp)
                          · rw [if_neg c32] at H
                            exact absurd H (by simp)
                  · rw [if_neg c16] at H
                    exact absurd H (by simp)
                · rw [if_neg c15] at H
                  exact absurd H (by simp)
              · rw [if_neg c14] at H
                have c14b0 : decide (x10_1 ≤ a0) = false := decide_eq_false c14
                clear c14
                obtain rfl := Option.some.inj H
                go_wp2
                go_ret
                exact ⟨by first | rfl | (simp [errW_none, errW_some] <;> rfl) | (simp [*, errW_none, errW_some] <;> rfl), by repeat (first | (with_reducible first | exact HB.out | apply below_alloc | apply pw_below_drewN | apply below_drew1) | exact HB.out)⟩
        · rw [if_neg c8] at H
          exact absurd H (by simp)
      · rw [if_neg c7] at H
        exact absurd H (by simp)
    · rw [if_neg c6] at H
      exact absurd H (by simp)
  · rw [if_neg c5] at H
    exact absurd H (by simp)

end Go.Proofs.Ytapbpfbhghheeaa.PFnExactCircle
