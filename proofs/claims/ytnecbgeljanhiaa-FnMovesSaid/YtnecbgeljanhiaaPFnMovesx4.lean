-- written by wip/tools/myprint.py out of the program's own print
import Derived.Test.YtnecbgeljanhiaaPFnMovesx0
import Derived.Test.YtnecbgeljanhiaaPFnMovesx3
namespace Go.Proofs.Ytnecbgeljanhiaa.PFnMoves
open Go.Proofs.Ytnecbgeljanhiaa.Own (rS cS bS rB rN rT kS kC kc10 kf10)
open Go.RowKit Go.Proofs.YtnecbgeljanhiaaW.PrintWords Go.Proofs.YtnecbgeljanhiaaW.PrintLast Go.Proofs.YtnecbgeljanhiaaW.PrintMore
attribute [local go_sem] max2_int min2_int max_two min_two max_three min_three max_four min_four   -- for this text's walks alone
set_option linter.unusedVariables false
set_option linter.unusedSimpArgs false

/-! ### impl_Move_78: function 78 -/
def impl_Move_78.f (k : Nat) (l0 : List (S46)) (a1_0 : Int) (a1_1 : Int) : Option (Bool) := (impl_Move_127.f k l0 a1_0 a1_1).bind fun t157 => (some (decide (t157 ≥ 0)))
theorem impl_Move_78.mono : ∀ a0 a1 a2 k, LeO (impl_Move_78.f k a0 a1 a2) (impl_Move_78.f (k + 1) a0 a1 a2) := by
  intro a0 a1 a2 k
  unfold impl_Move_78.f
  repeat' first
      | (with_reducible exact impl_Move_127.mono _ _ _ _)
      | (with_reducible exact LeO.refl _)
      | (with_reducible exact LeO.none _)
      | (with_reducible refine LeO.ite ?_ ?_)
      | (with_reducible refine LeO.bind ?_ (fun _ => ?_))
      | exact impl_Move_127.mono _ _ _ _
      | exact LeO.none _
      | refine LeO.ite ?_ ?_
      | refine LeO.bind ?_ (fun _ => ?_)
set_option maxHeartbeats 8000000 in
set_option maxRecDepth 100000 in
theorem impl_Move_78.calls (k : Nat) (A0 : Option Addr) (c0 : Nat) (l0 : List (S46)) (a1_0 : Int) (a1_1 : Int) (r : Bool) (w : World) (hr0 : Kd.C k46 w A0 l0.length l0) (hc0 : l0.length ≤ c0) (h : impl_Move_78.f k l0 a1_0 a1_1 = some r) :
    Calls Try.prog 78 #[.slice A0 l0.length c0, .agg #[.int .i64 a1_0, .int .i64 a1_1]] w fun e w' => e = .returned (.bool r) ∧ Below w.heap.size w w' := by
  have hu46 := Try.underlying46
  have HR0 := Aside0.mk hr0
  have HC0 := Aside0.mk hc0
  clear hr0 hc0
  have HB := Aside0.mk (Below.refl w.heap.size w)
  have H : ((impl_Move_127.f k l0 a1_0 a1_1).bind fun t157 => (some (decide (t157 ≥ 0)))) = some r := h
  clear h
  replace H := Option.bind_eq_some_iff.mp H
  obtain ⟨t157, A30, H⟩ := H
  replace H : (some (decide (t157 ≥ 0))) = some r := H
  have A3 := Aside0.mk A30
  clear A30
  obtain rfl := Option.some.inj H
  go_enter Try.func78, Try.ntmps78
  go_wp2_with (first | ((with_reducible refine gate_dst (N := 3) rfl ?_); refine box_event ?hg (N := 3) ?hd (cs := #[.int .i64 a1_0, .int .i64 a1_1]) (t := 46) ?hr ?_; (case hd => rfl); (case hg => rfl); (case hr => first | (go_simp; done) | (go_simp; rfl)); intro gb156 hg w4 hbox hb; have n0_ := Aside0.mk (below_step (by repeat (first | (with_reducible first | exact HB.out | apply below_alloc | apply pw_below_drewN | apply below_drew1) | exact HB.out)) hb); have n1_ := Aside0.mk (hbox); have n2_ := Aside0.mk ((by rw [hg]; exact (below_size (by repeat (first | (with_reducible first | exact HB.out | apply below_alloc | apply pw_below_drewN | apply below_drew1) | exact HB.out))) : w.heap.size ≤ gb156)); have n3_ := Aside0.mk ((by rw [hg]; exact (below_size (by repeat (first | (with_reducible first | exact HB.out | apply below_alloc | apply pw_below_drewN | apply below_drew1) | exact HB.out))) : w.heap.size ≤ gb156)); clear HB; have HB := n0_; have BK156 := n1_; have GW156 := n2_; have GE156 := n3_; clear n0_ n1_ n2_ n3_; clear hb hbox hg; have hcz5_0 : w4.cell? ⟨gb156, 0, none⟩ = some (.int .i64 a1_0) := (blk_cell BK156.out 0).trans rfl; have hcz5_1 : w4.cell? ⟨gb156, 1, none⟩ = some (.int .i64 a1_1) := (blk_cell BK156.out 1).trans rfl; have hfz5_0 := blk_frozen BK156.out 0; have hfz5_1 := blk_frozen BK156.out 1) | ((with_reducible refine gate_callee (f := 127) rfl ?_); refine goesL_ (some 7) rfl rfl Try.func127 (by kernel_rfl) rfl #[.slice A0 l0.length c0, .agg #[.int .i64 a1_0, .int .i64 a1_1]] rfl (by (try simp only [List.map_toArray, List.map_cons, List.map_nil]); first | done | rfl | (simp only [List.length_drop, List.length_take]; rfl)) ?_; (with_reducible refine (impl_Move_127.calls k _ _ l0 a1_0 a1_1 t157 _ ?side1 ?side2 A3.out).mono ?_); (case side1 => repeat (first | exact (Kd.C_below HR0.out HB.out) | (with_reducible refine Kd.C_alloc ?_ _) | (with_reducible refine Kd.C_drewN ?_ _) | (with_reducible refine Kd.C_drew ?_))); (case side2 => exact HC0.out); rintro e w6 ⟨rfl, hb⟩; refine ⟨_, rfl, ?_⟩; have n0_ := Aside0.mk (blk_below (g := gb156) (o := .cells #[.int .i64 a1_0, .int .i64 a1_1] 46 (0, 0)) (by (with_reducible repeat (first | refine blk_drewN ?_ _ | refine blk_drew ?_ | refine blk_alloc ?_ _)); exact BK156.out) hb); have n1_ := Aside0.mk (below_step (by repeat (first | (with_reducible first | exact HB.out | apply below_alloc | apply pw_below_drewN | apply below_drew1 | refine below_set ?_ GE156.out) | exact HB.out)) hb); clear BK156; clear HB; have BK156 := n0_; have HB := n1_; clear n0_ n1_; (try clear hb); (try clear hb2); (try clear hk); (try clear hi)))
  go_ret
  exact ⟨by first | rfl | (simp [errW_none, errW_some] <;> rfl) | (simp [*, errW_none, errW_some] <;> rfl), by repeat (first | (with_reducible first | exact HB.out | apply below_alloc | apply pw_below_drewN | apply below_drew1 | refine below_set ?_ GE156.out) | exact HB.out)⟩

/-! ### impl_pool_moves: function 79 -/
set_option maxHeartbeats 4000000 in
theorem ready1.calls (task : Int) (e : S96) (is : List Int) (W : World) (Bt Bp g : Nat) (A2 : Option Addr) (c2 : Nat) (ht : W.cell? ⟨Bt, 0, none⟩ = some (.int .i64 task)) (hp : W.cell? ⟨Bp, 0, none⟩ = some (.pointer (some ⟨g, 0, none⟩))) (hs : W.cell? ⟨g, 2, none⟩ = some (.slice A2 is.length c2)) (hr : Kd.C (Kd.int .i64) W A2 is.length is) (hok : e.f1 = task → 0 ≤ e.f0 ∧ e.f0 < (is.length : Int)) :
    Calls Try.prog 171 #[.agg #[.int .i64 e.f0, .int .i64 e.f1], .pointer (some ⟨Bt, 0, none⟩), .pointer (some ⟨Bp, 0, none⟩)] W fun x w' => x = .returned (.bool (decide (e.f1 = task ∧ rd is e.f0 ≠ 2))) ∧ Below W.heap.size W w' := by
  have hbt : Bt < W.heap.size := World.block_lt_of_cell? W ⟨Bt, 0, none⟩ ht
  have hbp : Bp < W.heap.size := World.block_lt_of_cell? W ⟨Bp, 0, none⟩ hp
  have hbg : g < W.heap.size := World.block_lt_of_cell? W ⟨g, 2, none⟩ hs
  have n1 : Bt ≠ W.heap.size := by omega
  have n2 : Bp ≠ W.heap.size := by omega
  have n3 : g ≠ W.heap.size := by omega
  have HB := Aside0.mk (Below.refl W.heap.size W)
  by_cases c : e.f1 = task
  · have c1 : (e.f1 == task) = true := beq_iff_eq.2 c
    obtain ⟨p0, q0⟩ := hok c
    obtain ⟨ad, ead, hx⟩ := Kd.at_int hr e.f0 p0 q0
    cases ead
    have hx2 := (World.cell?_alloc_lt W (.cells #[.int .i64 e.f0, .int .i64 e.f1] 96) _ (World.block_lt_of_cell? W _ hx)).trans hx
    clear hx
    by_cases c2 : rd is e.f0 = 2
    · have c3 : (rd is e.f0 != 2) = false := bne_eq_false_iff_eq.2 c2
      have c4 : decide (e.f1 = task ∧ rd is e.f0 ≠ 2) = false := decide_eq_false (fun h => h.2 c2)
      rw [c4]
      clear hok hr c2 c4 c
      replace p0 := eq_true p0
      replace q0 := eq_true q0
      go_enter Try.func171, Try.ntmps171
      go_wp2
      go_quiet (fail)
      go_wp2
      go_ret
      exact ⟨rfl, by repeat (first | exact HB.out | apply below_alloc | apply pw_below_drewN | apply below_drew1)⟩
    · have c3 : (rd is e.f0 != 2) = true := bne_iff_ne.2 c2
      have c4 : decide (e.f1 = task ∧ rd is e.f0 ≠ 2) = true := decide_eq_true ⟨c, c2⟩
      rw [c4]
      clear hok hr c2 c4 c
      replace p0 := eq_true p0
      replace q0 := eq_true q0
      go_enter Try.func171, Try.ntmps171
      go_wp2
      go_quiet (fail)
      go_wp2
      go_ret
      exact ⟨rfl, by repeat (first | exact HB.out | apply below_alloc | apply pw_below_drewN | apply below_drew1)⟩
  · have c1 : (e.f1 == task) = false := beq_eq_false_iff_ne.2 c
    have c2 : decide (e.f1 = task ∧ rd is e.f0 ≠ 2) = false := decide_eq_false (fun h => c h.1)
    rw [c2]
    clear hok hr c c2
    go_enter Try.func171, Try.ntmps171
    go_wp2
    go_quiet (fail)
    go_wp2
    go_ret
    exact ⟨rfl, by repeat (first | exact HB.out | apply below_alloc | apply pw_below_drewN | apply below_drew1)⟩
theorem rW (i : Nat) (h : i ≤ 9223372036854775806) : wrap64 ((i : Int) + 1) = ((i + 1 : Nat) : Int) := by
  unfold wrap64
  omega
def rdyP (is : List Int) (task : Int) (e : S96) : Bool := decide (e.f1 = task ∧ rd is e.f0 ≠ 2)
def rdyOk (is : List Int) (task : Int) (e : S96) : Bool := decide (e.f1 = task → 0 ≤ e.f0 ∧ e.f0 < (is.length : Int))
def rdyAt (l : List S96) (is : List Int) (task : Int) (i : Nat) : Bool := match l[i]? with
  | some e => rdyP is task e
  | none => false
theorem entR {P : Program} {f : FuncId} {fn : Func} {c : Code} (hf : P.funcs[f]? = some fn) (hname : (fn.name == "runtime.NumGoroutine") = false) (hb : fn.body = some c) (args : Array Value) (w : World) : (callFunc f args).run P w = .ok (.enter f args) w := by
  have h1 : fn.name ≠ "runtime.NumGoroutine" := by simpa using hname
  simp [callFunc, hf, h1, hb, mark]
theorem e171 : ∀ args w, (callFunc 171 args).run Try.prog w = .ok (.enter 171 args) w := entR Try.func171 (by kernel_rfl) rfl
set_option maxHeartbeats 4000000 in
theorem index186.calls (task : Int) (l : List S96) (is : List Int) (w : World) (Bt Bp g : Nat) (A1 : Option Addr) (c1 : Nat) (A2 : Option Addr) (c2 : Nat) (ht : w.cell? ⟨Bt, 0, none⟩ = some (.int .i64 task)) (hp : w.cell? ⟨Bp, 0, none⟩ = some (.pointer (some ⟨g, 0, none⟩))) (hs : w.cell? ⟨g, 2, none⟩ = some (.slice A2 is.length c2)) (hr : Kd.C (Kd.int .i64) w A2 is.length is) (hl : Kd.C k96 w A1 l.length l) (hc1 : l.length ≤ c1) (hok : l.all (rdyOk is task) = true) :
    Calls Try.prog 186 #[.slice A1 l.length c1, .func (.func 171) #[] #[.pointer (some ⟨Bt, 0, none⟩), .pointer (some ⟨Bp, 0, none⟩)]] w fun x w' => ∃ r : Int, x = .returned (.int .i64 r) ∧ decide (0 ≤ r) = l.any (rdyP is task) ∧ Below w.heap.size w w' := by
  have HT := Aside0.mk ht
  have HP := Aside0.mk hp
  have HS := Aside0.mk hs
  have HR := Aside0.mk hr
  have HL := Aside0.mk hl
  have HOK := Aside0.mk hok
  have HB := Aside0.mk (Below.refl w.heap.size w)
  have hbig : l.length ≤ 9223372036854775807 := hl.2.1
  have HBIG := Aside0.mk hbig
  clear ht hp hs hr hl hok hbig
  go_enter Try.func186, Try.ntmps186
  go_wp2
  go_loopg [5, 8] l.length (fun kq _ v8 w' => ∃ i : Nat, v8 = .int .i64 (i : Int) ∧ Aside0 (i + kq = l.length) ∧ Aside0 (∀ e ∈ l.take i, rdyP is task e = false) ∧ Aside0 (Below w.heap.size w w'))
  case atStart => exact ⟨0, rfl, ⟨by omega⟩, ⟨fun e he => by simp at he⟩, HB⟩
  case round =>
    clear HB
    obtain ⟨i, rfl, HI, HN, HB⟩ := hrel
    by_cases c : i < l.length
    · have cb : decide ((i : Int) < (l.length : Int)) = true := by simpa using c
      obtain ⟨ad, ead, hx0, hx1⟩ := at_T96 HL.out (i : Int) (by omega) (by omega)
      cases ead
      rw [Int.toNat_natCast] at hx0 hx1
      replace hx0 := (HB.out.cell (World.block_lt_of_cell? w _ hx0)).trans hx0
      replace hx1 := (HB.out.cell (World.block_lt_of_cell? w _ hx1)).trans hx1
      have hrd : rd_T96 l (i : Int) = l[i] := by
        unfold rd_T96
        rw [Int.toNat_natCast, List.getD_eq_getElem?_getD, List.getElem?_eq_getElem c]
        rfl
      rw [hrd] at hx0 hx1
      have hcall := ready1.calls task l[i] is wr Bt Bp g A2 c2 ((HB.out.cell (World.block_lt_of_cell? w _ HT.out)).trans HT.out) ((HB.out.cell (World.block_lt_of_cell? w _ HP.out)).trans HP.out) ((HB.out.cell (World.block_lt_of_cell? w _ HS.out)).trans HS.out) (Kd.C_below HR.out HB.out) (of_decide_eq_true (List.all_eq_true.1 HOK.out _ (List.getElem_mem c)))
      have hq0 : decide (l[i].f1 = task ∧ rd is l[i].f0 ≠ 2) = rdyP is task l[i] := rfl
      rw [hq0] at hcall
      have hnext : l.take (i + 1) = l.take i ++ [l[i]] := List.take_succ_eq_append_getElem c
      have hmem : l[i] ∈ l := List.getElem_mem c
      have HMEM := Aside0.mk hmem
      have HNEXT := Aside0.mk hnext
      clear hnext hmem hq0 hrd
      generalize l[i] = e at hx0 hx1 hcall HMEM HNEXT
      have e171h := e171
      cases hq : rdyP is task e with
      | true =>
        rw [hq] at hcall
        have HQ := Aside0.mk hq
        clear hq
        go_wp2_with (go_at_fn 171; refine hcall.mono ?_; rintro x w' ⟨rfl, hb'⟩)
        go_ret
        refine ⟨(i : Int), rfl, ?_, below_step HB.out hb'⟩
        rw [decide_eq_true (by omega)]
        exact (List.any_eq_true.2 ⟨e, HMEM.out, HQ.out⟩).symm
      | false =>
        rw [hq] at hcall
        have HQ := Aside0.mk hq
        clear hq
        go_wp2_with (go_at_fn 171; refine hcall.mono ?_; rintro x w' ⟨rfl, hb'⟩)
        go_roundg (l.length - (i + 1))
        case measure => have := HI.out; omega
        case rel =>
          refine ⟨i + 1, (by first | rfl | rw [rW i (by have := HBIG.out; omega)]), ⟨by have := HI.out; omega⟩, ⟨fun x hx => ?_⟩, ⟨below_step HB.out hb'⟩⟩
          rw [HNEXT.out] at hx
          rcases List.mem_append.1 hx with hx | hx
          · exact HN.out x hx
          · rw [List.mem_singleton.1 hx]; exact HQ.out
    · have cb : decide ((i : Int) < (l.length : Int)) = false := by simpa using c
      have ei : i = l.length := by have := HI.out; omega
      subst ei
      go_wp2
      go_ret
      refine ⟨-1, rfl, ?_, HB.out⟩
      rw [decide_eq_false (by omega)]
      symm
      rw [List.any_eq_false]
      intro x hx
      have := HN.out x (by rw [List.take_length]; exact hx)
      rw [this]
      simp
set_option maxHeartbeats 4000000 in
theorem contains170.calls (task : Int) (l : List S96) (is : List Int) (w : World) (Bt Bp g : Nat) (A1 : Option Addr) (c1 : Nat) (A2 : Option Addr) (c2 : Nat) (ht : w.cell? ⟨Bt, 0, none⟩ = some (.int .i64 task)) (hp : w.cell? ⟨Bp, 0, none⟩ = some (.pointer (some ⟨g, 0, none⟩))) (hs : w.cell? ⟨g, 2, none⟩ = some (.slice A2 is.length c2)) (hr : Kd.C (Kd.int .i64) w A2 is.length is) (hl : Kd.C k96 w A1 l.length l) (hc1 : l.length ≤ c1) (hok : l.all (rdyOk is task) = true) :
    Calls Try.prog 170 #[.slice A1 l.length c1, .func (.func 171) #[] #[.pointer (some ⟨Bt, 0, none⟩), .pointer (some ⟨Bp, 0, none⟩)]] w fun x w' => x = .returned (.bool (l.any (rdyP is task))) ∧ Below w.heap.size w w' := by
  have hcall := index186.calls task l is w Bt Bp g A1 c1 A2 c2 ht hp hs hr hl hc1 hok
  clear ht hp hs hr hl hc1 hok
  go_enter Try.func170, Try.ntmps170
  go_wp2_with (go_at_call 186; refine hcall.mono ?_; rintro x w' ⟨r, rfl, hr, hb'⟩)
  go_ret
  exact ⟨by rw [← hr]; rfl, hb'⟩
set_option maxHeartbeats 8000000 in
theorem ready129.calls (task : Int) (l : List S96) (wk : Int) (is : List Int) (w : World) (g : Nat) (A1 : Option Addr) (c1 : Nat) (A2 : Option Addr) (c2 : Nat) (hg0 : w.cell? ⟨g, 0, none⟩ = some (.slice A1 l.length c1)) (hg2 : w.cell? ⟨g, 2, none⟩ = some (.slice A2 is.length c2)) (hr : Kd.C (Kd.int .i64) w A2 is.length is) (hl : Kd.C k96 w A1 l.length l) (hc1 : l.length ≤ c1) (p0 : 0 ≤ task) (q0 : task < (is.length : Int)) (hok : rd is task = 0 → l.all (rdyOk is task) = true) :
    Calls Try.prog 129 #[.pointer (some ⟨g, 0, none⟩), .int .i64 task] w fun x w' => x = .returned (.bool (decide (rd is task = 0) && !(l.any (rdyP is task)))) ∧ Below w.heap.size w w' := by
  have HB := Aside0.mk (Below.refl w.heap.size w)
  have hmf : ∀ (fn : Fn) (first cap : Array Value) (w : World), (Instr.makeFunc fn first cap).run Try.prog w = .ok (.func fn first cap) w := fun _ _ _ _ => rfl
  have hlt := World.block_lt_of_cell? w _ hg0
  obtain ⟨w2, hw2⟩ : ∃ w2, w2 = (w.alloc (.cells #[.pointer (some ⟨g, 0, none⟩)] 109)).alloc (.cells #[.int .i64 task] 3) := ⟨_, rfl⟩
  have hb2 : Below w.heap.size w w2 := by rw [hw2]; exact below_alloc (below_alloc (Below.refl _ _) _) _
  have k0 := pw_cell_below hb2 hg0
  have k2 := pw_cell_below hb2 hg2
  have hB1 : w2.cell? ⟨w.heap.size, 0, none⟩ = some (.pointer (some ⟨g, 0, none⟩)) := by rw [hw2]; simp
  have hB2 : w2.cell? ⟨w.heap.size + 1, 0, none⟩ = some (.int .i64 task) := by rw [hw2]; simp
  obtain ⟨ad, ead, hx⟩ := Kd.at_int hr task p0 q0
  cases ead
  replace hx := pw_cell_below hb2 hx
  by_cases c : rd is task = 0
  · have hb3 : ∀ nq, Below w.heap.size w (w2.drewN nq) := fun nq => by
      repeat (first | exact hb2 | apply pw_below_drewN)
    have hcall := fun nq => contains170.calls task l is (w2.drewN nq) (w.heap.size + 1) w.heap.size g _ c1 _ c2 hB2 hB1 k2 (Kd.C_below hr (hb3 nq)) (Kd.C_below hl (hb3 nq)) hc1 (hok c)
    have cb : (rd is task != 0) = false := bne_eq_false_iff_eq.2 c
    rw [decide_eq_true c, Bool.true_and]
    clear hr hl hg0 hg2 hok c
    replace p0 := eq_true p0
    replace q0 := eq_true q0
    go_enter Try.func129, Try.ntmps129
    go_wp2
    rw [← hw2]
    clear hw2
    go_quiet (fail)
    go_wp2_with (go_at_call 170; refine (hcall _).mono ?_; rintro x w' ⟨rfl, hb'⟩)
    go_ret
    exact ⟨rfl, below_step (hb3 _) hb'⟩
  · have cb : (rd is task != 0) = true := bne_iff_ne.2 c
    rw [decide_eq_false c, Bool.false_and]
    clear hr hl hg0 hg2 hok c
    replace p0 := eq_true p0
    replace q0 := eq_true q0
    go_enter Try.func129, Try.ntmps129
    go_wp2
    rw [← hw2]
    clear hw2
    go_quiet (fail)
    go_wp2
    go_ret
    exact ⟨rfl, by repeat (first | exact hb2 | apply pw_below_drewN)⟩
def isA (l : List Int) : Array Value := (l.map (Value.int .i64)).toArray
theorem isA_get (l : List Int) (i : Nat) (h : i < l.length) : (isA l)[i]? = some (.int .i64 l[i]) := by
  unfold isA
  rw [List.getElem?_toArray, List.getElem?_map, List.getElem?_eq_getElem h]
  rfl
/-- A pool in memory: its own block, and the block of its tasks. -/
structure PoolAt (w : World) (g gi : Nat) (A1 : Option Addr) (c1 : Nat) (l : List S96) (wk : Int) (is : List Int) : Prop where
  own : w.heap[g]? = some (.cells #[.slice A1 l.length c1, .int .i64 wk, .slice (some ⟨gi, 0, none⟩) is.length is.length] 111 (0, 0))
  tasks : w.heap[gi]? = some (.cells (isA is) 3 (0, 0))
  edges : Kd.C k96 w A1 l.length l
  cap : l.length ≤ c1
  few : is.length ≤ 16
  fit : ∀ e ∈ l, 0 ≤ e.f0 ∧ e.f0 < (is.length : Int)
theorem PoolAt.below {w w1 : World} {g gi : Nat} {A1 : Option Addr} {c1 : Nat} {l : List S96} {wk : Int} {is : List Int} (h : PoolAt w g gi A1 c1 l wk is) (hb : Below w.heap.size w w1) : PoolAt w1 g gi A1 c1 l wk is :=
  ⟨blk_below h.own hb, blk_below h.tasks hb, Kd.C_below h.edges hb, h.cap, h.few, h.fit⟩
theorem PoolAt.row {w : World} {g gi : Nat} {A1 : Option Addr} {c1 : Nat} {l : List S96} {wk : Int} {is : List Int} (h : PoolAt w g gi A1 c1 l wk is) : Kd.C (Kd.int .i64) w (some ⟨gi, 0, none⟩) is.length is := by
  refine ⟨rfl, by have := h.few; omega, fun hp => ⟨⟨gi, 0, none⟩, rfl, fun j p hj => ?_⟩⟩
  refine ⟨[.int .i64 p], rfl, rfl, fun q u hq => ?_⟩
  obtain ⟨hjl, he⟩ := List.getElem?_eq_some_iff.1 hj
  have hq0 : q = 0 := by
    have := (List.getElem?_eq_some_iff.1 hq).1
    simpa using this
  subst hq0
  simp at hq
  subst hq
  have hsz : (Kd.int .i64).sz = 1 := rfl
  rw [hsz, Nat.mul_one, Nat.add_zero]
  have e1 : (Addr.add ⟨gi, 0, none⟩ j) = ⟨gi, j, none⟩ := by
    by_cases hj0 : j = 0 <;> simp [Addr.add, hj0]
  rw [e1, blk_cell h.tasks, isA_get is j hjl, he]
theorem PoolAt.cell {w : World} {g gi : Nat} {A1 : Option Addr} {c1 : Nat} {l : List S96} {wk : Int} {is : List Int} (h : PoolAt w g gi A1 c1 l wk is) (i : Nat) (hi : i < is.length) : w.cell? ⟨gi, i, none⟩ = some (.int .i64 (rd is (i : Int))) := by
  rw [blk_cell h.tasks, isA_get is i hi]
  unfold rd
  rw [Int.toNat_natCast, List.getD_eq_getElem?_getD, List.getElem?_eq_getElem hi]
  rfl
def endsTo (is : List Int) (m : Nat) : List S46 := (List.range m).filterMap fun k : Nat => if rd is (k : Int) = 1 then some (⟨1, (k : Int)⟩ : S46) else none
theorem endsTo_succ (is : List Int) (m : Nat) : endsTo is (m + 1) = if rd is (m : Int) = 1 then endsTo is m ++ [⟨1, (m : Int)⟩] else endsTo is m := by
  unfold endsTo
  rw [List.range_succ, List.filterMap_append]
  by_cases h : rd is (m : Int) = 1
  · simp [h]
  · simp [h]
theorem endsTo_len (is : List Int) (m : Nat) : (endsTo is m).length ≤ m := by
  unfold endsTo
  have := List.length_filterMap_le (fun k : Nat => if rd is (k : Int) = 1 then some (⟨1, (k : Int)⟩ : S46) else none) (List.range m)
  simpa using this
def rdyB (l : List S96) (is : List Int) (k : Int) : Bool := decide (rd is k = 0) && !(l.any (rdyP is k))
def begsTo (l : List S96) (is : List Int) (m : Nat) : List S46 := (List.range m).filterMap fun k : Nat => if rdyB l is (k : Int) = true then some (⟨2, (k : Int)⟩ : S46) else none
theorem begsTo_succ (l : List S96) (is : List Int) (m : Nat) : begsTo l is (m + 1) = if rdyB l is (m : Int) = true then begsTo l is m ++ [⟨2, (m : Int)⟩] else begsTo l is m := by
  unfold begsTo
  rw [List.range_succ, List.filterMap_append]
  by_cases h : rdyB l is (m : Int) = true
  · simp [h]
  · simp [h]
theorem begsTo_len (l : List S96) (is : List Int) (m : Nat) : (begsTo l is m).length ≤ m := by
  unfold begsTo
  have := List.length_filterMap_le (fun k : Nat => if rdyB l is (k : Int) = true then some (⟨2, (k : Int)⟩ : S46) else none) (List.range m)
  simpa using this
def movesL (l : List S96) (wk : Int) (is : List Int) : List S46 := if wk ≤ ((endsTo is is.length).length : Int) then endsTo is is.length else endsTo is is.length ++ begsTo l is is.length
theorem pW (i : Nat) (h : i ≤ 9223372036854775806) : wrap64 ((i : Int) + 1) = ((i + 1 : Nat) : Int) := by
  unfold wrap64
  omega
set_option maxHeartbeats 4000000 in
set_option maxRecDepth 100000 in
theorem running128.calls (l : List S96) (wk : Int) (is : List Int) (w : World) (g gi : Nat) (A1 : Option Addr) (c1 : Nat) (hP : PoolAt w g gi A1 c1 l wk is) :
    Calls Try.prog 128 #[.pointer (some ⟨g, 0, none⟩)] w fun e w' => e = .returned (.int .i64 ((endsTo is is.length).length : Int)) ∧ w = w' := by
  have k2 := (blk_cell hP.own 2).trans rfl
  have HP := Aside0.mk hP
  have HF := Aside0.mk hP.few
  clear hP
  go_enter Try.func128, Try.ntmps128
  go_wp2
  go_loopg [3, 11] is.length (fun kq v3 v11 w' => ∃ i : Nat, v11 = .int .i64 (i : Int) ∧ v3 = .int .i64 ((endsTo is i).length : Int) ∧ Aside0 (i + kq = is.length) ∧ Aside0 (w = w'))
  case atStart => exact ⟨0, rfl, by rw [show (endsTo is 0).length = 0 from rfl]; rfl, ⟨by omega⟩, ⟨rfl⟩⟩
  case round =>
    obtain ⟨i, rfl, rfl, HI, HW⟩ := hrel
    obtain rfl := HW.out
    have HN := Aside0.mk (endsTo_succ is i)
    have HLN := Aside0.mk (endsTo_len is i)
    by_cases c : i < is.length
    · have cb : decide ((i : Int) < (is.length : Int)) = true := by simpa using c
      have hx := HP.out.cell i c
      have HIB := Aside0.mk (show i ≤ 16 by have := HF.out; omega)
      by_cases c2 : rd is (i : Int) = 1
      · have cb2 : (rd is (i : Int) == 1) = true := beq_iff_eq.2 c2
        rw [if_pos c2] at HN
        clear c2
        go_wp2
        go_roundg (is.length - (i + 1))
        case measure => have := HI.out; omega
        case rel => exact ⟨i + 1, (by first | rfl | rw [pW i (by have := HIB.out; omega)]), (by rw [HN.out, List.length_append]; first | rfl | rw [pW _ (by have := HIB.out; have := HLN.out; omega)]; rfl), ⟨by have := HI.out; omega⟩, ⟨rfl⟩⟩
      · have cb2 : (rd is (i : Int) == 1) = false := beq_eq_false_iff_ne.2 c2
        rw [if_neg c2] at HN
        clear c2
        go_wp2
        go_roundg (is.length - (i + 1))
        case measure => have := HI.out; omega
        case rel => exact ⟨i + 1, (by first | rfl | rw [pW i (by have := HIB.out; omega)]), (by rw [HN.out]), ⟨by have := HI.out; omega⟩, ⟨rfl⟩⟩
    · have cb : decide ((i : Int) < (is.length : Int)) = false := by simpa using c
      have ei : i = is.length := by have := HI.out; omega
      subst ei
      go_wp2
      go_ret
      exact ⟨rfl, rfl⟩
theorem readyP.calls (l : List S96) (wk : Int) (is : List Int) (k : Nat) (w : World) (g gi : Nat) (A1 : Option Addr) (c1 : Nat) (hP : PoolAt w g gi A1 c1 l wk is) (hk : k < is.length) :
    Calls Try.prog 129 #[.pointer (some ⟨g, 0, none⟩), .int .i64 (k : Int)] w fun x w' => x = .returned (.bool (rdyB l is (k : Int))) ∧ Below w.heap.size w w' :=
  ready129.calls (k : Int) l wk is w g A1 c1 (some ⟨gi, 0, none⟩) is.length ((blk_cell hP.own 0).trans rfl) ((blk_cell hP.own 2).trans rfl) hP.row hP.edges hP.cap (by omega) (by omega)
    (fun _ => List.all_eq_true.2 fun e he => decide_eq_true fun _ => hP.fit e he)
set_option maxHeartbeats 4000000 in
set_option maxRecDepth 100000 in
theorem moves79.calls (l : List S96) (wk : Int) (is : List Int) (w : World) (g gi : Nat) (A1 : Option Addr) (c1 : Nat) (hP : PoolAt w g gi A1 c1 l wk is) :
    Calls Try.prog 79 #[.pointer (some ⟨g, 0, none⟩)] w fun e w' => ∃ v0_ : Value, e = .returned (v0_) ∧ Kd.R k46 46 w' w.heap.size (fun _ => True) v0_ (movesL l wk is) ∧ Below w.heap.size w w' := by
  have HP := Aside0.mk hP
  have HB := Aside0.mk (Below.refl w.heap.size w)
  have k2 := (blk_cell hP.own 2).trans rfl
  have HF := Aside0.mk hP.few
  clear hP
  go_enter Try.func79, Try.ntmps79
  go_wp2_with (first | ((with_reducible refine gate_dst (N := 7) rfl ?_); refine Kd.R_lit k46 _ 46 ?hg (N := 7) ?hd (xs := ([] : List S46)) (inner := []) (ok := fun _ => True) (okp := fun _ => True) ?hr ?hp (fun _ hk => hk) trivial (Below.refl _ _) (Nat.le_refl _) (by simp) ?_; (case hd => rfl); (case hg => rfl); (case hr => first | (go_simp; done) | (go_simp; rfl)); (case hp => exact (Reps.none _ _)); intro v1 w3 ho hb hg_ hnew_; clear hg_ hnew_; have HO := Aside0.mk ho; have HBq := Aside0.mk hb; replace k2 := pw_cell_below hb k2; clear HB; have HB := HBq; clear HBq ho hb))
  go_loopg [3, 13] is.length (fun kq v3 v13 w' => ∃ i : Nat, v13 = .int .i64 (i : Int) ∧ Aside0 (i + kq = is.length) ∧ Aside0 (Kd.R k46 46 w' w.heap.size (fun _ => True) v3 (endsTo is i)) ∧ Aside0 (Below w.heap.size w w'))
  case atStart => exact ⟨0, rfl, ⟨by omega⟩, HO, HB⟩
  case round =>
    clear HO HB k2
    obtain ⟨i, rfl, HI, HO, HB⟩ := hrel
    have HN := Aside0.mk (endsTo_succ is i)
    have HLN := Aside0.mk (endsTo_len is i)
    have HPr := Aside0.mk (HP.out.below HB.out)
    by_cases c : i < is.length
    · have cb : decide ((i : Int) < (is.length : Int)) = true := by simpa using c
      have HIB := Aside0.mk (show i ≤ 16 by have := HF.out; omega)
      have hx := HPr.out.cell i c
      generalize endsTo is i = o at HO HN HLN
      by_cases c2 : rd is (i : Int) = 1
      · have cb2 : (rd is (i : Int) == 1) = true := beq_iff_eq.2 c2
        rw [if_pos c2] at HN
        clear c2
        go_wp2_with (first | (at_builtin; refine Kd.R_append k46 (w0 := w) w.heap.size rfl (.tmp 20) (.tmp 23) 32 46 (.agg #[(.int .i64 0), (.int .i64 0)]) 16 rfl Try.underlying32 info46 rfl (by decide) (by omega) _ o ⟨1, (i : Int)⟩ [.int .i64 1, .int .i64 (i : Int)] (fun _ => True) (fun _ => False) rfl ?aX ?aP (fun _ hk => hk.elim) ?aF ?aO ?aB ?aS ?aL ?_; (case aX => rfl); (case aP => exact k46_mkM _ _ _ _); (case aF => exact fun _ _ => trivial); (case aO => exact HO.out); (case aB => exact HB.out); (case aS => exact below_size HB.out); (case aL => have := HLN.out; have := HIB.out; omega); intro v1 w1 ho hb hg hat; have HO2 := Aside0.mk ho; have HB2 := Aside0.mk hb; clear ho hb hg hat))
        go_roundg (is.length - (i + 1))
        case measure => have := HI.out; omega
        case rel => exact ⟨i + 1, (by first | rfl | rw [pW i (by have := HIB.out; omega)]), ⟨by have := HI.out; omega⟩, ⟨by rw [HN.out]; exact HO2.out⟩, HB2⟩
      · have cb2 : (rd is (i : Int) == 1) = false := beq_eq_false_iff_ne.2 c2
        rw [if_neg c2] at HN
        clear c2
        go_wp2
        go_roundg (is.length - (i + 1))
        case measure => have := HI.out; omega
        case rel => exact ⟨i + 1, (by first | rfl | rw [pW i (by have := HIB.out; omega)]), ⟨by have := HI.out; omega⟩, ⟨by rw [HN.out]; exact HO.out⟩, HB⟩
    · have cb : decide ((i : Int) < (is.length : Int)) = false := by simpa using c
      have ei : i = is.length := by have := HI.out; omega
      subst ei
      clear HN HLN
      have k1 := (blk_cell HPr.out.own 1).trans rfl
      have hrun := fun n => running128.calls l wk is (wr.drewN n) g gi A1 c1 (HPr.out.below (pw_below_drewN (Below.refl _ _) n))
      have hle := endsTo_len is is.length
      have HLE := Aside0.mk hle
      clear hle
      by_cases c2 : wk ≤ ((endsTo is is.length).length : Int)
      · have cb2 : decide (wk ≤ ((endsTo is is.length).length : Int)) = true := decide_eq_true c2
        have HM := Aside0.mk (show movesL l wk is = endsTo is is.length by unfold movesL; rw [if_pos c2])
        clear c2
        go_wp2
        go_quiet ((go_at_call 128; exact Calls.quiet_of_same ((hrun _).mono fun _ _ h_ => ⟨h_.1, h_.2.symm⟩)))
        go_wp2
        go_ret
        exact ⟨_, rfl, by rw [HM.out]; exact Kd.R_drewN HO.out _, pw_below_drewN HB.out _⟩
      · have cb2 : decide (wk ≤ ((endsTo is is.length).length : Int)) = false := decide_eq_false c2
        have HM := Aside0.mk (show movesL l wk is = endsTo is is.length ++ begsTo l is is.length by unfold movesL; rw [if_neg c2])
        clear c2
        have k2 := (blk_cell HPr.out.own 2).trans rfl
        go_wp2
        go_quiet ((go_at_call 128; exact Calls.quiet_of_same ((hrun _).mono fun _ _ h_ => ⟨h_.1, h_.2.symm⟩)))
        go_wp2
        obtain ⟨w9, hw9⟩ : ∃ w9, w9 = wr.drewN nq := ⟨_, rfl⟩
        have HB9 := Aside0.mk (show Below w.heap.size w w9 by rw [hw9]; exact pw_below_drewN HB.out _)
        have HO9 := Aside0.mk (show Kd.R k46 46 w9 w.heap.size (fun _ => True) u3 (endsTo is is.length) by rw [hw9]; exact Kd.R_drewN HO.out _)
        rw [← hw9]
        clear hw9 HB HO HPr hrun k1 k2 cb2
        go_loopg [3, 39] is.length (fun kq v3 v39 w' => ∃ i : Nat, v39 = .int .i64 (i : Int) ∧ Aside0 (i + kq = is.length) ∧ Aside0 (Kd.R k46 46 w' w.heap.size (fun _ => True) v3 (endsTo is is.length ++ begsTo l is i)) ∧ Aside0 (Below w.heap.size w w'))
        case atStart => exact ⟨0, rfl, ⟨by omega⟩, ⟨by rw [show begsTo l is 0 = [] from rfl, List.append_nil]; exact HO9.out⟩, HB9⟩
        case round =>
          clear HB9 HO9
          obtain ⟨i, rfl, HI, HO, HB⟩ := hrel
          have HN := Aside0.mk (begsTo_succ l is i)
          have HLN := Aside0.mk (begsTo_len l is i)
          have HPr := Aside0.mk (HP.out.below HB.out)
          by_cases c : i < is.length
          · have cb : decide ((i : Int) < (is.length : Int)) = true := by simpa using c
            have HIB := Aside0.mk (show i ≤ 16 by have := HF.out; omega)
            have hcall := readyP.calls l wk is i wr g gi A1 c1 HPr.out c
            have HOL := Aside0.mk (show (endsTo is is.length ++ begsTo l is i).length ≤ 32 by rw [List.length_append]; have := HLE.out; have := HLN.out; have := HF.out; omega)
            have HNQ := Aside0.mk (show endsTo is is.length ++ begsTo l is (i + 1) = if rdyB l is (i : Int) = true then (endsTo is is.length ++ begsTo l is i) ++ [⟨2, (i : Int)⟩] else endsTo is is.length ++ begsTo l is i by
              rw [HN.out]
              split
              · rw [List.append_assoc]
              · rfl)
            clear HN
            generalize endsTo is is.length ++ begsTo l is i = o at HO HOL HNQ
            cases hq : rdyB l is (i : Int) with
            | true =>
              rw [hq] at hcall
              have HN2 := Aside0.mk (HNQ.out.trans (if_pos hq))
              clear hq HNQ
              go_wp2_with (first | (go_at_call 129; refine hcall.mono ?_; rintro x w5 ⟨rfl, hb'⟩; have HO5 := Aside0.mk (Kd.R_below HO.out hb'); have HB5 := Aside0.mk (below_step HB.out hb'); clear HO HB hb' hcall HPr) | (at_builtin; refine Kd.R_append k46 (w0 := w) w.heap.size rfl (.tmp 45) (.tmp 48) 32 46 (.agg #[(.int .i64 0), (.int .i64 0)]) 16 rfl Try.underlying32 info46 rfl (by decide) (by omega) _ o ⟨2, (i : Int)⟩ [.int .i64 2, .int .i64 (i : Int)] (fun _ => True) (fun _ => False) rfl ?aX ?aP (fun _ hk => hk.elim) ?aF ?aO ?aB ?aS ?aL ?_; (case aX => rfl); (case aP => exact k46_mkM _ _ _ _); (case aF => exact fun _ _ => trivial); (case aO => exact HO5.out); (case aB => exact HB5.out); (case aS => exact below_size HB5.out); (case aL => have := HOL.out; omega); intro v1 w1 ho hb hg hat; have HO2 := Aside0.mk ho; have HB2 := Aside0.mk hb; clear ho hb hg hat))
              go_roundg (is.length - (i + 1))
              case measure => have := HI.out; omega
              case rel => exact ⟨i + 1, (by first | rfl | rw [pW i (by have := HIB.out; omega)]), ⟨by have := HI.out; omega⟩, ⟨by rw [HN2.out]; exact HO2.out⟩, HB2⟩
            | false =>
              rw [hq] at hcall
              have HN2 := Aside0.mk (HNQ.out.trans (if_neg (by rw [hq]; simp)))
              clear hq HNQ
              go_wp2_with (first | (go_at_call 129; refine hcall.mono ?_; rintro x w5 ⟨rfl, hb'⟩; have HO5 := Aside0.mk (Kd.R_below HO.out hb'); have HB5 := Aside0.mk (below_step HB.out hb'); clear HO HB hb' hcall HPr))
              go_roundg (is.length - (i + 1))
              case measure => have := HI.out; omega
              case rel => exact ⟨i + 1, (by first | rfl | rw [pW i (by have := HIB.out; omega)]), ⟨by have := HI.out; omega⟩, ⟨by rw [HN2.out]; exact HO5.out⟩, HB5⟩
          · have cb : decide ((i : Int) < (is.length : Int)) = false := by simpa using c
            have ei : i = is.length := by have := HI.out; omega
            subst ei
            go_wp2
            go_ret
            exact ⟨_, rfl, by rw [HM.out]; exact HO.out, HB.out⟩
theorem isA_set (l : List Int) (t : Nat) (x : Int) : (isA l).setIfInBounds t (.int .i64 x) = isA (l.set t x) := by
  unfold isA
  rw [List.map_set]
  apply Array.toList_inj.1
  simp
set_option maxHeartbeats 4000000 in
set_option maxRecDepth 100000 in
theorem doP.calls (kind : Int) (t : Nat) (l : List S96) (wk : Int) (is : List Int) (w0 w : World) (g gi : Nat) (A1 : Option Addr) (c1 : Nat) (hP : PoolAt w g gi A1 c1 l wk is) (hB : Below w0.heap.size w0 w) (hl : Kd.C k96 w0 A1 l.length l) (hgi : w0.heap.size ≤ gi) (hne : g ≠ gi) (ht : t < is.length) (hv : 0 ≤ rd is (t : Int) ∧ rd is (t : Int) ≤ 1000) :
    Calls Try.prog 80 #[.pointer (some ⟨g, 0, none⟩), .agg #[.int .i64 kind, .int .i64 (t : Int)]] w fun e w' => e = .returned (.tuple #[]) ∧ PoolAt w' g gi A1 c1 l wk (is.set t (rd is (t : Int) + 1)) ∧ Below w0.heap.size w0 w' ∧ KeepBut w w' gi none := by
  obtain ⟨w2, hw2⟩ : ∃ w2, w2 = w.alloc (.cells #[.int .i64 kind, .int .i64 (t : Int)] 46) := ⟨_, rfl⟩
  have hb2 : Below w.heap.size w w2 := by rw [hw2]; exact below_alloc (Below.refl _ _) _
  have hP2 := hP.below hb2
  have k2 : w2.cell? ⟨g, 2, none⟩ = some (.slice (some ⟨gi, 0, none⟩) is.length is.length) := (blk_cell hP2.own 2).trans rfl
  have kt := hP2.cell t ht
  have hf := blk_frozen hP2.tasks t
  have km : w2.cell? ⟨w.heap.size, 1, none⟩ = some (.int .i64 (t : Int)) := by rw [hw2]; simp
  have hx0 : (0 : Int) ≤ (t : Int) := by omega
  have hx1 : (t : Int) < (is.length : Int) := by omega
  obtain ⟨hv0, hv1⟩ := hv
  have HP := Aside0.mk hP2
  have HB := Aside0.mk (below_step hB hb2)
  have HB2 := Aside0.mk hb2
  have HL := Aside0.mk hl
  have HG := Aside0.mk hgi
  have HNE := Aside0.mk hne
  have HT := Aside0.mk ht
  have HV := Aside0.mk hv0
  clear hP hB hl hgi hne ht hb2 hP2
  have hsum : IntKind.i64.wrap (rd is (t : Int) + 1) = rd is (t : Int) + 1 := IntWalk.i64_in _ (by omega)
  clear hv0 hv1
  go_enter Try.func80, Try.ntmps80
  go_wp2
  rw [← hw2]
  clear hw2
  go_still_tail 10, (by kernel_rfl)
  change wpList _ _ _ _ _ w2.drew
  obtain ⟨w3, hw3⟩ : ∃ w3, w3 = w2.drew := ⟨_, rfl⟩
  have hf3 : w3.frozen? ⟨gi, t, none⟩ = false := by rw [hw3]; exact hf
  have kt3 : w3.cell? ⟨gi, t, none⟩ = some (.int .i64 (rd is (t : Int))) := by rw [hw3]; exact kt
  rw [← hw3]
  clear hsum
  have HW3 := Aside0.mk hw3
  clear hw3
  go_wp2
  refine bodyPost_end (v := .tuple #[]) (results_none rfl _ _ _) rfl ?_
  have hd : Below w2.heap.size w2 w3 := by rw [HW3.out]; exact below_drew1 (Below.refl _ _)
  have hP3 := HP.out.below hd
  have hB3 := below_step HB.out hd
  have hlen : (is.set t (rd is (t : Int) + 1)).length = is.length := List.length_set
  refine ⟨rfl, ⟨?_, ?_, ?_, hP3.cap, by rw [hlen]; exact hP3.few, by rw [hlen]; exact hP3.fit⟩, below_set hB3 HG.out, ?_⟩
  · rw [hlen]
    exact blk_far hP3.own (p := ⟨gi, t, none⟩) HNE.out _
  · exact blk_put hP3.tasks t _ (isA_set is t _)
  · exact Kd.C_below HL.out (below_set hB3 HG.out)
  · exact (KeepBut.of_below (below_step HB2.out hd) gi none).set_ t _
def doL (is : List Int) (x : Int) : List Int := is.set x.toNat (rd is x + 1)
theorem doL_len (is : List Int) (x : Int) : (doL is x).length = is.length := List.length_set
theorem movesL_len (l : List S96) (wk : Int) (is : List Int) : (movesL l wk is).length ≤ 2 * is.length := by
  unfold movesL
  have h1 := endsTo_len is is.length
  have h2 := begsTo_len l is is.length
  split
  · omega
  · rw [List.length_append]; omega
theorem movesL_mem {l : List S96} {wk : Int} {is : List Int} {e : S46} (h : e ∈ movesL l wk is) : ∃ t : Nat, t < is.length ∧ e.f1 = (t : Int) ∧ ((e.f0 = 1 ∧ rd is (t : Int) = 1) ∨ (e.f0 = 2 ∧ rdyB l is (t : Int) = true ∧ rd is (t : Int) = 0)) := by
  have h1 : e ∈ endsTo is is.length ∨ e ∈ begsTo l is is.length := by
    unfold movesL at h
    split at h
    · exact .inl h
    · exact List.mem_append.1 h
  rcases h1 with h1 | h1
  · obtain ⟨t, ht, h2⟩ := List.mem_filterMap.1 h1
    by_cases c : rd is (t : Int) = 1
    · rw [if_pos c] at h2
      obtain rfl := Option.some.inj h2
      exact ⟨t, List.mem_range.1 ht, rfl, .inl ⟨rfl, c⟩⟩
    · rw [if_neg c] at h2
      cases h2
  · obtain ⟨t, ht, h2⟩ := List.mem_filterMap.1 h1
    by_cases c : rdyB l is (t : Int) = true
    · rw [if_pos c] at h2
      obtain rfl := Option.some.inj h2
      refine ⟨t, List.mem_range.1 ht, rfl, .inr ⟨rfl, c, ?_⟩⟩
      unfold rdyB at c
      rw [Bool.and_eq_true] at c
      exact of_decide_eq_true c.1
    · rw [if_neg c] at h2
      cases h2
def fitB (n : Int) (l : List S96) : Bool := decide (0 ≤ n) && decide (n ≤ 16) && l.all fun e => decide (0 ≤ e.f0) && decide (e.f0 < n)
theorem made0 (n : Nat) : madeCells (Value.int .i64 0).cells n = isA (List.replicate n 0) := by
  apply Array.toList_inj.1
  show (madeCells #[Value.int .i64 0] n).toList = _
  rw [toList_madeCells_one]
  simp [isA]
theorem mkInts (n : Nat) (hn : n ≤ 1000) (W : World) : (Instr.makeSlice 41 (.int .i64 (n : Int)) (.int .i64 (n : Int))).run Try.prog W = .ok (.slice (some ⟨W.heap.size, 0, none⟩) n n) (W.alloc (.cells (isA (List.replicate n 0)) 3)) := by
  obtain ⟨i0, hi, hzz⟩ := Option.map_eq_some_iff.1 info3
  simp only [Prod.mk.injEq] at hzz
  obtain ⟨hz0, hz1, hz2⟩ := hzz
  have h := run_make (P := Try.prog) W 41 3 i0 (.int .i64 0) Try.underlying41 hi hz0 .i64 .i64 (n : Int) (n : Int) (by omega) (by omega) (by rw [hz2]; omega) (by omega)
  rw [hz1, Int.toNat_natCast, Nat.mul_one, made0] at h
  exact h
theorem newPool {w1 w2 : World} {n : Nat} {l1 : List S96} {a2 : Int} {A1 : Option Addr} {c1 : Nat} (hw2 : w2 = (w1.alloc (.cells (isA (List.replicate n 0)) 3)).alloc (.cells #[.slice A1 l1.length c1, .int .i64 a2, .slice (some ⟨w1.heap.size, 0, none⟩) n n] 111)) (he : Kd.C k96 w2 A1 l1.length l1) (hc : l1.length ≤ c1) (hn : n ≤ 16) (hf : ∀ e ∈ l1, 0 ≤ e.f0 ∧ e.f0 < (n : Int)) : PoolAt w2 (w1.heap.size + 1) w1.heap.size A1 c1 l1 a2 (List.replicate n 0) := by
  refine ⟨?_, ?_, he, hc, by rw [List.length_replicate]; exact hn, by rw [List.length_replicate]; exact hf⟩
  · rw [hw2, List.length_replicate]
    have := blk_new (w1.alloc (.cells (isA (List.replicate n 0)) 3)) (.cells #[.slice A1 l1.length c1, .int .i64 a2, .slice (some ⟨w1.heap.size, 0, none⟩) n n] 111)
    rw [World.size_alloc] at this
    exact this
  · rw [hw2]
    exact blk_alloc (blk_new w1 _) _

-- NOT PRINTED: function 80 (impl_pool_do)

/-! ### impl_PoolMoves: function 25 -/
def hasM (l : List S46) (m : S46) : Bool := l.any fun e => m.f0 == e.f0 && m.f1 == e.f1
theorem hasM_spec {l : List S96} {wk : Int} {is : List Int} {m : S46} (h : hasM (movesL l wk is) m = true) : ∃ t : Nat, t < is.length ∧ m.f1 = (t : Int) ∧ 0 ≤ rd is (t : Int) ∧ rd is (t : Int) ≤ 1000 := by
  obtain ⟨e, he, h1⟩ := List.any_eq_true.1 h
  rw [Bool.and_eq_true, beq_iff_eq, beq_iff_eq] at h1
  obtain ⟨t, h2, h3, h4⟩ := movesL_mem he
  exact ⟨t, h2, h1.2.trans h3, by rcases h4 with h4 | h4 <;> omega, by rcases h4 with h4 | h4 <;> omega⟩
theorem contains78 (l : List S46) (m : S46) (hl : l.length ≤ 90) : impl_Move_78.f 100 l m.f0 m.f1 = some (hasM l m) := by
  have key : ∀ (d i k : Nat), i + d = l.length → d < k → ∃ r : Int, impl_Move_127.l0 k l (l.length : Int) (i : Int) m.f0 m.f1 = some r ∧ decide (r ≥ 0) = (l.drop i).any fun e => m.f0 == e.f0 && m.f1 == e.f1 := by
    intro d
    induction d with
    | zero =>
      intro i k hi hk
      obtain ⟨k, rfl⟩ : ∃ q, k = q + 1 := ⟨k - 1, by omega⟩
      refine ⟨-1, ?_, ?_⟩
      · simp only [impl_Move_127.l0]
        rw [if_neg (by omega)]
      · rw [List.drop_of_length_le (by omega)]
        rfl
    | succ d ih =>
      intro i k hi hk
      obtain ⟨k, rfl⟩ : ∃ q, k = q + 1 := ⟨k - 1, by omega⟩
      have hlt : i < l.length := by omega
      have hrd : rd_T46 l (i : Int) = l[i] := by
        unfold rd_T46
        rw [Int.toNat_natCast, List.getD_eq_getElem?_getD, List.getElem?_eq_getElem hlt]
        rfl
      rw [List.drop_eq_getElem_cons hlt, List.any_cons]
      simp only [impl_Move_127.l0]
      rw [if_pos (by omega), if_pos (by omega), if_pos (by omega), hrd]
      by_cases c : (m.f0 == l[i].f0 && m.f1 == l[i].f1) = true
      · rw [if_pos c]
        exact ⟨(i : Int), rfl, by rw [c, Bool.true_or]; exact decide_eq_true (by omega)⟩
      · rw [if_neg c]
        obtain ⟨r, h1, h2⟩ := ih (i + 1) k (by omega) (by omega)
        refine ⟨r, by rw [pW i (by omega)]; exact h1, ?_⟩
        rw [h2, Bool.eq_false_iff.2 c, Bool.false_or]
  obtain ⟨r, h1, h2⟩ := key l.length 0 100 (by omega) (by omega)
  unfold impl_Move_78.f impl_Move_127.f hasM
  have h0 : ((0 : Nat) : Int) = 0 := rfl
  rw [h0] at h1
  rw [h1, Option.bind_some, h2]
  rfl
def goP (l : List S96) (wk : Int) : List S46 → List Int → Option (List Int)
  | [], is => some is
  | m :: ms, is => if hasM (movesL l wk is) m = true then goP l wk ms (doL is m.f1) else none
def impl_PoolMoves.f (k : Nat) (a0 : Int) (l1 : List S96) (a2 : Int) (l3 : List S46) : Option (List S46 × Bool) :=
  (impl_isPool.f k a0 l1 a2).bind fun b => if b = true then (if fitB a0 l1 = true then (match goP l1 a2 l3 (List.replicate a0.toNat 0) with
    | some is => some (movesL l1 a2 is, true)
    | none => some ([], false)) else none) else some ([], false)
theorem impl_PoolMoves.mono : ∀ a0 a1 a2 a3 k, LeO (impl_PoolMoves.f k a0 a1 a2 a3) (impl_PoolMoves.f (k + 1) a0 a1 a2 a3) := by
  intro a0 a1 a2 a3 k
  unfold impl_PoolMoves.f
  exact LeO.bind (impl_isPool.mono _ _ _ _) (fun _ => LeO.refl _)
set_option maxHeartbeats 8000000 in
set_option maxRecDepth 100000 in
theorem impl_PoolMoves.calls (k : Nat) (a0 : Int) (A1 : Option Addr) (c1 : Nat) (l1 : List S96) (a2 : Int) (A3 : Option Addr) (c3 : Nat) (l3 : List S46) (r1 : List S46) (r2 : Bool) (w : World) (hr1 : Kd.C k96 w A1 l1.length l1) (hc1 : l1.length ≤ c1) (hr3 : Kd.C k46 w A3 l3.length l3) (hc3 : l3.length ≤ c3) (h : impl_PoolMoves.f k a0 l1 a2 l3 = some (r1, r2)) :
    Calls Try.prog 25 #[.int .i64 a0, .slice A1 l1.length c1, .int .i64 a2, .slice A3 l3.length c3] w fun e w' => ∃ v0_ : Value, e = .returned (.tuple #[v0_, .bool r2]) ∧ Kd.R k46 46 w' w.heap.size (fun _ => True) v0_ r1 ∧ Below w.heap.size w w' := by
  have HR1 := Aside0.mk hr1
  have HC1 := Aside0.mk hc1
  have HR3 := Aside0.mk hr3
  have HC3 := Aside0.mk hc3
  clear hr1 hc1 hr3 hc3
  have HB := Aside0.mk (Below.refl w.heap.size w)
  unfold impl_PoolMoves.f at h
  obtain ⟨b, e1, h⟩ := Option.bind_eq_some_iff.mp h
  have E1 := Aside0.mk e1
  clear e1
  cases b with
  | false =>
    rw [if_neg (by simp)] at h
    injection h with h
    injection h with h1 h2
    subst h1 h2
    go_enter Try.func25, Try.ntmps25
    go_wp2_with (first | (go_at_call 77; (with_reducible refine (impl_isPool.calls k a0 _ _ l1 a2 false _ HR1.out HC1.out E1.out).mono ?_); rintro e w1 ⟨rfl, hb1⟩; have HB1 := Aside0.mk hb1; clear hb1))
    go_ret2
    exact ⟨_, rfl, Kd.R_nil _ _ _ _ _, HB1.out⟩
  | true =>
    rw [if_pos rfl] at h
    by_cases hf : fitB a0 l1 = true
    · rw [if_pos hf] at h
      unfold fitB at hf
      rw [Bool.and_eq_true, Bool.and_eq_true] at hf
      obtain ⟨⟨hn0, hn1⟩, hfit⟩ := hf
      replace hn0 := of_decide_eq_true hn0
      replace hn1 := of_decide_eq_true hn1
      obtain ⟨n, rfl⟩ : ∃ n : Nat, a0 = (n : Int) := ⟨a0.toNat, by omega⟩
      rw [Int.toNat_natCast] at h
      have HH := Aside0.mk h
      have HN := Aside0.mk (show n ≤ 16 by omega)
      have HFIT := Aside0.mk (show ∀ e ∈ l1, 0 ≤ e.f0 ∧ e.f0 < (n : Int) from fun e he => by
        have := List.all_eq_true.1 hfit e he
        rw [Bool.and_eq_true] at this
        exact ⟨of_decide_eq_true this.1, of_decide_eq_true this.2⟩)
      have hmk := mkInts n (by omega)
      clear h hn1 hfit
      go_enter Try.func25, Try.ntmps25
      go_wp2_with (first | (go_at_call 77; (with_reducible refine (impl_isPool.calls k (n : Int) _ _ l1 a2 true _ HR1.out HC1.out E1.out).mono ?_); rintro e w1 ⟨rfl, hb1⟩; have HB1 := Aside0.mk hb1; clear hb1))
      obtain ⟨w2, hw2⟩ : ∃ w2, w2 = (w1.alloc (.cells (isA (List.replicate n 0)) 3)).alloc (.cells #[.slice A1 l1.length c1, .int .i64 a2, .slice (some ⟨w1.heap.size, 0, none⟩) n n] 111) := ⟨_, rfl⟩
      rw [← hw2]
      have hsz := HB1.out.size
      obtain ⟨gi, hgi⟩ : ∃ gi, gi = w1.heap.size := ⟨_, rfl⟩
      obtain ⟨g, hg⟩ : ∃ g, g = gi + 1 := ⟨_, rfl⟩
      have HP := Aside0.mk (show PoolAt w2 g gi A1 c1 l1 a2 (List.replicate n 0) from by
        refine ⟨?_, ?_, ?_, HC1.out, by rw [List.length_replicate]; exact HN.out, by rw [List.length_replicate]; exact HFIT.out⟩
        · rw [hw2, hg, hgi, List.length_replicate]
          have := blk_new (w1.alloc (.cells (isA (List.replicate n 0)) 3)) (.cells #[.slice A1 l1.length c1, .int .i64 a2, .slice (some ⟨w1.heap.size, 0, none⟩) n n] 111)
          rw [World.size_alloc] at this
          exact this
        · rw [hw2, hgi]
          exact blk_alloc (blk_new w1 _) _
        · exact Kd.C_below HR1.out (by rw [hw2]; exact below_alloc (below_alloc HB1.out _) _))
      have HB2 := Aside0.mk (show Below w.heap.size w w2 by rw [hw2]; exact below_alloc (below_alloc HB1.out _) _)
      have HGI := Aside0.mk (show w.heap.size ≤ gi by omega)
      have HNE := Aside0.mk (show g ≠ gi by omega)
      rw [← hgi, ← hg]
      clear hw2 hgi hg hsz HB1 hmk hn0
      go_wp2
      go_loopg [26] l3.length (fun kq v26 w' => ∃ (i : Nat) (is : List Int), v26 = .int .i64 (i : Int) ∧ Aside0 (i + kq = l3.length) ∧ Aside0 (is.length = n) ∧ Aside0 (goP l1 a2 (l3.drop i) is = goP l1 a2 l3 (List.replicate n 0)) ∧ Aside0 (PoolAt w' g gi A1 c1 l1 a2 is) ∧ Aside0 (Below w.heap.size w w'))
      case atStart => exact ⟨0, List.replicate n 0, rfl, ⟨by omega⟩, ⟨List.length_replicate⟩, ⟨rfl⟩, HP, HB2⟩
      case round =>
        clear HP HB2
        obtain ⟨i, is, rfl, HI, HLN, HG, HP, HB⟩ := hrel
        by_cases c : i < l3.length
        · have cb : decide ((i : Int) < (l3.length : Int)) = true := by simpa using c
          obtain ⟨ad, ead, hx0, hx1⟩ := at_T46 HR3.out (i : Int) (by omega) (by omega)
          cases ead
          rw [Int.toNat_natCast] at hx0 hx1
          replace hx0 := (HB.out.cell (World.block_lt_of_cell? w _ hx0)).trans hx0
          replace hx1 := (HB.out.cell (World.block_lt_of_cell? w _ hx1)).trans hx1
          have hrd : rd_T46 l3 (i : Int) = l3[i] := by
            unfold rd_T46
            rw [Int.toNat_natCast, List.getD_eq_getElem?_getD, List.getElem?_eq_getElem c]
            rfl
          rw [hrd] at hx0 hx1
          have hG := HG.out
          rw [List.drop_eq_getElem_cons c] at hG
          have HIB := Aside0.mk (show i ≤ 9223372036854775806 by have := HR3.out.2.1; omega)
          clear hrd HG
          generalize l3[i] = m at hx0 hx1 hG
          have hmv := moves79.calls l1 a2 is
          have hml := movesL_len l1 a2 is
          have hcon := contains78 (movesL l1 a2 is) m (by have := HLN.out; have := HN.out; omega)
          have hsp := @hasM_spec l1 a2 is m
          have hG2 : goP l1 a2 (m :: l3.drop (i + 1)) is = if hasM (movesL l1 a2 is) m = true then goP l1 a2 (l3.drop (i + 1)) (doL is m.f1) else none := rfl
          rw [hG2] at hG
          clear hG2
          generalize movesL l1 a2 is = ml at hmv hml hcon hsp hG
          cases hq : hasM ml m with
          | true =>
            rw [hq] at hcon hG
            rw [if_pos rfl] at hG
            obtain ⟨t, ht1, ht2, ht3, ht4⟩ := hsp hq
            rw [ht2] at hx1 hcon hG
            have HT := Aside0.mk ht1
            have HV := Aside0.mk (And.intro ht3 ht4)
            have HG := Aside0.mk hG
            have HC := Aside0.mk hcon
            clear hsp hq hG hcon hml ht1 ht2 ht3 ht4
            go_wp2
            obtain ⟨w3, hw3⟩ : ∃ w3, w3 = wr.alloc (.cells #[.int .i64 m.f0, .int .i64 (t : Int)] 46) := ⟨_, rfl⟩
            have hb3 : Below wr.heap.size wr w3 := by rw [hw3]; exact below_alloc (Below.refl _ _) _
            have hm0 : w3.cell? ⟨wr.heap.size, 0, none⟩ = some (.int .i64 m.f0) := by rw [hw3]; simp
            have hm1 : w3.cell? ⟨wr.heap.size, 1, none⟩ = some (.int .i64 (t : Int)) := by rw [hw3]; simp
            rw [← hw3]
            have HP3 := Aside0.mk (HP.out.below hb3)
            have HB3 := Aside0.mk (below_step HB.out hb3)
            clear hw3 hb3
            generalize wr.heap.size = gm at hm0 hm1
            clear hx0 hx1
            have hmv1 := fun nq => hmv (w3.drewN nq) g gi A1 c1 (HP3.out.below (pw_below_drewN (Below.refl _ _) nq))
            have hmv0 := hmv w3.drew g gi A1 c1 (HP3.out.below (below_drew1 (Below.refl _ _)))
            clear hmv
            go_region_held3 (fun w' => w'.cell? ⟨gm, 0, none⟩ = some (.int .i64 m.f0) ∧ w'.cell? ⟨gm, 1, none⟩ = some (.int .i64 (t : Int))) (first | go_keep | exact ⟨pw_cell_below hb hm0, pw_cell_below hb hm1⟩ | exact ⟨pw_cell_below hb' (pw_cell_below hb hm0), pw_cell_below hb' (pw_cell_below hb hm1)⟩)
              (first | (go_at_call 79; refine hmv0.mono ?_; rintro e w5 ⟨v0, rfl, ho, hb⟩; obtain ⟨A5, c5, rfl⟩ := Kd.R_slice ho) | (go_at_call 78; refine (impl_Move_78.calls 100 _ _ _ m.f0 (t : Int) _ _ (Kd.R_reads' ho).2.2 (Kd.R_reads' ho).2.1 HC.out).mono ?_; rintro e w6 ⟨rfl, hb'⟩))
            have HB6 := Aside0.mk (show Below w.heap.size w w6 from below_step (below_step (below_drew1 HB3.out) hb) hb')
            have HP6 := Aside0.mk (show PoolAt w6 g gi A1 c1 l1 a2 is from ((HP3.out.below (below_drew1 (Below.refl _ _))).below hb).below hb')
            have k0 : w6.cell? ⟨gm, 0, none⟩ = some (.int .i64 m.f0) := pw_cell_below hb' (pw_cell_below hb (show w3.drew.cell? ⟨gm, 0, none⟩ = _ from hm0))
            have k1 : w6.cell? ⟨gm, 1, none⟩ = some (.int .i64 (t : Int)) := pw_cell_below hb' (pw_cell_below hb (show w3.drew.cell? ⟨gm, 1, none⟩ = _ from hm1))
            clear hm0 hm1 ho hb hb' HB3 HP3 hmv0 hmv1 HB HP
            go_wp2_with (first | (go_at_call 80; (with_reducible refine (doP.calls m.f0 t l1 a2 is w w6 g gi A1 c1 HP6.out HB6.out HR1.out HGI.out HNE.out HT.out HV.out).mono ?_); rintro e w7 ⟨rfl, hp7, hb7, _⟩; have HP7 := Aside0.mk hp7; have HB7 := Aside0.mk hb7; clear hp7 hb7))
            go_roundg (l3.length - (i + 1))
            case measure => have := HI.out; omega
            case rel => exact ⟨i + 1, doL is (t : Int), (by first | rfl | rw [pW i HIB.out]), ⟨by have := HI.out; omega⟩, ⟨by rw [doL_len]; exact HLN.out⟩, ⟨HG.out⟩, HP7, HB7⟩
          | false =>
            have hh := HH.out
            rw [hq] at hcon hG
            rw [if_neg (by simp)] at hG
            rw [← hG] at hh
            injection hh with hh
            injection hh with h1 h2
            subst h1 h2
            have HC := Aside0.mk hcon
            clear hsp hq hG hcon hml HH
            go_wp2
            obtain ⟨w3, hw3⟩ : ∃ w3, w3 = wr.alloc (.cells #[.int .i64 m.f0, .int .i64 m.f1] 46) := ⟨_, rfl⟩
            have hb3 : Below wr.heap.size wr w3 := by rw [hw3]; exact below_alloc (Below.refl _ _) _
            have hm0 : w3.cell? ⟨wr.heap.size, 0, none⟩ = some (.int .i64 m.f0) := by rw [hw3]; simp
            have hm1 : w3.cell? ⟨wr.heap.size, 1, none⟩ = some (.int .i64 m.f1) := by rw [hw3]; simp
            rw [← hw3]
            have HP3 := Aside0.mk (HP.out.below hb3)
            have HB3 := Aside0.mk (below_step HB.out hb3)
            clear hw3 hb3
            generalize wr.heap.size = gm at hm0 hm1
            clear hx0 hx1
            have hmv1 := fun nq => hmv (w3.drewN nq) g gi A1 c1 (HP3.out.below (pw_below_drewN (Below.refl _ _) nq))
            have hmv0 := hmv w3.drew g gi A1 c1 (HP3.out.below (below_drew1 (Below.refl _ _)))
            clear hmv
            go_region_held3 (fun w' => w'.cell? ⟨gm, 0, none⟩ = some (.int .i64 m.f0) ∧ w'.cell? ⟨gm, 1, none⟩ = some (.int .i64 m.f1)) (first | go_keep | exact ⟨pw_cell_below hb hm0, pw_cell_below hb hm1⟩ | exact ⟨pw_cell_below hb' (pw_cell_below hb hm0), pw_cell_below hb' (pw_cell_below hb hm1)⟩)
              (first | (go_at_call 79; refine hmv0.mono ?_; rintro e w5 ⟨v0, rfl, ho, hb⟩; obtain ⟨A5, c5, rfl⟩ := Kd.R_slice ho) | (go_at_call 78; refine (impl_Move_78.calls 100 _ _ _ m.f0 m.f1 _ _ (Kd.R_reads' ho).2.2 (Kd.R_reads' ho).2.1 HC.out).mono ?_; rintro e w6 ⟨rfl, hb'⟩))
            have HB6 := Aside0.mk (show Below w.heap.size w w6 from below_step (below_step (below_drew1 HB3.out) hb) hb')
            clear hm0 hm1 ho hb hb' HB3 HP3 hmv0 hmv1 HB HP
            go_wp2
            go_ret2
            exact ⟨_, rfl, Kd.R_nil _ _ _ _ _, HB6.out⟩
        · have cb : decide ((i : Int) < (l3.length : Int)) = false := by simpa using c
          have ei : i = l3.length := by have := HI.out; omega
          subst ei
          rw [List.drop_length] at HG
          have hh := HH.out
          rw [← HG.out] at hh
          injection hh with hh
          injection hh with h1 h2
          subst h1 h2
          have hmv := fun w1 hP => moves79.calls l1 a2 is w1 g gi A1 c1 hP
          clear HH HG
          go_wp2_with (first | (go_at_call 79; (with_reducible refine (hmv _ HP.out).mono ?_); rintro e w1 ⟨v0, rfl, ho, hb⟩; have HO1 := Aside0.mk ho; have HB1 := Aside0.mk hb; clear ho hb))
          go_ret2
          exact ⟨_, rfl, Kd.R_lower HO1.out HB.out.size, below_step HB.out HB1.out⟩
    · rw [if_neg hf] at h
      cases h

/-! ### laws_big: function 29 -/
def laws_big.f (l0 : List Int) : Option (Bool) := some (decide ((l0.length : Int) > 1048576))
set_option maxHeartbeats 8000000 in
set_option maxRecDepth 100000 in
theorem laws_big.calls (A0 : Option Addr) (c0 : Nat) (l0 : List Int) (r : Bool) (w : World) (hr0 : Kd.C (Kd.int .u8) w A0 l0.length l0) (hc0 : l0.length ≤ c0) (h : laws_big.f l0 = some r) :
    Calls Try.prog 29 #[.slice A0 l0.length c0] w fun e w' => e = .returned (.bool r) ∧ Drawn0 w w' := by
  have HR0 := Aside0.mk hr0
  have HC0 := Aside0.mk hc0
  clear hr0 hc0
  have H : (some (decide ((l0.length : Int) > 1048576))) = some r := h
  clear h
  obtain rfl := Option.some.inj H
  go_enter Try.func29, Try.ntmps29
  go_wp2
  go_ret
  exact ⟨by first | rfl | (simp; done) | (simp [*]; done), by repeat (first | exact Drawn0.refl _ | apply Drawn0.step)⟩

end Go.Proofs.Ytnecbgeljanhiaa.PFnMoves
