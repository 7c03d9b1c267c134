-- written by wip/tools/myprint.py out of the program's own print
import Derived.Test.YtpdcgnfdffbolaaPFnNoStuckx0
import Derived.Test.YtpdcgnfdffbolaaPFnNoStuckx5
namespace Go.Proofs.Ytpdcgnfdffbolaa.PFnNoStuck
open Go.Proofs.Ytpdcgnfdffbolaa.Own (rS cS bS rB rN rT kS kC kc10 kf10)
open Go.RowKit Go.Proofs.YtpdcgnfdffbolaaW.PrintWords Go.Proofs.YtpdcgnfdffbolaaW.PrintLast Go.Proofs.YtpdcgnfdffbolaaW.PrintMore
attribute [local go_sem] max2_int min2_int max_two min_two max_three min_three max_four min_four   -- for this text's walks alone
set_option linter.unusedVariables false
set_option linter.unusedSimpArgs false

/-! ### impl_pool_moves: function 79 -/
set_option maxHeartbeats 4000000 in
theorem ready1.calls (task : Int) (e : S96) (is : List Int) (W : World) (Bt Bp g : Nat) (A2 : Option Addr) (c2 : Nat) (ht : W.cell? ⟨Bt, 0, none⟩ = some (.int .i64 task)) (hp : W.cell? ⟨Bp, 0, none⟩ = some (.pointer (some ⟨g, 0, none⟩))) (hs : W.cell? ⟨g, 2, none⟩ = some (.slice A2 is.length c2)) (hr : Kd.C (Kd.int .i64) W A2 is.length is) (hok : e.f1 = task → 0 ≤ e.f0 ∧ e.f0 < (is.length : Int)) :
    Calls Try.prog 173 #[.agg #[.int .i64 e.f0, .int .i64 e.f1], .pointer (some ⟨Bt, 0, none⟩), .pointer (some ⟨Bp, 0, none⟩)] W fun x w' => x = .returned (.bool (decide (e.f1 = task ∧ rd is e.f0 ≠ 2))) ∧ Below W.heap.size W w' := by
  have hbt : Bt < W.heap.size := World.block_lt_of_cell? W ⟨Bt, 0, none⟩ ht
  have hbp : Bp < W.heap.size := World.block_lt_of_cell? W ⟨Bp, 0, none⟩ hp
  have hbg : g < W.heap.size := World.block_lt_of_cell? W ⟨g, 2, none⟩ hs
  have n1 : Bt ≠ W.heap.size := by omega
  have n2 : Bp ≠ W.heap.size := by omega
  have n3 : g ≠ W.heap.size := by omega
  have HB := Aside0.mk (Below.refl W.heap.size W)
  by_cases c : e.f1 = task
  · have c1 : (e.f1 == task) = true := beq_iff_eq.2 c
    obtain ⟨p0, q0⟩ := hok c
    obtain ⟨ad, ead, hx⟩ := Kd.at_int hr e.f0 p0 q0
    cases ead
    have hx2 := (World.cell?_alloc_lt W (.cells #[.int .i64 e.f0, .int .i64 e.f1] 96) _ (World.block_lt_of_cell? W _ hx)).trans hx
    clear hx
    by_cases c2 : rd is e.f0 = 2
    · have c3 : (rd is e.f0 != 2) = false := bne_eq_false_iff_eq.2 c2
      have c4 : decide (e.f1 = task ∧ rd is e.f0 ≠ 2) = false := decide_eq_false (fun h => h.2 c2)
      rw [c4]
      clear hok hr c2 c4 c
      replace p0 := eq_true p0
      replace q0 := eq_true q0
      go_enter Try.func173, Try.ntmps173
      go_wp2
      go_quiet (fail)
      go_wp2
      go_ret
      exact ⟨rfl, by repeat (first | exact HB.out | apply below_alloc | apply pw_below_drewN | apply below_drew1)⟩
    · have c3 : (rd is e.f0 != 2) = true := bne_iff_ne.2 c2
      have c4 : decide (e.f1 = task ∧ rd is e.f0 ≠ 2) = true := decide_eq_true ⟨c, c2⟩
      rw [c4]
      clear hok hr c2 c4 c
      replace p0 := eq_true p0
      replace q0 := eq_true q0
      go_enter Try.func173, Try.ntmps173
      go_wp2
      go_quiet (fail)
      go_wp2
      go_ret
      exact ⟨rfl, by repeat (first | exact HB.out | apply below_alloc | apply pw_below_drewN | apply below_drew1)⟩
  · have c1 : (e.f1 == task) = false := beq_eq_false_iff_ne.2 c
    have c2 : decide (e.f1 = task ∧ rd is e.f0 ≠ 2) = false := decide_eq_false (fun h => c h.1)
    rw [c2]
    clear hok hr c c2
    go_enter Try.func173, Try.ntmps173
    go_wp2
    go_quiet (fail)
    go_wp2
    go_ret
    exact ⟨rfl, by repeat (first | exact HB.out | apply below_alloc | apply pw_below_drewN | apply below_drew1)⟩
theorem rW (i : Nat) (h : i ≤ 9223372036854775806) : wrap64 ((i : Int) + 1) = ((i + 1 : Nat) : Int) := by
  unfold wrap64
  omega
def rdyP (is : List Int) (task : Int) (e : S96) : Bool := decide (e.f1 = task ∧ rd is e.f0 ≠ 2)
def rdyOk (is : List Int) (task : Int) (e : S96) : Bool := decide (e.f1 = task → 0 ≤ e.f0 ∧ e.f0 < (is.length : Int))
def rdyAt (l : List S96) (is : List Int) (task : Int) (i : Nat) : Bool := match l[i]? with
  | some e => rdyP is task e
  | none => false
theorem entR {P : Program} {f : FuncId} {fn : Func} {c : Code} (hf : P.funcs[f]? = some fn) (hname : (fn.name == "runtime.NumGoroutine") = false) (hb : fn.body = some c) (args : Array Value) (w : World) : (callFunc f args).run P w = .ok (.enter f args) w := by
  have h1 : fn.name ≠ "runtime.NumGoroutine" := by simpa using hname
  simp [callFunc, hf, h1, hb, mark]
theorem e171 : ∀ args w, (callFunc 173 args).run Try.prog w = .ok (.enter 173 args) w := entR Try.func173 (by kernel_rfl) rfl
set_option maxHeartbeats 4000000 in
theorem index186.calls (task : Int) (l : List S96) (is : List Int) (w : World) (Bt Bp g : Nat) (A1 : Option Addr) (c1 : Nat) (A2 : Option Addr) (c2 : Nat) (ht : w.cell? ⟨Bt, 0, none⟩ = some (.int .i64 task)) (hp : w.cell? ⟨Bp, 0, none⟩ = some (.pointer (some ⟨g, 0, none⟩))) (hs : w.cell? ⟨g, 2, none⟩ = some (.slice A2 is.length c2)) (hr : Kd.C (Kd.int .i64) w A2 is.length is) (hl : Kd.C k96 w A1 l.length l) (hc1 : l.length ≤ c1) (hok : l.all (rdyOk is task) = true) :
    Calls Try.prog 201 #[.slice A1 l.length c1, .func (.func 173) #[] #[.pointer (some ⟨Bt, 0, none⟩), .pointer (some ⟨Bp, 0, none⟩)]] w fun x w' => ∃ r : Int, x = .returned (.int .i64 r) ∧ decide (0 ≤ r) = l.any (rdyP is task) ∧ Below w.heap.size w w' := by
  have HT := Aside0.mk ht
  have HP := Aside0.mk hp
  have HS := Aside0.mk hs
  have HR := Aside0.mk hr
  have HL := Aside0.mk hl
  have HOK := Aside0.mk hok
  have HB := Aside0.mk (Below.refl w.heap.size w)
  have hbig : l.length ≤ 9223372036854775807 := hl.2.1
  have HBIG := Aside0.mk hbig
  clear ht hp hs hr hl hok hbig
  go_enter Try.func201, Try.ntmps201
  go_wp2
  go_loopg [5, 8] l.length (fun kq _ v8 w' => ∃ i : Nat, v8 = .int .i64 (i : Int) ∧ Aside0 (i + kq = l.length) ∧ Aside0 (∀ e ∈ l.take i, rdyP is task e = false) ∧ Aside0 (Below w.heap.size w w'))
  case atStart => exact ⟨0, rfl, ⟨by omega⟩, ⟨fun e he => by simp at he⟩, HB⟩
  case round =>
    clear HB
    obtain ⟨i, rfl, HI, HN, HB⟩ := hrel
    by_cases c : i < l.length
    · have cb : decide ((i : Int) < (l.length : Int)) = true := by simpa using c
      obtain ⟨ad, ead, hx0, hx1⟩ := at_T96 HL.out (i : Int) (by omega) (by omega)
      cases ead
      rw [Int.toNat_natCast] at hx0 hx1
      replace hx0 := (HB.out.cell (World.block_lt_of_cell? w _ hx0)).trans hx0
      replace hx1 := (HB.out.cell (World.block_lt_of_cell? w _ hx1)).trans hx1
      have hrd : rd_T96 l (i : Int) = l[i] := by
        unfold rd_T96
        rw [Int.toNat_natCast, List.getD_eq_getElem?_getD, List.getElem?_eq_getElem c]
        rfl
      rw [hrd] at hx0 hx1
      have hcall := ready1.calls task l[i] is wr Bt Bp g A2 c2 ((HB.out.cell (World.block_lt_of_cell? w _ HT.out)).trans HT.out) ((HB.out.cell (World.block_lt_of_cell? w _ HP.out)).trans HP.out) ((HB.out.cell (World.block_lt_of_cell? w _ HS.out)).trans HS.out) (Kd.C_below HR.out HB.out) (of_decide_eq_true (List.all_eq_true.1 HOK.out _ (List.getElem_mem c)))
      have hq0 : decide (l[i].f1 = task ∧ rd is l[i].f0 ≠ 2) = rdyP is task l[i] := rfl
      rw [hq0] at hcall
      have hnext : l.take (i + 1) = l.take i ++ [l[i]] := List.take_succ_eq_append_getElem c
      have hmem : l[i] ∈ l := List.getElem_mem c
      have HMEM := Aside0.mk hmem
      have HNEXT := Aside0.mk hnext
      clear hnext hmem hq0 hrd
      generalize l[i] = e at hx0 hx1 hcall HMEM HNEXT
      have e171h := e171
      cases hq : rdyP is task e with
      | true =>
        rw [hq] at hcall
        have HQ := Aside0.mk hq
        clear hq
        go_wp2_with (go_at_fn 173; refine hcall.mono ?_; rintro x w' ⟨rfl, hb'⟩)
        go_ret
        refine ⟨(i : Int), rfl, ?_, below_step HB.out hb'⟩
        rw [decide_eq_true (by omega)]
        exact (List.any_eq_true.2 ⟨e, HMEM.out, HQ.out⟩).symm
      | false =>
        rw [hq] at hcall
        have HQ := Aside0.mk hq
        clear hq
        go_wp2_with (go_at_fn 173; refine hcall.mono ?_; rintro x w' ⟨rfl, hb'⟩)
        go_roundg (l.length - (i + 1))
        case measure => have := HI.out; omega
        case rel =>
          refine ⟨i + 1, (by first | rfl | rw [rW i (by have := HBIG.out; omega)]), ⟨by have := HI.out; omega⟩, ⟨fun x hx => ?_⟩, ⟨below_step HB.out hb'⟩⟩
          rw [HNEXT.out] at hx
          rcases List.mem_append.1 hx with hx | hx
          · exact HN.out x hx
          · rw [List.mem_singleton.1 hx]; exact HQ.out
    · have cb : decide ((i : Int) < (l.length : Int)) = false := by simpa using c
      have ei : i = l.length := by have := HI.out; omega
      subst ei
      go_wp2
      go_ret
      refine ⟨-1, rfl, ?_, HB.out⟩
      rw [decide_eq_false (by omega)]
      symm
      rw [List.any_eq_false]
      intro x hx
      have := HN.out x (by rw [List.take_length]; exact hx)
      rw [this]
      simp
set_option maxHeartbeats 4000000 in
theorem contains170.calls (task : Int) (l : List S96) (is : List Int) (w : World) (Bt Bp g : Nat) (A1 : Option Addr) (c1 : Nat) (A2 : Option Addr) (c2 : Nat) (ht : w.cell? ⟨Bt, 0, none⟩ = some (.int .i64 task)) (hp : w.cell? ⟨Bp, 0, none⟩ = some (.pointer (some ⟨g, 0, none⟩))) (hs : w.cell? ⟨g, 2, none⟩ = some (.slice A2 is.length c2)) (hr : Kd.C (Kd.int .i64) w A2 is.length is) (hl : Kd.C k96 w A1 l.length l) (hc1 : l.length ≤ c1) (hok : l.all (rdyOk is task) = true) :
    Calls Try.prog 172 #[.slice A1 l.length c1, .func (.func 173) #[] #[.pointer (some ⟨Bt, 0, none⟩), .pointer (some ⟨Bp, 0, none⟩)]] w fun x w' => x = .returned (.bool (l.any (rdyP is task))) ∧ Below w.heap.size w w' := by
  have hcall := index186.calls task l is w Bt Bp g A1 c1 A2 c2 ht hp hs hr hl hc1 hok
  clear ht hp hs hr hl hc1 hok
  go_enter Try.func172, Try.ntmps172
  go_wp2_with (go_at_call 201; refine hcall.mono ?_; rintro x w' ⟨r, rfl, hr, hb'⟩)
  go_ret
  exact ⟨by rw [← hr]; rfl, hb'⟩
set_option maxHeartbeats 8000000 in
theorem ready129.calls (task : Int) (l : List S96) (wk : Int) (is : List Int) (w : World) (g : Nat) (A1 : Option Addr) (c1 : Nat) (A2 : Option Addr) (c2 : Nat) (hg0 : w.cell? ⟨g, 0, none⟩ = some (.slice A1 l.length c1)) (hg2 : w.cell? ⟨g, 2, none⟩ = some (.slice A2 is.length c2)) (hr : Kd.C (Kd.int .i64) w A2 is.length is) (hl : Kd.C k96 w A1 l.length l) (hc1 : l.length ≤ c1) (p0 : 0 ≤ task) (q0 : task < (is.length : Int)) (hok : rd is task = 0 → l.all (rdyOk is task) = true) :
    Calls Try.prog 132 #[.pointer (some ⟨g, 0, none⟩), .int .i64 task] w fun x w' => x = .returned (.bool (decide (rd is task = 0) && !(l.any (rdyP is task)))) ∧ Below w.heap.size w w' := by
  have HB := Aside0.mk (Below.refl w.heap.size w)
  have hmf : ∀ (fn : Fn) (first cap : Array Value) (w : World), (Instr.makeFunc fn first cap).run Try.prog w = .ok (.func fn first cap) w := fun _ _ _ _ => rfl
  have hlt := World.block_lt_of_cell? w _ hg0
  obtain ⟨w2, hw2⟩ : ∃ w2, w2 = (w.alloc (.cells #[.pointer (some ⟨g, 0, none⟩)] 117)).alloc (.cells #[.int .i64 task] 3) := ⟨_, rfl⟩
  have hb2 : Below w.heap.size w w2 := by rw [hw2]; exact below_alloc (below_alloc (Below.refl _ _) _) _
  have k0 := pw_cell_below hb2 hg0
  have k2 := pw_cell_below hb2 hg2
  have hB1 : w2.cell? ⟨w.heap.size, 0, none⟩ = some (.pointer (some ⟨g, 0, none⟩)) := by rw [hw2]; simp
  have hB2 : w2.cell? ⟨w.heap.size + 1, 0, none⟩ = some (.int .i64 task) := by rw [hw2]; simp
  obtain ⟨ad, ead, hx⟩ := Kd.at_int hr task p0 q0
  cases ead
  replace hx := pw_cell_below hb2 hx
  by_cases c : rd is task = 0
  · have hb3 : ∀ nq, Below w.heap.size w (w2.drewN nq) := fun nq => by
      repeat (first | exact hb2 | apply pw_below_drewN)
    have hcall := fun nq => contains170.calls task l is (w2.drewN nq) (w.heap.size + 1) w.heap.size g _ c1 _ c2 hB2 hB1 k2 (Kd.C_below hr (hb3 nq)) (Kd.C_below hl (hb3 nq)) hc1 (hok c)
    have cb : (rd is task != 0) = false := bne_eq_false_iff_eq.2 c
    rw [decide_eq_true c, Bool.true_and]
    clear hr hl hg0 hg2 hok c
    replace p0 := eq_true p0
    replace q0 := eq_true q0
    go_enter Try.func132, Try.ntmps132
    go_wp2
    rw [← hw2]
    clear hw2
    go_quiet (fail)
    go_wp2_with (go_at_call 172; refine (hcall _).mono ?_; rintro x w' ⟨rfl, hb'⟩)
    go_ret
    exact ⟨rfl, below_step (hb3 _) hb'⟩
  · have cb : (rd is task != 0) = true := bne_iff_ne.2 c
    rw [decide_eq_false c, Bool.false_and]
    clear hr hl hg0 hg2 hok c
    replace p0 := eq_true p0
    replace q0 := eq_true q0
    go_enter Try.func132, Try.ntmps132
    go_wp2
    rw [← hw2]
    clear hw2
    go_quiet (fail)
    go_wp2
    go_ret
    exact ⟨rfl, by repeat (first | exact hb2 | apply pw_below_drewN)⟩
def isA (l : List Int) : Array Value := (l.map (Value.int .i64)).toArray
theorem isA_get (l : List Int) (i : Nat) (h : i < l.length) : (isA l)[i]? = some (.int .i64 l[i]) := by
  unfold isA
  rw [List.getElem?_toArray, List.getElem?_map, List.getElem?_eq_getElem h]
  rfl
/-- A pool in memory: its own block, and the block of its tasks. -/
structure PoolAt (w : World) (g gi : Nat) (A1 : Option Addr) (c1 : Nat) (l : List S96) (wk : Int) (is : List Int) : Prop where
  own : w.heap[g]? = some (.cells #[.slice A1 l.length c1, .int .i64 wk, .slice (some ⟨gi, 0, none⟩) is.length is.length] 119 (0, 0))
  tasks : w.heap[gi]? = some (.cells (isA is) 3 (0, 0))
  edges : Kd.C k96 w A1 l.length l
  cap : l.length ≤ c1
  few : is.length ≤ 16
  fit : ∀ e ∈ l, 0 ≤ e.f0 ∧ e.f0 < (is.length : Int)
theorem PoolAt.below {w w1 : World} {g gi : Nat} {A1 : Option Addr} {c1 : Nat} {l : List S96} {wk : Int} {is : List Int} (h : PoolAt w g gi A1 c1 l wk is) (hb : Below w.heap.size w w1) : PoolAt w1 g gi A1 c1 l wk is :=
  ⟨blk_below h.own hb, blk_below h.tasks hb, Kd.C_below h.edges hb, h.cap, h.few, h.fit⟩
theorem PoolAt.row {w : World} {g gi : Nat} {A1 : Option Addr} {c1 : Nat} {l : List S96} {wk : Int} {is : List Int} (h : PoolAt w g gi A1 c1 l wk is) : Kd.C (Kd.int .i64) w (some ⟨gi, 0, none⟩) is.length is := by
  refine ⟨rfl, by have := h.few; omega, fun hp => ⟨⟨gi, 0, none⟩, rfl, fun j p hj => ?_⟩⟩
  refine ⟨[.int .i64 p], rfl, rfl, fun q u hq => ?_⟩
  obtain ⟨hjl, he⟩ := List.getElem?_eq_some_iff.1 hj
  have hq0 : q = 0 := by
    have := (List.getElem?_eq_some_iff.1 hq).1
    simpa using this
  subst hq0
  simp at hq
  subst hq
  have hsz : (Kd.int .i64).sz = 1 := rfl
  rw [hsz, Nat.mul_one, Nat.add_zero]
  have e1 : (Addr.add ⟨gi, 0, none⟩ j) = ⟨gi, j, none⟩ := by
    by_cases hj0 : j = 0 <;> simp [Addr.add, hj0]
  rw [e1, blk_cell h.tasks, isA_get is j hjl, he]
theorem PoolAt.cell {w : World} {g gi : Nat} {A1 : Option Addr} {c1 : Nat} {l : List S96} {wk : Int} {is : List Int} (h : PoolAt w g gi A1 c1 l wk is) (i : Nat) (hi : i < is.length) : w.cell? ⟨gi, i, none⟩ = some (.int .i64 (rd is (i : Int))) := by
  rw [blk_cell h.tasks, isA_get is i hi]
  unfold rd
  rw [Int.toNat_natCast, List.getD_eq_getElem?_getD, List.getElem?_eq_getElem hi]
  rfl
def endsTo (is : List Int) (m : Nat) : List S94 := (List.range m).filterMap fun k : Nat => if rd is (k : Int) = 1 then some (⟨1, (k : Int)⟩ : S94) else none
theorem endsTo_succ (is : List Int) (m : Nat) : endsTo is (m + 1) = if rd is (m : Int) = 1 then endsTo is m ++ [⟨1, (m : Int)⟩] else endsTo is m := by
  unfold endsTo
  rw [List.range_succ, List.filterMap_append]
  by_cases h : rd is (m : Int) = 1
  · simp [h]
  · simp [h]
theorem endsTo_len (is : List Int) (m : Nat) : (endsTo is m).length ≤ m := by
  unfold endsTo
  have := List.length_filterMap_le (fun k : Nat => if rd is (k : Int) = 1 then some (⟨1, (k : Int)⟩ : S94) else none) (List.range m)
  simpa using this
def rdyB (l : List S96) (is : List Int) (k : Int) : Bool := decide (rd is k = 0) && !(l.any (rdyP is k))
def begsTo (l : List S96) (is : List Int) (m : Nat) : List S94 := (List.range m).filterMap fun k : Nat => if rdyB l is (k : Int) = true then some (⟨2, (k : Int)⟩ : S94) else none
theorem begsTo_succ (l : List S96) (is : List Int) (m : Nat) : begsTo l is (m + 1) = if rdyB l is (m : Int) = true then begsTo l is m ++ [⟨2, (m : Int)⟩] else begsTo l is m := by
  unfold begsTo
  rw [List.range_succ, List.filterMap_append]
  by_cases h : rdyB l is (m : Int) = true
  · simp [h]
  · simp [h]
theorem begsTo_len (l : List S96) (is : List Int) (m : Nat) : (begsTo l is m).length ≤ m := by
  unfold begsTo
  have := List.length_filterMap_le (fun k : Nat => if rdyB l is (k : Int) = true then some (⟨2, (k : Int)⟩ : S94) else none) (List.range m)
  simpa using this
def movesL (l : List S96) (wk : Int) (is : List Int) : List S94 := if wk ≤ ((endsTo is is.length).length : Int) then endsTo is is.length else endsTo is is.length ++ begsTo l is is.length
theorem pW (i : Nat) (h : i ≤ 9223372036854775806) : wrap64 ((i : Int) + 1) = ((i + 1 : Nat) : Int) := by
  unfold wrap64
  omega
set_option maxHeartbeats 4000000 in
set_option maxRecDepth 100000 in
theorem running128.calls (l : List S96) (wk : Int) (is : List Int) (w : World) (g gi : Nat) (A1 : Option Addr) (c1 : Nat) (hP : PoolAt w g gi A1 c1 l wk is) :
    Calls Try.prog 131 #[.pointer (some ⟨g, 0, none⟩)] w fun e w' => e = .returned (.int .i64 ((endsTo is is.length).length : Int)) ∧ w = w' := by
  have k2 := (blk_cell hP.own 2).trans rfl
  have HP := Aside0.mk hP
  have HF := Aside0.mk hP.few
  clear hP
  go_enter Try.func131, Try.ntmps131
  go_wp2
  go_loopg [3, 11] is.length (fun kq v3 v11 w' => ∃ i : Nat, v11 = .int .i64 (i : Int) ∧ v3 = .int .i64 ((endsTo is i).length : Int) ∧ Aside0 (i + kq = is.length) ∧ Aside0 (w = w'))
  case atStart => exact ⟨0, rfl, by rw [show (endsTo is 0).length = 0 from rfl]; rfl, ⟨by omega⟩, ⟨rfl⟩⟩
  case round =>
    obtain ⟨i, rfl, rfl, HI, HW⟩ := hrel
    obtain rfl := HW.out
    have HN := Aside0.mk (endsTo_succ is i)
    have HLN := Aside0.mk (endsTo_len is i)
    by_cases c : i < is.length
    · have cb : decide ((i : Int) < (is.length : Int)) = true := by simpa using c
      have hx := HP.out.cell i c
      have HIB := Aside0.mk (show i ≤ 16 by have := HF.out; omega)
      by_cases c2 : rd is (i : Int) = 1
      · have cb2 : (rd is (i : Int) == 1) = true := beq_iff_eq.2 c2
        rw [if_pos c2] at HN
        clear c2
        go_wp2
        go_roundg (is.length - (i + 1))
        case measure => have := HI.out; omega
        case rel => exact ⟨i + 1, (by first | rfl | rw [pW i (by have := HIB.out; omega)]), (by rw [HN.out, List.length_append]; first | rfl | rw [pW _ (by have := HIB.out; have := HLN.out; omega)]; rfl), ⟨by have := HI.out; omega⟩, ⟨rfl⟩⟩
      · have cb2 : (rd is (i : Int) == 1) = false := beq_eq_false_iff_ne.2 c2
        rw [if_neg c2] at HN
        clear c2
        go_wp2
        go_roundg (is.length - (i + 1))
        case measure => have := HI.out; omega
        case rel => exact ⟨i + 1, (by first | rfl | rw [pW i (by have := HIB.out; omega)]), (by rw [HN.out]), ⟨by have := HI.out; omega⟩, ⟨rfl⟩⟩
    · have cb : decide ((i : Int) < (is.length : Int)) = false := by simpa using c
      have ei : i = is.length := by have := HI.out; omega
      subst ei
      go_wp2
      go_ret
      exact ⟨rfl, rfl⟩
theorem readyP.calls (l : List S96) (wk : Int) (is : List Int) (k : Nat) (w : World) (g gi : Nat) (A1 : Option Addr) (c1 : Nat) (hP : PoolAt w g gi A1 c1 l wk is) (hk : k < is.length) :
    Calls Try.prog 132 #[.pointer (some ⟨g, 0, none⟩), .int .i64 (k : Int)] w fun x w' => x = .returned (.bool (rdyB l is (k : Int))) ∧ Below w.heap.size w w' :=
  ready129.calls (k : Int) l wk is w g A1 c1 (some ⟨gi, 0, none⟩) is.length ((blk_cell hP.own 0).trans rfl) ((blk_cell hP.own 2).trans rfl) hP.row hP.edges hP.cap (by omega) (by omega)
    (fun _ => List.all_eq_true.2 fun e he => decide_eq_true fun _ => hP.fit e he)
set_option maxHeartbeats 4000000 in
set_option maxRecDepth 100000 in
theorem moves79.calls (l : List S96) (wk : Int) (is : List Int) (w : World) (g gi : Nat) (A1 : Option Addr) (c1 : Nat) (hP : PoolAt w g gi A1 c1 l wk is) :
    Calls Try.prog 79 #[.pointer (some ⟨g, 0, none⟩)] w fun e w' => ∃ v0_ : Value, e = .returned (v0_) ∧ Kd.R k94 94 w' w.heap.size (fun _ => True) v0_ (movesL l wk is) ∧ Below w.heap.size w w' := by
  have HP := Aside0.mk hP
  have HB := Aside0.mk (Below.refl w.heap.size w)
  have k2 := (blk_cell hP.own 2).trans rfl
  have HF := Aside0.mk hP.few
  clear hP
  go_enter Try.func79, Try.ntmps79
  go_wp2_with (first | ((with_reducible refine gate_dst (N := 7) rfl ?_); refine Kd.R_lit k94 _ 94 ?hg (N := 7) ?hd (xs := ([] : List S94)) (inner := []) (ok := fun _ => True) (okp := fun _ => True) ?hr ?hp (fun _ hk => hk) trivial (Below.refl _ _) (Nat.le_refl _) (by simp) ?_; (case hd => rfl); (case hg => rfl); (case hr => first | (go_simp; done) | (go_simp; rfl)); (case hp => exact (Reps.none _ _)); intro v1 w3 ho hb hg_ hnew_; clear hg_ hnew_; have HO := Aside0.mk ho; have HBq := Aside0.mk hb; replace k2 := pw_cell_below hb k2; clear HB; have HB := HBq; clear HBq ho hb))
  go_loopg [3, 13] is.length (fun kq v3 v13 w' => ∃ i : Nat, v13 = .int .i64 (i : Int) ∧ Aside0 (i + kq = is.length) ∧ Aside0 (Kd.R k94 94 w' w.heap.size (fun _ => True) v3 (endsTo is i)) ∧ Aside0 (Below w.heap.size w w'))
  case atStart => exact ⟨0, rfl, ⟨by omega⟩, HO, HB⟩
  case round =>
    clear HO HB k2
    obtain ⟨i, rfl, HI, HO, HB⟩ := hrel
    have HN := Aside0.mk (endsTo_succ is i)
    have HLN := Aside0.mk (endsTo_len is i)
    have HPr := Aside0.mk (HP.out.below HB.out)
    by_cases c : i < is.length
    · have cb : decide ((i : Int) < (is.length : Int)) = true := by simpa using c
      have HIB := Aside0.mk (show i ≤ 16 by have := HF.out; omega)
      have hx := HPr.out.cell i c
      generalize endsTo is i = o at HO HN HLN
      by_cases c2 : rd is (i : Int) = 1
      · have cb2 : (rd is (i : Int) == 1) = true := beq_iff_eq.2 c2
        rw [if_pos c2] at HN
        clear c2
        go_wp2_with (first | (at_builtin; refine Kd.R_append k94 (w0 := w) w.heap.size rfl (.tmp 20) (.tmp 23) 32 94 (.agg #[(.int .i64 0), (.int .i64 0)]) 16 rfl Try.underlying32 info94 rfl (by decide) (by omega) _ o ⟨1, (i : Int)⟩ [.int .i64 1, .int .i64 (i : Int)] (fun _ => True) (fun _ => False) rfl ?aX ?aP (fun _ hk => hk.elim) ?aF ?aO ?aB ?aS ?aL ?_; (case aX => rfl); (case aP => exact k94_mkM _ _ _ _); (case aF => exact fun _ _ => trivial); (case aO => exact HO.out); (case aB => exact HB.out); (case aS => exact below_size HB.out); (case aL => have := HLN.out; have := HIB.out; omega); intro v1 w1 ho hb hg hat; have HO2 := Aside0.mk ho; have HB2 := Aside0.mk hb; clear ho hb hg hat))
        go_roundg (is.length - (i + 1))
        case measure => have := HI.out; omega
        case rel => exact ⟨i + 1, (by first | rfl | rw [pW i (by have := HIB.out; omega)]), ⟨by have := HI.out; omega⟩, ⟨by rw [HN.out]; exact HO2.out⟩, HB2⟩
      · have cb2 : (rd is (i : Int) == 1) = false := beq_eq_false_iff_ne.2 c2
        rw [if_neg c2] at HN
        clear c2
        go_wp2
        go_roundg (is.length - (i + 1))
        case measure => have := HI.out; omega
        case rel => exact ⟨i + 1, (by first | rfl | rw [pW i (by have := HIB.out; omega)]), ⟨by have := HI.out; omega⟩, ⟨by rw [HN.out]; exact HO.out⟩, HB⟩
    · have cb : decide ((i : Int) < (is.length : Int)) = false := by simpa using c
      have ei : i = is.length := by have := HI.out; omega
      subst ei
      clear HN HLN
      have k1 := (blk_cell HPr.out.own 1).trans rfl
      have hrun := fun n => running128.calls l wk is (wr.drewN n) g gi A1 c1 (HPr.out.below (pw_below_drewN (Below.refl _ _) n))
      have hle := endsTo_len is is.length
      have HLE := Aside0.mk hle
      clear hle
      by_cases c2 : wk ≤ ((endsTo is is.length).length : Int)
      · have cb2 : decide (wk ≤ ((endsTo is is.length).length : Int)) = true := decide_eq_true c2
        have HM := Aside0.mk (show movesL l wk is = endsTo is is.length by unfold movesL; rw [if_pos c2])
        clear c2
        go_wp2
        go_quiet ((go_at_call 131; exact Calls.quiet_of_same ((hrun _).mono fun _ _ h_ => ⟨h_.1, h_.2.symm⟩)))
        go_wp2
        go_ret
        exact ⟨_, rfl, by rw [HM.out]; exact Kd.R_drewN HO.out _, pw_below_drewN HB.out _⟩
      · have cb2 : decide (wk ≤ ((endsTo is is.length).length : Int)) = false := decide_eq_false c2
        have HM := Aside0.mk (show movesL l wk is = endsTo is is.length ++ begsTo l is is.length by unfold movesL; rw [if_neg c2])
        clear c2
        have k2 := (blk_cell HPr.out.own 2).trans rfl
        go_wp2
        go_quiet ((go_at_call 131; exact Calls.quiet_of_same ((hrun _).mono fun _ _ h_ => ⟨h_.1, h_.2.symm⟩)))
        go_wp2
        obtain ⟨w9, hw9⟩ : ∃ w9, w9 = wr.drewN nq := ⟨_, rfl⟩
        have HB9 := Aside0.mk (show Below w.heap.size w w9 by rw [hw9]; exact pw_below_drewN HB.out _)
        have HO9 := Aside0.mk (show Kd.R k94 94 w9 w.heap.size (fun _ => True) u3 (endsTo is is.length) by rw [hw9]; exact Kd.R_drewN HO.out _)
        rw [← hw9]
        clear hw9 HB HO HPr hrun k1 k2 cb2
        go_loopg [3, 39] is.length (fun kq v3 v39 w' => ∃ i : Nat, v39 = .int .i64 (i : Int) ∧ Aside0 (i + kq = is.length) ∧ Aside0 (Kd.R k94 94 w' w.heap.size (fun _ => True) v3 (endsTo is is.length ++ begsTo l is i)) ∧ Aside0 (Below w.heap.size w w'))
        case atStart => exact ⟨0, rfl, ⟨by omega⟩, ⟨by rw [show begsTo l is 0 = [] from rfl, List.append_nil]; exact HO9.out⟩, HB9⟩
        case round =>
          clear HB9 HO9
          obtain ⟨i, rfl, HI, HO, HB⟩ := hrel
          have HN := Aside0.mk (begsTo_succ l is i)
          have HLN := Aside0.mk (begsTo_len l is i)
          have HPr := Aside0.mk (HP.out.below HB.out)
          by_cases c : i < is.length
          · have cb : decide ((i : Int) < (is.length : Int)) = true := by simpa using c
            have HIB := Aside0.mk (show i ≤ 16 by have := HF.out; omega)
            have hcall := readyP.calls l wk is i wr g gi A1 c1 HPr.out c
            have HOL := Aside0.mk (show (endsTo is is.length ++ begsTo l is i).length ≤ 32 by rw [List.length_append]; have := HLE.out; have := HLN.out; have := HF.out; omega)
            have HNQ := Aside0.mk (show endsTo is is.length ++ begsTo l is (i + 1) = if rdyB l is (i : Int) = true then (endsTo is is.length ++ begsTo l is i) ++ [⟨2, (i : Int)⟩] else endsTo is is.length ++ begsTo l is i by
              rw [HN.out]
              split
              · rw [List.append_assoc]
              · rfl)
            clear HN
            generalize endsTo is is.length ++ begsTo l is i = o at HO HOL HNQ
            cases hq : rdyB l is (i : Int) with
            | true =>
              rw [hq] at hcall
              have HN2 := Aside0.mk (HNQ.out.trans (if_pos hq))
              clear hq HNQ
              go_wp2_with (first | (go_at_call 132; refine hcall.mono ?_; rintro x w5 ⟨rfl, hb'⟩; have HO5 := Aside0.mk (Kd.R_below HO.out hb'); have HB5 := Aside0.mk (below_step HB.out hb'); clear HO HB hb' hcall HPr) | (at_builtin; refine Kd.R_append k94 (w0 := w) w.heap.size rfl (.tmp 45) (.tmp 48) 32 94 (.agg #[(.int .i64 0), (.int .i64 0)]) 16 rfl Try.underlying32 info94 rfl (by decide) (by omega) _ o ⟨2, (i : Int)⟩ [.int .i64 2, .int .i64 (i : Int)] (fun _ => True) (fun _ => False) rfl ?aX ?aP (fun _ hk => hk.elim) ?aF ?aO ?aB ?aS ?aL ?_; (case aX => rfl); (case aP => exact k94_mkM _ _ _ _); (case aF => exact fun _ _ => trivial); (case aO => exact HO5.out); (case aB => exact HB5.out); (case aS => exact below_size HB5.out); (case aL => have := HOL.out; omega); intro v1 w1 ho hb hg hat; have HO2 := Aside0.mk ho; have HB2 := Aside0.mk hb; clear ho hb hg hat))
              go_roundg (is.length - (i + 1))
              case measure => have := HI.out; omega
              case rel => exact ⟨i + 1, (by first | rfl | rw [pW i (by have := HIB.out; omega)]), ⟨by have := HI.out; omega⟩, ⟨by rw [HN2.out]; exact HO2.out⟩, HB2⟩
            | false =>
              rw [hq] at hcall
              have HN2 := Aside0.mk (HNQ.out.trans (if_neg (by rw [hq]; simp)))
              clear hq HNQ
              go_wp2_with (first | (go_at_call 132; refine hcall.mono ?_; rintro x w5 ⟨rfl, hb'⟩; have HO5 := Aside0.mk (Kd.R_below HO.out hb'); have HB5 := Aside0.mk (below_step HB.out hb'); clear HO HB hb' hcall HPr))
              go_roundg (is.length - (i + 1))
              case measure => have := HI.out; omega
              case rel => exact ⟨i + 1, (by first | rfl | rw [pW i (by have := HIB.out; omega)]), ⟨by have := HI.out; omega⟩, ⟨by rw [HN2.out]; exact HO5.out⟩, HB5⟩
          · have cb : decide ((i : Int) < (is.length : Int)) = false := by simpa using c
            have ei : i = is.length := by have := HI.out; omega
            subst ei
            go_wp2
            go_ret
            exact ⟨_, rfl, by rw [HM.out]; exact HO.out, HB.out⟩
theorem isA_set (l : List Int) (t : Nat) (x : Int) : (isA l).setIfInBounds t (.int .i64 x) = isA (l.set t x) := by
  unfold isA
  rw [List.map_set]
  apply Array.toList_inj.1
  simp
set_option maxHeartbeats 4000000 in
set_option maxRecDepth 100000 in
theorem doP.calls (kind : Int) (t : Nat) (l : List S96) (wk : Int) (is : List Int) (w0 w : World) (g gi : Nat) (A1 : Option Addr) (c1 : Nat) (hP : PoolAt w g gi A1 c1 l wk is) (hB : Below w0.heap.size w0 w) (hl : Kd.C k96 w0 A1 l.length l) (hgi : w0.heap.size ≤ gi) (hne : g ≠ gi) (ht : t < is.length) (hv : 0 ≤ rd is (t : Int) ∧ rd is (t : Int) ≤ 1000) :
    Calls Try.prog 164 #[.pointer (some ⟨g, 0, none⟩), .agg #[.int .i64 kind, .int .i64 (t : Int)]] w fun e w' => e = .returned (.tuple #[]) ∧ PoolAt w' g gi A1 c1 l wk (is.set t (rd is (t : Int) + 1)) ∧ Below w0.heap.size w0 w' ∧ KeepBut w w' gi none := by
  obtain ⟨w2, hw2⟩ : ∃ w2, w2 = w.alloc (.cells #[.int .i64 kind, .int .i64 (t : Int)] 94) := ⟨_, rfl⟩
  have hb2 : Below w.heap.size w w2 := by rw [hw2]; exact below_alloc (Below.refl _ _) _
  have hP2 := hP.below hb2
  have k2 : w2.cell? ⟨g, 2, none⟩ = some (.slice (some ⟨gi, 0, none⟩) is.length is.length) := (blk_cell hP2.own 2).trans rfl
  have kt := hP2.cell t ht
  have hf := blk_frozen hP2.tasks t
  have km : w2.cell? ⟨w.heap.size, 1, none⟩ = some (.int .i64 (t : Int)) := by rw [hw2]; simp
  have hx0 : (0 : Int) ≤ (t : Int) := by omega
  have hx1 : (t : Int) < (is.length : Int) := by omega
  obtain ⟨hv0, hv1⟩ := hv
  have HP := Aside0.mk hP2
  have HB := Aside0.mk (below_step hB hb2)
  have HB2 := Aside0.mk hb2
  have HL := Aside0.mk hl
  have HG := Aside0.mk hgi
  have HNE := Aside0.mk hne
  have HT := Aside0.mk ht
  have HV := Aside0.mk hv0
  clear hP hB hl hgi hne ht hb2 hP2
  have hsum : IntKind.i64.wrap (rd is (t : Int) + 1) = rd is (t : Int) + 1 := IntWalk.i64_in _ (by omega)
  clear hv0 hv1
  go_enter Try.func164, Try.ntmps164
  go_wp2
  rw [← hw2]
  clear hw2
  go_still_tail 10, (by kernel_rfl)
  change wpList _ _ _ _ _ w2.drew
  obtain ⟨w3, hw3⟩ : ∃ w3, w3 = w2.drew := ⟨_, rfl⟩
  have hf3 : w3.frozen? ⟨gi, t, none⟩ = false := by rw [hw3]; exact hf
  have kt3 : w3.cell? ⟨gi, t, none⟩ = some (.int .i64 (rd is (t : Int))) := by rw [hw3]; exact kt
  rw [← hw3]
  clear hsum
  have HW3 := Aside0.mk hw3
  clear hw3
  go_wp2
  refine bodyPost_end (v := .tuple #[]) (results_none rfl _ _ _) rfl ?_
  have hd : Below w2.heap.size w2 w3 := by rw [HW3.out]; exact below_drew1 (Below.refl _ _)
  have hP3 := HP.out.below hd
  have hB3 := below_step HB.out hd
  have hlen : (is.set t (rd is (t : Int) + 1)).length = is.length := List.length_set
  refine ⟨rfl, ⟨?_, ?_, ?_, hP3.cap, by rw [hlen]; exact hP3.few, by rw [hlen]; exact hP3.fit⟩, below_set hB3 HG.out, ?_⟩
  · rw [hlen]
    exact blk_far hP3.own (p := ⟨gi, t, none⟩) HNE.out _
  · exact blk_put hP3.tasks t _ (isA_set is t _)
  · exact Kd.C_below HL.out (below_set hB3 HG.out)
  · exact (KeepBut.of_below (below_step HB2.out hd) gi none).set_ t _
def doL (is : List Int) (x : Int) : List Int := is.set x.toNat (rd is x + 1)
theorem doL_len (is : List Int) (x : Int) : (doL is x).length = is.length := List.length_set
theorem movesL_len (l : List S96) (wk : Int) (is : List Int) : (movesL l wk is).length ≤ 2 * is.length := by
  unfold movesL
  have h1 := endsTo_len is is.length
  have h2 := begsTo_len l is is.length
  split
  · omega
  · rw [List.length_append]; omega
theorem movesL_mem {l : List S96} {wk : Int} {is : List Int} {e : S94} (h : e ∈ movesL l wk is) : ∃ t : Nat, t < is.length ∧ e.f1 = (t : Int) ∧ ((e.f0 = 1 ∧ rd is (t : Int) = 1) ∨ (e.f0 = 2 ∧ rdyB l is (t : Int) = true ∧ rd is (t : Int) = 0)) := by
  have h1 : e ∈ endsTo is is.length ∨ e ∈ begsTo l is is.length := by
    unfold movesL at h
    split at h
    · exact .inl h
    · exact List.mem_append.1 h
  rcases h1 with h1 | h1
  · obtain ⟨t, ht, h2⟩ := List.mem_filterMap.1 h1
    by_cases c : rd is (t : Int) = 1
    · rw [if_pos c] at h2
      obtain rfl := Option.some.inj h2
      exact ⟨t, List.mem_range.1 ht, rfl, .inl ⟨rfl, c⟩⟩
    · rw [if_neg c] at h2
      cases h2
  · obtain ⟨t, ht, h2⟩ := List.mem_filterMap.1 h1
    by_cases c : rdyB l is (t : Int) = true
    · rw [if_pos c] at h2
      obtain rfl := Option.some.inj h2
      refine ⟨t, List.mem_range.1 ht, rfl, .inr ⟨rfl, c, ?_⟩⟩
      unfold rdyB at c
      rw [Bool.and_eq_true] at c
      exact of_decide_eq_true c.1
    · rw [if_neg c] at h2
      cases h2
def fitB (n : Int) (l : List S96) : Bool := decide (0 ≤ n) && decide (n ≤ 16) && l.all fun e => decide (0 ≤ e.f0) && decide (e.f0 < n)
theorem made0 (n : Nat) : madeCells (Value.int .i64 0).cells n = isA (List.replicate n 0) := by
  apply Array.toList_inj.1
  show (madeCells #[Value.int .i64 0] n).toList = _
  rw [toList_madeCells_one]
  simp [isA]
theorem mkInts (n : Nat) (hn : n ≤ 1000) (W : World) : (Instr.makeSlice 35 (.int .i64 (n : Int)) (.int .i64 (n : Int))).run Try.prog W = .ok (.slice (some ⟨W.heap.size, 0, none⟩) n n) (W.alloc (.cells (isA (List.replicate n 0)) 3)) := by
  obtain ⟨i0, hi, hzz⟩ := Option.map_eq_some_iff.1 info3
  simp only [Prod.mk.injEq] at hzz
  obtain ⟨hz0, hz1, hz2⟩ := hzz
  have h := run_make (P := Try.prog) W 35 3 i0 (.int .i64 0) Try.underlying35 hi hz0 .i64 .i64 (n : Int) (n : Int) (by omega) (by omega) (by rw [hz2]; omega) (by omega)
  rw [hz1, Int.toNat_natCast, Nat.mul_one, made0] at h
  exact h
theorem newPool {w1 w2 : World} {n : Nat} {l1 : List S96} {a2 : Int} {A1 : Option Addr} {c1 : Nat} (hw2 : w2 = (w1.alloc (.cells (isA (List.replicate n 0)) 3)).alloc (.cells #[.slice A1 l1.length c1, .int .i64 a2, .slice (some ⟨w1.heap.size, 0, none⟩) n n] 119)) (he : Kd.C k96 w2 A1 l1.length l1) (hc : l1.length ≤ c1) (hn : n ≤ 16) (hf : ∀ e ∈ l1, 0 ≤ e.f0 ∧ e.f0 < (n : Int)) : PoolAt w2 (w1.heap.size + 1) w1.heap.size A1 c1 l1 a2 (List.replicate n 0) := by
  refine ⟨?_, ?_, he, hc, by rw [List.length_replicate]; exact hn, by rw [List.length_replicate]; exact hf⟩
  · rw [hw2, List.length_replicate]
    have := blk_new (w1.alloc (.cells (isA (List.replicate n 0)) 3)) (.cells #[.slice A1 l1.length c1, .int .i64 a2, .slice (some ⟨w1.heap.size, 0, none⟩) n n] 119)
    rw [World.size_alloc] at this
    exact this
  · rw [hw2]
    exact blk_alloc (blk_new w1 _) _

/-! ### impl_modulo: function 163 -/
def impl_modulo.f (a0 : Int) (a1 : Int) : Option (Int) := if a1 = 0 then (none) else (if (Int.tmod a0 a1) < 0 then (some (wrap64 ((Int.tmod a0 a1) + a1))) else (some (Int.tmod a0 a1)))
set_option maxHeartbeats 8000000 in
set_option maxRecDepth 100000 in
theorem impl_modulo.calls (a0 : Int) (a1 : Int) (r : Int) (w : World) (h : impl_modulo.f a0 a1 = some r) :
    Calls Try.prog 163 #[.int .i64 a0, .int .i64 a1] w fun e w' => e = .returned (.int .i64 r) ∧ Drawn0 w w' := by
  have H : (if a1 = 0 then (none) else (if (Int.tmod a0 a1) < 0 then (some (wrap64 ((Int.tmod a0 a1) + a1))) else (some (Int.tmod a0 a1)))) = some r := h
  clear h
  by_cases c3 : a1 = 0
  · rw [if_pos c3] at H
    exact absurd H (by simp)
  · rw [if_neg c3] at H
    have c3b0 : (a1 == 0) = false := beq_eq_false_iff_ne.mpr c3
    have c3b1 : (a1 != 0) = true := bne_iff_ne.mpr c3
    by_cases c4 : (Int.tmod a0 a1) < 0
    · rw [if_pos c4] at H
      have c4b0 : decide ((Int.tmod a0 a1) < 0) = true := decide_eq_true c4
      clear c4
      obtain rfl := Option.some.inj H
      go_enter Try.func163, Try.ntmps163
      go_wp2
      go_ret
      exact ⟨by first | rfl | (simp; done) | (simp [*]; done), by repeat (first | exact Drawn0.refl _ | apply Drawn0.step)⟩
    · rw [if_neg c4] at H
      have c4b0 : decide ((Int.tmod a0 a1) < 0) = false := decide_eq_false c4
      clear c4
      obtain rfl := Option.some.inj H
      go_enter Try.func163, Try.ntmps163
      go_wp2
      go_ret
      exact ⟨by first | rfl | (simp; done) | (simp [*]; done), by repeat (first | exact Drawn0.refl _ | apply Drawn0.step)⟩

-- NOT PRINTED: function 164 (impl_pool_do)

-- NOT PRINTED: function 122 (impl_pool_play)

/-! ### impl_PoolRun: function 60 -/
def playL (l : List S96) (wk : Int) (picks : List Int) : Nat → Nat → List Int → List S94 → Option (List S94)
  | 0, _, _, _ => none
  | k + 1, fr, is, out => if (movesL l wk is).length = 0 then some out else if 1000 ≤ fr then none else
      ((if fr < picks.length then impl_modulo.f (rd picks (fr : Int)) ((movesL l wk is).length : Int) else some 0) : Option Int).bind fun j => if 0 ≤ j ∧ j < ((movesL l wk is).length : Int) then playL l wk picks k (fr + 1) (doL is (rd_T94 (movesL l wk is) j).f1) (out ++ [rd_T94 (movesL l wk is) j]) else none
theorem playL.mono (l : List S96) (wk : Int) (picks : List Int) : ∀ k fr is out, LeO (playL l wk picks k fr is out) (playL l wk picks (k + 1) fr is out) := by
  intro k
  induction k with
  | zero => intro fr is out; exact LeO.none _
  | succ k ih =>
    intro fr is out
    show LeO (if _ then _ else _) (if _ then _ else _)
    exact LeO.ite (LeO.refl _) (LeO.ite (LeO.refl _) (LeO.bind (LeO.refl _) (fun j => LeO.ite (ih _ _ _) (LeO.refl _))))
theorem addr0 (a : Addr) : a.add (Int.toNat 0 * 2) = a := by simp [Addr.add]
theorem PoolAt.grown {w w1 : World} {g gi : Nat} {A1 : Option Addr} {c1 : Nat} {l : List S96} {wk : Int} {is : List Int} {row : Option Nat} (h : PoolAt w g gi A1 c1 l wk is) (hg : w.grownBy w1 row) (n1 : some gi ≠ row) (n2 : some g ≠ row) (he : Kd.C k96 w1 A1 l.length l) : PoolAt w1 g gi A1 c1 l wk is :=
  ⟨blk_grown h.own hg n2, blk_grown h.tasks hg n1, he, h.cap, h.few, h.fit⟩
set_option maxHeartbeats 8000000 in
set_option maxRecDepth 100000 in
theorem play97.calls (k : Nat) (l : List S96) (wk : Int) (is : List Int) (A2 : Option Addr) (c2 : Nat) (picks : List Int) (r : List S94) (w0 w : World) (g gi : Nat) (A1 : Option Addr) (c1 : Nat) (hP : PoolAt w g gi A1 c1 l wk is) (hB : Below w0.heap.size w0 w) (hl : Kd.C k96 w0 A1 l.length l) (hgi : w0.heap.size ≤ gi) (hne : g ≠ gi) (hr2 : Kd.C (Kd.int .i64) w0 A2 picks.length picks) (hc2 : picks.length ≤ c2) (h : playL l wk picks k 0 is [] = some r) :
    Calls Try.prog 122 #[.pointer (some ⟨g, 0, none⟩), .slice A2 picks.length c2, .int .i64 0] w fun e w' => ∃ (v0_ : Value) (q : Int), e = .returned (.tuple #[v0_, .int .i64 q]) ∧ Kd.R k94 94 w' w0.heap.size (fun _ => True) v0_ r ∧ Below w0.heap.size w0 w' := by
  have HP := Aside0.mk hP
  have HB := Aside0.mk hB
  have HL := Aside0.mk hl
  have HGI := Aside0.mk hgi
  have HNE := Aside0.mk hne
  have HR2 := Aside0.mk hr2
  have HC2 := Aside0.mk hc2
  have H := Aside0.mk h
  clear hP hB hl hgi hne hr2 hc2 h
  go_enter Try.func122, Try.ntmps122
  go_wp2_with (first | ((with_reducible refine gate_dst (N := 11) rfl ?_); refine Kd.R_lit k94 _ 94 ?hg (N := 11) ?hd (xs := ([] : List S94)) (inner := []) (ok := fun b => b ≠ gi) (okp := fun _ => False) ?hr ?hp (fun _ hk => hk.elim) ?hf (Below.refl _ _) (Nat.le_refl _) (by simp) ?_; (case hd => rfl); (case hg => rfl); (case hr => first | (go_simp; done) | (go_simp; rfl)); (case hp => exact (Reps.none _ _)); (case hf => have := blk_lt HP.out.tasks; omega); intro v1 w3 ho hb hg_ hnew_; clear hg_ hnew_; have HO := Aside0.mk (Kd.R_lower ho HB.out.size); have HP3 := Aside0.mk (HP.out.below hb); have HB3 := Aside0.mk (below_step HB.out hb); clear HB HP ho hb))
  go_loopg [2, 8] k (fun kq v2 v8 w' => ∃ (fr : Nat) (is : List Int) (out : List S94), v2 = .int .i64 (fr : Int) ∧ Aside0 (playL l wk picks kq fr is out = some r) ∧ Aside0 (PoolAt w' g gi A1 c1 l wk is) ∧ Aside0 (Kd.R k94 94 w' w0.heap.size (fun b => b ≠ gi) v8 out) ∧ Aside0 (Below w0.heap.size w0 w') ∧ Aside0 (out.length ≤ fr))
  case atStart => exact ⟨0, is, [], rfl, H, HP3, HO, HB3, ⟨by simp⟩⟩
  case round =>
    clear H HP3 HO HB3
    obtain ⟨fr, is, out, rfl, H, HP, HO, HB, HOL⟩ := hrel
    cases gk with
    | zero => exact absurd H.out (by simp [playL])
    | succ k1 =>
      have hh := H.out
      clear H
      have hmv := fun w1 hP => moves79.calls l wk is w1 g gi A1 c1 hP
      have hmem := @movesL_mem l wk is
      have hml := movesL_len l wk is
      have hu : playL l wk picks (k1 + 1) fr is out = if (movesL l wk is).length = 0 then some out else if 1000 ≤ fr then none else
        ((if fr < picks.length then impl_modulo.f (rd picks (fr : Int)) ((movesL l wk is).length : Int) else some 0) : Option Int).bind fun j => if 0 ≤ j ∧ j < ((movesL l wk is).length : Int) then playL l wk picks k1 (fr + 1) (doL is (rd_T94 (movesL l wk is) j).f1) (out ++ [rd_T94 (movesL l wk is) j]) else none := rfl
      rw [hu] at hh
      clear hu
      generalize movesL l wk is = ml at hh hmv hmem hml
      by_cases cz : ml.length = 0
      · rw [if_pos cz] at hh
        obtain rfl := Option.some.inj hh
        obtain rfl := List.length_eq_zero_iff.1 cz
        clear cz hh hmem hml
        go_wp2_with (first | (go_at_call 79; (with_reducible refine (hmv _ HP.out).mono ?_); rintro e w5 ⟨v0, rfl, ho, hb⟩; obtain ⟨A5, c5, rfl⟩ := Kd.R_slice ho; have HO5 := Aside0.mk (Kd.R_below HO.out hb); have HB5 := Aside0.mk (below_step HB.out hb); clear ho hb HO HB))
        go_ret2
        exact ⟨_, _, rfl, Kd.R_mono HO5.out (fun _ _ => trivial), HB5.out⟩
      · rw [if_neg cz] at hh
        by_cases cf : 1000 ≤ fr
        · rw [if_pos cf] at hh
          cases hh
        · rw [if_neg cf] at hh
          obtain ⟨j, hj, hh⟩ := Option.bind_eq_some_iff.mp hh
          by_cases cj : 0 ≤ j ∧ j < (ml.length : Int)
          · rw [if_pos cj] at hh
            have hmi : rd_T94 ml j ∈ ml := by
              unfold rd_T94
              rw [List.getD_eq_getElem?_getD, List.getElem?_eq_getElem (by omega)]
              exact List.getElem_mem _
            obtain ⟨t, ht1, ht2, ht3⟩ := hmem hmi
            clear hmem hml
            have HT := Aside0.mk ht1
            have HV := Aside0.mk (show 0 ≤ rd is (t : Int) ∧ rd is (t : Int) ≤ 1000 by rcases ht3 with h3 | h3 <;> omega)
            have cz1 : ((ml.length : Int) == 0) = false := beq_eq_false_iff_ne.2 (by omega)
            have HFR := Aside0.mk (show fr ≤ 1000 by omega)
            have HJ := Aside0.mk cj
            clear ht1 ht3 cz
            obtain ⟨p0, q0⟩ := cj
            obtain ⟨m0, hm0⟩ : ∃ m0, m0 = (rd_T94 ml j).f0 := ⟨_, rfl⟩
            have HH : Aside0 (playL l wk picks k1 (fr + 1) (doL is (t : Int)) (out ++ [⟨m0, (t : Int)⟩]) = some r) := ⟨by
              have e : rd_T94 ml j = ⟨m0, (t : Int)⟩ := by rw [hm0, ← ht2]
              rw [ht2, e] at hh
              exact hh⟩
            have HE0 := Aside0.mk hm0
            have HE1 := Aside0.mk ht2
            clear hh hmi hm0 ht2
            by_cases cp : fr < picks.length
            · rw [if_pos cp] at hj
              have cpb : decide ((fr : Int) < (picks.length : Int)) = true := by simpa using cp
              have HMJ := Aside0.mk hj
              obtain ⟨ad2, ead2, hx2⟩ := Kd.at_int HR2.out (fr : Int) (by omega) (by omega)
              cases ead2
              rw [Int.toNat_natCast] at hx2
              clear hj
              replace p0 := eq_true p0
              replace q0 := eq_true q0
              go_wp2_with (first | (go_at_call 79; (with_reducible refine (hmv _ HP.out).mono ?_); rintro e w5 ⟨v0, rfl, ho, hb⟩; obtain ⟨A5, c5, rfl⟩ := Kd.R_slice ho; have HM5 := Aside0.mk (Kd.R_mono (Kd.R_bound ho) (ok' := fun b => b ≠ gi) (fun b hk => by have := hk.2.1; have := blk_lt HP.out.tasks; omega)); have HO5 := Aside0.mk (Kd.R_below HO.out hb); have HB5 := Aside0.mk (below_step HB.out hb); have HP5 := Aside0.mk (HP.out.below hb); clear ho hb HO HB HP; replace hx2 := (HB5.out.cell (World.block_lt_of_cell? w0 _ hx2)).trans hx2) | (go_at_call 163; (with_reducible refine (impl_modulo.calls _ _ _ _ HMJ.out).mono ?_); rintro e w6 ⟨rfl, hd6⟩; have hb6 : Below w5.heap.size w5 w6 := (by obtain ⟨nd, rfl⟩ := hd6; exact pw_below_drewN (Below.refl _ _) _); have HM6 := Aside0.mk (Kd.R_below HM5.out hb6); have HO6 := Aside0.mk (Kd.R_below HO5.out hb6); have HB6 := Aside0.mk (below_step HB5.out hb6); have HP6 := Aside0.mk (HP5.out.below hb6); clear HM5 HO5 HB5 HP5 hb6 hd6 hx2; obtain ⟨ad5, ead5, hx5, hy5⟩ := at_T94 (Kd.R_reads' HM6.out).2.2 j HJ.out.1 HJ.out.2; cases ead5; rw [HE1.out] at hy5; rw [← HE0.out] at hx5) | (go_at_call 164; (with_reducible refine (doP.calls m0 t l wk is w0 w6 g gi A1 c1 HP6.out HB6.out HL.out HGI.out HNE.out HT.out HV.out).mono ?_); rintro e w7 ⟨rfl, hp7, hb7, hk7⟩; have HP7 := Aside0.mk hp7; have HB7 := Aside0.mk hb7; have HO7 := Aside0.mk (Kd.R_keep HO6.out hk7 (fun _ hk => hk)); have HM7 := Aside0.mk (Kd.R_keep HM6.out hk7 (fun _ hk => hk)); clear HO6 HM6 HP6 HB6 hk7 hp7 hb7 hx5 hy5; obtain ⟨ad7, ead7, hx7, hy7⟩ := at_T94 (Kd.R_reads' HM7.out).2.2 j HJ.out.1 HJ.out.2; cases ead7; rw [HE1.out] at hy7; rw [← HE0.out] at hx7) | (at_builtin; refine Kd.R_append k94 (w0 := w0) w0.heap.size rfl (.tmp 38) (.tmp 43) 32 94 (.agg #[(.int .i64 0), (.int .i64 0)]) 16 rfl Try.underlying32 info94 rfl (by decide) (by omega) _ out ⟨m0, (t : Int)⟩ [.int .i64 m0, .int .i64 (t : Int)] (fun b => b ≠ gi) (fun _ => False) rfl ?aX ?aP (fun _ hk => hk.elim) ?aF ?aO ?aB ?aS ?aL ?_; (case aX => rfl); (case aP => exact k94_mkM _ _ _ _); (case aF => exact fun b hb => by have := blk_lt HP7.out.tasks; omega); (case aO => exact HO7.out); (case aB => exact HB7.out); (case aS => exact below_size HB7.out); (case aL => have := HOL.out; have := HFR.out; omega); intro v8 w8 ho8 hb8 hg8 hat8; have HO8 := Aside0.mk ho8; have HB8 := Aside0.mk hb8; have HP8 := Aside0.mk (show PoolAt w8 g gi A1 c1 l wk (doL is (t : Int)) from PoolAt.grown HP7.out hg8 (by have := Kd.R_away HO7.out (fun _ hk => hk); exact this) (Kd.R_ne HO7.out HP7.out.own (by decide)) (Kd.C_below HL.out hb8)); clear ho8 hb8 hg8 hat8 HO7 HB7 HP7 HM7 hx7 hy7))
              go_roundg k1
              case measure => omega
              case rel => exact ⟨fr + 1, doL is (t : Int), out ++ [⟨m0, (t : Int)⟩], (by first | rfl | rw [pW fr (by have := HFR.out; omega)]), HH, HP8, HO8, HB8, ⟨by rw [List.length_append]; have := HOL.out; simp; omega⟩⟩
            · rw [if_neg cp] at hj
              obtain rfl := Option.some.inj hj
              have cpb : decide ((fr : Int) < (picks.length : Int)) = false := by simpa using cp
              clear hj
              have q0n : (0 < ml.length) = True := eq_true (by omega)
              replace p0 := eq_true p0
              replace q0 := eq_true q0
              go_wp2_with (first | (go_at_call 79; (with_reducible refine (hmv _ HP.out).mono ?_); rintro e w5 ⟨v0, rfl, ho, hb⟩; obtain ⟨A5, c5, rfl⟩ := Kd.R_slice ho; have HM5 := Aside0.mk (Kd.R_mono (Kd.R_bound ho) (ok' := fun b => b ≠ gi) (fun b hk => by have := hk.2.1; have := blk_lt HP.out.tasks; omega)); have HO5 := Aside0.mk (Kd.R_below HO.out hb); have HB5 := Aside0.mk (below_step HB.out hb); have HP5 := Aside0.mk (HP.out.below hb); clear ho hb HO HB HP; obtain ⟨ad5, ead5, hx5, hy5⟩ := at_T94 (Kd.R_reads' HM5.out).2.2 0 HJ.out.1 HJ.out.2; cases ead5; rw [addr0] at hx5 hy5; rw [HE1.out] at hy5; rw [← HE0.out] at hx5) | (go_at_call 164; (with_reducible refine (doP.calls m0 t l wk is w0 w5 g gi A1 c1 HP5.out HB5.out HL.out HGI.out HNE.out HT.out HV.out).mono ?_); rintro e w7 ⟨rfl, hp7, hb7, hk7⟩; have HP7 := Aside0.mk hp7; have HB7 := Aside0.mk hb7; have HO7 := Aside0.mk (Kd.R_keep HO5.out hk7 (fun _ hk => hk)); have HM7 := Aside0.mk (Kd.R_keep HM5.out hk7 (fun _ hk => hk)); clear HO5 HM5 HP5 HB5 hk7 hp7 hb7 hx5 hy5; obtain ⟨ad7, ead7, hx7, hy7⟩ := at_T94 (Kd.R_reads' HM7.out).2.2 0 HJ.out.1 HJ.out.2; cases ead7; rw [addr0] at hx7 hy7; rw [HE1.out] at hy7; rw [← HE0.out] at hx7) | (at_builtin; refine Kd.R_append k94 (w0 := w0) w0.heap.size rfl (.tmp 38) (.tmp 43) 32 94 (.agg #[(.int .i64 0), (.int .i64 0)]) 16 rfl Try.underlying32 info94 rfl (by decide) (by omega) _ out ⟨m0, (t : Int)⟩ [.int .i64 m0, .int .i64 (t : Int)] (fun b => b ≠ gi) (fun _ => False) rfl ?aX ?aP (fun _ hk => hk.elim) ?aF ?aO ?aB ?aS ?aL ?_; (case aX => rfl); (case aP => exact k94_mkM _ _ _ _); (case aF => exact fun b hb => by have := blk_lt HP7.out.tasks; omega); (case aO => exact HO7.out); (case aB => exact HB7.out); (case aS => exact below_size HB7.out); (case aL => have := HOL.out; have := HFR.out; omega); intro v8 w8 ho8 hb8 hg8 hat8; have HO8 := Aside0.mk ho8; have HB8 := Aside0.mk hb8; have HP8 := Aside0.mk (show PoolAt w8 g gi A1 c1 l wk (doL is (t : Int)) from PoolAt.grown HP7.out hg8 (by have := Kd.R_away HO7.out (fun _ hk => hk); exact this) (Kd.R_ne HO7.out HP7.out.own (by decide)) (Kd.C_below HL.out hb8)); clear ho8 hb8 hg8 hat8 HO7 HB7 HP7 HM7 hx7 hy7))
              go_roundg k1
              case measure => omega
              case rel => exact ⟨fr + 1, doL is (t : Int), out ++ [⟨m0, (t : Int)⟩], (by first | rfl | rw [pW fr (by have := HFR.out; omega)]), HH, HP8, HO8, HB8, ⟨by rw [List.length_append]; have := HOL.out; simp; omega⟩⟩
          · rw [if_neg cj] at hh
            cases hh
def impl_PoolRun.f (k : Nat) (a0 : Int) (l1 : List S96) (a2 : Int) (l3 : List Int) : Option (List S94 × Bool) :=
  (impl_isPool.f k a0 l1 a2).bind fun b => if b = true then (if 2000 < l3.length then some ([], false) else if fitB a0 l1 = true then ((playL l1 a2 l3 k 0 (List.replicate a0.toNat 0) []).bind fun out => some (out, true)) else none) else some ([], false)
theorem impl_PoolRun.mono : ∀ a0 a1 a2 a3 k, LeO (impl_PoolRun.f k a0 a1 a2 a3) (impl_PoolRun.f (k + 1) a0 a1 a2 a3) := by
  intro a0 a1 a2 a3 k
  unfold impl_PoolRun.f
  exact LeO.bind (impl_isPool.mono _ _ _ _) (fun _ => LeO.ite (LeO.ite (LeO.refl _) (LeO.ite (LeO.bind (playL.mono _ _ _ _ _ _ _) (fun _ => LeO.refl _)) (LeO.refl _))) (LeO.refl _))
set_option maxHeartbeats 8000000 in
set_option maxRecDepth 100000 in
theorem impl_PoolRun.calls (k : Nat) (a0 : Int) (A1 : Option Addr) (c1 : Nat) (l1 : List S96) (a2 : Int) (A3 : Option Addr) (c3 : Nat) (l3 : List Int) (r1 : List S94) (r2 : Bool) (w : World) (hr1 : Kd.C k96 w A1 l1.length l1) (hc1 : l1.length ≤ c1) (hr3 : Kd.C (Kd.int .i64) w A3 l3.length l3) (hc3 : l3.length ≤ c3) (h : impl_PoolRun.f k a0 l1 a2 l3 = some (r1, r2)) :
    Calls Try.prog 60 #[.int .i64 a0, .slice A1 l1.length c1, .int .i64 a2, .slice A3 l3.length c3] w fun e w' => ∃ v0_ : Value, e = .returned (.tuple #[v0_, .bool r2]) ∧ Kd.R k94 94 w' w.heap.size (fun _ => True) v0_ r1 ∧ Below w.heap.size w w' := by
  have HR1 := Aside0.mk hr1
  have HC1 := Aside0.mk hc1
  have HR3 := Aside0.mk hr3
  have HC3 := Aside0.mk hc3
  clear hr1 hc1 hr3 hc3
  unfold impl_PoolRun.f at h
  obtain ⟨b, e1, h⟩ := Option.bind_eq_some_iff.mp h
  have E1 := Aside0.mk e1
  clear e1
  cases b with
  | false =>
    rw [if_neg (by simp)] at h
    injection h with h
    injection h with h1 h2
    subst h1 h2
    go_enter Try.func60, Try.ntmps60
    go_wp2_with (first | (go_at_call 78; (with_reducible refine (impl_isPool.calls k a0 _ _ l1 a2 false _ HR1.out HC1.out E1.out).mono ?_); rintro e w1 ⟨rfl, hb1⟩; have HB1 := Aside0.mk hb1; clear hb1))
    go_ret2
    exact ⟨_, rfl, Kd.R_nil _ _ _ _ _, HB1.out⟩
  | true =>
    rw [if_pos rfl] at h
    by_cases hbig : 2000 < l3.length
    · rw [if_pos hbig] at h
      injection h with h
      injection h with h1 h2
      subst h1 h2
      have hbb : decide (2000 < (l3.length : Int)) = true := decide_eq_true (by omega)
      have hbb2 : decide (2000 < l3.length) = true := decide_eq_true hbig
      clear hbig
      go_enter Try.func60, Try.ntmps60
      go_wp2_with (first | (go_at_call 78; (with_reducible refine (impl_isPool.calls k a0 _ _ l1 a2 true _ HR1.out HC1.out E1.out).mono ?_); rintro e w1 ⟨rfl, hb1⟩; have HB1 := Aside0.mk hb1; clear hb1))
      go_ret2
      exact ⟨_, rfl, Kd.R_nil _ _ _ _ _, HB1.out⟩
    · rw [if_neg hbig] at h
      have hbb : decide (2000 < (l3.length : Int)) = false := decide_eq_false (by omega)
      have hbb2 : decide (2000 < l3.length) = false := decide_eq_false hbig
      by_cases hf : fitB a0 l1 = true
      · rw [if_pos hf] at h
        obtain ⟨out, ho, h⟩ := Option.bind_eq_some_iff.mp h
        injection h with h
        injection h with h1 h2
        subst h1 h2
        unfold fitB at hf
        rw [Bool.and_eq_true, Bool.and_eq_true] at hf
        obtain ⟨⟨hn0, hn1⟩, hfit⟩ := hf
        replace hn0 := of_decide_eq_true hn0
        replace hn1 := of_decide_eq_true hn1
        obtain ⟨n, rfl⟩ : ∃ n : Nat, a0 = (n : Int) := ⟨a0.toNat, by omega⟩
        rw [Int.toNat_natCast] at ho
        have HH := Aside0.mk ho
        have HN := Aside0.mk (show n ≤ 16 by omega)
        have HFIT := Aside0.mk (show ∀ e ∈ l1, 0 ≤ e.f0 ∧ e.f0 < (n : Int) from fun e he => by
          have := List.all_eq_true.1 hfit e he
          rw [Bool.and_eq_true] at this
          exact ⟨of_decide_eq_true this.1, of_decide_eq_true this.2⟩)
        have hmk := mkInts n (by omega)
        clear ho hn1 hfit hbig
        go_enter Try.func60, Try.ntmps60
        go_wp2_with (first | (go_at_call 78; (with_reducible refine (impl_isPool.calls k (n : Int) _ _ l1 a2 true _ HR1.out HC1.out E1.out).mono ?_); rintro e w1 ⟨rfl, hb1⟩; have HB1 := Aside0.mk hb1; clear hb1) | (go_at_call 122; obtain ⟨w2, hw2⟩ : ∃ w2, w2 = (w1.alloc (.cells (isA (List.replicate n 0)) 3)).alloc (.cells #[.slice A1 l1.length c1, .int .i64 a2, .slice (some ⟨w1.heap.size, 0, none⟩) n n] 119) := ⟨_, rfl⟩; rw [← hw2]; have hsz := HB1.out.size; obtain ⟨gi, hgi⟩ : ∃ gi, gi = w1.heap.size := ⟨_, rfl⟩; obtain ⟨g, hg⟩ : ∃ g, g = gi + 1 := ⟨_, rfl⟩; have HB2 := Aside0.mk (show Below w.heap.size w w2 by rw [hw2]; exact below_alloc (below_alloc HB1.out _) _); have HP := Aside0.mk (newPool (a2 := a2) hw2 (Kd.C_below HR1.out HB2.out) HC1.out HN.out HFIT.out); rw [← hgi, ← hg]; rw [← hgi, ← hg] at HP; (with_reducible refine (play97.calls k l1 a2 (List.replicate n 0) _ _ l3 out w w2 g gi A1 c1 HP.out HB2.out HR1.out (by omega) (by omega) HR3.out HC3.out HH.out).mono ?_); rintro e w3 ⟨v0, q, rfl, ho, hb⟩; have HO3 := Aside0.mk ho; have HB3 := Aside0.mk hb; clear ho hb HP))
        go_ret2
        exact ⟨_, rfl, HO3.out, HB3.out⟩
      · rw [if_neg hf] at h
        cases h

end Go.Proofs.Ytpdcgnfdffbolaa.PFnNoStuck
