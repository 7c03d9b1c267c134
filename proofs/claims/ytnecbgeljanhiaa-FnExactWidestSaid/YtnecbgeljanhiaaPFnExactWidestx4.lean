-- written by wip/tools/myprint.py out of the program's own print
import Derived.Test.YtnecbgeljanhiaaPFnExactWidestx0
import Derived.Test.YtnecbgeljanhiaaPFnExactWidestx1
import Derived.Test.YtnecbgeljanhiaaPFnExactWidestx3
namespace Go.Proofs.Ytnecbgeljanhiaa.PFnExactWidest
open Go.Proofs.Ytnecbgeljanhiaa.Own (rS cS bS rB rN rT kS kC kc10 kf10)
open Go.RowKit Go.Proofs.YtnecbgeljanhiaaW.PrintWords Go.Proofs.YtnecbgeljanhiaaW.PrintLast Go.Proofs.YtnecbgeljanhiaaW.PrintMore
attribute [local go_sem] max2_int min2_int max_two min_two max_three min_three max_four min_four   -- for this text's walks alone
set_option linter.unusedVariables false
set_option linter.unusedSimpArgs false

/-! ### impl_Running: function 62 -/
def laysH_10_ren : Go.Shelf.Ren := ⟨fun | 10 => 117 | 6 => 154 | n => n, fun | 22 => 41 | 23 => 3 | 25 => 158 | 3 => 3 | 4 => 4 | 0 => 0 | n => n, fun | n => n⟩
theorem laysH_10 : Go.Proofs.SlLaysH.n10 Try.prog laysH_10_ren := {
  mixed := by kernel_rfl,
  f6 := ⟨"slices.IndexFunc[[]int,int]", by decide, Try.func154.trans (congrArg some (by kernel_rfl))⟩,
  f10 := ⟨"slices.DeleteFunc[[]int,int]", by decide, Try.func117.trans (congrArg some (by kernel_rfl))⟩,
  t0 := Try.underlying0,
  a0 := Try.isAgg0,
  z0 := Try.sizeOf0,
  v0 := Try.zeroValue0,
  t3 := Try.underlying3,
  a3 := Try.isAgg3,
  z3 := Try.sizeOf3,
  v3 := Try.zeroValue3,
  t4 := Try.underlying4,
  a4 := Try.isAgg4,
  z4 := Try.sizeOf4,
  v4 := Try.zeroValue4,
  t22 := Try.underlying41,
  a22 := Try.isAgg41,
  z22 := Try.sizeOf41,
  v22 := Try.zeroValue41,
  a23 := Try.isAgg3,
  z23 := Try.sizeOf3,
  t25 := Try.underlying158,
  a25 := Try.isAgg158,
  z25 := Try.sizeOf158,
  v25 := Try.zeroValue158 }

theorem enterR {P : Program} {f : FuncId} {fn : Func} {c : Code} (hf : P.funcs[f]? = some fn) (hname : (fn.name == "runtime.NumGoroutine") = false) (hb : fn.body = some c) (args : Array Value) (w : World) : (callFunc f args).run P w = .ok (.enter f args) w := by
  have h1 : fn.name ≠ "runtime.NumGoroutine" := by simpa using hname
  simp [callFunc, hf, h1, hb, mark]
theorem eRun1 : ∀ args w, (callFunc 118 args).run Try.prog w = .ok (.enter 118 args) w := enterR Try.func118 (by kernel_rfl) rfl
theorem givesRun (task x : Int) (B : Nat) (W : World) (hc : W.cell? ⟨B, 1, none⟩ = some (.int .i64 task)) :
    FnGives Try.prog 118 #[.pointer (some ⟨B, 0, none⟩)] #[.int .i64 x] (.bool (x == task)) W := by
  show Calls Try.prog 118 #[.int .i64 x, .pointer (some ⟨B, 0, none⟩)] W _
  go_enter Try.func118, Try.ntmps118
  go_wp2
  go_ret
  exact ⟨rfl, 0, rfl⟩
def delL (task : Int) (l : List Int) : List Int := l.filter fun x => !(x == task)
theorem del_len (task : Int) (l : List Int) : (delL task l).length ≤ l.length := List.length_filter_le _ _
set_option maxHeartbeats 4000000 in
theorem delF.calls (task : Int) (B : Nat) (ok : Nat → Prop) (v : Value) (l : List Int) (w0 w : World) (hB : Below w0.heap.size w0 w) (ho : Kd.R (Kd.int .i64) 3 w w0.heap.size ok v l) (hlen : l.length ≤ 100000) (hc : w.cell? ⟨B, 1, none⟩ = some (.int .i64 task)) (hne : some B ≠ v.ownBlock) :
    Calls Try.prog 117 #[v, .func (.func 118) #[] #[.pointer (some ⟨B, 0, none⟩)]] w fun e w' => ∃ v' : Value, e = .returned v' ∧ Kd.R (Kd.int .i64) 3 w' w0.heap.size ok v' (delL task l) ∧ Below w0.heap.size w0 w' := by
  have hBlt : B < w.heap.size := World.block_lt_of_cell? w ⟨B, 1, none⟩ hc
  by_cases hz : l = []
  · subst hz
    obtain ⟨A, c, rfl⟩ := Kd.R_slice ho
    have HR := Aside0.mk ho
    have HB := Aside0.mk hB
    clear ho hB
    have hi := fun W => AnyE.slices_IndexFunc_empty (P := Try.prog) (ρ := laysH_10_ren) { laysH_10 with } A c (.func (.func 118) #[] #[.pointer (some ⟨B, 0, none⟩)]) W
    change ∀ W, Calls Try.prog 154 _ _ _ at hi
    clear hc
    go_enter Try.func117, Try.ntmps117
    go_wp2_with (go_at_call 154; refine (hi _).mono ?_; rintro e w' ⟨rfl, rfl⟩)
    go_ret
    exact ⟨_, rfl, HR.out, HB.out⟩
  · obtain ⟨g, cap, rfl, hg0, hg1, cells, hcells⟩ := Kd.R_form ho (List.length_pos_iff.2 hz)
    obtain ⟨_, hcap, hC⟩ := Kd.R_reads' ho
    have hcs : cells.size = cap := by
      obtain ⟨_, inner, ⟨_, ho⟩, _⟩ := ho
      rcases ho with ⟨hv, _⟩ | ⟨g', cap', cur, hv, hbase, hheap, hn, hm, hz, _⟩
      · cases hv
      · injection hv with h1 h2 h3
        injection h1 with h1
        injection h1 with h1
        subst h1; subst h3
        rw [hcells] at hheap
        injection hheap with hheap
        injection hheap with h4
        rw [h4]
        have h5 : (Kd.int .i64).sz = 1 := rfl
        rw [h5, Nat.mul_one] at hz
        exact hz
    have hH : Sort.Holds (Value.int .i64) w g 0 l.toArray := by
      intro j hj
      have hj' : j < l.length := by simpa using hj
      obtain ⟨ad, ead, hx⟩ := Kd.at_int hC (j : Int) (by omega) (by omega)
      cases ead
      refine ⟨?_, blk_frozen hcells _⟩
      have e1 : rd l (j : Int) = l.toArray[j]! := by
        unfold rd
        rw [Int.toNat_natCast, List.getD_eq_getElem?_getD, List.getElem?_eq_getElem hj', getElem!_pos l.toArray j hj]
        simp
      rw [e1] at hx
      rw [← hx]
      congr 1
      by_cases hj0 : j = 0 <;> simp [Addr.add, hj0]
    have hBg : B ≠ g := fun e => hne (by rw [e]; rfl)
    have hcon := AnyE.slices_DeleteFunc laysH_10 (Value.int .i64) (fun _ => rfl) (fun x => x == task) 118 #[.pointer (some ⟨B, 0, none⟩)] eRun1 0 (fun w => laysH_10.v3 w) g 0 cap l.toArray w
      (fun W x hb => givesRun task x B W ((hb.cell (p := ⟨B, 1, none⟩) hBlt).trans hc))
      (fun n os dk x _ => givesRun task x B _ (by
        unfold sortWorld
        rw [Sort.cell?_grow _ _ _ (by show B < (Sort.putRow _ _ _ _ _).heap.size; rw [Sort.size_putRow]; exact hBlt), Sort.cell?_putRow_other _ _ g 0 _ _ (Or.inl hBg)]
        exact hc)) hH (by simp; omega) (by simpa using hcap)
    change Calls Try.prog 117 _ _ _ at hcon
    refine hcon.mono ?_
    rintro e w' ⟨rfl, q, rfl⟩
    have hl0 := del_len task l
    have hfl : (l.toArray.toList.filter fun x => !(fun x => x == task) x) = delL task l := rfl
    rw [hfl, List.size_toArray]
    have hb2 := putRow_block (w := Sort.ahead w q) (delL task l ++ List.replicate (l.length - (delL task l).length) 0).toArray hcells
    have hsz1 : ∀ d : Array Int, ∀ c : Array Value, (Sort.putCells (Value.int .i64) 0 d c).size = c.size := fun d c => by simp [Sort.putCells]
    have hka : ∀ k, k < w.heap.size → k ≠ g → (Sort.putRow (Value.int .i64) (Sort.ahead w q) g 0 (delL task l ++ List.replicate (l.length - (delL task l).length) 0).toArray).heap[k]? = w.heap[k]? := by
      intro k hk hne
      rw [putRow_else _ hne]
      rfl
    have hsz : w.heap.size ≤ (Sort.putRow (Value.int .i64) (Sort.ahead w q) g 0 (delL task l ++ List.replicate (l.length - (delL task l).length) 0).toArray).heap.size := by
      simp [Sort.ahead]
    refine ⟨_, rfl, ?_, ⟨hB.os, hB.tape, hB.output, Nat.le_trans hB.size hsz, fun k hk => ?_⟩⟩
    · refine int_put ho _ hb2 (by rw [hsz1, hcs]) hl0 ?_
      refine putCells_take _ _ _ _ (by simp) (by simp; omega) ?_
      simp
    · rw [hka k (by have := hB.size; omega) (by omega)]
      exact hB.block k hk
theorem own_new {wr : World} {base : Nat} {ok : Nat → Prop} {v : Value} {l : List Int} (h : Kd.R (Kd.int .i64) 3 wr base ok v l) : some wr.heap.size ≠ v.ownBlock := fun e => by
  have := (Kd.R_bound h).1 _ e.symm
  omega
theorem runW (i : Nat) (h : i ≤ 9223372036854775806) : wrap64 ((i : Int) + 1) = ((i + 1 : Nat) : Int) := by
  unfold wrap64
  omega
def nowStep (o : List Int) (m : S46) : List Int := if m.f0 = 2 then o ++ [m.f1] else if m.f0 = 1 then delL m.f1 o else o
def nowL (l : List S46) : List Int := l.foldl nowStep []
theorem nowStep_len (o : List Int) (m : S46) : (nowStep o m).length ≤ o.length + 1 := by
  unfold nowStep
  split
  · simp
  · split
    · have := del_len m.f1 o; omega
    · omega
theorem nowL_len (l : List S46) : (nowL l).length ≤ l.length := by
  have h : ∀ (l : List S46) (o : List Int), (l.foldl nowStep o).length ≤ o.length + l.length := by
    intro l
    induction l with
    | nil => intro o; simp
    | cons m l ih => intro o; have := ih (nowStep o m); have := nowStep_len o m; simp only [List.foldl_cons, List.length_cons]; omega
  have := h l []
  simpa [nowL] using this
theorem nowL_take (l : List S46) (i : Nat) (h : i < l.length) : nowL (l.take (i + 1)) = nowStep (nowL (l.take i)) l[i] := by
  unfold nowL
  rw [List.take_succ_eq_append_getElem h, List.foldl_append]
  rfl
def impl_Running.f (l0 : List S46) : Option (List Int) := if 200 < l0.length then some [] else some (ascL (nowL l0))
set_option maxHeartbeats 4000000 in
set_option maxRecDepth 100000 in
theorem impl_Running.calls (A0 : Option Addr) (c0 : Nat) (l0 : List S46) (r : List Int) (w : World) (hr0 : Kd.C k46 w A0 l0.length l0) (hc0 : l0.length ≤ c0) (h : impl_Running.f l0 = some r) :
    Calls Try.prog 62 #[.slice A0 l0.length c0] w fun e w' => ∃ v0_ : Value, e = .returned (v0_) ∧ Kd.R (Kd.int .i64) 3 w' w.heap.size (fun _ => True) v0_ r ∧ Below w.heap.size w w' := by
  have HR0 := Aside0.mk hr0
  have HC0 := Aside0.mk hc0
  clear hr0 hc0
  have HB := Aside0.mk (Below.refl w.heap.size w)
  unfold impl_Running.f at h
  by_cases c : 200 < l0.length
  · rw [if_pos c] at h
    obtain rfl := Option.some.inj h
    have cb : decide (200 < l0.length) = true := decide_eq_true c
    have cb2 : decide (200 < (l0.length : Int)) = true := decide_eq_true (by omega)
    clear c h
    go_enter Try.func62, Try.ntmps62
    go_wp2_with (first | ((with_reducible refine gate_dst (N := 6) rfl ?_); refine Kd.R_lit (Kd.int .i64) _ 3 ?hg (N := 6) ?hd (xs := ([] : List Int)) (inner := []) (ok := fun _ => True) (okp := fun _ => True) ?hr ?hp (fun _ hk => hk) trivial (Below.refl _ _) (Nat.le_refl _) (by simp) ?_; (case hd => rfl); (case hg => rfl); (case hr => first | (go_simp; done) | (go_simp; rfl)); (case hp => exact (Reps.none _ _)); intro v1 w3 ho hb hg_ hnew_; clear hg_ hnew_; have HO := Aside0.mk ho; have HBq := Aside0.mk hb; clear HB; have HB := HBq; clear HBq ho hb))
    go_ret
    exact ⟨_, rfl, HO.out, HB.out⟩
  · rw [if_neg c] at h
    obtain rfl := Option.some.inj h
    have cb : decide (200 < l0.length) = false := decide_eq_false c
    have cb2 : decide (200 < (l0.length : Int)) = false := decide_eq_false (by omega)
    have HL := Aside0.mk (show l0.length ≤ 200 by omega)
    clear c h
    go_enter Try.func62, Try.ntmps62
    go_wp2_with (first | ((with_reducible refine gate_dst (N := 6) rfl ?_); refine Kd.R_lit (Kd.int .i64) _ 3 ?hg (N := 6) ?hd (xs := ([] : List Int)) (inner := []) (ok := fun _ => True) (okp := fun _ => True) ?hr ?hp (fun _ hk => hk) trivial (Below.refl _ _) (Nat.le_refl _) (by simp) ?_; (case hd => rfl); (case hg => rfl); (case hr => first | (go_simp; done) | (go_simp; rfl)); (case hp => exact (Reps.none _ _)); intro v1 w3 ho hb hg_ hnew_; clear hg_ hnew_; have HO := Aside0.mk ho; have HBq := Aside0.mk hb; clear HB; have HB := HBq; clear HBq ho hb))
    go_loopg [3, 13] l0.length (fun kq v3 v13 w' => ∃ i : Nat, v13 = .int .i64 (i : Int) ∧ Aside0 (i + kq = l0.length) ∧ Aside0 (Kd.R (Kd.int .i64) 3 w' w.heap.size (fun _ => True) v3 (nowL (l0.take i))) ∧ Aside0 (Below w.heap.size w w'))
    case atStart => exact ⟨0, rfl, ⟨by omega⟩, HO, HB⟩
    case round =>
      clear HO HB
      obtain ⟨i, rfl, HI, HO, HB⟩ := hrel
      by_cases c : i < l0.length
      · have cb : decide ((i : Int) < (l0.length : Int)) = true := by simpa using c
        obtain ⟨ad, ead, hx0, hx1⟩ := at_T46 HR0.out (i : Int) (by omega) (by omega)
        cases ead
        rw [Int.toNat_natCast] at hx0 hx1
        replace hx0 := (HB.out.cell (World.block_lt_of_cell? w _ hx0)).trans hx0
        replace hx1 := (HB.out.cell (World.block_lt_of_cell? w _ hx1)).trans hx1
        have hrd : rd_T46 l0 (i : Int) = l0[i] := by
          unfold rd_T46
          rw [Int.toNat_natCast, List.getD_eq_getElem?_getD, List.getElem?_eq_getElem c]
          rfl
        rw [hrd] at hx0 hx1
        have HN := Aside0.mk (nowL_take l0 i c)
        clear hrd
        generalize l0[i] = m at hx0 hx1 HN
        have HIB := Aside0.mk (show i ≤ 300 by have := HL.out; omega)
        have HLN := Aside0.mk (nowL_len (l0.take i))
        have HLT := Aside0.mk (show (l0.take i).length ≤ i from List.length_take_le _ _)
        generalize nowL (l0.take i) = o at HO HN HLN
        by_cases c2 : m.f0 = 2
        · have cb2 : (m.f0 == 2) = true := beq_iff_eq.2 c2
          have HS := Aside0.mk (show nowStep o m = o ++ [m.f1] by unfold nowStep; rw [if_pos c2])
          clear c2
          go_wp2_with (first | (at_builtin; refine Kd.R_append (Kd.int .i64) (w0 := w) w.heap.size rfl (.tmp 21) (.tmp 24) 41 3 (.int .i64 0) 8 rfl Try.underlying41 info3 rfl (by decide) (by omega) _ o m.f1 [.int .i64 m.f1] (fun _ => True) (fun _ => False) rfl ?aX ?aP (fun _ hk => hk.elim) ?aF ?aO ?aB ?aS ?aL ?_; (case aX => (simp only [World.alloc, Array.size_push]; rfl)); (case aP => exact rfl); (case aF => exact fun _ _ => trivial); (case aO => exact Kd.R_alloc HO.out _); (case aB => exact below_alloc HB.out _); (case aS => exact below_size (below_alloc HB.out _)); (case aL => have := HLN.out; have := HLT.out; have := HL.out; omega); intro v1 w1 ho hb hg hat; have HO2 := Aside0.mk ho; have HB2 := Aside0.mk hb; clear ho hb hg hat))
          go_roundg (l0.length - (i + 1))
          case measure => have := HI.out; omega
          case rel => exact ⟨i + 1, (by first | rfl | rw [runW i (by have := HIB.out; omega)]), ⟨by have := HI.out; omega⟩, ⟨by rw [HN.out, HS.out]; exact HO2.out⟩, HB2⟩
        · have cb2 : (m.f0 == 2) = false := beq_eq_false_iff_ne.2 c2
          by_cases c3 : m.f0 = 1
          · have cb3 : (m.f0 == 1) = true := beq_iff_eq.2 c3
            have HS := Aside0.mk (show nowStep o m = delL m.f1 o by unfold nowStep; rw [if_neg c2, if_pos c3])
            clear c2 c3
            have hne := own_new (wr := wr) HO.out
            go_wp2_with (first | (go_at_call 117; refine (delF.calls m.f1 wr.heap.size (fun _ => True) _ o w _ (below_alloc HB.out _) (Kd.R_alloc HO.out _) (by have := HLN.out; have := HLT.out; have := HL.out; omega) (by simp) hne).mono ?_; rintro e w1 ⟨v1, rfl, ho, hb⟩; have HO2 := Aside0.mk ho; have HB2 := Aside0.mk hb; clear ho hb))
            go_roundg (l0.length - (i + 1))
            case measure => have := HI.out; omega
            case rel => exact ⟨i + 1, (by first | rfl | rw [runW i (by have := HIB.out; omega)]), ⟨by have := HI.out; omega⟩, ⟨by rw [HN.out, HS.out]; exact HO2.out⟩, HB2⟩
          · have cb3 : (m.f0 == 1) = false := beq_eq_false_iff_ne.2 c3
            have HS := Aside0.mk (show nowStep o m = o by unfold nowStep; rw [if_neg c2, if_neg c3])
            clear c2 c3
            go_wp2
            go_roundg (l0.length - (i + 1))
            case measure => have := HI.out; omega
            case rel => exact ⟨i + 1, (by first | rfl | rw [runW i (by have := HIB.out; omega)]), ⟨by have := HI.out; omega⟩, ⟨by rw [HN.out, HS.out]; exact Kd.R_alloc HO.out _⟩, ⟨below_alloc HB.out _⟩⟩
      · have cb : decide ((i : Int) < (l0.length : Int)) = false := by simpa using c
        have ei : i = l0.length := by have := HI.out; omega
        subst ei
        rw [List.take_length] at HO
        have hasc : impl_ascending.f (nowL l0) = some (ascL (nowL l0)) := by
          unfold impl_ascending.f
          rw [if_pos (by have := nowL_len l0; have := HL.out; omega)]
        have HA := Aside0.mk hasc
        clear hasc
        go_wp2_with (first | (go_at_call 119; refine (impl_ascending.calls (fun _ => True) _ _ _ w _ HB.out HO.out HA.out).mono ?_; rintro e w1 ⟨v1, rfl, ho, hb, _⟩; have HO2 := Aside0.mk ho; have HB2 := Aside0.mk hb; clear ho hb))
        go_ret
        exact ⟨_, rfl, Kd.R_mono HO2.out (fun _ _ => trivial), HB2.out⟩

/-! ### impl_Widest: function 60 -/
def impl_Widest.l0 : Nat → List (S46) → Int → Int → Int → Option (Int)
  | 0, _, _, _, _ => none
  | k + 1, x0, x3, x10, x11 => if x11 < x10 then (if 0 ≤ (wrap64 (x11 + 1)) then (if (wrap64 (x11 + 1)) ≤ (x0.length : Int) then ((impl_Running.f (x0.take ((wrap64 (x11 + 1)) : Int).toNat)).bind fun t181 => (impl_Widest.l0 k x0 (mx x3 (t181.length : Int)) x10 (wrap64 (x11 + 1)))) else (none)) else (none)) else (some x3)
def impl_Widest.f (k : Nat) (l0 : List (S46)) : Option (Int) := if (l0.length : Int) > 200 then (some 0) else (impl_Widest.l0 k l0 0 (l0.length : Int) 0)
theorem impl_Widest.mono_l : ∀ k, (∀ y0 y1 y2 y3, LeO (impl_Widest.l0 k y0 y1 y2 y3) (impl_Widest.l0 (k + 1) y0 y1 y2 y3))
  | 0 => fun _ _ _ _ r h => by simp [impl_Widest.l0] at h
  | k + 1 => by
    have ih0 := impl_Widest.mono_l k
    · intro y0 y1 y2 y3
      unfold impl_Widest.l0
      repeat' first
      | (with_reducible exact ih0 _ _ _ _)
      | (with_reducible exact LeO.refl _)
      | (with_reducible exact LeO.none _)
      | (with_reducible refine LeO.ite ?_ ?_)
      | (with_reducible refine LeO.bind ?_ (fun _ => ?_))
      | exact ih0 _ _ _ _
      | exact LeO.none _
      | refine LeO.ite ?_ ?_
      | refine LeO.bind ?_ (fun _ => ?_)
theorem impl_Widest.mono : ∀ a0 k, LeO (impl_Widest.f k a0) (impl_Widest.f (k + 1) a0) := by
  intro a0 k
  have ih0 := impl_Widest.mono_l k
  unfold impl_Widest.f
  repeat' first
      | (with_reducible exact ih0 _ _ _ _)
      | (with_reducible exact LeO.refl _)
      | (with_reducible exact LeO.none _)
      | (with_reducible refine LeO.ite ?_ ?_)
      | (with_reducible refine LeO.bind ?_ (fun _ => ?_))
      | exact ih0 _ _ _ _
      | exact LeO.none _
      | refine LeO.ite ?_ ?_
      | refine LeO.bind ?_ (fun _ => ?_)
set_option maxHeartbeats 8000000 in
set_option maxRecDepth 100000 in
theorem impl_Widest.calls (k : Nat) (A0 : Option Addr) (c0 : Nat) (l0 : List (S46)) (r : Int) (w : World) (hr0 : Kd.C k46 w A0 l0.length l0) (hc0 : l0.length ≤ c0) (h : impl_Widest.f k l0 = some r) :
    Calls Try.prog 60 #[.slice A0 l0.length c0] w fun e w' => e = .returned (.int .i64 r) ∧ Below w.heap.size w w' := by
  have HR0 := Aside0.mk hr0
  have HC0 := Aside0.mk hc0
  clear hr0 hc0
  have HB := Aside0.mk (Below.refl w.heap.size w)
  have H : (if (l0.length : Int) > 200 then (some 0) else (impl_Widest.l0 k l0 0 (l0.length : Int) 0)) = some r := h
  clear h
  by_cases c2 : (l0.length : Int) > 200
  · rw [if_pos c2] at H
    have c2b0 : decide (200 < (l0.length : Int)) = true := decide_eq_true c2
    have c2b1 : decide (200 < l0.length) = true := decide_eq_true (by omega)
    clear c2
    obtain rfl := Option.some.inj H
    go_enter Try.func60, Try.ntmps60
    go_wp2
    go_ret
    exact ⟨by first | rfl | (simp [errW_none, errW_some] <;> rfl) | (simp [*, errW_none, errW_some] <;> rfl), by repeat (first | (with_reducible first | exact HB.out | apply below_alloc | apply pw_below_drewN | apply below_drew1) | exact HB.out)⟩
  · rw [if_neg c2] at H
    have c2b0 : decide (200 < (l0.length : Int)) = false := decide_eq_false c2
    have c2b1 : decide (200 < l0.length) = false := decide_eq_false (by omega)
    clear c2
    have H' := Aside0.mk H
    clear H
    go_enter Try.func60, Try.ntmps60
    go_wp2
    go_loopg [3, 11] k (fun kq v3 v11 w' => ∃ (x3_1 : Int) (x11_1 : Int), v3 = .int .i64 x3_1 ∧ v11 = .int .i64 x11_1 ∧ Aside0 (impl_Widest.l0 kq l0 x3_1 (l0.length : Int) x11_1 = some r) ∧ Aside0 (kq ≤ k) ∧ Aside0 (Below w.heap.size w w'))
    case atStart => exact ⟨(0), (0), (by first | rfl | (simp; done) | (simp [*]; done)), (by first | rfl | (simp; done) | (simp [*]; done)), H', ⟨Nat.le_refl _⟩, ⟨by repeat (first | (with_reducible first | exact HB.out | apply below_alloc | apply pw_below_drewN | apply below_drew1) | exact HB.out)⟩⟩
    case round =>
      clear H'
      try clear c2
      try clear c2b0
      try clear c2b1
      try clear p2
      obtain ⟨x3_1, x11_1, rfl, rfl, HA, HK1, HB⟩ := hrel
      cases gk with
      | zero => exact absurd HA.out (by simp [impl_Widest.l0])
      | succ k1 =>
        have H := HA.out
        clear HA
        simp only [impl_Widest.l0] at H
        by_cases c3 : x11_1 < (l0.length : Int)
        · rw [if_pos c3] at H
          have c3b0 : decide (x11_1 < (l0.length : Int)) = true := decide_eq_true c3
          clear c3
          obtain ⟨ji4, hji4⟩ : ∃ j_ : Int, (wrap64 (x11_1 + 1)) = j_ := ⟨_, rfl⟩
          replace H : (if 0 ≤ (ji4) then (if (ji4) ≤ (l0.length : Int) then ((impl_Running.f (l0.take ((ji4) : Int).toNat)).bind fun t181 => (impl_Widest.l0 k1 l0 (mx x3_1 (t181.length : Int)) (l0.length : Int) ji4)) else (none)) else (none)) = some r := by first | (rw [hji4] at H; exact H) | (simp only [hji4] at H ⊢; exact H)
          have hji4w : (IntKind.i64.wrap (x11_1 + 1)) = ji4 := (i64_w _).trans hji4
          by_cases c5 : 0 ≤ (ji4)
          · rw [if_pos c5] at H
            have c5b0 := eq_true c5
            have c5b1 : decide (0 ≤ (ji4)) = true := decide_eq_true c5
            clear c5
            by_cases c6 : (ji4) ≤ (l0.length : Int)
            · rw [if_pos c6] at H
              have c6b0 := eq_true c6
              have c6b1 : decide ((ji4) ≤ (l0.length : Int)) = true := decide_eq_true c6
              clear c6
              obtain ⟨y177, hy177⟩ : ∃ y_ : List (S46), y_ = (l0.take ((ji4) : Int).toNat) := ⟨_, rfl⟩
              replace H : ((impl_Running.f y177).bind fun t181 => (impl_Widest.l0 k1 l0 (mx x3_1 (t181.length : Int)) (l0.length : Int) ji4)) = some r := by first | (rw [hy177]; with_reducible exact H) | (have H2_ := (Option.bind_some _ _).symm.trans H; rw [hy177]; with_reducible exact H2_) | (have H2_ := (Option.bind_some _ _).symm.trans H; with_reducible exact H2_) | with_reducible exact H | (rw [hy177]; exact H) | exact H
              have Ny177 := Aside0.mk hy177
              clear hy177
              replace H := Option.bind_eq_some_iff.mp H
              obtain ⟨t181, A70, H⟩ := H
              replace H : (impl_Widest.l0 k1 l0 (mx x3_1 (t181.length : Int)) (l0.length : Int) ji4) = some r := H
              have A7 := Aside0.mk A70
              clear A70
              obtain ⟨ji8, hji8⟩ : ∃ j_ : Int, (mx x3_1 (t181.length : Int)) = j_ := ⟨_, rfl⟩
              replace H : (impl_Widest.l0 k1 l0 ji8 (l0.length : Int) ji4) = some r := by first | (rw [hji8] at H; exact H) | (simp only [hji8] at H ⊢; exact H)
              (try rw [hji8] at A7)
              have hji8_ : (if x3_1 < (t181.length : Int) then (t181.length : Int) else x3_1) = ji8 := hji8
              have H' := Aside0.mk H
              clear H
              have q9 : ((ji4) : Int) ≤ ((l0.length : Int) : Int) := of_decide_eq_true (by first | (with_reducible assumption) | assumption)
              obtain ⟨i09, hi09, _, hsz9, _⟩ := info_parts info46
              have hroom9 : l0.length ≤ c0 := HC0.out
              have hC9 : Kd.C k46 _ A0 l0.length l0 := HR0.out
              have hcut9 := cut_to (P := Try.prog) 32 46 .i64 Try.underlying32 hi09 A0 l0.length c0 (ji4) (of_decide_eq_true (by first | (with_reducible assumption) | assumption)) q9 hroom9
              have hr9 := Kd.C_take (m := ((ji4) : Int).toNat) hC9 (by omega)
              have hy9 : y177.length = ((ji4) : Int).toNat := (by rw [Ny177.out, List.length_take]; omega)
              rw [← Ny177.out] at hr9
              rw [← hy9] at hcut9
              have HR180 := Aside0.mk hr9
              have HC180 := Aside0.mk (show y177.length ≤ c0 from by omega)
              clear hr9 hC9 hroom9 hi09 hsz9
              have KY9 := Aside0.mk hy9
              clear hy9
              replace q9 := eq_true q9
              go_wp2_with (first | ((with_reducible refine gate_callee (f := 62) rfl ?_); refine goesL_ (some 19) rfl rfl Try.func62 (by kernel_rfl) rfl #[.slice A0 y177.length c0] rfl (by (try simp only [List.map_toArray, List.map_cons, List.map_nil]); first | done | rfl | (simp only [List.length_drop, List.length_take]; rfl)) ?_; (with_reducible refine (impl_Running.calls _ _ y177 t181 _ ?side1 ?side2 A7.out).mono ?_); (case side1 => repeat (first | exact (Kd.C_below HR180.out HB.out) | (with_reducible refine Kd.C_alloc ?_ _) | (with_reducible refine Kd.C_drewN ?_ _) | (with_reducible refine Kd.C_drew ?_))); (case side2 => exact HC180.out); rintro e w10 ⟨v182, rfl, ho0, hb⟩; refine ⟨_, rfl, ?_⟩; have n0_ := Aside0.mk (Kd.R_lower ho0 (below_size (by repeat (first | (with_reducible first | exact HB.out | apply below_alloc | apply pw_below_drewN | apply below_drew1) | exact HB.out)))); have n1_ := Aside0.mk (below_step (by repeat (first | (with_reducible first | exact HB.out | apply below_alloc | apply pw_below_drewN | apply below_drew1) | exact HB.out)) hb); clear HB; have HO183 := n0_; have HB := n1_; clear n0_ n1_; (try clear hb); (try clear hb2); (try clear hk); (try clear hi); (try clear ho0); obtain ⟨Ao11, co11, eo11⟩ := Kd.R_slice HO183.out; subst eo11))
              go_roundg k1
              case measure => have := HK1.out; omega
              case rel => exact ⟨(ji8), (ji4), (by first | rfl | (simp; done) | (simp only [← hji8] <;> (first | rfl | simp)) | (simp [*]; done)), (by first | rfl | (simp; done) | (simp only [← hji4] <;> (first | rfl | simp)) | (simp [*]; done)), H', ⟨by have := HK1.out; omega⟩, ⟨by repeat (first | (with_reducible first | exact HB.out | apply below_alloc | apply pw_below_drewN | apply below_drew1) | exact HB.out)⟩⟩
            · rw [if_neg c6] at H
              exact absurd H (by simp)
          · rw [if_neg c5] at H
            exact absurd H (by simp)
        · rw [if_neg c3] at H
          have c3b0 : decide (x11_1 < (l0.length : Int)) = false := decide_eq_false c3
          clear c3
          obtain rfl := Option.some.inj H
          go_wp2
          go_ret
          exact ⟨by first | rfl | (simp [errW_none, errW_some] <;> rfl) | (simp [*, errW_none, errW_some] <;> rfl), by repeat (first | (with_reducible first | exact HB.out | apply below_alloc | apply pw_below_drewN | apply below_drew1) | exact HB.out)⟩

/-! ### laws_FnExactWidest: function 12 -/
def laws_FnExactWidest.f (k : Nat) (l0 : List (S107)) : Option (Bool) := (laws_szMoveS.f l0 1048576).bind fun t184 => (if t184 < 0 then (some true) else ((laws_toMoveS.f k l0).bind fun t185 => ((spec_Widest.f k t185).bind fun t188 => ((laws_toMoveS.f k l0).bind fun t189 => ((impl_Widest.f k t189).bind fun t192 => (if t192 = t188 then ((laws_toMoveS.f k l0).bind fun t193 => ((laws_eqMoveS.f k t189 t193).bind fun t196 => (if t196 = true then (some true) else (none)))) else (none)))))))
theorem laws_FnExactWidest.mono : ∀ a0 k, LeO (laws_FnExactWidest.f k a0) (laws_FnExactWidest.f (k + 1) a0) := by
  intro a0 k
  unfold laws_FnExactWidest.f
  repeat' first
      | (with_reducible exact impl_Widest.mono _ _)
      | (with_reducible exact laws_eqMoveS.mono _ _ _)
      | (with_reducible exact laws_toMoveS.mono _ _)
      | (with_reducible exact spec_Widest.mono _ _)
      | (with_reducible exact LeO.refl _)
      | (with_reducible exact LeO.none _)
      | (with_reducible refine LeO.ite ?_ ?_)
      | (with_reducible refine LeO.bind ?_ (fun _ => ?_))
      | exact impl_Widest.mono _ _
      | exact laws_eqMoveS.mono _ _ _
      | exact laws_toMoveS.mono _ _
      | exact spec_Widest.mono _ _
      | exact LeO.none _
      | refine LeO.ite ?_ ?_
      | refine LeO.bind ?_ (fun _ => ?_)
set_option maxHeartbeats 8000000 in
set_option maxRecDepth 100000 in
theorem laws_FnExactWidest.calls (k : Nat) (A0 : Option Addr) (c0 : Nat) (l0 : List (S107)) (r : Bool) (w : World) (hr0 : Kd.C k107 w A0 l0.length l0) (hc0 : l0.length ≤ c0) (h : laws_FnExactWidest.f k l0 = some r) :
    Calls Try.prog 12 #[.slice A0 l0.length c0] w fun e w' => e = .returned (.bool r) ∧ Below w.heap.size w w' := by
  have HR0 := Aside0.mk hr0
  have HC0 := Aside0.mk hc0
  clear hr0 hc0
  have HB := Aside0.mk (Below.refl w.heap.size w)
  have H : ((laws_szMoveS.f l0 1048576).bind fun t184 => (if t184 < 0 then (some true) else ((laws_toMoveS.f k l0).bind fun t185 => ((spec_Widest.f k t185).bind fun t188 => ((laws_toMoveS.f k l0).bind fun t189 => ((impl_Widest.f k t189).bind fun t192 => (if t192 = t188 then ((laws_toMoveS.f k l0).bind fun t193 => ((laws_eqMoveS.f k t189 t193).bind fun t196 => (if t196 = true then (some true) else (none)))) else (none)))))))) = some r := h
  clear h
  replace H := Option.bind_eq_some_iff.mp H
  obtain ⟨t184, A20, H⟩ := H
  replace H : (if t184 < 0 then (some true) else ((laws_toMoveS.f k l0).bind fun t185 => ((spec_Widest.f k t185).bind fun t188 => ((laws_toMoveS.f k l0).bind fun t189 => ((impl_Widest.f k t189).bind fun t192 => (if t192 = t188 then ((laws_toMoveS.f k l0).bind fun t193 => ((laws_eqMoveS.f k t189 t193).bind fun t196 => (if t196 = true then (some true) else (none)))) else (none))))))) = some r := H
  have A2 := Aside0.mk A20
  clear A20
  by_cases c3 : t184 < 0
  · rw [if_pos c3] at H
    have c3b0 : decide (t184 < 0) = true := decide_eq_true c3
    clear c3
    obtain rfl := Option.some.inj H
    go_enter Try.func12, Try.ntmps12
    go_wp2_with (first | ((with_reducible refine gate_callee (f := 22) rfl ?_); refine goesL_ (some 9) rfl rfl Try.func22 (by kernel_rfl) rfl #[.slice A0 l0.length c0, .int .i64 1048576] rfl (by (try simp only [List.map_toArray, List.map_cons, List.map_nil]); first | done | rfl | (simp only [List.length_drop, List.length_take]; rfl)) ?_; (with_reducible refine (laws_szMoveS.calls _ _ l0 1048576 t184 _ ?side1 ?side2 A2.out).mono ?_); (case side1 => repeat (first | exact HR0.out | (with_reducible refine Kd.C_alloc ?_ _) | (with_reducible refine Kd.C_drewN ?_ _) | (with_reducible refine Kd.C_drew ?_))); (case side2 => exact HC0.out); rintro e w' ⟨rfl, ⟨nd, rfl⟩⟩; refine ⟨_, rfl, ?_⟩))
    go_ret
    exact ⟨by first | rfl | (simp [errW_none, errW_some] <;> rfl) | (simp [*, errW_none, errW_some] <;> rfl), by repeat (first | (with_reducible first | exact HB.out | apply below_alloc | apply pw_below_drewN | apply below_drew1) | exact HB.out)⟩
  · rw [if_neg c3] at H
    have c3b0 : decide (t184 < 0) = false := decide_eq_false c3
    clear c3
    replace H := Option.bind_eq_some_iff.mp H
    obtain ⟨t185, A40, H⟩ := H
    replace H : ((spec_Widest.f k t185).bind fun t188 => ((laws_toMoveS.f k l0).bind fun t189 => ((impl_Widest.f k t189).bind fun t192 => (if t192 = t188 then ((laws_toMoveS.f k l0).bind fun t193 => ((laws_eqMoveS.f k t189 t193).bind fun t196 => (if t196 = true then (some true) else (none)))) else (none))))) = some r := H
    have A4 := Aside0.mk A40
    clear A40
    replace H := Option.bind_eq_some_iff.mp H
    obtain ⟨t188, A50, H⟩ := H
    replace H : ((laws_toMoveS.f k l0).bind fun t189 => ((impl_Widest.f k t189).bind fun t192 => (if t192 = t188 then ((laws_toMoveS.f k l0).bind fun t193 => ((laws_eqMoveS.f k t189 t193).bind fun t196 => (if t196 = true then (some true) else (none)))) else (none)))) = some r := H
    have A5 := Aside0.mk A50
    clear A50
    replace H := Option.bind_eq_some_iff.mp H
    obtain ⟨t189, A60, H⟩ := H
    replace H : ((impl_Widest.f k t189).bind fun t192 => (if t192 = t188 then ((laws_toMoveS.f k l0).bind fun t193 => ((laws_eqMoveS.f k t189 t193).bind fun t196 => (if t196 = true then (some true) else (none)))) else (none))) = some r := H
    have A6 := Aside0.mk A60
    clear A60
    replace H := Option.bind_eq_some_iff.mp H
    obtain ⟨t192, A70, H⟩ := H
    replace H : (if t192 = t188 then ((laws_toMoveS.f k l0).bind fun t193 => ((laws_eqMoveS.f k t189 t193).bind fun t196 => (if t196 = true then (some true) else (none)))) else (none)) = some r := H
    have A7 := Aside0.mk A70
    clear A70
    by_cases c8 : t192 = t188
    · rw [if_pos c8] at H
      have c8b0 : (t192 == t188) = true := beq_iff_eq.mpr c8
      have c8b1 : (t192 != t188) = false := bne_eq_false_iff_eq.mpr c8
      clear c8
      replace H := Option.bind_eq_some_iff.mp H
      obtain ⟨t193, A90, H⟩ := H
      replace H : ((laws_eqMoveS.f k t189 t193).bind fun t196 => (if t196 = true then (some true) else (none))) = some r := H
      have A9 := Aside0.mk A90
      clear A90
      replace H := Option.bind_eq_some_iff.mp H
      obtain ⟨t196, A100, H⟩ := H
      replace H : (if t196 = true then (some true) else (none)) = some r := H
      have A10 := Aside0.mk A100
      clear A100
      by_cases c11 : t196 = true
      · subst c11
        have H1 : (some true) = some r := by rw [if_pos rfl] at H; exact H
        clear H
        have H := H1
        clear H1
        obtain rfl := Option.some.inj H
        go_enter Try.func12, Try.ntmps12
        go_wp2_with (first | ((with_reducible refine gate_callee (f := 22) rfl ?_); refine goesL_ (some 9) rfl rfl Try.func22 (by kernel_rfl) rfl #[.slice A0 l0.length c0, .int .i64 1048576] rfl (by (try simp only [List.map_toArray, List.map_cons, List.map_nil]); first | done | rfl | (simp only [List.length_drop, List.length_take]; rfl)) ?_; (with_reducible refine (laws_szMoveS.calls _ _ l0 1048576 t184 _ ?side1 ?side2 A2.out).mono ?_); (case side1 => repeat (first | exact HR0.out | (with_reducible refine Kd.C_alloc ?_ _) | (with_reducible refine Kd.C_drewN ?_ _) | (with_reducible refine Kd.C_drew ?_))); (case side2 => exact HC0.out); rintro e w' ⟨rfl, ⟨nd, rfl⟩⟩; refine ⟨_, rfl, ?_⟩) | ((with_reducible refine gate_callee (f := 24) rfl ?_); refine goesL_ (some 13) rfl rfl Try.func24 (by kernel_rfl) rfl #[.slice A0 l0.length c0] rfl (by (try simp only [List.map_toArray, List.map_cons, List.map_nil]); first | done | rfl | (simp only [List.length_drop, List.length_take]; rfl)) ?_; (with_reducible refine (laws_toMoveS.calls k _ _ l0 t185 _ ?side1 ?side2 A4.out).mono ?_); (case side1 => repeat (first | exact HR0.out | (with_reducible refine Kd.C_alloc ?_ _) | (with_reducible refine Kd.C_drewN ?_ _) | (with_reducible refine Kd.C_drew ?_))); (case side2 => exact HC0.out); rintro e w12 ⟨v186, rfl, ho0, hb⟩; refine ⟨_, rfl, ?_⟩; have n0_ := Aside0.mk (Kd.R_lower ho0 (below_size (by repeat (first | (with_reducible first | exact HB.out | apply below_alloc | apply pw_below_drewN | apply below_drew1) | exact HB.out)))); have n1_ := Aside0.mk (below_step (by repeat (first | (with_reducible first | exact HB.out | apply below_alloc | apply pw_below_drewN | apply below_drew1) | exact HB.out)) hb); clear HB; have HO187 := n0_; have HB := n1_; clear n0_ n1_; (try clear hb); (try clear hb2); (try clear hk); (try clear hi); (try clear ho0); obtain ⟨Ao13, co13, eo13⟩ := Kd.R_slice HO187.out; subst eo13) | ((with_reducible refine gate_callee (f := 59) rfl ?_); refine goesL_ (some 14) rfl rfl Try.func59 (by kernel_rfl) rfl #[.slice Ao13 t185.length co13] rfl (by (try simp only [List.map_toArray, List.map_cons, List.map_nil]); first | done | rfl | (simp only [List.length_drop, List.length_take]; rfl)) ?_; (with_reducible refine (spec_Widest.calls k _ _ t185 t188 _ ?side1 ?side2 A5.out).mono ?_); (case side1 => repeat (first | exact (Kd.R_reads' HO187.out).2.2 | (with_reducible refine Kd.C_alloc ?_ _) | (with_reducible refine Kd.C_drewN ?_ _) | (with_reducible refine Kd.C_drew ?_))); (case side2 => exact (Kd.R_reads' HO187.out).2.1); rintro e w14 ⟨rfl, hb⟩; refine ⟨_, rfl, ?_⟩; have n0_ := Aside0.mk (Kd.R_below (by (with_reducible repeat (first | apply Kd.R_alloc | apply Kd.R_drewN | apply Kd.R_drew)); exact HO187.out) hb); have n1_ := Aside0.mk (below_step (by repeat (first | (with_reducible first | exact HB.out | apply below_alloc | apply pw_below_drewN | apply below_drew1) | exact HB.out)) hb); clear HO187; clear HB; have HO187 := n0_; have HB := n1_; clear n0_ n1_; (try clear hb); (try clear hb2); (try clear hk); (try clear hi)) | ((with_reducible refine gate_callee (f := 24) rfl ?_); refine goesL_ (some 16) rfl rfl Try.func24 (by kernel_rfl) rfl #[.slice A0 l0.length c0] rfl (by (try simp only [List.map_toArray, List.map_cons, List.map_nil]); first | done | rfl | (simp only [List.length_drop, List.length_take]; rfl)) ?_; (with_reducible refine (laws_toMoveS.calls k _ _ l0 t189 _ ?side1 ?side2 A6.out).mono ?_); (case side1 => repeat (first | exact (Kd.C_below HR0.out HB.out) | (with_reducible refine Kd.C_alloc ?_ _) | (with_reducible refine Kd.C_drewN ?_ _) | (with_reducible refine Kd.C_drew ?_))); (case side2 => exact HC0.out); rintro e w15 ⟨v190, rfl, ho0, hb⟩; refine ⟨_, rfl, ?_⟩; have n0_ := Aside0.mk (Kd.R_lower ho0 (below_size (by repeat (first | (with_reducible first | exact HB.out | apply below_alloc | apply pw_below_drewN | apply below_drew1) | exact HB.out)))); have n1_ := Aside0.mk (below_step (by repeat (first | (with_reducible first | exact HB.out | apply below_alloc | apply pw_below_drewN | apply below_drew1) | exact HB.out)) hb); clear HB; have HO191 := n0_; have HB := n1_; clear n0_ n1_; (try clear hb); (try clear hb2); (try clear hk); (try clear hi); (try clear ho0); obtain ⟨Ao16, co16, eo16⟩ := Kd.R_slice HO191.out; subst eo16) | ((with_reducible refine gate_callee (f := 60) rfl ?_); refine goesL_ (some 18) rfl rfl Try.func60 (by kernel_rfl) rfl #[.slice Ao16 t189.length co16] rfl (by (try simp only [List.map_toArray, List.map_cons, List.map_nil]); first | done | rfl | (simp only [List.length_drop, List.length_take]; rfl)) ?_; (with_reducible refine (impl_Widest.calls k _ _ t189 t192 _ ?side1 ?side2 A7.out).mono ?_); (case side1 => repeat (first | exact (Kd.R_reads' HO191.out).2.2 | (with_reducible refine Kd.C_alloc ?_ _) | (with_reducible refine Kd.C_drewN ?_ _) | (with_reducible refine Kd.C_drew ?_))); (case side2 => exact (Kd.R_reads' HO191.out).2.1); rintro e w17 ⟨rfl, hb⟩; refine ⟨_, rfl, ?_⟩; have n0_ := Aside0.mk (Kd.R_below (by (with_reducible repeat (first | apply Kd.R_alloc | apply Kd.R_drewN | apply Kd.R_drew)); exact HO191.out) hb); have n1_ := Aside0.mk (below_step (by repeat (first | (with_reducible first | exact HB.out | apply below_alloc | apply pw_below_drewN | apply below_drew1) | exact HB.out)) hb); clear HO191; clear HB; have HO191 := n0_; have HB := n1_; clear n0_ n1_; (try clear hb); (try clear hb2); (try clear hk); (try clear hi)) | ((with_reducible refine gate_callee (f := 24) rfl ?_); refine goesL_ (some 24) rfl rfl Try.func24 (by kernel_rfl) rfl #[.slice A0 l0.length c0] rfl (by (try simp only [List.map_toArray, List.map_cons, List.map_nil]); first | done | rfl | (simp only [List.length_drop, List.length_take]; rfl)) ?_; (with_reducible refine (laws_toMoveS.calls k _ _ l0 t193 _ ?side1 ?side2 A9.out).mono ?_); (case side1 => repeat (first | exact (Kd.C_below HR0.out HB.out) | (with_reducible refine Kd.C_alloc ?_ _) | (with_reducible refine Kd.C_drewN ?_ _) | (with_reducible refine Kd.C_drew ?_))); (case side2 => exact HC0.out); rintro e w18 ⟨v194, rfl, ho0, hb⟩; refine ⟨_, rfl, ?_⟩; have n0_ := Aside0.mk (Kd.R_below (by (with_reducible repeat (first | apply Kd.R_alloc | apply Kd.R_drewN | apply Kd.R_drew)); exact HO191.out) hb); have n1_ := Aside0.mk (Kd.R_lower ho0 (below_size (by repeat (first | (with_reducible first | exact HB.out | apply below_alloc | apply pw_below_drewN | apply below_drew1) | exact HB.out)))); have n2_ := Aside0.mk (below_step (by repeat (first | (with_reducible first | exact HB.out | apply below_alloc | apply pw_below_drewN | apply below_drew1) | exact HB.out)) hb); clear HO191; clear HB; have HO191 := n0_; have HO195 := n1_; have HB := n2_; clear n0_ n1_ n2_; (try clear hb); (try clear hb2); (try clear hk); (try clear hi); (try clear ho0); obtain ⟨Ao19, co19, eo19⟩ := Kd.R_slice HO195.out; subst eo19) | ((with_reducible refine gate_callee (f := 26) rfl ?_); refine goesL_ (some 25) rfl rfl Try.func26 (by kernel_rfl) rfl #[.slice Ao16 t189.length co16, .slice Ao19 t193.length co19] rfl (by (try simp only [List.map_toArray, List.map_cons, List.map_nil]); first | done | rfl | (simp only [List.length_drop, List.length_take]; rfl)) ?_; (with_reducible refine (laws_eqMoveS.calls k _ _ t189 _ _ t193 true _ ?side1 ?side2 ?side3 ?side4 A10.out).mono ?_); (case side1 => repeat (first | exact (Kd.R_reads' HO191.out).2.2 | (with_reducible refine Kd.C_alloc ?_ _) | (with_reducible refine Kd.C_drewN ?_ _) | (with_reducible refine Kd.C_drew ?_))); (case side2 => exact (Kd.R_reads' HO191.out).2.1); (case side3 => repeat (first | exact (Kd.R_reads' HO195.out).2.2 | (with_reducible refine Kd.C_alloc ?_ _) | (with_reducible refine Kd.C_drewN ?_ _) | (with_reducible refine Kd.C_drew ?_))); (case side4 => exact (Kd.R_reads' HO195.out).2.1); rintro e w20 ⟨rfl, hb⟩; refine ⟨_, rfl, ?_⟩; have n0_ := Aside0.mk (Kd.R_below (by (with_reducible repeat (first | apply Kd.R_alloc | apply Kd.R_drewN | apply Kd.R_drew)); exact HO191.out) hb); have n1_ := Aside0.mk (Kd.R_below (by (with_reducible repeat (first | apply Kd.R_alloc | apply Kd.R_drewN | apply Kd.R_drew)); exact HO195.out) hb); have n2_ := Aside0.mk (below_step (by repeat (first | (with_reducible first | exact HB.out | apply below_alloc | apply pw_below_drewN | apply below_drew1) | exact HB.out)) hb); clear HO191; clear HO195; clear HB; have HO191 := n0_; have HO195 := n1_; have HB := n2_; clear n0_ n1_ n2_; (try clear hb); (try clear hb2); (try clear hk); (try clear hi)))
        go_ret
        exact ⟨by first | rfl | (simp [errW_none, errW_some] <;> rfl) | (simp [*, errW_none, errW_some] <;> rfl), by repeat (first | (with_reducible first | exact HB.out | apply below_alloc | apply pw_below_drewN | apply below_drew1) | exact HB.out)⟩
      · replace c11 := Bool.eq_false_iff.mpr c11
        subst c11
        have H1 : (none) = some r := by rw [if_neg (show ¬ (false = true) by decide)] at H; exact H
        clear H
        have H := H1
        clear H1
        exact absurd H (by simp)
    · rw [if_neg c8] at H
      exact absurd H (by simp)

end Go.Proofs.Ytnecbgeljanhiaa.PFnExactWidest
