-- written by wip/tools/myprint.py out of the program's own print
import Derived.Test.YtapbpfbhghheeaaPFnExactAheadx0
import Derived.Test.YtapbpfbhghheeaaPFnExactAheadx1
import Derived.Test.YtapbpfbhghheeaaPFnExactAheadx2
namespace Go.Proofs.Ytapbpfbhghheeaa.PFnExactAhead
open Go.RowKit Go.Proofs.YtapbpfbhghheeaaW.PrintWords Go.Proofs.YtapbpfbhghheeaaW.PrintLast Go.Proofs.YtapbpfbhghheeaaW.PrintMore
attribute [local go_sem] max2_int min2_int max_two min_two max_three min_three max_four min_four   -- for this text's walks alone
set_option linter.unusedVariables false
set_option linter.unusedSimpArgs false

/-! ### impl_dist: function 65 -/
def dSet (M : List Int) (a b : Nat) (v : Int) : List Int := M.set (a * 16 + b) v
def dGet (M : List Int) (a b : Nat) : Int := M.getD (a * 16 + b) 0
def dInitB (a : Nat) (M : List Int) (N : Nat) : List Int := (List.range N).foldl (fun M b => dSet M a b (-1)) M
def dInit (N m : Nat) (M : List Int) : List Int := (List.range m).foldl (fun M a => dInitB a M N) M
def dEdges (l : List (S60)) (M : List Int) : List Int := l.foldl (fun M e => dSet M e.f0.toNat e.f1.toNat 1) M
def dStep (k a b : Nat) (M : List Int) : List Int :=
  if dGet M a k < 0 ∨ dGet M k b < 0 then M
  else if dGet M a b < 0 ∨ wrap64 (dGet M a k + dGet M k b) < dGet M a b then dSet M a b (wrap64 (dGet M a k + dGet M k b)) else M
def dRunB (k a : Nat) (m : Nat) (M : List Int) : List Int := (List.range m).foldl (fun M b => dStep k a b M) M
def dRunA (N k : Nat) (m : Nat) (M : List Int) : List Int := (List.range m).foldl (fun M a => dRunB k a N M) M
def dRun (N : Nat) (m : Nat) (M : List Int) : List Int := (List.range m).foldl (fun M k => dRunA N k N M) M
def dZero : List Int := List.replicate 256 0
def dEdgeOk (e : S60) : Bool := decide ((0 ≤ e.f0 ∧ e.f0 < 16) ∧ 0 ≤ e.f1 ∧ e.f1 < 16)
def impl_dist.f (a0 : Int) (l1 : List (S60)) : Option (List Int) :=
  if 0 ≤ a0 ∧ a0 ≤ 16 then (if l1.all dEdgeOk = true then some (dRun a0.toNat a0.toNat (dEdges l1 (dInit a0.toNat a0.toNat dZero))) else none) else none
theorem dW (i : Nat) (h : i ≤ 9223372036854775806) : wrap64 ((i : Int) + 1) = ((i + 1 : Nat) : Int) := by
  unfold wrap64
  omega
theorem dSet_len (M : List Int) (a b : Nat) (v : Int) : (dSet M a b v).length = M.length := by simp [dSet]
theorem foldl_len {α : Type} (f : List Int → α → List Int) (hf : ∀ M x, (f M x).length = M.length) (xs : List α) (M : List Int) : (xs.foldl f M).length = M.length := by
  induction xs generalizing M with
  | nil => rfl
  | cons a xs ih => rw [List.foldl_cons, ih, hf]
theorem dInitB_len (a : Nat) (M : List Int) (N : Nat) : (dInitB a M N).length = M.length := foldl_len _ (fun M b => dSet_len M a b _) _ _
theorem dInit_len (N m : Nat) (M : List Int) : (dInit N m M).length = M.length := foldl_len _ (fun M a => dInitB_len a M N) _ _
theorem dEdges_len (l : List (S60)) (M : List Int) : (dEdges l M).length = M.length := foldl_len _ (fun M e => dSet_len M _ _ _) _ _
theorem dStep_len (k a b : Nat) (M : List Int) : (dStep k a b M).length = M.length := by
  unfold dStep
  split
  · rfl
  · split
    · exact dSet_len _ _ _ _
    · rfl
theorem dRunB_len (k a m : Nat) (M : List Int) : (dRunB k a m M).length = M.length := foldl_len _ (fun M b => dStep_len k a b M) _ _
theorem dRunA_len (N k m : Nat) (M : List Int) : (dRunA N k m M).length = M.length := foldl_len _ (fun M a => dRunB_len k a N M) _ _
theorem dRun_len (N m : Nat) (M : List Int) : (dRun N m M).length = M.length := foldl_len _ (fun M k => dRunA_len N k N M) _ _
theorem impl_dist.len {a0 : Int} {l1 : List (S60)} {r : List Int} (h : impl_dist.f a0 l1 = some r) : r.length = 256 := by
  unfold impl_dist.f at h
  split at h
  · split at h
    · injection h with h
      rw [← h, dRun_len, dEdges_len, dInit_len]
      exact List.length_replicate
    · cases h
  · cases h
/-- A block of 256 numbers. -/
def dArr (M : List Int) : Array Value := (M.map (Value.int .i64)).toArray
theorem dArr_size (M : List Int) : (dArr M).size = M.length := by simp [dArr]
theorem dArr_get {M : List Int} {i : Nat} (h : i < M.length) : (dArr M)[i]? = some (.int .i64 (M.getD i 0)) := by
  simp [dArr, List.getElem?_eq_getElem h, List.getD_eq_getElem?_getD]
theorem dArr_set (M : List Int) (i : Nat) (v : Int) : (dArr M).setIfInBounds i (.int .i64 v) = dArr (M.set i v) := by
  simp [dArr, List.map_set]
theorem dArr_one (M : List Int) : (dArr M).all (·.oneCell') = true := by
  simp only [dArr, List.all_toArray, List.all_map, List.all_eq_true]
  intro x _
  rfl
theorem infoArr : (Try.prog.info? 87).map (fun i => (i.zero, i.size, i.bytes)) = some (some (.agg (dArr dZero)), 256, 2048) := by kernel_rfl
theorem allocArr {o : Oper} (ho : o.op = .alloc 87) (ρ : Operand → Value) (W : World) : (execOp ρ o).run Try.prog W = .ok (.value (.pointer (some ⟨W.heap.size, 0, none⟩))) (W.alloc (.cells (dArr dZero) 87 (0, 0))) := by
  obtain ⟨i, hi, hz⟩ := Option.map_eq_some_iff.1 infoArr
  generalize dArr dZero = z at hz ⊢
  simp only [Prod.mk.injEq] at hz
  obtain ⟨hz0, hz1, hz2⟩ := hz
  have hz' : ∀ W : World, (zeroValue 87).run Try.prog W = .ok (.agg z) W := fun W => by
    simp [zeroValue, typeInfo, hi, hz0]
  unfold execOp
  simp only [ho, Instr.alloc, Sem.run_bind, hz', Result.andThen_ok, Sem.run_pure]
  simp [newVar, newRow, Value.cells]
set_option maxHeartbeats 8000000 in
set_option maxRecDepth 100000 in
theorem impl_dist.calls (a0 : Int) (A1 : Option Addr) (c1 : Nat) (l1 : List (S60)) (r : List Int) (w : World) (hr1 : Kd.C k60 w A1 l1.length l1) (hc1 : l1.length ≤ c1) (h : impl_dist.f a0 l1 = some r) :
    Calls Try.prog 65 #[.int .i64 a0, .slice A1 l1.length c1] w fun e w' => e = .returned (.agg (dArr r)) ∧ Below w.heap.size w w' := by
  have HR1 := Aside0.mk hr1
  have HC1 := Aside0.mk hc1
  clear hr1 hc1
  have HLEN := Aside0.mk (impl_dist.len h)
  unfold impl_dist.f at h
  by_cases hn : 0 ≤ a0 ∧ a0 ≤ 16
  case neg => rw [if_neg hn] at h; cases h
  rw [if_pos hn] at h
  by_cases hl : l1.all dEdgeOk = true
  case neg => rw [if_neg hl] at h; cases h
  rw [if_pos hl] at h
  obtain ⟨N, rfl⟩ : ∃ N : Nat, a0 = (N : Int) := ⟨a0.toNat, by omega⟩
  rw [Int.toNat_natCast] at h
  have HN := Aside0.mk (show N ≤ 16 by omega)
  have HL := Aside0.mk hl
  have H := Aside0.mk (Option.some.inj h)
  clear hn hl h
  go_enter Try.func65, Try.ntmps65
  go_wp2_with (first
    | ((with_reducible refine gate_dst (N := 4) rfl ?_); refine box_event ?hg (N := 4) ?hd (cs := dArr dZero) (t := 87) ?hr ?_; (case hd => rfl); (case hg => rfl); (case hr => exact allocArr rfl _ _); intro g4 hg4 w4 hb4 hbel4; have HG4 := Aside0.mk hb4; have HB := Aside0.mk hbel4; have HS4 := Aside0.mk (show w.heap.size ≤ g4 by omega); clear hg4 hb4 hbel4)
    | ((with_reducible refine gate_dst (N := 5) rfl ?_); refine box_event ?hg (N := 5) ?hd (cs := dArr dZero) (t := 87) ?hr ?_; (case hd => rfl); (case hg => rfl); (case hr => exact allocArr rfl _ _); intro g5 hg5 w5 hb5 hbel5; have HG5 := Aside0.mk hb5; have HG4' := Aside0.mk (blk_below HG4.out hbel5); have HB' := Aside0.mk (below_step HB.out hbel5); have HS5 := Aside0.mk (show w.heap.size ≤ g5 by rw [hg5]; exact below_size HB.out); have HNE := Aside0.mk (show g4 ≠ g5 by rw [hg5]; have := blk_lt HG4.out; omega); clear HG4 HB; have HG4 := HG4'; have HB := HB'; clear HG4' HB'; clear hg5 hb5 hbel5))
  go_loopg [15] N (fun kq v15 w' => ∃ i : Nat, v15 = .int .i64 (i : Int) ∧ Aside0 (i + kq = N) ∧ Aside0 (w'.heap[g5]? = some (.cells (dArr (dInit N i dZero)) 87 (0, 0))) ∧ Aside0 (w'.heap[g4]? = some (.cells (dArr dZero) 87 (0, 0))) ∧ Aside0 (Below w.heap.size w w'))
  case atStart => exact ⟨0, rfl, ⟨by omega⟩, HG5, HG4, HB⟩
  case round =>
    clear HG5 HG4 HB
    obtain ⟨i, rfl, HI, HG5, HG4, HB⟩ := hrel
    by_cases c : i < N
    · have cb : decide ((i : Int) < (N : Int)) = true := by simpa using c
      go_wp2
      go_loopg [19] N (fun kq v19 w' => ∃ j : Nat, v19 = .int .i64 (j : Int) ∧ Aside0 (j + kq = N) ∧ Aside0 (w'.heap[g5]? = some (.cells (dArr (dInitB i (dInit N i dZero) j)) 87 (0, 0))) ∧ Aside0 (w'.heap[g4]? = some (.cells (dArr dZero) 87 (0, 0))) ∧ Aside0 (Below w.heap.size w w'))
      case atStart => exact ⟨0, rfl, ⟨by omega⟩, HG5, HG4, HB⟩
      case round =>
        clear HG5 HG4 HB
        obtain ⟨j, rfl, HJ, HG5, HG4, HB⟩ := hrel
        by_cases c2 : j < N
        · have cb2 : decide ((j : Int) < (N : Int)) = true := by simpa using c2
          have hx : wr.cell? ⟨g5, i * 16 + j, none⟩ = some (.int .i64 ((dInitB i (dInit N i dZero) j).getD (i * 16 + j) 0)) := by
            rw [blk_cell HG5.out]
            exact dArr_get (by rw [dInitB_len, dInit_len]; have := HN.out; simp only [dZero, List.length_replicate]; omega)
          have hf : wr.frozen? ⟨g5, i * 16 + j, none⟩ = false := blk_frozen HG5.out _
          have hi16 : i < 16 := by have := HN.out; omega
          have hj16 : j < 16 := by have := HN.out; omega
          go_wp2
          go_roundg (N - (j + 1))
          case measure => have := HJ.out; omega
          case rel => exact ⟨j + 1, (by first | rfl | rw [dW j (by have := HN.out; omega)]), ⟨by have := HJ.out; omega⟩, ⟨by rw [show dInitB i (dInit N i dZero) (j + 1) = dSet (dInitB i (dInit N i dZero) j) i j (-1) by simp [dInitB, List.range_succ, List.foldl_append], dSet, ← dArr_set]; exact blk_set HG5.out _ _⟩, ⟨blk_far HG4.out HNE.out _⟩, ⟨below_set HB.out HS5.out⟩⟩
        · have cb2 : decide ((j : Int) < (N : Int)) = false := by simpa using c2
          have ej : j = N := by have := HJ.out; omega
          subst ej
          go_wp2
          go_roundg (j - (i + 1))
          case measure => have := HI.out; omega
          case rel => exact ⟨i + 1, (by first | rfl | rw [dW i (by have := HN.out; omega)]), ⟨by have := HI.out; omega⟩, ⟨by rw [show dInit j (i + 1) dZero = dInitB i (dInit j i dZero) j by simp [dInit, List.range_succ, List.foldl_append]]; exact HG5.out⟩, HG4, HB⟩
    · have cb : decide ((i : Int) < (N : Int)) = false := by simpa using c
      have ei : i = N := by have := HI.out; omega
      subst ei
      go_wp2
      go_loopg [30] l1.length (fun kq v30 w' => ∃ j : Nat, v30 = .int .i64 (j : Int) ∧ Aside0 (j + kq = l1.length) ∧ Aside0 (w'.heap[g5]? = some (.cells (dArr (dEdges (l1.take j) (dInit i i dZero))) 87 (0, 0))) ∧ Aside0 (w'.heap[g4]? = some (.cells (dArr dZero) 87 (0, 0))) ∧ Aside0 (Below w.heap.size w w'))
      case atStart => exact ⟨0, rfl, ⟨by omega⟩, HG5, HG4, HB⟩
      case round =>
        clear HG5 HG4 HB
        obtain ⟨j, rfl, HJ, HG5, HG4, HB⟩ := hrel
        by_cases c2 : j < l1.length
        · have cb2 : decide ((j : Int) < (l1.length : Int)) = true := by simpa using c2
          obtain ⟨ad, ead, hx0, hx1⟩ := at_T60 HR1.out (j : Int) (by omega) (by omega)
          cases ead
          rw [Int.toNat_natCast] at hx0 hx1
          replace hx0 := (HB.out.cell (World.block_lt_of_cell? w _ hx0)).trans hx0
          replace hx1 := (HB.out.cell (World.block_lt_of_cell? w _ hx1)).trans hx1
          have hok : dEdgeOk l1[j] = true := List.all_eq_true.1 HL.out _ (List.getElem_mem c2)
          have hrd : rd_T60 l1 (j : Int) = l1[j] := by
            unfold rd_T60
            rw [Int.toNat_natCast, List.getD_eq_getElem?_getD, List.getElem?_eq_getElem c2]
            rfl
          rw [hrd] at hx0 hx1
          have hok2 : (0 ≤ l1[j].f0 ∧ l1[j].f0 < 16) ∧ 0 ≤ l1[j].f1 ∧ l1[j].f1 < 16 := of_decide_eq_true hok
          obtain ⟨a, ha⟩ : ∃ a : Nat, l1[j].f0 = (a : Int) := ⟨l1[j].f0.toNat, by omega⟩
          obtain ⟨b, hb⟩ : ∃ b : Nat, l1[j].f1 = (b : Int) := ⟨l1[j].f1.toNat, by omega⟩
          have hstep : dEdges (l1.take (j + 1)) (dInit i i dZero) = dSet (dEdges (l1.take j) (dInit i i dZero)) a b 1 := by
            rw [List.take_succ_eq_append_getElem c2]
            unfold dEdges
            rw [List.foldl_append, List.foldl_cons, List.foldl_nil, ha, hb, Int.toNat_natCast, Int.toNat_natCast]
          rw [ha] at hx0
          rw [hb] at hx1
          have ha16 : a < 16 := by omega
          have hb16 : b < 16 := by omega
          clear hok hok2 hrd ha hb
          go_wp2
          obtain ⟨b9, hb9⟩ : ∃ b9, b9 = wr.heap.size := ⟨_, rfl⟩
          obtain ⟨wq, hwq⟩ : ∃ wq, wq = wr.alloc (.cells #[.int .i64 (a : Int), .int .i64 (b : Int)] 60) := ⟨_, rfl⟩
          rw [← hwq, ← hb9]
          have hbel : Below wr.heap.size wr wq := by rw [hwq]; exact below_alloc (Below.refl _ _) _
          have hblk : wq.heap[b9]? = some (.cells #[.int .i64 (a : Int), .int .i64 (b : Int)] 60 (0, 0)) := by rw [hwq, hb9]; exact blk_new _ _
          have HG5' := Aside0.mk (blk_below HG5.out hbel)
          have HG4' := Aside0.mk (blk_below HG4.out hbel)
          have HB' := Aside0.mk (below_step HB.out hbel)
          have hq0 : wq.cell? ⟨b9, 0, none⟩ = some (.int .i64 (a : Int)) := by rw [blk_cell hblk]; rfl
          have hq1 : wq.cell? ⟨b9, 1, none⟩ = some (.int .i64 (b : Int)) := by rw [blk_cell hblk]; rfl
          have hqx : wq.cell? ⟨g5, a * 16 + b, none⟩ = some (.int .i64 ((dEdges (l1.take j) (dInit i i dZero)).getD (a * 16 + b) 0)) := by
            rw [blk_cell HG5'.out]
            exact dArr_get (by rw [dEdges_len, dInit_len]; simp only [dZero, List.length_replicate]; omega)
          have hqf : wq.frozen? ⟨g5, a * 16 + b, none⟩ = false := blk_frozen HG5'.out _
          clear hwq hb9 hbel hblk HG5 HG4 HB hx0 hx1
          go_region
          all_goals go_wp2
          all_goals go_roundg (l1.length - (j + 1))
          case measure => have := HJ.out; omega
          case rel => exact ⟨j + 1, (by first | rfl | rw [dW j (by have := HR1.out.2.1; omega)]), ⟨by have := HJ.out; omega⟩, ⟨by rw [hstep, dSet, ← dArr_set]; exact blk_set HG5'.out _ _⟩, ⟨blk_far HG4'.out HNE.out _⟩, ⟨below_drew1 (below_set HB'.out HS5.out)⟩⟩
        · have cb2 : decide ((j : Int) < (l1.length : Int)) = false := by simpa using c2
          have ej : j = l1.length := by have := HJ.out; omega
          subst ej
          rw [List.take_length] at HG5
          obtain ⟨M0, hM0⟩ : ∃ M0, M0 = dEdges l1 (dInit i i dZero) := ⟨_, rfl⟩
          rw [← hM0] at HG5
          have HM0 := Aside0.mk (show M0.length = 256 by rw [hM0, dEdges_len, dInit_len]; simp only [dZero, List.length_replicate])
          have HR := Aside0.mk (show dRun i i M0 = r by rw [hM0]; exact H.out)
          clear hM0 H HL c2 cb2 c cb HI HJ
          go_wp2
          go_loopg [42] i (fun kq v42 w' => ∃ kk : Nat, v42 = .int .i64 (kk : Int) ∧ Aside0 (kk + kq = i) ∧ Aside0 (w'.heap[g5]? = some (.cells (dArr (dRun i kk M0)) 87 (0, 0))) ∧ Aside0 (w'.heap[g4]? = some (.cells (dArr dZero) 87 (0, 0))) ∧ Aside0 (Below w.heap.size w w'))
          case atStart => exact ⟨0, rfl, ⟨by omega⟩, HG5, HG4, HB⟩
          case round =>
            clear HG5 HG4 HB
            obtain ⟨kk, rfl, HK, HG5, HG4, HB⟩ := hrel
            by_cases c3 : kk < i
            · have cb3 : decide ((kk : Int) < (i : Int)) = true := by simpa using c3
              go_wp2
              go_loopg [46] i (fun kq v46 w' => ∃ aa : Nat, v46 = .int .i64 (aa : Int) ∧ Aside0 (aa + kq = i) ∧ Aside0 (w'.heap[g5]? = some (.cells (dArr (dRunA i kk aa (dRun i kk M0))) 87 (0, 0))) ∧ Aside0 (w'.heap[g4]? = some (.cells (dArr dZero) 87 (0, 0))) ∧ Aside0 (Below w.heap.size w w'))
              case atStart => exact ⟨0, rfl, ⟨by omega⟩, HG5, HG4, HB⟩
              case round =>
                clear HG5 HG4 HB
                obtain ⟨aa, rfl, HA, HG5, HG4, HB⟩ := hrel
                by_cases c4 : aa < i
                · have cb4 : decide ((aa : Int) < (i : Int)) = true := by simpa using c4
                  go_wp2
                  go_loopg [50] i (fun kq v50 w' => ∃ bb : Nat, v50 = .int .i64 (bb : Int) ∧ Aside0 (bb + kq = i) ∧ Aside0 (w'.heap[g5]? = some (.cells (dArr (dRunB kk aa bb (dRunA i kk aa (dRun i kk M0)))) 87 (0, 0))) ∧ Aside0 (w'.heap[g4]? = some (.cells (dArr dZero) 87 (0, 0))) ∧ Aside0 (Below w.heap.size w w'))
                  case atStart => exact ⟨0, rfl, ⟨by omega⟩, HG5, HG4, HB⟩
                  case round =>
                    clear HG5 HG4 HB
                    obtain ⟨bb, rfl, HBB, HG5, HG4, HB⟩ := hrel
                    by_cases c5 : bb < i
                    · have cb5 : decide ((bb : Int) < (i : Int)) = true := by simpa using c5
                      obtain ⟨M, hM⟩ : ∃ M, M = dRunB kk aa bb (dRunA i kk aa (dRun i kk M0)) := ⟨_, rfl⟩
                      have hML : M.length = 256 := by rw [hM, dRunB_len, dRunA_len, dRun_len]; exact HM0.out
                      have hstep : dRunB kk aa (bb + 1) (dRunA i kk aa (dRun i kk M0)) = dStep kk aa bb M := by rw [hM]; simp [dRunB, List.range_succ, List.foldl_append]
                      rw [← hM] at HG5
                      have hk16 : kk < 16 := by have := HN.out; omega
                      have ha16 : aa < 16 := by have := HN.out; omega
                      have hb16 : bb < 16 := by have := HN.out; omega
                      have cell : ∀ q, q < 256 → wr.cell? ⟨g5, q, none⟩ = some (.int .i64 (M.getD q 0)) := fun q hq => by
                        rw [blk_cell HG5.out]
                        exact dArr_get (by omega)
                      have hx1 : wr.cell? ⟨g5, aa * 16 + kk, none⟩ = some (.int .i64 (dGet M aa kk)) := cell _ (by omega)
                      have hx2 : wr.cell? ⟨g5, kk * 16 + bb, none⟩ = some (.int .i64 (dGet M kk bb)) := cell _ (by omega)
                      have hx3 : wr.cell? ⟨g5, aa * 16 + bb, none⟩ = some (.int .i64 (dGet M aa bb)) := cell _ (by omega)
                      have hf3 : wr.frozen? ⟨g5, aa * 16 + bb, none⟩ = false := blk_frozen HG5.out _
                      clear cell hM
                      by_cases d1 : dGet M aa kk < 0
                      · have db1 : decide (dGet M aa kk < 0) = true := decide_eq_true d1
                        go_wp2
                        go_roundg (i - (bb + 1))
                        case measure => have := HBB.out; omega
                        case rel => exact ⟨bb + 1, (by first | rfl | rw [dW bb (by omega)]), ⟨by omega⟩, ⟨by rw [hstep, dStep, if_pos (Or.inl d1)]; exact HG5.out⟩, HG4, HB⟩
                      · have db1 : decide (dGet M aa kk < 0) = false := decide_eq_false d1
                        by_cases d2 : dGet M kk bb < 0
                        · have db2 : decide (dGet M kk bb < 0) = true := decide_eq_true d2
                          go_wp2
                          go_roundg (i - (bb + 1))
                          case measure => have := HBB.out; omega
                          case rel => exact ⟨bb + 1, (by first | rfl | rw [dW bb (by omega)]), ⟨by omega⟩, ⟨by rw [hstep, dStep, if_pos (Or.inr d2)]; exact HG5.out⟩, HG4, HB⟩
                        · have db2 : decide (dGet M kk bb < 0) = false := decide_eq_false d2
                          by_cases d3 : dGet M aa bb < 0 ∨ wrap64 (dGet M aa kk + dGet M kk bb) < dGet M aa bb
                          · have es : dStep kk aa bb M = dSet M aa bb (wrap64 (dGet M aa kk + dGet M kk bb)) := by
                              unfold dStep
                              rw [if_neg (by omega), if_pos d3]
                            by_cases d4 : dGet M aa bb < 0
                            · have db4 : decide (dGet M aa bb < 0) = true := decide_eq_true d4
                              go_wp2
                              go_region
                              all_goals go_wp2
                              all_goals go_roundg (i - (bb + 1))
                              case measure => have := HBB.out; omega
                              case rel => exact ⟨bb + 1, (by first | rfl | rw [dW bb (by omega)]), ⟨by omega⟩, ⟨by rw [hstep, es, dSet, ← dArr_set]; exact blk_set HG5.out _ _⟩, ⟨blk_far HG4.out HNE.out _⟩, ⟨below_drew1 (below_set HB.out HS5.out)⟩⟩
                            · have db4 : decide (dGet M aa bb < 0) = false := decide_eq_false d4
                              have db5 : decide (wrap64 (dGet M aa kk + dGet M kk bb) < dGet M aa bb) = true := decide_eq_true (by omega)
                              go_wp2
                              go_region
                              all_goals go_wp2
                              all_goals go_roundg (i - (bb + 1))
                              case measure => have := HBB.out; omega
                              case rel => exact ⟨bb + 1, (by first | rfl | rw [dW bb (by omega)]), ⟨by omega⟩, ⟨by rw [hstep, es, dSet, ← dArr_set]; exact blk_set HG5.out _ _⟩, ⟨blk_far HG4.out HNE.out _⟩, ⟨below_drew1 (below_set HB.out HS5.out)⟩⟩
                          · have es : dStep kk aa bb M = M := by
                              unfold dStep
                              rw [if_neg (by omega), if_neg d3]
                            have db4 : decide (dGet M aa bb < 0) = false := decide_eq_false (by omega)
                            have db5 : decide (wrap64 (dGet M aa kk + dGet M kk bb) < dGet M aa bb) = false := decide_eq_false (by omega)
                            go_wp2
                            go_region
                            all_goals go_wp2
                            all_goals go_roundg (i - (bb + 1))
                            case measure => have := HBB.out; omega
                            case rel => exact ⟨bb + 1, (by first | rfl | rw [dW bb (by omega)]), ⟨by omega⟩, ⟨by rw [hstep, es]; exact HG5.out⟩, ⟨HG4.out⟩, ⟨below_drew1 HB.out⟩⟩
                    · have cb5 : decide ((bb : Int) < (i : Int)) = false := by simpa using c5
                      have ej : bb = i := by have := HBB.out; omega
                      subst ej
                      go_wp2
                      go_roundg (bb - (aa + 1))
                      case measure => have := HA.out; omega
                      case rel => exact ⟨aa + 1, (by first | rfl | rw [dW aa (by have := HN.out; omega)]), ⟨by omega⟩, ⟨by rw [show dRunA bb kk (aa + 1) (dRun bb kk M0) = dRunB kk aa bb (dRunA bb kk aa (dRun bb kk M0)) by simp [dRunA, List.range_succ, List.foldl_append]]; exact HG5.out⟩, HG4, HB⟩
                · have cb4 : decide ((aa : Int) < (i : Int)) = false := by simpa using c4
                  have ej : aa = i := by have := HA.out; omega
                  subst ej
                  go_wp2
                  go_roundg (aa - (kk + 1))
                  case measure => have := HK.out; omega
                  case rel => exact ⟨kk + 1, (by first | rfl | rw [dW kk (by have := HN.out; omega)]), ⟨by omega⟩, ⟨by rw [show dRun aa (kk + 1) M0 = dRunA aa kk aa (dRun aa kk M0) by simp [dRun, List.range_succ, List.foldl_append]]; exact HG5.out⟩, HG4, HB⟩
            · have cb3 : decide ((kk : Int) < (i : Int)) = false := by simpa using c3
              have ej : kk = i := by have := HK.out; omega
              subst ej
              rw [HR.out] at HG5
              have hsz : (Try.prog.info? 87).map (·.size) = some (dArr r).size := by rw [dArr_size, HLEN.out]; kernel_rfl
              have huArr := Try.underlying87
              go_wp2_with (first
                | (refine wpList_load_row rfl 87 (.tmp 5) rfl g5 rfl 87 (dArr r) (0, 0) _ HG5.out huArr rfl hsz ?_)
                | (refine wpList_store_row rfl 87 (.tmp 4) (.tmp 101) rfl g4 (dArr r) rfl rfl 87 (dArr dZero) HG4.out hsz ?hold (dArr_one r) ?_; (case hold => rw [dArr_size, dArr_size, HLEN.out]; simp only [dZero, List.length_replicate])))
              (try simp only [Exit.inBlock, Exit.then])
              exact bodyPost_ret_by (results_cell_row rfl _ _ g4 87 (dArr r) (0, 0) _ rfl (setRow_heap _ g4 _ (dArr r) 87 (0, 0) HG4.out) huArr rfl hsz) rfl ⟨rfl, below_setRow HB.out HS4.out _⟩

/-! ### impl_Ahead: function 24 -/
theorem infoRow : (Try.prog.info? 86).map (fun i => (i.size, i.bytes)) = some (16, 128) := by kernel_rfl
theorem infoNum : (Try.prog.info? 3).map (fun i => (i.size, i.bytes)) = some (1, 8) := by kernel_rfl
theorem idxOuter (M : List Int) (a : Nat) (ha : a < 16) (W : World) : (Instr.index 87 (.agg (dArr M)) (.int .i64 (a : Int))).run Try.prog W = .ok (.agg ((dArr M).extract (a * 16) (a * 16 + 16))) W := by
  obtain ⟨i, hi, hz⟩ := Option.map_eq_some_iff.1 infoRow
  simp only [Prod.mk.injEq] at hz
  have hu := Try.underlying87
  have hu2 := Try.underlying86
  simp [Instr.index, asIntOf, hu, hu2, part, isAgg, sizeOf, typeInfo, hi, hz.1]
  intro h; omega
theorem idxInner (M : List Int) (hM : M.length = 256) (a b : Nat) (ha : a < 16) (hb : b < 16) (W : World) : (Instr.index 86 (.agg ((dArr M).extract (a * 16) (a * 16 + 16))) (.int .i64 (b : Int))).run Try.prog W = .ok (.int .i64 (dGet M a b)) W := by
  obtain ⟨i, hi, hz⟩ := Option.map_eq_some_iff.1 infoNum
  simp only [Prod.mk.injEq] at hz
  have hu := Try.underlying86
  have hu2 := Try.underlying3
  have hc : ((dArr M).extract (a * 16) (a * 16 + 16))[b]? = some (.int .i64 (dGet M a b)) := by
    rw [Array.getElem?_extract]
    rw [if_pos (by rw [dArr_size]; omega), dArr_get (by omega)]
    rfl
  simp [Instr.index, asIntOf, hu, hu2, part, isAgg, sizeOf, typeInfo, hi, hz.1, hc]
  intro h; omega
def impl_Ahead.f (k : Nat) (a0 : Int) (l1 : List (S60)) (a2 a3 : Int) : Option Bool :=
  (impl_GraphOk.f k a0 l1).bind fun t1 => if t1 = true then ((impl_within.f a2 0 (wrap64 (a0 - 1))).bind fun t2 => if t2 = true then ((impl_within.f a3 0 (wrap64 (a0 - 1))).bind fun t3 => if t3 = true then ((impl_dist.f a0 l1).bind fun M => if 0 ≤ a2 ∧ a2 < 16 ∧ 0 ≤ a3 ∧ a3 < 16 then some (decide (dGet M a2.toNat a3.toNat > 0)) else none) else some false) else some false) else some false
theorem impl_Ahead.mono : ∀ a0 a1 a2 a3 k, LeO (impl_Ahead.f k a0 a1 a2 a3) (impl_Ahead.f (k + 1) a0 a1 a2 a3) := by
  intro a0 a1 a2 a3 k
  unfold impl_Ahead.f
  exact LeO.bind (impl_GraphOk.mono _ _ _) (fun _ => LeO.refl _)
set_option maxHeartbeats 8000000 in
set_option maxRecDepth 100000 in
theorem impl_Ahead.calls (k : Nat) (a0 : Int) (A1 : Option Addr) (c1 : Nat) (l1 : List (S60)) (a2 a3 : Int) (r : Bool) (w : World) (hr1 : Kd.C k60 w A1 l1.length l1) (hc1 : l1.length ≤ c1) (h : impl_Ahead.f k a0 l1 a2 a3 = some r) :
    Calls Try.prog 24 #[.int .i64 a0, .slice A1 l1.length c1, .int .i64 a2, .int .i64 a3] w fun e w' => e = .returned (.bool r) ∧ Below w.heap.size w w' := by
  have HR1 := Aside0.mk hr1
  have HC1 := Aside0.mk hc1
  clear hr1 hc1
  have HB := Aside0.mk (Below.refl w.heap.size w)
  unfold impl_Ahead.f at h
  obtain ⟨t1, e1, h⟩ := Option.bind_eq_some_iff.mp h
  have E1 := Aside0.mk e1
  clear e1
  cases t1 with
  | false =>
    rw [if_neg (by simp)] at h
    obtain rfl := Option.some.inj h
    go_enter Try.func24, Try.ntmps24
    go_wp2_with (first | (go_at_call 18; (with_reducible refine (impl_GraphOk.calls k a0 _ _ l1 false _ HR1.out HC1.out E1.out).mono ?_); rintro e w1 ⟨rfl, hb1⟩; have HB1 := Aside0.mk hb1; clear hb1))
    go_ret
    exact ⟨rfl, HB1.out⟩
  | true =>
    rw [if_pos rfl] at h
    obtain ⟨t2, e2, h⟩ := Option.bind_eq_some_iff.mp h
    have E2 := Aside0.mk e2
    clear e2
    cases t2 with
    | false =>
      rw [if_neg (by simp)] at h
      obtain rfl := Option.some.inj h
      go_enter Try.func24, Try.ntmps24
      go_wp2_with (first | (go_at_call 18; (with_reducible refine (impl_GraphOk.calls k a0 _ _ l1 true _ HR1.out HC1.out E1.out).mono ?_); rintro e w1 ⟨rfl, hb1⟩; have HB1 := Aside0.mk hb1; clear hb1) | (go_at_call 56; (with_reducible refine (impl_within.calls a2 0 (wrap64 (a0 - 1)) false _ E2.out).mono ?_); rintro e w' ⟨rfl, ⟨nd, rfl⟩⟩))
      go_ret
      exact ⟨rfl, by repeat (first | (with_reducible first | exact HB1.out | apply pw_below_drewN | apply below_drew1) | exact HB1.out)⟩
    | true =>
      rw [if_pos rfl] at h
      obtain ⟨t3, e3, h⟩ := Option.bind_eq_some_iff.mp h
      have E3 := Aside0.mk e3
      clear e3
      cases t3 with
      | false =>
        rw [if_neg (by simp)] at h
        obtain rfl := Option.some.inj h
        go_enter Try.func24, Try.ntmps24
        go_wp2_with (first | (go_at_call 18; (with_reducible refine (impl_GraphOk.calls k a0 _ _ l1 true _ HR1.out HC1.out E1.out).mono ?_); rintro e w1 ⟨rfl, hb1⟩; have HB1 := Aside0.mk hb1; clear hb1) | (go_at_call 56; (with_reducible refine (impl_within.calls a2 0 (wrap64 (a0 - 1)) true _ E2.out).mono ?_); rintro e w' ⟨rfl, ⟨nd, rfl⟩⟩) | (go_at_call 56; (with_reducible refine (impl_within.calls a3 0 (wrap64 (a0 - 1)) false _ E3.out).mono ?_); rintro e w' ⟨rfl, ⟨nd, rfl⟩⟩))
        go_ret
        exact ⟨rfl, by repeat (first | (with_reducible first | exact HB1.out | apply pw_below_drewN | apply below_drew1) | exact HB1.out)⟩
      | true =>
        rw [if_pos rfl] at h
        obtain ⟨M, e4, h⟩ := Option.bind_eq_some_iff.mp h
        have E4 := Aside0.mk e4
        have HM := impl_dist.len e4
        clear e4
        by_cases hq : 0 ≤ a2 ∧ a2 < 16 ∧ 0 ≤ a3 ∧ a3 < 16
        case neg => rw [if_neg hq] at h; cases h
        rw [if_pos hq] at h
        obtain rfl := Option.some.inj h
        obtain ⟨a, rfl⟩ : ∃ a : Nat, a2 = (a : Int) := ⟨a2.toNat, by omega⟩
        obtain ⟨b, rfl⟩ : ∃ b : Nat, a3 = (b : Int) := ⟨a3.toNat, by omega⟩
        rw [Int.toNat_natCast, Int.toNat_natCast]
        have hi1 := idxOuter M a (by omega)
        have hi2 := idxInner M HM a b (by omega) (by omega)
        clear hq h HM
        go_enter Try.func24, Try.ntmps24
        go_wp2_with (first | (go_at_call 18; (with_reducible refine (impl_GraphOk.calls k a0 _ _ l1 true _ HR1.out HC1.out E1.out).mono ?_); rintro e w1 ⟨rfl, hb1⟩; have HB1 := Aside0.mk hb1; clear hb1) | (go_at_call 56; (with_reducible refine (impl_within.calls (a : Int) 0 (wrap64 (a0 - 1)) true _ E2.out).mono ?_); rintro e w' ⟨rfl, ⟨nd, rfl⟩⟩) | (go_at_call 56; (with_reducible refine (impl_within.calls (b : Int) 0 (wrap64 (a0 - 1)) true _ E3.out).mono ?_); rintro e w' ⟨rfl, ⟨nd, rfl⟩⟩) | (go_at_call 65; (with_reducible refine (impl_dist.calls a0 _ _ l1 M _ ?s1 HC1.out E4.out).mono ?_); (case s1 => repeat (first | exact Kd.C_below HR1.out HB1.out | (with_reducible refine Kd.C_drewN ?_ _) | (with_reducible refine Kd.C_drew ?_))); rintro e w2 ⟨rfl, hb2⟩; have HB2 := Aside0.mk hb2; clear hb2))
        go_ret
        exact ⟨rfl, below_step (by repeat (first | (with_reducible first | exact HB1.out | apply pw_below_drewN | apply below_drew1) | exact HB1.out)) HB2.out⟩

/-! ### laws_FnExactAhead: function 5 -/
def laws_FnExactAhead.f (k : Nat) (a0 : Int) (l1 : List (S78)) (a2 : Int) (a3 : Int) : Option (Bool) := (laws_szEdgeS.f l1 1048576).bind fun t142 => (if t142 < 0 then (some true) else ((laws_toEdgeS.f k l1).bind fun t143 => ((spec_Ahead.f k a0 t143 a2 a3).bind fun t146 => ((laws_toEdgeS.f k l1).bind fun t147 => ((impl_Ahead.f k a0 t147 a2 a3).bind fun t150 => (if (t150 != t146) = true then (some false) else ((laws_toEdgeS.f k l1).bind fun t151 => ((laws_eqEdgeS.f k t147 t151).bind fun t154 => (if t154 = true then (some true) else (some false))))))))))
theorem laws_FnExactAhead.mono : ∀ a0 a1 a2 a3 k, LeO (laws_FnExactAhead.f k a0 a1 a2 a3) (laws_FnExactAhead.f (k + 1) a0 a1 a2 a3) := by
  intro a0 a1 a2 a3 k
  unfold laws_FnExactAhead.f
  repeat' first
      | (with_reducible exact impl_Ahead.mono _ _ _ _ _)
      | (with_reducible exact laws_eqEdgeS.mono _ _ _)
      | (with_reducible exact laws_toEdgeS.mono _ _)
      | (with_reducible exact spec_Ahead.mono _ _ _ _ _)
      | (with_reducible exact LeO.refl _)
      | (with_reducible exact LeO.none _)
      | (with_reducible refine LeO.ite ?_ ?_)
      | (with_reducible refine LeO.bind ?_ (fun _ => ?_))
      | exact impl_Ahead.mono _ _ _ _ _
      | exact laws_eqEdgeS.mono _ _ _
      | exact laws_toEdgeS.mono _ _
      | exact spec_Ahead.mono _ _ _ _ _
      | exact LeO.none _
      | refine LeO.ite ?_ ?_
      | refine LeO.bind ?_ (fun _ => ?_)
set_option maxHeartbeats 8000000 in
set_option maxRecDepth 100000 in
theorem laws_FnExactAhead.calls (k : Nat) (a0 : Int) (A1 : Option Addr) (c1 : Nat) (l1 : List (S78)) (a2 : Int) (a3 : Int) (r : Bool) (w : World) (hr1 : Kd.C k78 w A1 l1.length l1) (hc1 : l1.length ≤ c1) (h : laws_FnExactAhead.f k a0 l1 a2 a3 = some r) :
    Calls Try.prog 5 #[.int .i64 a0, .slice A1 l1.length c1, .int .i64 a2, .int .i64 a3] w fun e w' => e = .returned (.bool r) ∧ Below w.heap.size w w' := by
  have HR1 := Aside0.mk hr1
  have HC1 := Aside0.mk hc1
  clear hr1 hc1
  have HB := Aside0.mk (Below.refl w.heap.size w)
  have H : ((laws_szEdgeS.f l1 1048576).bind fun t142 => (if t142 < 0 then (some true) else ((laws_toEdgeS.f k l1).bind fun t143 => ((spec_Ahead.f k a0 t143 a2 a3).bind fun t146 => ((laws_toEdgeS.f k l1).bind fun t147 => ((impl_Ahead.f k a0 t147 a2 a3).bind fun t150 => (if (t150 != t146) = true then (some false) else ((laws_toEdgeS.f k l1).bind fun t151 => ((laws_eqEdgeS.f k t147 t151).bind fun t154 => (if t154 = true then (some true) else (some false))))))))))) = some r := h
  clear h
  replace H := Option.bind_eq_some_iff.mp H
  obtain ⟨t142, A50, H⟩ := H
  replace H : (if t142 < 0 then (some true) else ((laws_toEdgeS.f k l1).bind fun t143 => ((spec_Ahead.f k a0 t143 a2 a3).bind fun t146 => ((laws_toEdgeS.f k l1).bind fun t147 => ((impl_Ahead.f k a0 t147 a2 a3).bind fun t150 => (if (t150 != t146) = true then (some false) else ((laws_toEdgeS.f k l1).bind fun t151 => ((laws_eqEdgeS.f k t147 t151).bind fun t154 => (if t154 = true then (some true) else (some false)))))))))) = some r := H
  have A5 := Aside0.mk A50
  clear A50
  by_cases c6 : t142 < 0
  · rw [if_pos c6] at H
    have c6b0 : decide (t142 < 0) = true := decide_eq_true c6
    clear c6
    obtain rfl := Option.some.inj H
    go_enter Try.func5, Try.ntmps5
    go_wp2_with (first | ((with_reducible refine gate_callee (f := 15) rfl ?_); refine goesL_ (some 15) rfl rfl Try.func15 (by kernel_rfl) rfl #[.slice A1 l1.length c1, .int .i64 1048576] rfl (by (try simp only [List.map_toArray, List.map_cons, List.map_nil]); first | done | rfl | (simp only [List.length_drop, List.length_take]; rfl)) ?_; (with_reducible refine (laws_szEdgeS.calls _ _ l1 1048576 t142 _ ?side1 ?side2 A5.out).mono ?_); (case side1 => repeat (first | exact HR1.out | (with_reducible refine Kd.C_alloc ?_ _) | (with_reducible refine Kd.C_drewN ?_ _) | (with_reducible refine Kd.C_drew ?_))); (case side2 => exact HC1.out); rintro e w' ⟨rfl, ⟨nd, rfl⟩⟩; refine ⟨_, rfl, ?_⟩))
    go_ret
    exact ⟨by first | rfl | (simp [errW_none, errW_some] <;> rfl) | (simp [*, errW_none, errW_some] <;> rfl), by repeat (first | (with_reducible first | exact HB.out | apply below_alloc | apply pw_below_drewN | apply below_drew1) | exact HB.out)⟩
  · rw [if_neg c6] at H
    have c6b0 : decide (t142 < 0) = false := decide_eq_false c6
    clear c6
    replace H := Option.bind_eq_some_iff.mp H
    obtain ⟨t143, A70, H⟩ := H
    replace H : ((spec_Ahead.f k a0 t143 a2 a3).bind fun t146 => ((laws_toEdgeS.f k l1).bind fun t147 => ((impl_Ahead.f k a0 t147 a2 a3).bind fun t150 => (if (t150 != t146) = true then (some false) else ((laws_toEdgeS.f k l1).bind fun t151 => ((laws_eqEdgeS.f k t147 t151).bind fun t154 => (if t154 = true then (some true) else (some false)))))))) = some r := H
    have A7 := Aside0.mk A70
    clear A70
    replace H := Option.bind_eq_some_iff.mp H
    obtain ⟨t146, A80, H⟩ := H
    replace H : ((laws_toEdgeS.f k l1).bind fun t147 => ((impl_Ahead.f k a0 t147 a2 a3).bind fun t150 => (if (t150 != t146) = true then (some false) else ((laws_toEdgeS.f k l1).bind fun t151 => ((laws_eqEdgeS.f k t147 t151).bind fun t154 => (if t154 = true then (some true) else (some false))))))) = some r := H
    have A8 := Aside0.mk A80
    clear A80
    replace H := Option.bind_eq_some_iff.mp H
    obtain ⟨t147, A90, H⟩ := H
    replace H : ((impl_Ahead.f k a0 t147 a2 a3).bind fun t150 => (if (t150 != t146) = true then (some false) else ((laws_toEdgeS.f k l1).bind fun t151 => ((laws_eqEdgeS.f k t147 t151).bind fun t154 => (if t154 = true then (some true) else (some false)))))) = some r := H
    have A9 := Aside0.mk A90
    clear A90
    replace H := Option.bind_eq_some_iff.mp H
    obtain ⟨t150, A100, H⟩ := H
    replace H : (if (t150 != t146) = true then (some false) else ((laws_toEdgeS.f k l1).bind fun t151 => ((laws_eqEdgeS.f k t147 t151).bind fun t154 => (if t154 = true then (some true) else (some false))))) = some r := H
    have A10 := Aside0.mk A100
    clear A100
    by_cases c11 : (t150 != t146) = true
    · rw [if_pos c11] at H
      have c11b0 : (t150 != t146) = true := c11
      (try (have c11b1 : decide (t150 = t146) = false := by simpa using c11))
      (try (have c11b2 : (t150 == t146) = false := by simpa using c11))
      (try (have c11b3 : ¬ (t150 = t146) := by simpa using c11))
      clear c11
      obtain rfl := Option.some.inj H
      go_enter Try.func5, Try.ntmps5
      go_wp2_with (first | ((with_reducible refine gate_callee (f := 15) rfl ?_); refine goesL_ (some 15) rfl rfl Try.func15 (by kernel_rfl) rfl #[.slice A1 l1.length c1, .int .i64 1048576] rfl (by (try simp only [List.map_toArray, List.map_cons, List.map_nil]); first | done | rfl | (simp only [List.length_drop, List.length_take]; rfl)) ?_; (with_reducible refine (laws_szEdgeS.calls _ _ l1 1048576 t142 _ ?side1 ?side2 A5.out).mono ?_); (case side1 => repeat (first | exact HR1.out | (with_reducible refine Kd.C_alloc ?_ _) | (with_reducible refine Kd.C_drewN ?_ _) | (with_reducible refine Kd.C_drew ?_))); (case side2 => exact HC1.out); rintro e w' ⟨rfl, ⟨nd, rfl⟩⟩; refine ⟨_, rfl, ?_⟩) | ((with_reducible refine gate_callee (f := 17) rfl ?_); refine goesL_ (some 20) rfl rfl Try.func17 (by kernel_rfl) rfl #[.slice A1 l1.length c1] rfl (by (try simp only [List.map_toArray, List.map_cons, List.map_nil]); first | done | rfl | (simp only [List.length_drop, List.length_take]; rfl)) ?_; (with_reducible refine (laws_toEdgeS.calls k _ _ l1 t143 _ ?side1 ?side2 A7.out).mono ?_); (case side1 => repeat (first | exact HR1.out | (with_reducible refine Kd.C_alloc ?_ _) | (with_reducible refine Kd.C_drewN ?_ _) | (with_reducible refine Kd.C_drew ?_))); (case side2 => exact HC1.out); rintro e w12 ⟨v144, rfl, ho0, hb⟩; refine ⟨_, rfl, ?_⟩; have n0_ := Aside0.mk (Kd.R_lower ho0 (below_size (by repeat (first | (with_reducible first | exact HB.out | apply below_alloc | apply pw_below_drewN | apply below_drew1) | exact HB.out)))); have n1_ := Aside0.mk (below_step (by repeat (first | (with_reducible first | exact HB.out | apply below_alloc | apply pw_below_drewN | apply below_drew1) | exact HB.out)) hb); clear HB; have HO145 := n0_; have HB := n1_; clear n0_ n1_; (try clear hb); (try clear hb2); (try clear hk); (try clear hi); (try clear ho0); obtain ⟨Ao13, co13, eo13⟩ := Kd.R_slice HO145.out; subst eo13) | ((with_reducible refine gate_callee (f := 23) rfl ?_); refine goesL_ (some 23) rfl rfl Try.func23 (by kernel_rfl) rfl #[.int .i64 a0, .slice Ao13 t143.length co13, .int .i64 a2, .int .i64 a3] rfl (by (try simp only [List.map_toArray, List.map_cons, List.map_nil]); first | done | rfl | (simp only [List.length_drop, List.length_take]; rfl)) ?_; (with_reducible refine (spec_Ahead.calls k a0 _ _ t143 a2 a3 t146 _ ?side1 ?side2 A8.out).mono ?_); (case side1 => repeat (first | exact (Kd.R_reads' HO145.out).2.2 | (with_reducible refine Kd.C_alloc ?_ _) | (with_reducible refine Kd.C_drewN ?_ _) | (with_reducible refine Kd.C_drew ?_))); (case side2 => exact (Kd.R_reads' HO145.out).2.1); rintro e w14 ⟨rfl, hb⟩; refine ⟨_, rfl, ?_⟩; have n0_ := Aside0.mk (Kd.R_below (by (with_reducible repeat (first | apply Kd.R_alloc | apply Kd.R_drewN | apply Kd.R_drew)); exact HO145.out) hb); have n1_ := Aside0.mk (below_step (by repeat (first | (with_reducible first | exact HB.out | apply below_alloc | apply pw_below_drewN | apply below_drew1) | exact HB.out)) hb); clear HO145; clear HB; have HO145 := n0_; have HB := n1_; clear n0_ n1_; (try clear hb); (try clear hb2); (try clear hk); (try clear hi)) | ((with_reducible refine gate_callee (f := 17) rfl ?_); refine goesL_ (some 25) rfl rfl Try.func17 (by kernel_rfl) rfl #[.slice A1 l1.length c1] rfl (by (try simp only [List.map_toArray, List.map_cons, List.map_nil]); first | done | rfl | (simp only [List.length_drop, List.length_take]; rfl)) ?_; (with_reducible refine (laws_toEdgeS.calls k _ _ l1 t147 _ ?side1 ?side2 A9.out).mono ?_); (case side1 => repeat (first | exact (Kd.C_below HR1.out HB.out) | (with_reducible refine Kd.C_alloc ?_ _) | (with_reducible refine Kd.C_drewN ?_ _) | (with_reducible refine Kd.C_drew ?_))); (case side2 => exact HC1.out); rintro e w15 ⟨v148, rfl, ho0, hb⟩; refine ⟨_, rfl, ?_⟩; have n0_ := Aside0.mk (Kd.R_elder' (by (with_reducible repeat (first | apply Kd.R_alloc | apply Kd.R_drewN | apply Kd.R_drew)); exact HO145.out) (Kd.R_base ho0) hb); have n1_ := Aside0.mk (Kd.R_lower (Kd.R_new' ho0 (Kd.R_lt (by (with_reducible repeat (first | apply Kd.R_alloc | apply Kd.R_drewN | apply Kd.R_drew)); exact HO145.out))) (below_size (by repeat (first | (with_reducible first | exact HB.out | apply below_alloc | apply pw_below_drewN | apply below_drew1) | exact HB.out)))); have n2_ := Aside0.mk (below_step (by repeat (first | (with_reducible first | exact HB.out | apply below_alloc | apply pw_below_drewN | apply below_drew1) | exact HB.out)) hb); clear HO145; clear HB; have HO145 := n0_; have HO149 := n1_; have HB := n2_; clear n0_ n1_ n2_; (try clear hb); (try clear hb2); (try clear hk); (try clear hi); (try clear ho0); obtain ⟨Ao16, co16, eo16⟩ := Kd.R_slice HO149.out; subst eo16) | ((with_reducible refine gate_callee (f := 24) rfl ?_); refine goesL_ (some 30) rfl rfl Try.func24 (by kernel_rfl) rfl #[.int .i64 a0, .slice Ao16 t147.length co16, .int .i64 a2, .int .i64 a3] rfl (by (try simp only [List.map_toArray, List.map_cons, List.map_nil]); first | done | rfl | (simp only [List.length_drop, List.length_take]; rfl)) ?_; (with_reducible refine (impl_Ahead.calls k a0 _ _ t147 a2 a3 t150 _ ?side1 ?side2 A10.out).mono ?_); (case side1 => repeat (first | exact (Kd.R_reads' HO149.out).2.2 | (with_reducible refine Kd.C_alloc ?_ _) | (with_reducible refine Kd.C_drewN ?_ _) | (with_reducible refine Kd.C_drew ?_))); (case side2 => exact (Kd.R_reads' HO149.out).2.1); rintro e w17 ⟨rfl, hb⟩; refine ⟨_, rfl, ?_⟩; have n0_ := Aside0.mk (Kd.R_below (by (with_reducible repeat (first | apply Kd.R_alloc | apply Kd.R_drewN | apply Kd.R_drew)); exact HO145.out) hb); have n1_ := Aside0.mk (Kd.R_below (by (with_reducible repeat (first | apply Kd.R_alloc | apply Kd.R_drewN | apply Kd.R_drew)); exact HO149.out) hb); have n2_ := Aside0.mk (below_step (by repeat (first | (with_reducible first | exact HB.out | apply below_alloc | apply pw_below_drewN | apply below_drew1) | exact HB.out)) hb); clear HO145; clear HO149; clear HB; have HO145 := n0_; have HO149 := n1_; have HB := n2_; clear n0_ n1_ n2_; (try clear hb); (try clear hb2); (try clear hk); (try clear hi)))
      go_ret
      exact ⟨by first | rfl | (simp [errW_none, errW_some] <;> rfl) | (simp [*, errW_none, errW_some] <;> rfl), by repeat (first | (with_reducible first | exact HB.out | apply below_alloc | apply pw_below_drewN | apply below_drew1) | exact HB.out)⟩
    · rw [if_neg c11] at H
      have c11b0 : (t150 != t146) = false := by simpa using c11
      (try (have c11b1 : decide (t150 = t146) = true := by simpa using c11))
      (try (have c11b2 : (t150 == t146) = true := by simpa using c11))
      clear c11
      replace H := Option.bind_eq_some_iff.mp H
      obtain ⟨t151, A180, H⟩ := H
      replace H : ((laws_eqEdgeS.f k t147 t151).bind fun t154 => (if t154 = true then (some true) else (some false))) = some r := H
      have A18 := Aside0.mk A180
      clear A180
      replace H := Option.bind_eq_some_iff.mp H
      obtain ⟨t154, A190, H⟩ := H
      replace H : (if t154 = true then (some true) else (some false)) = some r := H
      have A19 := Aside0.mk A190
      clear A190
      by_cases c20 : t154 = true
      · subst c20
        have H1 : (some true) = some r := by rw [if_pos rfl] at H; exact H
        clear H
        have H := H1
        clear H1
        obtain rfl := Option.some.inj H
        go_enter Try.func5, Try.ntmps5
        go_wp2_with (first | ((with_reducible refine gate_callee (f := 15) rfl ?_); refine goesL_ (some 15) rfl rfl Try.func15 (by kernel_rfl) rfl #[.slice A1 l1.length c1, .int .i64 1048576] rfl (by (try simp only [List.map_toArray, List.map_cons, List.map_nil]); first | done | rfl | (simp only [List.length_drop, List.length_take]; rfl)) ?_; (with_reducible refine (laws_szEdgeS.calls _ _ l1 1048576 t142 _ ?side1 ?side2 A5.out).mono ?_); (case side1 => repeat (first | exact HR1.out | (with_reducible refine Kd.C_alloc ?_ _) | (with_reducible refine Kd.C_drewN ?_ _) | (with_reducible refine Kd.C_drew ?_))); (case side2 => exact HC1.out); rintro e w' ⟨rfl, ⟨nd, rfl⟩⟩; refine ⟨_, rfl, ?_⟩) | ((with_reducible refine gate_callee (f := 17) rfl ?_); refine goesL_ (some 20) rfl rfl Try.func17 (by kernel_rfl) rfl #[.slice A1 l1.length c1] rfl (by (try simp only [List.map_toArray, List.map_cons, List.map_nil]); first | done | rfl | (simp only [List.length_drop, List.length_take]; rfl)) ?_; (with_reducible refine (laws_toEdgeS.calls k _ _ l1 t143 _ ?side1 ?side2 A7.out).mono ?_); (case side1 => repeat (first | exact HR1.out | (with_reducible refine Kd.C_alloc ?_ _) | (with_reducible refine Kd.C_drewN ?_ _) | (with_reducible refine Kd.C_drew ?_))); (case side2 => exact HC1.out); rintro e w21 ⟨v144, rfl, ho0, hb⟩; refine ⟨_, rfl, ?_⟩; have n0_ := Aside0.mk (Kd.R_lower ho0 (below_size (by repeat (first | (with_reducible first | exact HB.out | apply below_alloc | apply pw_below_drewN | apply below_drew1) | exact HB.out)))); have n1_ := Aside0.mk (below_step (by repeat (first | (with_reducible first | exact HB.out | apply below_alloc | apply pw_below_drewN | apply below_drew1) | exact HB.out)) hb); clear HB; have HO145 := n0_; have HB := n1_; clear n0_ n1_; (try clear hb); (try clear hb2); (try clear hk); (try clear hi); (try clear ho0); obtain ⟨Ao22, co22, eo22⟩ := Kd.R_slice HO145.out; subst eo22) | ((with_reducible refine gate_callee (f := 23) rfl ?_); refine goesL_ (some 23) rfl rfl Try.func23 (by kernel_rfl) rfl #[.int .i64 a0, .slice Ao22 t143.length co22, .int .i64 a2, .int .i64 a3] rfl (by (try simp only [List.map_toArray, List.map_cons, List.map_nil]); first | done | rfl | (simp only [List.length_drop, List.length_take]; rfl)) ?_; (with_reducible refine (spec_Ahead.calls k a0 _ _ t143 a2 a3 t146 _ ?side1 ?side2 A8.out).mono ?_); (case side1 => repeat (first | exact (Kd.R_reads' HO145.out).2.2 | (with_reducible refine Kd.C_alloc ?_ _) | (with_reducible refine Kd.C_drewN ?_ _) | (with_reducible refine Kd.C_drew ?_))); (case side2 => exact (Kd.R_reads' HO145.out).2.1); rintro e w23 ⟨rfl, hb⟩; refine ⟨_, rfl, ?_⟩; have n0_ := Aside0.mk (Kd.R_below (by (with_reducible repeat (first | apply Kd.R_alloc | apply Kd.R_drewN | apply Kd.R_drew)); exact HO145.out) hb); have n1_ := Aside0.mk (below_step (by repeat (first | (with_reducible first | exact HB.out | apply below_alloc | apply pw_below_drewN | apply below_drew1) | exact HB.out)) hb); clear HO145; clear HB; have HO145 := n0_; have HB := n1_; clear n0_ n1_; (try clear hb); (try clear hb2); (try clear hk); (try clear hi)) | ((with_reducible refine gate_callee (f := 17) rfl ?_); refine goesL_ (some 25) rfl rfl Try.func17 (by kernel_rfl) rfl #[.slice A1 l1.length c1] rfl (by (try simp only [List.map_toArray, List.map_cons, List.map_nil]); first | done | rfl | (simp only [List.length_drop, List.length_take]; rfl)) ?_; (with_reducible refine (laws_toEdgeS.calls k _ _ l1 t147 _ ?side1 ?side2 A9.out).mono ?_); (case side1 => repeat (first | exact (Kd.C_below HR1.out HB.out) | (with_reducible refine Kd.C_alloc ?_ _) | (with_reducible refine Kd.C_drewN ?_ _) | (with_reducible refine Kd.C_drew ?_))); (case side2 => exact HC1.out); rintro e w24 ⟨v148, rfl, ho0, hb⟩; refine ⟨_, rfl, ?_⟩; have n0_ := Aside0.mk (Kd.R_elder' (by (with_reducible repeat (first | apply Kd.R_alloc | apply Kd.R_drewN | apply Kd.R_drew)); exact HO145.out) (Kd.R_base ho0) hb); have n1_ := Aside0.mk (Kd.R_lower (Kd.R_new' ho0 (Kd.R_lt (by (with_reducible repeat (first | apply Kd.R_alloc | apply Kd.R_drewN | apply Kd.R_drew)); exact HO145.out))) (below_size (by repeat (first | (with_reducible first | exact HB.out | apply below_alloc | apply pw_below_drewN | apply below_drew1) | exact HB.out)))); have n2_ := Aside0.mk (below_step (by repeat (first | (with_reducible first | exact HB.out | apply below_alloc | apply pw_below_drewN | apply below_drew1) | exact HB.out)) hb); clear HO145; clear HB; have HO145 := n0_; have HO149 := n1_; have HB := n2_; clear n0_ n1_ n2_; (try clear hb); (try clear hb2); (try clear hk); (try clear hi); (try clear ho0); obtain ⟨Ao25, co25, eo25⟩ := Kd.R_slice HO149.out; subst eo25) | ((with_reducible refine gate_callee (f := 24) rfl ?_); refine goesL_ (some 30) rfl rfl Try.func24 (by kernel_rfl) rfl #[.int .i64 a0, .slice Ao25 t147.length co25, .int .i64 a2, .int .i64 a3] rfl (by (try simp only [List.map_toArray, List.map_cons, List.map_nil]); first | done | rfl | (simp only [List.length_drop, List.length_take]; rfl)) ?_; (with_reducible refine (impl_Ahead.calls k a0 _ _ t147 a2 a3 t150 _ ?side1 ?side2 A10.out).mono ?_); (case side1 => repeat (first | exact (Kd.R_reads' HO149.out).2.2 | (with_reducible refine Kd.C_alloc ?_ _) | (with_reducible refine Kd.C_drewN ?_ _) | (with_reducible refine Kd.C_drew ?_))); (case side2 => exact (Kd.R_reads' HO149.out).2.1); rintro e w26 ⟨rfl, hb⟩; refine ⟨_, rfl, ?_⟩; have n0_ := Aside0.mk (Kd.R_below (by (with_reducible repeat (first | apply Kd.R_alloc | apply Kd.R_drewN | apply Kd.R_drew)); exact HO145.out) hb); have n1_ := Aside0.mk (Kd.R_below (by (with_reducible repeat (first | apply Kd.R_alloc | apply Kd.R_drewN | apply Kd.R_drew)); exact HO149.out) hb); have n2_ := Aside0.mk (below_step (by repeat (first | (with_reducible first | exact HB.out | apply below_alloc | apply pw_below_drewN | apply below_drew1) | exact HB.out)) hb); clear HO145; clear HO149; clear HB; have HO145 := n0_; have HO149 := n1_; have HB := n2_; clear n0_ n1_ n2_; (try clear hb); (try clear hb2); (try clear hk); (try clear hi)) | ((with_reducible refine gate_callee (f := 17) rfl ?_); refine goesL_ (some 36) rfl rfl Try.func17 (by kernel_rfl) rfl #[.slice A1 l1.length c1] rfl (by (try simp only [List.map_toArray, List.map_cons, List.map_nil]); first | done | rfl | (simp only [List.length_drop, List.length_take]; rfl)) ?_; (with_reducible refine (laws_toEdgeS.calls k _ _ l1 t151 _ ?side1 ?side2 A18.out).mono ?_); (case side1 => repeat (first | exact (Kd.C_below HR1.out HB.out) | (with_reducible refine Kd.C_alloc ?_ _) | (with_reducible refine Kd.C_drewN ?_ _) | (with_reducible refine Kd.C_drew ?_))); (case side2 => exact HC1.out); rintro e w27 ⟨v152, rfl, ho0, hb⟩; refine ⟨_, rfl, ?_⟩; have n0_ := Aside0.mk (Kd.R_elder' (by (with_reducible repeat (first | apply Kd.R_alloc | apply Kd.R_drewN | apply Kd.R_drew)); exact HO145.out) (Kd.R_base ho0) hb); have n1_ := Aside0.mk (Kd.R_elder' (by (with_reducible repeat (first | apply Kd.R_alloc | apply Kd.R_drewN | apply Kd.R_drew)); exact HO149.out) (Kd.R_base ho0) hb); have n2_ := Aside0.mk (Kd.R_lower (Kd.R_new' (Kd.R_new' ho0 (Kd.R_lt (by (with_reducible repeat (first | apply Kd.R_alloc | apply Kd.R_drewN | apply Kd.R_drew)); exact HO145.out))) (Kd.R_lt (by (with_reducible repeat (first | apply Kd.R_alloc | apply Kd.R_drewN | apply Kd.R_drew)); exact HO149.out))) (below_size (by repeat (first | (with_reducible first | exact HB.out | apply below_alloc | apply pw_below_drewN | apply below_drew1) | exact HB.out)))); have n3_ := Aside0.mk (below_step (by repeat (first | (with_reducible first | exact HB.out | apply below_alloc | apply pw_below_drewN | apply below_drew1) | exact HB.out)) hb); clear HO145; clear HO149; clear HB; have HO145 := n0_; have HO149 := n1_; have HO153 := n2_; have HB := n3_; clear n0_ n1_ n2_ n3_; (try clear hb); (try clear hb2); (try clear hk); (try clear hi); (try clear ho0); obtain ⟨Ao28, co28, eo28⟩ := Kd.R_slice HO153.out; subst eo28) | ((with_reducible refine gate_callee (f := 19) rfl ?_); refine goesL_ (some 37) rfl rfl Try.func19 (by kernel_rfl) rfl #[.slice Ao25 t147.length co25, .slice Ao28 t151.length co28] rfl (by (try simp only [List.map_toArray, List.map_cons, List.map_nil]); first | done | rfl | (simp only [List.length_drop, List.length_take]; rfl)) ?_; (with_reducible refine (laws_eqEdgeS.calls k _ _ t147 _ _ t151 true _ ?side1 ?side2 ?side3 ?side4 A19.out).mono ?_); (case side1 => repeat (first | exact (Kd.R_reads' HO149.out).2.2 | (with_reducible refine Kd.C_alloc ?_ _) | (with_reducible refine Kd.C_drewN ?_ _) | (with_reducible refine Kd.C_drew ?_))); (case side2 => exact (Kd.R_reads' HO149.out).2.1); (case side3 => repeat (first | exact (Kd.R_reads' HO153.out).2.2 | (with_reducible refine Kd.C_alloc ?_ _) | (with_reducible refine Kd.C_drewN ?_ _) | (with_reducible refine Kd.C_drew ?_))); (case side4 => exact (Kd.R_reads' HO153.out).2.1); rintro e w29 ⟨rfl, hb⟩; refine ⟨_, rfl, ?_⟩; have n0_ := Aside0.mk (Kd.R_below (by (with_reducible repeat (first | apply Kd.R_alloc | apply Kd.R_drewN | apply Kd.R_drew)); exact HO145.out) hb); have n1_ := Aside0.mk (Kd.R_below (by (with_reducible repeat (first | apply Kd.R_alloc | apply Kd.R_drewN | apply Kd.R_drew)); exact HO149.out) hb); have n2_ := Aside0.mk (Kd.R_below (by (with_reducible repeat (first | apply Kd.R_alloc | apply Kd.R_drewN | apply Kd.R_drew)); exact HO153.out) hb); have n3_ := Aside0.mk (below_step (by repeat (first | (with_reducible first | exact HB.out | apply below_alloc | apply pw_below_drewN | apply below_drew1) | exact HB.out)) hb); clear HO145; clear HO149; clear HO153; clear HB; have HO145 := n0_; have HO149 := n1_; have HO153 := n2_; have HB := n3_; clear n0_ n1_ n2_ n3_; (try clear hb); (try clear hb2); (try clear hk); (try clear hi)))
        go_ret
        exact ⟨by first | rfl | (simp [errW_none, errW_some] <;> rfl) | (simp [*, errW_none, errW_some] <;> rfl), by repeat (first | (with_reducible first | exact HB.out | apply below_alloc | apply pw_below_drewN | apply below_drew1) | exact HB.out)⟩
      · replace c20 := Bool.eq_false_iff.mpr c20
        subst c20
        have H1 : (some false) = some r := by rw [if_neg (show ¬ (false = true) by decide)] at H; exact H
        clear H
        have H := H1
        clear H1
        obtain rfl := Option.some.inj H
        go_enter Try.func5, Try.ntmps5
        go_wp2_with (first | ((with_reducible refine gate_callee (f := 15) rfl ?_); refine goesL_ (some 15) rfl rfl Try.func15 (by kernel_rfl) rfl #[.slice A1 l1.length c1, .int .i64 1048576] rfl (by (try simp only [List.map_toArray, List.map_cons, List.map_nil]); first | done | rfl | (simp only [List.length_drop, List.length_take]; rfl)) ?_; (with_reducible refine (laws_szEdgeS.calls _ _ l1 1048576 t142 _ ?side1 ?side2 A5.out).mono ?_); (case side1 => repeat (first | exact HR1.out | (with_reducible refine Kd.C_alloc ?_ _) | (with_reducible refine Kd.C_drewN ?_ _) | (with_reducible refine Kd.C_drew ?_))); (case side2 => exact HC1.out); rintro e w' ⟨rfl, ⟨nd, rfl⟩⟩; refine ⟨_, rfl, ?_⟩) | ((with_reducible refine gate_callee (f := 17) rfl ?_); refine goesL_ (some 20) rfl rfl Try.func17 (by kernel_rfl) rfl #[.slice A1 l1.length c1] rfl (by (try simp only [List.map_toArray, List.map_cons, List.map_nil]); first | done | rfl | (simp only [List.length_drop, List.length_take]; rfl)) ?_; (with_reducible refine (laws_toEdgeS.calls k _ _ l1 t143 _ ?side1 ?side2 A7.out).mono ?_); (case side1 => repeat (first | exact HR1.out | (with_reducible refine Kd.C_alloc ?_ _) | (with_reducible refine Kd.C_drewN ?_ _) | (with_reducible refine Kd.C_drew ?_))); (case side2 => exact HC1.out); rintro e w30 ⟨v144, rfl, ho0, hb⟩; refine ⟨_, rfl, ?_⟩; have n0_ := Aside0.mk (Kd.R_lower ho0 (below_size (by repeat (first | (with_reducible first | exact HB.out | apply below_alloc | apply pw_below_drewN | apply below_drew1) | exact HB.out)))); have n1_ := Aside0.mk (below_step (by repeat (first | (with_reducible first | exact HB.out | apply below_alloc | apply pw_below_drewN | apply below_drew1) | exact HB.out)) hb); clear HB; have HO145 := n0_; have HB := n1_; clear n0_ n1_; (try clear hb); (try clear hb2); (try clear hk); (try clear hi); (try clear ho0); obtain ⟨Ao31, co31, eo31⟩ := Kd.R_slice HO145.out; subst eo31) | ((with_reducible refine gate_callee (f := 23) rfl ?_); refine goesL_ (some 23) rfl rfl Try.func23 (by kernel_rfl) rfl #[.int .i64 a0, .slice Ao31 t143.length co31, .int .i64 a2, .int .i64 a3] rfl (by (try simp only [List.map_toArray, List.map_cons, List.map_nil]); first | done | rfl | (simp only [List.length_drop, List.length_take]; rfl)) ?_; (with_reducible refine (spec_Ahead.calls k a0 _ _ t143 a2 a3 t146 _ ?side1 ?side2 A8.out).mono ?_); (case side1 => repeat (first | exact (Kd.R_reads' HO145.out).2.2 | (with_reducible refine Kd.C_alloc ?_ _) | (with_reducible refine Kd.C_drewN ?_ _) | (with_reducible refine Kd.C_drew ?_))); (case side2 => exact (Kd.R_reads' HO145.out).2.1); rintro e w32 ⟨rfl, hb⟩; refine ⟨_, rfl, ?_⟩; have n0_ := Aside0.mk (Kd.R_below (by (with_reducible repeat (first | apply Kd.R_alloc | apply Kd.R_drewN | apply Kd.R_drew)); exact HO145.out) hb); have n1_ := Aside0.mk (below_step (by repeat (first | (with_reducible first | exact HB.out | apply below_alloc | apply pw_below_drewN | apply below_drew1) | exact HB.out)) hb); clear HO145; clear HB; have HO145 := n0_; have HB := n1_; clear n0_ n1_; (try clear hb); (try clear hb2); (try clear hk); (try clear hi)) | ((with_reducible refine gate_callee (f := 17) rfl ?_); refine goesL_ (some 25) rfl rfl Try.func17 (by kernel_rfl) rfl #[.slice A1 l1.length c1] rfl (by (try simp only [List.map_toArray, List.map_cons, List.map_nil]); first | done | rfl | (simp only [List.length_drop, List.length_take]; rfl)) ?_; (with_reducible refine (laws_toEdgeS.calls k _ _ l1 t147 _ ?side1 ?side2 A9.out).mono ?_); (case side1 => repeat (first | exact (Kd.C_below HR1.out HB.out) | (with_reducible refine Kd.C_alloc ?_ _) | (with_reducible refine Kd.C_drewN ?_ _) | (with_reducible refine Kd.C_drew ?_))); (case side2 => exact HC1.out); rintro e w33 ⟨v148, rfl, ho0, hb⟩; refine ⟨_, rfl, ?_⟩; have n0_ := Aside0.mk (Kd.R_elder' (by (with_reducible repeat (first | apply Kd.R_alloc | apply Kd.R_drewN | apply Kd.R_drew)); exact HO145.out) (Kd.R_base ho0) hb); have n1_ := Aside0.mk (Kd.R_lower (Kd.R_new' ho0 (Kd.R_lt (by (with_reducible repeat (first | apply Kd.R_alloc | apply Kd.R_drewN | apply Kd.R_drew)); exact HO145.out))) (below_size (by repeat (first | (with_reducible first | exact HB.out | apply below_alloc | apply pw_below_drewN | apply below_drew1) | exact HB.out)))); have n2_ := Aside0.mk (below_step (by repeat (first | (with_reducible first | exact HB.out | apply below_alloc | apply pw_below_drewN | apply below_drew1) | exact HB.out)) hb); clear HO145; clear HB; have HO145 := n0_; have HO149 := n1_; have HB := n2_; clear n0_ n1_ n2_; (try clear hb); (try clear hb2); (try clear hk); (try clear hi); (try clear ho0); obtain ⟨Ao34, co34, eo34⟩ := Kd.R_slice HO149.out; subst eo34) | ((with_reducible refine gate_callee (f := 24) rfl ?_); refine goesL_ (some 30) rfl rfl Try.func24 (by kernel_rfl) rfl #[.int .i64 a0, .slice Ao34 t147.length co34, .int .i64 a2, .int .i64 a3] rfl (by (try simp only [List.map_toArray, List.map_cons, List.map_nil]); first | done | rfl | (simp only [List.length_drop, List.length_take]; rfl)) ?_; (with_reducible refine (impl_Ahead.calls k a0 _ _ t147 a2 a3 t150 _ ?side1 ?side2 A10.out).mono ?_); (case side1 => repeat (first | exact (Kd.R_reads' HO149.out).2.2 | (with_reducible refine Kd.C_alloc ?_ _) | (with_reducible refine Kd.C_drewN ?_ _) | (with_reducible refine Kd.C_drew ?_))); (case side2 => exact (Kd.R_reads' HO149.out).2.1); rintro e w35 ⟨rfl, hb⟩; refine ⟨_, rfl, ?_⟩; have n0_ := Aside0.mk (Kd.R_below (by (with_reducible repeat (first | apply Kd.R_alloc | apply Kd.R_drewN | apply Kd.R_drew)); exact HO145.out) hb); have n1_ := Aside0.mk (Kd.R_below (by (with_reducible repeat (first | apply Kd.R_alloc | apply Kd.R_drewN | apply Kd.R_drew)); exact HO149.out) hb); have n2_ := Aside0.mk (below_step (by repeat (first | (with_reducible first | exact HB.out | apply below_alloc | apply pw_below_drewN | apply below_drew1) | exact HB.out)) hb); clear HO145; clear HO149; clear HB; have HO145 := n0_; have HO149 := n1_; have HB := n2_; clear n0_ n1_ n2_; (try clear hb); (try clear hb2); (try clear hk); (try clear hi)) | ((with_reducible refine gate_callee (f := 17) rfl ?_); refine goesL_ (some 36) rfl rfl Try.func17 (by kernel_rfl) rfl #[.slice A1 l1.length c1] rfl (by (try simp only [List.map_toArray, List.map_cons, List.map_nil]); first | done | rfl | (simp only [List.length_drop, List.length_take]; rfl)) ?_; (with_reducible refine (laws_toEdgeS.calls k _ _ l1 t151 _ ?side1 ?side2 A18.out).mono ?_); (case side1 => repeat (first | exact (Kd.C_below HR1.out HB.out) | (with_reducible refine Kd.C_alloc ?_ _) | (with_reducible refine Kd.C_drewN ?_ _) | (with_reducible refine Kd.C_drew ?_))); (case side2 => exact HC1.out); rintro e w36 ⟨v152, rfl, ho0, hb⟩; refine ⟨_, rfl, ?_⟩; have n0_ := Aside0.mk (Kd.R_elder' (by (with_reducible repeat (first | apply Kd.R_alloc | apply Kd.R_drewN | apply Kd.R_drew)); exact HO145.out) (Kd.R_base ho0) hb); have n1_ := Aside0.mk (Kd.R_elder' (by (with_reducible repeat (first | apply Kd.R_alloc | apply Kd.R_drewN | apply Kd.R_drew)); exact HO149.out) (Kd.R_base ho0) hb); have n2_ := Aside0.mk (Kd.R_lower (Kd.R_new' (Kd.R_new' ho0 (Kd.R_lt (by (with_reducible repeat (first | apply Kd.R_alloc | apply Kd.R_drewN | apply Kd.R_drew)); exact HO145.out))) (Kd.R_lt (by (with_reducible repeat (first | apply Kd.R_alloc | apply Kd.R_drewN | apply Kd.R_drew)); exact HO149.out))) (below_size (by repeat (first | (with_reducible first | exact HB.out | apply below_alloc | apply pw_below_drewN | apply below_drew1) | exact HB.out)))); have n3_ := Aside0.mk (below_step (by repeat (first | (with_reducible first | exact HB.out | apply below_alloc | apply pw_below_drewN | apply below_drew1) | exact HB.out)) hb); clear HO145; clear HO149; clear HB; have HO145 := n0_; have HO149 := n1_; have HO153 := n2_; have HB := n3_; clear n0_ n1_ n2_ n3_; (try clear hb); (try clear hb2); (try clear hk); (try clear hi); (try clear ho0); obtain ⟨Ao37, co37, eo37⟩ := Kd.R_slice HO153.out; subst eo37) | ((with_reducible refine gate_callee (f := 19) rfl ?_); refine goesL_ (some 37) rfl rfl Try.func19 (by kernel_rfl) rfl #[.slice Ao34 t147.length co34, .slice Ao37 t151.length co37] rfl (by (try simp only [List.map_toArray, List.map_cons, List.map_nil]); first | done | rfl | (simp only [List.length_drop, List.length_take]; rfl)) ?_; (with_reducible refine (laws_eqEdgeS.calls k _ _ t147 _ _ t151 false _ ?side1 ?side2 ?side3 ?side4 A19.out).mono ?_); (case side1 => repeat (first | exact (Kd.R_reads' HO149.out).2.2 | (with_reducible refine Kd.C_alloc ?_ _) | (with_reducible refine Kd.C_drewN ?_ _) | (with_reducible refine Kd.C_drew ?_))); (case side2 => exact (Kd.R_reads' HO149.out).2.1); (case side3 => repeat (first | exact (Kd.R_reads' HO153.out).2.2 | (with_reducible refine Kd.C_alloc ?_ _) | (with_reducible refine Kd.C_drewN ?_ _) | (with_reducible refine Kd.C_drew ?_))); (case side4 => exact (Kd.R_reads' HO153.out).2.1); rintro e w38 ⟨rfl, hb⟩; refine ⟨_, rfl, ?_⟩; have n0_ := Aside0.mk (Kd.R_below (by (with_reducible repeat (first | apply Kd.R_alloc | apply Kd.R_drewN | apply Kd.R_drew)); exact HO145.out) hb); have n1_ := Aside0.mk (Kd.R_below (by (with_reducible repeat (first | apply Kd.R_alloc | apply Kd.R_drewN | apply Kd.R_drew)); exact HO149.out) hb); have n2_ := Aside0.mk (Kd.R_below (by (with_reducible repeat (first | apply Kd.R_alloc | apply Kd.R_drewN | apply Kd.R_drew)); exact HO153.out) hb); have n3_ := Aside0.mk (below_step (by repeat (first | (with_reducible first | exact HB.out | apply below_alloc | apply pw_below_drewN | apply below_drew1) | exact HB.out)) hb); clear HO145; clear HO149; clear HO153; clear HB; have HO145 := n0_; have HO149 := n1_; have HO153 := n2_; have HB := n3_; clear n0_ n1_ n2_ n3_; (try clear hb); (try clear hb2); (try clear hk); (try clear hi)))
        go_ret
        exact ⟨by first | rfl | (simp [errW_none, errW_some] <;> rfl) | (simp [*, errW_none, errW_some] <;> rfl), by repeat (first | (with_reducible first | exact HB.out | apply below_alloc | apply pw_below_drewN | apply below_drew1) | exact HB.out)⟩

end Go.Proofs.Ytapbpfbhghheeaa.PFnExactAhead
