-- written by wip/tools/myprint.py out of the program's own print
import Derived.Test.YtnecbgeljanhiaaPFnReducedx0
import Derived.Test.YtnecbgeljanhiaaPFnReducedx2
namespace Go.Proofs.Ytnecbgeljanhiaa.PFnReduced
open Go.RowKit Go.Proofs.YtnecbgeljanhiaaW.PrintWords Go.Proofs.YtnecbgeljanhiaaW.PrintLast Go.Proofs.YtnecbgeljanhiaaW.PrintMore
attribute [local go_sem] max2_int min2_int max_two min_two max_three min_three max_four min_four   -- for this text's walks alone
set_option linter.unusedVariables false
set_option linter.unusedSimpArgs false

/-! ### impl_dist: function 71 -/
def dSet (M : List Int) (a b : Nat) (v : Int) : List Int := M.set (a * 16 + b) v
def dGet (M : List Int) (a b : Nat) : Int := M.getD (a * 16 + b) 0
def dInitB (a : Nat) (M : List Int) (N : Nat) : List Int := (List.range N).foldl (fun M b => dSet M a b (-1)) M
def dInit (N m : Nat) (M : List Int) : List Int := (List.range m).foldl (fun M a => dInitB a M N) M
def dEdges (l : List (S96)) (M : List Int) : List Int := l.foldl (fun M e => dSet M e.f0.toNat e.f1.toNat 1) M
def dStep (k a b : Nat) (M : List Int) : List Int :=
  if dGet M a k < 0 ∨ dGet M k b < 0 then M
  else if dGet M a b < 0 ∨ wrap64 (dGet M a k + dGet M k b) < dGet M a b then dSet M a b (wrap64 (dGet M a k + dGet M k b)) else M
def dRunB (k a : Nat) (m : Nat) (M : List Int) : List Int := (List.range m).foldl (fun M b => dStep k a b M) M
def dRunA (N k : Nat) (m : Nat) (M : List Int) : List Int := (List.range m).foldl (fun M a => dRunB k a N M) M
def dRun (N : Nat) (m : Nat) (M : List Int) : List Int := (List.range m).foldl (fun M k => dRunA N k N M) M
def dZero : List Int := List.replicate 256 0
def dEdgeOk (e : S96) : Bool := decide ((0 ≤ e.f0 ∧ e.f0 < 16) ∧ 0 ≤ e.f1 ∧ e.f1 < 16)
def impl_dist.f (a0 : Int) (l1 : List (S96)) : Option (List Int) :=
  if 0 ≤ a0 ∧ a0 ≤ 16 then (if l1.all dEdgeOk = true then some (dRun a0.toNat a0.toNat (dEdges l1 (dInit a0.toNat a0.toNat dZero))) else none) else none
theorem dW (i : Nat) (h : i ≤ 9223372036854775806) : wrap64 ((i : Int) + 1) = ((i + 1 : Nat) : Int) := by
  unfold wrap64
  omega
theorem dSet_len (M : List Int) (a b : Nat) (v : Int) : (dSet M a b v).length = M.length := by simp [dSet]
theorem foldl_len {α : Type} (f : List Int → α → List Int) (hf : ∀ M x, (f M x).length = M.length) (xs : List α) (M : List Int) : (xs.foldl f M).length = M.length := by
  induction xs generalizing M with
  | nil => rfl
  | cons a xs ih => rw [List.foldl_cons, ih, hf]
theorem dInitB_len (a : Nat) (M : List Int) (N : Nat) : (dInitB a M N).length = M.length := foldl_len _ (fun M b => dSet_len M a b _) _ _
theorem dInit_len (N m : Nat) (M : List Int) : (dInit N m M).length = M.length := foldl_len _ (fun M a => dInitB_len a M N) _ _
theorem dEdges_len (l : List (S96)) (M : List Int) : (dEdges l M).length = M.length := foldl_len _ (fun M e => dSet_len M _ _ _) _ _
theorem dStep_len (k a b : Nat) (M : List Int) : (dStep k a b M).length = M.length := by
  unfold dStep
  split
  · rfl
  · split
    · exact dSet_len _ _ _ _
    · rfl
theorem dRunB_len (k a m : Nat) (M : List Int) : (dRunB k a m M).length = M.length := foldl_len _ (fun M b => dStep_len k a b M) _ _
theorem dRunA_len (N k m : Nat) (M : List Int) : (dRunA N k m M).length = M.length := foldl_len _ (fun M a => dRunB_len k a N M) _ _
theorem dRun_len (N m : Nat) (M : List Int) : (dRun N m M).length = M.length := foldl_len _ (fun M k => dRunA_len N k N M) _ _
theorem impl_dist.len {a0 : Int} {l1 : List (S96)} {r : List Int} (h : impl_dist.f a0 l1 = some r) : r.length = 256 := by
  unfold impl_dist.f at h
  split at h
  · split at h
    · injection h with h
      rw [← h, dRun_len, dEdges_len, dInit_len]
      exact List.length_replicate
    · cases h
  · cases h
/-- A block of 256 numbers. -/
def dArr (M : List Int) : Array Value := (M.map (Value.int .i64)).toArray
theorem dArr_size (M : List Int) : (dArr M).size = M.length := by simp [dArr]
theorem dArr_get {M : List Int} {i : Nat} (h : i < M.length) : (dArr M)[i]? = some (.int .i64 (M.getD i 0)) := by
  simp [dArr, List.getElem?_eq_getElem h, List.getD_eq_getElem?_getD]
theorem dArr_set (M : List Int) (i : Nat) (v : Int) : (dArr M).setIfInBounds i (.int .i64 v) = dArr (M.set i v) := by
  simp [dArr, List.map_set]
theorem dArr_one (M : List Int) : (dArr M).all (·.oneCell') = true := by
  simp only [dArr, List.all_toArray, List.all_map, List.all_eq_true]
  intro x _
  rfl
theorem infoArr : (Try.prog.info? 100).map (fun i => (i.zero, i.size, i.bytes)) = some (some (.agg (dArr dZero)), 256, 2048) := by kernel_rfl
theorem allocArr {o : Oper} (ho : o.op = .alloc 100) (ρ : Operand → Value) (W : World) : (execOp ρ o).run Try.prog W = .ok (.value (.pointer (some ⟨W.heap.size, 0, none⟩))) (W.alloc (.cells (dArr dZero) 100 (0, 0))) := by
  obtain ⟨i, hi, hz⟩ := Option.map_eq_some_iff.1 infoArr
  generalize dArr dZero = z at hz ⊢
  simp only [Prod.mk.injEq] at hz
  obtain ⟨hz0, hz1, hz2⟩ := hz
  have hz' : ∀ W : World, (zeroValue 100).run Try.prog W = .ok (.agg z) W := fun W => by
    simp [zeroValue, typeInfo, hi, hz0]
  unfold execOp
  simp only [ho, Instr.alloc, Sem.run_bind, hz', Result.andThen_ok, Sem.run_pure]
  simp [newVar, newRow, Value.cells]
set_option maxHeartbeats 8000000 in
set_option maxRecDepth 100000 in
theorem impl_dist.calls (a0 : Int) (A1 : Option Addr) (c1 : Nat) (l1 : List (S96)) (r : List Int) (w : World) (hr1 : Kd.C k96 w A1 l1.length l1) (hc1 : l1.length ≤ c1) (h : impl_dist.f a0 l1 = some r) :
    Calls Try.prog 71 #[.int .i64 a0, .slice A1 l1.length c1] w fun e w' => e = .returned (.agg (dArr r)) ∧ Below w.heap.size w w' := by
  have HR1 := Aside0.mk hr1
  have HC1 := Aside0.mk hc1
  clear hr1 hc1
  have HLEN := Aside0.mk (impl_dist.len h)
  unfold impl_dist.f at h
  by_cases hn : 0 ≤ a0 ∧ a0 ≤ 16
  case neg => rw [if_neg hn] at h; cases h
  rw [if_pos hn] at h
  by_cases hl : l1.all dEdgeOk = true
  case neg => rw [if_neg hl] at h; cases h
  rw [if_pos hl] at h
  obtain ⟨N, rfl⟩ : ∃ N : Nat, a0 = (N : Int) := ⟨a0.toNat, by omega⟩
  rw [Int.toNat_natCast] at h
  have HN := Aside0.mk (show N ≤ 16 by omega)
  have HL := Aside0.mk hl
  have H := Aside0.mk (Option.some.inj h)
  clear hn hl h
  go_enter Try.func71, Try.ntmps71
  go_wp2_with (first
    | ((with_reducible refine gate_dst (N := 4) rfl ?_); refine box_event ?hg (N := 4) ?hd (cs := dArr dZero) (t := 100) ?hr ?_; (case hd => rfl); (case hg => rfl); (case hr => exact allocArr rfl _ _); intro g4 hg4 w4 hb4 hbel4; have HG4 := Aside0.mk hb4; have HB := Aside0.mk hbel4; have HS4 := Aside0.mk (show w.heap.size ≤ g4 by omega); clear hg4 hb4 hbel4)
    | ((with_reducible refine gate_dst (N := 5) rfl ?_); refine box_event ?hg (N := 5) ?hd (cs := dArr dZero) (t := 100) ?hr ?_; (case hd => rfl); (case hg => rfl); (case hr => exact allocArr rfl _ _); intro g5 hg5 w5 hb5 hbel5; have HG5 := Aside0.mk hb5; have HG4' := Aside0.mk (blk_below HG4.out hbel5); have HB' := Aside0.mk (below_step HB.out hbel5); have HS5 := Aside0.mk (show w.heap.size ≤ g5 by rw [hg5]; exact below_size HB.out); have HNE := Aside0.mk (show g4 ≠ g5 by rw [hg5]; have := blk_lt HG4.out; omega); clear HG4 HB; have HG4 := HG4'; have HB := HB'; clear HG4' HB'; clear hg5 hb5 hbel5))
  go_loopg [15] N (fun kq v15 w' => ∃ i : Nat, v15 = .int .i64 (i : Int) ∧ Aside0 (i + kq = N) ∧ Aside0 (w'.heap[g5]? = some (.cells (dArr (dInit N i dZero)) 100 (0, 0))) ∧ Aside0 (w'.heap[g4]? = some (.cells (dArr dZero) 100 (0, 0))) ∧ Aside0 (Below w.heap.size w w'))
  case atStart => exact ⟨0, rfl, ⟨by omega⟩, HG5, HG4, HB⟩
  case round =>
    clear HG5 HG4 HB
    obtain ⟨i, rfl, HI, HG5, HG4, HB⟩ := hrel
    by_cases c : i < N
    · have cb : decide ((i : Int) < (N : Int)) = true := by simpa using c
      go_wp2
      go_loopg [19] N (fun kq v19 w' => ∃ j : Nat, v19 = .int .i64 (j : Int) ∧ Aside0 (j + kq = N) ∧ Aside0 (w'.heap[g5]? = some (.cells (dArr (dInitB i (dInit N i dZero) j)) 100 (0, 0))) ∧ Aside0 (w'.heap[g4]? = some (.cells (dArr dZero) 100 (0, 0))) ∧ Aside0 (Below w.heap.size w w'))
      case atStart => exact ⟨0, rfl, ⟨by omega⟩, HG5, HG4, HB⟩
      case round =>
        clear HG5 HG4 HB
        obtain ⟨j, rfl, HJ, HG5, HG4, HB⟩ := hrel
        by_cases c2 : j < N
        · have cb2 : decide ((j : Int) < (N : Int)) = true := by simpa using c2
          have hx : wr.cell? ⟨g5, i * 16 + j, none⟩ = some (.int .i64 ((dInitB i (dInit N i dZero) j).getD (i * 16 + j) 0)) := by
            rw [blk_cell HG5.out]
            exact dArr_get (by rw [dInitB_len, dInit_len]; have := HN.out; simp only [dZero, List.length_replicate]; omega)
          have hf : wr.frozen? ⟨g5, i * 16 + j, none⟩ = false := blk_frozen HG5.out _
          have hi16 : i < 16 := by have := HN.out; omega
          have hj16 : j < 16 := by have := HN.out; omega
          go_wp2
          go_roundg (N - (j + 1))
          case measure => have := HJ.out; omega
          case rel => exact ⟨j + 1, (by first | rfl | rw [dW j (by have := HN.out; omega)]), ⟨by have := HJ.out; omega⟩, ⟨by rw [show dInitB i (dInit N i dZero) (j + 1) = dSet (dInitB i (dInit N i dZero) j) i j (-1) by simp [dInitB, List.range_succ, List.foldl_append], dSet, ← dArr_set]; exact blk_set HG5.out _ _⟩, ⟨blk_far HG4.out HNE.out _⟩, ⟨below_set HB.out HS5.out⟩⟩
        · have cb2 : decide ((j : Int) < (N : Int)) = false := by simpa using c2
          have ej : j = N := by have := HJ.out; omega
          subst ej
          go_wp2
          go_roundg (j - (i + 1))
          case measure => have := HI.out; omega
          case rel => exact ⟨i + 1, (by first | rfl | rw [dW i (by have := HN.out; omega)]), ⟨by have := HI.out; omega⟩, ⟨by rw [show dInit j (i + 1) dZero = dInitB i (dInit j i dZero) j by simp [dInit, List.range_succ, List.foldl_append]]; exact HG5.out⟩, HG4, HB⟩
    · have cb : decide ((i : Int) < (N : Int)) = false := by simpa using c
      have ei : i = N := by have := HI.out; omega
      subst ei
      go_wp2
      go_loopg [30] l1.length (fun kq v30 w' => ∃ j : Nat, v30 = .int .i64 (j : Int) ∧ Aside0 (j + kq = l1.length) ∧ Aside0 (w'.heap[g5]? = some (.cells (dArr (dEdges (l1.take j) (dInit i i dZero))) 100 (0, 0))) ∧ Aside0 (w'.heap[g4]? = some (.cells (dArr dZero) 100 (0, 0))) ∧ Aside0 (Below w.heap.size w w'))
      case atStart => exact ⟨0, rfl, ⟨by omega⟩, HG5, HG4, HB⟩
      case round =>
        clear HG5 HG4 HB
        obtain ⟨j, rfl, HJ, HG5, HG4, HB⟩ := hrel
        by_cases c2 : j < l1.length
        · have cb2 : decide ((j : Int) < (l1.length : Int)) = true := by simpa using c2
          obtain ⟨ad, ead, hx0, hx1⟩ := at_T96 HR1.out (j : Int) (by omega) (by omega)
          cases ead
          rw [Int.toNat_natCast] at hx0 hx1
          replace hx0 := (HB.out.cell (World.block_lt_of_cell? w _ hx0)).trans hx0
          replace hx1 := (HB.out.cell (World.block_lt_of_cell? w _ hx1)).trans hx1
          have hok : dEdgeOk l1[j] = true := List.all_eq_true.1 HL.out _ (List.getElem_mem c2)
          have hrd : rd_T96 l1 (j : Int) = l1[j] := by
            unfold rd_T96
            rw [Int.toNat_natCast, List.getD_eq_getElem?_getD, List.getElem?_eq_getElem c2]
            rfl
          rw [hrd] at hx0 hx1
          have hok2 : (0 ≤ l1[j].f0 ∧ l1[j].f0 < 16) ∧ 0 ≤ l1[j].f1 ∧ l1[j].f1 < 16 := of_decide_eq_true hok
          obtain ⟨a, ha⟩ : ∃ a : Nat, l1[j].f0 = (a : Int) := ⟨l1[j].f0.toNat, by omega⟩
          obtain ⟨b, hb⟩ : ∃ b : Nat, l1[j].f1 = (b : Int) := ⟨l1[j].f1.toNat, by omega⟩
          have hstep : dEdges (l1.take (j + 1)) (dInit i i dZero) = dSet (dEdges (l1.take j) (dInit i i dZero)) a b 1 := by
            rw [List.take_succ_eq_append_getElem c2]
            unfold dEdges
            rw [List.foldl_append, List.foldl_cons, List.foldl_nil, ha, hb, Int.toNat_natCast, Int.toNat_natCast]
          rw [ha] at hx0
          rw [hb] at hx1
          have ha16 : a < 16 := by omega
          have hb16 : b < 16 := by omega
          clear hok hok2 hrd ha hb
          go_wp2
          obtain ⟨b9, hb9⟩ : ∃ b9, b9 = wr.heap.size := ⟨_, rfl⟩
          obtain ⟨wq, hwq⟩ : ∃ wq, wq = wr.alloc (.cells #[.int .i64 (a : Int), .int .i64 (b : Int)] 96) := ⟨_, rfl⟩
          rw [← hwq, ← hb9]
          have hbel : Below wr.heap.size wr wq := by rw [hwq]; exact below_alloc (Below.refl _ _) _
          have hblk : wq.heap[b9]? = some (.cells #[.int .i64 (a : Int), .int .i64 (b : Int)] 96 (0, 0)) := by rw [hwq, hb9]; exact blk_new _ _
          have HG5' := Aside0.mk (blk_below HG5.out hbel)
          have HG4' := Aside0.mk (blk_below HG4.out hbel)
          have HB' := Aside0.mk (below_step HB.out hbel)
          have hq0 : wq.cell? ⟨b9, 0, none⟩ = some (.int .i64 (a : Int)) := by rw [blk_cell hblk]; rfl
          have hq1 : wq.cell? ⟨b9, 1, none⟩ = some (.int .i64 (b : Int)) := by rw [blk_cell hblk]; rfl
          have hqx : wq.cell? ⟨g5, a * 16 + b, none⟩ = some (.int .i64 ((dEdges (l1.take j) (dInit i i dZero)).getD (a * 16 + b) 0)) := by
            rw [blk_cell HG5'.out]
            exact dArr_get (by rw [dEdges_len, dInit_len]; simp only [dZero, List.length_replicate]; omega)
          have hqf : wq.frozen? ⟨g5, a * 16 + b, none⟩ = false := blk_frozen HG5'.out _
          clear hwq hb9 hbel hblk HG5 HG4 HB hx0 hx1
          go_region
          all_goals go_wp2
          all_goals go_roundg (l1.length - (j + 1))
          case measure => have := HJ.out; omega
          case rel => exact ⟨j + 1, (by first | rfl | rw [dW j (by have := HR1.out.2.1; omega)]), ⟨by have := HJ.out; omega⟩, ⟨by rw [hstep, dSet, ← dArr_set]; exact blk_set HG5'.out _ _⟩, ⟨blk_far HG4'.out HNE.out _⟩, ⟨below_drew1 (below_set HB'.out HS5.out)⟩⟩
        · have cb2 : decide ((j : Int) < (l1.length : Int)) = false := by simpa using c2
          have ej : j = l1.length := by have := HJ.out; omega
          subst ej
          rw [List.take_length] at HG5
          obtain ⟨M0, hM0⟩ : ∃ M0, M0 = dEdges l1 (dInit i i dZero) := ⟨_, rfl⟩
          rw [← hM0] at HG5
          have HM0 := Aside0.mk (show M0.length = 256 by rw [hM0, dEdges_len, dInit_len]; simp only [dZero, List.length_replicate])
          have HR := Aside0.mk (show dRun i i M0 = r by rw [hM0]; exact H.out)
          clear hM0 H HL c2 cb2 c cb HI HJ
          go_wp2
          go_loopg [42] i (fun kq v42 w' => ∃ kk : Nat, v42 = .int .i64 (kk : Int) ∧ Aside0 (kk + kq = i) ∧ Aside0 (w'.heap[g5]? = some (.cells (dArr (dRun i kk M0)) 100 (0, 0))) ∧ Aside0 (w'.heap[g4]? = some (.cells (dArr dZero) 100 (0, 0))) ∧ Aside0 (Below w.heap.size w w'))
          case atStart => exact ⟨0, rfl, ⟨by omega⟩, HG5, HG4, HB⟩
          case round =>
            clear HG5 HG4 HB
            obtain ⟨kk, rfl, HK, HG5, HG4, HB⟩ := hrel
            by_cases c3 : kk < i
            · have cb3 : decide ((kk : Int) < (i : Int)) = true := by simpa using c3
              go_wp2
              go_loopg [46] i (fun kq v46 w' => ∃ aa : Nat, v46 = .int .i64 (aa : Int) ∧ Aside0 (aa + kq = i) ∧ Aside0 (w'.heap[g5]? = some (.cells (dArr (dRunA i kk aa (dRun i kk M0))) 100 (0, 0))) ∧ Aside0 (w'.heap[g4]? = some (.cells (dArr dZero) 100 (0, 0))) ∧ Aside0 (Below w.heap.size w w'))
              case atStart => exact ⟨0, rfl, ⟨by omega⟩, HG5, HG4, HB⟩
              case round =>
                clear HG5 HG4 HB
                obtain ⟨aa, rfl, HA, HG5, HG4, HB⟩ := hrel
                by_cases c4 : aa < i
                · have cb4 : decide ((aa : Int) < (i : Int)) = true := by simpa using c4
                  go_wp2
                  go_loopg [50] i (fun kq v50 w' => ∃ bb : Nat, v50 = .int .i64 (bb : Int) ∧ Aside0 (bb + kq = i) ∧ Aside0 (w'.heap[g5]? = some (.cells (dArr (dRunB kk aa bb (dRunA i kk aa (dRun i kk M0)))) 100 (0, 0))) ∧ Aside0 (w'.heap[g4]? = some (.cells (dArr dZero) 100 (0, 0))) ∧ Aside0 (Below w.heap.size w w'))
                  case atStart => exact ⟨0, rfl, ⟨by omega⟩, HG5, HG4, HB⟩
                  case round =>
                    clear HG5 HG4 HB
                    obtain ⟨bb, rfl, HBB, HG5, HG4, HB⟩ := hrel
                    by_cases c5 : bb < i
                    · have cb5 : decide ((bb : Int) < (i : Int)) = true := by simpa using c5
                      obtain ⟨M, hM⟩ : ∃ M, M = dRunB kk aa bb (dRunA i kk aa (dRun i kk M0)) := ⟨_, rfl⟩
                      have hML : M.length = 256 := by rw [hM, dRunB_len, dRunA_len, dRun_len]; exact HM0.out
                      have hstep : dRunB kk aa (bb + 1) (dRunA i kk aa (dRun i kk M0)) = dStep kk aa bb M := by rw [hM]; simp [dRunB, List.range_succ, List.foldl_append]
                      rw [← hM] at HG5
                      have hk16 : kk < 16 := by have := HN.out; omega
                      have ha16 : aa < 16 := by have := HN.out; omega
                      have hb16 : bb < 16 := by have := HN.out; omega
                      have cell : ∀ q, q < 256 → wr.cell? ⟨g5, q, none⟩ = some (.int .i64 (M.getD q 0)) := fun q hq => by
                        rw [blk_cell HG5.out]
                        exact dArr_get (by omega)
                      have hx1 : wr.cell? ⟨g5, aa * 16 + kk, none⟩ = some (.int .i64 (dGet M aa kk)) := cell _ (by omega)
                      have hx2 : wr.cell? ⟨g5, kk * 16 + bb, none⟩ = some (.int .i64 (dGet M kk bb)) := cell _ (by omega)
                      have hx3 : wr.cell? ⟨g5, aa * 16 + bb, none⟩ = some (.int .i64 (dGet M aa bb)) := cell _ (by omega)
                      have hf3 : wr.frozen? ⟨g5, aa * 16 + bb, none⟩ = false := blk_frozen HG5.out _
                      clear cell hM
                      by_cases d1 : dGet M aa kk < 0
                      · have db1 : decide (dGet M aa kk < 0) = true := decide_eq_true d1
                        go_wp2
                        go_roundg (i - (bb + 1))
                        case measure => have := HBB.out; omega
                        case rel => exact ⟨bb + 1, (by first | rfl | rw [dW bb (by omega)]), ⟨by omega⟩, ⟨by rw [hstep, dStep, if_pos (Or.inl d1)]; exact HG5.out⟩, HG4, HB⟩
                      · have db1 : decide (dGet M aa kk < 0) = false := decide_eq_false d1
                        by_cases d2 : dGet M kk bb < 0
                        · have db2 : decide (dGet M kk bb < 0) = true := decide_eq_true d2
                          go_wp2
                          go_roundg (i - (bb + 1))
                          case measure => have := HBB.out; omega
                          case rel => exact ⟨bb + 1, (by first | rfl | rw [dW bb (by omega)]), ⟨by omega⟩, ⟨by rw [hstep, dStep, if_pos (Or.inr d2)]; exact HG5.out⟩, HG4, HB⟩
                        · have db2 : decide (dGet M kk bb < 0) = false := decide_eq_false d2
                          by_cases d3 : dGet M aa bb < 0 ∨ wrap64 (dGet M aa kk + dGet M kk bb) < dGet M aa bb
                          · have es : dStep kk aa bb M = dSet M aa bb (wrap64 (dGet M aa kk + dGet M kk bb)) := by
                              unfold dStep
                              rw [if_neg (by omega), if_pos d3]
                            by_cases d4 : dGet M aa bb < 0
                            · have db4 : decide (dGet M aa bb < 0) = true := decide_eq_true d4
                              go_wp2
                              go_region
                              all_goals go_wp2
                              all_goals go_roundg (i - (bb + 1))
                              case measure => have := HBB.out; omega
                              case rel => exact ⟨bb + 1, (by first | rfl | rw [dW bb (by omega)]), ⟨by omega⟩, ⟨by rw [hstep, es, dSet, ← dArr_set]; exact blk_set HG5.out _ _⟩, ⟨blk_far HG4.out HNE.out _⟩, ⟨below_drew1 (below_set HB.out HS5.out)⟩⟩
                            · have db4 : decide (dGet M aa bb < 0) = false := decide_eq_false d4
                              have db5 : decide (wrap64 (dGet M aa kk + dGet M kk bb) < dGet M aa bb) = true := decide_eq_true (by omega)
                              go_wp2
                              go_region
                              all_goals go_wp2
                              all_goals go_roundg (i - (bb + 1))
                              case measure => have := HBB.out; omega
                              case rel => exact ⟨bb + 1, (by first | rfl | rw [dW bb (by omega)]), ⟨by omega⟩, ⟨by rw [hstep, es, dSet, ← dArr_set]; exact blk_set HG5.out _ _⟩, ⟨blk_far HG4.out HNE.out _⟩, ⟨below_drew1 (below_set HB.out HS5.out)⟩⟩
                          · have es : dStep kk aa bb M = M := by
                              unfold dStep
                              rw [if_neg (by omega), if_neg d3]
                            have db4 : decide (dGet M aa bb < 0) = false := decide_eq_false (by omega)
                            have db5 : decide (wrap64 (dGet M aa kk + dGet M kk bb) < dGet M aa bb) = false := decide_eq_false (by omega)
                            go_wp2
                            go_region
                            all_goals go_wp2
                            all_goals go_roundg (i - (bb + 1))
                            case measure => have := HBB.out; omega
                            case rel => exact ⟨bb + 1, (by first | rfl | rw [dW bb (by omega)]), ⟨by omega⟩, ⟨by rw [hstep, es]; exact HG5.out⟩, ⟨HG4.out⟩, ⟨below_drew1 HB.out⟩⟩
                    · have cb5 : decide ((bb : Int) < (i : Int)) = false := by simpa using c5
                      have ej : bb = i := by have := HBB.out; omega
                      subst ej
                      go_wp2
                      go_roundg (bb - (aa + 1))
                      case measure => have := HA.out; omega
                      case rel => exact ⟨aa + 1, (by first | rfl | rw [dW aa (by have := HN.out; omega)]), ⟨by omega⟩, ⟨by rw [show dRunA bb kk (aa + 1) (dRun bb kk M0) = dRunB kk aa bb (dRunA bb kk aa (dRun bb kk M0)) by simp [dRunA, List.range_succ, List.foldl_append]]; exact HG5.out⟩, HG4, HB⟩
                · have cb4 : decide ((aa : Int) < (i : Int)) = false := by simpa using c4
                  have ej : aa = i := by have := HA.out; omega
                  subst ej
                  go_wp2
                  go_roundg (aa - (kk + 1))
                  case measure => have := HK.out; omega
                  case rel => exact ⟨kk + 1, (by first | rfl | rw [dW kk (by have := HN.out; omega)]), ⟨by omega⟩, ⟨by rw [show dRun aa (kk + 1) M0 = dRunA aa kk aa (dRun aa kk M0) by simp [dRun, List.range_succ, List.foldl_append]]; exact HG5.out⟩, HG4, HB⟩
            · have cb3 : decide ((kk : Int) < (i : Int)) = false := by simpa using c3
              have ej : kk = i := by have := HK.out; omega
              subst ej
              rw [HR.out] at HG5
              have hsz : (Try.prog.info? 100).map (·.size) = some (dArr r).size := by rw [dArr_size, HLEN.out]; kernel_rfl
              have huArr := Try.underlying100
              go_wp2_with (first
                | (refine wpList_load_row rfl 100 (.tmp 5) rfl g5 rfl 100 (dArr r) (0, 0) _ HG5.out huArr rfl hsz ?_)
                | (refine wpList_store_row rfl 100 (.tmp 4) (.tmp 101) rfl g4 (dArr r) rfl rfl 100 (dArr dZero) HG4.out hsz ?hold (dArr_one r) ?_; (case hold => rw [dArr_size, dArr_size, HLEN.out]; simp only [dZero, List.length_replicate])))
              (try simp only [Exit.inBlock, Exit.then])
              exact bodyPost_ret_by (results_cell_row rfl _ _ g4 100 (dArr r) (0, 0) _ rfl (setRow_heap _ g4 _ (dArr r) 100 (0, 0) HG4.out) huArr rfl hsz) rfl ⟨rfl, below_setRow HB.out HS4.out _⟩

/-! ### impl_Reduced: function 18 -/
def rAny (M : List Int) (a b m : Nat) : Bool := (List.range m).any fun k => decide (0 < dGet M a k) && decide (0 < dGet M k b)
def rStep (M : List Int) (N a : Nat) (o : List (S96)) (b : Nat) : List (S96) := if 0 < dGet M a b ∧ rAny M a b N = false then o ++ [(⟨(a : Int), (b : Int)⟩ : S96)] else o
def rB (M : List Int) (N a m : Nat) (o : List (S96)) : List (S96) := (List.range m).foldl (rStep M N a) o
def rA (M : List Int) (N m : Nat) (o : List (S96)) : List (S96) := (List.range m).foldl (fun o a => rB M N a N o) o
theorem rStep_len (M : List Int) (N a : Nat) (o : List (S96)) (b : Nat) : (rStep M N a o b).length ≤ o.length + 1 := by
  unfold rStep
  split <;> simp
theorem rB_len (M : List Int) (N a m : Nat) (o : List (S96)) : (rB M N a m o).length ≤ o.length + m := by
  induction m with
  | zero => exact Nat.le_refl _
  | succ m ih =>
    have e : rB M N a (m + 1) o = rStep M N a (rB M N a m o) m := by simp [rB, List.range_succ, List.foldl_append]
    rw [e]
    have := rStep_len M N a (rB M N a m o) m
    omega
theorem rA_len (M : List Int) (N m : Nat) (o : List (S96)) : (rA M N m o).length ≤ o.length + m * N := by
  induction m with
  | zero => simp [rA]
  | succ m ih =>
    have e : rA M N (m + 1) o = rB M N m N (rA M N m o) := by simp [rA, List.range_succ, List.foldl_append]
    rw [e, Nat.add_mul]
    have := rB_len M N m N (rA M N m o)
    omega
def impl_Reduced.f (k : Nat) (a0 : Int) (l1 : List (S96)) : Option (List (S96)) :=
  (impl_Canon.f k a0 l1).bind fun t => if t.2 = true then ((impl_dist.f a0 l1).bind fun M => some (rA M a0.toNat a0.toNat [])) else some []
theorem impl_Reduced.mono : ∀ a0 a1 k, LeO (impl_Reduced.f k a0 a1) (impl_Reduced.f (k + 1) a0 a1) := by
  intro a0 a1 k
  unfold impl_Reduced.f
  exact LeO.bind (impl_Canon.mono _ _ _) (fun _ => LeO.refl _)
theorem impl_dist.n16r {a0 : Int} {l1 : List (S96)} {r : List Int} (h : impl_dist.f a0 l1 = some r) : 0 ≤ a0 ∧ a0 ≤ 16 := by
  unfold impl_dist.f at h
  split at h
  · assumption
  · cases h
set_option maxHeartbeats 8000000 in
set_option maxRecDepth 100000 in
theorem impl_Reduced.calls (k : Nat) (a0 : Int) (A1 : Option Addr) (c1 : Nat) (l1 : List (S96)) (r : List (S96)) (w : World) (hr1 : Kd.C k96 w A1 l1.length l1) (hc1 : l1.length ≤ c1) (h : impl_Reduced.f k a0 l1 = some r) :
    Calls Try.prog 18 #[.int .i64 a0, .slice A1 l1.length c1] w fun e w' => ∃ v0_ : Value, e = .returned (v0_) ∧ Kd.R k96 96 w' w.heap.size (fun _ => True) v0_ r ∧ Below w.heap.size w w' := by
  have HR1 := Aside0.mk hr1
  have HC1 := Aside0.mk hc1
  clear hr1 hc1
  have HB := Aside0.mk (Below.refl w.heap.size w)
  unfold impl_Reduced.f at h
  obtain ⟨⟨t0, t1⟩, e1, h⟩ := Option.bind_eq_some_iff.mp h
  have E1 := Aside0.mk e1
  clear e1
  replace h : (if t1 = true then ((impl_dist.f a0 l1).bind fun M => some (rA M a0.toNat a0.toNat [])) else some []) = some r := h
  cases t1 with
  | false =>
    rw [if_neg (by simp)] at h
    obtain rfl := Option.some.inj h
    go_enter Try.func18, Try.ntmps18
    go_wp2_with (first | ((with_reducible refine gate_dst (N := 13) rfl ?_); refine Kd.R_lit k96 _ 96 ?hg (N := 13) ?hd (xs := ([] : List (S96))) (inner := []) (ok := fun _ => True) (okp := fun _ => True) ?hr ?hp (fun _ hk => hk) trivial (Below.refl _ _) (Nat.le_refl _) (by simp) ?_; (case hd => rfl); (case hg => rfl); (case hr => first | (go_simp; done) | (go_simp; rfl)); (case hp => exact (Reps.none _ _)); intro v1 w3 ho hb hg_ hnew_; clear hg_ hnew_; have HO := Aside0.mk ho; have HBq := Aside0.mk hb; clear HB; have HB := HBq; clear HBq ho hb) | (go_at_call 35; (with_reducible refine (impl_Canon.calls k a0 _ _ l1 t0 false _ ?s1 HC1.out E1.out).mono ?_); (case s1 => exact Kd.C_below HR1.out HB.out); rintro e w1 ⟨vq, rfl, hq_, hb1⟩; have HOq := Aside0.mk (Kd.R_below HO.out hb1); have HBq := Aside0.mk (below_step HB.out hb1); clear HO HB hb1 hq_; have HO := HOq; have HB := HBq; clear HOq HBq))
    go_ret
    exact ⟨_, rfl, HO.out, HB.out⟩
  | true =>
    rw [if_pos rfl] at h
    obtain ⟨M, e4, h⟩ := Option.bind_eq_some_iff.mp h
    have E4 := Aside0.mk e4
    have HM := Aside0.mk (impl_dist.len e4)
    have hn16 := impl_dist.n16r e4
    clear e4
    obtain ⟨N, rfl⟩ : ∃ N : Nat, a0 = (N : Int) := ⟨a0.toNat, by omega⟩
    rw [Int.toNat_natCast] at h
    have HN := Aside0.mk (show N ≤ 16 by omega)
    have H := Aside0.mk (Option.some.inj h)
    clear hn16 h
    go_enter Try.func18, Try.ntmps18
    go_wp2_with (first | ((with_reducible refine gate_dst (N := 13) rfl ?_); refine Kd.R_lit k96 _ 96 ?hg (N := 13) ?hd (xs := ([] : List (S96))) (inner := []) (ok := fun _ => True) (okp := fun _ => True) ?hr ?hp (fun _ hk => hk) trivial (Below.refl _ _) (Nat.le_refl _) (by simp) ?_; (case hd => rfl); (case hg => rfl); (case hr => first | (go_simp; done) | (go_simp; rfl)); (case hp => exact (Reps.none _ _)); intro v1 w3 ho hb hg_ hnew_; clear hg_ hnew_; have HO := Aside0.mk ho; have HBq := Aside0.mk hb; clear HB; have HB := HBq; clear HBq ho hb) | (go_at_call 35; (with_reducible refine (impl_Canon.calls k (N : Int) _ _ l1 t0 true _ ?s1 HC1.out E1.out).mono ?_); (case s1 => exact Kd.C_below HR1.out HB.out); rintro e w1 ⟨vq, rfl, hq_, hb1⟩; have HOq := Aside0.mk (Kd.R_below HO.out hb1); have HBq := Aside0.mk (below_step HB.out hb1); clear HO HB hb1 hq_; have HO := HOq; have HB := HBq; clear HOq HBq) | (go_at_call 71; (with_reducible refine (impl_dist.calls (N : Int) _ _ l1 M _ ?s1 HC1.out E4.out).mono ?_); (case s1 => exact Kd.C_below HR1.out HB.out); rintro e w2 ⟨rfl, hb2⟩; have HOq := Aside0.mk (Kd.R_below HO.out hb2); have HBq := Aside0.mk (below_step HB.out hb2); clear HO HB hb2; have HO := HOq; have HB := HBq; clear HOq HBq) | ((with_reducible refine gate_dst (N := 8) rfl ?_); refine box_event ?hg (N := 8) ?hd (cs := dArr dZero) (t := 100) ?hr ?_; (case hd => rfl); (case hg => rfl); (case hr => exact allocArr rfl _ _); intro g6 hg6 w6 hb6 hbel6; have HG6 := Aside0.mk hb6; have HOq := Aside0.mk (Kd.R_below HO.out hbel6); have HS6 := Aside0.mk (show w.heap.size ≤ g6 by rw [hg6]; exact below_size HB.out); have HBq := Aside0.mk (below_step HB.out hbel6); clear HO HB; have HO := HOq; have HB := HBq; clear HOq HBq hg6 hb6 hbel6) | (refine wpList_store_row rfl 100 (.tmp 8) (.tmp 25) rfl g6 (dArr M) rfl rfl 100 (dArr dZero) HG6.out (by rw [dArr_size, HM.out]; kernel_rfl) (by rw [dArr_size, dArr_size, HM.out]; simp only [dZero, List.length_replicate]) (dArr_one M) ?_; obtain ⟨w7, hw7⟩ : ∃ w7, w7 = w6.setRow g6 (dArr M) := ⟨_, rfl⟩; rw [← hw7]; have HGq := Aside0.mk (show w7.heap[g6]? = some (.cells (dArr M) 100 (0, 0)) by rw [hw7]; exact setRow_heap _ g6 _ (dArr M) 100 (0, 0) HG6.out); have HOq := Aside0.mk (show Kd.R k96 96 w7 w.heap.size (fun _ => True) v1 [] by rw [hw7]; exact Kd.R_mono (Kd.R_move (Kd.R_types HO.out HG6.out (by decide)) (fun k_ hk => setRow_other _ _ _ _ hk.2)) (fun _ _ => trivial)); have HBq := Aside0.mk (show Below w.heap.size w w7 by rw [hw7]; exact below_setRow HB.out HS6.out _); clear HO HB HG6 hw7; have HO := HOq; have HB := HBq; have HG6 := HGq; clear HOq HBq HGq))
    clear HC1 HR1 E1 E4
    go_loopg [5, 27] N (fun kq v5 v27 w' => ∃ a : Nat, v27 = .int .i64 (a : Int) ∧ Aside0 (a + kq = N) ∧ Aside0 (w'.heap[g6]? = some (.cells (dArr M) 100 (0, 0))) ∧ Aside0 (Kd.R k96 96 w' w.heap.size (fun _ => True) v5 (rA M N a [])) ∧ Aside0 (Below w.heap.size w w'))
    case atStart => exact ⟨0, rfl, ⟨by omega⟩, HG6, HO, HB⟩
    case round =>
      clear HG6 HO HB
      obtain ⟨a, rfl, HA, HG6, HO, HB⟩ := hrel
      by_cases ca : a < N
      · have cab : decide ((a : Int) < (N : Int)) = true := by simpa using ca
        go_wp2
        go_loopg [5, 31] N (fun kq v5 v31 w' => ∃ b : Nat, v31 = .int .i64 (b : Int) ∧ Aside0 (b + kq = N) ∧ Aside0 (w'.heap[g6]? = some (.cells (dArr M) 100 (0, 0))) ∧ Aside0 (Kd.R k96 96 w' w.heap.size (fun _ => True) v5 (rB M N a b (rA M N a []))) ∧ Aside0 (Below w.heap.size w w'))
        case atStart => exact ⟨0, rfl, ⟨by omega⟩, HG6, HO, HB⟩
        case round =>
          clear HG6 HO HB
          obtain ⟨b, rfl, HBb, HG6, HO, HB⟩ := hrel
          by_cases cb : b < N
          · have cbb : decide ((b : Int) < (N : Int)) = true := by simpa using cb
            obtain ⟨o, ho⟩ : ∃ o, o = rB M N a b (rA M N a []) := ⟨_, rfl⟩
            have HOL := Aside0.mk (show o.length ≤ 1000 by
              rw [ho]
              have h1 := rB_len M N a b (rA M N a [])
              have h2 := rA_len M N a []
              have h3 : a * N ≤ 16 * 16 := Nat.mul_le_mul (by have := HN.out; omega) HN.out
              have h4 := HN.out
              simp at h2
              omega)
            have HST := Aside0.mk (show rB M N a (b + 1) (rA M N a []) = rStep M N a o b by rw [ho]; simp [rB, List.range_succ, List.foldl_append])
            rw [← ho] at HO
            clear ho
            obtain ⟨Ao, co, eo⟩ := Kd.R_slice HO.out
            subst eo
            go_wp2
            go_loopg [11, 35] N (fun kq v11 v35 w' => ∃ q : Nat, v35 = .int .i64 (q : Int) ∧ v11 = .bool (rAny M a b q) ∧ Aside0 (q + kq = N) ∧ Aside0 (w'.heap[g6]? = some (.cells (dArr M) 100 (0, 0))) ∧ Aside0 (Kd.R k96 96 w' w.heap.size (fun _ => True) (.slice Ao o.length co) o) ∧ Aside0 (Below w.heap.size w w'))
            case atStart => exact ⟨0, rfl, rfl, ⟨by omega⟩, HG6, HO, HB⟩
            case round =>
              clear HG6 HO HB
              obtain ⟨q, rfl, rfl, HQ, HG6, HO, HB⟩ := hrel
              have ha16 : a < 16 := by have := HN.out; omega
              have hb16 : b < 16 := by have := HN.out; omega
              have cell : ∀ p, p < 256 → wr.cell? ⟨g6, p, none⟩ = some (.int .i64 (M.getD p 0)) := fun p hp => by
                rw [blk_cell HG6.out]
                exact dArr_get (by have := HM.out; omega)
              by_cases cq : q < N
              · have cqb : decide ((q : Int) < (N : Int)) = true := by simpa using cq
                have hq16 : q < 16 := by have := HN.out; omega
                have hx1 : wr.cell? ⟨g6, a * 16 + q, none⟩ = some (.int .i64 (dGet M a q)) := cell _ (by omega)
                have hx2 : wr.cell? ⟨g6, q * 16 + b, none⟩ = some (.int .i64 (dGet M q b)) := cell _ (by omega)
                have hany : rAny M a b (q + 1) = (rAny M a b q || (decide (0 < dGet M a q) && decide (0 < dGet M q b))) := by simp [rAny, List.range_succ, List.any_append]
                clear cell
                cases hb0 : rAny M a b q with
                | true =>
                  have HANY := Aside0.mk (show rAny M a b (q + 1) = true by rw [hany, hb0]; rfl)
                  clear hany
                  go_wp2
                  go_roundg (N - (q + 1))
                  case measure => have := HQ.out; omega
                  case rel => exact ⟨q + 1, (by first | rfl | rw [dW q (by omega)]), (by rw [HANY.out]), ⟨by omega⟩, HG6, HO, HB⟩
                | false =>
                  by_cases d1 : 0 < dGet M a q
                  · have db1 : decide (0 < dGet M a q) = true := decide_eq_true d1
                    by_cases d2 : 0 < dGet M q b
                    · have db2 : decide (0 < dGet M q b) = true := decide_eq_true d2
                      have HANY := Aside0.mk (show rAny M a b (q + 1) = true by rw [hany, db1, db2, Bool.and_self, Bool.or_true])
                      clear hany
                      go_wp2
                      go_roundg (N - (q + 1))
                      case measure => have := HQ.out; omega
                      case rel => exact ⟨q + 1, (by first | rfl | rw [dW q (by omega)]), (by rw [HANY.out]), ⟨by omega⟩, HG6, HO, HB⟩
                    · have db2 : decide (0 < dGet M q b) = false := decide_eq_false d2
                      have HANY := Aside0.mk (show rAny M a b (q + 1) = false by rw [hany, hb0, db2, Bool.and_false, Bool.or_false])
                      clear hany
                      go_wp2
                      go_roundg (N - (q + 1))
                      case measure => have := HQ.out; omega
                      case rel => exact ⟨q + 1, (by first | rfl | rw [dW q (by omega)]), (by rw [HANY.out]), ⟨by omega⟩, HG6, HO, HB⟩
                  · have db1 : decide (0 < dGet M a q) = false := decide_eq_false d1
                    have HANY := Aside0.mk (show rAny M a b (q + 1) = false by rw [hany, hb0, db1, Bool.false_and, Bool.or_false])
                    clear hany
                    go_wp2
                    go_roundg (N - (q + 1))
                    case measure => have := HQ.out; omega
                    case rel => exact ⟨q + 1, (by first | rfl | rw [dW q (by omega)]), (by rw [HANY.out]), ⟨by omega⟩, HG6, HO, HB⟩
              · have cqb : decide ((q : Int) < (N : Int)) = false := by simpa using cq
                have eq_ : q = N := by have := HQ.out; omega
                subst eq_
                have hx3 : wr.cell? ⟨g6, a * 16 + b, none⟩ = some (.int .i64 (dGet M a b)) := cell _ (by omega)
                clear cell
                by_cases d1 : 0 < dGet M a b
                · have db1 : decide (0 < dGet M a b) = true := decide_eq_true d1
                  cases hb0 : rAny M a b q with
                  | true =>
                    have HS2 := Aside0.mk (show rStep M q a o b = o by unfold rStep; rw [if_neg (by rw [hb0]; simp)])
                    go_wp2
                    go_roundg (q - (b + 1))
                    case measure => have := HBb.out; omega
                    case rel => exact ⟨b + 1, (by first | rfl | rw [dW b (by omega)]), ⟨by omega⟩, HG6, ⟨by rw [HST.out, HS2.out]; exact HO.out⟩, HB⟩
                  | false =>
                    have HS2 := Aside0.mk (show rStep M q a o b = o ++ [(⟨(a : Int), (b : Int)⟩ : S96)] by unfold rStep; rw [if_pos ⟨d1, hb0⟩])
                    go_wp2_with (first | ((with_reducible refine gate_builtin (b := .append) (xs := #[.tmp 66, .tmp 70]) rfl ?_); at_builtin; refine Kd.R_append k96 (w0 := w) w.heap.size rfl (.tmp 66) (.tmp 70) 24 96 (.agg #[(.int .i64 0), (.int .i64 0)]) 16 rfl Try.underlying24 info96 rfl (by decide) (by omega) (.slice Ao o.length co) o (⟨(a : Int), (b : Int)⟩ : S96) [.int .i64 (a : Int), .int .i64 (b : Int)] (fun _ => True) (fun _ => False) rfl rfl ?aP (fun _ hk => hk.elim) ?aF ?aO ?aB ?aS ?aL ?_; (case aP => exact k96_mkM _ _ _ (⟨(a : Int), (b : Int)⟩ : S96)); (case aB => exact (by repeat (first | (with_reducible first | exact HB.out | apply below_alloc | apply pw_below_drewN | apply below_drew1) | exact HB.out))); (case aF => exact (fun _ _ => trivial)); (case aO => exact (by (with_reducible repeat (first | apply Kd.R_alloc | apply Kd.R_drewN | apply Kd.R_drew)); exact HO.out)); (case aS => exact (below_size (by repeat (first | (with_reducible first | exact HB.out | apply below_alloc | apply pw_below_drewN | apply below_drew1) | exact HB.out)))); (case aL => have := HOL.out; omega); intro v5 w5 ho hb hg hat; have HGq := Aside0.mk (blk_grown HG6.out hg (Kd.R_ne HO.out HG6.out (by decide))); have n0_ := Aside0.mk hb; have n1_ := Aside0.mk ho; clear HB HO HG6; have HB := n0_; have HO := n1_; have HG6 := HGq; clear n0_ n1_ HGq; clear ho hb hg hat))
                    go_roundg (q - (b + 1))
                    case measure => have := HBb.out; omega
                    case rel => exact ⟨b + 1, (by first | rfl | rw [dW b (by omega)]), ⟨by omega⟩, HG6, ⟨by rw [HST.out, HS2.out]; exact HO.out⟩, HB⟩
                · have db1 : decide (0 < dGet M a b) = false := decide_eq_false d1
                  have HS2 := Aside0.mk (show rStep M q a o b = o by unfold rStep; rw [if_neg (fun h => d1 h.1)])
                  go_wp2
                  go_roundg (q - (b + 1))
                  case measure => have := HBb.out; omega
                  case rel => exact ⟨b + 1, (by first | rfl | rw [dW b (by omega)]), ⟨by omega⟩, HG6, ⟨by rw [HST.out, HS2.out]; exact HO.out⟩, HB⟩
          · have cbb : decide ((b : Int) < (N : Int)) = false := by simpa using cb
            have eb : b = N := by have := HBb.out; omega
            subst eb
            have ha16 : a < 16 := by have := HN.out; omega
            go_wp2
            go_roundg (b - (a + 1))
            case measure => have := HA.out; omega
            case rel => exact ⟨a + 1, (by first | rfl | rw [dW a (by omega)]), ⟨by omega⟩, HG6, ⟨by rw [show rA M b (a + 1) [] = rB M b a b (rA M b a []) by simp [rA, List.range_succ, List.foldl_append]]; exact HO.out⟩, HB⟩
      · have cab : decide ((a : Int) < (N : Int)) = false := by simpa using ca
        have ea : a = N := by have := HA.out; omega
        subst ea
        rw [H.out] at HO
        go_wp2
        go_ret
        exact ⟨_, rfl, HO.out, HB.out⟩

/-! ### laws_big: function 29 -/
def laws_big.f (l0 : List Int) : Option (Bool) := some (decide ((l0.length : Int) > 1048576))
set_option maxHeartbeats 8000000 in
set_option maxRecDepth 100000 in
theorem laws_big.calls (A0 : Option Addr) (c0 : Nat) (l0 : List Int) (r : Bool) (w : World) (hr0 : Kd.C (Kd.int .u8) w A0 l0.length l0) (hc0 : l0.length ≤ c0) (h : laws_big.f l0 = some r) :
    Calls Try.prog 29 #[.slice A0 l0.length c0] w fun e w' => e = .returned (.bool r) ∧ Drawn0 w w' := by
  have HR0 := Aside0.mk hr0
  have HC0 := Aside0.mk hc0
  clear hr0 hc0
  have H : (some (decide ((l0.length : Int) > 1048576))) = some r := h
  clear h
  obtain rfl := Option.some.inj H
  go_enter Try.func29, Try.ntmps29
  go_wp2
  go_ret
  exact ⟨by first | rfl | (simp; done) | (simp [*]; done), by repeat (first | exact Drawn0.refl _ | apply Drawn0.step)⟩

/-- A state of type 170 at block g of W; what its slices lead to came in by w0. -/
def IsS170 (w0 W : World) (g : Nat) (f0 : List Int) (f1 : Int) (f2 : Int) : Prop := ∃ A0 c0, W.heap[g]? = some (.cells #[.slice A0 f0.length c0, .int .i64 f1, .int .i64 f2] 170 (0, 0)) ∧ w0.heap.size ≤ g ∧ Kd.C (Kd.int .u8) w0 A0 f0.length f0
theorem IsS170.grown {w0 W : World} {g : Nat} {f0 : List Int} {f1 : Int} {f2 : Int} {W1 : World} {row : Option Nat} (h : IsS170 w0 W g f0 f1 f2) (hw : W.grownBy W1 row) (hne : some g ≠ row) : IsS170 w0 W1 g f0 f1 f2 := by
  obtain ⟨A0, c0, hb, hg, hr0⟩ := h
  exact ⟨A0, c0, blk_grown hb hw hne, hg, hr0⟩
theorem IsS170.own_neN {w0 W : World} {g : Nat} {f0 : List Int} {f1 : Int} {f2 : Int} {α : Type} {d : Kd α} {e : Nat} {base : Nat} {ok : Nat → Prop} {v : Value} {xs : List α} (h : IsS170 w0 W g f0 f1 f2) (ho : Kd.N d e W base ok v xs) (ht : e ≠ 170) : some g ≠ v.ownBlock := by
  obtain ⟨A0, c0, hb, hg, hr0⟩ := h
  exact Kd.N_ne ho hb ht
theorem IsS170.fresh {w0 W : World} {g : Nat} {f0 : List Int} {f1 : Int} {f2 : Int} (h : IsS170 w0 W g f0 f1 f2) : ∀ k, W.heap.size ≤ k → k ≠ g := by
  obtain ⟨A0, c0, hb, hg, hr0⟩ := h
  exact Kd.freshB hb
theorem IsS170.kept {w0 W : World} {g : Nat} {f0 : List Int} {f1 : Int} {f2 : Int} {W1 : World} {S : Nat → Prop} (h : IsS170 w0 W g f0 f1 f2) (hk : Kept W W1 S) (hne : ¬ S g) : IsS170 w0 W1 g f0 f1 f2 := by
  obtain ⟨A0, c0, hb, hg, hr0⟩ := h
  exact ⟨A0, c0, blk_kept hb hk hne, hg, hr0⟩
theorem IsS170.below {w0 W : World} {g : Nat} {f0 : List Int} {f1 : Int} {f2 : Int} {W1 : World} (h : IsS170 w0 W g f0 f1 f2) (hw : Below W.heap.size W W1) : IsS170 w0 W1 g f0 f1 f2 := h.grown (grown_of_below hw none) (by simp)
theorem IsS170.alloc {w0 W : World} {g : Nat} {f0 : List Int} {f1 : Int} {f2 : Int} (h : IsS170 w0 W g f0 f1 f2) (o : Obj) : IsS170 w0 (W.alloc o) g f0 f1 f2 := h.below (below_alloc (Below.refl _ _) o)
theorem IsS170.drewN {w0 W : World} {g : Nat} {f0 : List Int} {f1 : Int} {f2 : Int} (h : IsS170 w0 W g f0 f1 f2) (m : Nat) : IsS170 w0 (W.drewN m) g f0 f1 f2 := h
theorem IsS170.drew {w0 W : World} {g : Nat} {f0 : List Int} {f1 : Int} {f2 : Int} (h : IsS170 w0 W g f0 f1 f2) : IsS170 w0 W.drew g f0 f1 f2 := h
theorem IsS170.at_ {w0 W : World} {g : Nat} {f0 : List Int} {f1 : Int} {f2 : Int} {w' : World} {m : Nat} (hq : W.drewN m = w') (h : IsS170 w0 W g f0 f1 f2) : IsS170 w0 w' g f0 f1 f2 := by subst hq; exact IsS170.drewN h m
theorem IsS170.apart {w0 W : World} {g : Nat} {f0 : List Int} {f1 : Int} {f2 : Int} {α : Type} {d : Kd α} {e : Nat} {base : Nat} {ok : Nat → Prop} {v : Value} {xs : List α} (h : IsS170 w0 W g f0 f1 f2) (ho : d.R e W base ok v xs) (ht : ∀ q, q ∈ e :: d.E → q ≠ 170) : d.R e W base (fun k => ok k ∧ k ≠ g) v xs := by
  obtain ⟨A0, c0, hb, hg, hr0⟩ := h
  exact Kd.R_types ho hb ht
theorem IsS170.own_ne {w0 W : World} {g : Nat} {f0 : List Int} {f1 : Int} {f2 : Int} {α : Type} {d : Kd α} {e : Nat} {base : Nat} {ok : Nat → Prop} {v : Value} {xs : List α} (h : IsS170 w0 W g f0 f1 f2) (ho : d.R e W base ok v xs) (ht : e ≠ 170) : some g ≠ v.ownBlock := by
  obtain ⟨A0, c0, hb, hg, hr0⟩ := h
  exact Kd.R_ne ho hb ht
theorem IsS170.apartQ {w0 W : World} {g : Nat} {f0 : List Int} {f1 : Int} {f2 : Int} {α : Type} {d : Kd α} {e : Nat} {base : Nat} {ok : Nat → Prop} {v : Value} {xs : List α} (h : IsS170 w0 W g f0 f1 f2) (ho : d.Q e W base ok v xs) (ht : ∀ q, q ∈ e :: d.E → q ≠ 170) : d.Q e W base (fun k => ok k ∧ k ≠ g) v xs := by
  obtain ⟨A0, c0, hb, hg, hr0⟩ := h
  exact Kd.Q_types ho hb ht
theorem IsS170.own_neQ {w0 W : World} {g : Nat} {f0 : List Int} {f1 : Int} {f2 : Int} {α : Type} {d : Kd α} {e : Nat} {base : Nat} {ok : Nat → Prop} {v : Value} {xs : List α} (h : IsS170 w0 W g f0 f1 f2) (ho : d.Q e W base ok v xs) (ht : e ≠ 170) : some g ≠ v.ownBlock := by
  obtain ⟨A0, c0, hb, hg, hr0⟩ := h
  exact Kd.Q_ne ho hb ht
theorem IsS170.apartS {w0 W : World} {g : Nat} {f0 : List Int} {f1 : Int} {f2 : Int} {α : Type} {d : Kd α} {e : Nat} {base : Nat} {ok : Nat → Prop} {v : Value} {xs : List α} (h : IsS170 w0 W g f0 f1 f2) (ho : d.S e W base ok v xs) (ht : ∀ q, q ∈ e :: d.E → q ≠ 170) : d.S e W base (fun k => ok k ∧ k ≠ g) v xs := by
  obtain ⟨A0, c0, hb, hg, hr0⟩ := h
  exact Kd.S_types ho hb ht
theorem IsS170.own_neS {w0 W : World} {g : Nat} {f0 : List Int} {f1 : Int} {f2 : Int} {α : Type} {d : Kd α} {e : Nat} {base : Nat} {ok : Nat → Prop} {v : Value} {xs : List α} (h : IsS170 w0 W g f0 f1 f2) (ho : d.S e W base ok v xs) (ht : e ≠ 170) : some g ≠ v.ownBlock := by
  obtain ⟨A0, c0, hb, hg, hr0⟩ := h
  exact Kd.S_ne ho hb ht
theorem IsS170.lt {w0 W : World} {g : Nat} {f0 : List Int} {f1 : Int} {f2 : Int} (h : IsS170 w0 W g f0 f1 f2) : g < W.heap.size := by
  obtain ⟨A0, c0, hb, hg, hr0⟩ := h
  exact blk_lt hb
theorem IsS170.ge {w0 W : World} {g : Nat} {f0 : List Int} {f1 : Int} {f2 : Int} (h : IsS170 w0 W g f0 f1 f2) : w0.heap.size ≤ g := by
  obtain ⟨A0, c0, hb, hg, hr0⟩ := h
  exact hg
theorem IsS170.ne_blk {w0 W : World} {g : Nat} {f0 : List Int} {f1 : Int} {f2 : Int} {a : Nat} {cs : Array Value} {t : TypeId} {fr : Nat × Nat} (h : IsS170 w0 W g f0 f1 f2) (hb2 : W.heap[a]? = some (.cells cs t fr)) (ht : t ≠ 170) : g ≠ a := by
  obtain ⟨A0, c0, hb, hg, hr0⟩ := h
  rintro rfl
  rw [hb] at hb2
  injection hb2 with hb2
  injection hb2 with _ ht2
  exact ht ht2.symm
theorem IsS170.far {w0 W : World} {g : Nat} {f0 : List Int} {f1 : Int} {f2 : Int} {p : Addr} (h : IsS170 w0 W g f0 f1 f2) (hne : g ≠ p.block) (u : Value) : IsS170 w0 (W.setCell p u) g f0 f1 f2 := by
  obtain ⟨A0, c0, hb, hg, hr0⟩ := h
  exact ⟨A0, c0, blk_far hb hne u, hg, hr0⟩
theorem cellS170_0 {W : World} {g : Nat} {A0 : Option Addr} {c0 : Nat} {f0 : List Int} {f1 : Int} {f2 : Int} (h : W.heap[g]? = some (.cells #[.slice A0 f0.length c0, .int .i64 f1, .int .i64 f2] 170 (0, 0))) : W.cell? ⟨g, 0, none⟩ = some (.slice A0 f0.length c0) := (blk_cell h 0).trans rfl
theorem cellS170_1 {W : World} {g : Nat} {A0 : Option Addr} {c0 : Nat} {f0 : List Int} {f1 : Int} {f2 : Int} (h : W.heap[g]? = some (.cells #[.slice A0 f0.length c0, .int .i64 f1, .int .i64 f2] 170 (0, 0))) : W.cell? ⟨g, 1, none⟩ = some (.int .i64 f1) := (blk_cell h 1).trans rfl
theorem IsS170.set_1 {w0 W : World} {g : Nat} {f0 : List Int} {f1 : Int} {f2 : Int} (h : IsS170 w0 W g f0 f1 f2) (x : Int) : IsS170 w0 (W.setCell ⟨g, 1, none⟩ (.int .i64 x)) g f0 x f2 := by
  obtain ⟨A0, c0, hb, hg, hr0⟩ := h
  exact ⟨A0, c0, by simpa using blk_set hb 1 (.int .i64 x), hg, hr0⟩
theorem cellS170_2 {W : World} {g : Nat} {A0 : Option Addr} {c0 : Nat} {f0 : List Int} {f1 : Int} {f2 : Int} (h : W.heap[g]? = some (.cells #[.slice A0 f0.length c0, .int .i64 f1, .int .i64 f2] 170 (0, 0))) : W.cell? ⟨g, 2, none⟩ = some (.int .i64 f2) := (blk_cell h 2).trans rfl
theorem IsS170.set_2 {w0 W : World} {g : Nat} {f0 : List Int} {f1 : Int} {f2 : Int} (h : IsS170 w0 W g f0 f1 f2) (x : Int) : IsS170 w0 (W.setCell ⟨g, 2, none⟩ (.int .i64 x)) g f0 f1 x := by
  obtain ⟨A0, c0, hb, hg, hr0⟩ := h
  exact ⟨A0, c0, by simpa using blk_set hb 2 (.int .i64 x), hg, hr0⟩
theorem IsS170.new (w0 W : World) (A0 : Option Addr) (c0 : Nat) (f0 : List Int) (f1 : Int) (f2 : Int) (hB : Below w0.heap.size w0 W) (hr0 : Kd.C (Kd.int .u8) w0 A0 f0.length f0) : IsS170 w0 (W.alloc (.cells #[.slice A0 f0.length c0, .int .i64 f1, .int .i64 f2] 170)) W.heap.size f0 f1 f2 := ⟨A0, c0, by simpa using heap_alloc_new W _, hB.size, hr0⟩

/-! ### spec_l1New: function 82 -/
def spec_l1New.l0 : Nat → List Int → Int → Int → Option (List Int × Int × Int)
  | 0, _, _, _ => none
  | k + 1, x0, x3, x4 => if x4 < (x0.length : Int) then (if x4 < 4000 then (if 0 ≤ x4 then (spec_l1New.l0 k x0 (Go.bits .and .i64 (wrap64 ((wrap64 ((wrap64 (x3 * 131)) + (wrap64 (rd x0 x4)))) + 7)) 1073741823) (wrap64 (x4 + 1))) else (none)) else (some (x0, 0, x3))) else (some (x0, 0, x3))
def spec_l1New.f (k : Nat) (l0 : List Int) : Option (List Int × Int × Int) := spec_l1New.l0 k l0 (wrap64 (70070 + (l0.length : Int))) 0
theorem spec_l1New.mono_l : ∀ k, (∀ y0 y1 y2, LeO (spec_l1New.l0 k y0 y1 y2) (spec_l1New.l0 (k + 1) y0 y1 y2))
  | 0 => fun _ _ _ r h => by simp [spec_l1New.l0] at h
  | k + 1 => by
    have ih0 := spec_l1New.mono_l k
    · intro y0 y1 y2
      unfold spec_l1New.l0
      repeat' first
      | (with_reducible exact ih0 _ _ _)
      | (with_reducible exact LeO.refl _)
      | (with_reducible exact LeO.none _)
      | (with_reducible refine LeO.ite ?_ ?_)
      | (with_reducible refine LeO.bind ?_ (fun _ => ?_))
      | exact ih0 _ _ _
      | exact LeO.none _
      | refine LeO.ite ?_ ?_
      | refine LeO.bind ?_ (fun _ => ?_)
theorem spec_l1New.mono : ∀ a0 k, LeO (spec_l1New.f k a0) (spec_l1New.f (k + 1) a0) := by
  intro a0 k
  have ih0 := spec_l1New.mono_l k
  unfold spec_l1New.f
  repeat' first
      | (with_reducible exact ih0 _ _ _)
      | (with_reducible exact LeO.refl _)
      | (with_reducible exact LeO.none _)
      | (with_reducible refine LeO.ite ?_ ?_)
      | (with_reducible refine LeO.bind ?_ (fun _ => ?_))
      | exact ih0 _ _ _
      | exact LeO.none _
      | refine LeO.ite ?_ ?_
      | refine LeO.bind ?_ (fun _ => ?_)
set_option maxHeartbeats 8000000 in
set_option maxRecDepth 100000 in
theorem spec_l1New.calls (k : Nat) (A0 : Option Addr) (c0 : Nat) (l0 : List Int) (r1 : List Int) (r2 : Int) (r3 : Int) (w0 w : World) (hB : Below w0.heap.size w0 w) (hr0 : Kd.C (Kd.int .u8) w0 A0 l0.length l0) (hc0 : l0.length ≤ c0) (h : spec_l1New.f k l0 = some (r1, r2, r3)) :
    Calls Try.prog 82 #[.slice A0 l0.length c0] w fun e w' => ∃ g_ : Nat, e = .returned (.pointer (some ⟨g_, 0, none⟩)) ∧ IsS170 w0 w' g_ r1 r2 r3 ∧ Below w0.heap.size w0 w' ∧ Below w.heap.size w w' := by
  have hu170 := Try.underlying170
  have HR0 := Aside0.mk hr0
  have HC0 := Aside0.mk hc0
  clear hr0 hc0
  have HBW := Aside0.mk (Below.refl w.heap.size w)
  have HW0 := Aside0.mk hB.size
  have HB := Aside0.mk hB
  clear hB
  have H : (spec_l1New.l0 k l0 (wrap64 (70070 + (l0.length : Int))) 0) = some (r1, r2, r3) := h
  clear h
  have H' := Aside0.mk H
  clear H
  go_enter Try.func82, Try.ntmps82
  go_wp2
  go_loopg [3, 4] k (fun kq v3 v4 w' => ∃ (x3_1 : Int) (x4_1 : Int), v3 = .int .i64 x3_1 ∧ v4 = .int .i64 x4_1 ∧ Aside0 (spec_l1New.l0 kq l0 x3_1 x4_1 = some (r1, r2, r3)) ∧ Aside0 (kq ≤ k) ∧ Aside0 (Below w0.heap.size w0 w') ∧ Aside0 (Below w.heap.size w w'))
  case atStart => exact ⟨(wrap64 (70070 + (l0.length : Int))), (0), (by first | rfl | (simp; done) | (simp [*]; done)), (by first | rfl | (simp; done) | (simp [*]; done)), H', ⟨Nat.le_refl _⟩, ⟨by repeat (first | (with_reducible first | exact HB.out | apply below_alloc | apply pw_below_drewN | apply below_drew1) | exact HB.out)⟩, ⟨by repeat (first | (with_reducible first | exact HBW.out | apply below_alloc | apply pw_below_drewN | apply below_drew1) | exact HBW.out)⟩⟩
  case round =>
    clear H'
    obtain ⟨x3_1, x4_1, rfl, rfl, HA, HK1, HB, HBW⟩ := hrel
    cases gk with
    | zero => exact absurd HA.out (by simp [spec_l1New.l0])
    | succ k1 =>
      have H := HA.out
      clear HA
      simp only [spec_l1New.l0] at H
      by_cases c2 : x4_1 < (l0.length : Int)
      · rw [if_pos c2] at H
        have c2b0 : decide (x4_1 < (l0.length : Int)) = true := decide_eq_true c2
        clear c2
        by_cases c3 : x4_1 < 4000
        · rw [if_pos c3] at H
          have c3b0 : decide (x4_1 < 4000) = true := decide_eq_true c3
          clear c3
          by_cases c4 : 0 ≤ x4_1
          · rw [if_pos c4] at H
            have c4b0 : decide (0 ≤ x4_1) = true := decide_eq_true c4
            clear c4
            have H' := Aside0.mk H
            clear H
            have p124 : 0 ≤ (x4_1 : Int) := of_decide_eq_true (by first | (with_reducible assumption) | assumption)
            have q124 : x4_1 < (l0.length : Int) := of_decide_eq_true (by first | (with_reducible assumption) | assumption)
            obtain ⟨ad124, e124, hx124_0⟩ := Kd.at_int HR0.out x4_1 p124 q124
            cases e124
            replace hx124_0 := pw_cell_below HB.out hx124_0
            replace p124 := eq_true p124
            replace q124 := eq_true q124
            go_wp2
            go_roundg k1
            case measure => have := HK1.out; omega
            case rel => exact ⟨(Go.bits .and .i64 (wrap64 ((wrap64 ((wrap64 (x3_1 * 131)) + (wrap64 (rd l0 x4_1)))) + 7)) 1073741823), (wrap64 (x4_1 + 1)), (by first | rfl | (simp; done) | (simp [*]; done)), (by first | rfl | (simp; done) | (simp [*]; done)), H', ⟨by have := HK1.out; omega⟩, ⟨by repeat (first | (with_reducible first | exact HB.out | apply below_alloc | apply pw_below_drewN | apply below_drew1) | exact HB.out)⟩, ⟨by repeat (first | (with_reducible first | exact HBW.out | apply below_alloc | apply pw_below_drewN | apply below_drew1) | exact HBW.out)⟩⟩
          · rw [if_neg c4] at H
            exact absurd H (by simp)
        · rw [if_neg c3] at H
          have c3b0 : decide (x4_1 < 4000) = false := decide_eq_false c3
          clear c3
          simp only [Option.some.injEq, Prod.mk.injEq] at H
          obtain ⟨rfl, rfl, rfl⟩ := H
          go_wp2_with (first | ((with_reducible refine gate_dst (N := 31) rfl ?_); refine box_event ?hg (N := 31) ?hd (cs := #[.slice A0 l0.length c0, .int .i64 0, .int .i64 x3_1]) (t := 170) ?hr ?_; (case hd => rfl); (case hg => rfl); (case hr => first | (go_simp; done) | (go_simp; rfl)); intro gb125 hg w5 hbox hb; have n0_ := Aside0.mk (below_step HBW.out hb); have n1_ := Aside0.mk (below_step (by repeat (first | (with_reducible first | exact HB.out | apply below_alloc | apply pw_below_drewN | apply below_drew1) | exact HB.out)) hb); have n2_ := Aside0.mk (hbox); have n3_ := Aside0.mk ((by rw [hg]; exact (below_size (by repeat (first | (with_reducible first | exact HBW.out | apply below_alloc | apply pw_below_drewN | apply below_drew1) | exact HBW.out))) : w.heap.size ≤ gb125)); have n4_ := Aside0.mk ((Nat.le_trans HW0.out (by rw [hg]; exact (below_size (by repeat (first | (with_reducible first | exact HBW.out | apply below_alloc | apply pw_below_drewN | apply below_drew1) | exact HBW.out))) : w.heap.size ≤ gb125) : w0.heap.size ≤ gb125)); clear HBW; clear HB; have HBW := n0_; have HB := n1_; have BK125 := n2_; have GW125 := n3_; have GE125 := n4_; clear n0_ n1_ n2_ n3_ n4_; clear hb hbox hg))
          go_ret
          exact ⟨_, rfl, (show IsS170 w0 _ gb125 l0 0 x3_1 from ⟨_, _, by (with_reducible repeat (first | refine blk_drewN ?_ _ | refine blk_drew ?_ | refine blk_alloc ?_ _)); exact BK125.out, GE125.out, HR0.out⟩), by repeat (first | (with_reducible first | exact HB.out | apply below_alloc | apply pw_below_drewN | apply below_drew1 | refine below_set ?_ GE125.out) | exact HB.out), by repeat (first | (with_reducible first | exact HBW.out | apply below_alloc | apply pw_below_drewN | apply below_drew1 | refine below_set ?_ GW125.out) | exact HBW.out)⟩
      · rw [if_neg c2] at H
        have c2b0 : decide (x4_1 < (l0.length : Int)) = false := decide_eq_false c2
        clear c2
        simp only [Option.some.injEq, Prod.mk.injEq] at H
        obtain ⟨rfl, rfl, rfl⟩ := H
        go_wp2_with (first | ((with_reducible refine gate_dst (N := 31) rfl ?_); refine box_event ?hg (N := 31) ?hd (cs := #[.slice A0 l0.length c0, .int .i64 0, .int .i64 x3_1]) (t := 170) ?hr ?_; (case hd => rfl); (case hg => rfl); (case hr => first | (go_simp; done) | (go_simp; rfl)); intro gb126 hg w6 hbox hb; have n0_ := Aside0.mk (below_step HBW.out hb); have n1_ := Aside0.mk (below_step (by repeat (first | (with_reducible first | exact HB.out | apply below_alloc | apply pw_below_drewN | apply below_drew1) | exact HB.out)) hb); have n2_ := Aside0.mk (hbox); have n3_ := Aside0.mk ((by rw [hg]; exact (below_size (by repeat (first | (with_reducible first | exact HBW.out | apply below_alloc | apply pw_below_drewN | apply below_drew1) | exact HBW.out))) : w.heap.size ≤ gb126)); have n4_ := Aside0.mk ((Nat.le_trans HW0.out (by rw [hg]; exact (below_size (by repeat (first | (with_reducible first | exact HBW.out | apply below_alloc | apply pw_below_drewN | apply below_drew1) | exact HBW.out))) : w.heap.size ≤ gb126) : w0.heap.size ≤ gb126)); clear HBW; clear HB; have HBW := n0_; have HB := n1_; have BK126 := n2_; have GW126 := n3_; have GE126 := n4_; clear n0_ n1_ n2_ n3_ n4_; clear hb hbox hg))
        go_ret
        exact ⟨_, rfl, (show IsS170 w0 _ gb126 l0 0 x3_1 from ⟨_, _, by (with_reducible repeat (first | refine blk_drewN ?_ _ | refine blk_drew ?_ | refine blk_alloc ?_ _)); exact BK126.out, GE126.out, HR0.out⟩), by repeat (first | (with_reducible first | exact HB.out | apply below_alloc | apply pw_below_drewN | apply below_drew1 | refine below_set ?_ GE126.out) | exact HB.out), by repeat (first | (with_reducible first | exact HBW.out | apply below_alloc | apply pw_below_drewN | apply below_drew1 | refine below_set ?_ GW126.out) | exact HBW.out)⟩

/-! ### spec_l1Byte: function 132 -/
def spec_l1Byte.f (s0_0 : List Int) (s0_1 : Int) (s0_2 : Int) : Option (Int × Int × Int) := if s0_1 < (s0_0.length : Int) then (if 0 ≤ s0_1 then (some (Go.bits .and .i64 (wrap64 ((Go.bits .and .i64 (Go.bits .xor .i64 ((wrap64 ((wrap64 (s0_2 * 6364136223846793005)) + 1442695040888963407)) / 8589934592) ((wrap64 ((wrap64 (s0_2 * 6364136223846793005)) + 1442695040888963407)) / 35184372088832)) 255) + (wrap64 (rd s0_0 s0_1)))) 255, wrap64 (s0_1 + 1), wrap64 ((wrap64 (s0_2 * 6364136223846793005)) + 1442695040888963407))) else (none)) else (some (Go.bits .and .i64 (Go.bits .xor .i64 ((wrap64 ((wrap64 (s0_2 * 6364136223846793005)) + 1442695040888963407)) / 8589934592) ((wrap64 ((wrap64 (s0_2 * 6364136223846793005)) + 1442695040888963407)) / 35184372088832)) 255, s0_1, wrap64 ((wrap64 (s0_2 * 6364136223846793005)) + 1442695040888963407)))
set_option maxHeartbeats 8000000 in
set_option maxRecDepth 100000 in
theorem spec_l1Byte.calls (g : Nat) (s0_0 : List Int) (s0_1 : Int) (s0_2 : Int) (r1 : Int) (r2 : Int) (r3 : Int) (w0 w : World) (hI : IsS170 w0 w g s0_0 s0_1 s0_2) (hB : Below w0.heap.size w0 w) (h : spec_l1Byte.f s0_0 s0_1 s0_2 = some (r1, r2, r3)) :
    Calls Try.prog 132 #[.pointer (some ⟨g, 0, none⟩)] w fun e w' => e = .returned (.int .i64 r1) ∧ IsS170 w0 w' g s0_0 r2 r3 ∧ Below w0.heap.size w0 w' ∧ KeepBut w w' g none := by
  have HI0 := Aside0.mk hI
  have HK := Aside0.mk (KeepBut.refl w g none)
  have HL := Aside0.mk hB.size
  clear hI
  have HW0 := Aside0.mk hB.size
  have HB := Aside0.mk hB
  clear hB
  have H : (if s0_1 < (s0_0.length : Int) then (if 0 ≤ s0_1 then (some (Go.bits .and .i64 (wrap64 ((Go.bits .and .i64 (Go.bits .xor .i64 ((wrap64 ((wrap64 (s0_2 * 6364136223846793005)) + 1442695040888963407)) / 8589934592) ((wrap64 ((wrap64 (s0_2 * 6364136223846793005)) + 1442695040888963407)) / 35184372088832)) 255) + (wrap64 (rd s0_0 s0_1)))) 255, wrap64 (s0_1 + 1), wrap64 ((wrap64 (s0_2 * 6364136223846793005)) + 1442695040888963407))) else (none)) else (some (Go.bits .and .i64 (Go.bits .xor .i64 ((wrap64 ((wrap64 (s0_2 * 6364136223846793005)) + 1442695040888963407)) / 8589934592) ((wrap64 ((wrap64 (s0_2 * 6364136223846793005)) + 1442695040888963407)) / 35184372088832)) 255, s0_1, wrap64 ((wrap64 (s0_2 * 6364136223846793005)) + 1442695040888963407)))) = some (r1, r2, r3) := h
  clear h
  by_cases c2 : s0_1 < (s0_0.length : Int)
  · rw [if_pos c2] at H
    have c2b0 : decide (s0_1 < (s0_0.length : Int)) = true := decide_eq_true c2
    clear c2
    by_cases c3 : 0 ≤ s0_1
    · rw [if_pos c3] at H
      have c3b0 : decide (0 ≤ s0_1) = true := decide_eq_true c3
      clear c3
      simp only [Option.some.injEq, Prod.mk.injEq] at H
      obtain ⟨rfl, rfl, rfl⟩ := H
      obtain ⟨ASz4_0, cSz4_0, HGz4, hgz4, HSz4_0⟩ := HI0.out
      have hcz4_0 := cellS170_0 HGz4
      have hcz4_1 := cellS170_1 HGz4
      have hcz4_2 := cellS170_2 HGz4
      have hfz4_1 := blk_frozen HGz4 1
      have hfz4_2 := blk_frozen HGz4 2
      clear HGz4 hgz4
      have p127 : 0 ≤ (s0_1 : Int) := of_decide_eq_true (by first | (with_reducible assumption) | assumption)
      have q127 : s0_1 < (s0_0.length : Int) := of_decide_eq_true (by first | (with_reducible assumption) | assumption)
      obtain ⟨ad127, e127, hx127_0⟩ := Kd.at_int HSz4_0 s0_1 p127 q127
      cases e127
      have hn127_0 : ad127.block ≠ g := Nat.ne_of_lt (Nat.lt_of_lt_of_le (by have := World.block_lt_of_cell? _ _ hx127_0; first | rwa [add_block] at this | exact this) (IsS170.ge HI0.out))
      replace hx127_0 := pw_cell_below HB.out hx127_0
      replace hx127_0 := (cell_far (p := ⟨g, 2, none⟩) (by first | (rw [add_block]; exact hn127_0) | (show (Addr.add _ _).block ≠ _; rw [add_block]; exact hn127_0) | exact hn127_0) (.int .i64 (wrap64 ((wrap64 (s0_2 * 6364136223846793005)) + 1442695040888963407)))).trans hx127_0
      (try have hy127_0 := fun (n_ : Nat) => (show (((w.drewN n_).setCell ⟨g, 2, none⟩ (.int .i64 (wrap64 ((wrap64 (s0_2 * 6364136223846793005)) + 1442695040888963407))))).cell? _ = some _ from hx127_0))
      clear hn127_0
      replace p127 := eq_true p127
      replace q127 := eq_true q127
      go_enter Try.func132, Try.ntmps132
      go_wp2
      repeat (go_quiet (fail); try go_wp2)
      go_ret
      exact ⟨by first | rfl | (simp [errW_none, errW_some] <;> rfl) | (simp [*, errW_none, errW_some] <;> rfl), by repeat (first | (with_reducible first | exact HI0.out | apply IsS170.alloc | apply IsS170.drewN | apply IsS170.drew | apply IsS170.set_1 | apply IsS170.set_2) | exact HI0.out), by repeat (first | (with_reducible first | exact HB.out | apply below_alloc | apply pw_below_drewN | apply below_drew1 | refine below_set ?_ (IsS170.ge HI0.out)) | exact HB.out), by repeat (first | (with_reducible first | exact HK.out | apply KeepBut.set_ | apply keep_drewN | apply keep_drew | apply keep_alloc) | exact HK.out)⟩
    · rw [if_neg c3] at H
      exact absurd H (by simp)
  · rw [if_neg c2] at H
    have c2b0 : decide (s0_1 < (s0_0.length : Int)) = false := decide_eq_false c2
    clear c2
    simp only [Option.some.injEq, Prod.mk.injEq] at H
    obtain ⟨rfl, rfl, rfl⟩ := H
    obtain ⟨ASz5_0, cSz5_0, HGz5, hgz5, HSz5_0⟩ := HI0.out
    have hcz5_0 := cellS170_0 HGz5
    have hcz5_1 := cellS170_1 HGz5
    have hcz5_2 := cellS170_2 HGz5
    have hfz5_1 := blk_frozen HGz5 1
    have hfz5_2 := blk_frozen HGz5 2
    clear HGz5 hgz5
    go_enter Try.func132, Try.ntmps132
    go_wp2
    repeat (go_quiet (fail); try go_wp2)
    go_ret
    exact ⟨by first | rfl | (simp [errW_none, errW_some] <;> rfl) | (simp [*, errW_none, errW_some] <;> rfl), by repeat (first | (with_reducible first | exact HI0.out | apply IsS170.alloc | apply IsS170.drewN | apply IsS170.drew | apply IsS170.set_1 | apply IsS170.set_2) | exact HI0.out), by repeat (first | (with_reducible first | exact HB.out | apply below_alloc | apply pw_below_drewN | apply below_drew1 | refine below_set ?_ (IsS170.ge HI0.out)) | exact HB.out), by repeat (first | (with_reducible first | exact HK.out | apply KeepBut.set_ | apply keep_drewN | apply keep_drew | apply keep_alloc) | exact HK.out)⟩

/-! ### spec_l1Below: function 87 -/
def spec_l1Below.f (s0_0 : List Int) (s0_1 : Int) (s0_2 : Int) (a1 : Int) : Option (Int × Int × Int) := if a1 ≤ 0 then (some (0, s0_1, s0_2)) else (if a1 ≤ 256 then ((spec_l1Byte.f s0_0 s0_1 s0_2).bind fun bt128 => (if a1 = 0 then (none) else (some (Int.tmod bt128.1 a1, bt128.2.1, bt128.2.2)))) else ((spec_l1Byte.f s0_0 s0_1 s0_2).bind fun bt131 => ((spec_l1Byte.f s0_0 bt131.2.1 bt131.2.2).bind fun bt134 => ((spec_l1Byte.f s0_0 bt134.2.1 bt134.2.2).bind fun bt137 => ((spec_l1Byte.f s0_0 bt137.2.1 bt137.2.2).bind fun bt140 => (if a1 = 0 then (none) else (some (Int.tmod (wrap64 ((wrap64 ((wrap64 ((wrap64 (bt131.1 * 16777216)) + (wrap64 (bt134.1 * 65536)))) + (wrap64 (bt137.1 * 256)))) + bt140.1)) a1, bt140.2.1, bt140.2.2))))))))
set_option maxHeartbeats 8000000 in
set_option maxRecDepth 100000 in
theorem spec_l1Below.calls (g : Nat) (s0_0 : List Int) (s0_1 : Int) (s0_2 : Int) (a1 : Int) (r1 : Int) (r2 : Int) (r3 : Int) (w0 w : World) (hI : IsS170 w0 w g s0_0 s0_1 s0_2) (hB : Below w0.heap.size w0 w) (h : spec_l1Below.f s0_0 s0_1 s0_2 a1 = some (r1, r2, r3)) :
    Calls Try.prog 87 #[.pointer (some ⟨g, 0, none⟩), .int .i64 a1] w fun e w' => e = .returned (.int .i64 r1) ∧ IsS170 w0 w' g s0_0 r2 r3 ∧ Below w0.heap.size w0 w' ∧ KeepBut w w' g none := by
  have HI0 := Aside0.mk hI
  have HK := Aside0.mk (KeepBut.refl w g none)
  have HL := Aside0.mk hB.size
  clear hI
  have HW0 := Aside0.mk hB.size
  have HB := Aside0.mk hB
  clear hB
  have H : (if a1 ≤ 0 then (some (0, s0_1, s0_2)) else (if a1 ≤ 256 then ((spec_l1Byte.f s0_0 s0_1 s0_2).bind fun bt128 => (if a1 = 0 then (none) else (some (Int.tmod bt128.1 a1, bt128.2.1, bt128.2.2)))) else ((spec_l1Byte.f s0_0 s0_1 s0_2).bind fun bt131 => ((spec_l1Byte.f s0_0 bt131.2.1 bt131.2.2).bind fun bt134 => ((spec_l1Byte.f s0_0 bt134.2.1 bt134.2.2).bind fun bt137 => ((spec_l1Byte.f s0_0 bt137.2.1 bt137.2.2).bind fun bt140 => (if a1 = 0 then (none) else (some (Int.tmod (wrap64 ((wrap64 ((wrap64 ((wrap64 (bt131.1 * 16777216)) + (wrap64 (bt134.1 * 65536)))) + (wrap64 (bt137.1 * 256)))) + bt140.1)) a1, bt140.2.1, bt140.2.2))))))))) = some (r1, r2, r3) := h
  clear h
  by_cases c3 : a1 ≤ 0
  · rw [if_pos c3] at H
    have c3b0 : decide (a1 ≤ 0) = true := decide_eq_true c3
    clear c3
    simp only [Option.some.injEq, Prod.mk.injEq] at H
    obtain ⟨rfl, rfl, rfl⟩ := H
    go_enter Try.func87, Try.ntmps87
    go_wp2
    go_ret
    exact ⟨by first | rfl | (simp [errW_none, errW_some] <;> rfl) | (simp [*, errW_none, errW_some] <;> rfl), by repeat (first | (with_reducible first | exact HI0.out | apply IsS170.alloc | apply IsS170.drewN | apply IsS170.drew | apply IsS170.set_1 | apply IsS170.set_2) | exact HI0.out), by repeat (first | (with_reducible first | exact HB.out | apply below_alloc | apply pw_below_drewN | apply below_drew1 | refine below_set ?_ (IsS170.ge HI0.out)) | exact HB.out), by repeat (first | (with_reducible first | exact HK.out | apply KeepBut.set_ | apply keep_drewN | apply keep_drew | apply keep_alloc) | exact HK.out)⟩
  · rw [if_neg c3] at H
    have c3b0 : decide (a1 ≤ 0) = false := decide_eq_false c3
    clear c3
    by_cases c4 : a1 ≤ 256
    · rw [if_pos c4] at H
      have c4b0 : decide (a1 ≤ 256) = true := decide_eq_true c4
      clear c4
      replace H := Option.bind_eq_some_iff.mp H
      obtain ⟨⟨t128, t129, t130⟩, A50, H⟩ := H
      replace H : (if a1 = 0 then (none) else (some (Int.tmod t128 a1, t129, t130))) = some (r1, r2, r3) := H
      have A5 := Aside0.mk A50
      clear A50
      by_cases c6 : a1 = 0
      · rw [if_pos c6] at H
        exact absurd H (by simp)
      · rw [if_neg c6] at H
        have c6b0 : (a1 == 0) = false := beq_eq_false_iff_ne.mpr c6
        have c6b1 : (a1 != 0) = true := bne_iff_ne.mpr c6
        simp only [Option.some.injEq, Prod.mk.injEq] at H
        obtain ⟨rfl, rfl, rfl⟩ := H
        go_enter Try.func87, Try.ntmps87
        go_wp2_with (first | ((with_reducible refine gate_callee (f := 132) rfl ?_); refine goesL_ (some 14) rfl rfl Try.func132 (by kernel_rfl) rfl #[.pointer (some ⟨g, 0, none⟩)] rfl (by (try simp only [List.map_toArray, List.map_cons, List.map_nil]); first | done | rfl | (simp only [List.length_drop, List.length_take]; rfl)) ?_; (with_reducible refine (spec_l1Byte.calls g s0_0 s0_1 s0_2 t128 t129 t130 w0 _ ?side1 ?side2 A5.out).mono ?_); (case side1 => repeat (first | (with_reducible first | exact HI0.out | apply IsS170.alloc | apply IsS170.drewN | apply IsS170.drew | apply IsS170.set_1 | apply IsS170.set_2) | exact HI0.out)); (case side2 => repeat (first | (with_reducible first | exact HB.out | apply below_alloc | apply pw_below_drewN | apply below_drew1 | refine below_set ?_ (IsS170.ge HI0.out)) | exact HB.out)); rintro e w7 ⟨rfl, hi, hb, hk⟩; refine ⟨_, rfl, ?_⟩; have n0_ := Aside0.mk (KeepBut.trans (by repeat (first | (with_reducible first | exact HK.out | apply KeepBut.set_ | apply keep_drewN | apply keep_drew | apply keep_alloc) | exact HK.out)) hk (.inl rfl)); have n1_ := Aside0.mk (hb); have n2_ := Aside0.mk (hi); clear HK; clear HB; clear HI0; have HK := n0_; have HB := n1_; have HI0 := n2_; clear n0_ n1_ n2_; (try clear hb); (try clear hb2); (try clear hk); (try clear hi)))
        go_ret
        exact ⟨by first | rfl | (simp [errW_none, errW_some] <;> rfl) | (simp [*, errW_none, errW_some] <;> rfl), by repeat (first | (with_reducible first | exact HI0.out | apply IsS170.alloc | apply IsS170.drewN | apply IsS170.drew | apply IsS170.set_1 | apply IsS170.set_2) | exact HI0.out), by repeat (first | (with_reducible first | exact HB.out | apply below_alloc | apply pw_below_drewN | apply below_drew1 | refine below_set ?_ (IsS170.ge HI0.out)) | exact HB.out), by repeat (first | (with_reducible first | exact HK.out | apply KeepBut.set_ | apply keep_drewN | apply keep_drew | apply keep_alloc) | exact HK.out)⟩
    · rw [if_neg c4] at H
      have c4b0 : decide (a1 ≤ 256) = false := decide_eq_false c4
      clear c4
      replace H := Option.bind_eq_some_iff.mp H
      obtain ⟨⟨t131, t132, t133⟩, A80, H⟩ := H
      replace H : ((spec_l1Byte.f s0_0 t132 t133).bind fun bt134 => ((spec_l1Byte.f s0_0 bt134.2.1 bt134.2.2).bind fun bt137 => ((spec_l1Byte.f s0_0 bt137.2.1 bt137.2.2).bind fun bt140 => (if a1 = 0 then (none) else (some (Int.tmod (wrap64 ((wrap64 ((wrap64 ((wrap64 (t131 * 16777216)) + (wrap64 (bt134.1 * 65536)))) + (wrap64 (bt137.1 * 256)))) + bt140.1)) a1, bt140.2.1, bt140.2.2)))))) = some (r1, r2, r3) := H
      have A8 := Aside0.mk A80
      clear A80
      replace H := Option.bind_eq_some_iff.mp H
      obtain ⟨⟨t134, t135, t136⟩, A90, H⟩ := H
      replace H : ((spec_l1Byte.f s0_0 t135 t136).bind fun bt137 => ((spec_l1Byte.f s0_0 bt137.2.1 bt137.2.2).bind fun bt140 => (if a1 = 0 then (none) else (some (Int.tmod (wrap64 ((wrap64 ((wrap64 ((wrap64 (t131 * 16777216)) + (wrap64 (t134 * 65536)))) + (wrap64 (bt137.1 * 256)))) + bt140.1)) a1, bt140.2.1, bt140.2.2))))) = some (r1, r2, r3) := H
      have A9 := Aside0.mk A90
      clear A90
      replace H := Option.bind_eq_some_iff.mp H
      obtain ⟨⟨t137, t138, t139⟩, A100, H⟩ := H
      replace H : ((spec_l1Byte.f s0_0 t138 t139).bind fun bt140 => (if a1 = 0 then (none) else (some (Int.tmod (wrap64 ((wrap64 ((wrap64 ((wrap64 (t131 * 16777216)) + (wrap64 (t134 * 65536)))) + (wrap64 (t137 * 256)))) + bt140.1)) a1, bt140.2.1, bt140.2.2)))) = some (r1, r2, r3) := H
      have A10 := Aside0.mk A100
      clear A100
      replace H := Option.bind_eq_some_iff.mp H
      obtain ⟨⟨t140, t141, t142⟩, A110, H⟩ := H
      replace H : (if a1 = 0 then (none) else (some (Int.tmod (wrap64 ((wrap64 ((wrap64 ((wrap64 (t131 * 16777216)) + (wrap64 (t134 * 65536)))) + (wrap64 (t137 * 256)))) + t140)) a1, t141, t142))) = some (r1, r2, r3) := H
      have A11 := Aside0.mk A110
      clear A110
      by_cases c12 : a1 = 0
      · rw [if_pos c12] at H
        exact absurd H (by simp)
      · rw [if_neg c12] at H
        have c12b0 : (a1 == 0) = false := beq_eq_false_iff_ne.mpr c12
        have c12b1 : (a1 != 0) = true := bne_iff_ne.mpr c12
        simp only [Option.some.injEq, Prod.mk.injEq] at H
        obtain ⟨rfl, rfl, rfl⟩ := H
        go_enter Try.func87, Try.ntmps87
        go_wp2_with (first | ((with_reducible refine gate_callee (f := 132) rfl ?_); refine goesL_ (some 18) rfl rfl Try.func132 (by kernel_rfl) rfl #[.pointer (some ⟨g, 0, none⟩)] rfl (by (try simp only [List.map_toArray, List.map_cons, List.map_nil]); first | done | rfl | (simp only [List.length_drop, List.length_take]; rfl)) ?_; (with_reducible refine (spec_l1Byte.calls g s0_0 s0_1 s0_2 t131 t132 t133 w0 _ ?side1 ?side2 A8.out).mono ?_); (case side1 => repeat (first | (with_reducible first | exact HI0.out | apply IsS170.alloc | apply IsS170.drewN | apply IsS170.drew | apply IsS170.set_1 | apply IsS170.set_2) | exact HI0.out)); (case side2 => repeat (first | (with_reducible first | exact HB.out | apply below_alloc | apply pw_below_drewN | apply below_drew1 | refine below_set ?_ (IsS170.ge HI0.out)) | exact HB.out)); rintro e w13 ⟨rfl, hi, hb, hk⟩; refine ⟨_, rfl, ?_⟩; have n0_ := Aside0.mk (KeepBut.trans (by repeat (first | (with_reducible first | exact HK.out | apply KeepBut.set_ | apply keep_drewN | apply keep_drew | apply keep_alloc) | exact HK.out)) hk (.inl rfl)); have n1_ := Aside0.mk (hb); have n2_ := Aside0.mk (hi); clear HK; clear HB; clear HI0; have HK := n0_; have HB := n1_; have HI0 := n2_; clear n0_ n1_ n2_; (try clear hb); (try clear hb2); (try clear hk); (try clear hi)) | ((with_reducible refine gate_callee (f := 132) rfl ?_); refine goesL_ (some 20) rfl rfl Try.func132 (by kernel_rfl) rfl #[.pointer (some ⟨g, 0, none⟩)] rfl (by (try simp only [List.map_toArray, List.map_cons, List.map_nil]); first | done | rfl | (simp only [List.length_drop, List.length_take]; rfl)) ?_; (with_reducible refine (spec_l1Byte.calls g s0_0 t132 t133 t134 t135 t136 w0 _ ?side1 ?side2 A9.out).mono ?_); (case side1 => repeat (first | (with_reducible first | exact HI0.out | apply IsS170.alloc | apply IsS170.drewN | apply IsS170.drew | apply IsS170.set_1 | apply IsS170.set_2) | exact HI0.out)); (case side2 => repeat (first | (with_reducible first | exact HB.out | apply below_alloc | apply pw_below_drewN | apply below_drew1 | refine below_set ?_ (IsS170.ge HI0.out)) | exact HB.out)); rintro e w14 ⟨rfl, hi, hb, hk⟩; refine ⟨_, rfl, ?_⟩; have n0_ := Aside0.mk (KeepBut.trans (by repeat (first | (with_reducible first | exact HK.out | apply KeepBut.set_ | apply keep_drewN | apply keep_drew | apply keep_alloc) | exact HK.out)) hk (.inl rfl)); have n1_ := Aside0.mk (hb); have n2_ := Aside0.mk (hi); clear HK; clear HB; clear HI0; have HK := n0_; have HB := n1_; have HI0 := n2_; clear n0_ n1_ n2_; (try clear hb); (try clear hb2); (try clear hk); (try clear hi)) | ((with_reducible refine gate_callee (f := 132) rfl ?_); refine goesL_ (some 22) rfl rfl Try.func132 (by kernel_rfl) rfl #[.pointer (some ⟨g, 0, none⟩)] rfl (by (try simp only [List.map_toArray, List.map_cons, List.map_nil]); first | done | rfl | (simp only [List.length_drop, List.length_take]; rfl)) ?_; (with_reducible refine (spec_l1Byte.calls g s0_0 t135 t136 t137 t138 t139 w0 _ ?side1 ?side2 A10.out).mono ?_); (case side1 => repeat (first | (with_reducible first | exact HI0.out | apply IsS170.alloc | apply IsS170.drewN | apply IsS170.drew | apply IsS170.set_1 | apply IsS170.set_2) | exact HI0.out)); (case side2 => repeat (first | (with_reducible first | exact HB.out | apply below_alloc | apply pw_below_drewN | apply below_drew1 | refine below_set ?_ (IsS170.ge HI0.out)) | exact HB.out)); rintro e w15 ⟨rfl, hi, hb, hk⟩; refine ⟨_, rfl, ?_⟩; have n0_ := Aside0.mk (KeepBut.trans (by repeat (first | (with_reducible first | exact HK.out | apply KeepBut.set_ | apply keep_drewN | apply keep_drew | apply keep_alloc) | exact HK.out)) hk (.inl rfl)); have n1_ := Aside0.mk (hb); have n2_ := Aside0.mk (hi); clear HK; clear HB; clear HI0; have HK := n0_; have HB := n1_; have HI0 := n2_; clear n0_ n1_ n2_; (try clear hb); (try clear hb2); (try clear hk); (try clear hi)) | ((with_reducible refine gate_callee (f := 132) rfl ?_); refine goesL_ (some 24) rfl rfl Try.func132 (by kernel_rfl) rfl #[.pointer (some ⟨g, 0, none⟩)] rfl (by (try simp only [List.map_toArray, List.map_cons, List.map_nil]); first | done | rfl | (simp only [List.length_drop, List.length_take]; rfl)) ?_; (with_reducible refine (spec_l1Byte.calls g s0_0 t138 t139 t140 t141 t142 w0 _ ?side1 ?side2 A11.out).mono ?_); (case side1 => repeat (first | (with_reducible first | exact HI0.out | apply IsS170.alloc | apply IsS170.drewN | apply IsS170.drew | apply IsS170.set_1 | apply IsS170.set_2) | exact HI0.out)); (case side2 => repeat (first | (with_reducible first | exact HB.out | apply below_alloc | apply pw_below_drewN | apply below_drew1 | refine below_set ?_ (IsS170.ge HI0.out)) | exact HB.out)); rintro e w16 ⟨rfl, hi, hb, hk⟩; refine ⟨_, rfl, ?_⟩; have n0_ := Aside0.mk (KeepBut.trans (by repeat (first | (with_reducible first | exact HK.out | apply KeepBut.set_ | apply keep_drewN | apply keep_drew | apply keep_alloc) | exact HK.out)) hk (.inl rfl)); have n1_ := Aside0.mk (hb); have n2_ := Aside0.mk (hi); clear HK; clear HB; clear HI0; have HK := n0_; have HB := n1_; have HI0 := n2_; clear n0_ n1_ n2_; (try clear hb); (try clear hb2); (try clear hk); (try clear hi)))
        go_ret
        exact ⟨by first | rfl | (simp [errW_none, errW_some] <;> rfl) | (simp [*, errW_none, errW_some] <;> rfl), by repeat (first | (with_reducible first | exact HI0.out | apply IsS170.alloc | apply IsS170.drewN | apply IsS170.drew | apply IsS170.set_1 | apply IsS170.set_2) | exact HI0.out), by repeat (first | (with_reducible first | exact HB.out | apply below_alloc | apply pw_below_drewN | apply below_drew1 | refine below_set ?_ (IsS170.ge HI0.out)) | exact HB.out), by repeat (first | (with_reducible first | exact HK.out | apply KeepBut.set_ | apply keep_drewN | apply keep_drew | apply keep_alloc) | exact HK.out)⟩

/-! ### spec_l1Once: function 86 -/
def spec_l1Once.f (s0_0 : List Int) (s0_1 : Int) (s0_2 : Int) (a1 : Int) : Option (Bool × Int × Int) := (spec_l1Below.f s0_0 s0_1 s0_2 a1).bind fun bt143 => (some ((bt143.1 == 0), bt143.2.1, bt143.2.2))
set_option maxHeartbeats 8000000 in
set_option maxRecDepth 100000 in
theorem spec_l1Once.calls (g : Nat) (s0_0 : List Int) (s0_1 : Int) (s0_2 : Int) (a1 : Int) (r1 : Bool) (r2 : Int) (r3 : Int) (w0 w : World) (hI : IsS170 w0 w g s0_0 s0_1 s0_2) (hB : Below w0.heap.size w0 w) (h : spec_l1Once.f s0_0 s0_1 s0_2 a1 = some (r1, r2, r3)) :
    Calls Try.prog 86 #[.pointer (some ⟨g, 0, none⟩), .int .i64 a1] w fun e w' => e = .returned (.bool r1) ∧ IsS170 w0 w' g s0_0 r2 r3 ∧ Below w0.heap.size w0 w' ∧ KeepBut w w' g none := by
  have HI0 := Aside0.mk hI
  have HK := Aside0.mk (KeepBut.refl w g none)
  have HL := Aside0.mk hB.size
  clear hI
  have HW0 := Aside0.mk hB.size
  have HB := Aside0.mk hB
  clear hB
  have H : ((spec_l1Below.f s0_0 s0_1 s0_2 a1).bind fun bt143 => (some ((bt143.1 == 0), bt143.2.1, bt143.2.2))) = some (r1, r2, r3) := h
  clear h
  replace H := Option.bind_eq_some_iff.mp H
  obtain ⟨⟨t143, t144, t145⟩, A30, H⟩ := H
  replace H : (some ((t143 == 0), t144, t145)) = some (r1, r2, r3) := H
  have A3 := Aside0.mk A30
  clear A30
  simp only [Option.some.injEq, Prod.mk.injEq] at H
  obtain ⟨rfl, rfl, rfl⟩ := H
  go_enter Try.func86, Try.ntmps86
  go_wp2_with (first | ((with_reducible refine gate_callee (f := 87) rfl ?_); refine goesL_ (some 7) rfl rfl Try.func87 (by kernel_rfl) rfl #[.pointer (some ⟨g, 0, none⟩), .int .i64 a1] rfl (by (try simp only [List.map_toArray, List.map_cons, List.map_nil]); first | done | rfl | (simp only [List.length_drop, List.length_take]; rfl)) ?_; (with_reducible refine (spec_l1Below.calls g s0_0 s0_1 s0_2 a1 t143 t144 t145 w0 _ ?side1 ?side2 A3.out).mono ?_); (case side1 => repeat (first | (with_reducible first | exact HI0.out | apply IsS170.alloc | apply IsS170.drewN | apply IsS170.drew | apply IsS170.set_1 | apply IsS170.set_2) | exact HI0.out)); (case side2 => repeat (first | (with_reducible first | exact HB.out | apply below_alloc | apply pw_below_drewN | apply below_drew1 | refine below_set ?_ (IsS170.ge HI0.out)) | exact HB.out)); rintro e w4 ⟨rfl, hi, hb, hk⟩; refine ⟨_, rfl, ?_⟩; have n0_ := Aside0.mk (KeepBut.trans (by repeat (first | (with_reducible first | exact HK.out | apply KeepBut.set_ | apply keep_drewN | apply keep_drew | apply keep_alloc) | exact HK.out)) hk (.inl rfl)); have n1_ := Aside0.mk (hb); have n2_ := Aside0.mk (hi); clear HK; clear HB; clear HI0; have HK := n0_; have HB := n1_; have HI0 := n2_; clear n0_ n1_ n2_; (try clear hb); (try clear hb2); (try clear hk); (try clear hi)))
  go_ret
  exact ⟨by first | rfl | (simp [errW_none, errW_some] <;> rfl) | (simp [*, errW_none, errW_some] <;> rfl), by repeat (first | (with_reducible first | exact HI0.out | apply IsS170.alloc | apply IsS170.drewN | apply IsS170.drew | apply IsS170.set_1 | apply IsS170.set_2) | exact HI0.out), by repeat (first | (with_reducible first | exact HB.out | apply below_alloc | apply pw_below_drewN | apply below_drew1 | refine below_set ?_ (IsS170.ge HI0.out)) | exact HB.out), by repeat (first | (with_reducible first | exact HK.out | apply KeepBut.set_ | apply keep_drewN | apply keep_drew | apply keep_alloc) | exact HK.out)⟩

end Go.Proofs.Ytnecbgeljanhiaa.PFnReduced
