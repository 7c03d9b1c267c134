/- The law FnExactPoolRun holds of the program's own functions, told over lists and numbers: for every argument it returns true. Conditions: none beyond the given row's own. -/
import Derived.Test.YtnecbgeljanhiaaSaysFnExactPoolRun
import Derived.Test.YtnecbgeljanhiaaKit
namespace Go.Proofs.Ytnecbgeljanhiaa.fnExactPoolRun
open Go.RowKit Go.Proofs.Ytnecbgeljanhiaa.PFnExactPoolRun Go.Proofs.YtnecbgeljanhiaaW.PrintWords Go.Proofs.YtnecbgeljanhiaaW.PrintLast Go.Proofs.Ytnecbgeljanhiaa.Own
set_option linter.unusedVariables false
set_option linter.unusedSimpArgs false
-- chunk edges: lists of edges are copied, and the same as themselves
abbrev LE := S98
abbrev IE := S96
def toE (x : LE) : IE := ⟨x.f0, x.f1⟩
theorem szEdgeS_eq (l : List LE) (a : Int) : laws_szEdgeS.f l a = some (if wrap64 (a - (l.length : Int)) < 0 then -1 else wrap64 (a - (l.length : Int))) := by
  unfold laws_szEdgeS.f; split <;> rfl
theorem szEdgeS_big {l : List LE} (hl : l.length ≤ maxLen) (h : 1048576 < l.length) : laws_szEdgeS.f l 1048576 = some (-1) := by
  unfold maxLen at hl
  rw [szEdgeS_eq, w64 (by omega) (by omega), if_pos (by omega)]
theorem rd_LE {l : List LE} {i : Nat} (h : i < l.length) : rd_T98 l (i : Int) = l[i] := by
  unfold rd_T98; rw [Int.toNat_natCast]; exact getD_lt l _ h
theorem rd_IE {l : List IE} {i : Nat} (h : i < l.length) : rd_T96 l (i : Int) = l[i] := by
  unfold rd_T96; rw [Int.toNat_natCast]; exact getD_lt l _ h
theorem toEdgeS_ev {l : List LE} (hl : l.length ≤ 17592186044416) : Ev (fun k => laws_toEdgeS.f k l) (l.map toE) := by
  unfold laws_toEdgeS.f
  simp only [Int.natCast_nonneg, if_true, Int.toNat_natCast, if_pos hl]
  refine fill_ev l toE (fun k ys i => laws_toEdgeS.l0 k l ys i) (fun i h ys hy r hr => ?_) (fun ys => ?_) _ (by simp)
  · refine Ev.step (fun k => ?_) hr
    show laws_toEdgeS.l0 (k + 1) l ys i = _
    simp only [laws_toEdgeS.l0]
    rw [if_pos (by omega), if_pos (by omega), rd_LE h]
    unfold laws_toEdge.f
    simp only [Option.bind_some]
    rw [if_pos (by omega), w64_succ h (by omega), Int.toNat_natCast]
    rfl
  · refine Ev.succ (fun k => ?_)
    simp only [laws_toEdgeS.l0]
    rw [if_neg (by omega)]
theorem eqEdgeS_refl {l : List IE} (hl : l.length ≤ 17592186044416) : Ev (fun k => laws_eqEdgeS.f k l l) true := by
  unfold laws_eqEdgeS.f
  simp only [if_true]
  refine down_ev (fun k i => laws_eqEdgeS.l0 k l l i) l.length true (fun i h hr => ?_) ?_ 0 (by omega)
  · refine Ev.step (fun k => ?_) hr
    simp only [laws_eqEdgeS.l0]
    rw [if_pos (by omega), if_pos (by omega), if_pos (by omega)]
    unfold laws_eqEdge.f
    simp only [if_true, Option.bind_some]
    rw [w64_succ h (by omega)]
  · refine Ev.succ (fun k => ?_)
    simp only [laws_eqEdgeS.l0]
    rw [if_neg (by omega)]

-- chunk graph: what GraphOk answers, of the program and of the reference
def edgeIn (n : Int) (e : IE) : Bool := decide (0 ≤ e.f0 ∧ e.f0 ≤ n - 1) && decide (0 ≤ e.f1 ∧ e.f1 ≤ n - 1)
def graphOk (n : Int) (l : List IE) : Bool := decide (0 ≤ n ∧ n ≤ 16) && decide (l.length ≤ 200) && l.all (edgeIn n)
theorem within_eq (a b c : Int) : impl_within.f a b c = some (decide (b ≤ a ∧ a ≤ c)) := by
  unfold impl_within.f
  split <;> simp [*]
theorem l1In_eq (a b c : Int) : spec_l1In.f a b c = some (decide (b ≤ a ∧ a ≤ c)) := by
  unfold spec_l1In.f
  split <;> simp [*]
theorem impl_GraphOk_ev (n : Int) (l : List IE) : Ev (fun k => impl_GraphOk.f k n l) (graphOk n l) := by
  unfold impl_GraphOk.f graphOk
  refine Ev.bindc (within_eq _ _ _) ?_
  by_cases hn : 0 ≤ n ∧ n ≤ 16
  · simp only [hn, decide_true, if_true, and_self, Bool.true_and]
    by_cases hl : l.length ≤ 200
    · refine Ev.step (f := fun k => impl_GraphOk.l0 k n l (l.length : Int) 0) (fun k => ?_) ?_
      · simp only [impl_GraphOk.j0]
        rw [if_neg (by simp; omega)]
      · have hw : wrap64 (n - 1) = n - 1 := w64 (by omega) (by omega)
        have h0 : l.all (edgeIn n) = (l.drop 0).all (edgeIn n) := rfl
        rw [decide_eq_true hl, Bool.true_and, h0]
        refine all_ev l (edgeIn n) (fun k i => impl_GraphOk.l0 k n l (l.length : Int) i) (fun i h hp r hr => ?_) (fun i h hp => ?_) ?_ 0 (by omega)
        · refine Ev.step (fun k => ?_) hr
          simp only [impl_GraphOk.l0]
          rw [if_pos (by omega), if_pos (by omega), if_pos (by omega), rd_IE h, within_eq, within_eq, hw]
          simp only [edgeIn, Bool.and_eq_true] at hp
          simp only [Option.bind_some, hp.1, hp.2, if_true]
          rw [w64_succ h (by omega)]
        · refine Ev.succ (fun k => ?_)
          simp only [impl_GraphOk.l0]
          rw [if_pos (by omega), if_pos (by omega), if_pos (by omega), rd_IE h, within_eq, within_eq, hw]
          simp only [edgeIn, Bool.and_eq_false_iff] at hp
          simp only [Option.bind_some]
          rcases hp with hp | hp
          · rw [hp]; rfl
          · rw [hp]; split <;> rfl
        · refine Ev.succ (fun k => ?_)
          simp only [impl_GraphOk.l0]
          rw [if_neg (by omega)]
    · rw [decide_eq_false hl, Bool.false_and]
      refine Ev.succ (fun k => ?_)
      simp only [impl_GraphOk.j0]
      rw [if_pos (by simp; omega)]
  · simp only [decide_eq_false hn, Bool.false_and]
    refine Ev.succ (fun k => ?_)
    rw [if_neg (by simp)]
    simp only [impl_GraphOk.j0, if_true]
theorem spec_GraphOk_ev (n : Int) (l : List IE) : Ev (fun k => spec_GraphOk.f k n l) (graphOk n l) := by
  unfold spec_GraphOk.f graphOk
  refine Ev.bindc (l1In_eq _ _ _) ?_
  by_cases hn : 0 ≤ n ∧ n ≤ 16
  · simp only [hn, decide_true, if_true, and_self, Bool.true_and]
    by_cases hl : l.length ≤ 200
    · refine Ev.step (f := fun k => spec_GraphOk.l0 k n l 0) (fun k => ?_) ?_
      · simp only [spec_GraphOk.j0]
        rw [if_neg (by simp; omega)]
      · have hw : wrap64 (n - 1) = n - 1 := w64 (by omega) (by omega)
        have h0 : l.all (edgeIn n) = (l.drop 0).all (edgeIn n) := rfl
        rw [decide_eq_true hl, Bool.true_and, h0]
        refine all_ev l (edgeIn n) (fun k i => spec_GraphOk.l0 k n l i) (fun i h hp r hr => ?_) (fun i h hp => ?_) ?_ 0 (by omega)
        · refine Ev.step (fun k => ?_) hr
          simp only [spec_GraphOk.l0]
          rw [if_pos (by omega), if_pos (by omega), rd_IE h, l1In_eq, l1In_eq, hw]
          simp only [edgeIn, Bool.and_eq_true] at hp
          simp only [Option.bind_some, hp.1, hp.2, if_true]
          rw [w64_succ h (by omega)]
        · refine Ev.succ (fun k => ?_)
          simp only [spec_GraphOk.l0]
          rw [if_pos (by omega), if_pos (by omega), rd_IE h, l1In_eq, l1In_eq, hw]
          simp only [edgeIn, Bool.and_eq_false_iff] at hp
          simp only [Option.bind_some]
          rcases hp with hp | hp
          · rw [hp]; rfl
          · rw [hp]; split <;> rfl
        · refine Ev.succ (fun k => ?_)
          simp only [spec_GraphOk.l0]
          rw [if_neg (by omega)]
    · rw [decide_eq_false hl, Bool.false_and]
      refine Ev.succ (fun k => ?_)
      simp only [spec_GraphOk.j0]
      rw [if_pos (by simp; omega)]
  · simp only [decide_eq_false hn, Bool.false_and]
    refine Ev.succ (fun k => ?_)
    rw [if_neg (by simp)]
    simp only [spec_GraphOk.j0, if_true]

-- chunk moves: lists of moves are copied, and the same as themselves
abbrev IM := S46
theorem rd_IM {l : List IM} {i : Nat} (h : i < l.length) : rd_T46 l (i : Int) = l[i] := by
  unfold rd_T46; rw [Int.toNat_natCast]; exact getD_lt l _ h
theorem eqMoveS_refl {l : List IM} (hl : l.length ≤ 17592186044416) : Ev (fun k => laws_eqMoveS.f k l l) true := by
  unfold laws_eqMoveS.f
  simp only [if_true]
  refine down_ev (fun k i => laws_eqMoveS.l0 k l l i) l.length true (fun i h hr => ?_) ?_ 0 (by omega)
  · refine Ev.step (fun k => ?_) hr
    simp only [laws_eqMoveS.l0]
    rw [if_pos (by omega), if_pos (by omega), if_pos (by omega)]
    unfold laws_eqMove.f
    simp only [if_true, Option.bind_some]
    rw [w64_succ h (by omega)]
  · refine Ev.succ (fun k => ?_)
    simp only [laws_eqMoveS.l0]
    rw [if_neg (by omega)]
/-- Lists of moves that are written: only how many, and that it goes. -/
theorem markMoveS_ev {l : List IM} (a : Int) (hl : l.length ≤ 17592186044416) (h0 : 0 ≤ a) (h1 : a ≤ 17592186044416) : ∃ ys, Ev (fun k => laws_markMoveS.f k l a) (a + 2 * l.length, ys) := by
  unfold laws_markMoveS.f
  have key : ∀ (d i : Nat) (ys : List IM), ys.length = l.length → i + d = l.length →
      ∃ zs, Ev (fun k => laws_markMoveS.l0 k ys (a + 2 * i) (i : Int)) (a + 2 * l.length, zs) := by
    intro d
    induction d with
    | zero =>
      intro i ys hy hi
      obtain rfl : i = l.length := by omega
      refine ⟨ys, Ev.succ (fun k => ?_)⟩
      simp only [laws_markMoveS.l0]
      rw [if_neg (by omega)]
    | succ d ih =>
      intro i ys hy hi
      obtain ⟨zs, h⟩ := ih (i + 1) ((ys.set i ⟨a + 2 * i, (rd_T46 ys i).f1⟩).set i ⟨(rd_T46 (ys.set i ⟨a + 2 * i, (rd_T46 ys i).f1⟩) i).f0, a + 2 * i + 1⟩) (by simpa using hy) (by omega)
      refine ⟨zs, Ev.step (fun k => ?_) h⟩
      simp only [laws_markMoveS.l0]
      rw [if_pos (by omega), if_pos (by omega), w64_succ (n := l.length) (by omega) (by omega), Int.toNat_natCast]
      simp only [Option.bind_some]
      rw [w64 (x := a + 2 * (i : Int) + 1) (by omega) (by omega), w64 (x := a + 2 * (i : Int) + 1 + 1) (by omega) (by omega)]
      rw [show a + 2 * (i : Int) + 1 + 1 = a + 2 * ((i + 1 : Nat) : Int) by omega]
  have h := key l.length 0 l rfl (by omega)
  simpa using h

-- chunk pool: what tasks may do, and what becomes of them, of the program and of the reference
def poolOk (n : Int) (l : List IE) (wk : Int) : Bool := graphOk n l && decide (1 ≤ wk ∧ wk ≤ 8)
theorem impl_isPool_ev (n : Int) (l : List IE) (wk : Int) : Ev (fun k => impl_isPool.f k n l wk) (poolOk n l wk) := by
  unfold impl_isPool.f poolOk
  refine Ev.bind (impl_GraphOk_ev n l) ?_
  cases graphOk n l with
  | true =>
    rw [Bool.true_and]
    exact Ev.of_eq fun k => by rw [if_pos rfl, within_eq]; rfl
  | false => exact Ev.of_eq fun k => by rw [if_neg (by simp)]; rfl
theorem graphOk_spec {n : Int} {l : List IE} (h : graphOk n l = true) : 0 ≤ n ∧ n ≤ 16 ∧ l.length ≤ 200 ∧ ∀ e ∈ l, (0 ≤ e.f0 ∧ e.f0 < n) ∧ 0 ≤ e.f1 ∧ e.f1 < n := by
  unfold graphOk at h
  rw [Bool.and_eq_true, Bool.and_eq_true] at h
  obtain ⟨⟨h1, h2⟩, h3⟩ := h
  refine ⟨(of_decide_eq_true h1).1, (of_decide_eq_true h1).2, of_decide_eq_true h2, fun e he => ?_⟩
  have h4 := List.all_eq_true.1 h3 e he
  unfold edgeIn at h4
  rw [Bool.and_eq_true] at h4
  have h5 := of_decide_eq_true h4.1
  have h6 := of_decide_eq_true h4.2
  omega
theorem fitB_of {n : Int} {l : List IE} (h : graphOk n l = true) : fitB n l = true := by
  obtain ⟨h1, h2, _, h3⟩ := graphOk_spec h
  unfold fitB
  rw [Bool.and_eq_true, Bool.and_eq_true]
  refine ⟨⟨decide_eq_true h1, decide_eq_true h2⟩, List.all_eq_true.2 fun e he => ?_⟩
  rw [Bool.and_eq_true]
  exact ⟨decide_eq_true (h3 e he).1.1, decide_eq_true (h3 e he).1.2⟩
def fitL (l : List IE) (is : List Int) : Prop := ∀ e ∈ l, 0 ≤ e.f0 ∧ e.f0 < (is.length : Int)
theorem spec_l18Ready_ev {l : List IE} {is : List Int} (hl : l.length ≤ 200) (hf : fitL l is) (t : Nat) (ht : t < is.length) : Ev (fun k => spec_l18Ready.f k l is (t : Int)) (rdyB l is (t : Int)) := by
  unfold spec_l18Ready.f rdyB
  refine Ev.congr (fun k => by rw [if_pos (by omega), if_pos (by omega)]) ?_
  by_cases c : rd is (t : Int) = 0
  · refine Ev.congr (fun k => if_pos c) ?_
    rw [decide_eq_true c, Bool.true_and]
    have h0 : (!(l.any (rdyP is (t : Int)))) = (l.drop 0).all (fun e => !(rdyP is (t : Int) e)) := by rw [List.drop_zero, List.not_any_eq_all_not]
    rw [h0]
    refine all_ev l (fun e => !(rdyP is (t : Int) e)) (fun k i => spec_l18Ready.l0 k l is (t : Int) i) (fun i h hp r hr => ?_) (fun i h hp => ?_) ?_ 0 (by omega)
    · refine Ev.step (fun k => ?_) hr
      simp only [spec_l18Ready.l0]
      have hm := hf l[i] (List.getElem_mem h)
      rw [if_pos (by omega), if_pos (by omega), rd_IE h, w64_nat i (by omega)]
      by_cases c1 : l[i].f1 = (t : Int)
      · rw [if_pos c1, if_pos hm.1, if_pos hm.2]
        by_cases c2 : rd is l[i].f0 = 2
        · rw [if_pos c2]
        · rw [show rdyP is (t : Int) l[i] = true from decide_eq_true ⟨c1, c2⟩] at hp
          cases hp
      · rw [if_neg c1]
    · refine Ev.succ (fun k => ?_)
      have hm := hf l[i] (List.getElem_mem h)
      simp only [spec_l18Ready.l0]
      rw [if_pos (by omega), if_pos (by omega), rd_IE h]
      have hp2 : rdyP is (t : Int) l[i] = true := by
        cases hq : rdyP is (t : Int) l[i] with
        | true => rfl
        | false => rw [hq] at hp; cases hp
      have h3 := of_decide_eq_true (show decide (l[i].f1 = (t : Int) ∧ rd is l[i].f0 ≠ 2) = true from hp2)
      rw [if_pos h3.1, if_pos hm.1, if_pos hm.2, if_neg h3.2]
    · refine Ev.succ (fun k => ?_)
      simp only [spec_l18Ready.l0]
      rw [if_neg (by omega)]
  · refine Ev.congr (fun k => if_neg c) ?_
    rw [decide_eq_false c, Bool.false_and]
    exact Ev.now _
theorem spec_l18Moves_ev {l : List IE} {is : List Int} (wk : Int) (hl : l.length ≤ 200) (hn : is.length ≤ 16) (hf : fitL l is) : Ev (fun k => spec_l18Moves.f k l wk is) (movesL l wk is) := by
  unfold spec_l18Moves.f
  have k1 : ∀ (d i : Nat), i + d = is.length → Ev (fun k => spec_l18Moves.l1 k l is (endsTo is is.length ++ begsTo l is i) (i : Int)) (endsTo is is.length ++ begsTo l is is.length) := by
    intro d
    induction d with
    | zero =>
      intro i hi
      obtain rfl : i = is.length := by omega
      refine Ev.succ (fun k => ?_)
      simp only [spec_l18Moves.l1]
      rw [if_neg (by omega)]
    | succ d ih =>
      intro i hi
      have hlen1 := endsTo_len is is.length
      have hlen2 := begsTo_len l is i
      have h := ih (i + 1) (by omega)
      rw [begsTo_succ] at h
      have hr := spec_l18Ready_ev hl hf i (by omega)
      refine Ev.step (f := fun k => (spec_l18Ready.f k l is (i : Int)).bind fun t => if t = true then (if (endsTo is is.length ++ begsTo l is i).length < 8796093022208 then spec_l18Moves.l1 k l is ((endsTo is is.length ++ begsTo l is i) ++ [⟨2, (i : Int)⟩]) ((i + 1 : Nat) : Int) else none) else spec_l18Moves.l1 k l is (endsTo is is.length ++ begsTo l is i) ((i + 1 : Nat) : Int)) (fun k => ?_) (Ev.bind hr ?_)
      · simp only [spec_l18Moves.l1]
        rw [if_pos (by omega), w64_nat i (by omega)]
      · cases hq : rdyB l is (i : Int) with
        | true =>
          rw [hq, if_pos rfl, ← List.append_assoc] at h
          exact Ev.congr (fun k => if_pos rfl) (Ev.congr (fun k => if_pos (by rw [List.length_append]; omega)) h)
        | false =>
          rw [hq, if_neg (by simp)] at h
          exact Ev.congr (fun k => if_neg (by simp)) h
  have k0 : ∀ (d i : Nat), i + d = is.length → Ev (fun k => spec_l18Moves.l0 k l wk is (endsTo is i) (i : Int)) (movesL l wk is) := by
    intro d
    induction d with
    | zero =>
      intro i hi
      obtain rfl : i = is.length := by omega
      unfold movesL
      by_cases c : wk ≤ ((endsTo is is.length).length : Int)
      · rw [if_pos c]
        refine Ev.succ (fun k => ?_)
        simp only [spec_l18Moves.l0]
        rw [if_neg (by omega), if_neg (by omega)]
      · rw [if_neg c]
        have h := k1 is.length 0 (by omega)
        rw [show begsTo l is 0 = [] from rfl, List.append_nil] at h
        refine Ev.step (fun k => ?_) h
        simp only [spec_l18Moves.l0]
        rw [if_neg (by omega), if_pos (by omega)]
        rfl
    | succ d ih =>
      intro i hi
      have hlen1 := endsTo_len is i
      have h := ih (i + 1) (by omega)
      rw [endsTo_succ] at h
      by_cases c : rd is (i : Int) = 1
      · rw [if_pos c] at h
        refine Ev.step (fun k => ?_) h
        simp only [spec_l18Moves.l0]
        rw [if_pos (by omega), if_pos (by omega), if_pos c, if_pos (by omega), w64_nat i (by omega)]
      · rw [if_neg c] at h
        refine Ev.step (fun k => ?_) h
        simp only [spec_l18Moves.l0]
        rw [if_pos (by omega), if_pos (by omega), if_neg c, w64_nat i (by omega)]
  exact k0 is.length 0 (by omega)
theorem spec_l18Do_eq {l : List IE} {wk : Int} {is : List Int} (hn : is.length ≤ 16) {e : IM} (h : e ∈ movesL l wk is) : spec_l18Do.f is e.f0 e.f1 = some (doL is e.f1) := by
  obtain ⟨t, ht, h1, h2⟩ := movesL_mem h
  unfold spec_l18Do.f
  simp only [Option.bind_some, List.length_nil, List.nil_append]
  rw [if_pos (by omega), h1]
  rw [if_pos (by omega), if_pos (by omega)]
  unfold doL
  rcases h2 with ⟨h3, h4⟩ | ⟨h3, _, h4⟩
  · rw [if_neg (by omega), h4]
    rfl
  · rw [if_pos h3, h4, List.set_set]
    rfl
theorem doL_mem {is : List Int} {x : Int} {v : Int} (h : v ∈ doL is x) : v ∈ is ∨ v = rd is x + 1 := by
  unfold doL at h
  rcases List.mem_or_eq_of_mem_set h with h | h
  · exact .inl h
  · exact .inr h
theorem eqM_comm (e m : IM) : (e.f0 == m.f0 && (e.f1 == m.f1)) = (m.f0 == e.f0 && m.f1 == e.f1) := by
  rw [Bool.eq_iff_iff]
  simp only [Bool.and_eq_true, beq_iff_eq]
  exact ⟨fun h => ⟨h.1.symm, h.2.symm⟩, fun h => ⟨h.1.symm, h.2.symm⟩⟩
def goR (l : List IE) (wk : Int) (o : Option (List Int)) : List IM × Bool := match o with
  | some is => (movesL l wk is, true)
  | none => ([], false)
theorem fitL_len {l : List IE} {is is' : List Int} (h : fitL l is) (e : is'.length = is.length) : fitL l is' := fun x hx => by rw [e]; exact h x hx
def pickN (picks : List Int) (fr : Nat) (n : Nat) : Nat := if fr < picks.length then (if Int.tmod (rd picks (fr : Int)) (n : Int) < 0 then Int.tmod (rd picks (fr : Int)) (n : Int) + (n : Int) else Int.tmod (rd picks (fr : Int)) (n : Int)).toNat else 0
theorem tmod_bounds (a : Int) {n : Nat} (hn : 0 < n) : -(n : Int) < Int.tmod a (n : Int) ∧ Int.tmod a (n : Int) < (n : Int) := by
  have h1 := Int.tmod_lt_of_pos a (b := (n : Int)) (by omega)
  refine ⟨?_, h1⟩
  have h2 := Int.tmod_lt_of_pos (-a) (b := (n : Int)) (by omega)
  rw [Int.neg_tmod] at h2
  omega
theorem pickN_lt (picks : List Int) (fr : Nat) {n : Nat} (hn : 0 < n) : pickN picks fr n < n := by
  unfold pickN
  split
  · have h := tmod_bounds (rd picks (fr : Int)) hn
    split <;> omega
  · exact hn
theorem modulo_eq (x : Int) {n : Nat} (hn : 0 < n) (hn2 : n ≤ 1000000) : impl_modulo.f x (n : Int) = some (if Int.tmod x (n : Int) < 0 then Int.tmod x (n : Int) + (n : Int) else Int.tmod x (n : Int)) := by
  have h := tmod_bounds x hn
  unfold impl_modulo.f
  rw [if_neg (by omega)]
  by_cases c : Int.tmod x (n : Int) < 0
  · rw [if_pos c, if_pos c, w64 (by omega) (by omega)]
  · rw [if_neg c, if_neg c]
theorem l18Pick_eq (picks : List Int) (fr : Nat) {n : Nat} (hn : 0 < n) (hn2 : n ≤ 1000000) : spec_l18Pick.f picks (fr : Int) (n : Int) = some (pickN picks fr n : Int) := by
  unfold spec_l18Pick.f pickN
  have h := tmod_bounds (rd picks (fr : Int)) hn
  by_cases c : fr < picks.length
  · rw [if_neg (by omega), if_pos (by omega), if_pos (by omega), if_neg (by omega), if_pos c]
    by_cases c2 : Int.tmod (rd picks (fr : Int)) (n : Int) < 0
    · rw [if_pos c2, if_pos c2, w64 (by omega) (by omega), Int.toNat_of_nonneg (by omega)]
    · rw [if_neg c2, if_neg c2, Int.toNat_of_nonneg (by omega)]
  · rw [if_pos (by omega), if_neg c]
    rfl
theorem implPick_eq (picks : List Int) (fr : Nat) {n : Nat} (hn : 0 < n) (hn2 : n ≤ 1000000) : ((if fr < picks.length then impl_modulo.f (rd picks (fr : Int)) (n : Int) else some 0) : Option Int) = some (pickN picks fr n : Int) := by
  unfold pickN
  have h := tmod_bounds (rd picks (fr : Int)) hn
  by_cases c : fr < picks.length
  · rw [if_pos c, if_pos c, modulo_eq _ hn hn2]
    congr 1
    rw [Int.toNat_of_nonneg]
    split <;> omega
  · rw [if_neg c, if_neg c]
    rfl
/-- A run: of q moves at most. -/
def runP (l : List IE) (wk : Int) (picks : List Int) : Nat → Nat → List Int → List IM → List IM
  | 0, _, _, out => out
  | q + 1, fr, is, out => if (movesL l wk is).length = 0 then out else runP l wk picks q (fr + 1) (doL is (rd_T46 (movesL l wk is) (pickN picks fr (movesL l wk is).length : Int)).f1) (out ++ [rd_T46 (movesL l wk is) (pickN picks fr (movesL l wk is).length : Int)])
def lvl (is : List Int) : Prop := ∀ v ∈ is, v = 0 ∨ v = 1 ∨ v = 2
theorem rd_mem {is : List Int} {t : Nat} (h : t < is.length) : rd is (t : Int) ∈ is := by
  rw [rd_lt is h]
  exact List.getElem_mem h
theorem sum_set {is : List Int} {t : Nat} (h : t < is.length) : (is.set t (rd is (t : Int) + 1)).sum = is.sum + 1 := by
  rw [rd_lt is h]
  induction is generalizing t with
  | nil => simp at h
  | cons x is ih =>
    cases t with
    | zero => simp; omega
    | succ t =>
      simp only [List.set_cons_succ, List.sum_cons, List.getElem_cons_succ]
      rw [ih (by simpa using h)]
      omega
theorem sum_le {is : List Int} (h : lvl is) : is.sum ≤ 2 * (is.length : Int) ∧ 0 ≤ is.sum := by
  induction is with
  | nil => simp
  | cons x is ih =>
    have h1 := ih (fun v hv => h v (List.mem_cons_of_mem _ hv))
    have h2 := h x List.mem_cons_self
    simp only [List.sum_cons, List.length_cons]
    omega
theorem sum_full {is : List Int} (h : lvl is) (hs : is.sum = 2 * (is.length : Int)) : ∀ v ∈ is, v = 2 := by
  induction is with
  | nil => intro v hv; simp at hv
  | cons x is ih =>
    have h0 : lvl is := fun v hv => h v (List.mem_cons_of_mem _ hv)
    have h1 := sum_le h0
    have h2 := h x List.mem_cons_self
    simp only [List.sum_cons, List.length_cons] at hs
    intro v hv
    rcases List.mem_cons.1 hv with rfl | hv
    · omega
    · exact ih h0 (by omega) v hv
theorem moves_full {l : List IE} {wk : Int} {is : List Int} (h : lvl is) (hs : is.sum = 2 * (is.length : Int)) : movesL l wk is = [] := by
  cases hm : movesL l wk is with
  | nil => rfl
  | cons e r =>
    have he : e ∈ movesL l wk is := by rw [hm]; exact List.mem_cons_self
    obtain ⟨t, ht, h1, h2⟩ := movesL_mem he
    have h3 := sum_full h hs _ (rd_mem ht)
    rcases h2 with h2 | h2 <;> omega
theorem do_lvl {l : List IE} {wk : Int} {is : List Int} (h : lvl is) {e : IM} (he : e ∈ movesL l wk is) : lvl (doL is e.f1) ∧ (doL is e.f1).sum = is.sum + 1 := by
  obtain ⟨t, ht, h1, h2⟩ := movesL_mem he
  rw [h1]
  constructor
  · intro v hv
    rcases doL_mem hv with hv | hv
    · exact h v hv
    · rcases h2 with h2 | h2 <;> omega
  · unfold doL
    rw [Int.toNat_natCast]
    exact sum_set ht
theorem rd_moves {l : List IE} {wk : Int} {is : List Int} {j : Nat} (h : j < (movesL l wk is).length) : rd_T46 (movesL l wk is) (j : Int) ∈ movesL l wk is := by
  rw [rd_IM h]
  exact List.getElem_mem h
theorem playL_is (l : List IE) (wk : Int) (picks : List Int) : ∀ (q fr : Nat) (is : List Int) (out : List IM) (k : Nat), is.length ≤ 16 → lvl is → is.sum + (q : Int) = 2 * (is.length : Int) → fr + q ≤ 100 → q < k → playL l wk picks k fr is out = some (runP l wk picks q fr is out) := by
  intro q
  induction q with
  | zero =>
    intro fr is out k hn h hs hf hk
    obtain ⟨k, rfl⟩ : ∃ m, k = m + 1 := ⟨k - 1, by omega⟩
    show (if (movesL l wk is).length = 0 then some out else _) = _
    rw [if_pos (by rw [moves_full h (by omega)]; rfl)]
    rfl
  | succ q ih =>
    intro fr is out k hn h hs hf hk
    obtain ⟨k, rfl⟩ : ∃ m, k = m + 1 := ⟨k - 1, by omega⟩
    show (if (movesL l wk is).length = 0 then some out else if 1000 ≤ fr then none else
      ((if fr < picks.length then impl_modulo.f (rd picks (fr : Int)) ((movesL l wk is).length : Int) else some 0) : Option Int).bind fun j => if 0 ≤ j ∧ j < ((movesL l wk is).length : Int) then playL l wk picks k (fr + 1) (doL is (rd_T46 (movesL l wk is) j).f1) (out ++ [rd_T46 (movesL l wk is) j]) else none) = some (if (movesL l wk is).length = 0 then out else _)
    by_cases c : (movesL l wk is).length = 0
    · rw [if_pos c, if_pos c]
    · have hml := movesL_len l wk is
      have hp : pickN picks fr (movesL l wk is).length < (movesL l wk is).length := pickN_lt picks fr (by omega)
      obtain ⟨h1, h2⟩ := do_lvl h (rd_moves hp)
      rw [if_neg c, if_neg c, if_neg (by omega), implPick_eq picks fr (by omega) (by omega), Option.bind_some, if_pos (by omega)]
      exact ih (fr + 1) _ _ k (by rw [doL_len]; exact hn) h1 (by rw [doL_len]; omega) (by omega) (by omega)
def poolRunL (n : Int) (l : List IE) (wk : Int) (picks : List Int) : List IM × Bool := if poolOk n l wk = true ∧ picks.length ≤ 2000 then (runP l wk picks (2 * n.toNat) 0 (List.replicate n.toNat 0) [], true) else ([], false)
theorem lvl0 (N : Nat) : lvl (List.replicate N 0) := fun v hv => .inl (List.eq_of_mem_replicate hv)
theorem sum0 (N : Nat) : (List.replicate N (0 : Int)).sum = 0 := by
  induction N with
  | zero => rfl
  | succ N ih => rw [List.replicate_succ, List.sum_cons, ih]; rfl
theorem impl_PoolRun_ev (n : Int) (l : List IE) (wk : Int) (picks : List Int) : Ev (fun k => impl_PoolRun.f k n l wk picks) (poolRunL n l wk picks) := by
  unfold impl_PoolRun.f poolRunL
  refine Ev.bind (impl_isPool_ev n l wk) ?_
  cases hp : poolOk n l wk with
  | true =>
    have hg : graphOk n l = true := by
      unfold poolOk at hp
      rw [Bool.and_eq_true] at hp
      exact hp.1
    obtain ⟨n0, n1, hl, hf⟩ := graphOk_spec hg
    obtain ⟨N, rfl⟩ : ∃ N : Nat, n = (N : Int) := ⟨n.toNat, by omega⟩
    rw [Int.toNat_natCast]
    refine Ev.congr (fun k => if_pos rfl) ?_
    by_cases c : picks.length ≤ 2000
    · rw [if_pos ⟨rfl, c⟩]
      refine Ev.congr (fun k => if_neg (by omega)) (Ev.congr (fun k => if_pos (fitB_of hg)) ?_)
      refine Ev.bind (a := runP l wk picks (2 * N) 0 (List.replicate N 0) []) ⟨2 * N + 1, fun k hk => playL_is l wk picks (2 * N) 0 (List.replicate N 0) [] k (by rw [List.length_replicate]; omega) (lvl0 N) (by rw [sum0, List.length_replicate]; omega) (by omega) (by omega)⟩ (Ev.now _)
    · rw [if_neg (by simp; omega)]
      exact Ev.of_eq fun k => if_pos (by omega)
  | false =>
    rw [if_neg (by simp)]
    exact Ev.of_eq fun k => if_neg (by simp)
theorem spec_PoolRun_ev (n : Int) (l : List IE) (wk : Int) (picks : List Int) (hp : picks.length ≤ 1000000000) : Ev (fun k => spec_PoolRun.f k n l wk picks) (poolRunL n l wk picks) := by
  unfold spec_PoolRun.f poolRunL
  refine Ev.bind (spec_GraphOk_ev n l) ?_
  unfold poolOk
  cases hg : graphOk n l with
  | false =>
    rw [Bool.false_and, if_neg (by simp)]
    exact Ev.congr (fun k => if_neg (by simp)) (Ev.succ fun k => by simp only [spec_PoolRun.j0, if_true])
  | true =>
    refine Ev.congr (fun k => if_pos rfl) ?_
    rw [Bool.true_and]
    refine Ev.bindc (l1In_eq _ _ _) ?_
    by_cases hw : 1 ≤ wk ∧ wk ≤ 8
    · rw [decide_eq_true hw]
      refine Ev.congr (fun k => if_pos rfl) ?_
      obtain ⟨n0, n1, hl, hf⟩ := graphOk_spec hg
      obtain ⟨N, rfl⟩ : ∃ N : Nat, n = (N : Int) := ⟨n.toNat, by omega⟩
      rw [Int.toNat_natCast]
      have hf0 : fitL l (List.replicate N 0) := fun e he => by rw [List.length_replicate]; exact (hf e he).1
      by_cases c : picks.length ≤ 2000
      · rw [if_pos ⟨rfl, c⟩, decide_eq_false (by omega)]
        have hw2 : wrap64 (2 * (N : Int)) = ((2 * N : Nat) : Int) := by rw [w64 (by omega) (by omega)]; omega
        have key : ∀ (q fr : Nat) (is : List Int) (out : List IM), fr + q = 2 * N → is.length = N → lvl is → out.length ≤ fr → Ev (fun k => spec_PoolRun.l0 k (N : Int) l wk picks out is (fr : Int)) (runP l wk picks q fr is out, true) := by
          intro q
          induction q with
          | zero =>
            intro fr is out hq hn h ho
            refine Ev.succ (fun k => ?_)
            simp only [spec_PoolRun.l0]
            rw [hw2, if_neg (by omega)]
            rfl
          | succ q ih =>
            intro fr is out hq hn h ho
            have hfi := fitL_len (is' := is) hf0 (by simpa using hn)
            have hm := spec_l18Moves_ev (l := l) (is := is) wk hl (by omega) hfi
            have hu : runP l wk picks (q + 1) fr is out = if (movesL l wk is).length = 0 then out else runP l wk picks q (fr + 1) (doL is (rd_T46 (movesL l wk is) (pickN picks fr (movesL l wk is).length : Int)).f1) (out ++ [rd_T46 (movesL l wk is) (pickN picks fr (movesL l wk is).length : Int)]) := rfl
            rw [hu]
            have hml := movesL_len l wk is
            have hmem : ∀ j : Nat, j < (movesL l wk is).length → spec_l18Do.f is (rd_T46 (movesL l wk is) (j : Int)).f0 (rd_T46 (movesL l wk is) (j : Int)).f1 = some (doL is (rd_T46 (movesL l wk is) (j : Int)).f1) ∧ lvl (doL is (rd_T46 (movesL l wk is) (j : Int)).f1) := fun j hj => ⟨spec_l18Do_eq (by omega) (rd_moves hj), (do_lvl h (rd_moves hj)).1⟩
            generalize movesL l wk is = ml at hm hml hmem
            refine Ev.step (f := fun k => (spec_l18Moves.f k l wk is).bind fun t => if (t.length : Int) = 0 then some (out, true) else (spec_l18Pick.f picks (fr : Int) (t.length : Int)).bind fun j => if 0 ≤ j then (if j < (t.length : Int) then (spec_l18Do.f is (rd_T46 t j).f0 (rd_T46 t j).f1).bind fun u => (if out.length < 8796093022208 then spec_PoolRun.l0 k (N : Int) l wk picks (out ++ [⟨(rd_T46 t j).f0, (rd_T46 t j).f1⟩]) u ((fr + 1 : Nat) : Int) else none) else none) else none) (fun k => ?_) (Ev.bind hm ?_)
            · simp only [spec_PoolRun.l0]
              rw [hw2, if_pos (by omega), w64_nat fr (by omega)]
            · by_cases cz : ml.length = 0
              · rw [if_pos cz]
                exact Ev.of_eq fun k => if_pos (by omega)
              · rw [if_neg cz]
                refine Ev.congr (fun k => if_neg (by omega)) ?_
                have hpk := pickN_lt picks fr (n := ml.length) (by omega)
                obtain ⟨h1, h2⟩ := hmem _ hpk
                refine Ev.bindc (l18Pick_eq picks fr (by omega) (by omega)) ?_
                refine Ev.congr (fun k => (if_pos (by omega)).trans (if_pos (by omega))) (Ev.bindc h1 (Ev.congr (fun k => if_pos (by omega)) ?_))
                exact ih (fr + 1) _ _ (by omega) (by rw [doL_len]; exact hn) h2 (by rw [List.length_append]; simp; omega)
        refine Ev.step (f := fun k => spec_PoolRun.l0 k (N : Int) l wk picks [] (List.replicate N 0) 0) (fun k => ?_) (key (2 * N) 0 (List.replicate N 0) [] (by omega) List.length_replicate (lvl0 N) (by simp))
        simp only [spec_PoolRun.j0]
        rw [if_neg (by simp), if_pos (by omega), if_pos (by omega), Int.toNat_natCast]
      · rw [if_neg (by simp; omega), decide_eq_true (by omega)]
        exact Ev.succ fun k => by simp only [spec_PoolRun.j0, if_true]
    · rw [decide_eq_false hw, if_neg (by simp)]
      exact Ev.congr (fun k => if_neg (by simp)) (Ev.succ fun k => by simp only [spec_PoolRun.j0, if_true])
theorem runP_len (l : List IE) (wk : Int) (picks : List Int) : ∀ (q fr : Nat) (is : List Int) (out : List IM), (runP l wk picks q fr is out).length ≤ out.length + q := by
  intro q
  induction q with
  | zero => intro fr is out; exact Nat.le_refl _
  | succ q ih =>
    intro fr is out
    show (if _ then out else _ : List IM).length ≤ _
    split
    · omega
    · have := ih (fr + 1) (doL is (rd_T46 (movesL l wk is) (pickN picks fr (movesL l wk is).length : Int)).f1) (out ++ [rd_T46 (movesL l wk is) (pickN picks fr (movesL l wk is).length : Int)])
      rw [List.length_append] at this
      simp only [List.length_cons, List.length_nil] at this
      omega
theorem poolRunL_len (n : Int) (l : List IE) (wk : Int) (picks : List Int) : (poolRunL n l wk picks).1.length ≤ 1000 := by
  unfold poolRunL
  split
  · rename_i h
    have hg : graphOk n l = true := by
      have := h.1
      unfold poolOk at this
      rw [Bool.and_eq_true] at this
      exact this.1
    obtain ⟨n0, n1, _⟩ := graphOk_spec hg
    have := runP_len l wk picks (2 * n.toNat) 0 (List.replicate n.toNat 0) []
    simp only [List.length_nil] at this
    show (runP l wk picks (2 * n.toNat) 0 (List.replicate n.toNat 0) []).length ≤ 1000
    omega
  · simp

-- chunk movemarks: lists of moves that are written, each number once, and read again
def markedM (a : Int) (n : Nat) : List IM := (List.range n).map fun i : Nat => (⟨a + 2 * (i : Int), a + 2 * (i : Int) + 1⟩ : IM)
theorem markMoveS_is {l : List IM} (a : Int) (hl : l.length ≤ 17592186044416) (h0 : 0 ≤ a) (h1 : a ≤ 17592186044416) : Ev (fun k => laws_markMoveS.f k l a) (a + 2 * l.length, markedM a l.length) := by
  unfold laws_markMoveS.f
  have key : ∀ (d i : Nat) (ys : List IM), ys.length = l.length → i + d = l.length → (∀ j (hj : j < i), ys[j]? = some (⟨a + 2 * (j : Int), a + 2 * (j : Int) + 1⟩ : IM)) →
      Ev (fun k => laws_markMoveS.l0 k ys (a + 2 * i) (i : Int)) (a + 2 * l.length, markedM a l.length) := by
    intro d
    induction d with
    | zero =>
      intro i ys hy hi hj
      obtain rfl : i = l.length := by omega
      refine Ev.succ (fun k => ?_)
      simp only [laws_markMoveS.l0]
      rw [if_neg (by omega)]
      have : markedM a l.length = ys := by
        apply List.ext_getElem?
        intro j
        by_cases hjj : j < l.length
        · rw [hj j hjj]; unfold markedM; rw [List.getElem?_map, List.getElem?_range hjj]; rfl
        · rw [List.getElem?_eq_none (by simpa [markedM] using hjj), List.getElem?_eq_none (by omega)]
      rw [this]
    | succ d ih =>
      intro i ys hy hi hj
      have h := ih (i + 1) ((ys.set i ⟨a + 2 * i, (rd_T46 ys i).f1⟩).set i ⟨(rd_T46 (ys.set i ⟨a + 2 * i, (rd_T46 ys i).f1⟩) i).f0, a + 2 * i + 1⟩) (by simpa using hy) (by omega) (fun j hj1 => by
        by_cases e : j = i
        · subst e
          rw [List.getElem?_set_self (by simp; omega), rd_IM (by simp; omega)]
          simp
        · rw [List.getElem?_set_ne (by omega), List.getElem?_set_ne (by omega)]
          exact hj j (by omega))
      refine Ev.step (fun k => ?_) h
      simp only [laws_markMoveS.l0]
      rw [if_pos (by omega), if_pos (by omega), w64_succ (n := l.length) (by omega) (by omega), Int.toNat_natCast]
      simp only [Option.bind_some]
      rw [w64 (x := a + 2 * (i : Int) + 1) (by omega) (by omega), w64 (x := a + 2 * (i : Int) + 1 + 1) (by omega) (by omega)]
      rw [show a + 2 * (i : Int) + 1 + 1 = a + 2 * ((i + 1 : Nat) : Int) by omega]
  have h := key l.length 0 l rfl (by omega) (fun j hj => by omega)
  simpa using h
theorem heldMoveS_ev {n : Nat} (a : Int) (hn : n ≤ 17592186044416) (h0 : 0 ≤ a) (h1 : a ≤ 17592186044416) : Ev (fun k => laws_heldMoveS.f k (markedM a n) a) (a + 2 * n) := by
  unfold laws_heldMoveS.f
  have hlen : (markedM a n).length = n := by simp [markedM]
  have key : ∀ (d i : Nat), i + d = n → Ev (fun k => laws_heldMoveS.l0 k (markedM a n) (a + 2 * i) (i : Int)) (a + 2 * n) := by
    intro d
    induction d with
    | zero =>
      intro i hi
      obtain rfl : i = n := by omega
      refine Ev.succ (fun k => ?_)
      simp only [laws_heldMoveS.l0]
      rw [hlen, if_neg (by omega)]
    | succ d ih =>
      intro i hi
      refine Ev.step (fun k => ?_) (ih (i + 1) (by omega))
      simp only [laws_heldMoveS.l0]
      have e : rd_T46 (markedM a n) (i : Int) = (⟨a + 2 * (i : Int), a + 2 * (i : Int) + 1⟩ : IM) := by
        rw [rd_IM (by rw [hlen]; omega)]
        simp [markedM]
      rw [hlen, if_pos (by omega), if_pos (by omega), e, w64_nat i (by omega), w64 (x := a + 2 * (i : Int) + 1) (by omega) (by omega), w64 (x := a + 2 * (i : Int) + 1 + 1) (by omega) (by omega), if_pos rfl, if_pos rfl]
      rw [show a + 2 * (i : Int) + 1 + 1 = a + 2 * ((i + 1 : Nat) : Int) by omega]
  have h := key n 0 (by omega)
  simpa using h

-- chunk ints: lists of numbers are copied, and the same as themselves
theorem toIntS_ev {l : List Int} (hl : l.length ≤ 35184372088832) : Ev (fun k => laws_toIntS.f k l) l := by
  unfold laws_toIntS.f
  simp only [Int.natCast_nonneg, if_true, Int.toNat_natCast, if_pos hl]
  have h := fill_ev l (fun x : Int => x) (fun k ys i => laws_toIntS.l0 k l ys i) (fun i h ys hy r hr => ?_) (fun ys => ?_) (List.replicate l.length 0) (by simp)
  · simpa using h
  · refine Ev.step (fun k => ?_) hr
    simp only [laws_toIntS.l0]
    rw [if_pos (by omega), if_pos (by omega), if_pos (by omega), rd_lt _ h, w64_succ h (by omega), Int.toNat_natCast]
  · refine Ev.succ (fun k => ?_)
    simp only [laws_toIntS.l0]
    rw [if_neg (by omega)]
theorem eqIntS_refl {l : List Int} (hl : l.length ≤ 35184372088832) : Ev (fun k => laws_eqIntS.f k l l) true := by
  unfold laws_eqIntS.f
  simp only [if_true]
  refine down_ev (fun k i => laws_eqIntS.l0 k l l i) l.length true (fun i h hr => ?_) ?_ 0 (by omega)
  · refine Ev.step (fun k => ?_) hr
    simp only [laws_eqIntS.l0]
    rw [if_pos (by omega), if_pos (by omega), if_pos (by omega), if_pos trivial, w64_succ h (by omega)]
  · refine Ev.succ (fun k => ?_)
    simp only [laws_eqIntS.l0]
    rw [if_neg (by omega)]

-- chunk marks: what the laws write to see whether memory is shared
theorem markIntS_ev {l : List Int} (a : Int) (hl : l.length ≤ 4611686018427387904) (h0 : 0 ≤ a) (h1 : a ≤ 4611686018427387902) : Ev (fun k => laws_markIntS.f k l a) (a + l.length, (List.range l.length).map fun i : Nat => a + (i : Int)) := by
  unfold laws_markIntS.f
  have key : ∀ (d i : Nat) (ys : List Int), ys.length = l.length → i + d = l.length → (∀ j (hj : j < i), ys[j]? = some (a + (j : Int))) →
      Ev (fun k => laws_markIntS.l0 k ys (a + i) (i : Int)) (a + l.length, (List.range l.length).map fun i : Nat => a + (i : Int)) := by
    intro d
    induction d with
    | zero =>
      intro i ys hy hi hj
      obtain rfl : i = l.length := by omega
      refine Ev.succ (fun k => ?_)
      simp only [laws_markIntS.l0]
      rw [if_neg (by omega)]
      have : (List.range l.length).map (fun i : Nat => a + (i : Int)) = ys := by
        apply List.ext_getElem?
        intro j
        by_cases hjj : j < l.length
        · rw [hj j hjj, List.getElem?_map, List.getElem?_range hjj]; rfl
        · rw [List.getElem?_eq_none (by simpa using hjj), List.getElem?_eq_none (by omega)]
      rw [this]
    | succ d ih =>
      intro i ys hy hi hj
      have h := ih (i + 1) (ys.set i (a + i)) (by simpa using hy) (by omega) (fun j hj1 => by
        by_cases e : j = i
        · subst e
          rw [List.getElem?_set_self (by omega)]
        · rw [List.getElem?_set_ne (by omega)]
          exact hj j (by omega))
      refine Ev.step (fun k => ?_) h
      simp only [laws_markIntS.l0]
      rw [if_pos (by omega), if_pos (by omega), w64_succ (n := l.length) (by omega) (by omega), Int.toNat_natCast, w64 (by omega) (by omega)]
      rw [show a + (i : Int) + 1 = a + ((i + 1 : Nat) : Int) by omega]
  have h := key l.length 0 l rfl (by omega) (fun j hj => by omega)
  simpa using h
/-- Lists of edges that are written: only how many, and that it goes. -/
theorem markEdgeS_ev {l : List IE} (a : Int) (hl : l.length ≤ 17592186044416) (h0 : 0 ≤ a) (h1 : a ≤ 17592186044416) : ∃ ys, Ev (fun k => laws_markEdgeS.f k l a) (a + 2 * l.length, ys) := by
  unfold laws_markEdgeS.f
  have key : ∀ (d i : Nat) (ys : List IE), ys.length = l.length → i + d = l.length →
      ∃ zs, Ev (fun k => laws_markEdgeS.l0 k ys (a + 2 * i) (i : Int)) (a + 2 * l.length, zs) := by
    intro d
    induction d with
    | zero =>
      intro i ys hy hi
      obtain rfl : i = l.length := by omega
      refine ⟨ys, Ev.succ (fun k => ?_)⟩
      simp only [laws_markEdgeS.l0]
      rw [if_neg (by omega)]
    | succ d ih =>
      intro i ys hy hi
      obtain ⟨zs, h⟩ := ih (i + 1) ((ys.set i ⟨a + 2 * i, (rd_T96 ys i).f1⟩).set i ⟨(rd_T96 (ys.set i ⟨a + 2 * i, (rd_T96 ys i).f1⟩) i).f0, a + 2 * i + 1⟩) (by simpa using hy) (by omega)
      refine ⟨zs, Ev.step (fun k => ?_) h⟩
      simp only [laws_markEdgeS.l0]
      rw [if_pos (by omega), if_pos (by omega), w64_succ (n := l.length) (by omega) (by omega), Int.toNat_natCast]
      simp only [Option.bind_some]
      rw [w64 (x := a + 2 * (i : Int) + 1) (by omega) (by omega), w64 (x := a + 2 * (i : Int) + 1 + 1) (by omega) (by omega)]
      rw [show a + 2 * (i : Int) + 1 + 1 = a + 2 * ((i + 1 : Nat) : Int) by omega]
  have h := key l.length 0 l rfl (by omega)
  simpa using h

theorem markIntS_run {l : List Int} (a : Nat) (hl : l.length ≤ 10000000) (ha : a ≤ 10000000) : ∃ ys, Ev (fun k => laws_markIntS.f k l (a : Int)) ((a : Int) + l.length, ys) := ⟨_, markIntS_ev (a : Int) (by omega) (by omega) (by omega)⟩
theorem proof : Pure := by
  intro n l wk picks _ hl _ hp
  refine Ev.rounds ?_
  unfold laws_FnExactPoolRun.f
  by_cases hb0 : 1048576 < picks.length
  · exact Ev.of_eq fun k => if_pos (by omega)
  refine Ev.congr (fun k => if_neg (by omega)) ?_
  by_cases hb : 1048576 < l.length
  · exact Ev.bindc (szEdgeS_big hl.1 hb) (Ev.of_eq fun k => by simp)
  refine Ev.bindc (szEdgeS_eq l _) ?_
  rw [w64 (by omega) (by omega), if_neg (by omega)]
  refine Ev.congr (fun k => if_neg (by omega)) ?_
  have te := toEdgeS_ev (l := l) (by omega)
  have tm := toIntS_ev (l := picks) (by omega)
  have le : (l.map toE).length ≤ 1048576 := by rw [List.length_map]; omega
  have hi := impl_PoolRun_ev n (l.map toE) wk picks
  have hs := spec_PoolRun_ev n (l.map toE) wk picks (by omega)
  have hc := poolRunL_len n (l.map toE) wk picks
  generalize poolRunL n (l.map toE) wk picks = r at hi hs hc
  have hr : Ev (fun k => laws_eqMoveS.f k r.1 r.1) true := eqMoveS_refl (by omega)
  have hbb : (r.2 != r.2) = false := by simp
  obtain ⟨ye, hme⟩ := markEdgeS_ev (l := l.map toE) 1 (by omega) (by omega) (by omega)
  obtain ⟨ym, hmm⟩ := markIntS_run (l := picks) (1 + 2 * (l.map toE).length) (by omega) (by omega)
  have ec : (((1 + 2 * (l.map toE).length : Nat)) : Int) = 1 + 2 * ((l.map toE).length : Int) := by omega
  rw [ec] at hmm
  have hh := heldMoveS_ev (n := r.1.length) 1 (by omega) (by omega) (by omega)
  refine Ev.bind te (Ev.bind tm (Ev.bind hs (Ev.bind te (Ev.bind tm (Ev.bind hi (Ev.bind hr ?_))))))
  refine Ev.congr (fun k => if_pos rfl) (Ev.congr (fun k => if_neg (by rw [hbb]; simp)) ?_)
  refine Ev.bind te (Ev.bind (eqEdgeS_refl (by omega)) (Ev.congr (fun k => if_pos rfl) ?_))
  refine Ev.bind tm (Ev.bind (eqIntS_refl (by omega)) (Ev.congr (fun k => if_pos rfl) ?_))
  refine Ev.bind hme (Ev.bind hmm (Ev.congr (fun k => if_neg (by omega)) ?_))
  refine Ev.bind hr (Ev.congr (fun k => if_pos rfl) ?_)
  refine Ev.bind (markMoveS_is 1 (by omega) (by omega) (by omega)) ?_
  refine Ev.bind hh (Ev.congr (fun k => if_neg (by omega)) (Ev.congr (fun k => if_pos rfl) ?_))
  refine Ev.bind te (Ev.bind tm (Ev.bind hi (Ev.bind hr (Ev.congr (fun k => if_pos rfl) (Ev.congr (fun k => if_neg (by rw [hbb]; simp)) ?_)))))
  exact Ev.bind hh (Ev.of_eq fun k => by rw [if_neg (by omega), if_pos rfl])


end Go.Proofs.Ytnecbgeljanhiaa.fnExactPoolRun
