/- The law FnExactPoolMoves holds of the program's own functions, told over lists and numbers: for every argument it returns true. Conditions: none beyond the given row's own. -/
import Derived.Test.YtnecbgeljanhiaaSaysFnExactPoolMoves
import Derived.Test.YtnecbgeljanhiaaKit
namespace Go.Proofs.Ytnecbgeljanhiaa.fnExactPoolMoves
open Go.RowKit Go.Proofs.Ytnecbgeljanhiaa.PFnExactPoolMoves Go.Proofs.YtnecbgeljanhiaaW.PrintWords Go.Proofs.YtnecbgeljanhiaaW.PrintLast Go.Proofs.Ytnecbgeljanhiaa.Own
set_option linter.unusedVariables false
set_option linter.unusedSimpArgs false
-- chunk edges: lists of edges are copied, and the same as themselves
abbrev LE := S98
abbrev IE := S96
def toE (x : LE) : IE := ⟨x.f0, x.f1⟩
theorem szEdgeS_eq (l : List LE) (a : Int) : laws_szEdgeS.f l a = some (if wrap64 (a - (l.length : Int)) < 0 then -1 else wrap64 (a - (l.length : Int))) := by
  unfold laws_szEdgeS.f; split <;> rfl
theorem szEdgeS_big {l : List LE} (hl : l.length ≤ maxLen) (h : 1048576 < l.length) : laws_szEdgeS.f l 1048576 = some (-1) := by
  unfold maxLen at hl
  rw [szEdgeS_eq, w64 (by omega) (by omega), if_pos (by omega)]
theorem rd_LE {l : List LE} {i : Nat} (h : i < l.length) : rd_T98 l (i : Int) = l[i] := by
  unfold rd_T98; rw [Int.toNat_natCast]; exact getD_lt l _ h
theorem rd_IE {l : List IE} {i : Nat} (h : i < l.length) : rd_T96 l (i : Int) = l[i] := by
  unfold rd_T96; rw [Int.toNat_natCast]; exact getD_lt l _ h
theorem toEdgeS_ev {l : List LE} (hl : l.length ≤ 17592186044416) : Ev (fun k => laws_toEdgeS.f k l) (l.map toE) := by
  unfold laws_toEdgeS.f
  simp only [Int.natCast_nonneg, if_true, Int.toNat_natCast, if_pos hl]
  refine fill_ev l toE (fun k ys i => laws_toEdgeS.l0 k l ys i) (fun i h ys hy r hr => ?_) (fun ys => ?_) _ (by simp)
  · refine Ev.step (fun k => ?_) hr
    show laws_toEdgeS.l0 (k + 1) l ys i = _
    simp only [laws_toEdgeS.l0]
    rw [if_pos (by omega), if_pos (by omega), rd_LE h]
    unfold laws_toEdge.f
    simp only [Option.bind_some]
    rw [if_pos (by omega), w64_succ h (by omega), Int.toNat_natCast]
    rfl
  · refine Ev.succ (fun k => ?_)
    simp only [laws_toEdgeS.l0]
    rw [if_neg (by omega)]
theorem eqEdgeS_refl {l : List IE} (hl : l.length ≤ 17592186044416) : Ev (fun k => laws_eqEdgeS.f k l l) true := by
  unfold laws_eqEdgeS.f
  simp only [if_true]
  refine down_ev (fun k i => laws_eqEdgeS.l0 k l l i) l.length true (fun i h hr => ?_) ?_ 0 (by omega)
  · refine Ev.step (fun k => ?_) hr
    simp only [laws_eqEdgeS.l0]
    rw [if_pos (by omega), if_pos (by omega), if_pos (by omega)]
    unfold laws_eqEdge.f
    simp only [if_true, Option.bind_some]
    rw [w64_succ h (by omega)]
  · refine Ev.succ (fun k => ?_)
    simp only [laws_eqEdgeS.l0]
    rw [if_neg (by omega)]

-- chunk graph: what GraphOk answers, of the program and of the reference
def edgeIn (n : Int) (e : IE) : Bool := decide (0 ≤ e.f0 ∧ e.f0 ≤ n - 1) && decide (0 ≤ e.f1 ∧ e.f1 ≤ n - 1)
def graphOk (n : Int) (l : List IE) : Bool := decide (0 ≤ n ∧ n ≤ 16) && decide (l.length ≤ 200) && l.all (edgeIn n)
theorem within_eq (a b c : Int) : impl_within.f a b c = some (decide (b ≤ a ∧ a ≤ c)) := by
  unfold impl_within.f
  split <;> simp [*]
theorem l1In_eq (a b c : Int) : spec_l1In.f a b c = some (decide (b ≤ a ∧ a ≤ c)) := by
  unfold spec_l1In.f
  split <;> simp [*]
theorem impl_GraphOk_ev (n : Int) (l : List IE) : Ev (fun k => impl_GraphOk.f k n l) (graphOk n l) := by
  unfold impl_GraphOk.f graphOk
  refine Ev.bindc (within_eq _ _ _) ?_
  by_cases hn : 0 ≤ n ∧ n ≤ 16
  · simp only [hn, decide_true, if_true, and_self, Bool.true_and]
    by_cases hl : l.length ≤ 200
    · refine Ev.step (f := fun k => impl_GraphOk.l0 k n l (l.length : Int) 0) (fun k => ?_) ?_
      · simp only [impl_GraphOk.j0]
        rw [if_neg (by simp; omega)]
      · have hw : wrap64 (n - 1) = n - 1 := w64 (by omega) (by omega)
        have h0 : l.all (edgeIn n) = (l.drop 0).all (edgeIn n) := rfl
        rw [decide_eq_true hl, Bool.true_and, h0]
        refine all_ev l (edgeIn n) (fun k i => impl_GraphOk.l0 k n l (l.length : Int) i) (fun i h hp r hr => ?_) (fun i h hp => ?_) ?_ 0 (by omega)
        · refine Ev.step (fun k => ?_) hr
          simp only [impl_GraphOk.l0]
          rw [if_pos (by omega), if_pos (by omega), if_pos (by omega), rd_IE h, within_eq, within_eq, hw]
          simp only [edgeIn, Bool.and_eq_true] at hp
          simp only [Option.bind_some, hp.1, hp.2, if_true]
          rw [w64_succ h (by omega)]
        · refine Ev.succ (fun k => ?_)
          simp only [impl_GraphOk.l0]
          rw [if_pos (by omega), if_pos (by omega), if_pos (by omega), rd_IE h, within_eq, within_eq, hw]
          simp only [edgeIn, Bool.and_eq_false_iff] at hp
          simp only [Option.bind_some]
          rcases hp with hp | hp
          · rw [hp]; rfl
          · rw [hp]; split <;> rfl
        · refine Ev.succ (fun k => ?_)
          simp only [impl_GraphOk.l0]
          rw [if_neg (by omega)]
    · rw [decide_eq_false hl, Bool.false_and]
      refine Ev.succ (fun k => ?_)
      simp only [impl_GraphOk.j0]
      rw [if_pos (by simp; omega)]
  · simp only [decide_eq_false hn, Bool.false_and]
    refine Ev.succ (fun k => ?_)
    rw [if_neg (by simp)]
    simp only [impl_GraphOk.j0, if_true]
theorem spec_GraphOk_ev (n : Int) (l : List IE) : Ev (fun k => spec_GraphOk.f k n l) (graphOk n l) := by
  unfold spec_GraphOk.f graphOk
  refine Ev.bindc (l1In_eq _ _ _) ?_
  by_cases hn : 0 ≤ n ∧ n ≤ 16
  · simp only [hn, decide_true, if_true, and_self, Bool.true_and]
    by_cases hl : l.length ≤ 200
    · refine Ev.step (f := fun k => spec_GraphOk.l0 k n l 0) (fun k => ?_) ?_
      · simp only [spec_GraphOk.j0]
        rw [if_neg (by simp; omega)]
      · have hw : wrap64 (n - 1) = n - 1 := w64 (by omega) (by omega)
        have h0 : l.all (edgeIn n) = (l.drop 0).all (edgeIn n) := rfl
        rw [decide_eq_true hl, Bool.true_and, h0]
        refine all_ev l (edgeIn n) (fun k i => spec_GraphOk.l0 k n l i) (fun i h hp r hr => ?_) (fun i h hp => ?_) ?_ 0 (by omega)
        · refine Ev.step (fun k => ?_) hr
          simp only [spec_GraphOk.l0]
          rw [if_pos (by omega), if_pos (by omega), rd_IE h, l1In_eq, l1In_eq, hw]
          simp only [edgeIn, Bool.and_eq_true] at hp
          simp only [Option.bind_some, hp.1, hp.2, if_true]
          rw [w64_succ h (by omega)]
        · refine Ev.succ (fun k => ?_)
          simp only [spec_GraphOk.l0]
          rw [if_pos (by omega), if_pos (by omega), rd_IE h, l1In_eq, l1In_eq, hw]
          simp only [edgeIn, Bool.and_eq_false_iff] at hp
          simp only [Option.bind_some]
          rcases hp with hp | hp
          · rw [hp]; rfl
          · rw [hp]; split <;> rfl
        · refine Ev.succ (fun k => ?_)
          simp only [spec_GraphOk.l0]
          rw [if_neg (by omega)]
    · rw [decide_eq_false hl, Bool.false_and]
      refine Ev.succ (fun k => ?_)
      simp only [spec_GraphOk.j0]
      rw [if_pos (by simp; omega)]
  · simp only [decide_eq_false hn, Bool.false_and]
    refine Ev.succ (fun k => ?_)
    rw [if_neg (by simp)]
    simp only [spec_GraphOk.j0, if_true]

-- chunk moves: lists of moves are copied, and the same as themselves
abbrev LM := S107
abbrev IM := S46
def toM (x : LM) : IM := ⟨x.f0, x.f1⟩
theorem szMoveS_eq (l : List LM) (a : Int) : laws_szMoveS.f l a = some (if wrap64 (a - (l.length : Int)) < 0 then -1 else wrap64 (a - (l.length : Int))) := by
  unfold laws_szMoveS.f; split <;> rfl
theorem szMoveS_big {l : List LM} (hl : l.length ≤ maxLen) (h : 1048576 < l.length) : laws_szMoveS.f l 1048576 = some (-1) := by
  unfold maxLen at hl
  rw [szMoveS_eq, w64 (by omega) (by omega), if_pos (by omega)]
theorem rd_LM {l : List LM} {i : Nat} (h : i < l.length) : rd_T107 l (i : Int) = l[i] := by
  unfold rd_T107; rw [Int.toNat_natCast]; exact getD_lt l _ h
theorem rd_IM {l : List IM} {i : Nat} (h : i < l.length) : rd_T46 l (i : Int) = l[i] := by
  unfold rd_T46; rw [Int.toNat_natCast]; exact getD_lt l _ h
theorem toMoveS_ev {l : List LM} (hl : l.length ≤ 17592186044416) : Ev (fun k => laws_toMoveS.f k l) (l.map toM) := by
  unfold laws_toMoveS.f
  simp only [Int.natCast_nonneg, if_true, Int.toNat_natCast, if_pos hl]
  refine fill_ev l toM (fun k ys i => laws_toMoveS.l0 k l ys i) (fun i h ys hy r hr => ?_) (fun ys => ?_) _ (by simp)
  · refine Ev.step (fun k => ?_) hr
    show laws_toMoveS.l0 (k + 1) l ys i = _
    simp only [laws_toMoveS.l0]
    rw [if_pos (by omega), if_pos (by omega), rd_LM h]
    unfold laws_toMove.f
    simp only [Option.bind_some]
    rw [if_pos (by omega), w64_succ h (by omega), Int.toNat_natCast]
    rfl
  · refine Ev.succ (fun k => ?_)
    simp only [laws_toMoveS.l0]
    rw [if_neg (by omega)]
theorem eqMoveS_refl {l : List IM} (hl : l.length ≤ 17592186044416) : Ev (fun k => laws_eqMoveS.f k l l) true := by
  unfold laws_eqMoveS.f
  simp only [if_true]
  refine down_ev (fun k i => laws_eqMoveS.l0 k l l i) l.length true (fun i h hr => ?_) ?_ 0 (by omega)
  · refine Ev.step (fun k => ?_) hr
    simp only [laws_eqMoveS.l0]
    rw [if_pos (by omega), if_pos (by omega), if_pos (by omega)]
    unfold laws_eqMove.f
    simp only [if_true, Option.bind_some]
    rw [w64_succ h (by omega)]
  · refine Ev.succ (fun k => ?_)
    simp only [laws_eqMoveS.l0]
    rw [if_neg (by omega)]
/-- Lists of moves that are written: only how many, and that it goes. -/
theorem markMoveS_ev {l : List IM} (a : Int) (hl : l.length ≤ 17592186044416) (h0 : 0 ≤ a) (h1 : a ≤ 17592186044416) : ∃ ys, Ev (fun k => laws_markMoveS.f k l a) (a + 2 * l.length, ys) := by
  unfold laws_markMoveS.f
  have key : ∀ (d i : Nat) (ys : List IM), ys.length = l.length → i + d = l.length →
      ∃ zs, Ev (fun k => laws_markMoveS.l0 k ys (a + 2 * i) (i : Int)) (a + 2 * l.length, zs) := by
    intro d
    induction d with
    | zero =>
      intro i ys hy hi
      obtain rfl : i = l.length := by omega
      refine ⟨ys, Ev.succ (fun k => ?_)⟩
      simp only [laws_markMoveS.l0]
      rw [if_neg (by omega)]
    | succ d ih =>
      intro i ys hy hi
      obtain ⟨zs, h⟩ := ih (i + 1) ((ys.set i ⟨a + 2 * i, (rd_T46 ys i).f1⟩).set i ⟨(rd_T46 (ys.set i ⟨a + 2 * i, (rd_T46 ys i).f1⟩) i).f0, a + 2 * i + 1⟩) (by simpa using hy) (by omega)
      refine ⟨zs, Ev.step (fun k => ?_) h⟩
      simp only [laws_markMoveS.l0]
      rw [if_pos (by omega), if_pos (by omega), w64_succ (n := l.length) (by omega) (by omega), Int.toNat_natCast]
      simp only [Option.bind_some]
      rw [w64 (x := a + 2 * (i : Int) + 1) (by omega) (by omega), w64 (x := a + 2 * (i : Int) + 1 + 1) (by omega) (by omega)]
      rw [show a + 2 * (i : Int) + 1 + 1 = a + 2 * ((i + 1 : Nat) : Int) by omega]
  have h := key l.length 0 l rfl (by omega)
  simpa using h

-- chunk pool: what tasks may do, and what becomes of them, of the program and of the reference
def poolOk (n : Int) (l : List IE) (wk : Int) : Bool := graphOk n l && decide (1 ≤ wk ∧ wk ≤ 8)
theorem impl_isPool_ev (n : Int) (l : List IE) (wk : Int) : Ev (fun k => impl_isPool.f k n l wk) (poolOk n l wk) := by
  unfold impl_isPool.f poolOk
  refine Ev.bind (impl_GraphOk_ev n l) ?_
  cases graphOk n l with
  | true =>
    rw [Bool.true_and]
    exact Ev.of_eq fun k => by rw [if_pos rfl, within_eq]; rfl
  | false => exact Ev.of_eq fun k => by rw [if_neg (by simp)]; rfl
theorem graphOk_spec {n : Int} {l : List IE} (h : graphOk n l = true) : 0 ≤ n ∧ n ≤ 16 ∧ l.length ≤ 200 ∧ ∀ e ∈ l, (0 ≤ e.f0 ∧ e.f0 < n) ∧ 0 ≤ e.f1 ∧ e.f1 < n := by
  unfold graphOk at h
  rw [Bool.and_eq_true, Bool.and_eq_true] at h
  obtain ⟨⟨h1, h2⟩, h3⟩ := h
  refine ⟨(of_decide_eq_true h1).1, (of_decide_eq_true h1).2, of_decide_eq_true h2, fun e he => ?_⟩
  have h4 := List.all_eq_true.1 h3 e he
  unfold edgeIn at h4
  rw [Bool.and_eq_true] at h4
  have h5 := of_decide_eq_true h4.1
  have h6 := of_decide_eq_true h4.2
  omega
theorem fitB_of {n : Int} {l : List IE} (h : graphOk n l = true) : fitB n l = true := by
  obtain ⟨h1, h2, _, h3⟩ := graphOk_spec h
  unfold fitB
  rw [Bool.and_eq_true, Bool.and_eq_true]
  refine ⟨⟨decide_eq_true h1, decide_eq_true h2⟩, List.all_eq_true.2 fun e he => ?_⟩
  rw [Bool.and_eq_true]
  exact ⟨decide_eq_true (h3 e he).1.1, decide_eq_true (h3 e he).1.2⟩
def fitL (l : List IE) (is : List Int) : Prop := ∀ e ∈ l, 0 ≤ e.f0 ∧ e.f0 < (is.length : Int)
theorem spec_l18Ready_ev {l : List IE} {is : List Int} (hl : l.length ≤ 200) (hf : fitL l is) (t : Nat) (ht : t < is.length) : Ev (fun k => spec_l18Ready.f k l is (t : Int)) (rdyB l is (t : Int)) := by
  unfold spec_l18Ready.f rdyB
  refine Ev.congr (fun k => by rw [if_pos (by omega), if_pos (by omega)]) ?_
  by_cases c : rd is (t : Int) = 0
  · refine Ev.congr (fun k => if_pos c) ?_
    rw [decide_eq_true c, Bool.true_and]
    have h0 : (!(l.any (rdyP is (t : Int)))) = (l.drop 0).all (fun e => !(rdyP is (t : Int) e)) := by rw [List.drop_zero, List.not_any_eq_all_not]
    rw [h0]
    refine all_ev l (fun e => !(rdyP is (t : Int) e)) (fun k i => spec_l18Ready.l0 k l is (t : Int) i) (fun i h hp r hr => ?_) (fun i h hp => ?_) ?_ 0 (by omega)
    · refine Ev.step (fun k => ?_) hr
      simp only [spec_l18Ready.l0]
      have hm := hf l[i] (List.getElem_mem h)
      rw [if_pos (by omega), if_pos (by omega), rd_IE h, w64_nat i (by omega)]
      by_cases c1 : l[i].f1 = (t : Int)
      · rw [if_pos c1, if_pos hm.1, if_pos hm.2]
        by_cases c2 : rd is l[i].f0 = 2
        · rw [if_pos c2]
        · rw [show rdyP is (t : Int) l[i] = true from decide_eq_true ⟨c1, c2⟩] at hp
          cases hp
      · rw [if_neg c1]
    · refine Ev.succ (fun k => ?_)
      have hm := hf l[i] (List.getElem_mem h)
      simp only [spec_l18Ready.l0]
      rw [if_pos (by omega), if_pos (by omega), rd_IE h]
      have hp2 : rdyP is (t : Int) l[i] = true := by
        cases hq : rdyP is (t : Int) l[i] with
        | true => rfl
        | false => rw [hq] at hp; cases hp
      have h3 := of_decide_eq_true (show decide (l[i].f1 = (t : Int) ∧ rd is l[i].f0 ≠ 2) = true from hp2)
      rw [if_pos h3.1, if_pos hm.1, if_pos hm.2, if_neg h3.2]
    · refine Ev.succ (fun k => ?_)
      simp only [spec_l18Ready.l0]
      rw [if_neg (by omega)]
  · refine Ev.congr (fun k => if_neg c) ?_
    rw [decide_eq_false c, Bool.false_and]
    exact Ev.now _
theorem spec_l18Moves_ev {l : List IE} {is : List Int} (wk : Int) (hl : l.length ≤ 200) (hn : is.length ≤ 16) (hf : fitL l is) : Ev (fun k => spec_l18Moves.f k l wk is) (movesL l wk is) := by
  unfold spec_l18Moves.f
  have k1 : ∀ (d i : Nat), i + d = is.length → Ev (fun k => spec_l18Moves.l1 k l is (endsTo is is.length ++ begsTo l is i) (i : Int)) (endsTo is is.length ++ begsTo l is is.length) := by
    intro d
    induction d with
    | zero =>
      intro i hi
      obtain rfl : i = is.length := by omega
      refine Ev.succ (fun k => ?_)
      simp only [spec_l18Moves.l1]
      rw [if_neg (by omega)]
    | succ d ih =>
      intro i hi
      have hlen1 := endsTo_len is is.length
      have hlen2 := begsTo_len l is i
      have h := ih (i + 1) (by omega)
      rw [begsTo_succ] at h
      have hr := spec_l18Ready_ev hl hf i (by omega)
      refine Ev.step (f := fun k => (spec_l18Ready.f k l is (i : Int)).bind fun t => if t = true then (if (endsTo is is.length ++ begsTo l is i).length < 8796093022208 then spec_l18Moves.l1 k l is ((endsTo is is.length ++ begsTo l is i) ++ [⟨2, (i : Int)⟩]) ((i + 1 : Nat) : Int) else none) else spec_l18Moves.l1 k l is (endsTo is is.length ++ begsTo l is i) ((i + 1 : Nat) : Int)) (fun k => ?_) (Ev.bind hr ?_)
      · simp only [spec_l18Moves.l1]
        rw [if_pos (by omega), w64_nat i (by omega)]
      · cases hq : rdyB l is (i : Int) with
        | true =>
          rw [hq, if_pos rfl, ← List.append_assoc] at h
          exact Ev.congr (fun k => if_pos rfl) (Ev.congr (fun k => if_pos (by rw [List.length_append]; omega)) h)
        | false =>
          rw [hq, if_neg (by simp)] at h
          exact Ev.congr (fun k => if_neg (by simp)) h
  have k0 : ∀ (d i : Nat), i + d = is.length → Ev (fun k => spec_l18Moves.l0 k l wk is (endsTo is i) (i : Int)) (movesL l wk is) := by
    intro d
    induction d with
    | zero =>
      intro i hi
      obtain rfl : i = is.length := by omega
      unfold movesL
      by_cases c : wk ≤ ((endsTo is is.length).length : Int)
      · rw [if_pos c]
        refine Ev.succ (fun k => ?_)
        simp only [spec_l18Moves.l0]
        rw [if_neg (by omega), if_neg (by omega)]
      · rw [if_neg c]
        have h := k1 is.length 0 (by omega)
        rw [show begsTo l is 0 = [] from rfl, List.append_nil] at h
        refine Ev.step (fun k => ?_) h
        simp only [spec_l18Moves.l0]
        rw [if_neg (by omega), if_pos (by omega)]
        rfl
    | succ d ih =>
      intro i hi
      have hlen1 := endsTo_len is i
      have h := ih (i + 1) (by omega)
      rw [endsTo_succ] at h
      by_cases c : rd is (i : Int) = 1
      · rw [if_pos c] at h
        refine Ev.step (fun k => ?_) h
        simp only [spec_l18Moves.l0]
        rw [if_pos (by omega), if_pos (by omega), if_pos c, if_pos (by omega), w64_nat i (by omega)]
      · rw [if_neg c] at h
        refine Ev.step (fun k => ?_) h
        simp only [spec_l18Moves.l0]
        rw [if_pos (by omega), if_pos (by omega), if_neg c, w64_nat i (by omega)]
  exact k0 is.length 0 (by omega)
theorem spec_l18Do_eq {l : List IE} {wk : Int} {is : List Int} (hn : is.length ≤ 16) {e : IM} (h : e ∈ movesL l wk is) : spec_l18Do.f is e.f0 e.f1 = some (doL is e.f1) := by
  obtain ⟨t, ht, h1, h2⟩ := movesL_mem h
  unfold spec_l18Do.f
  simp only [Option.bind_some, List.length_nil, List.nil_append]
  rw [if_pos (by omega), h1]
  rw [if_pos (by omega), if_pos (by omega)]
  unfold doL
  rcases h2 with ⟨h3, h4⟩ | ⟨h3, _, h4⟩
  · rw [if_neg (by omega), h4]
    rfl
  · rw [if_pos h3, h4, List.set_set]
    rfl
theorem doL_mem {is : List Int} {x : Int} {v : Int} (h : v ∈ doL is x) : v ∈ is ∨ v = rd is x + 1 := by
  unfold doL at h
  rcases List.mem_or_eq_of_mem_set h with h | h
  · exact .inl h
  · exact .inr h
theorem eqM_comm (e m : IM) : (e.f0 == m.f0 && (e.f1 == m.f1)) = (m.f0 == e.f0 && m.f1 == e.f1) := by
  rw [Bool.eq_iff_iff]
  simp only [Bool.and_eq_true, beq_iff_eq]
  exact ⟨fun h => ⟨h.1.symm, h.2.symm⟩, fun h => ⟨h.1.symm, h.2.symm⟩⟩
def poolMovesL (n : Int) (l : List IE) (wk : Int) (done : List IM) : List IM × Bool := if poolOk n l wk = true then (match goP l wk done (List.replicate n.toNat 0) with
  | some is => (movesL l wk is, true)
  | none => ([], false)) else ([], false)
theorem impl_PoolMoves_ev (n : Int) (l : List IE) (wk : Int) (done : List IM) : Ev (fun k => impl_PoolMoves.f k n l wk done) (poolMovesL n l wk done) := by
  unfold impl_PoolMoves.f poolMovesL
  refine Ev.bind (impl_isPool_ev n l wk) ?_
  cases hp : poolOk n l wk with
  | true =>
    have hg : graphOk n l = true := by
      unfold poolOk at hp
      rw [Bool.and_eq_true] at hp
      exact hp.1
    rw [if_pos rfl, if_pos rfl]
    refine Ev.congr (fun k => if_pos (fitB_of hg)) ?_
    cases goP l wk done (List.replicate n.toNat 0) with
    | some is => exact Ev.now _
    | none => exact Ev.now _
  | false =>
    rw [if_neg (by simp), if_neg (by simp)]
    exact Ev.now _
def goR (l : List IE) (wk : Int) (o : Option (List Int)) : List IM × Bool := match o with
  | some is => (movesL l wk is, true)
  | none => ([], false)
theorem fitL_len {l : List IE} {is is' : List Int} (h : fitL l is) (e : is'.length = is.length) : fitL l is' := fun x hx => by rw [e]; exact h x hx
theorem spec_PoolMoves_ev (n : Int) (l : List IE) (wk : Int) (done : List IM) (hd : done.length ≤ 1000000000) : Ev (fun k => spec_PoolMoves.f k n l wk done) (poolMovesL n l wk done) := by
  unfold spec_PoolMoves.f poolMovesL
  refine Ev.bind (spec_GraphOk_ev n l) ?_
  unfold poolOk
  cases hg : graphOk n l with
  | false =>
    rw [Bool.false_and, if_neg (by simp)]
    exact Ev.congr (fun k => if_neg (by simp)) (Ev.succ fun k => by simp only [spec_PoolMoves.j0, if_true])
  | true =>
    refine Ev.congr (fun k => if_pos rfl) ?_
    rw [Bool.true_and]
    refine Ev.bindc (l1In_eq _ _ _) ?_
    by_cases hw : 1 ≤ wk ∧ wk ≤ 8
    · rw [decide_eq_true hw, if_pos rfl]
      obtain ⟨n0, n1, hl, hf⟩ := graphOk_spec hg
      obtain ⟨N, rfl⟩ : ∃ N : Nat, n = (N : Int) := ⟨n.toNat, by omega⟩
      rw [Int.toNat_natCast]
      have hf0 : fitL l (List.replicate N 0) := fun e he => by rw [List.length_replicate]; exact (hf e he).1
      have key : ∀ (d i : Nat) (is : List Int), i + d = done.length → is.length = N → Ev (fun k => spec_PoolMoves.l0 k l wk done is (i : Int)) (goR l wk (goP l wk (done.drop i) is)) := by
        intro d
        induction d with
        | zero =>
          intro i is hi hn
          rw [List.drop_of_length_le (by omega)]
          have h := spec_l18Moves_ev (l := l) (is := is) wk hl (by omega) (fitL_len hf0 (by simpa using hn))
          refine Ev.step (f := fun k => (spec_l18Moves.f k l wk is).bind fun t => some (t, true)) (fun k => ?_) (Ev.bind h (Ev.now _))
          simp only [spec_PoolMoves.l0]
          rw [if_neg (by omega)]
        | succ d ih =>
          intro i is hi hn
          have hlt : i < done.length := by omega
          have hfi := fitL_len (is' := is) hf0 (by simpa using hn)
          have h := spec_l18Moves_ev (l := l) (is := is) wk hl (by omega) hfi
          have hml := movesL_len l wk is
          rw [List.drop_eq_getElem_cons hlt]
          have hdo : ∀ e ∈ movesL l wk is, spec_l18Do.f is e.f0 e.f1 = some (doL is e.f1) := fun e he => spec_l18Do_eq (by omega) he
          have hgo : goP l wk (done[i] :: done.drop (i + 1)) is = if hasM (movesL l wk is) done[i] = true then goP l wk (done.drop (i + 1)) (doL is done[i].f1) else none := rfl
          rw [hgo]
          have hih := ih (i + 1) (doL is done[i].f1) (by omega) (by rw [doL_len]; exact hn)
          generalize movesL l wk is = ml at h hml hdo
          refine Ev.step (f := fun k => (spec_l18Moves.f k l wk is).bind fun t => spec_PoolMoves.l1 k l wk done is (i : Int) t false 0) (fun k => ?_) (Ev.bind h ?_)
          · simp only [spec_PoolMoves.l0]
            rw [if_pos (by omega)]
          · have inner : ∀ (d j : Nat) (b : Bool), j + d = ml.length → Ev (fun k => spec_PoolMoves.l1 k l wk done is (i : Int) ml b (j : Int)) (goR l wk (if (b || (ml.drop j).any fun e => done[i].f0 == e.f0 && done[i].f1 == e.f1) = true then goP l wk (done.drop (i + 1)) (doL is done[i].f1) else none)) ∨ (b = true ∧ ∀ e ∈ ml, ¬(done[i].f0 = e.f0 ∧ done[i].f1 = e.f1)) := by
              intro d
              induction d with
              | zero =>
                intro j b hj
                rw [List.drop_of_length_le (by omega)]
                cases b with
                | false =>
                  left
                  refine Ev.succ (fun k => ?_)
                  simp only [spec_PoolMoves.l1]
                  rw [if_neg (by omega), if_neg (by simp)]
                  rfl
                | true =>
                  by_cases hex : ∃ e ∈ ml, done[i].f0 = e.f0 ∧ done[i].f1 = e.f1
                  · left
                    obtain ⟨e, he, h1, h2⟩ := hex
                    have hd2 := hdo e he
                    rw [← h1, ← h2] at hd2
                    refine Ev.step (fun k => ?_) hih
                    simp only [spec_PoolMoves.l1]
                    rw [if_neg (by omega), if_pos trivial, if_pos (by omega), if_pos (by omega), rd_IM hlt, hd2, Option.bind_some, w64_nat i (by omega)]
                  · right
                    exact ⟨rfl, fun e he h => hex ⟨e, he, h⟩⟩
              | succ d ih2 =>
                intro j b hj
                have hjl : j < ml.length := by omega
                rw [List.drop_eq_getElem_cons hjl, List.any_cons]
                cases b with
                | true =>
                  rcases ih2 (j + 1) true (by omega) with h | h
                  · left
                    rw [Bool.true_or] at h ⊢
                    refine Ev.step (fun k => ?_) h
                    simp only [spec_PoolMoves.l1]
                    rw [if_pos (by omega), if_pos trivial, w64_nat j (by omega)]
                  · exact .inr h
                | false =>
                  rw [Bool.false_or]
                  have hs : ∀ k, spec_PoolMoves.l1 (k + 1) l wk done is (i : Int) ml false (j : Int) = spec_PoolMoves.l1 k l wk done is (i : Int) ml (done[i].f0 == ml[j].f0 && done[i].f1 == ml[j].f1) ((j + 1 : Nat) : Int) := fun k => by
                    simp only [spec_PoolMoves.l1]
                    rw [if_pos (by omega), if_neg (by simp), if_pos (by omega), if_pos (by omega), if_pos (by omega), rd_IM hlt, rd_IM hjl, w64_nat j (by omega), eqM_comm]
                  rcases ih2 (j + 1) (done[i].f0 == ml[j].f0 && done[i].f1 == ml[j].f1) (by omega) with h | ⟨h1, h2⟩
                  · exact .inl (Ev.step hs h)
                  · rw [Bool.and_eq_true, beq_iff_eq, beq_iff_eq] at h1
                    exact absurd h1 (h2 ml[j] (List.getElem_mem hjl))
            rcases inner ml.length 0 false (by omega) with h | ⟨h, _⟩
            · exact h
            · cases h
      refine Ev.step (f := fun k => spec_PoolMoves.l0 k l wk done (List.replicate N 0) 0) (fun k => ?_) (key done.length 0 (List.replicate N 0) (by omega) List.length_replicate)
      simp only [spec_PoolMoves.j0]
      rw [if_neg (by simp), if_pos (by omega), if_pos (by omega), Int.toNat_natCast]
    · rw [decide_eq_false hw, if_neg (by simp)]
      exact Ev.succ fun k => by simp only [spec_PoolMoves.j0, Bool.not_false, if_true]

-- chunk movemarks: lists of moves that are written, each number once, and read again
def markedM (a : Int) (n : Nat) : List IM := (List.range n).map fun i : Nat => (⟨a + 2 * (i : Int), a + 2 * (i : Int) + 1⟩ : IM)
theorem markMoveS_is {l : List IM} (a : Int) (hl : l.length ≤ 17592186044416) (h0 : 0 ≤ a) (h1 : a ≤ 17592186044416) : Ev (fun k => laws_markMoveS.f k l a) (a + 2 * l.length, markedM a l.length) := by
  unfold laws_markMoveS.f
  have key : ∀ (d i : Nat) (ys : List IM), ys.length = l.length → i + d = l.length → (∀ j (hj : j < i), ys[j]? = some (⟨a + 2 * (j : Int), a + 2 * (j : Int) + 1⟩ : IM)) →
      Ev (fun k => laws_markMoveS.l0 k ys (a + 2 * i) (i : Int)) (a + 2 * l.length, markedM a l.length) := by
    intro d
    induction d with
    | zero =>
      intro i ys hy hi hj
      obtain rfl : i = l.length := by omega
      refine Ev.succ (fun k => ?_)
      simp only [laws_markMoveS.l0]
      rw [if_neg (by omega)]
      have : markedM a l.length = ys := by
        apply List.ext_getElem?
        intro j
        by_cases hjj : j < l.length
        · rw [hj j hjj]; unfold markedM; rw [List.getElem?_map, List.getElem?_range hjj]; rfl
        · rw [List.getElem?_eq_none (by simpa [markedM] using hjj), List.getElem?_eq_none (by omega)]
      rw [this]
    | succ d ih =>
      intro i ys hy hi hj
      have h := ih (i + 1) ((ys.set i ⟨a + 2 * i, (rd_T46 ys i).f1⟩).set i ⟨(rd_T46 (ys.set i ⟨a + 2 * i, (rd_T46 ys i).f1⟩) i).f0, a + 2 * i + 1⟩) (by simpa using hy) (by omega) (fun j hj1 => by
        by_cases e : j = i
        · subst e
          rw [List.getElem?_set_self (by simp; omega), rd_IM (by simp; omega)]
          simp
        · rw [List.getElem?_set_ne (by omega), List.getElem?_set_ne (by omega)]
          exact hj j (by omega))
      refine Ev.step (fun k => ?_) h
      simp only [laws_markMoveS.l0]
      rw [if_pos (by omega), if_pos (by omega), w64_succ (n := l.length) (by omega) (by omega), Int.toNat_natCast]
      simp only [Option.bind_some]
      rw [w64 (x := a + 2 * (i : Int) + 1) (by omega) (by omega), w64 (x := a + 2 * (i : Int) + 1 + 1) (by omega) (by omega)]
      rw [show a + 2 * (i : Int) + 1 + 1 = a + 2 * ((i + 1 : Nat) : Int) by omega]
  have h := key l.length 0 l rfl (by omega) (fun j hj => by omega)
  simpa using h
theorem heldMoveS_ev {n : Nat} (a : Int) (hn : n ≤ 17592186044416) (h0 : 0 ≤ a) (h1 : a ≤ 17592186044416) : Ev (fun k => laws_heldMoveS.f k (markedM a n) a) (a + 2 * n) := by
  unfold laws_heldMoveS.f
  have hlen : (markedM a n).length = n := by simp [markedM]
  have key : ∀ (d i : Nat), i + d = n → Ev (fun k => laws_heldMoveS.l0 k (markedM a n) (a + 2 * i) (i : Int)) (a + 2 * n) := by
    intro d
    induction d with
    | zero =>
      intro i hi
      obtain rfl : i = n := by omega
      refine Ev.succ (fun k => ?_)
      simp only [laws_heldMoveS.l0]
      rw [hlen, if_neg (by omega)]
    | succ d ih =>
      intro i hi
      refine Ev.step (fun k => ?_) (ih (i + 1) (by omega))
      simp only [laws_heldMoveS.l0]
      have e : rd_T46 (markedM a n) (i : Int) = (⟨a + 2 * (i : Int), a + 2 * (i : Int) + 1⟩ : IM) := by
        rw [rd_IM (by rw [hlen]; omega)]
        simp [markedM]
      rw [hlen, if_pos (by omega), if_pos (by omega), e, w64_nat i (by omega), w64 (x := a + 2 * (i : Int) + 1) (by omega) (by omega), w64 (x := a + 2 * (i : Int) + 1 + 1) (by omega) (by omega), if_pos rfl, if_pos rfl]
      rw [show a + 2 * (i : Int) + 1 + 1 = a + 2 * ((i + 1 : Nat) : Int) by omega]
  have h := key n 0 (by omega)
  simpa using h

-- chunk ints: lists of numbers are copied, and the same as themselves
/-- Lists of edges that are written: only how many, and that it goes. -/
theorem markEdgeS_ev {l : List IE} (a : Int) (hl : l.length ≤ 17592186044416) (h0 : 0 ≤ a) (h1 : a ≤ 17592186044416) : ∃ ys, Ev (fun k => laws_markEdgeS.f k l a) (a + 2 * l.length, ys) := by
  unfold laws_markEdgeS.f
  have key : ∀ (d i : Nat) (ys : List IE), ys.length = l.length → i + d = l.length →
      ∃ zs, Ev (fun k => laws_markEdgeS.l0 k ys (a + 2 * i) (i : Int)) (a + 2 * l.length, zs) := by
    intro d
    induction d with
    | zero =>
      intro i ys hy hi
      obtain rfl : i = l.length := by omega
      refine ⟨ys, Ev.succ (fun k => ?_)⟩
      simp only [laws_markEdgeS.l0]
      rw [if_neg (by omega)]
    | succ d ih =>
      intro i ys hy hi
      obtain ⟨zs, h⟩ := ih (i + 1) ((ys.set i ⟨a + 2 * i, (rd_T96 ys i).f1⟩).set i ⟨(rd_T96 (ys.set i ⟨a + 2 * i, (rd_T96 ys i).f1⟩) i).f0, a + 2 * i + 1⟩) (by simpa using hy) (by omega)
      refine ⟨zs, Ev.step (fun k => ?_) h⟩
      simp only [laws_markEdgeS.l0]
      rw [if_pos (by omega), if_pos (by omega), w64_succ (n := l.length) (by omega) (by omega), Int.toNat_natCast]
      simp only [Option.bind_some]
      rw [w64 (x := a + 2 * (i : Int) + 1) (by omega) (by omega), w64 (x := a + 2 * (i : Int) + 1 + 1) (by omega) (by omega)]
      rw [show a + 2 * (i : Int) + 1 + 1 = a + 2 * ((i + 1 : Nat) : Int) by omega]
  have h := key l.length 0 l rfl (by omega)
  simpa using h

theorem poolMovesL_len (n : Int) (l : List IE) (wk : Int) (done : List IM) : (poolMovesL n l wk done).1.length ≤ 1000000 := by
  unfold poolMovesL
  split
  · rename_i hp
    have hg : graphOk n l = true := by
      unfold poolOk at hp
      rw [Bool.and_eq_true] at hp
      exact hp.1
    obtain ⟨n0, n1, hl, hf⟩ := graphOk_spec hg
    have hlen : ∀ (d : List IM) (is is' : List Int), goP l wk d is = some is' → is'.length = is.length := by
      intro d
      induction d with
      | nil => intro is is' h; injection h with h; rw [h]
      | cons m d ih =>
        intro is is' h
        have h2 : (if hasM (movesL l wk is) m = true then goP l wk d (doL is m.f1) else none) = some is' := h
        split at h2
        · rw [ih _ _ h2, doL_len]
        · cases h2
    split
    · rename_i is hgo
      have h1 := movesL_len l wk is
      have h2 := hlen _ _ _ hgo
      rw [List.length_replicate] at h2
      simp only
      omega
    · simp
  · simp
theorem szEdgeS_cases {l : List LE} (hl : l.length ≤ maxLen) {a : Int} (h0 : 0 ≤ a) (h1 : a ≤ 1048576) : laws_szEdgeS.f l a = some (-1) ∨ (laws_szEdgeS.f l a = some (a - (l.length : Int)) ∧ 0 ≤ a - (l.length : Int)) := by
  unfold maxLen at hl
  rw [szEdgeS_eq, w64 (by omega) (by omega)]
  by_cases c : a - (l.length : Int) < 0
  · left; rw [if_pos c]
  · right; rw [if_neg c]; exact ⟨rfl, by omega⟩
theorem szMoveS_cases {l : List LM} (hl : l.length ≤ maxLen) {a : Int} (h0 : 0 ≤ a) (h1 : a ≤ 1048576) : laws_szMoveS.f l a = some (-1) ∨ (laws_szMoveS.f l a = some (a - (l.length : Int)) ∧ 0 ≤ a - (l.length : Int)) := by
  unfold maxLen at hl
  rw [szMoveS_eq, w64 (by omega) (by omega)]
  by_cases c : a - (l.length : Int) < 0
  · left; rw [if_pos c]
  · right; rw [if_neg c]; exact ⟨rfl, by omega⟩
theorem proof : Pure := by
  intro n l wk done _ hl _ hd
  refine Ev.rounds ?_
  unfold laws_FnExactPoolMoves.f
  rcases szEdgeS_cases hl.1 (a := 1048576) (by omega) (by omega) with e | ⟨e, e1⟩
  · exact Ev.bindc e (Ev.of_eq fun k => by simp)
  refine Ev.bindc e (Ev.congr (fun k => if_neg (by omega)) ?_)
  rcases szMoveS_cases hd.1 (a := 1048576 - (l.length : Int)) (by omega) (by omega) with e2 | ⟨e2, e3⟩
  · exact Ev.bindc e2 (Ev.of_eq fun k => by simp)
  refine Ev.bindc e2 (Ev.congr (fun k => if_neg (by omega)) ?_)
  have te := toEdgeS_ev (l := l) (by omega)
  have tm := toMoveS_ev (l := done) (by omega)
  have le : (l.map toE).length ≤ 1048576 := by rw [List.length_map]; omega
  have lm : (done.map toM).length ≤ 1048576 := by rw [List.length_map]; omega
  have hi := impl_PoolMoves_ev n (l.map toE) wk (done.map toM)
  have hs := spec_PoolMoves_ev n (l.map toE) wk (done.map toM) (by omega)
  have hc := poolMovesL_len n (l.map toE) wk (done.map toM)
  generalize poolMovesL n (l.map toE) wk (done.map toM) = r at hi hs hc
  have hr : Ev (fun k => laws_eqMoveS.f k r.1 r.1) true := eqMoveS_refl (by omega)
  have hb : (r.2 != r.2) = false := by simp
  obtain ⟨ye, hme⟩ := markEdgeS_ev (l := l.map toE) 1 (by omega) (by omega) (by omega)
  obtain ⟨ym, hmm⟩ := markMoveS_ev (l := done.map toM) (1 + 2 * (l.map toE).length) (by omega) (by omega) (by omega)
  have hh := heldMoveS_ev (n := r.1.length) 1 (by omega) (by omega) (by omega)
  refine Ev.bind te (Ev.bind tm (Ev.bind hs (Ev.bind te (Ev.bind tm (Ev.bind hi (Ev.bind hr ?_))))))
  refine Ev.congr (fun k => if_pos rfl) (Ev.congr (fun k => if_neg (by rw [hb]; simp)) ?_)
  refine Ev.bind te (Ev.bind (eqEdgeS_refl (by omega)) (Ev.congr (fun k => if_pos rfl) ?_))
  refine Ev.bind tm (Ev.bind (eqMoveS_refl (by omega)) (Ev.congr (fun k => if_pos rfl) ?_))
  refine Ev.bind hme (Ev.bind hmm (Ev.congr (fun k => if_neg (by omega)) ?_))
  refine Ev.bind hr (Ev.congr (fun k => if_pos rfl) ?_)
  refine Ev.bind (markMoveS_is 1 (by omega) (by omega) (by omega)) ?_
  refine Ev.bind hh (Ev.congr (fun k => if_neg (by omega)) (Ev.congr (fun k => if_pos rfl) ?_))
  refine Ev.bind te (Ev.bind tm (Ev.bind hi (Ev.bind hr (Ev.congr (fun k => if_pos rfl) (Ev.congr (fun k => if_neg (by rw [hb]; simp)) ?_)))))
  exact Ev.bind hh (Ev.of_eq fun k => by rw [if_neg (by omega), if_pos rfl])


end Go.Proofs.Ytnecbgeljanhiaa.fnExactPoolMoves
