/- The law FnMoves holds of the program's own functions, told over lists and numbers: for every argument it returns true. Conditions: none beyond the given row's own. -/
import Derived.Test.YtnecbgeljanhiaaSaysFnMoves
import Derived.Test.YtnecbgeljanhiaaKit
namespace Go.Proofs.Ytnecbgeljanhiaa.fnMoves
open Go.RowKit Go.Proofs.Ytnecbgeljanhiaa.PFnMoves Go.Proofs.YtnecbgeljanhiaaW.PrintWords Go.Proofs.YtnecbgeljanhiaaW.PrintLast Go.Proofs.Ytnecbgeljanhiaa.Own
set_option linter.unusedVariables false
set_option linter.unusedSimpArgs false
-- chunk edges: lists of edges are copied, and the same as themselves
abbrev IE := S96
theorem rd_IE {l : List IE} {i : Nat} (h : i < l.length) : rd_T96 l (i : Int) = l[i] := by
  unfold rd_T96; rw [Int.toNat_natCast]; exact getD_lt l _ h
def edgeIn (n : Int) (e : IE) : Bool := decide (0 ≤ e.f0 ∧ e.f0 ≤ n - 1) && decide (0 ≤ e.f1 ∧ e.f1 ≤ n - 1)
def graphOk (n : Int) (l : List IE) : Bool := decide (0 ≤ n ∧ n ≤ 16) && decide (l.length ≤ 200) && l.all (edgeIn n)
theorem within_eq (a b c : Int) : impl_within.f a b c = some (decide (b ≤ a ∧ a ≤ c)) := by
  unfold impl_within.f
  split <;> simp [*]
theorem l1In_eq (a b c : Int) : spec_l1In.f a b c = some (decide (b ≤ a ∧ a ≤ c)) := by
  unfold spec_l1In.f
  split <;> simp [*]
theorem impl_GraphOk_ev (n : Int) (l : List IE) : Ev (fun k => impl_GraphOk.f k n l) (graphOk n l) := by
  unfold impl_GraphOk.f graphOk
  refine Ev.bindc (within_eq _ _ _) ?_
  by_cases hn : 0 ≤ n ∧ n ≤ 16
  · simp only [hn, decide_true, if_true, and_self, Bool.true_and]
    by_cases hl : l.length ≤ 200
    · refine Ev.step (f := fun k => impl_GraphOk.l0 k n l (l.length : Int) 0) (fun k => ?_) ?_
      · simp only [impl_GraphOk.j0]
        rw [if_neg (by simp; omega)]
      · have hw : wrap64 (n - 1) = n - 1 := w64 (by omega) (by omega)
        have h0 : l.all (edgeIn n) = (l.drop 0).all (edgeIn n) := rfl
        rw [decide_eq_true hl, Bool.true_and, h0]
        refine all_ev l (edgeIn n) (fun k i => impl_GraphOk.l0 k n l (l.length : Int) i) (fun i h hp r hr => ?_) (fun i h hp => ?_) ?_ 0 (by omega)
        · refine Ev.step (fun k => ?_) hr
          simp only [impl_GraphOk.l0]
          rw [if_pos (by omega), if_pos (by omega), if_pos (by omega), rd_IE h, within_eq, within_eq, hw]
          simp only [edgeIn, Bool.and_eq_true] at hp
          simp only [Option.bind_some, hp.1, hp.2, if_true]
          rw [w64_succ h (by omega)]
        · refine Ev.succ (fun k => ?_)
          simp only [impl_GraphOk.l0]
          rw [if_pos (by omega), if_pos (by omega), if_pos (by omega), rd_IE h, within_eq, within_eq, hw]
          simp only [edgeIn, Bool.and_eq_false_iff] at hp
          simp only [Option.bind_some]
          rcases hp with hp | hp
          · rw [hp]; rfl
          · rw [hp]; split <;> rfl
        · refine Ev.succ (fun k => ?_)
          simp only [impl_GraphOk.l0]
          rw [if_neg (by omega)]
    · rw [decide_eq_false hl, Bool.false_and]
      refine Ev.succ (fun k => ?_)
      simp only [impl_GraphOk.j0]
      rw [if_pos (by simp; omega)]
  · simp only [decide_eq_false hn, Bool.false_and]
    refine Ev.succ (fun k => ?_)
    rw [if_neg (by simp)]
    simp only [impl_GraphOk.j0, if_true]
theorem spec_GraphOk_ev (n : Int) (l : List IE) : Ev (fun k => spec_GraphOk.f k n l) (graphOk n l) := by
  unfold spec_GraphOk.f graphOk
  refine Ev.bindc (l1In_eq _ _ _) ?_
  by_cases hn : 0 ≤ n ∧ n ≤ 16
  · simp only [hn, decide_true, if_true, and_self, Bool.true_and]
    by_cases hl : l.length ≤ 200
    · refine Ev.step (f := fun k => spec_GraphOk.l0 k n l 0) (fun k => ?_) ?_
      · simp only [spec_GraphOk.j0]
        rw [if_neg (by simp; omega)]
      · have hw : wrap64 (n - 1) = n - 1 := w64 (by omega) (by omega)
        have h0 : l.all (edgeIn n) = (l.drop 0).all (edgeIn n) := rfl
        rw [decide_eq_true hl, Bool.true_and, h0]
        refine all_ev l (edgeIn n) (fun k i => spec_GraphOk.l0 k n l i) (fun i h hp r hr => ?_) (fun i h hp => ?_) ?_ 0 (by omega)
        · refine Ev.step (fun k => ?_) hr
          simp only [spec_GraphOk.l0]
          rw [if_pos (by omega), if_pos (by omega), rd_IE h, l1In_eq, l1In_eq, hw]
          simp only [edgeIn, Bool.and_eq_true] at hp
          simp only [Option.bind_some, hp.1, hp.2, if_true]
          rw [w64_succ h (by omega)]
        · refine Ev.succ (fun k => ?_)
          simp only [spec_GraphOk.l0]
          rw [if_pos (by omega), if_pos (by omega), rd_IE h, l1In_eq, l1In_eq, hw]
          simp only [edgeIn, Bool.and_eq_false_iff] at hp
          simp only [Option.bind_some]
          rcases hp with hp | hp
          · rw [hp]; rfl
          · rw [hp]; split <;> rfl
        · refine Ev.succ (fun k => ?_)
          simp only [spec_GraphOk.l0]
          rw [if_neg (by omega)]
    · rw [decide_eq_false hl, Bool.false_and]
      refine Ev.succ (fun k => ?_)
      simp only [spec_GraphOk.j0]
      rw [if_pos (by simp; omega)]
  · simp only [decide_eq_false hn, Bool.false_and]
    refine Ev.succ (fun k => ?_)
    rw [if_neg (by simp)]
    simp only [spec_GraphOk.j0, if_true]

-- chunk moves: lists of moves are copied, and the same as themselves
abbrev IM := S46
theorem rd_IM {l : List IM} {i : Nat} (h : i < l.length) : rd_T46 l (i : Int) = l[i] := by
  unfold rd_T46; rw [Int.toNat_natCast]; exact getD_lt l _ h
def poolOk (n : Int) (l : List IE) (wk : Int) : Bool := graphOk n l && decide (1 ≤ wk ∧ wk ≤ 8)
theorem impl_isPool_ev (n : Int) (l : List IE) (wk : Int) : Ev (fun k => impl_isPool.f k n l wk) (poolOk n l wk) := by
  unfold impl_isPool.f poolOk
  refine Ev.bind (impl_GraphOk_ev n l) ?_
  cases graphOk n l with
  | true =>
    rw [Bool.true_and]
    exact Ev.of_eq fun k => by rw [if_pos rfl, within_eq]; rfl
  | false => exact Ev.of_eq fun k => by rw [if_neg (by simp)]; rfl
theorem graphOk_spec {n : Int} {l : List IE} (h : graphOk n l = true) : 0 ≤ n ∧ n ≤ 16 ∧ l.length ≤ 200 ∧ ∀ e ∈ l, (0 ≤ e.f0 ∧ e.f0 < n) ∧ 0 ≤ e.f1 ∧ e.f1 < n := by
  unfold graphOk at h
  rw [Bool.and_eq_true, Bool.and_eq_true] at h
  obtain ⟨⟨h1, h2⟩, h3⟩ := h
  refine ⟨(of_decide_eq_true h1).1, (of_decide_eq_true h1).2, of_decide_eq_true h2, fun e he => ?_⟩
  have h4 := List.all_eq_true.1 h3 e he
  unfold edgeIn at h4
  rw [Bool.and_eq_true] at h4
  have h5 := of_decide_eq_true h4.1
  have h6 := of_decide_eq_true h4.2
  omega
theorem fitB_of {n : Int} {l : List IE} (h : graphOk n l = true) : fitB n l = true := by
  obtain ⟨h1, h2, _, h3⟩ := graphOk_spec h
  unfold fitB
  rw [Bool.and_eq_true, Bool.and_eq_true]
  refine ⟨⟨decide_eq_true h1, decide_eq_true h2⟩, List.all_eq_true.2 fun e he => ?_⟩
  rw [Bool.and_eq_true]
  exact ⟨decide_eq_true (h3 e he).1.1, decide_eq_true (h3 e he).1.2⟩
def fitL (l : List IE) (is : List Int) : Prop := ∀ e ∈ l, 0 ≤ e.f0 ∧ e.f0 < (is.length : Int)
theorem spec_l18Ready_ev {l : List IE} {is : List Int} (hl : l.length ≤ 200) (hf : fitL l is) (t : Nat) (ht : t < is.length) : Ev (fun k => spec_l18Ready.f k l is (t : Int)) (rdyB l is (t : Int)) := by
  unfold spec_l18Ready.f rdyB
  refine Ev.congr (fun k => by rw [if_pos (by omega), if_pos (by omega)]) ?_
  by_cases c : rd is (t : Int) = 0
  · refine Ev.congr (fun k => if_pos c) ?_
    rw [decide_eq_true c, Bool.true_and]
    have h0 : (!(l.any (rdyP is (t : Int)))) = (l.drop 0).all (fun e => !(rdyP is (t : Int) e)) := by rw [List.drop_zero, List.not_any_eq_all_not]
    rw [h0]
    refine all_ev l (fun e => !(rdyP is (t : Int) e)) (fun k i => spec_l18Ready.l0 k l is (t : Int) i) (fun i h hp r hr => ?_) (fun i h hp => ?_) ?_ 0 (by omega)
    · refine Ev.step (fun k => ?_) hr
      simp only [spec_l18Ready.l0]
      have hm := hf l[i] (List.getElem_mem h)
      rw [if_pos (by omega), if_pos (by omega), rd_IE h, w64_nat i (by omega)]
      by_cases c1 : l[i].f1 = (t : Int)
      · rw [if_pos c1, if_pos hm.1, if_pos hm.2]
        by_cases c2 : rd is l[i].f0 = 2
        · rw [if_pos c2]
        · rw [show rdyP is (t : Int) l[i] = true from decide_eq_true ⟨c1, c2⟩] at hp
          cases hp
      · rw [if_neg c1]
    · refine Ev.succ (fun k => ?_)
      have hm := hf l[i] (List.getElem_mem h)
      simp only [spec_l18Ready.l0]
      rw [if_pos (by omega), if_pos (by omega), rd_IE h]
      have hp2 : rdyP is (t : Int) l[i] = true := by
        cases hq : rdyP is (t : Int) l[i] with
        | true => rfl
        | false => rw [hq] at hp; cases hp
      have h3 := of_decide_eq_true (show decide (l[i].f1 = (t : Int) ∧ rd is l[i].f0 ≠ 2) = true from hp2)
      rw [if_pos h3.1, if_pos hm.1, if_pos hm.2, if_neg h3.2]
    · refine Ev.succ (fun k => ?_)
      simp only [spec_l18Ready.l0]
      rw [if_neg (by omega)]
  · refine Ev.congr (fun k => if_neg c) ?_
    rw [decide_eq_false c, Bool.false_and]
    exact Ev.now _
theorem spec_l18Moves_ev {l : List IE} {is : List Int} (wk : Int) (hl : l.length ≤ 200) (hn : is.length ≤ 16) (hf : fitL l is) : Ev (fun k => spec_l18Moves.f k l wk is) (movesL l wk is) := by
  unfold spec_l18Moves.f
  have k1 : ∀ (d i : Nat), i + d = is.length → Ev (fun k => spec_l18Moves.l1 k l is (endsTo is is.length ++ begsTo l is i) (i : Int)) (endsTo is is.length ++ begsTo l is is.length) := by
    intro d
    induction d with
    | zero =>
      intro i hi
      obtain rfl : i = is.length := by omega
      refine Ev.succ (fun k => ?_)
      simp only [spec_l18Moves.l1]
      rw [if_neg (by omega)]
    | succ d ih =>
      intro i hi
      have hlen1 := endsTo_len is is.length
      have hlen2 := begsTo_len l is i
      have h := ih (i + 1) (by omega)
      rw [begsTo_succ] at h
      have hr := spec_l18Ready_ev hl hf i (by omega)
      refine Ev.step (f := fun k => (spec_l18Ready.f k l is (i : Int)).bind fun t => if t = true then (if (endsTo is is.length ++ begsTo l is i).length < 8796093022208 then spec_l18Moves.l1 k l is ((endsTo is is.length ++ begsTo l is i) ++ [⟨2, (i : Int)⟩]) ((i + 1 : Nat) : Int) else none) else spec_l18Moves.l1 k l is (endsTo is is.length ++ begsTo l is i) ((i + 1 : Nat) : Int)) (fun k => ?_) (Ev.bind hr ?_)
      · simp only [spec_l18Moves.l1]
        rw [if_pos (by omega), w64_nat i (by omega)]
      · cases hq : rdyB l is (i : Int) with
        | true =>
          rw [hq, if_pos rfl, ← List.append_assoc] at h
          exact Ev.congr (fun k => if_pos rfl) (Ev.congr (fun k => if_pos (by rw [List.length_append]; omega)) h)
        | false =>
          rw [hq, if_neg (by simp)] at h
          exact Ev.congr (fun k => if_neg (by simp)) h
  have k0 : ∀ (d i : Nat), i + d = is.length → Ev (fun k => spec_l18Moves.l0 k l wk is (endsTo is i) (i : Int)) (movesL l wk is) := by
    intro d
    induction d with
    | zero =>
      intro i hi
      obtain rfl : i = is.length := by omega
      unfold movesL
      by_cases c : wk ≤ ((endsTo is is.length).length : Int)
      · rw [if_pos c]
        refine Ev.succ (fun k => ?_)
        simp only [spec_l18Moves.l0]
        rw [if_neg (by omega), if_neg (by omega)]
      · rw [if_neg c]
        have h := k1 is.length 0 (by omega)
        rw [show begsTo l is 0 = [] from rfl, List.append_nil] at h
        refine Ev.step (fun k => ?_) h
        simp only [spec_l18Moves.l0]
        rw [if_neg (by omega), if_pos (by omega)]
        rfl
    | succ d ih =>
      intro i hi
      have hlen1 := endsTo_len is i
      have h := ih (i + 1) (by omega)
      rw [endsTo_succ] at h
      by_cases c : rd is (i : Int) = 1
      · rw [if_pos c] at h
        refine Ev.step (fun k => ?_) h
        simp only [spec_l18Moves.l0]
        rw [if_pos (by omega), if_pos (by omega), if_pos c, if_pos (by omega), w64_nat i (by omega)]
      · rw [if_neg c] at h
        refine Ev.step (fun k => ?_) h
        simp only [spec_l18Moves.l0]
        rw [if_pos (by omega), if_pos (by omega), if_neg c, w64_nat i (by omega)]
  exact k0 is.length 0 (by omega)
theorem spec_l18Do_eq {l : List IE} {wk : Int} {is : List Int} (hn : is.length ≤ 16) {e : IM} (h : e ∈ movesL l wk is) : spec_l18Do.f is e.f0 e.f1 = some (doL is e.f1) := by
  obtain ⟨t, ht, h1, h2⟩ := movesL_mem h
  unfold spec_l18Do.f
  simp only [Option.bind_some, List.length_nil, List.nil_append]
  rw [if_pos (by omega), h1]
  rw [if_pos (by omega), if_pos (by omega)]
  unfold doL
  rcases h2 with ⟨h3, h4⟩ | ⟨h3, _, h4⟩
  · rw [if_neg (by omega), h4]
    rfl
  · rw [if_pos h3, h4, List.set_set]
    rfl
theorem doL_mem {is : List Int} {x : Int} {v : Int} (h : v ∈ doL is x) : v ∈ is ∨ v = rd is x + 1 := by
  unfold doL at h
  rcases List.mem_or_eq_of_mem_set h with h | h
  · exact .inl h
  · exact .inr h
theorem eqM_comm (e m : IM) : (e.f0 == m.f0 && (e.f1 == m.f1)) = (m.f0 == e.f0 && m.f1 == e.f1) := by
  rw [Bool.eq_iff_iff]
  simp only [Bool.and_eq_true, beq_iff_eq]
  exact ⟨fun h => ⟨h.1.symm, h.2.symm⟩, fun h => ⟨h.1.symm, h.2.symm⟩⟩
def poolMovesL (n : Int) (l : List IE) (wk : Int) (done : List IM) : List IM × Bool := if poolOk n l wk = true then (match goP l wk done (List.replicate n.toNat 0) with
  | some is => (movesL l wk is, true)
  | none => ([], false)) else ([], false)
theorem impl_PoolMoves_ev (n : Int) (l : List IE) (wk : Int) (done : List IM) : Ev (fun k => impl_PoolMoves.f k n l wk done) (poolMovesL n l wk done) := by
  unfold impl_PoolMoves.f poolMovesL
  refine Ev.bind (impl_isPool_ev n l wk) ?_
  cases hp : poolOk n l wk with
  | true =>
    have hg : graphOk n l = true := by
      unfold poolOk at hp
      rw [Bool.and_eq_true] at hp
      exact hp.1
    rw [if_pos rfl, if_pos rfl]
    refine Ev.congr (fun k => if_pos (fitB_of hg)) ?_
    cases goP l wk done (List.replicate n.toNat 0) with
    | some is => exact Ev.now _
    | none => exact Ev.now _
  | false =>
    rw [if_neg (by simp), if_neg (by simp)]
    exact Ev.now _
def goR (l : List IE) (wk : Int) (o : Option (List Int)) : List IM × Bool := match o with
  | some is => (movesL l wk is, true)
  | none => ([], false)
theorem fitL_len {l : List IE} {is is' : List Int} (h : fitL l is) (e : is'.length = is.length) : fitL l is' := fun x hx => by rw [e]; exact h x hx
theorem spec_PoolMoves_ev (n : Int) (l : List IE) (wk : Int) (done : List IM) (hd : done.length ≤ 1000000000) : Ev (fun k => spec_PoolMoves.f k n l wk done) (poolMovesL n l wk done) := by
  unfold spec_PoolMoves.f poolMovesL
  refine Ev.bind (spec_GraphOk_ev n l) ?_
  unfold poolOk
  cases hg : graphOk n l with
  | false =>
    rw [Bool.false_and, if_neg (by simp)]
    exact Ev.congr (fun k => if_neg (by simp)) (Ev.succ fun k => by simp only [spec_PoolMoves.j0, if_true])
  | true =>
    refine Ev.congr (fun k => if_pos rfl) ?_
    rw [Bool.true_and]
    refine Ev.bindc (l1In_eq _ _ _) ?_
    by_cases hw : 1 ≤ wk ∧ wk ≤ 8
    · rw [decide_eq_true hw, if_pos rfl]
      obtain ⟨n0, n1, hl, hf⟩ := graphOk_spec hg
      obtain ⟨N, rfl⟩ : ∃ N : Nat, n = (N : Int) := ⟨n.toNat, by omega⟩
      rw [Int.toNat_natCast]
      have hf0 : fitL l (List.replicate N 0) := fun e he => by rw [List.length_replicate]; exact (hf e he).1
      have key : ∀ (d i : Nat) (is : List Int), i + d = done.length → is.length = N → Ev (fun k => spec_PoolMoves.l0 k l wk done is (i : Int)) (goR l wk (goP l wk (done.drop i) is)) := by
        intro d
        induction d with
        | zero =>
          intro i is hi hn
          rw [List.drop_of_length_le (by omega)]
          have h := spec_l18Moves_ev (l := l) (is := is) wk hl (by omega) (fitL_len hf0 (by simpa using hn))
          refine Ev.step (f := fun k => (spec_l18Moves.f k l wk is).bind fun t => some (t, true)) (fun k => ?_) (Ev.bind h (Ev.now _))
          simp only [spec_PoolMoves.l0]
          rw [if_neg (by omega)]
        | succ d ih =>
          intro i is hi hn
          have hlt : i < done.length := by omega
          have hfi := fitL_len (is' := is) hf0 (by simpa using hn)
          have h := spec_l18Moves_ev (l := l) (is := is) wk hl (by omega) hfi
          have hml := movesL_len l wk is
          rw [List.drop_eq_getElem_cons hlt]
          have hdo : ∀ e ∈ movesL l wk is, spec_l18Do.f is e.f0 e.f1 = some (doL is e.f1) := fun e he => spec_l18Do_eq (by omega) he
          have hgo : goP l wk (done[i] :: done.drop (i + 1)) is = if hasM (movesL l wk is) done[i] = true then goP l wk (done.drop (i + 1)) (doL is done[i].f1) else none := rfl
          rw [hgo]
          have hih := ih (i + 1) (doL is done[i].f1) (by omega) (by rw [doL_len]; exact hn)
          generalize movesL l wk is = ml at h hml hdo
          refine Ev.step (f := fun k => (spec_l18Moves.f k l wk is).bind fun t => spec_PoolMoves.l1 k l wk done is (i : Int) t false 0) (fun k => ?_) (Ev.bind h ?_)
          · simp only [spec_PoolMoves.l0]
            rw [if_pos (by omega)]
          · have inner : ∀ (d j : Nat) (b : Bool), j + d = ml.length → Ev (fun k => spec_PoolMoves.l1 k l wk done is (i : Int) ml b (j : Int)) (goR l wk (if (b || (ml.drop j).any fun e => done[i].f0 == e.f0 && done[i].f1 == e.f1) = true then goP l wk (done.drop (i + 1)) (doL is done[i].f1) else none)) ∨ (b = true ∧ ∀ e ∈ ml, ¬(done[i].f0 = e.f0 ∧ done[i].f1 = e.f1)) := by
              intro d
              induction d with
              | zero =>
                intro j b hj
                rw [List.drop_of_length_le (by omega)]
                cases b with
                | false =>
                  left
                  refine Ev.succ (fun k => ?_)
                  simp only [spec_PoolMoves.l1]
                  rw [if_neg (by omega), if_neg (by simp)]
                  rfl
                | true =>
                  by_cases hex : ∃ e ∈ ml, done[i].f0 = e.f0 ∧ done[i].f1 = e.f1
                  · left
                    obtain ⟨e, he, h1, h2⟩ := hex
                    have hd2 := hdo e he
                    rw [← h1, ← h2] at hd2
                    refine Ev.step (fun k => ?_) hih
                    simp only [spec_PoolMoves.l1]
                    rw [if_neg (by omega), if_pos trivial, if_pos (by omega), if_pos (by omega), rd_IM hlt, hd2, Option.bind_some, w64_nat i (by omega)]
                  · right
                    exact ⟨rfl, fun e he h => hex ⟨e, he, h⟩⟩
              | succ d ih2 =>
                intro j b hj
                have hjl : j < ml.length := by omega
                rw [List.drop_eq_getElem_cons hjl, List.any_cons]
                cases b with
                | true =>
                  rcases ih2 (j + 1) true (by omega) with h | h
                  · left
                    rw [Bool.true_or] at h ⊢
                    refine Ev.step (fun k => ?_) h
                    simp only [spec_PoolMoves.l1]
                    rw [if_pos (by omega), if_pos trivial, w64_nat j (by omega)]
                  · exact .inr h
                | false =>
                  rw [Bool.false_or]
                  have hs : ∀ k, spec_PoolMoves.l1 (k + 1) l wk done is (i : Int) ml false (j : Int) = spec_PoolMoves.l1 k l wk done is (i : Int) ml (done[i].f0 == ml[j].f0 && done[i].f1 == ml[j].f1) ((j + 1 : Nat) : Int) := fun k => by
                    simp only [spec_PoolMoves.l1]
                    rw [if_pos (by omega), if_neg (by simp), if_pos (by omega), if_pos (by omega), if_pos (by omega), rd_IM hlt, rd_IM hjl, w64_nat j (by omega), eqM_comm]
                  rcases ih2 (j + 1) (done[i].f0 == ml[j].f0 && done[i].f1 == ml[j].f1) (by omega) with h | ⟨h1, h2⟩
                  · exact .inl (Ev.step hs h)
                  · rw [Bool.and_eq_true, beq_iff_eq, beq_iff_eq] at h1
                    exact absurd h1 (h2 ml[j] (List.getElem_mem hjl))
            rcases inner ml.length 0 false (by omega) with h | ⟨h, _⟩
            · exact h
            · cases h
      refine Ev.step (f := fun k => spec_PoolMoves.l0 k l wk done (List.replicate N 0) 0) (fun k => ?_) (key done.length 0 (List.replicate N 0) (by omega) List.length_replicate)
      simp only [spec_PoolMoves.j0]
      rw [if_neg (by simp), if_pos (by omega), if_pos (by omega), Int.toNat_natCast]
    · rw [decide_eq_false hw, if_neg (by simp)]
      exact Ev.succ fun k => by simp only [spec_PoolMoves.j0, Bool.not_false, if_true]

-- chunk poolrun: a run by picks, of the program and of the reference
def pickN (picks : List Int) (fr : Nat) (n : Nat) : Nat := if fr < picks.length then (if Int.tmod (rd picks (fr : Int)) (n : Int) < 0 then Int.tmod (rd picks (fr : Int)) (n : Int) + (n : Int) else Int.tmod (rd picks (fr : Int)) (n : Int)).toNat else 0
theorem tmod_bounds (a : Int) {n : Nat} (hn : 0 < n) : -(n : Int) < Int.tmod a (n : Int) ∧ Int.tmod a (n : Int) < (n : Int) := by
  have h1 := Int.tmod_lt_of_pos a (b := (n : Int)) (by omega)
  refine ⟨?_, h1⟩
  have h2 := Int.tmod_lt_of_pos (-a) (b := (n : Int)) (by omega)
  rw [Int.neg_tmod] at h2
  omega
theorem pickN_lt (picks : List Int) (fr : Nat) {n : Nat} (hn : 0 < n) : pickN picks fr n < n := by
  unfold pickN
  split
  · have h := tmod_bounds (rd picks (fr : Int)) hn
    split <;> omega
  · exact hn
theorem l18Pick_eq (picks : List Int) (fr : Nat) {n : Nat} (hn : 0 < n) (hn2 : n ≤ 1000000) : spec_l18Pick.f picks (fr : Int) (n : Int) = some (pickN picks fr n : Int) := by
  unfold spec_l18Pick.f pickN
  have h := tmod_bounds (rd picks (fr : Int)) hn
  by_cases c : fr < picks.length
  · rw [if_neg (by omega), if_pos (by omega), if_pos (by omega), if_neg (by omega), if_pos c]
    by_cases c2 : Int.tmod (rd picks (fr : Int)) (n : Int) < 0
    · rw [if_pos c2, if_pos c2, w64 (by omega) (by omega), Int.toNat_of_nonneg (by omega)]
    · rw [if_neg c2, if_neg c2, Int.toNat_of_nonneg (by omega)]
  · rw [if_pos (by omega), if_neg c]
    rfl
/-- A run: of q moves at most. -/
def runP (l : List IE) (wk : Int) (picks : List Int) : Nat → Nat → List Int → List IM → List IM
  | 0, _, _, out => out
  | q + 1, fr, is, out => if (movesL l wk is).length = 0 then out else runP l wk picks q (fr + 1) (doL is (rd_T46 (movesL l wk is) (pickN picks fr (movesL l wk is).length : Int)).f1) (out ++ [rd_T46 (movesL l wk is) (pickN picks fr (movesL l wk is).length : Int)])
def lvl (is : List Int) : Prop := ∀ v ∈ is, v = 0 ∨ v = 1 ∨ v = 2
theorem rd_mem {is : List Int} {t : Nat} (h : t < is.length) : rd is (t : Int) ∈ is := by
  rw [rd_lt is h]
  exact List.getElem_mem h
theorem sum_set {is : List Int} {t : Nat} (h : t < is.length) : (is.set t (rd is (t : Int) + 1)).sum = is.sum + 1 := by
  rw [rd_lt is h]
  induction is generalizing t with
  | nil => simp at h
  | cons x is ih =>
    cases t with
    | zero => simp; omega
    | succ t =>
      simp only [List.set_cons_succ, List.sum_cons, List.getElem_cons_succ]
      rw [ih (by simpa using h)]
      omega
theorem sum_le {is : List Int} (h : lvl is) : is.sum ≤ 2 * (is.length : Int) ∧ 0 ≤ is.sum := by
  induction is with
  | nil => simp
  | cons x is ih =>
    have h1 := ih (fun v hv => h v (List.mem_cons_of_mem _ hv))
    have h2 := h x List.mem_cons_self
    simp only [List.sum_cons, List.length_cons]
    omega
theorem sum_full {is : List Int} (h : lvl is) (hs : is.sum = 2 * (is.length : Int)) : ∀ v ∈ is, v = 2 := by
  induction is with
  | nil => intro v hv; simp at hv
  | cons x is ih =>
    have h0 : lvl is := fun v hv => h v (List.mem_cons_of_mem _ hv)
    have h1 := sum_le h0
    have h2 := h x List.mem_cons_self
    simp only [List.sum_cons, List.length_cons] at hs
    intro v hv
    rcases List.mem_cons.1 hv with rfl | hv
    · omega
    · exact ih h0 (by omega) v hv
theorem moves_full {l : List IE} {wk : Int} {is : List Int} (h : lvl is) (hs : is.sum = 2 * (is.length : Int)) : movesL l wk is = [] := by
  cases hm : movesL l wk is with
  | nil => rfl
  | cons e r =>
    have he : e ∈ movesL l wk is := by rw [hm]; exact List.mem_cons_self
    obtain ⟨t, ht, h1, h2⟩ := movesL_mem he
    have h3 := sum_full h hs _ (rd_mem ht)
    rcases h2 with h2 | h2 <;> omega
theorem do_lvl {l : List IE} {wk : Int} {is : List Int} (h : lvl is) {e : IM} (he : e ∈ movesL l wk is) : lvl (doL is e.f1) ∧ (doL is e.f1).sum = is.sum + 1 := by
  obtain ⟨t, ht, h1, h2⟩ := movesL_mem he
  rw [h1]
  constructor
  · intro v hv
    rcases doL_mem hv with hv | hv
    · exact h v hv
    · rcases h2 with h2 | h2 <;> omega
  · unfold doL
    rw [Int.toNat_natCast]
    exact sum_set ht
theorem rd_moves {l : List IE} {wk : Int} {is : List Int} {j : Nat} (h : j < (movesL l wk is).length) : rd_T46 (movesL l wk is) (j : Int) ∈ movesL l wk is := by
  rw [rd_IM h]
  exact List.getElem_mem h
def poolRunL (n : Int) (l : List IE) (wk : Int) (picks : List Int) : List IM × Bool := if poolOk n l wk = true ∧ picks.length ≤ 2000 then (runP l wk picks (2 * n.toNat) 0 (List.replicate n.toNat 0) [], true) else ([], false)
theorem lvl0 (N : Nat) : lvl (List.replicate N 0) := fun v hv => .inl (List.eq_of_mem_replicate hv)
theorem sum0 (N : Nat) : (List.replicate N (0 : Int)).sum = 0 := by
  induction N with
  | zero => rfl
  | succ N ih => rw [List.replicate_succ, List.sum_cons, ih]; rfl
theorem spec_PoolRun_ev (n : Int) (l : List IE) (wk : Int) (picks : List Int) (hp : picks.length ≤ 1000000000) : Ev (fun k => spec_PoolRun.f k n l wk picks) (poolRunL n l wk picks) := by
  unfold spec_PoolRun.f poolRunL
  refine Ev.bind (spec_GraphOk_ev n l) ?_
  unfold poolOk
  cases hg : graphOk n l with
  | false =>
    rw [Bool.false_and, if_neg (by simp)]
    exact Ev.congr (fun k => if_neg (by simp)) (Ev.succ fun k => by simp only [spec_PoolRun.j0, if_true])
  | true =>
    refine Ev.congr (fun k => if_pos rfl) ?_
    rw [Bool.true_and]
    refine Ev.bindc (l1In_eq _ _ _) ?_
    by_cases hw : 1 ≤ wk ∧ wk ≤ 8
    · rw [decide_eq_true hw]
      refine Ev.congr (fun k => if_pos rfl) ?_
      obtain ⟨n0, n1, hl, hf⟩ := graphOk_spec hg
      obtain ⟨N, rfl⟩ : ∃ N : Nat, n = (N : Int) := ⟨n.toNat, by omega⟩
      rw [Int.toNat_natCast]
      have hf0 : fitL l (List.replicate N 0) := fun e he => by rw [List.length_replicate]; exact (hf e he).1
      by_cases c : picks.length ≤ 2000
      · rw [if_pos ⟨rfl, c⟩, decide_eq_false (by omega)]
        have hw2 : wrap64 (2 * (N : Int)) = ((2 * N : Nat) : Int) := by rw [w64 (by omega) (by omega)]; omega
        have key : ∀ (q fr : Nat) (is : List Int) (out : List IM), fr + q = 2 * N → is.length = N → lvl is → out.length ≤ fr → Ev (fun k => spec_PoolRun.l0 k (N : Int) l wk picks out is (fr : Int)) (runP l wk picks q fr is out, true) := by
          intro q
          induction q with
          | zero =>
            intro fr is out hq hn h ho
            refine Ev.succ (fun k => ?_)
            simp only [spec_PoolRun.l0]
            rw [hw2, if_neg (by omega)]
            rfl
          | succ q ih =>
            intro fr is out hq hn h ho
            have hfi := fitL_len (is' := is) hf0 (by simpa using hn)
            have hm := spec_l18Moves_ev (l := l) (is := is) wk hl (by omega) hfi
            have hu : runP l wk picks (q + 1) fr is out = if (movesL l wk is).length = 0 then out else runP l wk picks q (fr + 1) (doL is (rd_T46 (movesL l wk is) (pickN picks fr (movesL l wk is).length : Int)).f1) (out ++ [rd_T46 (movesL l wk is) (pickN picks fr (movesL l wk is).length : Int)]) := rfl
            rw [hu]
            have hml := movesL_len l wk is
            have hmem : ∀ j : Nat, j < (movesL l wk is).length → spec_l18Do.f is (rd_T46 (movesL l wk is) (j : Int)).f0 (rd_T46 (movesL l wk is) (j : Int)).f1 = some (doL is (rd_T46 (movesL l wk is) (j : Int)).f1) ∧ lvl (doL is (rd_T46 (movesL l wk is) (j : Int)).f1) := fun j hj => ⟨spec_l18Do_eq (by omega) (rd_moves hj), (do_lvl h (rd_moves hj)).1⟩
            generalize movesL l wk is = ml at hm hml hmem
            refine Ev.step (f := fun k => (spec_l18Moves.f k l wk is).bind fun t => if (t.length : Int) = 0 then some (out, true) else (spec_l18Pick.f picks (fr : Int) (t.length : Int)).bind fun j => if 0 ≤ j then (if j < (t.length : Int) then (spec_l18Do.f is (rd_T46 t j).f0 (rd_T46 t j).f1).bind fun u => (if out.length < 8796093022208 then spec_PoolRun.l0 k (N : Int) l wk picks (out ++ [⟨(rd_T46 t j).f0, (rd_T46 t j).f1⟩]) u ((fr + 1 : Nat) : Int) else none) else none) else none) (fun k => ?_) (Ev.bind hm ?_)
            · simp only [spec_PoolRun.l0]
              rw [hw2, if_pos (by omega), w64_nat fr (by omega)]
            · by_cases cz : ml.length = 0
              · rw [if_pos cz]
                exact Ev.of_eq fun k => if_pos (by omega)
              · rw [if_neg cz]
                refine Ev.congr (fun k => if_neg (by omega)) ?_
                have hpk := pickN_lt picks fr (n := ml.length) (by omega)
                obtain ⟨h1, h2⟩ := hmem _ hpk
                refine Ev.bindc (l18Pick_eq picks fr (by omega) (by omega)) ?_
                refine Ev.congr (fun k => (if_pos (by omega)).trans (if_pos (by omega))) (Ev.bindc h1 (Ev.congr (fun k => if_pos (by omega)) ?_))
                exact ih (fr + 1) _ _ (by omega) (by rw [doL_len]; exact hn) h2 (by rw [List.length_append]; simp; omega)
        refine Ev.step (f := fun k => spec_PoolRun.l0 k (N : Int) l wk picks [] (List.replicate N 0) 0) (fun k => ?_) (key (2 * N) 0 (List.replicate N 0) [] (by omega) List.length_replicate (lvl0 N) (by simp))
        simp only [spec_PoolRun.j0]
        rw [if_neg (by simp), if_pos (by omega), if_pos (by omega), Int.toNat_natCast]
      · rw [if_neg (by simp; omega), decide_eq_true (by omega)]
        exact Ev.succ fun k => by simp only [spec_PoolRun.j0, if_true]
    · rw [decide_eq_false hw, if_neg (by simp)]
      exact Ev.congr (fun k => if_neg (by simp)) (Ev.succ fun k => by simp only [spec_PoolRun.j0, if_true])
theorem runP_len (l : List IE) (wk : Int) (picks : List Int) : ∀ (q fr : Nat) (is : List Int) (out : List IM), (runP l wk picks q fr is out).length ≤ out.length + q := by
  intro q
  induction q with
  | zero => intro fr is out; exact Nat.le_refl _
  | succ q ih =>
    intro fr is out
    show (if _ then out else _ : List IM).length ≤ _
    split
    · omega
    · have := ih (fr + 1) (doL is (rd_T46 (movesL l wk is) (pickN picks fr (movesL l wk is).length : Int)).f1) (out ++ [rd_T46 (movesL l wk is) (pickN picks fr (movesL l wk is).length : Int)])
      rw [List.length_append] at this
      simp only [List.length_cons, List.length_nil] at this
      omega
theorem poolRunL_len (n : Int) (l : List IE) (wk : Int) (picks : List Int) : (poolRunL n l wk picks).1.length ≤ 1000 := by
  unfold poolRunL
  split
  · rename_i h
    have hg : graphOk n l = true := by
      have := h.1
      unfold poolOk at this
      rw [Bool.and_eq_true] at this
      exact this.1
    obtain ⟨n0, n1, _⟩ := graphOk_spec hg
    have := runP_len l wk picks (2 * n.toNat) 0 (List.replicate n.toNat 0) []
    simp only [List.length_nil] at this
    show (runP l wk picks (2 * n.toNat) 0 (List.replicate n.toNat 0) []).length ≤ 1000
    omega
  · simp

-- chunk runs: a run told by its moves; each is one that there is
def runM (l : List IE) (wk : Int) (picks : List Int) : Nat → Nat → List Int → List IM
  | 0, _, _ => []
  | q + 1, fr, is => if (movesL l wk is).length = 0 then [] else rd_T46 (movesL l wk is) (pickN picks fr (movesL l wk is).length : Int) :: runM l wk picks q (fr + 1) (doL is (rd_T46 (movesL l wk is) (pickN picks fr (movesL l wk is).length : Int)).f1)
theorem runP_eq (l : List IE) (wk : Int) (picks : List Int) : ∀ (q fr : Nat) (is : List Int) (out : List IM), runP l wk picks q fr is out = out ++ runM l wk picks q fr is := by
  intro q
  induction q with
  | zero => intro fr is out; simp [runP, runM]
  | succ q ih =>
    intro fr is out
    unfold runP runM
    split
    · simp
    · rw [ih, List.append_assoc]
      rfl
theorem hasM_mem {l : List IM} {e : IM} (h : e ∈ l) : hasM l e = true := List.any_eq_true.2 ⟨e, h, by simp⟩
theorem goP_cons (l : List IE) (wk : Int) (m : IM) (ms : List IM) (is : List Int) : goP l wk (m :: ms) is = if hasM (movesL l wk is) m = true then goP l wk ms (doL is m.f1) else none := rfl
theorem run_spec (l : List IE) (wk : Int) (picks : List Int) : ∀ (q fr : Nat) (is : List Int), lvl is → is.sum + (q : Int) = 2 * (is.length : Int) → ∀ i, i ≤ (runM l wk picks q fr is).length → ∃ at_, goP l wk ((runM l wk picks q fr is).take i) is = some at_ ∧ at_.length = is.length ∧ lvl at_ ∧ (∀ h : i < (runM l wk picks q fr is).length, (runM l wk picks q fr is)[i] ∈ movesL l wk at_) ∧ (i = (runM l wk picks q fr is).length → movesL l wk at_ = []) := by
  intro q
  induction q with
  | zero =>
    intro fr is h hs i hi
    exact ⟨is, by simp [runM, goP], rfl, h, fun h2 => by simp [runM] at h2, fun _ => moves_full h (by omega)⟩
  | succ q ih =>
    intro fr is h hs i hi
    by_cases c : (movesL l wk is).length = 0
    · have e : runM l wk picks (q + 1) fr is = [] := by unfold runM; rw [if_pos c]
      rw [e] at hi ⊢
      have hi0 : i = 0 := by simpa using hi
      subst hi0
      exact ⟨is, rfl, rfl, h, fun h2 => by simp at h2, fun _ => List.length_eq_zero_iff.1 c⟩
    · have hp : pickN picks fr (movesL l wk is).length < (movesL l wk is).length := pickN_lt picks fr (by omega)
      have hm := rd_moves hp
      have e : runM l wk picks (q + 1) fr is = rd_T46 (movesL l wk is) (pickN picks fr (movesL l wk is).length : Int) :: runM l wk picks q (fr + 1) (doL is (rd_T46 (movesL l wk is) (pickN picks fr (movesL l wk is).length : Int)).f1) := by
        conv => lhs; unfold runM
        rw [if_neg c]
      rw [e] at hi ⊢
      obtain ⟨h1, h2⟩ := do_lvl h hm
      cases i with
      | zero => exact ⟨is, rfl, rfl, h, fun _ => hm, fun h3 => by simp at h3⟩
      | succ i =>
        obtain ⟨a, g1, g2, g3, g4, g5⟩ := ih (fr + 1) _ h1 (by rw [doL_len]; omega) i (by simpa using hi)
        refine ⟨a, ?_, by rw [g2, doL_len], g3, fun h3 => ?_, fun h3 => g5 (by simpa using h3)⟩
        · rw [List.take_succ_cons, goP_cons, if_pos (hasM_mem hm)]
          exact g1
        · exact g4 (by simpa using h3)

-- chunk draw: what the draws may tell
theorem and255 (v : Int) : 0 ≤ Go.bits .and .i64 v 255 ∧ Go.bits .and .i64 v 255 ≤ 255 := by
  have h : Go.bits .and .i64 v 255 = IntKind.i64.wrap (((BitVec.ofInt 64 v &&& BitVec.ofInt 64 255).toNat : Nat) : Int) := rfl
  have h2 : (BitVec.ofInt 64 v &&& BitVec.ofInt 64 255).toNat ≤ 255 := by
    rw [BitVec.toNat_and]
    exact Nat.le_trans Nat.and_le_right (by decide)
  rw [h, IntKind.wrap_i64]
  omega
theorem l1Byte_ex (b : List Int) (i h : Int) (hb : b.length ≤ 140737488351232) (hi : 0 ≤ i) : ∃ x i' h', spec_l1Byte.f b i h = some (x, i', h') ∧ 0 ≤ x ∧ x ≤ 255 ∧ 0 ≤ i' := by
  unfold spec_l1Byte.f
  by_cases hl : i < (b.length : Int)
  · rw [if_pos hl, if_pos hi]
    refine ⟨_, _, _, rfl, (and255 _).1, (and255 _).2, ?_⟩
    rw [w64 (by omega) (by omega)]
    omega
  · rw [if_neg hl]
    exact ⟨_, _, _, rfl, (and255 _).1, (and255 _).2, hi⟩
theorem l1Below_ex (b : List Int) (i h n : Int) (hb : b.length ≤ 140737488351232) (hi : 0 ≤ i) : ∃ x i' h', spec_l1Below.f b i h n = some (x, i', h') ∧ 0 ≤ x ∧ (0 < n → x < n) ∧ (n ≤ 0 → x = 0) ∧ 0 ≤ i' := by
  unfold spec_l1Below.f
  by_cases h0 : n ≤ 0
  · rw [if_pos h0]
    exact ⟨0, i, h, rfl, by omega, by omega, fun _ => rfl, hi⟩
  · rw [if_neg h0]
    by_cases h1 : n ≤ 256
    · rw [if_pos h1]
      obtain ⟨x, i1, h1, e1, p1, q1, r1⟩ := l1Byte_ex b i h hb hi
      rw [e1]
      simp only [Option.bind_some]
      rw [if_neg (by omega)]
      exact ⟨_, _, _, rfl, Int.tmod_nonneg _ p1, fun _ => Int.tmod_lt_of_pos _ (by omega), fun h => absurd h h0, r1⟩
    · rw [if_neg h1]
      obtain ⟨x, i1, h1, e1, p1, q1, r1⟩ := l1Byte_ex b i h hb hi
      obtain ⟨y, i2, h2, e2, p2, q2, r2⟩ := l1Byte_ex b i1 h1 hb r1
      obtain ⟨z, i3, h3, e3, p3, q3, r3⟩ := l1Byte_ex b i2 h2 hb r2
      obtain ⟨w, i4, h4, e4, p4, q4, r4⟩ := l1Byte_ex b i3 h3 hb r3
      rw [e1]; simp only [Option.bind_some]; rw [e2]; simp only [Option.bind_some]; rw [e3]; simp only [Option.bind_some]; rw [e4]; simp only [Option.bind_some]
      rw [if_neg (by omega)]
      refine ⟨_, _, _, rfl, Int.tmod_nonneg _ ?_, fun _ => Int.tmod_lt_of_pos _ (by omega), fun h => absurd h h0, r4⟩
      rw [w64 (x := x * 16777216) (by omega) (by omega), w64 (x := y * 65536) (by omega) (by omega), w64 (x := z * 256) (by omega) (by omega), w64 (x := x * 16777216 + y * 65536) (by omega) (by omega), w64 (x := x * 16777216 + y * 65536 + z * 256) (by omega) (by omega), w64 (by omega) (by omega)]
      omega
theorem l1Once_ex (b : List Int) (i h n : Int) (hb : b.length ≤ 140737488351232) (hi : 0 ≤ i) : ∃ x i' h', spec_l1Once.f b i h n = some (x, i', h') ∧ 0 ≤ i' := by
  obtain ⟨x, i', h', e, _, _, _, hi'⟩ := l1Below_ex b i h n hb hi
  unfold spec_l1Once.f
  rw [e]
  exact ⟨_, _, _, rfl, hi'⟩
theorem l1PickInt_ex (b : List Int) (i h : Int) (l : List Int) (hb : b.length ≤ 140737488351232) (hi : 0 ≤ i) (hl : l ≠ []) (hm : l.length ≤ 1000) : ∃ x i' h', spec_l1PickInt.f b i h l = some (x, i', h') ∧ x ∈ l ∧ 0 ≤ i' := by
  obtain ⟨x, i', h', e, h0, h1, _, hi'⟩ := l1Below_ex b i h (l.length : Int) hb hi
  have hp : 0 < l.length := List.length_pos_iff.2 hl
  have h2 := h1 (by omega)
  unfold spec_l1PickInt.f
  rw [e]
  simp only [Option.bind_some]
  rw [if_pos h0, if_pos h2]
  refine ⟨_, _, _, rfl, ?_, hi'⟩
  obtain ⟨y, rfl⟩ : ∃ y : Nat, x = (y : Int) := ⟨x.toNat, by omega⟩
  rw [rd_lt _ (by omega)]
  exact List.getElem_mem _
theorem l1New_ev (b : List Int) (hb : b.length ≤ 140737488351232) : ∃ h, Ev (fun k => spec_l1New.f k b) (b, 0, h) := by
  unfold spec_l1New.f
  have key : ∀ (d i : Nat) (h : Int), i + d = b.length → ∃ h', Ev (fun k => spec_l1New.l0 k b h (i : Int)) (b, 0, h') := by
    intro d
    induction d with
    | zero =>
      intro i h hi
      refine ⟨h, Ev.succ (fun k => ?_)⟩
      simp only [spec_l1New.l0]
      rw [if_neg (by omega)]
    | succ d ih =>
      intro i h hi
      by_cases h4 : i < 4000
      · obtain ⟨h', hr⟩ := ih (i + 1) (Go.bits .and .i64 (wrap64 ((wrap64 ((wrap64 (h * 131)) + (wrap64 (rd b i)))) + 7)) 1073741823) (by omega)
        refine ⟨h', Ev.step (fun k => ?_) hr⟩
        simp only [spec_l1New.l0]
        rw [if_pos (by omega), if_pos (by omega), if_pos (by omega), w64_succ (n := b.length) (by omega) (by omega)]
      · refine ⟨h, Ev.succ (fun k => ?_)⟩
        simp only [spec_l1New.l0]
        rw [if_pos (by omega), if_neg (by omega)]
  exact key b.length 0 _ (by omega)

-- chunk drawgraph: drawn graphs
def inGraph (n : Int) (es : List IE) : Prop := ∀ e ∈ es, (0 ≤ e.f0 ∧ e.f0 < n) ∧ (0 ≤ e.f1 ∧ e.f1 < n)
theorem inGraph_snoc {n : Int} {es : List IE} {e : IE} (h : inGraph n es) (he : (0 ≤ e.f0 ∧ e.f0 < n) ∧ (0 ≤ e.f1 ∧ e.f1 < n)) : inGraph n (es ++ [e]) := by
  intro x hx
  rcases List.mem_append.1 hx with hx | hx
  · exact h x hx
  · rw [List.mem_singleton.1 hx]; exact he
theorem l14Graph_ev (b : List Int) (i h most : Int) (hb : b.length ≤ 140737488351232) (hi : 0 ≤ i) (hm0 : 0 ≤ most) (hm : most ≤ 16) :
    ∃ n es i' h', Ev (fun k => spec_l14Graph.f k b i h most) (n, es, i', h') ∧ 0 ≤ n ∧ n ≤ most ∧ (es.length : Int) ≤ 2 * n + 2 ∧ inGraph n es ∧ 0 ≤ i' := by
  unfold spec_l14Graph.f
  rw [w64 (x := most + 1) (by omega) (by omega)]
  obtain ⟨n, i1, h1, e1, n0, n1, _, hi1⟩ := l1Below_ex b i h (most + 1) hb hi
  have n2 := n1 (by omega)
  rw [e1]
  simp only [Option.bind_some]
  rw [w64 (x := 2 * n) (by omega) (by omega), w64 (x := 2 * n + 2) (by omega) (by omega)]
  obtain ⟨m, i2, h2, e2, m0, m1, _, hi2⟩ := l1Below_ex b i1 h1 (2 * n + 2) hb hi1
  have m2 := m1 (by omega)
  rw [e2]
  simp only [Option.bind_some]
  have key : ∀ (d : Nat) (j : Nat) (es : List IE) (i h : Int), (j : Int) + d = m → es.length ≤ j → inGraph n es → 0 ≤ i →
      ∃ es' i' h', Ev (fun k => spec_l14Graph.l0 k n es m (j : Int) b i h) (n, es', i', h') ∧ (es'.length : Int) ≤ 2 * n + 2 ∧ inGraph n es' ∧ 0 ≤ i' := by
    intro d
    induction d with
    | zero =>
      intro j es i h hj hes hin hi
      refine ⟨es, i, h, Ev.step (f := fun k => spec_l14Graph.j1 k n es m (j : Int) false b i h) (fun k => ?_) (Ev.succ fun k => ?_), by omega, hin, hi⟩
      · simp only [spec_l14Graph.l0]
        rw [if_neg (by omega)]
      · simp [spec_l14Graph.j1]
    | succ d ih =>
      intro j es i h hj hes hin hi
      have hj2 : j ≤ 9223372036854775806 := by omega
      by_cases hn : 0 < n
      · obtain ⟨a, i3, h3, e3, a0, a1, _, hi3⟩ := l1Below_ex b i h n hb hi
        obtain ⟨c, i4, h4, e4, c0, c1, _, hi4⟩ := l1Below_ex b i3 h3 n hb hi3
        have a2 := a1 hn
        have c2 := c1 hn
        -- from j2 on
        have two : ∀ (t : Bool) (i h : Int), 0 ≤ i → ∃ es' i' h', Ev (fun k => spec_l14Graph.j2 k n es m (j : Int) a c t b i h) (n, es', i', h') ∧ (es'.length : Int) ≤ 2 * n + 2 ∧ inGraph n es' ∧ 0 ≤ i' := by
          intro t i h hi
          cases t with
          | true =>
            by_cases hac : c = a
            · obtain ⟨o, i5, h5, e5, hi5⟩ := l1Once_ex b i h 12 hb hi
              cases o with
              | true =>
                obtain ⟨es', i', h', hr, r1, r2, r3⟩ := ih (j + 1) (es ++ [⟨c, a⟩]) i5 h5 (by omega) (by simp; omega) (inGraph_snoc hin ⟨⟨c0, c2⟩, a0, a2⟩) hi5
                refine ⟨es', i', h', Ev.step (fun k => ?_) hr, r1, r2, r3⟩
                simp only [spec_l14Graph.j2, if_true]
                rw [if_pos hac, e5]
                simp only [Option.bind_some, if_true]
                rw [if_pos (by omega), w64_nat j hj2]
              | false =>
                obtain ⟨es', i', h', hr, r1, r2, r3⟩ := ih (j + 1) es i5 h5 (by omega) (by omega) hin hi5
                refine ⟨es', i', h', Ev.step (fun k => ?_) hr, r1, r2, r3⟩
                simp only [spec_l14Graph.j2, if_true]
                rw [if_pos hac, e5]
                simp only [Option.bind_some]
                rw [if_neg (by simp), w64_nat j hj2]
            · obtain ⟨es', i', h', hr, r1, r2, r3⟩ := ih (j + 1) (es ++ [⟨c, a⟩]) i h (by omega) (by simp; omega) (inGraph_snoc hin ⟨⟨c0, c2⟩, a0, a2⟩) hi
              refine ⟨es', i', h', Ev.step (fun k => ?_) hr, r1, r2, r3⟩
              simp only [spec_l14Graph.j2, if_true]
              rw [if_neg hac, if_pos (by omega), w64_nat j hj2]
          | false =>
            by_cases hac : a = c
            · obtain ⟨o, i5, h5, e5, hi5⟩ := l1Once_ex b i h 12 hb hi
              cases o with
              | true =>
                obtain ⟨es', i', h', hr, r1, r2, r3⟩ := ih (j + 1) (es ++ [⟨a, c⟩]) i5 h5 (by omega) (by simp; omega) (inGraph_snoc hin ⟨⟨a0, a2⟩, c0, c2⟩) hi5
                refine ⟨es', i', h', Ev.step (fun k => ?_) hr, r1, r2, r3⟩
                simp only [spec_l14Graph.j2]
                rw [if_neg (by simp), if_pos hac, e5]
                simp only [Option.bind_some, if_true]
                rw [if_pos (by omega), w64_nat j hj2]
              | false =>
                obtain ⟨es', i', h', hr, r1, r2, r3⟩ := ih (j + 1) es i5 h5 (by omega) (by omega) hin hi5
                refine ⟨es', i', h', Ev.step (fun k => ?_) hr, r1, r2, r3⟩
                simp only [spec_l14Graph.j2]
                rw [if_neg (by simp), if_pos hac, e5]
                simp only [Option.bind_some]
                rw [if_neg (by simp), w64_nat j hj2]
            · obtain ⟨es', i', h', hr, r1, r2, r3⟩ := ih (j + 1) (es ++ [⟨a, c⟩]) i h (by omega) (by simp; omega) (inGraph_snoc hin ⟨⟨a0, a2⟩, c0, c2⟩) hi
              refine ⟨es', i', h', Ev.step (fun k => ?_) hr, r1, r2, r3⟩
              simp only [spec_l14Graph.j2]
              rw [if_neg (by simp), if_neg hac, if_pos (by omega), w64_nat j hj2]
        by_cases hgt : a > c
        · obtain ⟨o, i5, h5, e5, hi5⟩ := l1Once_ex b i4 h4 7 hb hi4
          obtain ⟨es', i', h', hr, r1, r2, r3⟩ := two (!o) i5 h5 hi5
          refine ⟨es', i', h', Ev.step (f := fun k => spec_l14Graph.j1 k n es m (j : Int) true b i h) (fun k => ?_) (Ev.step (fun k => ?_) hr), r1, r2, r3⟩
          · simp only [spec_l14Graph.l0]
            rw [if_pos (by omega), decide_eq_true (by omega : n > 0)]
          · simp only [spec_l14Graph.j1, if_true]
            rw [e3]; simp only [Option.bind_some]; rw [e4]; simp only [Option.bind_some]
            rw [if_pos hgt, e5]; rfl
        · obtain ⟨es', i', h', hr, r1, r2, r3⟩ := two false i4 h4 hi4
          refine ⟨es', i', h', Ev.step (f := fun k => spec_l14Graph.j1 k n es m (j : Int) true b i h) (fun k => ?_) (Ev.step (fun k => ?_) hr), r1, r2, r3⟩
          · simp only [spec_l14Graph.l0]
            rw [if_pos (by omega), decide_eq_true (by omega : n > 0)]
          · simp only [spec_l14Graph.j1, if_true]
            rw [e3]; simp only [Option.bind_some]; rw [e4]; simp only [Option.bind_some]
            rw [if_neg hgt]
      · refine ⟨es, i, h, Ev.step (f := fun k => spec_l14Graph.j1 k n es m (j : Int) false b i h) (fun k => ?_) (Ev.succ fun k => ?_), by omega, hin, hi⟩
        · simp only [spec_l14Graph.l0]
          rw [if_pos (by omega), decide_eq_false (by omega : ¬ n > 0)]
        · simp [spec_l14Graph.j1]
  obtain ⟨es', i', h', hr, r1, r2, r3⟩ := key m.toNat 0 [] i2 h2 (by omega) (by simp) (fun e he => by simp at he) hi2
  exact ⟨n, es', i', h', hr, n0, by omega, r1, r2, r3⟩
theorem l14Some_ev (b : List Int) (i h most : Int) (hb : b.length ≤ 140737488351232) (hi : 0 ≤ i) (hm0 : 0 ≤ most) (hm : most ≤ 16) :
    ∃ n es i' h', Ev (fun k => spec_l14Some.f k b i h most) (n, es, i', h') ∧ -1 ≤ n ∧ n ≤ 17 ∧ es.length ≤ 300 ∧ 0 ≤ i' := by
  unfold spec_l14Some.f
  obtain ⟨n, es, i1, h1, hg, n0, n1, hl, hin, hi1⟩ := l14Graph_ev b i h most hb hi hm0 hm
  obtain ⟨o, i2, h2, e2, hi2⟩ := l1Once_ex b i1 h1 12 hb hi1
  cases o with
  | false => exact ⟨n, es, i2, h2, Ev.bind hg (Ev.of_eq fun k => by simp only [e2, Option.bind_some]; rfl), by omega, by omega, by omega, hi2⟩
  | true =>
    obtain ⟨q, i3, h3, e3, q0, _, _, hi3⟩ := l1Below_ex b i2 h2 4 hb hi2
    by_cases q1 : q = 0
    · obtain ⟨x, i4, h4, e4, hx, hi4⟩ := l1PickInt_ex b i3 h3 [(-1), 16, 17] hb hi3 (by simp) (by simp)
      refine ⟨x, es, i4, h4, Ev.bind hg (Ev.of_eq fun k => by simp only [e2, Option.bind_some, if_true, e3, q1, e4]), ?_, ?_, by omega, hi4⟩ <;> (simp at hx; omega)
    · by_cases q2 : q = 1
      · exact ⟨n, es ++ [⟨0, n⟩], i3, h3, Ev.bind hg (Ev.of_eq fun k => by simp only [e2, Option.bind_some, if_true, e3, q2]; rw [if_neg (by omega), if_pos (by omega)]), by omega, by omega, by simp; omega, hi3⟩
      · by_cases q3 : q = 2
        · exact ⟨n, es ++ [⟨-1, 0⟩], i3, h3, Ev.bind hg (Ev.of_eq fun k => by simp only [e2, Option.bind_some, if_true, e3, q3]; rw [if_neg (by omega), if_neg (by omega), if_pos (by omega)]), by omega, by omega, by simp; omega, hi3⟩
        · have key : ∀ (d : Nat) (es : List IE) (i h : Int), 250 ≤ es.length + d → es.length ≤ 201 → 0 ≤ i →
              ∃ es' i' h', Ev (fun k => spec_l14Some.l0 k n es b i h) (n, es', i', h') ∧ es'.length ≤ 300 ∧ 0 ≤ i' := by
            intro d
            induction d with
            | zero => intro es i h hd hes hi; omega
            | succ d ih =>
              intro es i h hd hes hi
              obtain ⟨x, i5, h5, e5, x0, x1, _, hi5⟩ := l1Below_ex b i h 2 hb hi
              have x2 := x1 (by omega)
              by_cases hlt : (es.length : Int) < 200 + x
              · by_cases hn1 : n > 1
                · obtain ⟨es', i', h', hr, r1, r2⟩ := ih (es ++ [⟨0, 1⟩]) i5 h5 (by simp; omega) (by simp; omega) hi5
                  refine ⟨es', i', h', Ev.step (fun k => ?_) hr, r1, r2⟩
                  simp only [spec_l14Some.l0, e5, Option.bind_some]
                  rw [w64 (by omega) (by omega), if_pos hlt, if_pos hn1, if_pos (by omega)]
                · refine ⟨es, i5, h5, Ev.succ (fun k => ?_), by omega, hi5⟩
                  simp only [spec_l14Some.l0, e5, Option.bind_some]
                  rw [w64 (by omega) (by omega), if_pos hlt, if_neg hn1]
              · refine ⟨es, i5, h5, Ev.succ (fun k => ?_), by omega, hi5⟩
                simp only [spec_l14Some.l0, e5, Option.bind_some]
                rw [w64 (by omega) (by omega), if_neg hlt]
          obtain ⟨es', i', h', hr, r1, r2⟩ := key 250 es i3 h3 (by omega) (by omega) hi3
          refine ⟨n, es', i', h', Ev.bind hg (Ev.congr (fun k => ?_) hr), by omega, by omega, r1, r2⟩
          simp only [e2, Option.bind_some, if_true, e3]
          rw [if_neg q1, if_neg q2, if_neg q3]

-- chunk drawpool: drawn workers and picks
theorem l18Picks_ev (b : List Int) (i h : Int) (hb : b.length ≤ 140737488351232) (hi : 0 ≤ i) : ∃ ps i' h', Ev (fun k => spec_l18Picks.f k b i h 20) (ps, i', h') ∧ 0 ≤ i' ∧ ps.length ≤ 22 := by
  unfold spec_l18Picks.f
  obtain ⟨n, i1, h1, e1, n0, n1, _, p1⟩ := l1Below_ex b i h (wrap64 (20 + 1)) hb hi
  have hw : wrap64 (20 + 1) = 21 := w64 (by omega) (by omega)
  have hn : n < 21 := by
    have := n1 (by rw [hw]; omega)
    rw [hw] at this
    exact this
  have key : ∀ (d j : Nat) (out : List Int) (i h : Int), (j : Int) + d = n → 0 ≤ i → out.length = j → ∃ ps i' h', Ev (fun k => spec_l18Picks.l0 k out n (j : Int) b i h) (ps, i', h') ∧ 0 ≤ i' ∧ ps.length ≤ 22 := by
    intro d
    induction d with
    | zero =>
      intro j out i h hj hi ho
      obtain ⟨x, i2, h2, e2, p2⟩ := l1Once_ex b i h 9 hb hi
      cases x with
      | false =>
        refine ⟨out, i2, h2, Ev.succ (fun k => ?_), p2, by omega⟩
        simp only [spec_l18Picks.l0]
        rw [if_neg (by omega), e2, Option.bind_some, if_neg (by simp)]
      | true =>
        obtain ⟨v, i3, h3, e3, _, p3⟩ := l1PickInt_ex b i2 h2 [9223372036854775807, -9223372036854775808] hb p2 (by simp) (by simp)
        refine ⟨out ++ [v], i3, h3, Ev.succ (fun k => ?_), p3, by rw [List.length_append]; simp; omega⟩
        simp only [spec_l18Picks.l0]
        rw [if_neg (by omega), e2, Option.bind_some, if_pos rfl, e3, Option.bind_some, if_pos (by omega)]
    | succ d ih =>
      intro j out i h hj hi ho
      obtain ⟨x, i2, h2, e2, x0, x1, _, p2⟩ := l1Below_ex b i h 40 hb hi
      obtain ⟨ps, i3, h3, e3, p3, p4⟩ := ih (j + 1) (out ++ [wrap64 (x - 7)]) i2 h2 (by omega) p2 (by rw [List.length_append]; simp; omega)
      refine ⟨ps, i3, h3, Ev.step (fun k => ?_) e3, p3, p4⟩
      simp only [spec_l18Picks.l0]
      rw [if_pos (by omega), e2, Option.bind_some, if_pos (by omega), w64_nat j (by omega)]
  obtain ⟨ps, i2, h2, e2, p2, p3⟩ := key n.toNat 0 [] i1 h1 (by omega) p1 rfl
  exact ⟨ps, i2, h2, Ev.bindc e1 e2, p2, p3⟩
theorem DrawPoolRun_ev (code : List Int) (hb : code.length ≤ 140737488351232) : ∃ n es wk ps, Ev (fun k => spec_DrawPoolRun.f k code) (n, es, wk, ps) ∧ ps.length ≤ 1000000 := by
  unfold spec_DrawPoolRun.f
  obtain ⟨h, e0⟩ := l1New_ev code hb
  have hs := l14Some_ev code 0 h 9 hb (by omega) (by omega) (by omega)
  obtain ⟨n, es, i1, h1, e1, _, _, _, p1⟩ := hs
  obtain ⟨wk, i2, h2, e2, _, p2⟩ := l1PickInt_ex code i1 h1 [1, 2, 3, 4, 8, 2, 3, 0, 9] hb p1 (by simp) (by simp)
  obtain ⟨ps, i3, h3, e3, p3, q3⟩ := l18Picks_ev code i2 h2 hb p2
  obtain ⟨x, i4, h4, e4, p4⟩ := l1Once_ex code i3 h3 20 hb p3
  have hw : spec_l18Workers.f code i1 h1 = some (wk, i2, h2) := by
    unfold spec_l18Workers.f
    rw [e2]
    rfl
  cases x with
  | false =>
    refine ⟨n, es, wk, ps, Ev.bind e0 (Ev.bind e1 (Ev.bindc hw (Ev.bind e3 (Ev.bindc e4 (Ev.of_eq fun k => if_neg (by simp)))))), by omega⟩
  | true =>
    have key : ∀ (d : Nat) (ps : List Int) (i h : Int), 2002 - ps.length = d → 0 ≤ i → ps.length ≤ 2001 → ∃ qs, Ev (fun k => spec_DrawPoolRun.l0 k n es wk ps code i h) (n, es, wk, qs) ∧ qs.length ≤ 1000000 := by
      intro d
      induction d with
      | zero => intro ps i h hd; omega
      | succ d ih =>
        intro ps i h hd hi hl
        obtain ⟨x, i2, h2, e2, x0, x1, _, p2⟩ := l1Below_ex code i h 2 hb hi
        have hx := x1 (by omega)
        have hw : wrap64 (2000 + x) = 2000 + x := w64 (by omega) (by omega)
        by_cases c : (ps.length : Int) < 2000 + x
        · obtain ⟨qs, e3, q⟩ := ih (ps ++ [(ps.length : Int)]) i2 h2 (by rw [List.length_append]; simp; omega) p2 (by rw [List.length_append]; simp; omega)
          refine ⟨qs, Ev.step (fun k => ?_) e3, q⟩
          simp only [spec_DrawPoolRun.l0]
          rw [e2, Option.bind_some, hw, if_pos c, if_pos (by omega)]
        · refine ⟨ps, Ev.succ (fun k => ?_), by omega⟩
          simp only [spec_DrawPoolRun.l0]
          rw [e2, Option.bind_some, hw, if_neg c]
    obtain ⟨qs, e5, q5⟩ := key _ ps i4 h4 rfl p4 (by omega)
    exact ⟨n, es, wk, qs, Ev.bind e0 (Ev.bind e1 (Ev.bindc hw (Ev.bind e3 (Ev.bindc e4 (Ev.congr (fun k => if_pos rfl) e5))))), q5⟩

theorem there_ev {n : Int} {l : List IE} {wk : Int} {mv ml : List IM} {i : Nat} (hi : i < mv.length) (hmv : mv.length ≤ 1000000) (hml : ml.length ≤ 1000000) (hc : Ev (fun k => laws_FnMoves.l0 k n l wk mv ((i + 1 : Nat) : Int)) true) :
    ∀ (d j : Nat) (b : Bool), j + d = ml.length → (b || (ml.drop j).any fun e => mv[i].f0 == e.f0 && mv[i].f1 == e.f1) = true → Ev (fun k => laws_FnMoves.l1 k n l wk mv (i : Int) ml true b (j : Int)) true := by
  intro d
  induction d with
  | zero =>
    intro j b hj h
    rw [List.drop_of_length_le (by omega), List.any_nil, Bool.or_false] at h
    subst h
    refine Ev.step (fun k => ?_) hc
    simp only [laws_FnMoves.l1]
    rw [if_neg (by omega), if_pos trivial, if_pos trivial, w64_nat i (by omega)]
  | succ d ih =>
    intro j b hj h
    have hjl : j < ml.length := by omega
    rw [List.drop_eq_getElem_cons hjl, List.any_cons] at h
    cases b with
    | true =>
      refine Ev.step (fun k => ?_) (ih (j + 1) true (by omega) (by rw [Bool.true_or]))
      simp only [laws_FnMoves.l1]
      rw [if_pos (by omega), if_pos trivial, w64_nat j (by omega)]
    | false =>
      rw [Bool.false_or] at h
      refine Ev.step (fun k => ?_) (ih (j + 1) (mv[i].f0 == ml[j].f0 && mv[i].f1 == ml[j].f1) (by omega) h)
      simp only [laws_FnMoves.l1]
      rw [if_pos (by omega), if_neg (by simp), if_pos (by omega), if_pos (by omega), if_pos (by omega), rd_IM hi, rd_IM hjl, w64_nat j (by omega), eqM_comm]
theorem proof : Pure := by
  intro code hc
  refine Ev.rounds ?_
  unfold laws_FnMoves.f
  by_cases hbig : 1048576 < code.length
  · refine Ev.bindc (a := true) (by unfold laws_big.f; rw [decide_eq_true (by omega)]) (Ev.of_eq fun k => if_pos rfl)
  refine Ev.bindc (a := false) (by unfold laws_big.f; rw [decide_eq_false (by omega)]) (Ev.congr (fun k => if_neg (by simp)) ?_)
  obtain ⟨n, l, wk, ps, hd, hl⟩ := DrawPoolRun_ev code (by omega)
  refine Ev.bind hd (Ev.bind (spec_PoolRun_ev n l wk ps (by omega)) ?_)
  unfold poolRunL
  by_cases hp : poolOk n l wk = true ∧ ps.length ≤ 2000
  · rw [if_pos hp]
    refine Ev.congr (fun k => if_pos rfl) ?_
    have hg : graphOk n l = true := by
      have := hp.1
      unfold poolOk at this
      rw [Bool.and_eq_true] at this
      exact this.1
    obtain ⟨n0, n1, _⟩ := graphOk_spec hg
    obtain ⟨N, rfl⟩ : ∃ N : Nat, n = (N : Int) := ⟨n.toNat, by omega⟩
    rw [Int.toNat_natCast, runP_eq, List.nil_append]
    have hlen := runP_len l wk ps (2 * N) 0 (List.replicate N 0) []
    rw [runP_eq, List.nil_append] at hlen
    simp only [List.length_nil] at hlen
    have hs := run_spec l wk ps (2 * N) 0 (List.replicate N 0) (lvl0 N) (by rw [sum0, List.length_replicate]; omega)
    generalize runM l wk ps (2 * N) 0 (List.replicate N 0) = mv at hs hlen
    have hpm : ∀ i at_, goP l wk (mv.take i) (List.replicate N 0) = some at_ → Ev (fun k => impl_PoolMoves.f k (N : Int) l wk (mv.take i)) (movesL l wk at_, true) := fun i at_ h => by
      have := impl_PoolMoves_ev (N : Int) l wk (mv.take i)
      unfold poolMovesL at this
      rw [if_pos hp.1, Int.toNat_natCast, h] at this
      exact this
    have key : ∀ (d i : Nat), i + d = mv.length → Ev (fun k => laws_FnMoves.l0 k (N : Int) l wk mv (i : Int)) true := by
      intro d
      induction d with
      | zero =>
        intro i hi
        obtain ⟨a, g1, g2, g3, g4, g5⟩ := hs i (by omega)
        have h := hpm i a g1
        rw [List.take_of_length_le (by omega), g5 (by omega)] at h
        refine Ev.step (f := fun k => (impl_PoolMoves.f k (N : Int) l wk mv).bind fun t => if t.2 = true then some ((t.1.length : Int) == 0) else none) (fun k => ?_) (Ev.bind h (Ev.now _))
        simp only [laws_FnMoves.l0]
        rw [if_neg (by omega)]
      | succ d ih =>
        intro i hi
        obtain ⟨a, g1, g2, g3, g4, g5⟩ := hs i (by omega)
        have h := hpm i a g1
        have hml := movesL_len l wk a
        rw [List.length_replicate] at g2
        have hm := hasM_mem (g4 (by omega))
        refine Ev.step (f := fun k => (impl_PoolMoves.f k (N : Int) l wk (mv.take i)).bind fun t => laws_FnMoves.l1 k (N : Int) l wk mv (i : Int) t.1 t.2 false 0) (fun k => ?_) (Ev.bind h (there_ev (i := i) (ml := movesL l wk a) (by omega) (by omega) (by omega) (ih (i + 1) (by omega)) (movesL l wk a).length 0 false (by omega) (by rw [Bool.false_or, List.drop_zero]; exact hm)))
        simp only [laws_FnMoves.l0]
        rw [if_pos (by omega), if_pos (by omega), if_pos (by omega), Int.toNat_natCast]
    exact key mv.length 0 (by omega)
  · rw [if_neg hp]
    refine Ev.congr (fun k => if_neg (by simp)) ?_
    exact Ev.bind (impl_PoolMoves_ev n l wk []) (Ev.bind (spec_PoolMoves_ev n l wk [] (by simp)) (Ev.of_eq fun k => by simp))


end Go.Proofs.Ytnecbgeljanhiaa.fnMoves
