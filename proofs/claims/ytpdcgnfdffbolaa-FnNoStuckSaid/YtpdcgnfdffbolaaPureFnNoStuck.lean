/- The law FnNoStuck holds of the program's own functions, told over lists and numbers: for every argument it returns true. Conditions: none beyond the given row's own. -/
import Derived.Test.YtpdcgnfdffbolaaSaysFnNoStuck
import Derived.Test.YtpdcgnfdffbolaaKit
namespace Go.Proofs.Ytpdcgnfdffbolaa.fnNoStuck
open Go.RowKit Go.Proofs.Ytpdcgnfdffbolaa.PFnNoStuck Go.Proofs.YtpdcgnfdffbolaaW.PrintWords Go.Proofs.YtpdcgnfdffbolaaW.PrintLast Go.Proofs.Ytpdcgnfdffbolaa.Own
set_option linter.unusedVariables false
set_option linter.unusedSimpArgs false
-- chunk edges: lists of edges are copied, and the same as themselves
abbrev IE := S96
theorem rd_IE {l : List IE} {i : Nat} (h : i < l.length) : rd_T96 l (i : Int) = l[i] := by
  unfold rd_T96; rw [Int.toNat_natCast]; exact getD_lt l _ h
def edgeIn (n : Int) (e : IE) : Bool := decide (0 ≤ e.f0 ∧ e.f0 ≤ n - 1) && decide (0 ≤ e.f1 ∧ e.f1 ≤ n - 1)
def graphOk (n : Int) (l : List IE) : Bool := decide (0 ≤ n ∧ n ≤ 16) && decide (l.length ≤ 200) && l.all (edgeIn n)
theorem within_eq (a b c : Int) : impl_within.f a b c = some (decide (b ≤ a ∧ a ≤ c)) := by
  unfold impl_within.f
  split <;> simp [*]
theorem l1In_eq (a b c : Int) : spec_l1In.f a b c = some (decide (b ≤ a ∧ a ≤ c)) := by
  unfold spec_l1In.f
  split <;> simp [*]
theorem impl_GraphOk_ev (n : Int) (l : List IE) : Ev (fun k => impl_GraphOk.f k n l) (graphOk n l) := by
  unfold impl_GraphOk.f graphOk
  refine Ev.bindc (within_eq _ _ _) ?_
  by_cases hn : 0 ≤ n ∧ n ≤ 16
  · simp only [hn, decide_true, if_true, and_self, Bool.true_and]
    by_cases hl : l.length ≤ 200
    · refine Ev.step (f := fun k => impl_GraphOk.l0 k n l (l.length : Int) 0) (fun k => ?_) ?_
      · simp only [impl_GraphOk.j0]
        rw [if_neg (by simp; omega)]
      · have hw : wrap64 (n - 1) = n - 1 := w64 (by omega) (by omega)
        have h0 : l.all (edgeIn n) = (l.drop 0).all (edgeIn n) := rfl
        rw [decide_eq_true hl, Bool.true_and, h0]
        refine all_ev l (edgeIn n) (fun k i => impl_GraphOk.l0 k n l (l.length : Int) i) (fun i h hp r hr => ?_) (fun i h hp => ?_) ?_ 0 (by omega)
        · refine Ev.step (fun k => ?_) hr
          simp only [impl_GraphOk.l0]
          rw [if_pos (by omega), if_pos (by omega), if_pos (by omega), rd_IE h, within_eq, within_eq, hw]
          simp only [edgeIn, Bool.and_eq_true] at hp
          simp only [Option.bind_some, hp.1, hp.2, if_true]
          rw [w64_succ h (by omega)]
        · refine Ev.succ (fun k => ?_)
          simp only [impl_GraphOk.l0]
          rw [if_pos (by omega), if_pos (by omega), if_pos (by omega), rd_IE h, within_eq, within_eq, hw]
          simp only [edgeIn, Bool.and_eq_false_iff] at hp
          simp only [Option.bind_some]
          rcases hp with hp | hp
          · rw [hp]; rfl
          · rw [hp]; split <;> rfl
        · refine Ev.succ (fun k => ?_)
          simp only [impl_GraphOk.l0]
          rw [if_neg (by omega)]
    · rw [decide_eq_false hl, Bool.false_and]
      refine Ev.succ (fun k => ?_)
      simp only [impl_GraphOk.j0]
      rw [if_pos (by simp; omega)]
  · simp only [decide_eq_false hn, Bool.false_and]
    refine Ev.succ (fun k => ?_)
    rw [if_neg (by simp)]
    simp only [impl_GraphOk.j0, if_true]
theorem spec_GraphOk_ev (n : Int) (l : List IE) : Ev (fun k => spec_GraphOk.f k n l) (graphOk n l) := by
  unfold spec_GraphOk.f graphOk
  refine Ev.bindc (l1In_eq _ _ _) ?_
  by_cases hn : 0 ≤ n ∧ n ≤ 16
  · simp only [hn, decide_true, if_true, and_self, Bool.true_and]
    by_cases hl : l.length ≤ 200
    · refine Ev.step (f := fun k => spec_GraphOk.l0 k n l 0) (fun k => ?_) ?_
      · simp only [spec_GraphOk.j0]
        rw [if_neg (by simp; omega)]
      · have hw : wrap64 (n - 1) = n - 1 := w64 (by omega) (by omega)
        have h0 : l.all (edgeIn n) = (l.drop 0).all (edgeIn n) := rfl
        rw [decide_eq_true hl, Bool.true_and, h0]
        refine all_ev l (edgeIn n) (fun k i => spec_GraphOk.l0 k n l i) (fun i h hp r hr => ?_) (fun i h hp => ?_) ?_ 0 (by omega)
        · refine Ev.step (fun k => ?_) hr
          simp only [spec_GraphOk.l0]
          rw [if_pos (by omega), if_pos (by omega), rd_IE h, l1In_eq, l1In_eq, hw]
          simp only [edgeIn, Bool.and_eq_true] at hp
          simp only [Option.bind_some, hp.1, hp.2, if_true]
          rw [w64_succ h (by omega)]
        · refine Ev.succ (fun k => ?_)
          simp only [spec_GraphOk.l0]
          rw [if_pos (by omega), if_pos (by omega), rd_IE h, l1In_eq, l1In_eq, hw]
          simp only [edgeIn, Bool.and_eq_false_iff] at hp
          simp only [Option.bind_some]
          rcases hp with hp | hp
          · rw [hp]; rfl
          · rw [hp]; split <;> rfl
        · refine Ev.succ (fun k => ?_)
          simp only [spec_GraphOk.l0]
          rw [if_neg (by omega)]
    · rw [decide_eq_false hl, Bool.false_and]
      refine Ev.succ (fun k => ?_)
      simp only [spec_GraphOk.j0]
      rw [if_pos (by simp; omega)]
  · simp only [decide_eq_false hn, Bool.false_and]
    refine Ev.succ (fun k => ?_)
    rw [if_neg (by simp)]
    simp only [spec_GraphOk.j0, if_true]

-- chunk moves: lists of moves are copied, and the same as themselves
abbrev IM := S94
theorem rd_IM {l : List IM} {i : Nat} (h : i < l.length) : rd_T94 l (i : Int) = l[i] := by
  unfold rd_T94; rw [Int.toNat_natCast]; exact getD_lt l _ h
def poolOk (n : Int) (l : List IE) (wk : Int) : Bool := graphOk n l && decide (1 ≤ wk ∧ wk ≤ 8)
theorem impl_isPool_ev (n : Int) (l : List IE) (wk : Int) : Ev (fun k => impl_isPool.f k n l wk) (poolOk n l wk) := by
  unfold impl_isPool.f poolOk
  refine Ev.bind (impl_GraphOk_ev n l) ?_
  cases graphOk n l with
  | true =>
    rw [Bool.true_and]
    exact Ev.of_eq fun k => by rw [if_pos rfl, within_eq]; rfl
  | false => exact Ev.of_eq fun k => by rw [if_neg (by simp)]; rfl
theorem graphOk_spec {n : Int} {l : List IE} (h : graphOk n l = true) : 0 ≤ n ∧ n ≤ 16 ∧ l.length ≤ 200 ∧ ∀ e ∈ l, (0 ≤ e.f0 ∧ e.f0 < n) ∧ 0 ≤ e.f1 ∧ e.f1 < n := by
  unfold graphOk at h
  rw [Bool.and_eq_true, Bool.and_eq_true] at h
  obtain ⟨⟨h1, h2⟩, h3⟩ := h
  refine ⟨(of_decide_eq_true h1).1, (of_decide_eq_true h1).2, of_decide_eq_true h2, fun e he => ?_⟩
  have h4 := List.all_eq_true.1 h3 e he
  unfold edgeIn at h4
  rw [Bool.and_eq_true] at h4
  have h5 := of_decide_eq_true h4.1
  have h6 := of_decide_eq_true h4.2
  omega
theorem fitB_of {n : Int} {l : List IE} (h : graphOk n l = true) : fitB n l = true := by
  obtain ⟨h1, h2, _, h3⟩ := graphOk_spec h
  unfold fitB
  rw [Bool.and_eq_true, Bool.and_eq_true]
  refine ⟨⟨decide_eq_true h1, decide_eq_true h2⟩, List.all_eq_true.2 fun e he => ?_⟩
  rw [Bool.and_eq_true]
  exact ⟨decide_eq_true (h3 e he).1.1, decide_eq_true (h3 e he).1.2⟩
def fitL (l : List IE) (is : List Int) : Prop := ∀ e ∈ l, 0 ≤ e.f0 ∧ e.f0 < (is.length : Int)
theorem spec_l18Ready_ev {l : List IE} {is : List Int} (hl : l.length ≤ 200) (hf : fitL l is) (t : Nat) (ht : t < is.length) : Ev (fun k => spec_l18Ready.f k l is (t : Int)) (rdyB l is (t : Int)) := by
  unfold spec_l18Ready.f rdyB
  refine Ev.congr (fun k => by rw [if_pos (by omega), if_pos (by omega)]) ?_
  by_cases c : rd is (t : Int) = 0
  · refine Ev.congr (fun k => if_pos c) ?_
    rw [decide_eq_true c, Bool.true_and]
    have h0 : (!(l.any (rdyP is (t : Int)))) = (l.drop 0).all (fun e => !(rdyP is (t : Int) e)) := by rw [List.drop_zero, List.not_any_eq_all_not]
    rw [h0]
    refine all_ev l (fun e => !(rdyP is (t : Int) e)) (fun k i => spec_l18Ready.l0 k l is (t : Int) i) (fun i h hp r hr => ?_) (fun i h hp => ?_) ?_ 0 (by omega)
    · refine Ev.step (fun k => ?_) hr
      simp only [spec_l18Ready.l0]
      have hm := hf l[i] (List.getElem_mem h)
      rw [if_pos (by omega), if_pos (by omega), rd_IE h, w64_nat i (by omega)]
      by_cases c1 : l[i].f1 = (t : Int)
      · rw [if_pos c1, if_pos hm.1, if_pos hm.2]
        by_cases c2 : rd is l[i].f0 = 2
        · rw [if_pos c2]
        · rw [show rdyP is (t : Int) l[i] = true from decide_eq_true ⟨c1, c2⟩] at hp
          cases hp
      · rw [if_neg c1]
    · refine Ev.succ (fun k => ?_)
      have hm := hf l[i] (List.getElem_mem h)
      simp only [spec_l18Ready.l0]
      rw [if_pos (by omega), if_pos (by omega), rd_IE h]
      have hp2 : rdyP is (t : Int) l[i] = true := by
        cases hq : rdyP is (t : Int) l[i] with
        | true => rfl
        | false => rw [hq] at hp; cases hp
      have h3 := of_decide_eq_true (show decide (l[i].f1 = (t : Int) ∧ rd is l[i].f0 ≠ 2) = true from hp2)
      rw [if_pos h3.1, if_pos hm.1, if_pos hm.2, if_neg h3.2]
    · refine Ev.succ (fun k => ?_)
      simp only [spec_l18Ready.l0]
      rw [if_neg (by omega)]
  · refine Ev.congr (fun k => if_neg c) ?_
    rw [decide_eq_false c, Bool.false_and]
    exact Ev.now _
theorem spec_l18Moves_ev {l : List IE} {is : List Int} (wk : Int) (hl : l.length ≤ 200) (hn : is.length ≤ 16) (hf : fitL l is) : Ev (fun k => spec_l18Moves.f k l wk is) (movesL l wk is) := by
  unfold spec_l18Moves.f
  have k1 : ∀ (d i : Nat), i + d = is.length → Ev (fun k => spec_l18Moves.l1 k l is (endsTo is is.length ++ begsTo l is i) (i : Int)) (endsTo is is.length ++ begsTo l is is.length) := by
    intro d
    induction d with
    | zero =>
      intro i hi
      obtain rfl : i = is.length := by omega
      refine Ev.succ (fun k => ?_)
      simp only [spec_l18Moves.l1]
      rw [if_neg (by omega)]
    | succ d ih =>
      intro i hi
      have hlen1 := endsTo_len is is.length
      have hlen2 := begsTo_len l is i
      have h := ih (i + 1) (by omega)
      rw [begsTo_succ] at h
      have hr := spec_l18Ready_ev hl hf i (by omega)
      refine Ev.step (f := fun k => (spec_l18Ready.f k l is (i : Int)).bind fun t => if t = true then (if (endsTo is is.length ++ begsTo l is i).length < 8796093022208 then spec_l18Moves.l1 k l is ((endsTo is is.length ++ begsTo l is i) ++ [⟨2, (i : Int)⟩]) ((i + 1 : Nat) : Int) else none) else spec_l18Moves.l1 k l is (endsTo is is.length ++ begsTo l is i) ((i + 1 : Nat) : Int)) (fun k => ?_) (Ev.bind hr ?_)
      · simp only [spec_l18Moves.l1]
        rw [if_pos (by omega), w64_nat i (by omega)]
      · cases hq : rdyB l is (i : Int) with
        | true =>
          rw [hq, if_pos rfl, ← List.append_assoc] at h
          exact Ev.congr (fun k => if_pos rfl) (Ev.congr (fun k => if_pos (by rw [List.length_append]; omega)) h)
        | false =>
          rw [hq, if_neg (by simp)] at h
          exact Ev.congr (fun k => if_neg (by simp)) h
  have k0 : ∀ (d i : Nat), i + d = is.length → Ev (fun k => spec_l18Moves.l0 k l wk is (endsTo is i) (i : Int)) (movesL l wk is) := by
    intro d
    induction d with
    | zero =>
      intro i hi
      obtain rfl : i = is.length := by omega
      unfold movesL
      by_cases c : wk ≤ ((endsTo is is.length).length : Int)
      · rw [if_pos c]
        refine Ev.succ (fun k => ?_)
        simp only [spec_l18Moves.l0]
        rw [if_neg (by omega), if_neg (by omega)]
      · rw [if_neg c]
        have h := k1 is.length 0 (by omega)
        rw [show begsTo l is 0 = [] from rfl, List.append_nil] at h
        refine Ev.step (fun k => ?_) h
        simp only [spec_l18Moves.l0]
        rw [if_neg (by omega), if_pos (by omega)]
        rfl
    | succ d ih =>
      intro i hi
      have hlen1 := endsTo_len is i
      have h := ih (i + 1) (by omega)
      rw [endsTo_succ] at h
      by_cases c : rd is (i : Int) = 1
      · rw [if_pos c] at h
        refine Ev.step (fun k => ?_) h
        simp only [spec_l18Moves.l0]
        rw [if_pos (by omega), if_pos (by omega), if_pos c, if_pos (by omega), w64_nat i (by omega)]
      · rw [if_neg c] at h
        refine Ev.step (fun k => ?_) h
        simp only [spec_l18Moves.l0]
        rw [if_pos (by omega), if_pos (by omega), if_neg c, w64_nat i (by omega)]
  exact k0 is.length 0 (by omega)
theorem spec_l18Do_eq {l : List IE} {wk : Int} {is : List Int} (hn : is.length ≤ 16) {e : IM} (h : e ∈ movesL l wk is) : spec_l18Do.f is e.f0 e.f1 = some (doL is e.f1) := by
  obtain ⟨t, ht, h1, h2⟩ := movesL_mem h
  unfold spec_l18Do.f
  simp only [Option.bind_some, List.length_nil, List.nil_append]
  rw [if_pos (by omega), h1]
  rw [if_pos (by omega), if_pos (by omega)]
  unfold doL
  rcases h2 with ⟨h3, h4⟩ | ⟨h3, _, h4⟩
  · rw [if_neg (by omega), h4]
    rfl
  · rw [if_pos h3, h4, List.set_set]
    rfl
theorem doL_mem {is : List Int} {x : Int} {v : Int} (h : v ∈ doL is x) : v ∈ is ∨ v = rd is x + 1 := by
  unfold doL at h
  rcases List.mem_or_eq_of_mem_set h with h | h
  · exact .inl h
  · exact .inr h
theorem eqM_comm (e m : IM) : (e.f0 == m.f0 && (e.f1 == m.f1)) = (m.f0 == e.f0 && m.f1 == e.f1) := by
  rw [Bool.eq_iff_iff]
  simp only [Bool.and_eq_true, beq_iff_eq]
  exact ⟨fun h => ⟨h.1.symm, h.2.symm⟩, fun h => ⟨h.1.symm, h.2.symm⟩⟩
def goR (l : List IE) (wk : Int) (o : Option (List Int)) : List IM × Bool := match o with
  | some is => (movesL l wk is, true)
  | none => ([], false)
theorem fitL_len {l : List IE} {is is' : List Int} (h : fitL l is) (e : is'.length = is.length) : fitL l is' := fun x hx => by rw [e]; exact h x hx
def pickN (picks : List Int) (fr : Nat) (n : Nat) : Nat := if fr < picks.length then (if Int.tmod (rd picks (fr : Int)) (n : Int) < 0 then Int.tmod (rd picks (fr : Int)) (n : Int) + (n : Int) else Int.tmod (rd picks (fr : Int)) (n : Int)).toNat else 0
theorem tmod_bounds (a : Int) {n : Nat} (hn : 0 < n) : -(n : Int) < Int.tmod a (n : Int) ∧ Int.tmod a (n : Int) < (n : Int) := by
  have h1 := Int.tmod_lt_of_pos a (b := (n : Int)) (by omega)
  refine ⟨?_, h1⟩
  have h2 := Int.tmod_lt_of_pos (-a) (b := (n : Int)) (by omega)
  rw [Int.neg_tmod] at h2
  omega
theorem pickN_lt (picks : List Int) (fr : Nat) {n : Nat} (hn : 0 < n) : pickN picks fr n < n := by
  unfold pickN
  split
  · have h := tmod_bounds (rd picks (fr : Int)) hn
    split <;> omega
  · exact hn
theorem modulo_eq (x : Int) {n : Nat} (hn : 0 < n) (hn2 : n ≤ 1000000) : impl_modulo.f x (n : Int) = some (if Int.tmod x (n : Int) < 0 then Int.tmod x (n : Int) + (n : Int) else Int.tmod x (n : Int)) := by
  have h := tmod_bounds x hn
  unfold impl_modulo.f
  rw [if_neg (by omega)]
  by_cases c : Int.tmod x (n : Int) < 0
  · rw [if_pos c, if_pos c, w64 (by omega) (by omega)]
  · rw [if_neg c, if_neg c]
theorem l18Pick_eq (picks : List Int) (fr : Nat) {n : Nat} (hn : 0 < n) (hn2 : n ≤ 1000000) : spec_l18Pick.f picks (fr : Int) (n : Int) = some (pickN picks fr n : Int) := by
  unfold spec_l18Pick.f pickN
  have h := tmod_bounds (rd picks (fr : Int)) hn
  by_cases c : fr < picks.length
  · rw [if_neg (by omega), if_pos (by omega), if_pos (by omega), if_neg (by omega), if_pos c]
    by_cases c2 : Int.tmod (rd picks (fr : Int)) (n : Int) < 0
    · rw [if_pos c2, if_pos c2, w64 (by omega) (by omega), Int.toNat_of_nonneg (by omega)]
    · rw [if_neg c2, if_neg c2, Int.toNat_of_nonneg (by omega)]
  · rw [if_pos (by omega), if_neg c]
    rfl
theorem implPick_eq (picks : List Int) (fr : Nat) {n : Nat} (hn : 0 < n) (hn2 : n ≤ 1000000) : ((if fr < picks.length then impl_modulo.f (rd picks (fr : Int)) (n : Int) else some 0) : Option Int) = some (pickN picks fr n : Int) := by
  unfold pickN
  have h := tmod_bounds (rd picks (fr : Int)) hn
  by_cases c : fr < picks.length
  · rw [if_pos c, if_pos c, modulo_eq _ hn hn2]
    congr 1
    rw [Int.toNat_of_nonneg]
    split <;> omega
  · rw [if_neg c, if_neg c]
    rfl
/-- A run: of q moves at most. -/
def runP (l : List IE) (wk : Int) (picks : List Int) : Nat → Nat → List Int → List IM → List IM
  | 0, _, _, out => out
  | q + 1, fr, is, out => if (movesL l wk is).length = 0 then out else runP l wk picks q (fr + 1) (doL is (rd_T94 (movesL l wk is) (pickN picks fr (movesL l wk is).length : Int)).f1) (out ++ [rd_T94 (movesL l wk is) (pickN picks fr (movesL l wk is).length : Int)])
def lvl (is : List Int) : Prop := ∀ v ∈ is, v = 0 ∨ v = 1 ∨ v = 2
theorem rd_mem {is : List Int} {t : Nat} (h : t < is.length) : rd is (t : Int) ∈ is := by
  rw [rd_lt is h]
  exact List.getElem_mem h
theorem sum_set {is : List Int} {t : Nat} (h : t < is.length) : (is.set t (rd is (t : Int) + 1)).sum = is.sum + 1 := by
  rw [rd_lt is h]
  induction is generalizing t with
  | nil => simp at h
  | cons x is ih =>
    cases t with
    | zero => simp; omega
    | succ t =>
      simp only [List.set_cons_succ, List.sum_cons, List.getElem_cons_succ]
      rw [ih (by simpa using h)]
      omega
theorem sum_le {is : List Int} (h : lvl is) : is.sum ≤ 2 * (is.length : Int) ∧ 0 ≤ is.sum := by
  induction is with
  | nil => simp
  | cons x is ih =>
    have h1 := ih (fun v hv => h v (List.mem_cons_of_mem _ hv))
    have h2 := h x List.mem_cons_self
    simp only [List.sum_cons, List.length_cons]
    omega
theorem sum_full {is : List Int} (h : lvl is) (hs : is.sum = 2 * (is.length : Int)) : ∀ v ∈ is, v = 2 := by
  induction is with
  | nil => intro v hv; simp at hv
  | cons x is ih =>
    have h0 : lvl is := fun v hv => h v (List.mem_cons_of_mem _ hv)
    have h1 := sum_le h0
    have h2 := h x List.mem_cons_self
    simp only [List.sum_cons, List.length_cons] at hs
    intro v hv
    rcases List.mem_cons.1 hv with rfl | hv
    · omega
    · exact ih h0 (by omega) v hv
theorem moves_full {l : List IE} {wk : Int} {is : List Int} (h : lvl is) (hs : is.sum = 2 * (is.length : Int)) : movesL l wk is = [] := by
  cases hm : movesL l wk is with
  | nil => rfl
  | cons e r =>
    have he : e ∈ movesL l wk is := by rw [hm]; exact List.mem_cons_self
    obtain ⟨t, ht, h1, h2⟩ := movesL_mem he
    have h3 := sum_full h hs _ (rd_mem ht)
    rcases h2 with h2 | h2 <;> omega
theorem do_lvl {l : List IE} {wk : Int} {is : List Int} (h : lvl is) {e : IM} (he : e ∈ movesL l wk is) : lvl (doL is e.f1) ∧ (doL is e.f1).sum = is.sum + 1 := by
  obtain ⟨t, ht, h1, h2⟩ := movesL_mem he
  rw [h1]
  constructor
  · intro v hv
    rcases doL_mem hv with hv | hv
    · exact h v hv
    · rcases h2 with h2 | h2 <;> omega
  · unfold doL
    rw [Int.toNat_natCast]
    exact sum_set ht
theorem rd_moves {l : List IE} {wk : Int} {is : List Int} {j : Nat} (h : j < (movesL l wk is).length) : rd_T94 (movesL l wk is) (j : Int) ∈ movesL l wk is := by
  rw [rd_IM h]
  exact List.getElem_mem h
theorem playL_is (l : List IE) (wk : Int) (picks : List Int) : ∀ (q fr : Nat) (is : List Int) (out : List IM) (k : Nat), is.length ≤ 16 → lvl is → is.sum + (q : Int) = 2 * (is.length : Int) → fr + q ≤ 100 → q < k → playL l wk picks k fr is out = some (runP l wk picks q fr is out) := by
  intro q
  induction q with
  | zero =>
    intro fr is out k hn h hs hf hk
    obtain ⟨k, rfl⟩ : ∃ m, k = m + 1 := ⟨k - 1, by omega⟩
    show (if (movesL l wk is).length = 0 then some out else _) = _
    rw [if_pos (by rw [moves_full h (by omega)]; rfl)]
    rfl
  | succ q ih =>
    intro fr is out k hn h hs hf hk
    obtain ⟨k, rfl⟩ : ∃ m, k = m + 1 := ⟨k - 1, by omega⟩
    show (if (movesL l wk is).length = 0 then some out else if 1000 ≤ fr then none else
      ((if fr < picks.length then impl_modulo.f (rd picks (fr : Int)) ((movesL l wk is).length : Int) else some 0) : Option Int).bind fun j => if 0 ≤ j ∧ j < ((movesL l wk is).length : Int) then playL l wk picks k (fr + 1) (doL is (rd_T94 (movesL l wk is) j).f1) (out ++ [rd_T94 (movesL l wk is) j]) else none) = some (if (movesL l wk is).length = 0 then out else _)
    by_cases c : (movesL l wk is).length = 0
    · rw [if_pos c, if_pos c]
    · have hml := movesL_len l wk is
      have hp : pickN picks fr (movesL l wk is).length < (movesL l wk is).length := pickN_lt picks fr (by omega)
      obtain ⟨h1, h2⟩ := do_lvl h (rd_moves hp)
      rw [if_neg c, if_neg c, if_neg (by omega), implPick_eq picks fr (by omega) (by omega), Option.bind_some, if_pos (by omega)]
      exact ih (fr + 1) _ _ k (by rw [doL_len]; exact hn) h1 (by rw [doL_len]; omega) (by omega) (by omega)
def poolRunL (n : Int) (l : List IE) (wk : Int) (picks : List Int) : List IM × Bool := if poolOk n l wk = true ∧ picks.length ≤ 2000 then (runP l wk picks (2 * n.toNat) 0 (List.replicate n.toNat 0) [], true) else ([], false)
theorem lvl0 (N : Nat) : lvl (List.replicate N 0) := fun v hv => .inl (List.eq_of_mem_replicate hv)
theorem sum0 (N : Nat) : (List.replicate N (0 : Int)).sum = 0 := by
  induction N with
  | zero => rfl
  | succ N ih => rw [List.replicate_succ, List.sum_cons, ih]; rfl
theorem impl_PoolRun_ev (n : Int) (l : List IE) (wk : Int) (picks : List Int) : Ev (fun k => impl_PoolRun.f k n l wk picks) (poolRunL n l wk picks) := by
  unfold impl_PoolRun.f poolRunL
  refine Ev.bind (impl_isPool_ev n l wk) ?_
  cases hp : poolOk n l wk with
  | true =>
    have hg : graphOk n l = true := by
      unfold poolOk at hp
      rw [Bool.and_eq_true] at hp
      exact hp.1
    obtain ⟨n0, n1, hl, hf⟩ := graphOk_spec hg
    obtain ⟨N, rfl⟩ : ∃ N : Nat, n = (N : Int) := ⟨n.toNat, by omega⟩
    rw [Int.toNat_natCast]
    refine Ev.congr (fun k => if_pos rfl) ?_
    by_cases c : picks.length ≤ 2000
    · rw [if_pos ⟨rfl, c⟩]
      refine Ev.congr (fun k => if_neg (by omega)) (Ev.congr (fun k => if_pos (fitB_of hg)) ?_)
      refine Ev.bind (a := runP l wk picks (2 * N) 0 (List.replicate N 0) []) ⟨2 * N + 1, fun k hk => playL_is l wk picks (2 * N) 0 (List.replicate N 0) [] k (by rw [List.length_replicate]; omega) (lvl0 N) (by rw [sum0, List.length_replicate]; omega) (by omega) (by omega)⟩ (Ev.now _)
    · rw [if_neg (by simp; omega)]
      exact Ev.of_eq fun k => if_pos (by omega)
  | false =>
    rw [if_neg (by simp)]
    exact Ev.of_eq fun k => if_neg (by simp)
theorem spec_PoolRun_ev (n : Int) (l : List IE) (wk : Int) (picks : List Int) (hp : picks.length ≤ 1000000000) : Ev (fun k => spec_PoolRun.f k n l wk picks) (poolRunL n l wk picks) := by
  unfold spec_PoolRun.f poolRunL
  refine Ev.bind (spec_GraphOk_ev n l) ?_
  unfold poolOk
  cases hg : graphOk n l with
  | false =>
    rw [Bool.false_and, if_neg (by simp)]
    exact Ev.congr (fun k => if_neg (by simp)) (Ev.succ fun k => by simp only [spec_PoolRun.j0, if_true])
  | true =>
    refine Ev.congr (fun k => if_pos rfl) ?_
    rw [Bool.true_and]
    refine Ev.bindc (l1In_eq _ _ _) ?_
    by_cases hw : 1 ≤ wk ∧ wk ≤ 8
    · rw [decide_eq_true hw]
      refine Ev.congr (fun k => if_pos rfl) ?_
      obtain ⟨n0, n1, hl, hf⟩ := graphOk_spec hg
      obtain ⟨N, rfl⟩ : ∃ N : Nat, n = (N : Int) := ⟨n.toNat, by omega⟩
      rw [Int.toNat_natCast]
      have hf0 : fitL l (List.replicate N 0) := fun e he => by rw [List.length_replicate]; exact (hf e he).1
      by_cases c : picks.length ≤ 2000
      · rw [if_pos ⟨rfl, c⟩, decide_eq_false (by omega)]
        have hw2 : wrap64 (2 * (N : Int)) = ((2 * N : Nat) : Int) := by rw [w64 (by omega) (by omega)]; omega
        have key : ∀ (q fr : Nat) (is : List Int) (out : List IM), fr + q = 2 * N → is.length = N → lvl is → out.length ≤ fr → Ev (fun k => spec_PoolRun.l0 k (N : Int) l wk picks out is (fr : Int)) (runP l wk picks q fr is out, true) := by
          intro q
          induction q with
          | zero =>
            intro fr is out hq hn h ho
            refine Ev.succ (fun k => ?_)
            simp only [spec_PoolRun.l0]
            rw [hw2, if_neg (by omega)]
            rfl
          | succ q ih =>
            intro fr is out hq hn h ho
            have hfi := fitL_len (is' := is) hf0 (by simpa using hn)
            have hm := spec_l18Moves_ev (l := l) (is := is) wk hl (by omega) hfi
            have hu : runP l wk picks (q + 1) fr is out = if (movesL l wk is).length = 0 then out else runP l wk picks q (fr + 1) (doL is (rd_T94 (movesL l wk is) (pickN picks fr (movesL l wk is).length : Int)).f1) (out ++ [rd_T94 (movesL l wk is) (pickN picks fr (movesL l wk is).length : Int)]) := rfl
            rw [hu]
            have hml := movesL_len l wk is
            have hmem : ∀ j : Nat, j < (movesL l wk is).length → spec_l18Do.f is (rd_T94 (movesL l wk is) (j : Int)).f0 (rd_T94 (movesL l wk is) (j : Int)).f1 = some (doL is (rd_T94 (movesL l wk is) (j : Int)).f1) ∧ lvl (doL is (rd_T94 (movesL l wk is) (j : Int)).f1) := fun j hj => ⟨spec_l18Do_eq (by omega) (rd_moves hj), (do_lvl h (rd_moves hj)).1⟩
            generalize movesL l wk is = ml at hm hml hmem
            refine Ev.step (f := fun k => (spec_l18Moves.f k l wk is).bind fun t => if (t.length : Int) = 0 then some (out, true) else (spec_l18Pick.f picks (fr : Int) (t.length : Int)).bind fun j => if 0 ≤ j then (if j < (t.length : Int) then (spec_l18Do.f is (rd_T94 t j).f0 (rd_T94 t j).f1).bind fun u => (if out.length < 8796093022208 then spec_PoolRun.l0 k (N : Int) l wk picks (out ++ [⟨(rd_T94 t j).f0, (rd_T94 t j).f1⟩]) u ((fr + 1 : Nat) : Int) else none) else none) else none) (fun k => ?_) (Ev.bind hm ?_)
            · simp only [spec_PoolRun.l0]
              rw [hw2, if_pos (by omega), w64_nat fr (by omega)]
            · by_cases cz : ml.length = 0
              · rw [if_pos cz]
                exact Ev.of_eq fun k => if_pos (by omega)
              · rw [if_neg cz]
                refine Ev.congr (fun k => if_neg (by omega)) ?_
                have hpk := pickN_lt picks fr (n := ml.length) (by omega)
                obtain ⟨h1, h2⟩ := hmem _ hpk
                refine Ev.bindc (l18Pick_eq picks fr (by omega) (by omega)) ?_
                refine Ev.congr (fun k => (if_pos (by omega)).trans (if_pos (by omega))) (Ev.bindc h1 (Ev.congr (fun k => if_pos (by omega)) ?_))
                exact ih (fr + 1) _ _ (by omega) (by rw [doL_len]; exact hn) h2 (by rw [List.length_append]; simp; omega)
        refine Ev.step (f := fun k => spec_PoolRun.l0 k (N : Int) l wk picks [] (List.replicate N 0) 0) (fun k => ?_) (key (2 * N) 0 (List.replicate N 0) [] (by omega) List.length_replicate (lvl0 N) (by simp))
        simp only [spec_PoolRun.j0]
        rw [if_neg (by simp), if_pos (by omega), if_pos (by omega), Int.toNat_natCast]
      · rw [if_neg (by simp; omega), decide_eq_true (by omega)]
        exact Ev.succ fun k => by simp only [spec_PoolRun.j0, if_true]
    · rw [decide_eq_false hw, if_neg (by simp)]
      exact Ev.congr (fun k => if_neg (by simp)) (Ev.succ fun k => by simp only [spec_PoolRun.j0, if_true])
theorem runP_len (l : List IE) (wk : Int) (picks : List Int) : ∀ (q fr : Nat) (is : List Int) (out : List IM), (runP l wk picks q fr is out).length ≤ out.length + q := by
  intro q
  induction q with
  | zero => intro fr is out; exact Nat.le_refl _
  | succ q ih =>
    intro fr is out
    show (if _ then out else _ : List IM).length ≤ _
    split
    · omega
    · have := ih (fr + 1) (doL is (rd_T94 (movesL l wk is) (pickN picks fr (movesL l wk is).length : Int)).f1) (out ++ [rd_T94 (movesL l wk is) (pickN picks fr (movesL l wk is).length : Int)])
      rw [List.length_append] at this
      simp only [List.length_cons, List.length_nil] at this
      omega
theorem poolRunL_len (n : Int) (l : List IE) (wk : Int) (picks : List Int) : (poolRunL n l wk picks).1.length ≤ 1000 := by
  unfold poolRunL
  split
  · rename_i h
    have hg : graphOk n l = true := by
      have := h.1
      unfold poolOk at this
      rw [Bool.and_eq_true] at this
      exact this.1
    obtain ⟨n0, n1, _⟩ := graphOk_spec hg
    have := runP_len l wk picks (2 * n.toNat) 0 (List.replicate n.toNat 0) []
    simp only [List.length_nil] at this
    show (runP l wk picks (2 * n.toNat) 0 (List.replicate n.toNat 0) []).length ≤ 1000
    omega
  · simp

-- chunk runs: a run told by its moves; each is one that there is
def runM (l : List IE) (wk : Int) (picks : List Int) : Nat → Nat → List Int → List IM
  | 0, _, _ => []
  | q + 1, fr, is => if (movesL l wk is).length = 0 then [] else rd_T94 (movesL l wk is) (pickN picks fr (movesL l wk is).length : Int) :: runM l wk picks q (fr + 1) (doL is (rd_T94 (movesL l wk is) (pickN picks fr (movesL l wk is).length : Int)).f1)
theorem runP_eq (l : List IE) (wk : Int) (picks : List Int) : ∀ (q fr : Nat) (is : List Int) (out : List IM), runP l wk picks q fr is out = out ++ runM l wk picks q fr is := by
  intro q
  induction q with
  | zero => intro fr is out; simp [runP, runM]
  | succ q ih =>
    intro fr is out
    unfold runP runM
    split
    · simp
    · rw [ih, List.append_assoc]
      rfl
theorem rise_unique {l1 l2 : List Int} (h1 : l1.Pairwise (· < ·)) (h2 : l2.Pairwise (· < ·)) (h : ∀ x, x ∈ l1 ↔ x ∈ l2) : l1 = l2 := by
  induction l1 generalizing l2 with
  | nil =>
    cases l2 with
    | nil => rfl
    | cons b u => exact absurd ((h b).2 (by simp)) (by simp)
  | cons a t ih =>
    cases l2 with
    | nil => exact absurd ((h a).1 (by simp)) (by simp)
    | cons b u =>
      rw [List.pairwise_cons] at h1 h2
      have hab : a = b := by
        have q1 := (h a).1 (by simp)
        have q2 := (h b).2 (by simp)
        rw [List.mem_cons] at q1 q2
        rcases q1 with q1 | q1
        · exact q1
        · rcases q2 with q2 | q2
          · exact q2.symm
          · have := h1.1 b q2
            have := h2.1 a q1
            omega
      subst hab
      rw [ih h1.2 h2.2 (fun x => ?_)]
      have q := h x
      rw [List.mem_cons, List.mem_cons] at q
      constructor
      · intro hx
        have := h1.1 x hx
        rcases q.1 (.inr hx) with e | e
        · omega
        · exact e
      · intro hx
        have := h2.1 x hx
        rcases q.2 (.inr hx) with e | e
        · omega
        · exact e
theorem srt_pair (l : List Int) : (l.mergeSort fun x y => decide (x ≤ y)).Pairwise (· ≤ ·) := by
  have h := List.pairwise_mergeSort (le := fun x y : Int => decide (x ≤ y)) (fun a b c h1 h2 => by simp at h1 h2 ⊢; omega) (fun a b => by simp; omega) l
  exact h.imp (fun h => by simpa using h)
theorem srt_get {s : List Int} (h : s.Pairwise (· ≤ ·)) {i j : Nat} (hij : i ≤ j) (hj : j < s.length) : s.toArray[i]! ≤ s.toArray[j]! := by
  rw [getElem!_pos s.toArray i (by simp; omega), getElem!_pos s.toArray j (by simpa using hj)]
  simp only [List.getElem_toArray]
  rcases Nat.lt_or_ge i j with h1 | h1
  · exact List.pairwise_iff_getElem.1 h i j (by omega) hj h1
  · obtain rfl : i = j := by omega
    exact Int.le_refl _
theorem asc_rise (l : List Int) : (ascL l).Pairwise (· < ·) := by
  unfold ascL Lib.compact Lib.compactUpTo
  have hs := srt_pair l
  obtain ⟨s, es⟩ : ∃ s, s = l.mergeSort fun x y => decide (x ≤ y) := ⟨_, rfl⟩
  rw [← es] at hs ⊢
  rw [List.pairwise_map]
  refine List.Pairwise.imp_of_mem (fun {a b} ha hb hab => ?_) (List.Pairwise.filter _ List.pairwise_lt_range)
  rw [List.mem_filter, List.mem_range] at ha hb
  have hk := hb.2
  unfold Lib.keeps at hk
  have hk := of_decide_eq_true hk
  have hne := hk.resolve_left (by omega)
  have q1 := srt_get hs (i := a) (j := b - 1) (by omega) (by omega)
  have q2 := srt_get hs (i := b - 1) (j := b) (by omega) (by omega)
  omega
theorem asc_mem (l : List Int) (x : Int) : x ∈ ascL l ↔ x ∈ l := by
  unfold ascL Lib.compact Lib.compactUpTo
  rw [← List.mem_mergeSort (le := fun x y : Int => decide (x ≤ y)) (l := l)]
  obtain ⟨s, es⟩ : ∃ s, s = l.mergeSort fun x y => decide (x ≤ y) := ⟨_, rfl⟩
  rw [← es]
  have get : ∀ j (hj : j < s.length), s.toArray[j]! = s[j] := fun j hj => by
    rw [getElem!_pos s.toArray j (by simpa using hj)]
    simp
  have key : ∀ j, j < s.length → ∃ i, i < s.length ∧ Lib.keeps s.toArray i = true ∧ s.toArray[i]! = s.toArray[j]! := by
    intro j
    induction j with
    | zero => intro h; exact ⟨0, h, by simp [Lib.keeps], rfl⟩
    | succ j ih =>
      intro h
      by_cases hk : Lib.keeps s.toArray (j + 1) = true
      · exact ⟨j + 1, h, hk, rfl⟩
      · obtain ⟨i, h1, h2, h3⟩ := ih (by omega)
        refine ⟨i, h1, h2, h3.trans ?_⟩
        unfold Lib.keeps at hk
        have hk : ¬ (j + 1 = 0 ∨ s.toArray[j + 1]! ≠ s.toArray[j + 1 - 1]!) := fun h => hk (decide_eq_true h)
        have := Decidable.not_not.1 (fun h => hk (.inr h))
        rw [this]; rfl
  constructor
  · intro h
    obtain ⟨j, hj, rfl⟩ := List.mem_map.1 h
    rw [List.mem_filter, List.mem_range] at hj
    rw [get j hj.1]
    exact List.getElem_mem _
  · intro h
    obtain ⟨j, hj, rfl⟩ := List.mem_iff_getElem.1 h
    obtain ⟨i, h1, h2, h3⟩ := key j hj
    refine List.mem_map.2 ⟨i, List.mem_filter.2 ⟨List.mem_range.2 h1, h2⟩, ?_⟩
    rw [h3, get j hj]
theorem asc_congr {l l' : List Int} (h : ∀ x, x ∈ l ↔ x ∈ l') : ascL l = ascL l' :=
  rise_unique (asc_rise l) (asc_rise l') (fun x => by rw [asc_mem, asc_mem]; exact h x)
theorem asc_eq {l r : List Int} (h1 : r.Pairwise (· < ·)) (h2 : ∀ x, x ∈ r ↔ x ∈ l) : r = ascL l :=
  rise_unique h1 (asc_rise l) (fun x => by rw [asc_mem]; exact h2 x)
def pushL (out : List Int) (x : Int) : List Int := if out.getLast? = some x then out else out ++ [x]
theorem push_len (out : List Int) (x : Int) : (pushL out x).length ≤ out.length + 1 := by
  unfold pushL
  split <;> simp
theorem push_code {ρ : Type} (out : List Int) (hl : out.length ≤ 1000000000000) (x : Int) (F : List Int → Option ρ) :
    (if (out.length : Int) = 0 then (if out.length < 17592186044416 then (F (out ++ [x])) else (none)) else (if 0 ≤ (wrap64 ((out.length : Int) - 1)) then (if (wrap64 ((out.length : Int) - 1)) < (out.length : Int) then (if (rd out (wrap64 ((out.length : Int) - 1))) = x then (F out) else (if out.length < 17592186044416 then (F (out ++ [x])) else (none))) else (none)) else (none))) = F (pushL out x) := by
  unfold pushL
  by_cases h : out = []
  · subst h
    simp
  · have hp := List.length_pos_iff.2 h
    have e : wrap64 ((out.length : Int) - 1) = ((out.length - 1 : Nat) : Int) := by rw [w64 (by omega) (by omega)]; omega
    rw [if_neg (by omega), e, if_pos (by omega), if_pos (by omega), rd_lt _ (by omega), List.getLast?_eq_getElem?, List.getElem?_eq_getElem (by omega)]
    by_cases hx : out[out.length - 1] = x
    · rw [if_pos hx, if_pos (by rw [hx])]
    · rw [if_neg hx, if_neg (fun he => hx (Option.some.inj he)), if_pos (by omega)]
theorem push_spec {out : List Int} {x : Int} (h : out.Pairwise (· < ·)) (hx : ∀ y ∈ out, y ≤ x) : (pushL out x).Pairwise (· < ·) ∧ ∀ z, z ∈ pushL out x ↔ z ∈ out ∨ z = x := by
  unfold pushL
  split
  · rename_i hl
    have hm : x ∈ out := List.mem_of_getLast? hl
    exact ⟨h, fun z => ⟨.inl, fun hz => hz.elim id (fun e => e ▸ hm)⟩⟩
  · rename_i hl
    have hn : x ∉ out := by
      intro hm
      have hne : out ≠ [] := by rintro rfl; simp at hm
      have hp := List.length_pos_iff.2 hne
      apply hl
      rw [List.getLast?_eq_getElem?, List.getElem?_eq_getElem (by omega)]
      congr 1
      obtain ⟨i, hi, rfl⟩ := List.mem_iff_getElem.1 hm
      have h2 := hx (out[out.length - 1]) (List.getElem_mem _)
      rcases Nat.lt_or_ge i (out.length - 1) with h3 | h3
      · have := List.pairwise_iff_getElem.1 h i (out.length - 1) hi (by omega) h3
        omega
      · have e : i = out.length - 1 := by omega
        subst e; rfl
    refine ⟨List.pairwise_append.2 ⟨h, by simp, fun a ha b hb => ?_⟩, fun z => by simp⟩
    obtain rfl := List.mem_singleton.1 hb
    have := hx a ha
    have : a ≠ b := fun e => hn (e ▸ ha)
    omega
theorem rise_le {l : List Int} (h : l.Pairwise (· < ·)) {i j : Nat} (hij : i ≤ j) (hj : j < l.length) : l[i] ≤ l[j] := by
  rcases Nat.lt_or_ge i j with h1 | h1
  · exact Int.le_of_lt (List.pairwise_iff_getElem.1 h i j (by omega) hj h1)
  · obtain rfl : i = j := by omega
    exact Int.le_refl _

-- chunk sorted: the reference's sorting by halves, unions and meets
theorem mem_take_succ {l : List Int} {i : Nat} (h : i < l.length) (z : Int) : z ∈ l.take (i + 1) ↔ z ∈ l.take i ∨ z = l[i] := by
  rw [List.take_succ_eq_append_getElem h, List.mem_append, List.mem_singleton]
theorem merge_ev {a b : List Int} (ha : a.Pairwise (· < ·)) (hb : b.Pairwise (· < ·)) (hl : a.length + b.length ≤ 1000000000) :
    Ev (fun k => spec_l10Sorted.l0 k a b [] 0 0) (ascL (a ++ b)) := by
  have key : ∀ (d : Nat) (out : List Int) (i j : Nat), (a.length - i) + (b.length - j) = d → i ≤ a.length → j ≤ b.length → out.length ≤ i + j → out.Pairwise (· < ·) →
      (∀ z, z ∈ out ↔ z ∈ a.take i ∨ z ∈ b.take j) → (∀ y ∈ out, ∀ p (hp : p < a.length), i ≤ p → y ≤ a[p]) → (∀ y ∈ out, ∀ p (hp : p < b.length), j ≤ p → y ≤ b[p]) →
      Ev (fun k => spec_l10Sorted.l0 k a b out (i : Int) (j : Int)) (ascL (a ++ b)) := by
    intro d
    induction d with
    | zero =>
      intro out i j hd hi hj hlen hr hm _ _
      obtain rfl : i = a.length := by omega
      obtain rfl : j = b.length := by omega
      refine Ev.step (f := fun k => spec_l10Sorted.j1 k a b out (a.length : Int) (b.length : Int) false) (fun k => ?_) (Ev.succ (fun k => ?_))
      · simp only [spec_l10Sorted.l0]
        rw [if_neg (by omega), decide_eq_false (by omega)]
      · simp only [spec_l10Sorted.j1]
        rw [if_neg (by simp)]
        congr 1
        refine asc_eq hr (fun x => ?_)
        rw [hm, List.take_length, List.take_length, List.mem_append]
    | succ d ih =>
      intro out i j hd hi hj hlen hr hm hA hB
      -- the way of one side
      have left : ∀ hia : i < a.length, (∀ p (hp : p < b.length), j ≤ p → a[i] ≤ b[p]) → Ev (fun k => spec_l10Sorted.j2 k a b out (i : Int) (j : Int) true) (ascL (a ++ b)) := by
        intro hia hle
        have hx := fun y hy => hA y hy i hia (Nat.le_refl _)
        have hs := push_spec hr hx
        refine Ev.step (f := fun k => spec_l10Sorted.l0 k a b (pushL out a[i]) ((i + 1 : Nat) : Int) (j : Int)) (fun k => ?_) (ih (pushL out a[i]) (i + 1) j (by omega) (by omega) hj (by have := push_len out a[i]; omega) hs.1 (fun z => ?_) (fun y hy p hp hip => ?_) (fun y hy p hp hjp => ?_))
        · simp only [spec_l10Sorted.j2]
          rw [if_pos (by simp), if_pos (by omega), if_pos (by omega), w64_succ hia (by omega), rd_lt _ hia]
          exact push_code out (by omega) a[i] (fun o => spec_l10Sorted.l0 k a b o ((i + 1 : Nat) : Int) (j : Int))
        · rw [hs.2, hm, mem_take_succ hia]
          constructor
          · rintro ((h | h) | h)
            · exact .inl (.inl h)
            · exact .inr h
            · exact .inl (.inr h)
          · rintro ((h | h) | h)
            · exact .inl (.inl h)
            · exact .inr h
            · exact .inl (.inr h)
        · rcases (hs.2 y).1 hy with h | rfl
          · exact hA y h p hp (by omega)
          · exact rise_le ha (by omega) hp
        · rcases (hs.2 y).1 hy with h | rfl
          · exact hB y h p hp hjp
          · exact hle p hp hjp
      have right : ∀ hjb : j < b.length, (∀ p (hp : p < a.length), i ≤ p → b[j] ≤ a[p]) → Ev (fun k => spec_l10Sorted.j2 k a b out (i : Int) (j : Int) false) (ascL (a ++ b)) := by
        intro hjb hle
        have hx := fun y hy => hB y hy j hjb (Nat.le_refl _)
        have hs := push_spec hr hx
        refine Ev.step (f := fun k => spec_l10Sorted.l0 k a b (pushL out b[j]) (i : Int) ((j + 1 : Nat) : Int)) (fun k => ?_) (ih (pushL out b[j]) i (j + 1) (by omega) hi (by omega) (by have := push_len out b[j]; omega) hs.1 (fun z => ?_) (fun y hy p hp hip => ?_) (fun y hy p hp hjp => ?_))
        · simp only [spec_l10Sorted.j2]
          rw [if_neg (by simp), if_pos (by omega), if_pos (by omega), w64_succ hjb (by omega), rd_lt _ hjb]
          exact push_code out (by omega) b[j] (fun o => spec_l10Sorted.l0 k a b o (i : Int) ((j + 1 : Nat) : Int))
        · rw [hs.2, hm, mem_take_succ hjb]
          constructor
          · rintro ((h | h) | h)
            · exact .inl h
            · exact .inr (.inl h)
            · exact .inr (.inr h)
          · rintro (h | h | h)
            · exact .inl (.inl h)
            · exact .inl (.inr h)
            · exact .inr h
        · rcases (hs.2 y).1 hy with h | rfl
          · exact hA y h p hp hip
          · exact hle p hp hip
        · rcases (hs.2 y).1 hy with h | rfl
          · exact hB y h p hp (by omega)
          · exact rise_le hb (by omega) hp
      have inner : Ev (fun k => spec_l10Sorted.j1 k a b out (i : Int) (j : Int) true) (ascL (a ++ b)) := by
        by_cases hjb : j < b.length
        · by_cases hia : i < a.length
          · by_cases hc : a[i] ≤ b[j]
            · refine Ev.step (fun k => ?_) (left hia (fun p hp hjp => Int.le_trans hc (rise_le hb hjp hp)))
              simp only [spec_l10Sorted.j1]
              rw [if_pos (by simp), if_neg (by omega), if_pos (by omega), if_pos (by omega), if_pos (by omega), if_pos (by omega), rd_lt _ hia, rd_lt _ hjb, decide_eq_true hc]
            · refine Ev.step (fun k => ?_) (right hjb (fun p hp hip => Int.le_trans (by omega) (rise_le ha hip hp)))
              simp only [spec_l10Sorted.j1]
              rw [if_pos (by simp), if_neg (by omega), if_pos (by omega), if_pos (by omega), if_pos (by omega), if_pos (by omega), rd_lt _ hia, rd_lt _ hjb, decide_eq_false hc]
          · refine Ev.step (fun k => ?_) (right hjb (fun p hp hip => by omega))
            simp only [spec_l10Sorted.j1]
            rw [if_pos (by simp), if_neg (by omega), if_neg (by omega)]
        · refine Ev.step (fun k => ?_) (left (by omega) (fun p hp hjp => by omega))
          simp only [spec_l10Sorted.j1]
          rw [if_pos (by simp), if_pos (by omega)]
      refine Ev.step (fun k => ?_) inner
      simp only [spec_l10Sorted.l0]
      by_cases hia : i < a.length
      · rw [if_pos (by omega)]
      · rw [if_neg (by omega), decide_eq_true (by omega)]
  exact key _ [] 0 0 rfl (by omega) (by omega) (by simp) (by simp) (fun z => by simp) (fun y hy => by simp at hy) (fun y hy => by simp at hy)
theorem spec_l10Sorted_ev (l : List Int) (hl : l.length ≤ 1000000000) : Ev (fun k => spec_l10Sorted.f k l) (ascL l) := by
  obtain ⟨n, hn⟩ : ∃ n, l.length ≤ n := ⟨_, Nat.le_refl _⟩
  induction n generalizing l with
  | zero =>
    obtain rfl : l = [] := List.length_eq_zero_iff.1 (by omega)
    refine Ev.succ (fun k => ?_)
    simp only [spec_l10Sorted.f]
    rw [if_pos (by simp)]
    simp only [Option.bind_some]
    have e0 : ascL [] = [] := (asc_eq (by simp) (by simp)).symm
    rw [if_pos (by simp), e0]
    rfl
  | succ n ih =>
    by_cases h2 : l.length < 2
    · refine Ev.succ (fun k => ?_)
      simp only [spec_l10Sorted.f]
      rw [if_pos (by omega)]
      simp only [Option.bind_some]
      rw [if_pos (by simp; omega), List.nil_append]
      congr 1
      refine asc_eq ?_ (fun x => Iff.rfl)
      match l, h2 with
      | [], _ => simp
      | [a], _ => simp
    · have e : wrap64 ((l.length : Int) / 2) = ((l.length / 2 : Nat) : Int) := by rw [w64 (by omega) (by omega)]; omega
      have h := ih (l.take (l.length / 2)) (by rw [List.length_take]; omega) (by rw [List.length_take]; omega)
      have h' := ih (l.drop (l.length / 2)) (by rw [List.length_drop]; omega) (by rw [List.length_drop]; omega)
      have q1 := asc_len (l.take (l.length / 2))
      have q2 := asc_len (l.drop (l.length / 2))
      rw [List.length_take] at q1
      rw [List.length_drop] at q2
      have hm := merge_ev (asc_rise (l.take (l.length / 2))) (asc_rise (l.drop (l.length / 2))) (by omega)
      have er : ascL (ascL (l.take (l.length / 2)) ++ ascL (l.drop (l.length / 2))) = ascL l := asc_congr (fun x => by
        rw [List.mem_append, asc_mem, asc_mem, ← List.mem_append, List.take_append_drop])
      rw [er] at hm
      refine Ev.step (f := fun k => (spec_l10Sorted.f k (l.take (l.length / 2))).bind fun t => (spec_l10Sorted.f k (l.drop (l.length / 2))).bind fun u => spec_l10Sorted.l0 k t u [] 0 0) (fun k => ?_) (Ev.bind h (Ev.bind h' hm))
      simp only [spec_l10Sorted.f, e, Int.toNat_natCast]
      rw [if_neg (by omega), if_pos (by omega), if_pos (by omega)]
def meetL (x y : List Int) : List Int := x.filter fun z => decide (z ∈ y)
theorem meet_mem (a b : List Int) (x : Int) : x ∈ meetL (ascL a) (ascL b) ↔ x ∈ a ∧ x ∈ b := by
  unfold meetL
  rw [List.mem_filter, asc_mem, decide_eq_true_eq, asc_mem]
theorem meet_len (a b : List Int) : (meetL a b).length ≤ a.length := List.length_filter_le _ _
/-- What one writes and the other one writes or reads. -/
def hitsL (aw ar bw br : List Int) : List Int := ascL ((aw.filter fun x => decide (x ∈ bw ++ br)) ++ (bw.filter fun x => decide (x ∈ aw ++ ar)))
theorem hits_len (aw ar bw br : List Int) : (hitsL aw ar bw br).length ≤ aw.length + bw.length := by
  have h := asc_len ((aw.filter fun x => decide (x ∈ bw ++ br)) ++ (bw.filter fun x => decide (x ∈ aw ++ ar)))
  have h1 := List.length_filter_le (fun x => decide (x ∈ bw ++ br)) aw
  have h2 := List.length_filter_le (fun x => decide (x ∈ aw ++ ar)) bw
  rw [List.length_append] at h
  unfold hitsL
  omega
def spR : List IM → List Int × List Int
  | [] => ([], [])
  | m :: l => if m.f0 = 1 then ((spR l).1, (spR l).2 ++ [m.f1]) else if m.f0 = 2 then (if m.f1 ∈ (spR l).2 then spR l else ((spR l).1 ++ [m.f1], (spR l).2)) else spR l
theorem spR_cons (m : IM) (l : List IM) : spR (m :: l) = if m.f0 = 1 then ((spR l).1, (spR l).2 ++ [m.f1]) else if m.f0 = 2 then (if m.f1 ∈ (spR l).2 then spR l else ((spR l).1 ++ [m.f1], (spR l).2)) else spR l := rfl
theorem spR_len (l : List IM) : (spR l).1.length ≤ l.length ∧ (spR l).2.length ≤ l.length := by
  induction l with
  | nil => simp [spR]
  | cons m l ih =>
    rw [spR_cons]
    split
    · simp; omega
    · split
      · split
        · simp; omega
        · simp; omega
      · simp; omega
theorem spR_mem (l : List IM) : ∀ (o : List Int) (x : Int), x ∈ l.foldl nowStep o ↔ (x ∈ o ∧ x ∉ (spR l).2) ∨ x ∈ (spR l).1 := by
  induction l with
  | nil => intro o x; simp [spR]
  | cons m l ih =>
    intro o x
    rw [List.foldl_cons, ih, spR_cons]
    unfold nowStep
    by_cases h1 : m.f0 = 1
    · rw [if_neg (by omega), if_pos h1, if_pos h1]
      simp only [delL, List.mem_filter, List.mem_append, List.mem_singleton, Bool.not_eq_true', beq_eq_false_iff_ne, ne_eq, not_or]
      constructor
      · rintro (⟨⟨h2, h3⟩, h4⟩ | h2)
        · exact .inl ⟨h2, h4, h3⟩
        · exact .inr h2
      · rintro (⟨h2, h4, h3⟩ | h2)
        · exact .inl ⟨⟨h2, h3⟩, h4⟩
        · exact .inr h2
    · by_cases h2 : m.f0 = 2
      · rw [if_pos h2, if_neg h1, if_pos h2]
        by_cases h3 : m.f1 ∈ (spR l).2
        · rw [if_pos h3]
          simp only [List.mem_append, List.mem_singleton]
          constructor
          · rintro (⟨h4 | h4, h5⟩ | h4)
            · exact .inl ⟨h4, h5⟩
            · subst h4; exact absurd h3 h5
            · exact .inr h4
          · rintro (⟨h4, h5⟩ | h4)
            · exact .inl ⟨.inl h4, h5⟩
            · exact .inr h4
        · rw [if_neg h3]
          simp only [List.mem_append, List.mem_singleton]
          constructor
          · rintro (⟨h4 | h4, h5⟩ | h4)
            · exact .inl ⟨h4, h5⟩
            · exact .inr (.inr h4)
            · exact .inr (.inl h4)
          · rintro (⟨h4, h5⟩ | h4 | h4)
            · exact .inl ⟨.inl h4, h5⟩
            · exact .inr h4
            · subst h4; exact .inl ⟨.inr rfl, h3⟩
      · rw [if_neg h2, if_neg h1, if_neg h1, if_neg h2]
theorem spR_asc (l : List IM) : ascL (spR l).1 = ascL (nowL l) := asc_congr fun x => by
  have := spR_mem l [] x
  simp at this
  exact this.symm
theorem l4At_ev (l : List Int) (x : Int) (hl : l.length ≤ 1000000000) : ∃ r : Int, Ev (fun k => spec_l4At.f k l x) r ∧ (r < 0 ↔ x ∉ l) := by
  have key : ∀ (d i : Nat), i + d = l.length → ∃ r : Int, Ev (fun k => spec_l4At.l0 k l x (i : Int)) r ∧ (r < 0 ↔ x ∉ l.drop i) := by
    intro d
    induction d with
    | zero =>
      intro i hi
      refine ⟨-1, Ev.succ (fun k => ?_), ?_⟩
      · simp only [spec_l4At.l0]
        rw [if_neg (by omega)]
      · rw [List.drop_of_length_le (by omega)]
        simp
    | succ d ih =>
      intro i hi
      have hlt : i < l.length := by omega
      rw [List.drop_eq_getElem_cons hlt]
      by_cases e : l[i] = x
      · refine ⟨(i : Int), Ev.succ (fun k => ?_), ?_⟩
        · simp only [spec_l4At.l0]
          rw [if_pos (by omega), if_pos (by omega), rd_lt l hlt, if_pos e]
        · simp [e]
      · obtain ⟨r, h1, h2⟩ := ih (i + 1) (by omega)
        refine ⟨r, Ev.step (fun k => ?_) h1, ?_⟩
        · simp only [spec_l4At.l0]
          rw [if_pos (by omega), if_pos (by omega), rd_lt l hlt, if_neg e, w64_nat i (by omega)]
        · rw [h2]
          simp only [List.mem_cons, not_or]
          exact ⟨fun h => ⟨fun h3 => e h3.symm, h⟩, fun h => h.2⟩
  obtain ⟨r, h1, h2⟩ := key l.length 0 (by omega)
  exact ⟨r, h1, by simpa using h2⟩
def runningL (l : List IM) : List Int := if 200 < l.length then [] else ascL (nowL l)
theorem spec_Running_ev (l : List IM) (hl : l.length ≤ 17592186044416) : Ev (fun k => spec_Running.f k l) (runningL l) := by
  unfold spec_Running.f runningL
  simp only [Option.bind_some]
  by_cases c : 200 < l.length
  · rw [if_pos c]
    exact Ev.of_eq fun k => if_pos (by omega)
  · rw [if_neg c]
    refine Ev.congr (fun k => if_neg (by omega)) ?_
    have key : ∀ (i : Nat), i ≤ l.length → Ev (fun k => spec_Running.l0 k l (spR (l.drop i)).1 (spR (l.drop i)).2 ((i : Int) - 1)) (ascL (nowL l)) := by
      intro i
      induction i with
      | zero =>
        intro _
        rw [List.drop_zero]
        have h := spec_l10Sorted_ev (spR l).1 (by have := (spR_len l).1; omega)
        rw [spR_asc] at h
        refine Ev.step (f := fun k => (spec_l10Sorted.f k (spR l).1).bind fun t => some t) (fun k => ?_) (Ev.bind h (Ev.now _))
        simp only [spec_Running.l0]
        rw [if_neg (by omega)]
      | succ i ih =>
        intro hi
        have hlt : i < l.length := by omega
        have h := ih (by omega)
        have hs : spR (l.drop i) = spR (l[i] :: l.drop (i + 1)) := by rw [List.drop_eq_getElem_cons hlt]
        have hlen := spR_len (l.drop (i + 1))
        rw [List.length_drop] at hlen
        rw [hs] at h
        generalize l.drop (i + 1) = s at h hlen
        have e1 : (((i + 1 : Nat) : Int) - 1) = (i : Int) := by omega
        rw [e1]
        have e2 : wrap64 ((i : Int) - 1) = (i : Int) - 1 := w64 (by omega) (by omega)
        rw [spR_cons] at h
        by_cases h1 : l[i].f0 = 1
        · rw [if_pos h1] at h
          refine Ev.step (fun k => ?_) h
          simp only [spec_Running.l0]
          rw [if_pos (by omega), if_pos (by omega), if_pos (by omega), rd_IM hlt, if_pos h1, if_pos (by omega), e2]
        · rw [if_neg h1] at h
          by_cases h2 : l[i].f0 = 2
          · rw [if_pos h2] at h
            obtain ⟨r, hr, hr2⟩ := l4At_ev (spR s).2 l[i].f1 (by omega)
            by_cases h3 : l[i].f1 ∈ (spR s).2
            · rw [if_pos h3] at h
              refine Ev.step (f := fun k => (spec_l4At.f k (spR s).2 l[i].f1).bind fun t => if t < 0 then (if (spR s).1.length < 17592186044416 then spec_Running.l0 k l ((spR s).1 ++ [l[i].f1]) (spR s).2 ((i : Int) - 1) else none) else spec_Running.l0 k l (spR s).1 (spR s).2 ((i : Int) - 1)) (fun k => ?_) (Ev.bind hr (Ev.congr (fun k => if_neg (fun h4 => hr2.1 h4 h3)) h))
              simp only [spec_Running.l0]
              rw [if_pos (by omega), if_pos (by omega), if_pos (by omega), rd_IM hlt, if_neg h1, if_pos h2, e2]
            · rw [if_neg h3] at h
              refine Ev.step (f := fun k => (spec_l4At.f k (spR s).2 l[i].f1).bind fun t => if t < 0 then (if (spR s).1.length < 17592186044416 then spec_Running.l0 k l ((spR s).1 ++ [l[i].f1]) (spR s).2 ((i : Int) - 1) else none) else spec_Running.l0 k l (spR s).1 (spR s).2 ((i : Int) - 1)) (fun k => ?_) (Ev.bind hr (Ev.congr (fun k => if_pos (hr2.2 h3)) (Ev.congr (fun k => if_pos (by omega)) h)))
              simp only [spec_Running.l0]
              rw [if_pos (by omega), if_pos (by omega), if_pos (by omega), rd_IM hlt, if_neg h1, if_pos h2, e2]
          · rw [if_neg h2] at h
            refine Ev.step (fun k => ?_) h
            simp only [spec_Running.l0]
            rw [if_pos (by omega), if_pos (by omega), if_pos (by omega), rd_IM hlt, if_neg h1, if_neg h2, e2]
    have h := key l.length (Nat.le_refl _)
    rw [List.drop_length] at h
    rw [w64 (by omega) (by omega)]
    exact h
theorem impl_Running_eq (l : List IM) : impl_Running.f l = some (runningL l) := by
  unfold impl_Running.f runningL
  split <;> rfl
theorem runningL_len (l : List IM) : (runningL l).length ≤ 200 := by
  unfold runningL
  split
  · simp
  · have := asc_len (nowL l)
    have := nowL_len l
    omega

-- chunk widest: how many run at most
def wideTo (l : List IM) : Nat → Int
  | 0 => 0
  | i + 1 => mx (wideTo l i) ((runningL (l.take (i + 1))).length : Int)
def widestL (l : List IM) : Int := if 200 < l.length then 0 else wideTo l l.length
theorem impl_Widest_ev (l : List IM) (hl : l.length ≤ 17592186044416) : Ev (fun k => impl_Widest.f k l) (widestL l) := by
  unfold impl_Widest.f widestL
  by_cases c : 200 < l.length
  · rw [if_pos c]
    exact Ev.of_eq fun k => if_pos (by omega)
  · rw [if_neg c]
    refine Ev.congr (fun k => if_neg (by omega)) ?_
    have key : ∀ (d i : Nat), i + d = l.length → Ev (fun k => impl_Widest.l0 k l (wideTo l i) (l.length : Int) (i : Int)) (wideTo l l.length) := by
      intro d
      induction d with
      | zero =>
        intro i hi
        obtain rfl : i = l.length := by omega
        refine Ev.succ (fun k => ?_)
        simp only [impl_Widest.l0]
        rw [if_neg (by omega)]
      | succ d ih =>
        intro i hi
        refine Ev.step (fun k => ?_) (ih (i + 1) (by omega))
        simp only [impl_Widest.l0]
        rw [if_pos (by omega), w64_nat i (by omega), if_pos (by omega), if_pos (by omega), Int.toNat_natCast, impl_Running_eq]
        rfl
    exact key l.length 0 (by omega)
theorem wideTo_le (l : List IM) (i : Nat) : 0 ≤ wideTo l i ∧ wideTo l i ≤ 200 := by
  induction i with
  | zero => simp [wideTo]
  | succ i ih =>
    have := runningL_len (l.take (i + 1))
    have e : wideTo l (i + 1) = mx (wideTo l i) ((runningL (l.take (i + 1))).length : Int) := rfl
    rw [e]
    unfold mx
    omega

-- chunk contains: slices.Index and slices.Contains of numbers
def edgeFree (d : List Int) (x : Int) (e : IE) : Bool := decide (e.f1 = x → e.f0 ∈ d)
def freeB (l : List IE) (d : List Int) (x : Int) : Bool := decide (x ∉ d) && l.all (edgeFree d x)
theorem freeB_iff (l : List IE) (d : List Int) (x : Int) : freeB l d x = true ↔ x ∉ d ∧ ∀ e ∈ l, e.f1 = x → e.f0 ∈ d := by
  unfold freeB edgeFree
  simp [Decidable.imp_iff_not_or]
theorem graphOk_iff (n : Int) (l : List IE) : graphOk n l = true ↔ (0 ≤ n ∧ n ≤ 16) ∧ l.length ≤ 200 ∧ ∀ e ∈ l, (0 ≤ e.f0 ∧ e.f0 ≤ n - 1) ∧ (0 ≤ e.f1 ∧ e.f1 ≤ n - 1) := by
  unfold graphOk edgeIn
  simp [and_assoc]

-- chunk ways: shortest ways of a graph, as the program's table and as the reference's rounds
def E (l : List IE) (a b : Nat) : Prop := ∃ e ∈ l, e.f0 = (a : Int) ∧ e.f1 = (b : Int)
instance (l : List IE) (a b : Nat) : Decidable (E l a b) := by
  unfold E
  infer_instance
/-- A way from a along the numbers p to b. -/
def isWay (l : List IE) : Nat → List Nat → Nat → Prop
  | a, [], b => a = b
  | a, v :: p, b => E l a v ∧ isWay l v p b
theorem isWay_append {l : List IE} {p q : List Nat} {a b : Nat} : isWay l a (p ++ q) b ↔ ∃ c, isWay l a p c ∧ isWay l c q b := by
  induction p generalizing a with
  | nil => simp [isWay]
  | cons v p ih =>
    simp only [List.cons_append, isWay, ih]
    constructor
    · rintro ⟨h, c, h1, h2⟩; exact ⟨c, ⟨h, h1⟩, h2⟩
    · rintro ⟨c, ⟨h, h1⟩, h2⟩; exact ⟨h, c, h1, h2⟩
theorem isWay_cut {l : List IE} {s t : List Nat} {a v b : Nat} (h : isWay l a (s ++ v :: t) b) : isWay l v t b := by
  obtain ⟨c, _, h2⟩ := isWay_append.1 h
  exact h2.2
theorem isWay_prune {l : List IE} {p : List Nat} {a b : Nat} (h : isWay l a p b) : ∃ q, isWay l a q b ∧ q.Nodup ∧ (p ≠ [] → q ≠ []) ∧ q.length ≤ p.length := by
  induction p generalizing a with
  | nil => exact ⟨[], h, List.nodup_nil, fun h => absurd rfl h, Nat.le_refl _⟩
  | cons v p ih =>
    obtain ⟨q, h1, h2, _, h4⟩ := ih h.2
    by_cases hv : v ∈ q
    · obtain ⟨s, t, rfl⟩ := List.append_of_mem hv
      refine ⟨v :: t, ⟨h.1, isWay_cut h1⟩, (List.nodup_append.1 h2).2.1, fun _ => by simp, ?_⟩
      simp at h4 ⊢
      omega
    · exact ⟨v :: q, ⟨h.1, h1⟩, List.nodup_cons.2 ⟨hv, h2⟩, fun _ => by simp, by simpa using h4⟩
theorem isWay_lt {l : List IE} {N : Nat} (hE : ∀ a b, E l a b → a < N ∧ b < N) {p : List Nat} {a b : Nat} (h : isWay l a p b) : ∀ x ∈ p, x < N := by
  induction p generalizing a with
  | nil => intro x hx; simp at hx
  | cons v p ih =>
    intro x hx
    rcases List.mem_cons.1 hx with rfl | hx
    · exact (hE _ _ h.1).2
    · exact ih h.2 x hx
theorem isWay_short {l : List IE} {N : Nat} (hE : ∀ a b, E l a b → a < N ∧ b < N) {p : List Nat} {a b : Nat} (hp : p ≠ []) (h : isWay l a p b) : ∃ q, isWay l a q b ∧ q ≠ [] ∧ q.length ≤ N ∧ q.length ≤ p.length := by
  obtain ⟨q, h1, h2, h3, h4⟩ := isWay_prune h
  exact ⟨q, h1, h3 hp, nodup_len h2 (isWay_lt hE h1), h4⟩
/-- There is a way of m steps. -/
def Way (l : List IE) (m a b : Nat) : Prop := ∃ p, p.length = m ∧ isWay l a p b
theorem Way.one {l : List IE} {a b : Nat} : Way l 1 a b ↔ E l a b := by
  constructor
  · rintro ⟨p, hp, h⟩
    match p, hp with
    | [v], _ => obtain ⟨h1, rfl⟩ := h; exact h1
  · intro h; exact ⟨[b], rfl, h, rfl⟩
theorem Way.join {l : List IE} {m n a b c : Nat} (h : Way l m a c) (h' : Way l n c b) : Way l (m + n) a b := by
  obtain ⟨p, hp, h⟩ := h
  obtain ⟨q, hq, h'⟩ := h'
  exact ⟨p ++ q, by simp [hp, hq], isWay_append.2 ⟨c, h, h'⟩⟩
theorem Way.snoc {l : List IE} {m a b : Nat} : Way l (m + 1) a b ↔ ∃ c, Way l m a c ∧ E l c b := by
  constructor
  · rintro ⟨p, hp, h⟩
    obtain ⟨q, v, rfl⟩ : ∃ q v, p = q ++ [v] := ⟨p.dropLast, p.getLast (by intro e; simp [e] at hp), (List.dropLast_concat_getLast _).symm⟩
    obtain ⟨c, h1, h2, h3⟩ := isWay_append.1 h
    obtain rfl := h3
    exact ⟨c, ⟨q, by simpa using hp, h1⟩, h2⟩
  · rintro ⟨c, h, h'⟩
    exact Way.join h (Way.one.2 h')
/-- The least number of steps that lead from a to b; 0: there is none. -/
def isDist (l : List IE) (a b : Nat) (d : Nat) : Prop := (d = 0 ∧ ∀ m, 0 < m → ¬ Way l m a b) ∨ (0 < d ∧ Way l d a b ∧ ∀ m, 0 < m → m < d → ¬ Way l m a b)
theorem isDist_unique {l : List IE} {a b d d' : Nat} (h : isDist l a b d) (h' : isDist l a b d') : d = d' := by
  rcases h with ⟨rfl, h⟩ | ⟨h0, h1, h2⟩ <;> rcases h' with ⟨rfl, h'⟩ | ⟨h0', h1', h2'⟩
  · rfl
  · exact absurd h1' (h _ h0')
  · exact absurd h1 (h' _ h0)
  · rcases Nat.lt_trichotomy d d' with hl | hl | hl
    · exact absurd h1 (h2' _ h0 hl)
    · exact hl
    · exact absurd h1' (h2 _ h0' hl)
theorem isDist_le {l : List IE} {N : Nat} (hE : ∀ a b, E l a b → a < N ∧ b < N) {a b d : Nat} (h : isDist l a b d) : d ≤ N := by
  rcases h with ⟨rfl, _⟩ | ⟨h0, ⟨p, hp, h1⟩, h2⟩
  · omega
  · obtain ⟨q, g1, g2, g3, g4⟩ := isWay_short hE (by intro e; simp [e] at hp; omega) h1
    apply Classical.byContradiction
    intro hn
    exact h2 q.length (List.length_pos_iff.2 g2) (by omega) ⟨q, rfl, g1⟩
/-! Ways whose inner numbers are below k. -/
inductive Wk (l : List IE) (k : Nat) : Nat → Nat → Nat → Prop
  | edge {a b : Nat} (h : E l a b) : Wk l k 1 a b
  | join {m n a b c : Nat} (h : Wk l k m a c) (h' : Wk l k n c b) (hc : c < k) : Wk l k (m + n) a b
theorem Wk.pos {l : List IE} {k m a b : Nat} (h : Wk l k m a b) : 0 < m := by
  induction h with
  | edge _ => omega
  | join _ _ _ _ _ => omega
theorem Wk.up {l : List IE} {k m a b : Nat} (h : Wk l k m a b) : Wk l (k + 1) m a b := by
  induction h with
  | edge h => exact .edge h
  | join _ _ hc ih ih' => exact .join ih ih' (by omega)
theorem Wk.way {l : List IE} {k m a b : Nat} (h : Wk l k m a b) : Way l m a b := by
  induction h with
  | edge h => exact Way.one.2 h
  | join _ _ _ ih ih' => exact Way.join ih ih'
theorem Wk.zero {l : List IE} {m a b : Nat} (h : Wk l 0 m a b) : m = 1 ∧ E l a b := by
  cases h with
  | edge h => exact ⟨rfl, h⟩
  | join _ _ hc => omega
theorem Wk.of {l : List IE} {N : Nat} (hE : ∀ a b, E l a b → a < N ∧ b < N) {p : List Nat} {a b : Nat} (hp : p ≠ []) (h : isWay l a p b) : Wk l N p.length a b := by
  induction p generalizing a with
  | nil => exact absurd rfl hp
  | cons v p ih =>
    by_cases hq : p = []
    · subst hq
      obtain ⟨h1, rfl⟩ := h
      exact .edge h1
    · have h2 := ih hq h.2
      have h3 := Wk.join (.edge h.1) h2 (hE _ _ h.1).2
      rw [List.length_cons, Nat.add_comm]
      exact h3
theorem Wk.down {l : List IE} {k m a b : Nat} (h : Wk l (k + 1) m a b) : (∃ m', m' ≤ m ∧ Wk l k m' a b) ∨ ∃ m1 m2, m1 + m2 ≤ m ∧ Wk l k m1 a k ∧ Wk l k m2 k b := by
  induction h with
  | edge h => exact .inl ⟨1, Nat.le_refl _, .edge h⟩
  | @join m n a b c h h' hc ih ih' =>
    by_cases hck : c < k
    · rcases ih with ⟨p, hp, h1⟩ | ⟨p, q, hpq, h1, h2⟩
      · rcases ih' with ⟨p', hp', h1'⟩ | ⟨p', q', hpq', h1', h2'⟩
        · exact .inl ⟨p + p', by omega, .join h1 h1' hck⟩
        · exact .inr ⟨p + p', q', by omega, .join h1 h1' hck, h2'⟩
      · rcases ih' with ⟨p', hp', h1'⟩ | ⟨p', q', hpq', h1', h2'⟩
        · exact .inr ⟨p, q + p', by omega, h1, .join h2 h1' hck⟩
        · exact .inr ⟨p, q', by omega, h1, h2'⟩
    · obtain rfl : c = k := by omega
      obtain ⟨p, hp, h1⟩ : ∃ p, p ≤ m ∧ Wk l c p a c := by
        rcases ih with ⟨p, hp, h1⟩ | ⟨p, q, hpq, h1, _⟩
        · exact ⟨p, hp, h1⟩
        · exact ⟨p, by omega, h1⟩
      obtain ⟨q, hq, h2⟩ : ∃ q, q ≤ n ∧ Wk l c q c b := by
        rcases ih' with ⟨p, hp, h1⟩ | ⟨p, q, hpq, _, h1⟩
        · exact ⟨p, hp, h1⟩
        · exact ⟨q, by omega, h1⟩
      exact .inr ⟨p, q, by omega, h1, h2⟩
/-! The table. -/
/-- What a round over k makes of an entry. -/
def upd (D : Nat → Nat → Int) (k a b : Nat) : Int :=
  if D a k < 0 ∨ D k b < 0 then D a b else if D a b < 0 ∨ D a k + D k b < D a b then D a k + D k b else D a b
def goodD (D : Nat → Nat → Int) (B : Int) : Prop := ∀ a b, a < 16 → b < 16 → (D a b = -1 ∨ 0 ≤ D a b) ∧ D a b ≤ B
theorem upd_col {D : Nat → Nat → Int} {B : Int} (h : goodD D B) {k a : Nat} (hk : k < 16) (ha : a < 16) : upd D k a k = D a k := by
  unfold upd
  have h1 := h k k hk hk
  by_cases c : D a k < 0 ∨ D k k < 0
  · rw [if_pos c]
  · rw [if_neg c, if_neg (by omega)]
theorem upd_row {D : Nat → Nat → Int} {B : Int} (h : goodD D B) {k b : Nat} (hk : k < 16) (hb : b < 16) : upd D k k b = D k b := by
  unfold upd
  have h1 := h k k hk hk
  by_cases c : D k k < 0 ∨ D k b < 0
  · rw [if_pos c]
  · rw [if_neg c, if_neg (by omega)]
theorem upd_good {D : Nat → Nat → Int} {B : Int} (h : goodD D B) {k : Nat} (hk : k < 16) {a b : Nat} (ha : a < 16) (hb : b < 16) : (upd D k a b = -1 ∨ 0 ≤ upd D k a b) ∧ upd D k a b ≤ 2 * B + 2 := by
  have h1 := h a k ha hk
  have h2 := h k b hk hb
  have h3 := h a b ha hb
  unfold upd
  split
  · omega
  · split <;> omega
/-- An entry is as round k makes it, where the row is below i (the column below N), or it is row i and the column below j. -/
def midD (D : Nat → Nat → Int) (k N i j : Nat) (a b : Nat) : Int := if (a < i ∧ b < N) ∨ (a = i ∧ b < j) then upd D k a b else D a b
theorem midD_good {D : Nat → Nat → Int} {B : Int} (h : goodD D B) (hB : 0 ≤ B) {k : Nat} (hk : k < 16) (N i j : Nat) : goodD (midD D k N i j) (2 * B + 2) := by
  intro a b ha hb
  have h1 := upd_good h hk ha hb
  have h2 := h a b ha hb
  unfold midD
  split <;> omega
theorem midD_col {D : Nat → Nat → Int} {B : Int} (h : goodD D B) {k a : Nat} (hk : k < 16) (ha : a < 16) (N i j : Nat) : midD D k N i j a k = D a k := by
  unfold midD
  split
  · exact upd_col h hk ha
  · rfl
theorem midD_row {D : Nat → Nat → Int} {B : Int} (h : goodD D B) {k b : Nat} (hk : k < 16) (hb : b < 16) (N i j : Nat) : midD D k N i j k b = D k b := by
  unfold midD
  split
  · exact upd_row h hk hb
  · rfl
theorem goodD_congr {D D' : Nat → Nat → Int} {B : Int} (h : goodD D B) (he : ∀ a b, a < 16 → b < 16 → D' a b = D a b) : goodD D' B := fun a b ha hb => by rw [he a b ha hb]; exact h a b ha hb
/-- What the table tells behind the round k. -/
def tellsK (l : List IE) (k N : Nat) (D : Nat → Nat → Int) : Prop := ∀ a b, a < N → b < N → (D a b = -1 ∧ ∀ m, ¬ Wk l k m a b) ∨ (0 < D a b ∧ Wk l k (D a b).toNat a b ∧ ∀ m, Wk l k m a b → D a b ≤ m)
theorem tells_step {l : List IE} {k N : Nat} {D D' : Nat → Nat → Int} (hk : k < N) (h : tellsK l k N D) (he : ∀ a b, a < N → b < N → D' a b = upd D k a b) : tellsK l (k + 1) N D' := by
  intro a b ha hb
  rw [he a b ha hb]
  have hab := h a b ha hb
  have hak := h a k ha hk
  have hkb := h k b hk hb
  unfold upd
  by_cases c : D a k < 0 ∨ D k b < 0
  · rw [if_pos c]
    have no : ∀ m1 m2, ¬ (Wk l k m1 a k ∧ Wk l k m2 k b) := by
      rintro m1 m2 ⟨h1, h2⟩
      rcases c with c | c
      · rcases hak with ⟨_, hn⟩ | ⟨h0, _⟩
        · exact hn _ h1
        · omega
      · rcases hkb with ⟨_, hn⟩ | ⟨h0, _⟩
        · exact hn _ h2
        · omega
    rcases hab with ⟨e, hn⟩ | ⟨h0, h1, h2⟩
    · left
      refine ⟨e, fun m hm => ?_⟩
      rcases hm.down with ⟨m', _, h'⟩ | ⟨m1, m2, _, g1, g2⟩
      · exact hn _ h'
      · exact no _ _ ⟨g1, g2⟩
    · right
      refine ⟨h0, h1.up, fun m hm => ?_⟩
      rcases hm.down with ⟨m', hle, h'⟩ | ⟨m1, m2, _, g1, g2⟩
      · have := h2 _ h'; omega
      · exact absurd ⟨g1, g2⟩ (no _ _)
  · rw [if_neg c]
    rcases hak with ⟨e, _⟩ | ⟨k0, k1, k2⟩
    · omega
    rcases hkb with ⟨e, _⟩ | ⟨q0, q1, q2⟩
    · omega
    have hw : Wk l (k + 1) (D a k + D k b).toNat a b := by
      rw [show (D a k + D k b).toNat = (D a k).toNat + (D k b).toNat by omega]
      exact .join k1.up q1.up (by omega)
    have lower : ∀ m1 m2, Wk l k m1 a k → Wk l k m2 k b → D a k + D k b ≤ ((m1 + m2 : Nat) : Int) := fun m1 m2 g1 g2 => by
      have := k2 _ g1
      have := q2 _ g2
      omega
    by_cases c2 : D a b < 0 ∨ D a k + D k b < D a b
    · rw [if_pos c2]
      right
      refine ⟨by omega, hw, fun m hm => ?_⟩
      rcases hm.down with ⟨m', hle, h'⟩ | ⟨m1, m2, hle, g1, g2⟩
      · rcases hab with ⟨_, hn⟩ | ⟨h0, h1, h2⟩
        · exact absurd h' (hn _)
        · have := h2 _ h'; omega
      · have := lower _ _ g1 g2; omega
    · rw [if_neg c2]
      rcases hab with ⟨e, _⟩ | ⟨h0, h1, h2⟩
      · omega
      · right
        refine ⟨h0, h1.up, fun m hm => ?_⟩
        rcases hm.down with ⟨m', hle, h'⟩ | ⟨m1, m2, hle, g1, g2⟩
        · have := h2 _ h'; omega
        · have := lower _ _ g1 g2; omega
def stepB (N : Nat) (l : List IE) (f : List Bool) : List Bool := (List.range N).map fun v : Nat => l.any fun e => decide (e.f1 = (v : Int)) && rdOf false f e.f0
/-- Where m steps lead from a. -/
theorem rd_boolmap {N : Nat} (p : Nat → Bool) {x : Int} (h0 : 0 ≤ x) (h1 : x < (N : Int)) : rdOf false ((List.range N).map p) x = p x.toNat := by
  obtain ⟨y, rfl⟩ : ∃ y : Nat, x = (y : Int) := ⟨x.toNat, by omega⟩
  rw [rdOf_lt _ _ (by simp; omega)]
  simp
noncomputable def wayB (l : List IE) (m a v : Nat) : Bool := @decide (Way l m a v) (Classical.propDecidable _)
theorem wayB_iff {l : List IE} {m a v : Nat} : wayB l m a v = true ↔ Way l m a v := by
  unfold wayB
  exact @decide_eq_true_iff _ (Classical.propDecidable _)
noncomputable def nextV (l : List IE) (a m : Nat) (es : List IE) (v : Nat) : Bool := @decide (∃ e ∈ es, e.f1 = (v : Int) ∧ Way l m a e.f0.toNat) (Classical.propDecidable _)
theorem nextV_iff {l : List IE} {a m : Nat} {es : List IE} {v : Nat} : nextV l a m es v = true ↔ ∃ e ∈ es, e.f1 = (v : Int) ∧ Way l m a e.f0.toNat := by
  unfold nextV
  exact @decide_eq_true_iff _ (Classical.propDecidable _)
noncomputable def atB (N : Nat) (l : List IE) (a m : Nat) : List Bool := (List.range N).map (wayB l m a)
theorem atB_len (N : Nat) (l : List IE) (a m : Nat) : (atB N l a m).length = N := by simp [atB]
theorem atB_get {N : Nat} {l : List IE} {a m : Nat} {x : Int} (h0 : 0 ≤ x) (h1 : x < (N : Int)) : rdOf false (atB N l a m) x = true ↔ Way l m a x.toNat := by
  unfold atB
  rw [rd_boolmap _ h0 h1]
  exact wayB_iff
noncomputable def nextB (N : Nat) (l : List IE) (a m : Nat) (es : List IE) : List Bool := (List.range N).map (nextV l a m es)
theorem nextB_len (N : Nat) (l : List IE) (a m : Nat) (es : List IE) : (nextB N l a m es).length = N := by simp [nextB]
theorem nextB_all {N : Nat} {l : List IE} {a m : Nat} (hl : ∀ e ∈ l, 0 ≤ e.f0) : nextB N l a m l = atB N l a (m + 1) := by
  unfold nextB atB
  congr 1
  funext v
  rw [Bool.eq_iff_iff, nextV_iff, wayB_iff, Way.snoc]
  constructor
  · rintro ⟨e, he, h1, h2⟩
    exact ⟨e.f0.toNat, h2, e, he, by have := hl e he; omega, h1⟩
  · rintro ⟨c, h2, e, he, h3, h1⟩
    exact ⟨e, he, h1, by rw [h3, Int.toNat_natCast]; exact h2⟩
def nextOf (N : Nat) (l : List IE) (o : List Int) : Option Nat := least (fun x => freeB l o (x : Int)) N
/-- m more numbers behind o. -/
def canonG (N : Nat) (l : List IE) : Nat → List Int → Option (List Int)
  | 0, o => some o
  | m + 1, o => match nextOf N l o with
    | some x => canonG N l m (o ++ [(x : Int)])
    | none => none
def canonP (n : Int) (l : List IE) : Option (List Int) := canonG n.toNat l n.toNat []
def pairOf : Option (List Int) → List Int × Bool
  | some o => (o, true)
  | none => ([], false)
/-- The reference's flags of a list of numbers. -/
def flags (N : Nat) (o : List Int) : List Bool := (List.range N).map fun x : Nat => decide ((x : Int) ∈ o)
theorem flags_len (N : Nat) (o : List Int) : (flags N o).length = N := by simp [flags]
theorem rd_flags {N : Nat} {o : List Int} {x : Int} (h0 : 0 ≤ x) (h1 : x < (N : Int)) : rdOf false (flags N o) x = decide (x ∈ o) := by
  obtain ⟨y, rfl⟩ : ∃ y : Nat, x = (y : Int) := ⟨x.toNat, by omega⟩
  rw [rdOf_lt _ _ (by rw [flags_len]; omega)]
  simp [flags]
theorem flags_set {N : Nat} {o : List Int} {x : Nat} (h : x < N) : (flags N o).set x true = flags N (o ++ [(x : Int)]) := by
  apply List.ext_getElem
  · simp [flags]
  · intro j h1 h2
    simp [flags, List.getElem_set] at h1 h2 ⊢
    by_cases e : x = j
    · simp [e]
    · have : (j : Int) ≠ (x : Int) := by omega
      simp [e, this]
theorem l14Ready_ev {N : Nat} {l : List IE} {o : List Int} {x : Int} (h0 : 0 ≤ x) (h1 : x < (N : Int)) (hl : l.length ≤ 9223372036854775807) (he : ∀ e ∈ l, 0 ≤ e.f0 ∧ e.f0 < (N : Int)) :
    Ev (fun k => spec_l14Ready.f k l (flags N o) x) (freeB l o x) := by
  unfold spec_l14Ready.f
  refine Ev.congr (fun k => if_pos h0) (Ev.congr (fun k => if_pos (by rw [flags_len]; exact h1)) ?_)
  rw [rd_flags h0 h1]
  by_cases hx : x ∈ o
  · rw [show freeB l o x = false by simp [freeB, hx]]
    exact Ev.of_eq fun k => by simp [hx]
  · have hf : freeB l o x = (l.drop 0).all (edgeFree o x) := by simp [freeB, hx]
    rw [hf]
    refine Ev.congr (fun k => if_neg (by simp [hx])) ?_
    refine all_ev l (edgeFree o x) (fun k i => spec_l14Ready.l0 k l (flags N o) x i) (fun i h hp r hr => ?_) (fun i h hp => ?_) ?_ 0 (by omega)
    · have h2 := he l[i] (List.getElem_mem h)
      refine Ev.step (fun k => ?_) hr
      simp only [spec_l14Ready.l0]
      rw [if_pos (by omega), if_pos (by omega), rd_IE h, flags_len, w64_succ h hl]
      by_cases e : l[i].f1 = x
      · have : l[i].f0 ∈ o := by simpa [edgeFree, e] using hp
        rw [if_pos e, if_pos h2.1, if_pos h2.2, rd_flags h2.1 h2.2, if_pos (by simpa using this)]
      · rw [if_neg e]
    · have h2 := he l[i] (List.getElem_mem h)
      have e : l[i].f1 = x := by
        apply Classical.byContradiction
        intro hn
        simp [edgeFree, hn] at hp
      have hn : l[i].f0 ∉ o := by simpa [edgeFree, e] using hp
      refine Ev.succ (fun k => ?_)
      simp only [spec_l14Ready.l0]
      rw [if_pos (by omega), if_pos (by omega), rd_IE h, flags_len, if_pos e, if_pos h2.1, if_pos h2.2, rd_flags h2.1 h2.2, if_neg (by simpa using hn)]
    · refine Ev.succ (fun k => ?_)
      simp only [spec_l14Ready.l0]
      rw [if_neg (by omega)]
theorem spec_Canon_ev (n : Int) (l : List IE) : Ev (fun k => spec_Canon.f k n l) (if graphOk n l then pairOf (canonP n l) else ([], false)) := by
  unfold spec_Canon.f
  refine Ev.bind (spec_GraphOk_ev n l) ?_
  cases hg : graphOk n l with
  | false => exact Ev.of_eq fun k => rfl
  | true =>
    obtain ⟨hn, hl, he⟩ := (graphOk_iff n l).1 hg
    have h0 := hn.1
    have h1 := hn.2
    simp only [if_true]
    refine Ev.congr (fun k => if_pos h0) (Ev.congr (fun k => if_pos (by omega)) ?_)
    have key : ∀ (m : Nat) (o : List Int), o.length + m = n.toNat → Ev (fun k => spec_Canon.l0 k n l o (flags n.toNat o)) (pairOf (canonG n.toNat l m o)) := by
      intro m
      induction m with
      | zero =>
        intro o ho
        refine Ev.succ (fun k => ?_)
        simp only [spec_Canon.l0]
        rw [if_neg (by omega)]
        rfl
      | succ m ih =>
        intro o ho
        refine Ev.step (f := fun k => spec_Canon.l1 k n l o (flags n.toNat o) (-1) ((n.toNat : Int) - 1)) (fun k => ?_) ?_
        · simp only [spec_Canon.l0]
          rw [if_pos (by omega), w64 (by omega) (by omega), Int.toNat_of_nonneg h0]
        · refine down_least (fun x => freeB l o (x : Int)) n.toNat (fun k s i => spec_Canon.l1 k n l o (flags n.toNat o) s i) _ (fun i hi s hr => ?_) ?_
          · refine Ev.step (f := fun k => (spec_l14Ready.f k l (flags n.toNat o) (i : Int)).bind fun t => if t = true then spec_Canon.l1 k n l o (flags n.toNat o) (i : Int) ((i : Int) - 1) else spec_Canon.l1 k n l o (flags n.toNat o) s ((i : Int) - 1)) (fun k => ?_) ?_
            · simp only [spec_Canon.l1]
              rw [if_pos (by omega), w64 (x := (i : Int) - 1) (by omega) (by omega)]
            · refine Ev.bind (l14Ready_ev (by omega) (by omega) (by omega) (fun e hel => ⟨(he e hel).1.1, by have := (he e hel).1.2; omega⟩)) ?_
              cases hf : freeB l o (i : Int) <;> simpa [hf] using hr
          · rw [seen_zero]
            show Ev _ (pairOf (canonG n.toNat l (m + 1) o))
            unfold canonG
            have e : nextOf n.toNat l o = least (fun x => freeB l o (x : Int)) n.toNat := rfl
            rw [e]
            cases hq : least (fun x => freeB l o (x : Int)) n.toNat with
            | none =>
              refine Ev.succ (fun k => ?_)
              simp only [spec_Canon.l1]
              rw [if_neg (by omega), if_pos (by omega)]
              rfl
            | some x =>
              have hx := (least_some hq).1
              refine Ev.step (f := fun k => spec_Canon.l0 k n l (o ++ [(x : Int)]) (flags n.toNat (o ++ [(x : Int)]))) (fun k => ?_) (ih _ (by simp; omega))
              simp only [spec_Canon.l1]
              rw [if_neg (by omega), if_neg (by omega), if_pos (by omega), flags_len, if_pos (by omega), if_pos (by omega), Int.toNat_natCast, flags_set hx]
    have h := key n.toNat [] (by simp)
    have e : List.replicate n.toNat false = flags n.toNat [] := by
      apply List.ext_getElem
      · simp [flags]
      · intro j h1 h2; simp [flags]
    rw [e]
    exact h

-- chunk circle: the shortest circle, of the program and of the reference
theorem dist_of {l : List IE} {a b : Nat} : ∀ m, 0 < m → Way l m a b → ∃ d, isDist l a b d := by
  intro m
  induction m using Nat.strongRecOn with
  | _ m ih =>
    intro hm hw
    by_cases h : ∃ j, 0 < j ∧ j < m ∧ Way l j a b
    · obtain ⟨j, hj, hlt, hw2⟩ := h
      exact ih j hlt hj hw2
    · exact ⟨m, .inr ⟨hm, hw, fun j hj hlt hw2 => h ⟨j, hj, hlt, hw2⟩⟩⟩
theorem dist_ex (l : List IE) (a b : Nat) : ∃ d, isDist l a b d := by
  by_cases h : ∃ m, 0 < m ∧ Way l m a b
  · obtain ⟨m, hm, hw⟩ := h
    exact dist_of m hm hw
  · exact ⟨0, .inl ⟨rfl, fun m hm hw => h ⟨m, hm, hw⟩⟩⟩
noncomputable def dN (l : List IE) (a b : Nat) : Nat := Classical.choose (dist_ex l a b)
theorem dN_is (l : List IE) (a b : Nat) : isDist l a b (dN l a b) := Classical.choose_spec (dist_ex l a b)
theorem dN_eq {l : List IE} {a b d : Nat} (h : isDist l a b d) : dN l a b = d := isDist_unique (dN_is l a b) h
theorem dN_next {l : List IE} {a b d : Nat} (h : dN l a b = d + 2) : ∃ v, E l a v ∧ dN l v b = d + 1 := by
  have h1 := dN_is l a b
  rw [h] at h1
  rcases h1 with ⟨h0, _⟩ | ⟨_, ⟨p, hp, hw⟩, hmin⟩
  · omega
  · match p, hp with
    | v :: q, hq =>
      refine ⟨v, hw.1, dN_eq (.inr ⟨by omega, ⟨q, by simpa using hq, hw.2⟩, fun m hm hlt hw2 => ?_⟩)⟩
      exact hmin (1 + m) (by omega) (by omega) (Way.join (Way.one.2 hw.1) hw2)
theorem edge_within {n : Int} {l : List IE} (hg : graphOk n l = true) {a b : Nat} (h : E l a b) : (a : Int) < n ∧ (b : Int) < n := by
  obtain ⟨_, _, he⟩ := (graphOk_iff n l).1 hg
  obtain ⟨e, hel, h1, h2⟩ := h
  have := he e hel
  omega
def encO : Option Nat → Int
  | none => -1
  | some p => (p : Int)
def leO (D : Nat → Nat) (x : Nat) : Option Nat → Bool
  | none => true
  | some p => decide (x ≤ D p)
def cirAt (D : Nat → Nat) : Nat → Option Nat → Option Nat
  | 0, q => q
  | j + 1, q => cirAt D j (if 0 < D j ∧ leO D (D j) q = true then some j else q)
theorem cirAt_pos {D : Nat → Nat} {N : Nat} {i : Nat} {q : Option Nat} (hi : i ≤ N) (hq : ∀ p, q = some p → 0 < D p ∧ p < N) : ∀ p, cirAt D i q = some p → 0 < D p ∧ p < N := by
  induction i generalizing q with
  | zero => exact hq
  | succ j ih =>
    unfold cirAt
    refine ih (by omega) ?_
    intro p hp
    split at hp
    · rename_i h
      injection hp with hp
      subst hp
      exact ⟨h.1, by omega⟩
    · exact hq p hp
noncomputable def nextC (l : List IE) (q : Nat) (last : Int) (left : Nat) (v : Nat) : Bool := decide (E l last.toNat v) && decide (dN l v q = left)
noncomputable def cwalk (l : List IE) (N q : Nat) : Nat → List Int → List Int
  | 0, o => o
  | m + 1, o => match (List.range N).find? (nextC l q (o.getLastD 0) (m + 1)) with
    | some v => cwalk l N q m (o ++ [(v : Int)])
    | none => cwalk l N q m o
theorem dN_one {l : List IE} {a b : Nat} : dN l a b = 1 ↔ E l a b := by
  constructor
  · intro h
    have h1 := dN_is l a b
    rw [h] at h1
    rcases h1 with ⟨h0, _⟩ | ⟨_, hw, _⟩
    · omega
    · exact Way.one.1 hw
  · intro h
    exact dN_eq (.inr ⟨by omega, Way.one.2 h, fun m hm hlt => by omega⟩)
theorem find_congr {α : Type} {p q : α → Bool} {xs : List α} (h : ∀ x ∈ xs, p x = q x) : xs.find? p = xs.find? q := by
  induction xs with
  | nil => rfl
  | cons a xs ih =>
    rw [List.find?_cons, List.find?_cons, h a (by simp), ih (fun x hx => h x (by simp [hx]))]
noncomputable def circP (l : List IE) (N : Nat) : List Int := match cirAt (fun j => dN l j j) N none with
  | none => []
  | some q => cwalk l N q (dN l q q - 1) [(q : Int)]
noncomputable def circleP (n : Int) (l : List IE) : List Int := if graphOk n l = true then circP l n.toNat else []
def bestOf (D : Nat → Nat) : Option Nat → Int
  | none => 0
  | some p => (D p : Int)
def firstOf : Option Nat → Int
  | none => 0
  | some p => (p : Int)
theorem cwalk_len (l : List IE) (N q m : Nat) (o : List Int) : (cwalk l N q m o).length ≤ o.length + m := by
  induction m generalizing o with
  | zero => exact Nat.le_refl _
  | succ m ih =>
    unfold cwalk
    split
    · refine Nat.le_trans (ih _) ?_
      simp; omega
    · exact Nat.le_trans (ih _) (by omega)
theorem circleP_len (n : Int) (l : List IE) : (circleP n l).length ≤ 16 := by
  unfold circleP
  split
  · rename_i hg
    obtain ⟨hn, hlen, he⟩ := (graphOk_iff n l).1 hg
    unfold circP
    cases hc : cirAt (fun j => dN l j j) n.toNat none with
    | none => simp
    | some q =>
      have hq := cirAt_pos (N := n.toNat) (Nat.le_refl _) (fun p hp => by cases hp) q hc
      have hle : dN l q q ≤ n.toNat := isDist_le (N := n.toNat) (fun a b h => by have := edge_within hg h; omega) (dN_is l q q)
      have := cwalk_len l n.toNat q (dN l q q - 1) [(q : Int)]
      simp at this
      have h0 := hq.1
      simp only
      omega
  · simp

-- chunk acyclic: there is an order just if there is no circle
def acyc (l : List IE) : Prop := ∀ c m, 0 < m → ¬ Way l m c c
theorem way_dup {l : List IE} {p : List Nat} {a b : Nat} (h : isWay l a p b) (hd : ¬ (a :: p).Nodup) : ∃ c m, 0 < m ∧ Way l m c c := by
  induction p generalizing a with
  | nil => exact absurd (by simp) hd
  | cons v q ih =>
    by_cases ha : a ∈ v :: q
    · obtain ⟨s, t, e⟩ := List.append_of_mem ha
      rw [e] at h
      obtain ⟨c, h1, h2⟩ := isWay_append.1 h
      exact ⟨a, s.length + 1, by omega, Way.snoc.2 ⟨c, ⟨s, rfl, h1⟩, h2.1⟩⟩
    · exact ih h.2 (fun hn => hd (List.nodup_cons.2 ⟨ha, hn⟩))
theorem stuck_circle {N : Nat} {l : List IE} (hE : ∀ a b, E l a b → a < N ∧ b < N) (hI : ∀ e ∈ l, 0 ≤ e.f0 ∧ 0 ≤ e.f1) {o : List Int} {x : Nat} (hx : x < N) (hxo : (x : Int) ∉ o) (h : nextOf N l o = none) : ∃ c m, 0 < m ∧ Way l m c c := by
  have back : ∀ m, ∃ p a, p.length = m ∧ isWay l a p x ∧ (a : Int) ∉ o ∧ a < N := by
    intro m
    induction m with
    | zero => exact ⟨[], x, rfl, rfl, hxo, hx⟩
    | succ m ih =>
      obtain ⟨p, a, hp, hw, hao, haN⟩ := ih
      have hf := least_none h a haN
      have hnf : ¬ (freeB l o (a : Int) = true) := by rw [hf]; simp
      rw [freeB_iff] at hnf
      have : ∃ e ∈ l, e.f1 = (a : Int) ∧ e.f0 ∉ o := by
        apply Classical.byContradiction
        intro hn
        refine hnf ⟨hao, fun e he h1 => ?_⟩
        apply Classical.byContradiction
        intro h0
        exact hn ⟨e, he, h1, h0⟩
      obtain ⟨e, he, h1, h0⟩ := this
      have hI := hI e he
      have hEe : E l e.f0.toNat a := ⟨e, he, by omega, h1⟩
      exact ⟨a :: p, e.f0.toNat, by simp [hp], ⟨hEe, hw⟩, by rw [Int.toNat_of_nonneg hI.1]; exact h0, (hE _ _ hEe).1⟩
  obtain ⟨p, a, hp, hw, hao, haN⟩ := back N
  refine way_dup hw (fun hd => ?_)
  have := nodup_len hd (fun y hy => by
    rcases List.mem_cons.1 hy with rfl | hy
    · exact haN
    · exact isWay_lt hE hw y hy)
  simp at this
  omega
/-- What holds of the numbers that stand in an order. -/
def ordOk (N : Nat) (l : List IE) (o : List Int) : Prop := o.Nodup ∧ (∀ x ∈ o, 0 ≤ x ∧ x < (N : Int)) ∧ ∀ (j : Nat) (hj : j < o.length), ∀ e ∈ l, e.f1 = o[j] → e.f0 ∈ o.take j
theorem ordOk_snoc {N : Nat} {l : List IE} {o : List Int} (h : ordOk N l o) {x : Nat} (hx : x < N) (hf : freeB l o (x : Int) = true) : ordOk N l (o ++ [(x : Int)]) := by
  obtain ⟨h1, h2, h3⟩ := h
  rw [freeB_iff] at hf
  refine ⟨?_, ?_, ?_⟩
  · rw [List.nodup_append]
    refine ⟨h1, by simp, fun a ha b hb => ?_⟩
    rw [List.mem_singleton.1 hb]
    rintro rfl
    exact hf.1 ha
  · intro y hy
    rcases List.mem_append.1 hy with hy | hy
    · exact h2 y hy
    · rw [List.mem_singleton.1 hy]; omega
  · intro j hj e he h4
    by_cases c : j < o.length
    · rw [List.getElem_append_left c] at h4
      rw [List.take_append_of_le_length (by omega)]
      exact h3 j c e he h4
    · obtain rfl : j = o.length := by simp at hj; omega
      simp at h4
      simp
      exact hf.2 e he h4
theorem canonG_ok {N : Nat} {l : List IE} {m : Nat} {o o' : List Int} (ho : ordOk N l o) (h : canonG N l m o = some o') : ordOk N l o' ∧ o'.length = o.length + m := by
  induction m generalizing o with
  | zero => unfold canonG at h; injection h with h; subst h; exact ⟨ho, rfl⟩
  | succ m ih =>
    unfold canonG at h
    split at h
    · rename_i x hx
      have h1 := least_some hx
      have h2 := ih (ordOk_snoc ho h1.1 h1.2.1) h
      simp at h2
      exact ⟨h2.1, by omega⟩
    · cases h
theorem int_nodup_len {N : Nat} {o : List Int} (hd : o.Nodup) (h : ∀ x ∈ o, 0 ≤ x ∧ x < (N : Int)) : o.length ≤ N := by
  have h1 : (o.map Int.toNat).Nodup := by
    rw [List.nodup_iff_pairwise_ne, List.pairwise_map]
    refine List.Pairwise.imp_of_mem (R := fun a b => a ≠ b) ?_ (List.nodup_iff_pairwise_ne.1 hd)
    intro a b ha hb hab
    have := h a ha
    have := h b hb
    omega
  have := nodup_len h1 (n := N) (fun y hy => by
    obtain ⟨x, hx, rfl⟩ := List.mem_map.1 hy
    have := h x hx
    omega)
  simpa using this
theorem ord_full {N : Nat} {l : List IE} {o : List Int} (ho : ordOk N l o) (hl : o.length = N) {x : Nat} (hx : x < N) : (x : Int) ∈ o := by
  apply Classical.byContradiction
  intro hn
  have := int_nodup_len (N := N) (o := (x : Int) :: o) (List.nodup_cons.2 ⟨hn, ho.1⟩) (fun y hy => by
    rcases List.mem_cons.1 hy with rfl | hy
    · omega
    · exact ho.2.1 y hy)
  simp at this
  omega
theorem ord_acyc {N : Nat} {l : List IE} (hE : ∀ a b, E l a b → a < N ∧ b < N) {o : List Int} (ho : ordOk N l o) (hlen : o.length = N) : acyc l := by
  have step : ∀ a b, E l a b → o.idxOf (a : Int) < o.idxOf (b : Int) := by
    intro a b hab
    have hN := hE a b hab
    have hb := List.idxOf_lt_length_of_mem (ord_full ho hlen hN.2)
    obtain ⟨e, he, h0, h1⟩ := hab
    have h3 := ho.2.2 (o.idxOf (b : Int)) hb e he (by rw [h1, List.getElem_idxOf])
    rw [h0] at h3
    obtain ⟨j, hj, hj2⟩ := List.mem_iff_getElem.1 h3
    rw [List.getElem_take] at hj2
    simp at hj
    rw [← hj2]
    have : o.idxOf o[j] = j := ho.1.idxOf_getElem j (by omega)
    omega
  have walk : ∀ (p : List Nat) (a b : Nat), p ≠ [] → isWay l a p b → o.idxOf (a : Int) < o.idxOf (b : Int) := by
    intro p
    induction p with
    | nil => intro a b h; exact absurd rfl h
    | cons v q ih =>
      intro a b _ hw
      have h1 := step a v hw.1
      by_cases hq : q = []
      · subst hq
        obtain rfl := hw.2
        exact h1
      · have := ih v b hq hw.2
        omega
  rintro c m hm ⟨p, hp, hw⟩
  have := walk p c c (by intro e; subst e; simp at hp; omega) hw
  omega
theorem canon_acyc {N : Nat} {l : List IE} (hE : ∀ a b, E l a b → a < N ∧ b < N) {o : List Int} (h : canonG N l N [] = some o) : acyc l := by
  obtain ⟨ho, hlen⟩ := canonG_ok (o := []) ⟨List.nodup_nil, by simp, by simp⟩ h
  exact ord_acyc hE ho (by simpa using hlen)
theorem sub_len {s t : List Int} (hs : s.Nodup) (h : ∀ x ∈ s, x ∈ t) : s.length ≤ t.length := by
  induction s generalizing t with
  | nil => simp
  | cons a s ih =>
    rw [List.nodup_cons] at hs
    have ha := h a (by simp)
    have h1 := ih (t := t.erase a) hs.2 (fun x hx => (List.mem_erase_of_ne (fun e => hs.1 (by rw [← e]; exact hx))).2 (h x (by simp [hx])))
    rw [List.length_erase_of_mem ha] at h1
    have := List.length_pos_of_mem ha
    simp
    omega
theorem acyc_canon {N : Nat} {l : List IE} (hE : ∀ a b, E l a b → a < N ∧ b < N) (hI : ∀ e ∈ l, 0 ≤ e.f0 ∧ 0 ≤ e.f1) (ha : acyc l) {m : Nat} {o : List Int} (hm : o.length + m = N) (ho : ordOk N l o) : ∃ o', canonG N l m o = some o' := by
  induction m generalizing o with
  | zero => exact ⟨o, rfl⟩
  | succ m ih =>
    unfold canonG
    cases hx : nextOf N l o with
    | some x =>
      have h1 := least_some hx
      exact ih (by simp; omega) (ordOk_snoc ho h1.1 h1.2.1)
    | none =>
      exfalso
      have : ∃ x : Nat, x < N ∧ (x : Int) ∉ o := by
        apply Classical.byContradiction
        intro hn
        have hall : ∀ x : Nat, x < N → (x : Int) ∈ o := fun x hx => Classical.byContradiction fun h => hn ⟨x, hx, h⟩
        have h1 : (List.range N).Nodup := List.nodup_range
        have h2 : ((List.range N).map fun x : Nat => (x : Int)).Nodup := by
          rw [List.nodup_iff_pairwise_ne, List.pairwise_map]
          exact List.Pairwise.imp (fun {a b} hab => by omega) (List.nodup_iff_pairwise_ne.1 h1)
        have h3 := sub_len (t := o) h2 (fun y hy => by
          obtain ⟨x, hx, rfl⟩ := List.mem_map.1 hy
          exact hall x (List.mem_range.1 hx))
        simp at h3
        omega
      obtain ⟨x, hxN, hxo⟩ := this
      obtain ⟨c, m, hm, hw⟩ := stuck_circle hE hI hxN hxo hx
      exact ha c m hm hw
theorem canon_iff {n : Int} {l : List IE} (hg : graphOk n l = true) : (canonP n l).isSome = true ↔ acyc l := by
  obtain ⟨hn, hlen, he⟩ := (graphOk_iff n l).1 hg
  have hE : ∀ a b, E l a b → a < n.toNat ∧ b < n.toNat := fun a b h => by have := edge_within hg h; omega
  unfold canonP
  constructor
  · intro h
    obtain ⟨o, ho⟩ := Option.isSome_iff_exists.1 h
    exact canon_acyc hE ho
  · intro h
    obtain ⟨o, ho⟩ := acyc_canon hE (fun e h => by have := he e h; omega) h (m := n.toNat) (o := []) (by simp) ⟨List.nodup_nil, by simp, by simp⟩
    rw [ho]
    rfl
theorem cirAt_none {D : Nat → Nat} {i : Nat} {q : Option Nat} (h : cirAt D i q = none) : q = none ∧ ∀ j, j < i → D j = 0 := by
  induction i generalizing q with
  | zero => exact ⟨h, fun j hj => by omega⟩
  | succ i ih =>
    unfold cirAt at h
    obtain ⟨h1, h2⟩ := ih h
    by_cases c : 0 < D i ∧ leO D (D i) q = true
    · rw [if_pos c] at h1; cases h1
    · rw [if_neg c] at h1
      subst h1
      refine ⟨rfl, fun j hj => ?_⟩
      by_cases hji : j = i
      · subst hji
        have : ¬ 0 < D j := fun h0 => c ⟨h0, rfl⟩
        omega
      · exact h2 j (by omega)
theorem cirAt_zero {D : Nat → Nat} {i : Nat} (h : ∀ j, j < i → D j = 0) : cirAt D i none = none := by
  induction i with
  | zero => rfl
  | succ i ih =>
    unfold cirAt
    rw [if_neg (by have := h i (by omega); omega)]
    exact ih (fun j hj => h j (by omega))
theorem acyc_dN {n : Int} {l : List IE} (hg : graphOk n l = true) : acyc l ↔ ∀ j, j < n.toNat → dN l j j = 0 := by
  constructor
  · intro h j hj
    rcases dN_is l j j with ⟨h0, _⟩ | ⟨h0, hw, _⟩
    · exact h0
    · exact absurd hw (h j _ h0)
  · rintro h c m hm hw
    have hc : c < n.toNat := by
      obtain ⟨p, hp, hw⟩ := hw
      match p, hp, hw with
      | [], hp, _ => simp at hp; omega
      | v :: q, _, hw => have := edge_within hg hw.1; omega
    rcases dN_is l c c with ⟨_, h1⟩ | ⟨h0, _, _⟩
    · exact h1 m hm hw
    · have := h c hc; omega
theorem cwalk_pre (l : List IE) (N q m : Nat) (o : List Int) : ∃ t, cwalk l N q m o = o ++ t := by
  induction m generalizing o with
  | zero => exact ⟨[], by simp [cwalk]⟩
  | succ m ih =>
    unfold cwalk
    split
    · rename_i v _
      obtain ⟨t, ht⟩ := ih (o ++ [(v : Int)])
      exact ⟨(v : Int) :: t, by rw [ht]; simp⟩
    · exact ih o
theorem circle_nil {n : Int} {l : List IE} (hg : graphOk n l = true) : circleP n l = [] ↔ acyc l := by
  rw [acyc_dN hg]
  unfold circleP circP
  rw [if_pos hg]
  constructor
  · intro h
    cases hc : cirAt (fun j => dN l j j) n.toNat none with
    | none => exact (cirAt_none hc).2
    | some q =>
      rw [hc] at h
      obtain ⟨t, ht⟩ := cwalk_pre l n.toNat q (dN l q q - 1) [(q : Int)]
      simp only [ht] at h
      simp at h
  · intro h
    rw [cirAt_zero (D := fun j => dN l j j) h]

-- chunk nostuck: what becomes of a run: who runs, how many, and that it does not stand still
theorem mem_endsTo {is : List Int} {m : Nat} {e : IM} : e ∈ endsTo is m ↔ ∃ t : Nat, t < m ∧ rd is (t : Int) = 1 ∧ e = ⟨1, (t : Int)⟩ := by
  constructor
  · intro h
    obtain ⟨t, ht, h2⟩ := List.mem_filterMap.1 h
    by_cases c : rd is (t : Int) = 1
    · rw [if_pos c] at h2
      exact ⟨t, List.mem_range.1 ht, c, (Option.some.inj h2).symm⟩
    · rw [if_neg c] at h2
      cases h2
  · rintro ⟨t, ht, c, rfl⟩
    exact List.mem_filterMap.2 ⟨t, List.mem_range.2 ht, by rw [if_pos c]⟩
theorem mem_begsTo {l : List IE} {is : List Int} {m : Nat} {e : IM} : e ∈ begsTo l is m ↔ ∃ t : Nat, t < m ∧ rdyB l is (t : Int) = true ∧ e = ⟨2, (t : Int)⟩ := by
  constructor
  · intro h
    obtain ⟨t, ht, h2⟩ := List.mem_filterMap.1 h
    by_cases c : rdyB l is (t : Int) = true
    · rw [if_pos c] at h2
      exact ⟨t, List.mem_range.1 ht, c, (Option.some.inj h2).symm⟩
    · rw [if_neg c] at h2
      cases h2
  · rintro ⟨t, ht, c, rfl⟩
    exact List.mem_filterMap.2 ⟨t, List.mem_range.2 ht, by rw [if_pos c]⟩
theorem sum_two {is : List Int} (h : ∀ v ∈ is, v = 2) : is.sum = 2 * (is.length : Int) := by
  induction is with
  | nil => simp
  | cons x is ih =>
    rw [List.sum_cons, ih (fun v hv => h v (List.mem_cons_of_mem _ hv)), h x List.mem_cons_self, List.length_cons]
    omega
theorem not_stuck {N : Nat} {l : List IE} {o is : List Int} {wk : Int} (ho : ordOk N l o) (hl : o.length = N) (hn : is.length = N) (h : lvl is) (hw : 1 ≤ wk) (hm : movesL l wk is = []) : is.sum = 2 * (is.length : Int) := by
  have he : endsTo is is.length = [] := by
    unfold movesL at hm
    split at hm
    · exact hm
    · exact (List.append_eq_nil_iff.1 hm).1
  have hb : begsTo l is is.length = [] := by
    unfold movesL at hm
    rw [he, if_neg (by simp; omega)] at hm
    exact hm
  have h1 : ∀ t : Nat, t < N → rd is (t : Int) ≠ 1 := fun t ht c => by
    have : (⟨1, (t : Int)⟩ : IM) ∈ endsTo is is.length := mem_endsTo.2 ⟨t, by omega, c, rfl⟩
    rw [he] at this
    simp at this
  have h2 : ∀ t : Nat, t < N → rdyB l is (t : Int) = false := fun t ht => by
    cases c : rdyB l is (t : Int) with
    | false => rfl
    | true =>
      have : (⟨2, (t : Int)⟩ : IM) ∈ begsTo l is is.length := mem_begsTo.2 ⟨t, by omega, c, rfl⟩
      rw [hb] at this
      simp at this
  have key : ∀ (j : Nat) (hj : j < o.length), rd is o[j] = 2 := by
    intro j
    induction j using Nat.strongRecOn with
    | _ j ih =>
      intro hj
      obtain ⟨h3, h4⟩ := ho.2.1 o[j] (List.getElem_mem hj)
      obtain ⟨t, ht⟩ : ∃ t : Nat, o[j] = (t : Int) := ⟨o[j].toNat, by omega⟩
      have htN : t < N := by omega
      rcases h _ (rd_mem (is := is) (t := t) (by omega)) with c | c | c
      · exfalso
        have hr : rdyB l is (t : Int) = true := by
          unfold rdyB
          rw [decide_eq_true c, Bool.true_and, Bool.not_eq_true', List.any_eq_false]
          intro e hel hp
          have hp2 := of_decide_eq_true (show decide (e.f1 = (t : Int) ∧ rd is e.f0 ≠ 2) = true from hp)
          have hin := ho.2.2 j hj e hel (by rw [ht]; exact hp2.1)
          obtain ⟨i, hi, hi2⟩ := List.mem_iff_getElem.1 hin
          have hij : i < j := by
            have := hi
            rw [List.length_take] at this
            omega
          rw [List.getElem_take] at hi2
          have := ih i hij (by omega)
          rw [hi2] at this
          exact hp2.2 this
        rw [h2 t htN] at hr
        cases hr
      · exact absurd c (h1 t htN)
      · rw [ht]; exact c
  refine sum_two fun v hv => ?_
  obtain ⟨t, ht, hv2⟩ := List.mem_iff_getElem.1 hv
  have hto := ord_full ho hl (x := t) (by omega)
  obtain ⟨j, hj, hj2⟩ := List.mem_iff_getElem.1 hto
  have := key j hj
  rw [hj2, rd_lt is ht, hv2] at this
  exact this
def NowIs (o : List Int) (is : List Int) : Prop := ∀ x, x ∈ o ↔ ∃ t : Nat, t < is.length ∧ x = (t : Int) ∧ rd is (t : Int) = 1
theorem rd_doL {is : List Int} {t : Nat} (ht : t < is.length) (s : Nat) : rd (doL is (t : Int)) (s : Int) = if s = t then rd is (t : Int) + 1 else rd is (s : Int) := by
  unfold doL rd
  rw [Int.toNat_natCast, Int.toNat_natCast, List.getD_eq_getElem?_getD, List.getD_eq_getElem?_getD, List.getD_eq_getElem?_getD]
  by_cases c : s = t
  · subst c
    rw [if_pos rfl, List.getElem?_set_self ht]
    rfl
  · rw [if_neg c, List.getElem?_set_ne (fun e => c e.symm)]
theorem now_step {l : List IE} {wk : Int} {o is : List Int} (h : NowIs o is) {e : IM} (he : e ∈ movesL l wk is) : NowIs (nowStep o e) (doL is e.f1) := by
  obtain ⟨t, ht, h1, h2⟩ := movesL_mem he
  intro x
  rw [doL_len, h1]
  unfold nowStep
  rcases h2 with ⟨h3, h4⟩ | ⟨h3, _, h4⟩
  · rw [if_neg (by omega), if_pos h3]
    simp only [delL, List.mem_filter, Bool.not_eq_true', beq_eq_false_iff_ne, ne_eq]
    rw [h1]
    constructor
    · rintro ⟨hx, hne⟩
      obtain ⟨s, hs, rfl, hs2⟩ := (h x).1 hx
      refine ⟨s, hs, rfl, ?_⟩
      rw [rd_doL ht, if_neg (fun e => hne (by rw [e])), hs2]
    · rintro ⟨s, hs, rfl, hs2⟩
      rw [rd_doL ht] at hs2
      by_cases c : s = t
      · rw [if_pos c] at hs2
        omega
      · rw [if_neg c] at hs2
        exact ⟨(h _).2 ⟨s, hs, rfl, hs2⟩, by omega⟩
  · rw [if_pos h3]
    simp only [List.mem_append, List.mem_singleton]
    rw [h1]
    constructor
    · rintro (hx | hx)
      · obtain ⟨s, hs, rfl, hs2⟩ := (h x).1 hx
        refine ⟨s, hs, rfl, ?_⟩
        rw [rd_doL ht, if_neg (fun e => by subst e; omega), hs2]
      · refine ⟨t, ht, hx, ?_⟩
        rw [rd_doL ht, if_pos rfl, h4]
        rfl
    · rintro ⟨s, hs, rfl, hs2⟩
      rw [rd_doL ht] at hs2
      by_cases c : s = t
      · exact .inr (by rw [c])
      · rw [if_neg c] at hs2
        exact .inl ((h _).2 ⟨s, hs, rfl, hs2⟩)
theorem ends_rise (is : List Int) (m : Nat) : ((endsTo is m).map fun e => e.f1).Pairwise (· < ·) := by
  induction m with
  | zero => simp [endsTo]
  | succ m ih =>
    rw [endsTo_succ]
    split
    · rw [List.map_append, List.pairwise_append]
      refine ⟨ih, by simp, fun a ha b hb => ?_⟩
      obtain ⟨e, he, rfl⟩ := List.mem_map.1 ha
      obtain ⟨t, ht, _, rfl⟩ := mem_endsTo.1 he
      have hb2 : b = (m : Int) := by simpa using hb
      show (t : Int) < b
      omega
    · exact ih
theorem now_ends {o is : List Int} (h : NowIs o is) : ascL o = (endsTo is is.length).map fun e => e.f1 := by
  refine (asc_eq (ends_rise _ _) fun x => ?_).symm
  rw [h x]
  constructor
  · intro hx
    obtain ⟨e, he, rfl⟩ := List.mem_map.1 hx
    obtain ⟨t, ht, hr, rfl⟩ := mem_endsTo.1 he
    exact ⟨t, ht, rfl, hr⟩
  · rintro ⟨t, ht, rfl, hr⟩
    exact List.mem_map.2 ⟨⟨1, (t : Int)⟩, mem_endsTo.2 ⟨t, ht, hr, rfl⟩, rfl⟩
theorem ends_count (is : List Int) : ∀ m, m ≤ is.length → (endsTo is m).length = (is.take m).countP fun v => v == 1 := by
  intro m
  induction m with
  | zero => intro _; simp [endsTo]
  | succ m ih =>
    intro hm
    have hlt : m < is.length := by omega
    rw [endsTo_succ, List.take_succ_eq_append_getElem hlt, List.countP_append, ← ih (by omega), rd_lt is hlt]
    by_cases c : is[m] = 1
    · rw [if_pos c, List.length_append]
      simp [c]
    · rw [if_neg c]
      simp [c]
theorem ends_count' (is : List Int) : (endsTo is is.length).length = is.countP fun v => v == 1 := by
  rw [ends_count is is.length (Nat.le_refl _), List.take_length]
theorem few_step {l : List IE} {wk : Int} {is : List Int} (hf : ((endsTo is is.length).length : Int) ≤ wk) {e : IM} (he : e ∈ movesL l wk is) : ((endsTo (doL is e.f1) (doL is e.f1).length).length : Int) ≤ wk := by
  obtain ⟨t, ht, h1, h2⟩ := movesL_mem he
  rw [ends_count'] at hf ⊢
  have hc : (doL is (t : Int)).countP (fun v => v == 1) = is.countP (fun v => v == 1) - (if (is[t] == 1) = true then 1 else 0) + (if (rd is (t : Int) + 1 == 1) = true then 1 else 0) := by
    unfold doL
    rw [Int.toNat_natCast]
    exact List.countP_set ht
  rw [h1, hc]
  have hg := rd_lt is ht
  rcases h2 with ⟨h3, h4⟩ | ⟨h3, _, h4⟩
  · have hz : ((rd is (t : Int) + 1) == 1) = false := by rw [h4]; rfl
    rw [hz, if_neg (c := (false = true)) (by simp)]
    split <;> omega
  · have hlt : ((endsTo is is.length).length : Int) < wk := by
      by_cases c : wk ≤ ((endsTo is is.length).length : Int)
      · unfold movesL at he
        rw [if_pos c] at he
        obtain ⟨s, _, _, rfl⟩ := mem_endsTo.1 he
        exact absurd h3 (by simp)
      · omega
    rw [ends_count'] at hlt
    split <;> split <;> omega
/-- A run's prefixes, with all that is known of them. -/
theorem run_all (l : List IE) (wk : Int) (picks : List Int) : ∀ (q fr : Nat) (is o : List Int), lvl is → is.sum + (q : Int) = 2 * (is.length : Int) → NowIs o is → ((endsTo is is.length).length : Int) ≤ wk → ∀ i, i ≤ (runM l wk picks q fr is).length →
    ∃ at_, at_.length = is.length ∧ lvl at_ ∧ NowIs (((runM l wk picks q fr is).take i).foldl nowStep o) at_ ∧ ((endsTo at_ at_.length).length : Int) ≤ wk ∧ (i = (runM l wk picks q fr is).length → movesL l wk at_ = []) := by
  intro q
  induction q with
  | zero =>
    intro fr is o h hs ho hf i hi
    exact ⟨is, rfl, h, by simpa [runM] using ho, hf, fun _ => moves_full h (by omega)⟩
  | succ q ih =>
    intro fr is o h hs ho hf i hi
    by_cases c : (movesL l wk is).length = 0
    · have e : runM l wk picks (q + 1) fr is = [] := by unfold runM; rw [if_pos c]
      rw [e] at hi ⊢
      have hi0 : i = 0 := by simpa using hi
      subst hi0
      exact ⟨is, rfl, h, ho, hf, fun _ => List.length_eq_zero_iff.1 c⟩
    · have hp : pickN picks fr (movesL l wk is).length < (movesL l wk is).length := pickN_lt picks fr (by omega)
      have hm := rd_moves hp
      have e : runM l wk picks (q + 1) fr is = rd_T94 (movesL l wk is) (pickN picks fr (movesL l wk is).length : Int) :: runM l wk picks q (fr + 1) (doL is (rd_T94 (movesL l wk is) (pickN picks fr (movesL l wk is).length : Int)).f1) := by
        conv => lhs; unfold runM
        rw [if_neg c]
      rw [e] at hi ⊢
      obtain ⟨h1, h2⟩ := do_lvl h hm
      cases i with
      | zero => exact ⟨is, rfl, h, ho, hf, fun h3 => by simp at h3⟩
      | succ i =>
        obtain ⟨a, g2, g3, g4, g5, g6⟩ := ih (fr + 1) _ _ h1 (by rw [doL_len]; omega) (now_step ho hm) (few_step hf hm) i (by simpa using hi)
        exact ⟨a, by rw [g2, doL_len], g3, by rw [List.take_succ_cons, List.foldl_cons]; exact g4, g5, fun h3 => g6 (by simpa using h3)⟩
theorem run_full {N : Nat} {l : List IE} {o : List Int} {wk : Int} (ho : ordOk N l o) (hl : o.length = N) (hw : 1 ≤ wk) (picks : List Int) : ∀ (q fr : Nat) (is : List Int), is.length = N → lvl is → is.sum + (q : Int) = 2 * (is.length : Int) → (runM l wk picks q fr is).length = q := by
  intro q
  induction q with
  | zero => intro fr is hn h hs; rfl
  | succ q ih =>
    intro fr is hn h hs
    by_cases c : (movesL l wk is).length = 0
    · have := not_stuck ho hl hn h hw (List.length_eq_zero_iff.1 c)
      omega
    · have hp : pickN picks fr (movesL l wk is).length < (movesL l wk is).length := pickN_lt picks fr (by omega)
      have hm := rd_moves hp
      obtain ⟨h1, h2⟩ := do_lvl h hm
      have e : runM l wk picks (q + 1) fr is = rd_T94 (movesL l wk is) (pickN picks fr (movesL l wk is).length : Int) :: runM l wk picks q (fr + 1) (doL is (rd_T94 (movesL l wk is) (pickN picks fr (movesL l wk is).length : Int)).f1) := by
        conv => lhs; unfold runM
        rw [if_neg c]
      rw [e, List.length_cons, ih (fr + 1) _ (by rw [doL_len]; exact hn) h1 (by rw [doL_len]; omega)]
theorem wide_le {mv : List IM} {wk : Int} (hw : 0 ≤ wk) (h : ∀ i, i ≤ mv.length → ((runningL (mv.take i)).length : Int) ≤ wk) : ∀ i, i ≤ mv.length → wideTo mv i ≤ wk := by
  intro i
  induction i with
  | zero => intro _; exact hw
  | succ i ih =>
    intro hi
    have h1 := ih (by omega)
    have h2 := h (i + 1) hi
    show mx _ _ ≤ wk
    unfold mx
    omega

-- chunk draw: what the draws may tell
theorem and255 (v : Int) : 0 ≤ Go.bits .and .i64 v 255 ∧ Go.bits .and .i64 v 255 ≤ 255 := by
  have h : Go.bits .and .i64 v 255 = IntKind.i64.wrap (((BitVec.ofInt 64 v &&& BitVec.ofInt 64 255).toNat : Nat) : Int) := rfl
  have h2 : (BitVec.ofInt 64 v &&& BitVec.ofInt 64 255).toNat ≤ 255 := by
    rw [BitVec.toNat_and]
    exact Nat.le_trans Nat.and_le_right (by decide)
  rw [h, IntKind.wrap_i64]
  omega
theorem l1Byte_ex (b : List Int) (i h : Int) (hb : b.length ≤ 140737488351232) (hi : 0 ≤ i) : ∃ x i' h', spec_l1Byte.f b i h = some (x, i', h') ∧ 0 ≤ x ∧ x ≤ 255 ∧ 0 ≤ i' := by
  unfold spec_l1Byte.f
  by_cases hl : i < (b.length : Int)
  · rw [if_pos hl, if_pos hi]
    refine ⟨_, _, _, rfl, (and255 _).1, (and255 _).2, ?_⟩
    rw [w64 (by omega) (by omega)]
    omega
  · rw [if_neg hl]
    exact ⟨_, _, _, rfl, (and255 _).1, (and255 _).2, hi⟩
theorem l1Below_ex (b : List Int) (i h n : Int) (hb : b.length ≤ 140737488351232) (hi : 0 ≤ i) : ∃ x i' h', spec_l1Below.f b i h n = some (x, i', h') ∧ 0 ≤ x ∧ (0 < n → x < n) ∧ (n ≤ 0 → x = 0) ∧ 0 ≤ i' := by
  unfold spec_l1Below.f
  by_cases h0 : n ≤ 0
  · rw [if_pos h0]
    exact ⟨0, i, h, rfl, by omega, by omega, fun _ => rfl, hi⟩
  · rw [if_neg h0]
    by_cases h1 : n ≤ 256
    · rw [if_pos h1]
      obtain ⟨x, i1, h1, e1, p1, q1, r1⟩ := l1Byte_ex b i h hb hi
      rw [e1]
      simp only [Option.bind_some]
      rw [if_neg (by omega)]
      exact ⟨_, _, _, rfl, Int.tmod_nonneg _ p1, fun _ => Int.tmod_lt_of_pos _ (by omega), fun h => absurd h h0, r1⟩
    · rw [if_neg h1]
      obtain ⟨x, i1, h1, e1, p1, q1, r1⟩ := l1Byte_ex b i h hb hi
      obtain ⟨y, i2, h2, e2, p2, q2, r2⟩ := l1Byte_ex b i1 h1 hb r1
      obtain ⟨z, i3, h3, e3, p3, q3, r3⟩ := l1Byte_ex b i2 h2 hb r2
      obtain ⟨w, i4, h4, e4, p4, q4, r4⟩ := l1Byte_ex b i3 h3 hb r3
      rw [e1]; simp only [Option.bind_some]; rw [e2]; simp only [Option.bind_some]; rw [e3]; simp only [Option.bind_some]; rw [e4]; simp only [Option.bind_some]
      rw [if_neg (by omega)]
      refine ⟨_, _, _, rfl, Int.tmod_nonneg _ ?_, fun _ => Int.tmod_lt_of_pos _ (by omega), fun h => absurd h h0, r4⟩
      rw [w64 (x := x * 16777216) (by omega) (by omega), w64 (x := y * 65536) (by omega) (by omega), w64 (x := z * 256) (by omega) (by omega), w64 (x := x * 16777216 + y * 65536) (by omega) (by omega), w64 (x := x * 16777216 + y * 65536 + z * 256) (by omega) (by omega), w64 (by omega) (by omega)]
      omega
theorem l1Once_ex (b : List Int) (i h n : Int) (hb : b.length ≤ 140737488351232) (hi : 0 ≤ i) : ∃ x i' h', spec_l1Once.f b i h n = some (x, i', h') ∧ 0 ≤ i' := by
  obtain ⟨x, i', h', e, _, _, _, hi'⟩ := l1Below_ex b i h n hb hi
  unfold spec_l1Once.f
  rw [e]
  exact ⟨_, _, _, rfl, hi'⟩
theorem l1PickInt_ex (b : List Int) (i h : Int) (l : List Int) (hb : b.length ≤ 140737488351232) (hi : 0 ≤ i) (hl : l ≠ []) (hm : l.length ≤ 1000) : ∃ x i' h', spec_l1PickInt.f b i h l = some (x, i', h') ∧ x ∈ l ∧ 0 ≤ i' := by
  obtain ⟨x, i', h', e, h0, h1, _, hi'⟩ := l1Below_ex b i h (l.length : Int) hb hi
  have hp : 0 < l.length := List.length_pos_iff.2 hl
  have h2 := h1 (by omega)
  unfold spec_l1PickInt.f
  rw [e]
  simp only [Option.bind_some]
  rw [if_pos h0, if_pos h2]
  refine ⟨_, _, _, rfl, ?_, hi'⟩
  obtain ⟨y, rfl⟩ : ∃ y : Nat, x = (y : Int) := ⟨x.toNat, by omega⟩
  rw [rd_lt _ (by omega)]
  exact List.getElem_mem _
theorem l1New_ev (b : List Int) (hb : b.length ≤ 140737488351232) : ∃ h, Ev (fun k => spec_l1New.f k b) (b, 0, h) := by
  unfold spec_l1New.f
  have key : ∀ (d i : Nat) (h : Int), i + d = b.length → ∃ h', Ev (fun k => spec_l1New.l0 k b h (i : Int)) (b, 0, h') := by
    intro d
    induction d with
    | zero =>
      intro i h hi
      refine ⟨h, Ev.succ (fun k => ?_)⟩
      simp only [spec_l1New.l0]
      rw [if_neg (by omega)]
    | succ d ih =>
      intro i h hi
      by_cases h4 : i < 4000
      · obtain ⟨h', hr⟩ := ih (i + 1) (Go.bits .and .i64 (wrap64 ((wrap64 ((wrap64 (h * 131)) + (wrap64 (rd b i)))) + 7)) 1073741823) (by omega)
        refine ⟨h', Ev.step (fun k => ?_) hr⟩
        simp only [spec_l1New.l0]
        rw [if_pos (by omega), if_pos (by omega), if_pos (by omega), w64_succ (n := b.length) (by omega) (by omega)]
      · refine ⟨h, Ev.succ (fun k => ?_)⟩
        simp only [spec_l1New.l0]
        rw [if_pos (by omega), if_neg (by omega)]
  exact key b.length 0 _ (by omega)

-- chunk drawgraph: drawn graphs
def inGraph (n : Int) (es : List IE) : Prop := ∀ e ∈ es, (0 ≤ e.f0 ∧ e.f0 < n) ∧ (0 ≤ e.f1 ∧ e.f1 < n)
theorem inGraph_snoc {n : Int} {es : List IE} {e : IE} (h : inGraph n es) (he : (0 ≤ e.f0 ∧ e.f0 < n) ∧ (0 ≤ e.f1 ∧ e.f1 < n)) : inGraph n (es ++ [e]) := by
  intro x hx
  rcases List.mem_append.1 hx with hx | hx
  · exact h x hx
  · rw [List.mem_singleton.1 hx]; exact he
theorem l14Graph_ev (b : List Int) (i h most : Int) (hb : b.length ≤ 140737488351232) (hi : 0 ≤ i) (hm0 : 0 ≤ most) (hm : most ≤ 16) :
    ∃ n es i' h', Ev (fun k => spec_l14Graph.f k b i h most) (n, es, i', h') ∧ 0 ≤ n ∧ n ≤ most ∧ (es.length : Int) ≤ 2 * n + 2 ∧ inGraph n es ∧ 0 ≤ i' := by
  unfold spec_l14Graph.f
  rw [w64 (x := most + 1) (by omega) (by omega)]
  obtain ⟨n, i1, h1, e1, n0, n1, _, hi1⟩ := l1Below_ex b i h (most + 1) hb hi
  have n2 := n1 (by omega)
  rw [e1]
  simp only [Option.bind_some]
  rw [w64 (x := 2 * n) (by omega) (by omega), w64 (x := 2 * n + 2) (by omega) (by omega)]
  obtain ⟨m, i2, h2, e2, m0, m1, _, hi2⟩ := l1Below_ex b i1 h1 (2 * n + 2) hb hi1
  have m2 := m1 (by omega)
  rw [e2]
  simp only [Option.bind_some]
  have key : ∀ (d : Nat) (j : Nat) (es : List IE) (i h : Int), (j : Int) + d = m → es.length ≤ j → inGraph n es → 0 ≤ i →
      ∃ es' i' h', Ev (fun k => spec_l14Graph.l0 k n es m (j : Int) b i h) (n, es', i', h') ∧ (es'.length : Int) ≤ 2 * n + 2 ∧ inGraph n es' ∧ 0 ≤ i' := by
    intro d
    induction d with
    | zero =>
      intro j es i h hj hes hin hi
      refine ⟨es, i, h, Ev.step (f := fun k => spec_l14Graph.j1 k n es m (j : Int) false b i h) (fun k => ?_) (Ev.succ fun k => ?_), by omega, hin, hi⟩
      · simp only [spec_l14Graph.l0]
        rw [if_neg (by omega)]
      · simp [spec_l14Graph.j1]
    | succ d ih =>
      intro j es i h hj hes hin hi
      have hj2 : j ≤ 9223372036854775806 := by omega
      by_cases hn : 0 < n
      · obtain ⟨a, i3, h3, e3, a0, a1, _, hi3⟩ := l1Below_ex b i h n hb hi
        obtain ⟨c, i4, h4, e4, c0, c1, _, hi4⟩ := l1Below_ex b i3 h3 n hb hi3
        have a2 := a1 hn
        have c2 := c1 hn
        -- from j2 on
        have two : ∀ (t : Bool) (i h : Int), 0 ≤ i → ∃ es' i' h', Ev (fun k => spec_l14Graph.j2 k n es m (j : Int) a c t b i h) (n, es', i', h') ∧ (es'.length : Int) ≤ 2 * n + 2 ∧ inGraph n es' ∧ 0 ≤ i' := by
          intro t i h hi
          cases t with
          | true =>
            by_cases hac : c = a
            · obtain ⟨o, i5, h5, e5, hi5⟩ := l1Once_ex b i h 12 hb hi
              cases o with
              | true =>
                obtain ⟨es', i', h', hr, r1, r2, r3⟩ := ih (j + 1) (es ++ [⟨c, a⟩]) i5 h5 (by omega) (by simp; omega) (inGraph_snoc hin ⟨⟨c0, c2⟩, a0, a2⟩) hi5
                refine ⟨es', i', h', Ev.step (fun k => ?_) hr, r1, r2, r3⟩
                simp only [spec_l14Graph.j2, if_true]
                rw [if_pos hac, e5]
                simp only [Option.bind_some, if_true]
                rw [if_pos (by omega), w64_nat j hj2]
              | false =>
                obtain ⟨es', i', h', hr, r1, r2, r3⟩ := ih (j + 1) es i5 h5 (by omega) (by omega) hin hi5
                refine ⟨es', i', h', Ev.step (fun k => ?_) hr, r1, r2, r3⟩
                simp only [spec_l14Graph.j2, if_true]
                rw [if_pos hac, e5]
                simp only [Option.bind_some]
                rw [if_neg (by simp), w64_nat j hj2]
            · obtain ⟨es', i', h', hr, r1, r2, r3⟩ := ih (j + 1) (es ++ [⟨c, a⟩]) i h (by omega) (by simp; omega) (inGraph_snoc hin ⟨⟨c0, c2⟩, a0, a2⟩) hi
              refine ⟨es', i', h', Ev.step (fun k => ?_) hr, r1, r2, r3⟩
              simp only [spec_l14Graph.j2, if_true]
              rw [if_neg hac, if_pos (by omega), w64_nat j hj2]
          | false =>
            by_cases hac : a = c
            · obtain ⟨o, i5, h5, e5, hi5⟩ := l1Once_ex b i h 12 hb hi
              cases o with
              | true =>
                obtain ⟨es', i', h', hr, r1, r2, r3⟩ := ih (j + 1) (es ++ [⟨a, c⟩]) i5 h5 (by omega) (by simp; omega) (inGraph_snoc hin ⟨⟨a0, a2⟩, c0, c2⟩) hi5
                refine ⟨es', i', h', Ev.step (fun k => ?_) hr, r1, r2, r3⟩
                simp only [spec_l14Graph.j2]
                rw [if_neg (by simp), if_pos hac, e5]
                simp only [Option.bind_some, if_true]
                rw [if_pos (by omega), w64_nat j hj2]
              | false =>
                obtain ⟨es', i', h', hr, r1, r2, r3⟩ := ih (j + 1) es i5 h5 (by omega) (by omega) hin hi5
                refine ⟨es', i', h', Ev.step (fun k => ?_) hr, r1, r2, r3⟩
                simp only [spec_l14Graph.j2]
                rw [if_neg (by simp), if_pos hac, e5]
                simp only [Option.bind_some]
                rw [if_neg (by simp), w64_nat j hj2]
            · obtain ⟨es', i', h', hr, r1, r2, r3⟩ := ih (j + 1) (es ++ [⟨a, c⟩]) i h (by omega) (by simp; omega) (inGraph_snoc hin ⟨⟨a0, a2⟩, c0, c2⟩) hi
              refine ⟨es', i', h', Ev.step (fun k => ?_) hr, r1, r2, r3⟩
              simp only [spec_l14Graph.j2]
              rw [if_neg (by simp), if_neg hac, if_pos (by omega), w64_nat j hj2]
        by_cases hgt : a > c
        · obtain ⟨o, i5, h5, e5, hi5⟩ := l1Once_ex b i4 h4 7 hb hi4
          obtain ⟨es', i', h', hr, r1, r2, r3⟩ := two (!o) i5 h5 hi5
          refine ⟨es', i', h', Ev.step (f := fun k => spec_l14Graph.j1 k n es m (j : Int) true b i h) (fun k => ?_) (Ev.step (fun k => ?_) hr), r1, r2, r3⟩
          · simp only [spec_l14Graph.l0]
            rw [if_pos (by omega), decide_eq_true (by omega : n > 0)]
          · simp only [spec_l14Graph.j1, if_true]
            rw [e3]; simp only [Option.bind_some]; rw [e4]; simp only [Option.bind_some]
            rw [if_pos hgt, e5]; rfl
        · obtain ⟨es', i', h', hr, r1, r2, r3⟩ := two false i4 h4 hi4
          refine ⟨es', i', h', Ev.step (f := fun k => spec_l14Graph.j1 k n es m (j : Int) true b i h) (fun k => ?_) (Ev.step (fun k => ?_) hr), r1, r2, r3⟩
          · simp only [spec_l14Graph.l0]
            rw [if_pos (by omega), decide_eq_true (by omega : n > 0)]
          · simp only [spec_l14Graph.j1, if_true]
            rw [e3]; simp only [Option.bind_some]; rw [e4]; simp only [Option.bind_some]
            rw [if_neg hgt]
      · refine ⟨es, i, h, Ev.step (f := fun k => spec_l14Graph.j1 k n es m (j : Int) false b i h) (fun k => ?_) (Ev.succ fun k => ?_), by omega, hin, hi⟩
        · simp only [spec_l14Graph.l0]
          rw [if_pos (by omega), decide_eq_false (by omega : ¬ n > 0)]
        · simp [spec_l14Graph.j1]
  obtain ⟨es', i', h', hr, r1, r2, r3⟩ := key m.toNat 0 [] i2 h2 (by omega) (by simp) (fun e he => by simp at he) hi2
  exact ⟨n, es', i', h', hr, n0, by omega, r1, r2, r3⟩
theorem l14Some_ev (b : List Int) (i h most : Int) (hb : b.length ≤ 140737488351232) (hi : 0 ≤ i) (hm0 : 0 ≤ most) (hm : most ≤ 16) :
    ∃ n es i' h', Ev (fun k => spec_l14Some.f k b i h most) (n, es, i', h') ∧ -1 ≤ n ∧ n ≤ 17 ∧ es.length ≤ 300 ∧ 0 ≤ i' := by
  unfold spec_l14Some.f
  obtain ⟨n, es, i1, h1, hg, n0, n1, hl, hin, hi1⟩ := l14Graph_ev b i h most hb hi hm0 hm
  obtain ⟨o, i2, h2, e2, hi2⟩ := l1Once_ex b i1 h1 12 hb hi1
  cases o with
  | false => exact ⟨n, es, i2, h2, Ev.bind hg (Ev.of_eq fun k => by simp only [e2, Option.bind_some]; rfl), by omega, by omega, by omega, hi2⟩
  | true =>
    obtain ⟨q, i3, h3, e3, q0, _, _, hi3⟩ := l1Below_ex b i2 h2 4 hb hi2
    by_cases q1 : q = 0
    · obtain ⟨x, i4, h4, e4, hx, hi4⟩ := l1PickInt_ex b i3 h3 [(-1), 16, 17] hb hi3 (by simp) (by simp)
      refine ⟨x, es, i4, h4, Ev.bind hg (Ev.of_eq fun k => by simp only [e2, Option.bind_some, if_true, e3, q1, e4]), ?_, ?_, by omega, hi4⟩ <;> (simp at hx; omega)
    · by_cases q2 : q = 1
      · exact ⟨n, es ++ [⟨0, n⟩], i3, h3, Ev.bind hg (Ev.of_eq fun k => by simp only [e2, Option.bind_some, if_true, e3, q2]; rw [if_neg (by omega), if_pos (by omega)]), by omega, by omega, by simp; omega, hi3⟩
      · by_cases q3 : q = 2
        · exact ⟨n, es ++ [⟨-1, 0⟩], i3, h3, Ev.bind hg (Ev.of_eq fun k => by simp only [e2, Option.bind_some, if_true, e3, q3]; rw [if_neg (by omega), if_neg (by omega), if_pos (by omega)]), by omega, by omega, by simp; omega, hi3⟩
        · have key : ∀ (d : Nat) (es : List IE) (i h : Int), 250 ≤ es.length + d → es.length ≤ 201 → 0 ≤ i →
              ∃ es' i' h', Ev (fun k => spec_l14Some.l0 k n es b i h) (n, es', i', h') ∧ es'.length ≤ 300 ∧ 0 ≤ i' := by
            intro d
            induction d with
            | zero => intro es i h hd hes hi; omega
            | succ d ih =>
              intro es i h hd hes hi
              obtain ⟨x, i5, h5, e5, x0, x1, _, hi5⟩ := l1Below_ex b i h 2 hb hi
              have x2 := x1 (by omega)
              by_cases hlt : (es.length : Int) < 200 + x
              · by_cases hn1 : n > 1
                · obtain ⟨es', i', h', hr, r1, r2⟩ := ih (es ++ [⟨0, 1⟩]) i5 h5 (by simp; omega) (by simp; omega) hi5
                  refine ⟨es', i', h', Ev.step (fun k => ?_) hr, r1, r2⟩
                  simp only [spec_l14Some.l0, e5, Option.bind_some]
                  rw [w64 (by omega) (by omega), if_pos hlt, if_pos hn1, if_pos (by omega)]
                · refine ⟨es, i5, h5, Ev.succ (fun k => ?_), by omega, hi5⟩
                  simp only [spec_l14Some.l0, e5, Option.bind_some]
                  rw [w64 (by omega) (by omega), if_pos hlt, if_neg hn1]
              · refine ⟨es, i5, h5, Ev.succ (fun k => ?_), by omega, hi5⟩
                simp only [spec_l14Some.l0, e5, Option.bind_some]
                rw [w64 (by omega) (by omega), if_neg hlt]
          obtain ⟨es', i', h', hr, r1, r2⟩ := key 250 es i3 h3 (by omega) (by omega) hi3
          refine ⟨n, es', i', h', Ev.bind hg (Ev.congr (fun k => ?_) hr), by omega, by omega, r1, r2⟩
          simp only [e2, Option.bind_some, if_true, e3]
          rw [if_neg q1, if_neg q2, if_neg q3]

-- chunk drawpool: drawn workers and picks
theorem l18Picks_ev (b : List Int) (i h : Int) (hb : b.length ≤ 140737488351232) (hi : 0 ≤ i) : ∃ ps i' h', Ev (fun k => spec_l18Picks.f k b i h 20) (ps, i', h') ∧ 0 ≤ i' ∧ ps.length ≤ 22 := by
  unfold spec_l18Picks.f
  obtain ⟨n, i1, h1, e1, n0, n1, _, p1⟩ := l1Below_ex b i h (wrap64 (20 + 1)) hb hi
  have hw : wrap64 (20 + 1) = 21 := w64 (by omega) (by omega)
  have hn : n < 21 := by
    have := n1 (by rw [hw]; omega)
    rw [hw] at this
    exact this
  have key : ∀ (d j : Nat) (out : List Int) (i h : Int), (j : Int) + d = n → 0 ≤ i → out.length = j → ∃ ps i' h', Ev (fun k => spec_l18Picks.l0 k out n (j : Int) b i h) (ps, i', h') ∧ 0 ≤ i' ∧ ps.length ≤ 22 := by
    intro d
    induction d with
    | zero =>
      intro j out i h hj hi ho
      obtain ⟨x, i2, h2, e2, p2⟩ := l1Once_ex b i h 9 hb hi
      cases x with
      | false =>
        refine ⟨out, i2, h2, Ev.succ (fun k => ?_), p2, by omega⟩
        simp only [spec_l18Picks.l0]
        rw [if_neg (by omega), e2, Option.bind_some, if_neg (by simp)]
      | true =>
        obtain ⟨v, i3, h3, e3, _, p3⟩ := l1PickInt_ex b i2 h2 [9223372036854775807, -9223372036854775808] hb p2 (by simp) (by simp)
        refine ⟨out ++ [v], i3, h3, Ev.succ (fun k => ?_), p3, by rw [List.length_append]; simp; omega⟩
        simp only [spec_l18Picks.l0]
        rw [if_neg (by omega), e2, Option.bind_some, if_pos rfl, e3, Option.bind_some, if_pos (by omega)]
    | succ d ih =>
      intro j out i h hj hi ho
      obtain ⟨x, i2, h2, e2, x0, x1, _, p2⟩ := l1Below_ex b i h 40 hb hi
      obtain ⟨ps, i3, h3, e3, p3, p4⟩ := ih (j + 1) (out ++ [wrap64 (x - 7)]) i2 h2 (by omega) p2 (by rw [List.length_append]; simp; omega)
      refine ⟨ps, i3, h3, Ev.step (fun k => ?_) e3, p3, p4⟩
      simp only [spec_l18Picks.l0]
      rw [if_pos (by omega), e2, Option.bind_some, if_pos (by omega), w64_nat j (by omega)]
  obtain ⟨ps, i2, h2, e2, p2, p3⟩ := key n.toNat 0 [] i1 h1 (by omega) p1 rfl
  exact ⟨ps, i2, h2, Ev.bindc e1 e2, p2, p3⟩
theorem DrawPoolRun_ev (code : List Int) (hb : code.length ≤ 140737488351232) : ∃ n es wk ps, Ev (fun k => spec_DrawPoolRun.f k code) (n, es, wk, ps) ∧ ps.length ≤ 1000000 := by
  unfold spec_DrawPoolRun.f
  obtain ⟨h, e0⟩ := l1New_ev code hb
  have hs := l14Some_ev code 0 h 9 hb (by omega) (by omega) (by omega)
  obtain ⟨n, es, i1, h1, e1, _, _, _, p1⟩ := hs
  obtain ⟨wk, i2, h2, e2, _, p2⟩ := l1PickInt_ex code i1 h1 [1, 2, 3, 4, 8, 2, 3, 0, 9] hb p1 (by simp) (by simp)
  obtain ⟨ps, i3, h3, e3, p3, q3⟩ := l18Picks_ev code i2 h2 hb p2
  obtain ⟨x, i4, h4, e4, p4⟩ := l1Once_ex code i3 h3 20 hb p3
  have hw : spec_l18Workers.f code i1 h1 = some (wk, i2, h2) := by
    unfold spec_l18Workers.f
    rw [e2]
    rfl
  cases x with
  | false =>
    refine ⟨n, es, wk, ps, Ev.bind e0 (Ev.bind e1 (Ev.bindc hw (Ev.bind e3 (Ev.bindc e4 (Ev.of_eq fun k => if_neg (by simp)))))), by omega⟩
  | true =>
    have key : ∀ (d : Nat) (ps : List Int) (i h : Int), 2002 - ps.length = d → 0 ≤ i → ps.length ≤ 2001 → ∃ qs, Ev (fun k => spec_DrawPoolRun.l0 k n es wk ps code i h) (n, es, wk, qs) ∧ qs.length ≤ 1000000 := by
      intro d
      induction d with
      | zero => intro ps i h hd; omega
      | succ d ih =>
        intro ps i h hd hi hl
        obtain ⟨x, i2, h2, e2, x0, x1, _, p2⟩ := l1Below_ex code i h 2 hb hi
        have hx := x1 (by omega)
        have hw : wrap64 (2000 + x) = 2000 + x := w64 (by omega) (by omega)
        by_cases c : (ps.length : Int) < 2000 + x
        · obtain ⟨qs, e3, q⟩ := ih (ps ++ [(ps.length : Int)]) i2 h2 (by rw [List.length_append]; simp; omega) p2 (by rw [List.length_append]; simp; omega)
          refine ⟨qs, Ev.step (fun k => ?_) e3, q⟩
          simp only [spec_DrawPoolRun.l0]
          rw [e2, Option.bind_some, hw, if_pos c, if_pos (by omega)]
        · refine ⟨ps, Ev.succ (fun k => ?_), by omega⟩
          simp only [spec_DrawPoolRun.l0]
          rw [e2, Option.bind_some, hw, if_neg c]
    obtain ⟨qs, e5, q5⟩ := key _ ps i4 h4 rfl p4 (by omega)
    exact ⟨n, es, wk, qs, Ev.bind e0 (Ev.bind e1 (Ev.bindc hw (Ev.bind e3 (Ev.bindc e4 (Ev.congr (fun k => if_pos rfl) e5))))), q5⟩

def endB (is : List Int) : List Bool := is.map fun v => v == 2
def begB (is : List Int) : List Bool := is.map fun v => !(v == 0)
theorem rd_endB {is : List Int} {t : Nat} (ht : t < is.length) : rdOf false (endB is) (t : Int) = (rd is (t : Int) == 2) := by
  rw [rdOf_lt (endB is) false (by simpa [endB] using ht), rd_lt is ht]
  simp [endB]
theorem rd_begB {is : List Int} {t : Nat} (ht : t < is.length) : rdOf false (begB is) (t : Int) = !(rd is (t : Int) == 0) := by
  rw [rdOf_lt (begB is) false (by simpa [begB] using ht), rd_lt is ht]
  simp [begB]
theorem map_doL {is : List Int} {t : Nat} (ht : t < is.length) (f : Int → Bool) : (doL is (t : Int)).map f = (is.map f).set t (f (rd is (t : Int) + 1)) := by
  unfold doL
  rw [Int.toNat_natCast, List.map_set]
theorem map_keep {is : List Int} {t : Nat} (ht : t < is.length) (f : Int → Bool) (h : f (rd is (t : Int) + 1) = f (rd is (t : Int))) : (doL is (t : Int)).map f = is.map f := by
  rw [map_doL ht, h, rd_lt is ht]
  have h2 : (is.map f)[t]'(by simpa using ht) = f is[t] := by simp
  rw [← h2, List.set_getElem_self]
theorem edges_ev {N : Nat} {l : List IE} {mv : List IM} {is : List Int} {b : List Bool} {i t : Nat} (hl : l.length ≤ 200) (hn : is.length = N) (hN : N ≤ 16) (hf : ∀ e ∈ l, 0 ≤ e.f0 ∧ e.f0 < (N : Int)) (hr : ∀ e ∈ l, e.f1 = (t : Int) → rd is e.f0 = 2) (hi : i ≤ 1000)
    (hc : Ev (fun k => laws_FnNoStuck.l0 k (N : Int) l mv (endB is) b ((i + 1 : Nat) : Int)) true) : Ev (fun k => laws_FnNoStuck.l1 k (N : Int) l mv (endB is) b (i : Int) (t : Int) 0) true := by
  refine down_ev (fun k j => laws_FnNoStuck.l1 k (N : Int) l mv (endB is) b (i : Int) (t : Int) j) l.length true (fun j h hr2 => ?_) ?_ 0 (by omega)
  · refine Ev.step (fun k => ?_) hr2
    have hm := hf l[j] (List.getElem_mem h)
    simp only [laws_FnNoStuck.l1]
    rw [if_pos (by omega), if_pos (by omega), rd_IE h, w64_nat j (by omega)]
    by_cases c : l[j].f1 = (t : Int)
    · have h2 := hr l[j] (List.getElem_mem h) c
      obtain ⟨s, hs⟩ : ∃ s : Nat, l[j].f0 = (s : Int) := ⟨l[j].f0.toNat, by omega⟩
      have hlen : (endB is).length = is.length := by simp [endB]
      rw [if_pos c, if_pos hm.1, if_pos (by rw [hlen]; omega), hs, rd_endB (by omega), if_pos (by rw [← hs, h2]; rfl)]
    · rw [if_neg c]
  · refine Ev.step (fun k => ?_) hc
    simp only [laws_FnNoStuck.l1]
    rw [if_neg (by omega), w64_nat i (by omega)]
theorem loop_ev {N : Nat} {l : List IE} {wk : Int} (picks : List Int) (hl : l.length ≤ 200) (hN : N ≤ 16) (hf : ∀ e ∈ l, 0 ≤ e.f0 ∧ e.f0 < (N : Int)) : ∀ (q fr : Nat) (is : List Int) (pre : List IM), is.length = N → lvl is → pre.length + q ≤ 100 →
    Ev (fun k => laws_FnNoStuck.l0 k (N : Int) l (pre ++ runM l wk picks q fr is) (endB is) (begB is) (pre.length : Int)) true := by
  intro q
  induction q with
  | zero =>
    intro fr is pre hn h hp
    refine Ev.succ (fun k => ?_)
    simp only [laws_FnNoStuck.l0, runM, List.append_nil]
    rw [if_neg (by omega)]
  | succ q ih =>
    intro fr is pre hn h hp
    by_cases c : (movesL l wk is).length = 0
    · have e : runM l wk picks (q + 1) fr is = [] := by unfold runM; rw [if_pos c]
      rw [e, List.append_nil]
      refine Ev.succ (fun k => ?_)
      simp only [laws_FnNoStuck.l0]
      rw [if_neg (by omega)]
    · have hpk : pickN picks fr (movesL l wk is).length < (movesL l wk is).length := pickN_lt picks fr (by omega)
      have hm := rd_moves hpk
      obtain ⟨h1, h2⟩ := do_lvl h hm
      have e : runM l wk picks (q + 1) fr is = rd_T94 (movesL l wk is) (pickN picks fr (movesL l wk is).length : Int) :: runM l wk picks q (fr + 1) (doL is (rd_T94 (movesL l wk is) (pickN picks fr (movesL l wk is).length : Int)).f1) := by
        conv => lhs; unfold runM
        rw [if_neg c]
      have hih := ih (fr + 1) (doL is (rd_T94 (movesL l wk is) (pickN picks fr (movesL l wk is).length : Int)).f1) (pre ++ [rd_T94 (movesL l wk is) (pickN picks fr (movesL l wk is).length : Int)]) (by rw [doL_len]; exact hn) h1 (by rw [List.length_append]; simp; omega)
      rw [List.append_assoc, List.length_append] at hih
      rw [e]
      generalize rd_T94 (movesL l wk is) (pickN picks fr (movesL l wk is).length : Int) = m at hm h1 h2 hih
      obtain ⟨t, ht, ht1, ht2⟩ := movesL_mem hm
      have hmv : ∀ r : List IM, rd_T94 (pre ++ m :: r) (pre.length : Int) = m := fun r => by
        rw [rd_IM (by rw [List.length_append, List.length_cons]; omega)]
        simp
      rw [show [m] ++ runM l wk picks q (fr + 1) (doL is m.f1) = m :: runM l wk picks q (fr + 1) (doL is m.f1) from rfl] at hih
      generalize runM l wk picks q (fr + 1) (doL is m.f1) = r at hih
      have e1 : (((pre.length + [m].length : Nat)) : Int) = ((pre.length + 1 : Nat) : Int) := rfl
      rw [e1, ht1] at hih
      have hlen1 : (endB is).length = is.length := by simp [endB]
      have hlen2 : (begB is).length = is.length := by simp [begB]
      rcases ht2 with ⟨h3, h4⟩ | ⟨h3, h5, h4⟩
      · have b1 : begB (doL is (t : Int)) = begB is := map_keep ht _ (by rw [h4]; rfl)
        have b2 : endB (doL is (t : Int)) = (endB is).set t true := by
          unfold endB
          rw [map_doL ht, h4]
          rfl
        rw [b1, b2] at hih
        refine Ev.step (fun k => ?_) hih
        simp only [laws_FnNoStuck.l0]
        rw [if_pos (by rw [List.length_append, List.length_cons]; omega), if_pos (by omega), hmv, ht1, if_neg (by omega), if_neg (by omega), if_pos h3, if_pos (by omega), if_pos (by omega), rd_begB ht, if_pos (by rw [h4]; rfl), if_pos (by omega), rd_endB ht, if_neg (by rw [h4]; simp), Int.toNat_natCast, w64_nat pre.length (by omega)]
      · have b1 : endB (doL is (t : Int)) = endB is := map_keep ht _ (by rw [h4]; rfl)
        have b2 : begB (doL is (t : Int)) = (begB is).set t true := by
          unfold begB
          rw [map_doL ht, h4]
          rfl
        rw [b1, b2] at hih
        have hrd : ∀ e ∈ l, e.f1 = (t : Int) → rd is e.f0 = 2 := fun e he h6 => by
          unfold rdyB at h5
          rw [Bool.and_eq_true, Bool.not_eq_true', List.any_eq_false] at h5
          have h7 := h5.2 e he
          by_cases c2 : rd is e.f0 = 2
          · exact c2
          · exact absurd (show rdyP is (t : Int) e = true from decide_eq_true ⟨h6, c2⟩) h7
        refine Ev.step (fun k => ?_) (edges_ev (i := pre.length) (t := t) hl hn hN hf hrd (by omega) hih)
        simp only [laws_FnNoStuck.l0]
        rw [if_pos (by rw [List.length_append, List.length_cons]; omega), if_pos (by omega), hmv, ht1, if_neg (by omega), if_neg (by omega), if_neg (by omega), if_pos (by omega), if_pos (by omega), rd_begB ht, if_neg (by rw [h4]; simp), Int.toNat_natCast]
theorem canonP_ord {N : Nat} {l : List IE} {o : List Int} (h : canonP (N : Int) l = some o) : ordOk N l o ∧ o.length = N := by
  unfold canonP at h
  rw [Int.toNat_natCast] at h
  have h2 := canonG_ok (o := []) ⟨List.nodup_nil, fun x hx => by simp at hx, fun j hj => by simp at hj⟩ h
  simpa using h2
theorem proof : Pure := by
  intro code hc
  refine Ev.rounds ?_
  unfold laws_FnNoStuck.f
  by_cases hbig : 1048576 < code.length
  · refine Ev.bindc (a := true) (by unfold laws_big.f; rw [decide_eq_true (by omega)]) (Ev.of_eq fun k => if_pos rfl)
  refine Ev.bindc (a := false) (by unfold laws_big.f; rw [decide_eq_false (by omega)]) (Ev.congr (fun k => if_neg (by simp)) ?_)
  obtain ⟨n, l, wk, ps, hd, hl⟩ := DrawPoolRun_ev code (by omega)
  refine Ev.bind hd (Ev.bind (impl_PoolRun_ev n l wk ps) (Ev.bind (spec_PoolRun_ev n l wk ps (by omega)) (Ev.bind (spec_Canon_ev n l) ?_)))
  unfold poolRunL
  by_cases hp : poolOk n l wk = true ∧ ps.length ≤ 2000
  · rw [if_pos hp]
    refine Ev.congr (fun k => if_pos rfl) ?_
    have hpo := hp.1
    unfold poolOk at hpo
    rw [Bool.and_eq_true] at hpo
    have hg := hpo.1
    have hw := of_decide_eq_true hpo.2
    obtain ⟨n0, n1, hll, hf⟩ := graphOk_spec hg
    obtain ⟨N, rfl⟩ : ∃ N : Nat, n = (N : Int) := ⟨n.toNat, by omega⟩
    rw [Int.toNat_natCast, runP_eq, List.nil_append, if_pos hg]
    cases hcan : canonP (N : Int) l with
    | none => exact Ev.of_eq fun k => by rw [if_neg (by simp [pairOf])]; simp
    | some o =>
      obtain ⟨ho, hol⟩ := canonP_ord hcan
      refine Ev.congr (fun k => if_pos (by simp [pairOf])) (Ev.congr (fun k => if_pos rfl) ?_)
      have hfull := run_full ho hol hw.1 ps (2 * N) 0 (List.replicate N 0) List.length_replicate (lvl0 N) (by rw [sum0, List.length_replicate]; omega)
      have hrd0 : ∀ t : Nat, rd (List.replicate N 0) (t : Int) = 0 := fun t => by
        unfold rd
        rw [Int.toNat_natCast, List.getD_eq_getElem?_getD, List.getElem?_replicate]
        split <;> rfl
      have hnow0 : NowIs [] (List.replicate N 0) := fun x => by
        constructor
        · intro h; simp at h
        · rintro ⟨t, _, _, h⟩
          rw [hrd0] at h
          omega
      have he0 : endsTo (List.replicate N 0) (List.replicate N (0 : Int)).length = [] := by
        cases h : endsTo (List.replicate N 0) (List.replicate N (0 : Int)).length with
        | nil => rfl
        | cons e r =>
          obtain ⟨t, _, h2, _⟩ := mem_endsTo.1 (show e ∈ endsTo (List.replicate N 0) (List.replicate N (0 : Int)).length by rw [h]; exact List.mem_cons_self)
          rw [hrd0] at h2
          omega
      have hall := run_all l wk ps (2 * N) 0 (List.replicate N 0) [] (lvl0 N) (by rw [sum0, List.length_replicate]; omega) hnow0 (by rw [he0]; simp; omega)
      have hloop := loop_ev (wk := wk) ps hll (by omega) (fun e he => (hf e he).1) (2 * N) 0 (List.replicate N 0) [] List.length_replicate (lvl0 N) (by simp; omega)
      rw [List.nil_append] at hloop
      have hb1 : endB (List.replicate N 0) = List.replicate N false := by simp [endB]
      have hb2 : begB (List.replicate N 0) = List.replicate N false := by simp [begB]
      rw [hb1, hb2] at hloop
      generalize runM l wk ps (2 * N) 0 (List.replicate N 0) = mv at hfull hall hloop
      have hrun : ∀ i, i ≤ mv.length → ((runningL (mv.take i)).length : Int) ≤ wk ∧ (i = mv.length → (runningL (mv.take i)).length = 0) := fun i hi => by
        obtain ⟨a, g1, g2, g3, g4, g5⟩ := hall i hi
        have hlen : (mv.take i).length ≤ 32 := by rw [List.length_take]; omega
        have e1 : runningL (mv.take i) = (endsTo a a.length).map fun e => e.f1 := by
          unfold runningL
          rw [if_neg (by omega)]
          exact now_ends g3
        rw [e1, List.length_map]
        refine ⟨g4, fun h => ?_⟩
        have hm := g5 h
        unfold movesL at hm
        split at hm
        · rw [hm]; rfl
        · rw [(List.append_eq_nil_iff.1 hm).1]; rfl
      refine Ev.congr (fun k => if_pos (by show (mv.length : Int) = wrap64 (2 * (N : Int)); rw [w64 (by omega) (by omega)]; omega)) ?_
      refine Ev.bind (impl_Widest_ev mv (by omega)) ?_
      have hwide : widestL mv ≤ wk := by
        unfold widestL
        rw [if_neg (by omega)]
        exact wide_le (by omega) (fun i hi => (hrun i hi).1) mv.length (Nat.le_refl _)
      refine Ev.congr (fun k => if_neg (by show ¬ (widestL mv > wk); omega)) ?_
      refine Ev.bind (spec_Running_ev mv (by omega)) ?_
      have hz := (hrun mv.length (Nat.le_refl _)).2 rfl
      rw [List.take_length] at hz
      refine Ev.congr (fun k => if_pos (by omega)) (Ev.congr (fun k => if_pos (by omega)) (Ev.congr (fun k => if_pos (by show (N : Int).toNat ≤ 281474976710656; omega)) ?_))
      exact hloop
  · rw [if_neg hp]
    exact Ev.of_eq fun k => by rw [if_neg (by simp)]; simp


end Go.Proofs.Ytpdcgnfdffbolaa.fnNoStuck
