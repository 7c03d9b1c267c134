/- The law FnExactLinearOk holds of the program's own functions, told over lists and numbers: for every argument it returns true. Conditions: none beyond the given row's own. -/
import Derived.Test.YtapbpfbhghheeaaSaysFnExactLinearOk
import Derived.Test.YtapbpfbhghheeaaKit
namespace Go.Proofs.Ytapbpfbhghheeaa.fnExactLinearOk
open Go.RowKit Go.Proofs.Ytapbpfbhghheeaa.PFnExactLinearOk Go.Proofs.YtapbpfbhghheeaaW.PrintWords Go.Proofs.YtapbpfbhghheeaaW.PrintLast Go.Proofs.Ytapbpfbhghheeaa.Own
set_option linter.unusedVariables false
set_option linter.unusedSimpArgs false
-- chunk edges: lists of edges are copied, and the same as themselves
abbrev LE := S78
abbrev IE := S60
def toE (x : LE) : IE := ⟨x.f0, x.f1⟩
theorem szEdgeS_eq (l : List LE) (a : Int) : laws_szEdgeS.f l a = some (if wrap64 (a - (l.length : Int)) < 0 then -1 else wrap64 (a - (l.length : Int))) := by
  unfold laws_szEdgeS.f; split <;> rfl
theorem szEdgeS_big {l : List LE} (hl : l.length ≤ maxLen) (h : 1048576 < l.length) : laws_szEdgeS.f l 1048576 = some (-1) := by
  unfold maxLen at hl
  rw [szEdgeS_eq, w64 (by omega) (by omega), if_pos (by omega)]
theorem rd_LE {l : List LE} {i : Nat} (h : i < l.length) : rd_T78 l (i : Int) = l[i] := by
  unfold rd_T78; rw [Int.toNat_natCast]; exact getD_lt l _ h
theorem rd_IE {l : List IE} {i : Nat} (h : i < l.length) : rd_T60 l (i : Int) = l[i] := by
  unfold rd_T60; rw [Int.toNat_natCast]; exact getD_lt l _ h
theorem toEdgeS_ev {l : List LE} (hl : l.length ≤ 17592186044416) : Ev (fun k => laws_toEdgeS.f k l) (l.map toE) := by
  unfold laws_toEdgeS.f
  simp only [Int.natCast_nonneg, if_true, Int.toNat_natCast, if_pos hl]
  refine fill_ev l toE (fun k ys i => laws_toEdgeS.l0 k l ys i) (fun i h ys hy r hr => ?_) (fun ys => ?_) _ (by simp)
  · refine Ev.step (fun k => ?_) hr
    show laws_toEdgeS.l0 (k + 1) l ys i = _
    simp only [laws_toEdgeS.l0]
    rw [if_pos (by omega), if_pos (by omega), rd_LE h]
    unfold laws_toEdge.f
    simp only [Option.bind_some]
    rw [if_pos (by omega), w64_succ h (by omega), Int.toNat_natCast]
    rfl
  · refine Ev.succ (fun k => ?_)
    simp only [laws_toEdgeS.l0]
    rw [if_neg (by omega)]
theorem eqEdgeS_refl {l : List IE} (hl : l.length ≤ 17592186044416) : Ev (fun k => laws_eqEdgeS.f k l l) true := by
  unfold laws_eqEdgeS.f
  simp only [if_true]
  refine down_ev (fun k i => laws_eqEdgeS.l0 k l l i) l.length true (fun i h hr => ?_) ?_ 0 (by omega)
  · refine Ev.step (fun k => ?_) hr
    simp only [laws_eqEdgeS.l0]
    rw [if_pos (by omega), if_pos (by omega), if_pos (by omega)]
    unfold laws_eqEdge.f
    simp only [if_true, Option.bind_some]
    rw [w64_succ h (by omega)]
  · refine Ev.succ (fun k => ?_)
    simp only [laws_eqEdgeS.l0]
    rw [if_neg (by omega)]

-- chunk graph: what GraphOk answers, of the program and of the reference
def edgeIn (n : Int) (e : IE) : Bool := decide (0 ≤ e.f0 ∧ e.f0 ≤ n - 1) && decide (0 ≤ e.f1 ∧ e.f1 ≤ n - 1)
def graphOk (n : Int) (l : List IE) : Bool := decide (0 ≤ n ∧ n ≤ 16) && decide (l.length ≤ 200) && l.all (edgeIn n)
theorem within_eq (a b c : Int) : impl_within.f a b c = some (decide (b ≤ a ∧ a ≤ c)) := by
  unfold impl_within.f
  split <;> simp [*]
theorem l1In_eq (a b c : Int) : spec_l1In.f a b c = some (decide (b ≤ a ∧ a ≤ c)) := by
  unfold spec_l1In.f
  split <;> simp [*]
theorem impl_GraphOk_ev (n : Int) (l : List IE) : Ev (fun k => impl_GraphOk.f k n l) (graphOk n l) := by
  unfold impl_GraphOk.f graphOk
  refine Ev.bindc (within_eq _ _ _) ?_
  by_cases hn : 0 ≤ n ∧ n ≤ 16
  · simp only [hn, decide_true, if_true, and_self, Bool.true_and]
    by_cases hl : l.length ≤ 200
    · refine Ev.step (f := fun k => impl_GraphOk.l0 k n l (l.length : Int) 0) (fun k => ?_) ?_
      · simp only [impl_GraphOk.j0]
        rw [if_neg (by simp; omega)]
      · have hw : wrap64 (n - 1) = n - 1 := w64 (by omega) (by omega)
        have h0 : l.all (edgeIn n) = (l.drop 0).all (edgeIn n) := rfl
        rw [decide_eq_true hl, Bool.true_and, h0]
        refine all_ev l (edgeIn n) (fun k i => impl_GraphOk.l0 k n l (l.length : Int) i) (fun i h hp r hr => ?_) (fun i h hp => ?_) ?_ 0 (by omega)
        · refine Ev.step (fun k => ?_) hr
          simp only [impl_GraphOk.l0]
          rw [if_pos (by omega), if_pos (by omega), if_pos (by omega), rd_IE h, within_eq, within_eq, hw]
          simp only [edgeIn, Bool.and_eq_true] at hp
          simp only [Option.bind_some, hp.1, hp.2, if_true]
          rw [w64_succ h (by omega)]
        · refine Ev.succ (fun k => ?_)
          simp only [impl_GraphOk.l0]
          rw [if_pos (by omega), if_pos (by omega), if_pos (by omega), rd_IE h, within_eq, within_eq, hw]
          simp only [edgeIn, Bool.and_eq_false_iff] at hp
          simp only [Option.bind_some]
          rcases hp with hp | hp
          · rw [hp]; rfl
          · rw [hp]; split <;> rfl
        · refine Ev.succ (fun k => ?_)
          simp only [impl_GraphOk.l0]
          rw [if_neg (by omega)]
    · rw [decide_eq_false hl, Bool.false_and]
      refine Ev.succ (fun k => ?_)
      simp only [impl_GraphOk.j0]
      rw [if_pos (by simp; omega)]
  · simp only [decide_eq_false hn, Bool.false_and]
    refine Ev.succ (fun k => ?_)
    rw [if_neg (by simp)]
    simp only [impl_GraphOk.j0, if_true]
theorem spec_GraphOk_ev (n : Int) (l : List IE) : Ev (fun k => spec_GraphOk.f k n l) (graphOk n l) := by
  unfold spec_GraphOk.f graphOk
  refine Ev.bindc (l1In_eq _ _ _) ?_
  by_cases hn : 0 ≤ n ∧ n ≤ 16
  · simp only [hn, decide_true, if_true, and_self, Bool.true_and]
    by_cases hl : l.length ≤ 200
    · refine Ev.step (f := fun k => spec_GraphOk.l0 k n l 0) (fun k => ?_) ?_
      · simp only [spec_GraphOk.j0]
        rw [if_neg (by simp; omega)]
      · have hw : wrap64 (n - 1) = n - 1 := w64 (by omega) (by omega)
        have h0 : l.all (edgeIn n) = (l.drop 0).all (edgeIn n) := rfl
        rw [decide_eq_true hl, Bool.true_and, h0]
        refine all_ev l (edgeIn n) (fun k i => spec_GraphOk.l0 k n l i) (fun i h hp r hr => ?_) (fun i h hp => ?_) ?_ 0 (by omega)
        · refine Ev.step (fun k => ?_) hr
          simp only [spec_GraphOk.l0]
          rw [if_pos (by omega), if_pos (by omega), rd_IE h, l1In_eq, l1In_eq, hw]
          simp only [edgeIn, Bool.and_eq_true] at hp
          simp only [Option.bind_some, hp.1, hp.2, if_true]
          rw [w64_succ h (by omega)]
        · refine Ev.succ (fun k => ?_)
          simp only [spec_GraphOk.l0]
          rw [if_pos (by omega), if_pos (by omega), rd_IE h, l1In_eq, l1In_eq, hw]
          simp only [edgeIn, Bool.and_eq_false_iff] at hp
          simp only [Option.bind_some]
          rcases hp with hp | hp
          · rw [hp]; rfl
          · rw [hp]; split <;> rfl
        · refine Ev.succ (fun k => ?_)
          simp only [spec_GraphOk.l0]
          rw [if_neg (by omega)]
    · rw [decide_eq_false hl, Bool.false_and]
      refine Ev.succ (fun k => ?_)
      simp only [spec_GraphOk.j0]
      rw [if_pos (by simp; omega)]
  · simp only [decide_eq_false hn, Bool.false_and]
    refine Ev.succ (fun k => ?_)
    rw [if_neg (by simp)]
    simp only [spec_GraphOk.j0, if_true]

-- chunk contains: slices.Index and slices.Contains of numbers
theorem index_ev {l : List Int} (x : Int) (hl : l.length ≤ 9223372036854775807) : Ev (fun k => slices_Index_int_int.f k l x) (if x ∈ l then (l.idxOf x : Int) else -1) := by
  unfold slices_Index_int_int.f
  have key : ∀ (d i : Nat), i + d = l.length → Ev (fun k => slices_Index_int_int.l0 k l x (l.length : Int) (i : Int)) (if x ∈ l.drop i then ((i + (l.drop i).idxOf x : Nat) : Int) else -1) := by
    intro d
    induction d with
    | zero =>
      intro i hi
      obtain rfl : i = l.length := by omega
      refine Ev.succ (fun k => ?_)
      simp only [slices_Index_int_int.l0]
      rw [if_neg (by omega)]
      simp
    | succ d ih =>
      intro i hi
      have h : i < l.length := by omega
      have hr := ih (i + 1) (by omega)
      rw [List.drop_eq_getElem_cons h]
      by_cases e : x = l[i]
      · refine Ev.succ (fun k => ?_)
        simp only [slices_Index_int_int.l0]
        rw [if_pos (by omega), if_pos (by omega), if_pos (by omega), rd_lt _ h, if_pos e]
        rw [if_pos (List.mem_cons.2 (Or.inl e)), List.idxOf_cons]
        simp only [e, beq_self_eq_true, cond_true, Nat.add_zero]
      · refine Ev.step (f := fun k => slices_Index_int_int.l0 k l x (l.length : Int) ((i + 1 : Nat) : Int)) (fun k => ?_) ?_
        · simp only [slices_Index_int_int.l0]
          rw [if_pos (by omega), if_pos (by omega), if_pos (by omega), rd_lt _ h, if_neg e, w64_succ h hl]
        · have : (if x ∈ l[i] :: l.drop (i + 1) then ((i + (l[i] :: l.drop (i + 1)).idxOf x : Nat) : Int) else -1) = (if x ∈ l.drop (i + 1) then (((i + 1) + (l.drop (i + 1)).idxOf x : Nat) : Int) else -1) := by
            rw [List.idxOf_cons]
            have hb : (l[i] == x) = false := by simpa using fun h => e h.symm
            simp only [List.mem_cons, e, false_or, hb]
            split
            · simp; omega
            · rfl
          rw [this]
          exact hr
  have h := key l.length 0 (by omega)
  simpa using h
theorem contains_ev {l : List Int} (x : Int) (hl : l.length ≤ 9223372036854775807) : Ev (fun k => slices_Contains_int_int.f k l x) (decide (x ∈ l)) := by
  unfold slices_Contains_int_int.f
  refine Ev.bind (index_ev x hl) (Ev.of_eq fun k => ?_)
  by_cases h : x ∈ l
  · rw [if_pos h, decide_eq_true h, decide_eq_true (by omega)]
  · rw [if_neg h, decide_eq_false h, decide_eq_false (by omega)]

-- chunk free: which number may come next
def edgeFree (d : List Int) (x : Int) (e : IE) : Bool := decide (e.f1 = x → e.f0 ∈ d)
def freeB (l : List IE) (d : List Int) (x : Int) : Bool := decide (x ∉ d) && l.all (edgeFree d x)
theorem freeB_iff (l : List IE) (d : List Int) (x : Int) : freeB l d x = true ↔ x ∉ d ∧ ∀ e ∈ l, e.f1 = x → e.f0 ∈ d := by
  unfold freeB edgeFree
  simp [Decidable.imp_iff_not_or]
theorem impl_free_ev {l : List IE} {d : List Int} (x : Int) (hl : l.length ≤ 9223372036854775807) (hd : d.length ≤ 9223372036854775807) : Ev (fun k => impl_free.f k l d x) (freeB l d x) := by
  unfold impl_free.f
  refine Ev.bind (contains_ev x hd) ?_
  by_cases hx : x ∈ d
  · rw [show freeB l d x = false by simp [freeB, hx]]
    exact Ev.of_eq fun k => by simp [hx]
  · have hf : freeB l d x = (l.drop 0).all (edgeFree d x) := by simp [freeB, hx]
    rw [hf]
    refine Ev.congr (fun k => if_neg (by simp [hx])) ?_
    refine all_ev l (edgeFree d x) (fun k i => impl_free.l0 k d x l (l.length : Int) i) (fun i h hp r hr => ?_) (fun i h hp => ?_) ?_ 0 (by omega)
    · by_cases e : l[i].f1 = x
      · refine Ev.step (f := fun k => (slices_Contains_int_int.f k d l[i].f0).bind fun t => if t = true then impl_free.l0 k d x l (l.length : Int) ((i + 1 : Nat) : Int) else some false) (fun k => ?_) ?_
        · simp only [impl_free.l0]
          rw [if_pos (by omega), if_pos (by omega), if_pos (by omega), rd_IE h, if_pos e, w64_succ h hl]
        · refine Ev.bind (contains_ev _ hd) ?_
          have : l[i].f0 ∈ d := by simpa [edgeFree, e] using hp
          simp only [this, decide_true, if_true]
          exact hr
      · refine Ev.step (fun k => ?_) hr
        simp only [impl_free.l0]
        rw [if_pos (by omega), if_pos (by omega), if_pos (by omega), rd_IE h, if_neg e, w64_succ h hl]
    · have e : l[i].f1 = x := by
        apply Classical.byContradiction
        intro hn
        simp [edgeFree, hn] at hp
      have hn : l[i].f0 ∉ d := by simpa [edgeFree, e] using hp
      refine Ev.step (f := fun k => (slices_Contains_int_int.f k d l[i].f0).bind fun t => if t = true then impl_free.l0 k d x l (l.length : Int) ((i + 1 : Nat) : Int) else some false) (fun k => ?_) ?_
      · simp only [impl_free.l0]
        rw [if_pos (by omega), if_pos (by omega), if_pos (by omega), rd_IE h, if_pos e, w64_succ h hl]
      · refine Ev.bind (contains_ev _ hd) ?_
        simp only [hn, decide_false]
        exact Ev.of_eq fun k => rfl
    · refine Ev.succ (fun k => ?_)
      simp only [impl_free.l0]
      rw [if_neg (by omega)]
theorem graphOk_iff (n : Int) (l : List IE) : graphOk n l = true ↔ (0 ≤ n ∧ n ≤ 16) ∧ l.length ≤ 200 ∧ ∀ e ∈ l, (0 ≤ e.f0 ∧ e.f0 ≤ n - 1) ∧ (0 ≤ e.f1 ∧ e.f1 ≤ n - 1) := by
  unfold graphOk edgeIn
  simp [and_assoc]

-- chunk linearok: LinearOk of the program and of the reference
def posn (o : List Int) (v : Int) : Int := if v ∈ o then (o.idxOf v : Int) else -1
theorem posn_neg {o : List Int} {v : Int} : 0 ≤ posn o v ↔ v ∈ o := by
  unfold posn
  split
  · simp [*]
  · simp [*]
theorem posn_snoc (a : List Int) (v u : Int) : posn (a ++ [v]) u = if u ∈ a then posn a u else if u = v then (a.length : Int) else -1 := by
  unfold posn
  by_cases h : u ∈ a
  · simp [h, List.idxOf_append]
  · by_cases e : u = v
    · subst e
      simp [h, List.idxOf_append]
    · simp [h, e]
theorem posn_at {o : List Int} (hd : o.Nodup) {i : Nat} (h : i < o.length) : posn o o[i] = i := by
  unfold posn
  rw [if_pos (List.getElem_mem h), hd.idxOf_getElem i h]
theorem rd_map {N : Nat} (f : Int → Int) {v : Int} (h0 : 0 ≤ v) (h1 : v < (N : Int)) : rd ((List.range N).map fun u : Nat => f (u : Int)) v = f v := by
  unfold rd
  rw [getD_lt _ _ (by simp; omega)]
  simp [Int.toNat_of_nonneg h0]
theorem take_snoc {o : List Int} {i : Nat} (h : i < o.length) : o.take (i + 1) = o.take i ++ [o[i]] := by
  rw [List.take_succ_eq_append_getElem h]
theorem nodup_take {o : List Int} (h : ∀ (j : Nat) (hj : j < o.length), o[j] ∉ o.take j) : o.Nodup := by
  unfold List.Nodup
  rw [List.pairwise_iff_getElem]
  intro i j hi hj hij e
  apply h j hj
  rw [← e, List.mem_take_iff_getElem]
  exact ⟨i, by omega, rfl⟩
theorem full_int {n : Int} {o : List Int} (hn : (o.length : Int) = n) (hd : o.Nodup) (hr : ∀ v ∈ o, 0 ≤ v ∧ v ≤ n - 1) {v : Int} (h0 : 0 ≤ v) (h1 : v ≤ n - 1) : v ∈ o := by
  have hm : (o.map Int.toNat).Nodup := by
    unfold List.Nodup at hd ⊢
    rw [List.pairwise_map]
    refine List.Pairwise.imp_of_mem (fun {a b} ha hb hab => ?_) hd
    have := hr a ha
    have := hr b hb
    omega
  have := nodup_full (n := n.toNat) hm (fun x hx => by
    obtain ⟨y, hy, rfl⟩ := List.mem_map.1 hx
    have := hr y hy
    omega) (by simp; omega) (x := v.toNat) (by omega)
  obtain ⟨y, hy, e⟩ := List.mem_map.1 this
  have := hr y hy
  have : y = v := by omega
  rw [← this]; exact hy
def linOk (n : Int) (l : List IE) (o : List Int) : Prop := (∀ (j : Nat) (hj : j < o.length), (0 ≤ o[j] ∧ o[j] ≤ n - 1) ∧ freeB l (o.take j) o[j] = true)
theorem linOk_iff {n : Int} {l : List IE} {o : List Int} (hg : graphOk n l = true) (ho : (o.length : Int) = n) :
    linOk n l o ↔ (∀ (j : Nat) (hj : j < o.length), (0 ≤ o[j] ∧ o[j] ≤ n - 1) ∧ o[j] ∉ o.take j) ∧ ∀ e ∈ l, posn o e.f0 < posn o e.f1 := by
  obtain ⟨_, _, he⟩ := (graphOk_iff n l).1 hg
  constructor
  · intro h
    have h1 : ∀ (j : Nat) (hj : j < o.length), (0 ≤ o[j] ∧ o[j] ≤ n - 1) ∧ o[j] ∉ o.take j := fun j hj => ⟨(h j hj).1, ((freeB_iff _ _ _).1 (h j hj).2).1⟩
    have hd := nodup_take fun j hj => (h1 j hj).2
    have hr : ∀ v ∈ o, 0 ≤ v ∧ v ≤ n - 1 := fun v hv => by
      obtain ⟨j, hj, rfl⟩ := List.mem_iff_getElem.1 hv
      exact (h1 j hj).1
    refine ⟨h1, fun e hel => ?_⟩
    have hm := full_int ho hd hr (he e hel).2.1 (he e hel).2.2
    obtain ⟨j, hj, ej⟩ := List.mem_iff_getElem.1 hm
    have hf := ((freeB_iff _ _ _).1 (h j hj).2).2 e hel ej.symm
    rw [List.mem_take_iff_getElem] at hf
    obtain ⟨i, hi, ei⟩ := hf
    rw [← ej, ← ei, posn_at hd hj, posn_at hd (by omega)]
    omega
  · rintro ⟨h1, h2⟩ j hj
    have hd := nodup_take fun j hj => (h1 j hj).2
    have hr : ∀ v ∈ o, 0 ≤ v ∧ v ≤ n - 1 := fun v hv => by
      obtain ⟨j, hj, rfl⟩ := List.mem_iff_getElem.1 hv
      exact (h1 j hj).1
    refine ⟨(h1 j hj).1, (freeB_iff _ _ _).2 ⟨(h1 j hj).2, fun e hel ej => ?_⟩⟩
    have hm := full_int ho hd hr (he e hel).1.1 (he e hel).1.2
    obtain ⟨i, hi, ei⟩ := List.mem_iff_getElem.1 hm
    have h3 := h2 e hel
    rw [ej, ← ei, posn_at hd hj, posn_at hd hi] at h3
    rw [← ei, List.mem_take_iff_getElem]
    exact ⟨i, by omega, rfl⟩
theorem impl_LinearOk_ev (n : Int) (l : List IE) (o : List Int) (ho : o.length ≤ 9223372036854775807) :
    ∃ r, Ev (fun k => impl_LinearOk.f k n l o) r ∧ (r = true ↔ graphOk n l = true ∧ (o.length : Int) = n ∧ linOk n l o) := by
  unfold impl_LinearOk.f
  cases hg : graphOk n l with
  | false =>
    refine ⟨false, Ev.bind (impl_GraphOk_ev n l) (Ev.succ fun k => ?_), by simp⟩
    rw [hg]
    simp only [impl_LinearOk.j0, if_true]
    rfl
  | true =>
    by_cases hn : (o.length : Int) = n
    · obtain ⟨hn16, hl, he⟩ := (graphOk_iff n l).1 hg
      have hw : wrap64 (n - 1) = n - 1 := w64 (by omega) (by omega)
      obtain ⟨r, hr, hq⟩ := alli_ev o.length (fun i => decide (0 ≤ o.getD i 0 ∧ o.getD i 0 ≤ n - 1) && freeB l (o.take i) (o.getD i 0)) (fun k i => impl_LinearOk.l0 k n l o o (o.length : Int) i)
        (fun i h hp r hr => by
          rw [getD_lt _ _ h] at hp
          simp only [Bool.and_eq_true, decide_eq_true_eq] at hp
          refine Ev.step (f := fun k => (impl_free.f k l (o.take i) o[i]).bind fun t => if t = true then impl_LinearOk.l0 k n l o o (o.length : Int) ((i + 1 : Nat) : Int) else some false) (fun k => ?_) ?_
          · simp only [impl_LinearOk.l0]
            rw [if_pos (by omega), if_pos (by omega), if_pos (by omega), rd_lt _ h, within_eq, hw]
            simp only [Option.bind_some, hp.1, decide_true, if_true, and_self]
            rw [if_pos (by omega), w64_succ h ho, Int.toNat_natCast]
          · refine Ev.bind (impl_free_ev _ (by omega) (by rw [List.length_take]; omega)) ?_
            rw [hp.2]
            simpa using hr)
        (fun i h hp => by
          rw [getD_lt _ _ h] at hp
          by_cases hw' : 0 ≤ o[i] ∧ o[i] ≤ n - 1
          · have hf : freeB l (o.take i) o[i] = false := by simpa [hw'] using hp
            refine Ev.step (f := fun k => (impl_free.f k l (o.take i) o[i]).bind fun t => if t = true then impl_LinearOk.l0 k n l o o (o.length : Int) ((i + 1 : Nat) : Int) else some false) (fun k => ?_) ?_
            · simp only [impl_LinearOk.l0]
              rw [if_pos (by omega), if_pos (by omega), if_pos (by omega), rd_lt _ h, within_eq, hw]
              simp only [Option.bind_some, hw', decide_true, if_true, and_self]
              rw [if_pos (by omega), w64_succ h ho, Int.toNat_natCast]
            · refine Ev.bind (impl_free_ev _ (by omega) (by rw [List.length_take]; omega)) ?_
              rw [hf]
              exact Ev.of_eq fun k => rfl
          · refine Ev.succ (fun k => ?_)
            simp only [impl_LinearOk.l0]
            rw [if_pos (by omega), if_pos (by omega), if_pos (by omega), rd_lt _ h, within_eq, hw, decide_eq_false hw']
            rfl)
        (by
          refine Ev.succ (fun k => ?_)
          simp only [impl_LinearOk.l0]
          rw [if_neg (by omega)]) 0 (by omega)
      refine ⟨r, Ev.bind (impl_GraphOk_ev n l) ?_, ?_⟩
      · rw [hg]
        simp only [if_true]
        refine Ev.step (f := fun k => impl_LinearOk.l0 k n l o o (o.length : Int) 0) (fun k => ?_) hr
        simp only [impl_LinearOk.j0]
        rw [if_neg (by simp [hn])]
      · rw [hq]
        simp only [hn, true_and]
        constructor
        · intro h j hj
          have := h j (by omega) hj
          rw [getD_lt _ _ hj] at this
          simpa using this
        · intro h j _ hj
          rw [getD_lt _ _ hj]
          simpa using h j hj
    · refine ⟨false, Ev.bind (impl_GraphOk_ev n l) (Ev.succ fun k => ?_), by simp [hn]⟩
      rw [hg]
      simp only [impl_LinearOk.j0, if_true]
      rw [if_pos (by simp [hn])]
theorem spec_LinearOk_ev (n : Int) (l : List IE) (o : List Int) (ho : o.length ≤ 9223372036854775807) :
    ∃ r, Ev (fun k => spec_LinearOk.f k n l o) r ∧ (r = true ↔ graphOk n l = true ∧ (o.length : Int) = n ∧ linOk n l o) := by
  unfold spec_LinearOk.f
  cases hg : graphOk n l with
  | false =>
    refine ⟨false, Ev.bind (spec_GraphOk_ev n l) (Ev.succ fun k => ?_), by simp⟩
    rw [hg]
    simp only [spec_LinearOk.j0, if_true]
    rfl
  | true =>
    by_cases hn : (o.length : Int) = n
    · obtain ⟨hn16, hl, he⟩ := (graphOk_iff n l).1 hg
      have hw : wrap64 (n - 1) = n - 1 := w64 (by omega) (by omega)
      have key : ∀ (d i : Nat), i + d = o.length → ∃ r, Ev (fun k => spec_LinearOk.l1 k n l o ((List.range o.length).map fun u : Nat => posn (o.take i) (u : Int)) (i : Int)) r ∧
          (r = true ↔ (∀ (j : Nat) (hj : j < o.length), i ≤ j → (0 ≤ o[j] ∧ o[j] ≤ n - 1) ∧ o[j] ∉ o.take j) ∧ ∀ e ∈ l, posn o e.f0 < posn o e.f1) := by
        intro d
        induction d with
        | zero =>
          intro i hi
          obtain rfl : i = o.length := by omega
          rw [List.take_length]
          have h := all_ev l (fun e => decide (posn o e.f0 < posn o e.f1)) (fun k i => spec_LinearOk.l2 k l ((List.range o.length).map fun u : Nat => posn o (u : Int)) i)
            (fun i h hp r hr => by
              refine Ev.step (fun k => ?_) hr
              have h1 := he l[i] (List.getElem_mem h)
              simp only [spec_LinearOk.l2, List.length_map, List.length_range]
              rw [if_pos (by omega), if_pos (by omega), rd_IE h, if_pos (by omega), if_pos (by omega), if_pos (by omega), if_pos (by omega), rd_map _ (by omega) (by omega), rd_map _ (by omega) (by omega), if_neg (by simp at hp; omega), w64_succ h (by omega)])
            (fun i h hp => by
              refine Ev.succ (fun k => ?_)
              have h1 := he l[i] (List.getElem_mem h)
              simp only [spec_LinearOk.l2, List.length_map, List.length_range]
              rw [if_pos (by omega), if_pos (by omega), rd_IE h, if_pos (by omega), if_pos (by omega), if_pos (by omega), if_pos (by omega), rd_map _ (by omega) (by omega), rd_map _ (by omega) (by omega), if_pos (by simp at hp; omega)])
            (by
              refine Ev.succ (fun k => ?_)
              simp only [spec_LinearOk.l2]
              rw [if_neg (by omega)]) 0 (by omega)
          refine ⟨_, Ev.step (fun k => ?_) h, ?_⟩
          · simp only [spec_LinearOk.l1]
            rw [if_neg (by omega)]
            rfl
          · simp
            intro _ j hj hj'
            omega
        | succ d ih =>
          intro i hi
          have h : i < o.length := by omega
          by_cases hv : 0 ≤ o[i] ∧ o[i] ≤ n - 1
          · by_cases hm : o[i] ∈ o.take i
            · refine ⟨false, Ev.succ (fun k => ?_), ?_⟩
              · simp only [spec_LinearOk.l1, List.length_map, List.length_range]
                rw [if_pos (by omega), if_pos (by omega), if_pos (by omega), rd_lt _ h, l1In_eq, hw, decide_eq_true hv]
                simp only [Option.bind_some, if_true]
                rw [if_pos (by omega), if_pos (by omega), rd_map _ (by omega) (by omega), if_pos (posn_neg.2 hm)]
              · constructor
                · intro h; cases h
                · rintro ⟨h1, _⟩
                  exact absurd hm (h1 i h (Nat.le_refl _)).2
            · obtain ⟨r, hr, hq⟩ := ih (i + 1) (by omega)
              refine ⟨r, Ev.step (fun k => ?_) hr, ?_⟩
              · simp only [spec_LinearOk.l1, List.length_map, List.length_range]
                rw [if_pos (by omega), if_pos (by omega), if_pos (by omega), rd_lt _ h, l1In_eq, hw, decide_eq_true hv]
                simp only [Option.bind_some, if_true]
                rw [if_pos (by omega), if_pos (by omega), rd_map _ (by omega) (by omega), if_neg (fun hc => hm (posn_neg.1 hc)), w64_succ h ho]
                congr 1
                apply List.ext_getElem
                · simp
                · intro u h1 h2
                  simp at h1
                  rw [List.getElem_set]
                  simp only [List.getElem_map, List.getElem_range]
                  rw [take_snoc h, posn_snoc]
                  by_cases e : (o[i]).toNat = u
                  · rw [if_pos e]
                    have e' : (u : Int) = o[i] := by omega
                    rw [if_neg (by rw [e']; exact hm), if_pos e', List.length_take]
                    omega
                  · rw [if_neg e]
                    have e' : (u : Int) ≠ o[i] := by omega
                    by_cases hu : (u : Int) ∈ o.take i
                    · rw [if_pos hu]
                    · rw [if_neg hu, if_neg e']
                      unfold posn
                      rw [if_neg hu]
              · rw [hq]
                constructor
                · rintro ⟨h1, h2⟩
                  refine ⟨fun j hj hij => ?_, h2⟩
                  by_cases e : j = i
                  · subst e; exact ⟨hv, hm⟩
                  · exact h1 j hj (by omega)
                · rintro ⟨h1, h2⟩
                  exact ⟨fun j hj hij => h1 j hj (by omega), h2⟩
          · refine ⟨false, Ev.succ (fun k => ?_), ?_⟩
            · simp only [spec_LinearOk.l1, List.length_map, List.length_range]
              rw [if_pos (by omega), if_pos (by omega), if_pos (by omega), rd_lt _ h, l1In_eq, hw, decide_eq_false hv]
              rfl
            · constructor
              · intro h; cases h
              · rintro ⟨h1, _⟩
                exact absurd (h1 i h (Nat.le_refl _)).1 hv
      obtain ⟨r, hr, hq⟩ := key o.length 0 (by omega)
      refine ⟨r, Ev.bind (spec_GraphOk_ev n l) ?_, ?_⟩
      · rw [hg]
        simp only [if_true]
        refine Ev.step (f := fun k => spec_LinearOk.l0 k n l o (List.replicate n.toNat 0) 0) (fun k => ?_) ?_
        · simp only [spec_LinearOk.j0]
          rw [if_neg (by simp [hn]), if_pos (by omega), if_pos (by omega)]
        · refine fillk_ev (List.replicate n.toNat ()) (fun _ => (-1 : Int)) (fun k ys i => spec_LinearOk.l0 k n l o ys i) r (fun i h ys hy hr' => ?_) ?_ _ (by simp)
          · simp at h
            refine Ev.step (fun k => ?_) hr'
            simp at hy
            simp only [spec_LinearOk.l0]
            rw [if_pos (by omega), if_pos (by omega), if_pos (by omega), w64_succ (n := o.length) (by omega) (by omega), Int.toNat_natCast]
          · refine Ev.step (f := fun k => spec_LinearOk.l1 k n l o ((List.replicate n.toNat ()).map fun _ => (-1 : Int)) 0) (fun k => ?_) ?_
            · simp only [spec_LinearOk.l0, List.length_replicate]
              rw [if_neg (by omega)]
            · have e : ((List.replicate n.toNat ()).map fun _ => (-1 : Int)) = ((List.range o.length).map fun u : Nat => posn (o.take 0) (u : Int)) := by
                apply List.ext_getElem
                · simp; omega
                · intro u h1 h2
                  simp [posn]
              rw [e]
              exact hr
      · rw [hq, linOk_iff hg hn]
        simp only [hn, true_and]
        constructor
        · rintro ⟨h1, h2⟩; exact ⟨fun j hj => h1 j hj (Nat.zero_le _), h2⟩
        · rintro ⟨h1, h2⟩; exact ⟨fun j hj _ => h1 j hj, h2⟩
    · refine ⟨false, Ev.bind (spec_GraphOk_ev n l) (Ev.succ fun k => ?_), by simp [hn]⟩
      rw [hg]
      simp only [spec_LinearOk.j0, if_true]
      rw [if_pos (by simp [hn])]

-- chunk ints: lists of numbers are copied, and the same as themselves
theorem toIntS_ev {l : List Int} (hl : l.length ≤ 35184372088832) : Ev (fun k => laws_toIntS.f k l) l := by
  unfold laws_toIntS.f
  simp only [Int.natCast_nonneg, if_true, Int.toNat_natCast, if_pos hl]
  have h := fill_ev l (fun x : Int => x) (fun k ys i => laws_toIntS.l0 k l ys i) (fun i h ys hy r hr => ?_) (fun ys => ?_) (List.replicate l.length 0) (by simp)
  · simpa using h
  · refine Ev.step (fun k => ?_) hr
    simp only [laws_toIntS.l0]
    rw [if_pos (by omega), if_pos (by omega), if_pos (by omega), rd_lt _ h, w64_succ h (by omega), Int.toNat_natCast]
  · refine Ev.succ (fun k => ?_)
    simp only [laws_toIntS.l0]
    rw [if_neg (by omega)]
theorem eqIntS_refl {l : List Int} (hl : l.length ≤ 35184372088832) : Ev (fun k => laws_eqIntS.f k l l) true := by
  unfold laws_eqIntS.f
  simp only [if_true]
  refine down_ev (fun k i => laws_eqIntS.l0 k l l i) l.length true (fun i h hr => ?_) ?_ 0 (by omega)
  · refine Ev.step (fun k => ?_) hr
    simp only [laws_eqIntS.l0]
    rw [if_pos (by omega), if_pos (by omega), if_pos (by omega), if_pos trivial, w64_succ h (by omega)]
  · refine Ev.succ (fun k => ?_)
    simp only [laws_eqIntS.l0]
    rw [if_neg (by omega)]

theorem proof : Pure := by
  intro n l o _ hl ho
  refine Ev.rounds ?_
  unfold laws_FnExactLinearOk.f
  by_cases ho2 : 1048576 < o.length
  · exact Ev.of_eq fun k => if_pos (by omega)
  refine Ev.congr (fun k => if_neg (by omega)) ?_
  by_cases hb : 1048576 < l.length
  · exact Ev.bindc (szEdgeS_big hl.1 hb) (Ev.of_eq fun k => by simp)
  · refine Ev.bindc (szEdgeS_eq l _) ?_
    rw [w64 (by omega) (by omega), if_neg (by omega)]
    refine Ev.congr (fun k => if_neg (by omega)) ?_
    have hm : (l.map toE).length ≤ 17592186044416 := by rw [List.length_map]; omega
    obtain ⟨r, hr, hq⟩ := impl_LinearOk_ev n (l.map toE) o (by omega)
    obtain ⟨r', hr', hq'⟩ := spec_LinearOk_ev n (l.map toE) o (by omega)
    have e : r' = r := by rw [Bool.eq_iff_iff, hq, hq']
    subst e
    refine Ev.bind (toEdgeS_ev (by omega)) (Ev.bind (toIntS_ev (by omega)) (Ev.bind hr' (Ev.bind (toEdgeS_ev (by omega)) (Ev.bind (toIntS_ev (by omega)) (Ev.bind hr ?_)))))
    refine Ev.congr (fun k => if_neg (by simp)) ?_
    refine Ev.bind (toEdgeS_ev (by omega)) (Ev.bind (eqEdgeS_refl hm) ?_)
    exact Ev.bind (toIntS_ev (by omega)) (Ev.bind (eqIntS_refl (by omega)) (Ev.of_eq fun k => rfl))

end Go.Proofs.Ytapbpfbhghheeaa.fnExactLinearOk
