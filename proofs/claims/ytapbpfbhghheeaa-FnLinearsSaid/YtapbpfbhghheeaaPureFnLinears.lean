/- The law FnLinears holds of the program's own functions, told over lists and numbers: for every argument it returns true. Conditions: none beyond the given row's own. -/
import Derived.Test.YtapbpfbhghheeaaSaysFnLinears
import Derived.Test.YtapbpfbhghheeaaKit
namespace Go.Proofs.Ytapbpfbhghheeaa.fnLinears
open Go.RowKit Go.Proofs.Ytapbpfbhghheeaa.PFnLinears Go.Proofs.YtapbpfbhghheeaaW.PrintWords Go.Proofs.YtapbpfbhghheeaaW.PrintLast Go.Proofs.Ytapbpfbhghheeaa.Own
set_option linter.unusedVariables false
set_option linter.unusedSimpArgs false
-- chunk edges: lists of edges are copied, and the same as themselves
abbrev IE := S60
theorem rd_IE {l : List IE} {i : Nat} (h : i < l.length) : rd_T60 l (i : Int) = l[i] := by
  unfold rd_T60; rw [Int.toNat_natCast]; exact getD_lt l _ h
def edgeIn (n : Int) (e : IE) : Bool := decide (0 ≤ e.f0 ∧ e.f0 ≤ n - 1) && decide (0 ≤ e.f1 ∧ e.f1 ≤ n - 1)
def graphOk (n : Int) (l : List IE) : Bool := decide (0 ≤ n ∧ n ≤ 16) && decide (l.length ≤ 200) && l.all (edgeIn n)
theorem within_eq (a b c : Int) : impl_within.f a b c = some (decide (b ≤ a ∧ a ≤ c)) := by
  unfold impl_within.f
  split <;> simp [*]
theorem l1In_eq (a b c : Int) : spec_l1In.f a b c = some (decide (b ≤ a ∧ a ≤ c)) := by
  unfold spec_l1In.f
  split <;> simp [*]
theorem impl_GraphOk_ev (n : Int) (l : List IE) : Ev (fun k => impl_GraphOk.f k n l) (graphOk n l) := by
  unfold impl_GraphOk.f graphOk
  refine Ev.bindc (within_eq _ _ _) ?_
  by_cases hn : 0 ≤ n ∧ n ≤ 16
  · simp only [hn, decide_true, if_true, and_self, Bool.true_and]
    by_cases hl : l.length ≤ 200
    · refine Ev.step (f := fun k => impl_GraphOk.l0 k n l (l.length : Int) 0) (fun k => ?_) ?_
      · simp only [impl_GraphOk.j0]
        rw [if_neg (by simp; omega)]
      · have hw : wrap64 (n - 1) = n - 1 := w64 (by omega) (by omega)
        have h0 : l.all (edgeIn n) = (l.drop 0).all (edgeIn n) := rfl
        rw [decide_eq_true hl, Bool.true_and, h0]
        refine all_ev l (edgeIn n) (fun k i => impl_GraphOk.l0 k n l (l.length : Int) i) (fun i h hp r hr => ?_) (fun i h hp => ?_) ?_ 0 (by omega)
        · refine Ev.step (fun k => ?_) hr
          simp only [impl_GraphOk.l0]
          rw [if_pos (by omega), if_pos (by omega), if_pos (by omega), rd_IE h, within_eq, within_eq, hw]
          simp only [edgeIn, Bool.and_eq_true] at hp
          simp only [Option.bind_some, hp.1, hp.2, if_true]
          rw [w64_succ h (by omega)]
        · refine Ev.succ (fun k => ?_)
          simp only [impl_GraphOk.l0]
          rw [if_pos (by omega), if_pos (by omega), if_pos (by omega), rd_IE h, within_eq, within_eq, hw]
          simp only [edgeIn, Bool.and_eq_false_iff] at hp
          simp only [Option.bind_some]
          rcases hp with hp | hp
          · rw [hp]; rfl
          · rw [hp]; split <;> rfl
        · refine Ev.succ (fun k => ?_)
          simp only [impl_GraphOk.l0]
          rw [if_neg (by omega)]
    · rw [decide_eq_false hl, Bool.false_and]
      refine Ev.succ (fun k => ?_)
      simp only [impl_GraphOk.j0]
      rw [if_pos (by simp; omega)]
  · simp only [decide_eq_false hn, Bool.false_and]
    refine Ev.succ (fun k => ?_)
    rw [if_neg (by simp)]
    simp only [impl_GraphOk.j0, if_true]
theorem spec_GraphOk_ev (n : Int) (l : List IE) : Ev (fun k => spec_GraphOk.f k n l) (graphOk n l) := by
  unfold spec_GraphOk.f graphOk
  refine Ev.bindc (l1In_eq _ _ _) ?_
  by_cases hn : 0 ≤ n ∧ n ≤ 16
  · simp only [hn, decide_true, if_true, and_self, Bool.true_and]
    by_cases hl : l.length ≤ 200
    · refine Ev.step (f := fun k => spec_GraphOk.l0 k n l 0) (fun k => ?_) ?_
      · simp only [spec_GraphOk.j0]
        rw [if_neg (by simp; omega)]
      · have hw : wrap64 (n - 1) = n - 1 := w64 (by omega) (by omega)
        have h0 : l.all (edgeIn n) = (l.drop 0).all (edgeIn n) := rfl
        rw [decide_eq_true hl, Bool.true_and, h0]
        refine all_ev l (edgeIn n) (fun k i => spec_GraphOk.l0 k n l i) (fun i h hp r hr => ?_) (fun i h hp => ?_) ?_ 0 (by omega)
        · refine Ev.step (fun k => ?_) hr
          simp only [spec_GraphOk.l0]
          rw [if_pos (by omega), if_pos (by omega), rd_IE h, l1In_eq, l1In_eq, hw]
          simp only [edgeIn, Bool.and_eq_true] at hp
          simp only [Option.bind_some, hp.1, hp.2, if_true]
          rw [w64_succ h (by omega)]
        · refine Ev.succ (fun k => ?_)
          simp only [spec_GraphOk.l0]
          rw [if_pos (by omega), if_pos (by omega), rd_IE h, l1In_eq, l1In_eq, hw]
          simp only [edgeIn, Bool.and_eq_false_iff] at hp
          simp only [Option.bind_some]
          rcases hp with hp | hp
          · rw [hp]; rfl
          · rw [hp]; split <;> rfl
        · refine Ev.succ (fun k => ?_)
          simp only [spec_GraphOk.l0]
          rw [if_neg (by omega)]
    · rw [decide_eq_false hl, Bool.false_and]
      refine Ev.succ (fun k => ?_)
      simp only [spec_GraphOk.j0]
      rw [if_pos (by simp; omega)]
  · simp only [decide_eq_false hn, Bool.false_and]
    refine Ev.succ (fun k => ?_)
    rw [if_neg (by simp)]
    simp only [spec_GraphOk.j0, if_true]

-- chunk contains: slices.Index and slices.Contains of numbers
theorem index_ev {l : List Int} (x : Int) (hl : l.length ≤ 9223372036854775807) : Ev (fun k => slices_Index_int_int.f k l x) (if x ∈ l then (l.idxOf x : Int) else -1) := by
  unfold slices_Index_int_int.f
  have key : ∀ (d i : Nat), i + d = l.length → Ev (fun k => slices_Index_int_int.l0 k l x (l.length : Int) (i : Int)) (if x ∈ l.drop i then ((i + (l.drop i).idxOf x : Nat) : Int) else -1) := by
    intro d
    induction d with
    | zero =>
      intro i hi
      obtain rfl : i = l.length := by omega
      refine Ev.succ (fun k => ?_)
      simp only [slices_Index_int_int.l0]
      rw [if_neg (by omega)]
      simp
    | succ d ih =>
      intro i hi
      have h : i < l.length := by omega
      have hr := ih (i + 1) (by omega)
      rw [List.drop_eq_getElem_cons h]
      by_cases e : x = l[i]
      · refine Ev.succ (fun k => ?_)
        simp only [slices_Index_int_int.l0]
        rw [if_pos (by omega), if_pos (by omega), if_pos (by omega), rd_lt _ h, if_pos e]
        rw [if_pos (List.mem_cons.2 (Or.inl e)), List.idxOf_cons]
        simp only [e, beq_self_eq_true, cond_true, Nat.add_zero]
      · refine Ev.step (f := fun k => slices_Index_int_int.l0 k l x (l.length : Int) ((i + 1 : Nat) : Int)) (fun k => ?_) ?_
        · simp only [slices_Index_int_int.l0]
          rw [if_pos (by omega), if_pos (by omega), if_pos (by omega), rd_lt _ h, if_neg e, w64_succ h hl]
        · have : (if x ∈ l[i] :: l.drop (i + 1) then ((i + (l[i] :: l.drop (i + 1)).idxOf x : Nat) : Int) else -1) = (if x ∈ l.drop (i + 1) then (((i + 1) + (l.drop (i + 1)).idxOf x : Nat) : Int) else -1) := by
            rw [List.idxOf_cons]
            have hb : (l[i] == x) = false := by simpa using fun h => e h.symm
            simp only [List.mem_cons, e, false_or, hb]
            split
            · simp; omega
            · rfl
          rw [this]
          exact hr
  have h := key l.length 0 (by omega)
  simpa using h
theorem contains_ev {l : List Int} (x : Int) (hl : l.length ≤ 9223372036854775807) : Ev (fun k => slices_Contains_int_int.f k l x) (decide (x ∈ l)) := by
  unfold slices_Contains_int_int.f
  refine Ev.bind (index_ev x hl) (Ev.of_eq fun k => ?_)
  by_cases h : x ∈ l
  · rw [if_pos h, decide_eq_true h, decide_eq_true (by omega)]
  · rw [if_neg h, decide_eq_false h, decide_eq_false (by omega)]

-- chunk free: which number may come next
def edgeFree (d : List Int) (x : Int) (e : IE) : Bool := decide (e.f1 = x → e.f0 ∈ d)
def freeB (l : List IE) (d : List Int) (x : Int) : Bool := decide (x ∉ d) && l.all (edgeFree d x)
theorem freeB_iff (l : List IE) (d : List Int) (x : Int) : freeB l d x = true ↔ x ∉ d ∧ ∀ e ∈ l, e.f1 = x → e.f0 ∈ d := by
  unfold freeB edgeFree
  simp [Decidable.imp_iff_not_or]
theorem impl_free_ev {l : List IE} {d : List Int} (x : Int) (hl : l.length ≤ 9223372036854775807) (hd : d.length ≤ 9223372036854775807) : Ev (fun k => impl_free.f k l d x) (freeB l d x) := by
  unfold impl_free.f
  refine Ev.bind (contains_ev x hd) ?_
  by_cases hx : x ∈ d
  · rw [show freeB l d x = false by simp [freeB, hx]]
    exact Ev.of_eq fun k => by simp [hx]
  · have hf : freeB l d x = (l.drop 0).all (edgeFree d x) := by simp [freeB, hx]
    rw [hf]
    refine Ev.congr (fun k => if_neg (by simp [hx])) ?_
    refine all_ev l (edgeFree d x) (fun k i => impl_free.l0 k d x l (l.length : Int) i) (fun i h hp r hr => ?_) (fun i h hp => ?_) ?_ 0 (by omega)
    · by_cases e : l[i].f1 = x
      · refine Ev.step (f := fun k => (slices_Contains_int_int.f k d l[i].f0).bind fun t => if t = true then impl_free.l0 k d x l (l.length : Int) ((i + 1 : Nat) : Int) else some false) (fun k => ?_) ?_
        · simp only [impl_free.l0]
          rw [if_pos (by omega), if_pos (by omega), if_pos (by omega), rd_IE h, if_pos e, w64_succ h hl]
        · refine Ev.bind (contains_ev _ hd) ?_
          have : l[i].f0 ∈ d := by simpa [edgeFree, e] using hp
          simp only [this, decide_true, if_true]
          exact hr
      · refine Ev.step (fun k => ?_) hr
        simp only [impl_free.l0]
        rw [if_pos (by omega), if_pos (by omega), if_pos (by omega), rd_IE h, if_neg e, w64_succ h hl]
    · have e : l[i].f1 = x := by
        apply Classical.byContradiction
        intro hn
        simp [edgeFree, hn] at hp
      have hn : l[i].f0 ∉ d := by simpa [edgeFree, e] using hp
      refine Ev.step (f := fun k => (slices_Contains_int_int.f k d l[i].f0).bind fun t => if t = true then impl_free.l0 k d x l (l.length : Int) ((i + 1 : Nat) : Int) else some false) (fun k => ?_) ?_
      · simp only [impl_free.l0]
        rw [if_pos (by omega), if_pos (by omega), if_pos (by omega), rd_IE h, if_pos e, w64_succ h hl]
      · refine Ev.bind (contains_ev _ hd) ?_
        simp only [hn, decide_false]
        exact Ev.of_eq fun k => rfl
    · refine Ev.succ (fun k => ?_)
      simp only [impl_free.l0]
      rw [if_neg (by omega)]
theorem graphOk_iff (n : Int) (l : List IE) : graphOk n l = true ↔ (0 ≤ n ∧ n ≤ 16) ∧ l.length ≤ 200 ∧ ∀ e ∈ l, (0 ≤ e.f0 ∧ e.f0 ≤ n - 1) ∧ (0 ≤ e.f1 ∧ e.f1 ≤ n - 1) := by
  unfold graphOk edgeIn
  simp [and_assoc]

-- chunk canon: the canonical order
def nextOf (N : Nat) (l : List IE) (o : List Int) : Option Nat := least (fun x => freeB l o (x : Int)) N
/-- m more numbers behind o. -/
def canonG (N : Nat) (l : List IE) : Nat → List Int → Option (List Int)
  | 0, o => some o
  | m + 1, o => match nextOf N l o with
    | some x => canonG N l m (o ++ [(x : Int)])
    | none => none
def canonP (n : Int) (l : List IE) : Option (List Int) := canonG n.toNat l n.toNat []
def pairOf : Option (List Int) → List Int × Bool
  | some o => (o, true)
  | none => ([], false)
/-- The reference's flags of a list of numbers. -/
def flags (N : Nat) (o : List Int) : List Bool := (List.range N).map fun x : Nat => decide ((x : Int) ∈ o)
theorem flags_len (N : Nat) (o : List Int) : (flags N o).length = N := by simp [flags]
theorem rd_flags {N : Nat} {o : List Int} {x : Int} (h0 : 0 ≤ x) (h1 : x < (N : Int)) : rdOf false (flags N o) x = decide (x ∈ o) := by
  obtain ⟨y, rfl⟩ : ∃ y : Nat, x = (y : Int) := ⟨x.toNat, by omega⟩
  rw [rdOf_lt _ _ (by rw [flags_len]; omega)]
  simp [flags]
theorem flags_set {N : Nat} {o : List Int} {x : Nat} (h : x < N) : (flags N o).set x true = flags N (o ++ [(x : Int)]) := by
  apply List.ext_getElem
  · simp [flags]
  · intro j h1 h2
    simp [flags, List.getElem_set] at h1 h2 ⊢
    by_cases e : x = j
    · simp [e]
    · have : (j : Int) ≠ (x : Int) := by omega
      simp [e, this]
theorem l14Ready_ev {N : Nat} {l : List IE} {o : List Int} {x : Int} (h0 : 0 ≤ x) (h1 : x < (N : Int)) (hl : l.length ≤ 9223372036854775807) (he : ∀ e ∈ l, 0 ≤ e.f0 ∧ e.f0 < (N : Int)) :
    Ev (fun k => spec_l14Ready.f k l (flags N o) x) (freeB l o x) := by
  unfold spec_l14Ready.f
  refine Ev.congr (fun k => if_pos h0) (Ev.congr (fun k => if_pos (by rw [flags_len]; exact h1)) ?_)
  rw [rd_flags h0 h1]
  by_cases hx : x ∈ o
  · rw [show freeB l o x = false by simp [freeB, hx]]
    exact Ev.of_eq fun k => by simp [hx]
  · have hf : freeB l o x = (l.drop 0).all (edgeFree o x) := by simp [freeB, hx]
    rw [hf]
    refine Ev.congr (fun k => if_neg (by simp [hx])) ?_
    refine all_ev l (edgeFree o x) (fun k i => spec_l14Ready.l0 k l (flags N o) x i) (fun i h hp r hr => ?_) (fun i h hp => ?_) ?_ 0 (by omega)
    · have h2 := he l[i] (List.getElem_mem h)
      refine Ev.step (fun k => ?_) hr
      simp only [spec_l14Ready.l0]
      rw [if_pos (by omega), if_pos (by omega), rd_IE h, flags_len, w64_succ h hl]
      by_cases e : l[i].f1 = x
      · have : l[i].f0 ∈ o := by simpa [edgeFree, e] using hp
        rw [if_pos e, if_pos h2.1, if_pos h2.2, rd_flags h2.1 h2.2, if_pos (by simpa using this)]
      · rw [if_neg e]
    · have h2 := he l[i] (List.getElem_mem h)
      have e : l[i].f1 = x := by
        apply Classical.byContradiction
        intro hn
        simp [edgeFree, hn] at hp
      have hn : l[i].f0 ∉ o := by simpa [edgeFree, e] using hp
      refine Ev.succ (fun k => ?_)
      simp only [spec_l14Ready.l0]
      rw [if_pos (by omega), if_pos (by omega), rd_IE h, flags_len, if_pos e, if_pos h2.1, if_pos h2.2, rd_flags h2.1 h2.2, if_neg (by simpa using hn)]
    · refine Ev.succ (fun k => ?_)
      simp only [spec_l14Ready.l0]
      rw [if_neg (by omega)]
def cnt (N : Nat) (l : List IE) : Nat → List Int → Nat
  | 0, _ => 1
  | m + 1, o => ((List.range N).map fun x : Nat => if freeB l o (x : Int) then cnt N l m (o ++ [(x : Int)]) else 0).sum
def cntTerm (N : Nat) (l : List IE) (m : Nat) (o : List Int) (x : Nat) : Nat := if freeB l o (x : Int) then cnt N l m (o ++ [(x : Int)]) else 0
def cntFrom (N : Nat) (l : List IE) (m : Nat) (o : List Int) (i : Nat) : Nat := (((List.range N).drop i).map (cntTerm N l m o)).sum
theorem cnt_succ (N : Nat) (l : List IE) (m : Nat) (o : List Int) : cnt N l (m + 1) o = cntFrom N l m o 0 := rfl
theorem cntFrom_end (N : Nat) (l : List IE) (m : Nat) (o : List Int) : cntFrom N l m o N = 0 := by
  unfold cntFrom
  rw [List.drop_of_length_le (by simp)]
  rfl
theorem cntFrom_step {N : Nat} (l : List IE) (m : Nat) (o : List Int) {i : Nat} (h : i < N) : cntFrom N l m o i = cntTerm N l m o i + cntFrom N l m o (i + 1) := by
  unfold cntFrom
  rw [List.drop_eq_getElem_cons (by simpa using h), List.getElem_range, List.map_cons, List.sum_cons]
theorem sum_le {xs : List Nat} {b : Nat} (h : ∀ x ∈ xs, x ≤ b) : xs.sum ≤ xs.length * b := by
  induction xs with
  | nil => simp
  | cons a xs ih =>
    have h1 := h a (by simp)
    have h2 := ih (fun x hx => h x (by simp [hx]))
    rw [List.sum_cons, List.length_cons, Nat.add_mul, Nat.one_mul]
    omega
theorem cnt_le (N : Nat) (l : List IE) (m : Nat) (o : List Int) : cnt N l m o ≤ N ^ m := by
  induction m generalizing o with
  | zero => simp [cnt]
  | succ m ih =>
    unfold cnt
    refine Nat.le_trans (sum_le (b := N ^ m) fun x hx => ?_) (by simp [Nat.pow_succ, Nat.mul_comm])
    obtain ⟨y, _, rfl⟩ := List.mem_map.1 hx
    split
    · exact ih _
    · exact Nat.zero_le _
theorem cnt_small {N : Nat} (hN : N ≤ 8) (l : List IE) {m : Nat} (hm : m ≤ 8) (o : List Int) : cnt N l m o ≤ 16777216 := by
  refine Nat.le_trans (cnt_le N l m o) ?_
  refine Nat.le_trans (Nat.pow_le_pow_left hN m) ?_
  exact Nat.le_trans (Nat.pow_le_pow_right (by omega) hm) (by decide)
theorem cntTerm_small {N : Nat} (hN : N ≤ 8) (l : List IE) {m : Nat} (hm : m ≤ 8) (o : List Int) (x : Nat) : cntTerm N l m o x ≤ 16777216 := by
  unfold cntTerm
  split
  · exact cnt_small hN l hm _
  · omega
theorem cntFrom_small {N : Nat} (hN : N ≤ 8) (l : List IE) {m : Nat} (hm : m ≤ 8) (o : List Int) (i : Nat) : cntFrom N l m o i ≤ 134217728 := by
  unfold cntFrom
  refine Nat.le_trans (sum_le (b := 16777216) fun x hx => ?_) ?_
  · obtain ⟨y, _, rfl⟩ := List.mem_map.1 hx
    exact cntTerm_small hN l hm o y
  · simp
    omega
theorem impl_linears_ev {N : Nat} (hN : N ≤ 8) (l : List IE) (hl : l.length ≤ 200) : ∀ (m : Nat) (o : List Int), o.length + m = N → Ev (fun k => impl_linears.f k (N : Int) l o) (cnt N l m o : Int) := by
  intro m
  induction m with
  | zero =>
    intro o ho
    refine Ev.succ (fun k => ?_)
    simp only [impl_linears.f]
    rw [if_pos (by omega)]
    rfl
  | succ m ih =>
    intro o ho
    refine Ev.step (f := fun k => impl_linears.l0 k (N : Int) l o 0 (N : Int) 0) (fun k => ?_) ?_
    · simp only [impl_linears.f]
      rw [if_neg (by omega)]
    · have key : ∀ (d i s : Nat), i + d = N → s + cntFrom N l m o i ≤ 134217728 → Ev (fun k => impl_linears.l0 k (N : Int) l o (s : Int) (N : Int) (i : Int)) ((s + cntFrom N l m o i : Nat) : Int) := by
        intro d
        induction d with
        | zero =>
          intro i s hi hs
          obtain rfl : i = N := by omega
          rw [cntFrom_end]
          refine Ev.succ (fun k => ?_)
          simp only [impl_linears.l0]
          rw [if_neg (by omega)]
          rfl
        | succ d ihd =>
          intro i s hi hs
          rw [cntFrom_step l m o (by omega)] at hs ⊢
          have hr := ihd (i + 1) (s + cntTerm N l m o i) (by omega) (by omega)
          rw [show s + (cntTerm N l m o i + cntFrom N l m o (i + 1)) = s + cntTerm N l m o i + cntFrom N l m o (i + 1) by omega]
          refine Ev.step (f := fun k => (impl_free.f k l o (i : Int)).bind fun t => if t = true then ((impl_copyInts.f o).bind fun t1 => if t1.length < 17592186044416 then ((impl_linears.f k (N : Int) l (t1 ++ [(i : Int)])).bind fun t2 => impl_linears.l0 k (N : Int) l o (wrap64 ((s : Int) + t2)) (N : Int) ((i + 1 : Nat) : Int)) else none) else impl_linears.l0 k (N : Int) l o (s : Int) (N : Int) ((i + 1 : Nat) : Int)) (fun k => ?_) ?_
          · simp only [impl_linears.l0]
            rw [if_pos (by omega), w64_succ (n := N) (by omega) (by omega)]
          · refine Ev.bind (impl_free_ev (i : Int) (by omega) (by omega)) ?_
            cases hf : freeB l o (i : Int) with
            | false =>
              have e : cntTerm N l m o i = 0 := by simp [cntTerm, hf]
              rw [e] at hr ⊢
              exact Ev.congr (fun k => if_neg (by simp)) hr
            | true =>
              have e : cntTerm N l m o i = cnt N l m (o ++ [(i : Int)]) := by simp [cntTerm, hf]
              have hb := cntTerm_small hN l (m := m) (by omega) o i
              rw [e] at hr hs hb ⊢
              refine Ev.congr (fun k => if_pos rfl) ?_
              unfold impl_copyInts.f
              rw [if_pos (by omega)]
              simp only [Option.bind_some]
              refine Ev.congr (fun k => if_pos (by omega)) ?_
              refine Ev.bind (ih (o ++ [(i : Int)]) (by simp; omega)) ?_
              rw [w64 (by omega) (by omega), ← Int.natCast_add]
              exact hr
      have h := key N 0 0 (by omega) (by have := cntFrom_small hN l (m := m) (by omega) o 0; omega)
      rw [Nat.zero_add] at h
      exact h
theorem flags_unset {N : Nat} {o : List Int} {x : Nat} (h : (x : Int) ∉ o) : (flags N (o ++ [(x : Int)])).set x false = flags N o := by
  apply List.ext_getElem
  · simp [flags]
  · intro j h1 h2
    simp [flags, List.getElem_set] at h1 h2 ⊢
    by_cases e : x = j
    · subst e; simp [h]
    · have : (j : Int) ≠ (x : Int) := by omega
      simp [e, this]
theorem l14Count_ev {N : Nat} (hN : N ≤ 8) (l : List IE) (hl : l.length ≤ 200) (he : ∀ e ∈ l, 0 ≤ e.f0 ∧ e.f0 < (N : Int)) : ∀ (m : Nat) (o : List Int), o.length + m = N →
    Ev (fun k => spec_l14Count.f k (N : Int) l (flags N o) (m : Int)) ((cnt N l m o : Int), flags N o) := by
  intro m
  induction m with
  | zero =>
    intro o ho
    refine Ev.succ (fun k => ?_)
    simp only [spec_l14Count.f]
    rw [if_pos (by omega)]
    rfl
  | succ m ih =>
    intro o ho
    refine Ev.step (f := fun k => spec_l14Count.l0 k (N : Int) l (flags N o) ((m + 1 : Nat) : Int) 0 0) (fun k => ?_) ?_
    · simp only [spec_l14Count.f]
      rw [if_neg (by omega)]
    · have key : ∀ (d i s : Nat), i + d = N → s + cntFrom N l m o i ≤ 134217728 → Ev (fun k => spec_l14Count.l0 k (N : Int) l (flags N o) ((m + 1 : Nat) : Int) (s : Int) (i : Int)) (((s + cntFrom N l m o i : Nat) : Int), flags N o) := by
        intro d
        induction d with
        | zero =>
          intro i s hi hs
          obtain rfl : i = N := by omega
          rw [cntFrom_end]
          refine Ev.succ (fun k => ?_)
          simp only [spec_l14Count.l0]
          rw [if_neg (by omega)]
          rfl
        | succ d ihd =>
          intro i s hi hs
          rw [cntFrom_step l m o (by omega)] at hs ⊢
          have hr := ihd (i + 1) (s + cntTerm N l m o i) (by omega) (by omega)
          rw [show s + (cntTerm N l m o i + cntFrom N l m o (i + 1)) = s + cntTerm N l m o i + cntFrom N l m o (i + 1) by omega]
          refine Ev.step (f := fun k => (spec_l14Ready.f k l (flags N o) (i : Int)).bind fun t => if t = true then (if 0 ≤ (i : Int) then (if (i : Int) < ((flags N o).length : Int) then ((spec_l14Count.f k (N : Int) l ((flags N o).set (i : Int).toNat true) (wrap64 (((m + 1 : Nat) : Int) - 1))).bind fun t2 => spec_l14Count.l0 k (N : Int) l (t2.2.set (i : Int).toNat false) ((m + 1 : Nat) : Int) (wrap64 ((s : Int) + t2.1)) ((i + 1 : Nat) : Int)) else none) else none) else spec_l14Count.l0 k (N : Int) l (flags N o) ((m + 1 : Nat) : Int) (s : Int) ((i + 1 : Nat) : Int)) (fun k => ?_) ?_
          · simp only [spec_l14Count.l0]
            rw [if_pos (by omega), w64_succ (n := N) (by omega) (by omega)]
          · refine Ev.bind (l14Ready_ev (by omega) (by omega) (by omega) he) ?_
            cases hf : freeB l o (i : Int) with
            | false =>
              have e : cntTerm N l m o i = 0 := by simp [cntTerm, hf]
              rw [e] at hr ⊢
              exact Ev.congr (fun k => if_neg (by simp)) hr
            | true =>
              have e : cntTerm N l m o i = cnt N l m (o ++ [(i : Int)]) := by simp [cntTerm, hf]
              have hb := cntTerm_small hN l (m := m) (by omega) o i
              have hni := ((freeB_iff _ _ _).1 hf).1
              rw [e] at hr hs hb ⊢
              refine Ev.congr (fun k => if_pos rfl) (Ev.congr (fun k => if_pos (by omega)) (Ev.congr (fun k => if_pos (by rw [flags_len]; omega)) ?_))
              rw [Int.toNat_natCast, flags_set (by omega), w64 (x := ((m + 1 : Nat) : Int) - 1) (by omega) (by omega), show (((m + 1 : Nat) : Int) - 1) = (m : Int) by omega]
              refine Ev.bind (ih (o ++ [(i : Int)]) (by simp; omega)) ?_
              simp only [flags_unset hni]
              rw [w64 (by omega) (by omega), ← Int.natCast_add]
              exact hr
      have h := key N 0 0 (by omega) (by have := cntFrom_small hN l (m := m) (by omega) o 0; omega)
      rw [Nat.zero_add] at h
      exact h
def linearsP (n : Int) (l : List IE) : Int := if graphOk n l = true ∧ n ≤ 8 then (cnt n.toNat l n.toNat [] : Int) else -1
theorem impl_Linears_ev (n : Int) (l : List IE) : Ev (fun k => impl_Linears.f k n l) (linearsP n l) := by
  unfold impl_Linears.f linearsP
  refine Ev.bind (impl_GraphOk_ev n l) ?_
  cases hg : graphOk n l with
  | false => exact Ev.of_eq fun k => by simp
  | true =>
    obtain ⟨hn, hl, he⟩ := (graphOk_iff n l).1 hg
    refine Ev.congr (fun k => if_pos rfl) ?_
    by_cases h8 : n ≤ 8
    · refine Ev.congr (fun k => if_neg (by omega)) ?_
      rw [if_pos ⟨rfl, h8⟩]
      have h := impl_linears_ev (N := n.toNat) (by omega) l hl n.toNat [] (by simp)
      rw [Int.toNat_of_nonneg hn.1] at h
      exact Ev.bind h (Ev.of_eq fun k => rfl)
    · rw [if_neg (by simp [h8])]
      exact Ev.of_eq fun k => if_pos (by omega)
theorem flags_nil (N : Nat) : List.replicate N false = flags N [] := by
  apply List.ext_getElem
  · simp [flags]
  · intro j h1 h2; simp [flags]
theorem spec_Linears_ev (n : Int) (l : List IE) : Ev (fun k => spec_Linears.f k n l) (linearsP n l) := by
  unfold spec_Linears.f linearsP
  refine Ev.bind (spec_GraphOk_ev n l) ?_
  cases hg : graphOk n l with
  | false => exact Ev.of_eq fun k => by simp
  | true =>
    obtain ⟨hn, hl, he⟩ := (graphOk_iff n l).1 hg
    refine Ev.congr (fun k => if_pos rfl) ?_
    by_cases h8 : n ≤ 8
    · have hn0 := hn.1
      refine Ev.congr (fun k => if_neg (by omega)) (Ev.congr (fun k => if_pos hn0) (Ev.congr (fun k => if_pos (by omega)) ?_))
      rw [if_pos ⟨rfl, h8⟩]
      have h := l14Count_ev (N := n.toNat) (by omega) l hl (fun e hel => ⟨(he e hel).1.1, by have := (he e hel).1.2; omega⟩) n.toNat [] (by simp)
      rw [Int.toNat_of_nonneg hn0] at h
      rw [flags_nil]
      exact Ev.bind h (Ev.of_eq fun k => rfl)
    · rw [if_neg (by simp [h8])]
      exact Ev.of_eq fun k => if_pos (by omega)

-- chunk linear: the order with a number
def pickL (N : Nat) (l : List IE) (m : Nat) (o : List Int) : List Nat → Nat → Option (Nat × Nat)
  | [], _ => none
  | x :: xs, k => if k < cntTerm N l m o x then some (x, k) else pickL N l m o xs (k - cntTerm N l m o x)
theorem pickL_some {N : Nat} {l : List IE} {m : Nat} {o : List Int} {xs : List Nat} {k : Nat} (h : k < (xs.map (cntTerm N l m o)).sum) :
    ∃ x k', pickL N l m o xs k = some (x, k') ∧ x ∈ xs ∧ k' < cntTerm N l m o x := by
  induction xs generalizing k with
  | nil => simp at h
  | cons a xs ih =>
    unfold pickL
    by_cases hk : k < cntTerm N l m o a
    · exact ⟨a, k, by rw [if_pos hk], by simp, hk⟩
    · rw [List.map_cons, List.sum_cons] at h
      obtain ⟨x, k', h1, h2, h3⟩ := ih (k := k - cntTerm N l m o a) (by omega)
      exact ⟨x, k', by rw [if_neg hk]; exact h1, by simp [h2], h3⟩
theorem term_free {N : Nat} {l : List IE} {m : Nat} {o : List Int} {x k : Nat} (h : k < cntTerm N l m o x) : freeB l o (x : Int) = true ∧ cntTerm N l m o x = cnt N l m (o ++ [(x : Int)]) := by
  unfold cntTerm at h ⊢
  split at h
  · rename_i hf; exact ⟨hf, by rw [if_pos hf]⟩
  · omega
def linG (N : Nat) (l : List IE) : Nat → List Int → Nat → List Int
  | 0, o, _ => o
  | m + 1, o, k => match pickL N l m o (List.range N) k with
    | some (x, k') => linG N l m (o ++ [(x : Int)]) k'
    | none => o
def linP (n : Int) (l : List IE) (k : Int) : List Int × Bool := if 0 ≤ k ∧ k ≤ linearsP n l - 1 then (linG n.toNat l n.toNat [] k.toNat, true) else ([], false)
theorem linearsP_le (n : Int) (l : List IE) : linearsP n l ≤ 16777216 ∧ -1 ≤ linearsP n l := by
  unfold linearsP
  split
  · rename_i h
    have := cnt_small (N := n.toNat) (by omega) l (m := n.toNat) (by omega) []
    omega
  · omega
theorem linearsP_pos {n : Int} {l : List IE} (h : 0 ≤ linearsP n l) : graphOk n l = true ∧ n ≤ 8 ∧ linearsP n l = (cnt n.toNat l n.toNat [] : Int) := by
  unfold linearsP at h ⊢
  split at h
  · rename_i hg; exact ⟨hg.1, hg.2, by rw [if_pos hg]⟩
  · omega
theorem impl_Linear_l0_ev {N : Nat} (hN : N ≤ 8) (l : List IE) (hl : l.length ≤ 200) : ∀ (m : Nat) (o : List Int) (k0 : Nat), o.length + m = N → k0 < cnt N l m o →
    Ev (fun k => impl_Linear.l0 k (N : Int) l (k0 : Int) o) (linG N l m o k0, true) := by
  intro m
  induction m with
  | zero =>
    intro o k0 ho hk
    refine Ev.succ (fun k => ?_)
    simp only [impl_Linear.l0]
    rw [if_neg (by omega)]
    rfl
  | succ m ih =>
    intro o k0 ho hk
    refine Ev.step (f := fun k => impl_Linear.l1 k (N : Int) l (k0 : Int) o (N : Int) 0) (fun k => ?_) ?_
    · simp only [impl_Linear.l0]
      rw [if_pos (by omega)]
    · have key : ∀ (d i q : Nat), i + d = N → q < cntFrom N l m o i → Ev (fun k => impl_Linear.l1 k (N : Int) l (q : Int) o (N : Int) (i : Int)) (match pickL N l m o ((List.range N).drop i) q with
          | some (x, k') => (linG N l m (o ++ [(x : Int)]) k', true)
          | none => ([], false)) := by
        intro d
        induction d with
        | zero =>
          intro i q hi hq
          obtain rfl : i = N := by omega
          rw [cntFrom_end] at hq
          omega
        | succ d ihd =>
          intro i q hi hq
          have hs := cntFrom_small hN l (m := m) (by omega) o i
          rw [cntFrom_step l m o (by omega)] at hq hs
          rw [List.drop_eq_getElem_cons (by simp; omega), List.getElem_range]
          unfold pickL
          refine Ev.step (f := fun k => (impl_free.f k l o (i : Int)).bind fun t => if t = true then ((impl_copyInts.f o).bind fun t1 => if t1.length < 17592186044416 then ((some (t1 ++ [(i : Int)] : List Int)).bind fun y => (impl_linears.f k (N : Int) l y).bind fun t2 => if (q : Int) < t2 then impl_Linear.l0 k (N : Int) l (q : Int) y else impl_Linear.l1 k (N : Int) l (wrap64 ((q : Int) - t2)) o (N : Int) ((i + 1 : Nat) : Int)) else none) else impl_Linear.l1 k (N : Int) l (q : Int) o (N : Int) ((i + 1 : Nat) : Int)) (fun k => ?_) ?_
          · simp only [impl_Linear.l1]
            rw [if_pos (by omega), w64_succ (n := N) (by omega) (by omega)]
          · refine Ev.bind (impl_free_ev (i : Int) (by omega) (by omega)) ?_
            cases hf : freeB l o (i : Int) with
            | false =>
              have e : cntTerm N l m o i = 0 := by simp [cntTerm, hf]
              rw [e] at hq ⊢
              rw [if_neg (by omega)]
              exact Ev.congr (fun k => if_neg (by simp)) (ihd (i + 1) q (by omega) (by omega))
            | true =>
              have e : cntTerm N l m o i = cnt N l m (o ++ [(i : Int)]) := by simp [cntTerm, hf]
              rw [e] at hq hs ⊢
              refine Ev.congr (fun k => if_pos rfl) ?_
              unfold impl_copyInts.f
              rw [if_pos (by omega)]
              simp only [Option.bind_some]
              refine Ev.congr (fun k => if_pos (by omega)) ?_
              refine Ev.bind (impl_linears_ev hN l hl m (o ++ [(i : Int)]) (by simp; omega)) ?_
              by_cases hlt : q < cnt N l m (o ++ [(i : Int)])
              · rw [if_pos hlt]
                exact Ev.congr (fun k => if_pos (by omega)) (ih (o ++ [(i : Int)]) q (by simp; omega) hlt)
              · rw [if_neg hlt]
                refine Ev.congr (fun k => if_neg (by omega)) ?_
                rw [w64 (by omega) (by omega), ← Int.natCast_sub (by omega)]
                exact ihd (i + 1) (q - cnt N l m (o ++ [(i : Int)])) (by omega) (by omega)
      have h := key N 0 k0 (by omega) (by rw [cnt_succ] at hk; exact hk)
      rw [List.drop_zero] at h
      unfold linG
      obtain ⟨x, k', h1, _, _⟩ := pickL_some (N := N) (l := l) (m := m) (o := o) (xs := List.range N) (k := k0) hk
      rw [h1] at h ⊢
      exact h
theorem impl_Linear_ev (n : Int) (l : List IE) (k0 : Int) : Ev (fun k => impl_Linear.f k n l k0) (linP n l k0) := by
  unfold impl_Linear.f linP
  refine Ev.bind (impl_Linears_ev n l) ?_
  refine Ev.bindc (within_eq _ _ _) ?_
  have hb := linearsP_le n l
  rw [w64 (by omega) (by omega)]
  by_cases hk : 0 ≤ k0 ∧ k0 ≤ linearsP n l - 1
  · rw [decide_eq_true hk, if_pos hk]
    refine Ev.congr (fun k => if_pos rfl) ?_
    obtain ⟨hg, h8, e⟩ := linearsP_pos (n := n) (l := l) (by omega)
    obtain ⟨hn, hl, _⟩ := (graphOk_iff n l).1 hg
    have h := impl_Linear_l0_ev (N := n.toNat) (by omega) l hl n.toNat [] k0.toNat (by simp) (by omega)
    rw [Int.toNat_of_nonneg hn.1, Int.toNat_of_nonneg hk.1] at h
    exact h
  · rw [decide_eq_false hk, if_neg hk]
    exact Ev.of_eq fun k => rfl
theorem linG_len {N : Nat} {l : List IE} {m : Nat} {o : List Int} {k : Nat} (hk : k < cnt N l m o) : (linG N l m o k).length = o.length + m := by
  induction m generalizing o k with
  | zero => rfl
  | succ m ih =>
    unfold linG
    obtain ⟨x, k', h1, _, h3⟩ := pickL_some (N := N) (l := l) (m := m) (o := o) (xs := List.range N) (k := k) hk
    rw [h1]
    have h4 := term_free h3
    rw [h4.2] at h3
    have := ih h3
    simp at this ⊢
    omega

-- chunk linearok: LinearOk of the program and of the reference
def posn (o : List Int) (v : Int) : Int := if v ∈ o then (o.idxOf v : Int) else -1
theorem posn_neg {o : List Int} {v : Int} : 0 ≤ posn o v ↔ v ∈ o := by
  unfold posn
  split
  · simp [*]
  · simp [*]
theorem posn_snoc (a : List Int) (v u : Int) : posn (a ++ [v]) u = if u ∈ a then posn a u else if u = v then (a.length : Int) else -1 := by
  unfold posn
  by_cases h : u ∈ a
  · simp [h, List.idxOf_append]
  · by_cases e : u = v
    · subst e
      simp [h, List.idxOf_append]
    · simp [h, e]
theorem posn_at {o : List Int} (hd : o.Nodup) {i : Nat} (h : i < o.length) : posn o o[i] = i := by
  unfold posn
  rw [if_pos (List.getElem_mem h), hd.idxOf_getElem i h]
theorem rd_map {N : Nat} (f : Int → Int) {v : Int} (h0 : 0 ≤ v) (h1 : v < (N : Int)) : rd ((List.range N).map fun u : Nat => f (u : Int)) v = f v := by
  unfold rd
  rw [getD_lt _ _ (by simp; omega)]
  simp [Int.toNat_of_nonneg h0]
theorem take_snoc {o : List Int} {i : Nat} (h : i < o.length) : o.take (i + 1) = o.take i ++ [o[i]] := by
  rw [List.take_succ_eq_append_getElem h]
theorem nodup_take {o : List Int} (h : ∀ (j : Nat) (hj : j < o.length), o[j] ∉ o.take j) : o.Nodup := by
  unfold List.Nodup
  rw [List.pairwise_iff_getElem]
  intro i j hi hj hij e
  apply h j hj
  rw [← e, List.mem_take_iff_getElem]
  exact ⟨i, by omega, rfl⟩
theorem full_int {n : Int} {o : List Int} (hn : (o.length : Int) = n) (hd : o.Nodup) (hr : ∀ v ∈ o, 0 ≤ v ∧ v ≤ n - 1) {v : Int} (h0 : 0 ≤ v) (h1 : v ≤ n - 1) : v ∈ o := by
  have hm : (o.map Int.toNat).Nodup := by
    unfold List.Nodup at hd ⊢
    rw [List.pairwise_map]
    refine List.Pairwise.imp_of_mem (fun {a b} ha hb hab => ?_) hd
    have := hr a ha
    have := hr b hb
    omega
  have := nodup_full (n := n.toNat) hm (fun x hx => by
    obtain ⟨y, hy, rfl⟩ := List.mem_map.1 hx
    have := hr y hy
    omega) (by simp; omega) (x := v.toNat) (by omega)
  obtain ⟨y, hy, e⟩ := List.mem_map.1 this
  have := hr y hy
  have : y = v := by omega
  rw [← this]; exact hy
def linOk (n : Int) (l : List IE) (o : List Int) : Prop := (∀ (j : Nat) (hj : j < o.length), (0 ≤ o[j] ∧ o[j] ≤ n - 1) ∧ freeB l (o.take j) o[j] = true)
theorem linOk_iff {n : Int} {l : List IE} {o : List Int} (hg : graphOk n l = true) (ho : (o.length : Int) = n) :
    linOk n l o ↔ (∀ (j : Nat) (hj : j < o.length), (0 ≤ o[j] ∧ o[j] ≤ n - 1) ∧ o[j] ∉ o.take j) ∧ ∀ e ∈ l, posn o e.f0 < posn o e.f1 := by
  obtain ⟨_, _, he⟩ := (graphOk_iff n l).1 hg
  constructor
  · intro h
    have h1 : ∀ (j : Nat) (hj : j < o.length), (0 ≤ o[j] ∧ o[j] ≤ n - 1) ∧ o[j] ∉ o.take j := fun j hj => ⟨(h j hj).1, ((freeB_iff _ _ _).1 (h j hj).2).1⟩
    have hd := nodup_take fun j hj => (h1 j hj).2
    have hr : ∀ v ∈ o, 0 ≤ v ∧ v ≤ n - 1 := fun v hv => by
      obtain ⟨j, hj, rfl⟩ := List.mem_iff_getElem.1 hv
      exact (h1 j hj).1
    refine ⟨h1, fun e hel => ?_⟩
    have hm := full_int ho hd hr (he e hel).2.1 (he e hel).2.2
    obtain ⟨j, hj, ej⟩ := List.mem_iff_getElem.1 hm
    have hf := ((freeB_iff _ _ _).1 (h j hj).2).2 e hel ej.symm
    rw [List.mem_take_iff_getElem] at hf
    obtain ⟨i, hi, ei⟩ := hf
    rw [← ej, ← ei, posn_at hd hj, posn_at hd (by omega)]
    omega
  · rintro ⟨h1, h2⟩ j hj
    have hd := nodup_take fun j hj => (h1 j hj).2
    have hr : ∀ v ∈ o, 0 ≤ v ∧ v ≤ n - 1 := fun v hv => by
      obtain ⟨j, hj, rfl⟩ := List.mem_iff_getElem.1 hv
      exact (h1 j hj).1
    refine ⟨(h1 j hj).1, (freeB_iff _ _ _).2 ⟨(h1 j hj).2, fun e hel ej => ?_⟩⟩
    have hm := full_int ho hd hr (he e hel).1.1 (he e hel).1.2
    obtain ⟨i, hi, ei⟩ := List.mem_iff_getElem.1 hm
    have h3 := h2 e hel
    rw [ej, ← ei, posn_at hd hj, posn_at hd hi] at h3
    rw [← ei, List.mem_take_iff_getElem]
    exact ⟨i, by omega, rfl⟩
theorem impl_LinearOk_ev (n : Int) (l : List IE) (o : List Int) (ho : o.length ≤ 9223372036854775807) :
    ∃ r, Ev (fun k => impl_LinearOk.f k n l o) r ∧ (r = true ↔ graphOk n l = true ∧ (o.length : Int) = n ∧ linOk n l o) := by
  unfold impl_LinearOk.f
  cases hg : graphOk n l with
  | false =>
    refine ⟨false, Ev.bind (impl_GraphOk_ev n l) (Ev.succ fun k => ?_), by simp⟩
    rw [hg]
    simp only [impl_LinearOk.j0, if_true]
    rfl
  | true =>
    by_cases hn : (o.length : Int) = n
    · obtain ⟨hn16, hl, he⟩ := (graphOk_iff n l).1 hg
      have hw : wrap64 (n - 1) = n - 1 := w64 (by omega) (by omega)
      obtain ⟨r, hr, hq⟩ := alli_ev o.length (fun i => decide (0 ≤ o.getD i 0 ∧ o.getD i 0 ≤ n - 1) && freeB l (o.take i) (o.getD i 0)) (fun k i => impl_LinearOk.l0 k n l o o (o.length : Int) i)
        (fun i h hp r hr => by
          rw [getD_lt _ _ h] at hp
          simp only [Bool.and_eq_true, decide_eq_true_eq] at hp
          refine Ev.step (f := fun k => (impl_free.f k l (o.take i) o[i]).bind fun t => if t = true then impl_LinearOk.l0 k n l o o (o.length : Int) ((i + 1 : Nat) : Int) else some false) (fun k => ?_) ?_
          · simp only [impl_LinearOk.l0]
            rw [if_pos (by omega), if_pos (by omega), if_pos (by omega), rd_lt _ h, within_eq, hw]
            simp only [Option.bind_some, hp.1, decide_true, if_true, and_self]
            rw [if_pos (by omega), w64_succ h ho, Int.toNat_natCast]
          · refine Ev.bind (impl_free_ev _ (by omega) (by rw [List.length_take]; omega)) ?_
            rw [hp.2]
            simpa using hr)
        (fun i h hp => by
          rw [getD_lt _ _ h] at hp
          by_cases hw' : 0 ≤ o[i] ∧ o[i] ≤ n - 1
          · have hf : freeB l (o.take i) o[i] = false := by simpa [hw'] using hp
            refine Ev.step (f := fun k => (impl_free.f k l (o.take i) o[i]).bind fun t => if t = true then impl_LinearOk.l0 k n l o o (o.length : Int) ((i + 1 : Nat) : Int) else some false) (fun k => ?_) ?_
            · simp only [impl_LinearOk.l0]
              rw [if_pos (by omega), if_pos (by omega), if_pos (by omega), rd_lt _ h, within_eq, hw]
              simp only [Option.bind_some, hw', decide_true, if_true, and_self]
              rw [if_pos (by omega), w64_succ h ho, Int.toNat_natCast]
            · refine Ev.bind (impl_free_ev _ (by omega) (by rw [List.length_take]; omega)) ?_
              rw [hf]
              exact Ev.of_eq fun k => rfl
          · refine Ev.succ (fun k => ?_)
            simp only [impl_LinearOk.l0]
            rw [if_pos (by omega), if_pos (by omega), if_pos (by omega), rd_lt _ h, within_eq, hw, decide_eq_false hw']
            rfl)
        (by
          refine Ev.succ (fun k => ?_)
          simp only [impl_LinearOk.l0]
          rw [if_neg (by omega)]) 0 (by omega)
      refine ⟨r, Ev.bind (impl_GraphOk_ev n l) ?_, ?_⟩
      · rw [hg]
        simp only [if_true]
        refine Ev.step (f := fun k => impl_LinearOk.l0 k n l o o (o.length : Int) 0) (fun k => ?_) hr
        simp only [impl_LinearOk.j0]
        rw [if_neg (by simp [hn])]
      · rw [hq]
        simp only [hn, true_and]
        constructor
        · intro h j hj
          have := h j (by omega) hj
          rw [getD_lt _ _ hj] at this
          simpa using this
        · intro h j _ hj
          rw [getD_lt _ _ hj]
          simpa using h j hj
    · refine ⟨false, Ev.bind (impl_GraphOk_ev n l) (Ev.succ fun k => ?_), by simp [hn]⟩
      rw [hg]
      simp only [impl_LinearOk.j0, if_true]
      rw [if_pos (by simp [hn])]
theorem spec_LinearOk_ev (n : Int) (l : List IE) (o : List Int) (ho : o.length ≤ 9223372036854775807) :
    ∃ r, Ev (fun k => spec_LinearOk.f k n l o) r ∧ (r = true ↔ graphOk n l = true ∧ (o.length : Int) = n ∧ linOk n l o) := by
  unfold spec_LinearOk.f
  cases hg : graphOk n l with
  | false =>
    refine ⟨false, Ev.bind (spec_GraphOk_ev n l) (Ev.succ fun k => ?_), by simp⟩
    rw [hg]
    simp only [spec_LinearOk.j0, if_true]
    rfl
  | true =>
    by_cases hn : (o.length : Int) = n
    · obtain ⟨hn16, hl, he⟩ := (graphOk_iff n l).1 hg
      have hw : wrap64 (n - 1) = n - 1 := w64 (by omega) (by omega)
      have key : ∀ (d i : Nat), i + d = o.length → ∃ r, Ev (fun k => spec_LinearOk.l1 k n l o ((List.range o.length).map fun u : Nat => posn (o.take i) (u : Int)) (i : Int)) r ∧
          (r = true ↔ (∀ (j : Nat) (hj : j < o.length), i ≤ j → (0 ≤ o[j] ∧ o[j] ≤ n - 1) ∧ o[j] ∉ o.take j) ∧ ∀ e ∈ l, posn o e.f0 < posn o e.f1) := by
        intro d
        induction d with
        | zero =>
          intro i hi
          obtain rfl : i = o.length := by omega
          rw [List.take_length]
          have h := all_ev l (fun e => decide (posn o e.f0 < posn o e.f1)) (fun k i => spec_LinearOk.l2 k l ((List.range o.length).map fun u : Nat => posn o (u : Int)) i)
            (fun i h hp r hr => by
              refine Ev.step (fun k => ?_) hr
              have h1 := he l[i] (List.getElem_mem h)
              simp only [spec_LinearOk.l2, List.length_map, List.length_range]
              rw [if_pos (by omega), if_pos (by omega), rd_IE h, if_pos (by omega), if_pos (by omega), if_pos (by omega), if_pos (by omega), rd_map _ (by omega) (by omega), rd_map _ (by omega) (by omega), if_neg (by simp at hp; omega), w64_succ h (by omega)])
            (fun i h hp => by
              refine Ev.succ (fun k => ?_)
              have h1 := he l[i] (List.getElem_mem h)
              simp only [spec_LinearOk.l2, List.length_map, List.length_range]
              rw [if_pos (by omega), if_pos (by omega), rd_IE h, if_pos (by omega), if_pos (by omega), if_pos (by omega), if_pos (by omega), rd_map _ (by omega) (by omega), rd_map _ (by omega) (by omega), if_pos (by simp at hp; omega)])
            (by
              refine Ev.succ (fun k => ?_)
              simp only [spec_LinearOk.l2]
              rw [if_neg (by omega)]) 0 (by omega)
          refine ⟨_, Ev.step (fun k => ?_) h, ?_⟩
          · simp only [spec_LinearOk.l1]
            rw [if_neg (by omega)]
            rfl
          · simp
            intro _ j hj hj'
            omega
        | succ d ih =>
          intro i hi
          have h : i < o.length := by omega
          by_cases hv : 0 ≤ o[i] ∧ o[i] ≤ n - 1
          · by_cases hm : o[i] ∈ o.take i
            · refine ⟨false, Ev.succ (fun k => ?_), ?_⟩
              · simp only [spec_LinearOk.l1, List.length_map, List.length_range]
                rw [if_pos (by omega), if_pos (by omega), if_pos (by omega), rd_lt _ h, l1In_eq, hw, decide_eq_true hv]
                simp only [Option.bind_some, if_true]
                rw [if_pos (by omega), if_pos (by omega), rd_map _ (by omega) (by omega), if_pos (posn_neg.2 hm)]
              · constructor
                · intro h; cases h
                · rintro ⟨h1, _⟩
                  exact absurd hm (h1 i h (Nat.le_refl _)).2
            · obtain ⟨r, hr, hq⟩ := ih (i + 1) (by omega)
              refine ⟨r, Ev.step (fun k => ?_) hr, ?_⟩
              · simp only [spec_LinearOk.l1, List.length_map, List.length_range]
                rw [if_pos (by omega), if_pos (by omega), if_pos (by omega), rd_lt _ h, l1In_eq, hw, decide_eq_true hv]
                simp only [Option.bind_some, if_true]
                rw [if_pos (by omega), if_pos (by omega), rd_map _ (by omega) (by omega), if_neg (fun hc => hm (posn_neg.1 hc)), w64_succ h ho]
                congr 1
                apply List.ext_getElem
                · simp
                · intro u h1 h2
                  simp at h1
                  rw [List.getElem_set]
                  simp only [List.getElem_map, List.getElem_range]
                  rw [take_snoc h, posn_snoc]
                  by_cases e : (o[i]).toNat = u
                  · rw [if_pos e]
                    have e' : (u : Int) = o[i] := by omega
                    rw [if_neg (by rw [e']; exact hm), if_pos e', List.length_take]
                    omega
                  · rw [if_neg e]
                    have e' : (u : Int) ≠ o[i] := by omega
                    by_cases hu : (u : Int) ∈ o.take i
                    · rw [if_pos hu]
                    · rw [if_neg hu, if_neg e']
                      unfold posn
                      rw [if_neg hu]
              · rw [hq]
                constructor
                · rintro ⟨h1, h2⟩
                  refine ⟨fun j hj hij => ?_, h2⟩
                  by_cases e : j = i
                  · subst e; exact ⟨hv, hm⟩
                  · exact h1 j hj (by omega)
                · rintro ⟨h1, h2⟩
                  exact ⟨fun j hj hij => h1 j hj (by omega), h2⟩
          · refine ⟨false, Ev.succ (fun k => ?_), ?_⟩
            · simp only [spec_LinearOk.l1, List.length_map, List.length_range]
              rw [if_pos (by omega), if_pos (by omega), if_pos (by omega), rd_lt _ h, l1In_eq, hw, decide_eq_false hv]
              rfl
            · constructor
              · intro h; cases h
              · rintro ⟨h1, _⟩
                exact absurd (h1 i h (Nat.le_refl _)).1 hv
      obtain ⟨r, hr, hq⟩ := key o.length 0 (by omega)
      refine ⟨r, Ev.bind (spec_GraphOk_ev n l) ?_, ?_⟩
      · rw [hg]
        simp only [if_true]
        refine Ev.step (f := fun k => spec_LinearOk.l0 k n l o (List.replicate n.toNat 0) 0) (fun k => ?_) ?_
        · simp only [spec_LinearOk.j0]
          rw [if_neg (by simp [hn]), if_pos (by omega), if_pos (by omega)]
        · refine fillk_ev (List.replicate n.toNat ()) (fun _ => (-1 : Int)) (fun k ys i => spec_LinearOk.l0 k n l o ys i) r (fun i h ys hy hr' => ?_) ?_ _ (by simp)
          · simp at h
            refine Ev.step (fun k => ?_) hr'
            simp at hy
            simp only [spec_LinearOk.l0]
            rw [if_pos (by omega), if_pos (by omega), if_pos (by omega), w64_succ (n := o.length) (by omega) (by omega), Int.toNat_natCast]
          · refine Ev.step (f := fun k => spec_LinearOk.l1 k n l o ((List.replicate n.toNat ()).map fun _ => (-1 : Int)) 0) (fun k => ?_) ?_
            · simp only [spec_LinearOk.l0, List.length_replicate]
              rw [if_neg (by omega)]
            · have e : ((List.replicate n.toNat ()).map fun _ => (-1 : Int)) = ((List.range o.length).map fun u : Nat => posn (o.take 0) (u : Int)) := by
                apply List.ext_getElem
                · simp; omega
                · intro u h1 h2
                  simp [posn]
              rw [e]
              exact hr
      · rw [hq, linOk_iff hg hn]
        simp only [hn, true_and]
        constructor
        · rintro ⟨h1, h2⟩; exact ⟨fun j hj => h1 j hj (Nat.zero_le _), h2⟩
        · rintro ⟨h1, h2⟩; exact ⟨fun j hj _ => h1 j hj, h2⟩
    · refine ⟨false, Ev.bind (spec_GraphOk_ev n l) (Ev.succ fun k => ?_), by simp [hn]⟩
      rw [hg]
      simp only [spec_LinearOk.j0, if_true]
      rw [if_pos (by simp [hn])]

-- chunk draw: what the draws may tell
theorem and255 (v : Int) : 0 ≤ Go.bits .and .i64 v 255 ∧ Go.bits .and .i64 v 255 ≤ 255 := by
  have h : Go.bits .and .i64 v 255 = IntKind.i64.wrap (((BitVec.ofInt 64 v &&& BitVec.ofInt 64 255).toNat : Nat) : Int) := rfl
  have h2 : (BitVec.ofInt 64 v &&& BitVec.ofInt 64 255).toNat ≤ 255 := by
    rw [BitVec.toNat_and]
    exact Nat.le_trans Nat.and_le_right (by decide)
  rw [h, IntKind.wrap_i64]
  omega
theorem l1Byte_ex (b : List Int) (i h : Int) (hb : b.length ≤ 140737488351232) (hi : 0 ≤ i) : ∃ x i' h', spec_l1Byte.f b i h = some (x, i', h') ∧ 0 ≤ x ∧ x ≤ 255 ∧ 0 ≤ i' := by
  unfold spec_l1Byte.f
  by_cases hl : i < (b.length : Int)
  · rw [if_pos hl, if_pos hi]
    refine ⟨_, _, _, rfl, (and255 _).1, (and255 _).2, ?_⟩
    rw [w64 (by omega) (by omega)]
    omega
  · rw [if_neg hl]
    exact ⟨_, _, _, rfl, (and255 _).1, (and255 _).2, hi⟩
theorem l1Below_ex (b : List Int) (i h n : Int) (hb : b.length ≤ 140737488351232) (hi : 0 ≤ i) : ∃ x i' h', spec_l1Below.f b i h n = some (x, i', h') ∧ 0 ≤ x ∧ (0 < n → x < n) ∧ (n ≤ 0 → x = 0) ∧ 0 ≤ i' := by
  unfold spec_l1Below.f
  by_cases h0 : n ≤ 0
  · rw [if_pos h0]
    exact ⟨0, i, h, rfl, by omega, by omega, fun _ => rfl, hi⟩
  · rw [if_neg h0]
    by_cases h1 : n ≤ 256
    · rw [if_pos h1]
      obtain ⟨x, i1, h1, e1, p1, q1, r1⟩ := l1Byte_ex b i h hb hi
      rw [e1]
      simp only [Option.bind_some]
      rw [if_neg (by omega)]
      exact ⟨_, _, _, rfl, Int.tmod_nonneg _ p1, fun _ => Int.tmod_lt_of_pos _ (by omega), fun h => absurd h h0, r1⟩
    · rw [if_neg h1]
      obtain ⟨x, i1, h1, e1, p1, q1, r1⟩ := l1Byte_ex b i h hb hi
      obtain ⟨y, i2, h2, e2, p2, q2, r2⟩ := l1Byte_ex b i1 h1 hb r1
      obtain ⟨z, i3, h3, e3, p3, q3, r3⟩ := l1Byte_ex b i2 h2 hb r2
      obtain ⟨w, i4, h4, e4, p4, q4, r4⟩ := l1Byte_ex b i3 h3 hb r3
      rw [e1]; simp only [Option.bind_some]; rw [e2]; simp only [Option.bind_some]; rw [e3]; simp only [Option.bind_some]; rw [e4]; simp only [Option.bind_some]
      rw [if_neg (by omega)]
      refine ⟨_, _, _, rfl, Int.tmod_nonneg _ ?_, fun _ => Int.tmod_lt_of_pos _ (by omega), fun h => absurd h h0, r4⟩
      rw [w64 (x := x * 16777216) (by omega) (by omega), w64 (x := y * 65536) (by omega) (by omega), w64 (x := z * 256) (by omega) (by omega), w64 (x := x * 16777216 + y * 65536) (by omega) (by omega), w64 (x := x * 16777216 + y * 65536 + z * 256) (by omega) (by omega), w64 (by omega) (by omega)]
      omega
theorem l1Once_ex (b : List Int) (i h n : Int) (hb : b.length ≤ 140737488351232) (hi : 0 ≤ i) : ∃ x i' h', spec_l1Once.f b i h n = some (x, i', h') ∧ 0 ≤ i' := by
  obtain ⟨x, i', h', e, _, _, _, hi'⟩ := l1Below_ex b i h n hb hi
  unfold spec_l1Once.f
  rw [e]
  exact ⟨_, _, _, rfl, hi'⟩
theorem l1PickInt_ex (b : List Int) (i h : Int) (l : List Int) (hb : b.length ≤ 140737488351232) (hi : 0 ≤ i) (hl : l ≠ []) (hm : l.length ≤ 1000) : ∃ x i' h', spec_l1PickInt.f b i h l = some (x, i', h') ∧ x ∈ l ∧ 0 ≤ i' := by
  obtain ⟨x, i', h', e, h0, h1, _, hi'⟩ := l1Below_ex b i h (l.length : Int) hb hi
  have hp : 0 < l.length := List.length_pos_iff.2 hl
  have h2 := h1 (by omega)
  unfold spec_l1PickInt.f
  rw [e]
  simp only [Option.bind_some]
  rw [if_pos h0, if_pos h2]
  refine ⟨_, _, _, rfl, ?_, hi'⟩
  obtain ⟨y, rfl⟩ : ∃ y : Nat, x = (y : Int) := ⟨x.toNat, by omega⟩
  rw [rd_lt _ (by omega)]
  exact List.getElem_mem _
theorem l1New_ev (b : List Int) (hb : b.length ≤ 140737488351232) : ∃ h, Ev (fun k => spec_l1New.f k b) (b, 0, h) := by
  unfold spec_l1New.f
  have key : ∀ (d i : Nat) (h : Int), i + d = b.length → ∃ h', Ev (fun k => spec_l1New.l0 k b h (i : Int)) (b, 0, h') := by
    intro d
    induction d with
    | zero =>
      intro i h hi
      refine ⟨h, Ev.succ (fun k => ?_)⟩
      simp only [spec_l1New.l0]
      rw [if_neg (by omega)]
    | succ d ih =>
      intro i h hi
      by_cases h4 : i < 4000
      · obtain ⟨h', hr⟩ := ih (i + 1) (Go.bits .and .i64 (wrap64 ((wrap64 ((wrap64 (h * 131)) + (wrap64 (rd b i)))) + 7)) 1073741823) (by omega)
        refine ⟨h', Ev.step (fun k => ?_) hr⟩
        simp only [spec_l1New.l0]
        rw [if_pos (by omega), if_pos (by omega), if_pos (by omega), w64_succ (n := b.length) (by omega) (by omega)]
      · refine ⟨h, Ev.succ (fun k => ?_)⟩
        simp only [spec_l1New.l0]
        rw [if_pos (by omega), if_neg (by omega)]
  exact key b.length 0 _ (by omega)

-- chunk drawgraph: drawn graphs
def inGraph (n : Int) (es : List IE) : Prop := ∀ e ∈ es, (0 ≤ e.f0 ∧ e.f0 < n) ∧ (0 ≤ e.f1 ∧ e.f1 < n)
theorem inGraph_snoc {n : Int} {es : List IE} {e : IE} (h : inGraph n es) (he : (0 ≤ e.f0 ∧ e.f0 < n) ∧ (0 ≤ e.f1 ∧ e.f1 < n)) : inGraph n (es ++ [e]) := by
  intro x hx
  rcases List.mem_append.1 hx with hx | hx
  · exact h x hx
  · rw [List.mem_singleton.1 hx]; exact he
theorem l14Graph_ev (b : List Int) (i h most : Int) (hb : b.length ≤ 140737488351232) (hi : 0 ≤ i) (hm0 : 0 ≤ most) (hm : most ≤ 16) :
    ∃ n es i' h', Ev (fun k => spec_l14Graph.f k b i h most) (n, es, i', h') ∧ 0 ≤ n ∧ n ≤ most ∧ (es.length : Int) ≤ 2 * n + 2 ∧ inGraph n es ∧ 0 ≤ i' := by
  unfold spec_l14Graph.f
  rw [w64 (x := most + 1) (by omega) (by omega)]
  obtain ⟨n, i1, h1, e1, n0, n1, _, hi1⟩ := l1Below_ex b i h (most + 1) hb hi
  have n2 := n1 (by omega)
  rw [e1]
  simp only [Option.bind_some]
  rw [w64 (x := 2 * n) (by omega) (by omega), w64 (x := 2 * n + 2) (by omega) (by omega)]
  obtain ⟨m, i2, h2, e2, m0, m1, _, hi2⟩ := l1Below_ex b i1 h1 (2 * n + 2) hb hi1
  have m2 := m1 (by omega)
  rw [e2]
  simp only [Option.bind_some]
  have key : ∀ (d : Nat) (j : Nat) (es : List IE) (i h : Int), (j : Int) + d = m → es.length ≤ j → inGraph n es → 0 ≤ i →
      ∃ es' i' h', Ev (fun k => spec_l14Graph.l0 k n es m (j : Int) b i h) (n, es', i', h') ∧ (es'.length : Int) ≤ 2 * n + 2 ∧ inGraph n es' ∧ 0 ≤ i' := by
    intro d
    induction d with
    | zero =>
      intro j es i h hj hes hin hi
      refine ⟨es, i, h, Ev.step (f := fun k => spec_l14Graph.j1 k n es m (j : Int) false b i h) (fun k => ?_) (Ev.succ fun k => ?_), by omega, hin, hi⟩
      · simp only [spec_l14Graph.l0]
        rw [if_neg (by omega)]
      · simp [spec_l14Graph.j1]
    | succ d ih =>
      intro j es i h hj hes hin hi
      have hj2 : j ≤ 9223372036854775806 := by omega
      by_cases hn : 0 < n
      · obtain ⟨a, i3, h3, e3, a0, a1, _, hi3⟩ := l1Below_ex b i h n hb hi
        obtain ⟨c, i4, h4, e4, c0, c1, _, hi4⟩ := l1Below_ex b i3 h3 n hb hi3
        have a2 := a1 hn
        have c2 := c1 hn
        -- from j2 on
        have two : ∀ (t : Bool) (i h : Int), 0 ≤ i → ∃ es' i' h', Ev (fun k => spec_l14Graph.j2 k n es m (j : Int) a c t b i h) (n, es', i', h') ∧ (es'.length : Int) ≤ 2 * n + 2 ∧ inGraph n es' ∧ 0 ≤ i' := by
          intro t i h hi
          cases t with
          | true =>
            by_cases hac : c = a
            · obtain ⟨o, i5, h5, e5, hi5⟩ := l1Once_ex b i h 12 hb hi
              cases o with
              | true =>
                obtain ⟨es', i', h', hr, r1, r2, r3⟩ := ih (j + 1) (es ++ [⟨c, a⟩]) i5 h5 (by omega) (by simp; omega) (inGraph_snoc hin ⟨⟨c0, c2⟩, a0, a2⟩) hi5
                refine ⟨es', i', h', Ev.step (fun k => ?_) hr, r1, r2, r3⟩
                simp only [spec_l14Graph.j2, if_true]
                rw [if_pos hac, e5]
                simp only [Option.bind_some, if_true]
                rw [if_pos (by omega), w64_nat j hj2]
              | false =>
                obtain ⟨es', i', h', hr, r1, r2, r3⟩ := ih (j + 1) es i5 h5 (by omega) (by omega) hin hi5
                refine ⟨es', i', h', Ev.step (fun k => ?_) hr, r1, r2, r3⟩
                simp only [spec_l14Graph.j2, if_true]
                rw [if_pos hac, e5]
                simp only [Option.bind_some]
                rw [if_neg (by simp), w64_nat j hj2]
            · obtain ⟨es', i', h', hr, r1, r2, r3⟩ := ih (j + 1) (es ++ [⟨c, a⟩]) i h (by omega) (by simp; omega) (inGraph_snoc hin ⟨⟨c0, c2⟩, a0, a2⟩) hi
              refine ⟨es', i', h', Ev.step (fun k => ?_) hr, r1, r2, r3⟩
              simp only [spec_l14Graph.j2, if_true]
              rw [if_neg hac, if_pos (by omega), w64_nat j hj2]
          | false =>
            by_cases hac : a = c
            · obtain ⟨o, i5, h5, e5, hi5⟩ := l1Once_ex b i h 12 hb hi
              cases o with
              | true =>
                obtain ⟨es', i', h', hr, r1, r2, r3⟩ := ih (j + 1) (es ++ [⟨a, c⟩]) i5 h5 (by omega) (by simp; omega) (inGraph_snoc hin ⟨⟨a0, a2⟩, c0, c2⟩) hi5
                refine ⟨es', i', h', Ev.step (fun k => ?_) hr, r1, r2, r3⟩
                simp only [spec_l14Graph.j2]
                rw [if_neg (by simp), if_pos hac, e5]
                simp only [Option.bind_some, if_true]
                rw [if_pos (by omega), w64_nat j hj2]
              | false =>
                obtain ⟨es', i', h', hr, r1, r2, r3⟩ := ih (j + 1) es i5 h5 (by omega) (by omega) hin hi5
                refine ⟨es', i', h', Ev.step (fun k => ?_) hr, r1, r2, r3⟩
                simp only [spec_l14Graph.j2]
                rw [if_neg (by simp), if_pos hac, e5]
                simp only [Option.bind_some]
                rw [if_neg (by simp), w64_nat j hj2]
            · obtain ⟨es', i', h', hr, r1, r2, r3⟩ := ih (j + 1) (es ++ [⟨a, c⟩]) i h (by omega) (by simp; omega) (inGraph_snoc hin ⟨⟨a0, a2⟩, c0, c2⟩) hi
              refine ⟨es', i', h', Ev.step (fun k => ?_) hr, r1, r2, r3⟩
              simp only [spec_l14Graph.j2]
              rw [if_neg (by simp), if_neg hac, if_pos (by omega), w64_nat j hj2]
        by_cases hgt : a > c
        · obtain ⟨o, i5, h5, e5, hi5⟩ := l1Once_ex b i4 h4 7 hb hi4
          obtain ⟨es', i', h', hr, r1, r2, r3⟩ := two (!o) i5 h5 hi5
          refine ⟨es', i', h', Ev.step (f := fun k => spec_l14Graph.j1 k n es m (j : Int) true b i h) (fun k => ?_) (Ev.step (fun k => ?_) hr), r1, r2, r3⟩
          · simp only [spec_l14Graph.l0]
            rw [if_pos (by omega), decide_eq_true (by omega : n > 0)]
          · simp only [spec_l14Graph.j1, if_true]
            rw [e3]; simp only [Option.bind_some]; rw [e4]; simp only [Option.bind_some]
            rw [if_pos hgt, e5]; rfl
        · obtain ⟨es', i', h', hr, r1, r2, r3⟩ := two false i4 h4 hi4
          refine ⟨es', i', h', Ev.step (f := fun k => spec_l14Graph.j1 k n es m (j : Int) true b i h) (fun k => ?_) (Ev.step (fun k => ?_) hr), r1, r2, r3⟩
          · simp only [spec_l14Graph.l0]
            rw [if_pos (by omega), decide_eq_true (by omega : n > 0)]
          · simp only [spec_l14Graph.j1, if_true]
            rw [e3]; simp only [Option.bind_some]; rw [e4]; simp only [Option.bind_some]
            rw [if_neg hgt]
      · refine ⟨es, i, h, Ev.step (f := fun k => spec_l14Graph.j1 k n es m (j : Int) false b i h) (fun k => ?_) (Ev.succ fun k => ?_), by omega, hin, hi⟩
        · simp only [spec_l14Graph.l0]
          rw [if_pos (by omega), decide_eq_false (by omega : ¬ n > 0)]
        · simp [spec_l14Graph.j1]
  obtain ⟨es', i', h', hr, r1, r2, r3⟩ := key m.toNat 0 [] i2 h2 (by omega) (by simp) (fun e he => by simp at he) hi2
  exact ⟨n, es', i', h', hr, n0, by omega, r1, r2, r3⟩
theorem l14Some_ev (b : List Int) (i h most : Int) (hb : b.length ≤ 140737488351232) (hi : 0 ≤ i) (hm0 : 0 ≤ most) (hm : most ≤ 16) :
    ∃ n es i' h', Ev (fun k => spec_l14Some.f k b i h most) (n, es, i', h') ∧ -1 ≤ n ∧ n ≤ 17 ∧ es.length ≤ 300 ∧ 0 ≤ i' := by
  unfold spec_l14Some.f
  obtain ⟨n, es, i1, h1, hg, n0, n1, hl, hin, hi1⟩ := l14Graph_ev b i h most hb hi hm0 hm
  obtain ⟨o, i2, h2, e2, hi2⟩ := l1Once_ex b i1 h1 12 hb hi1
  cases o with
  | false => exact ⟨n, es, i2, h2, Ev.bind hg (Ev.of_eq fun k => by simp only [e2, Option.bind_some]; rfl), by omega, by omega, by omega, hi2⟩
  | true =>
    obtain ⟨q, i3, h3, e3, q0, _, _, hi3⟩ := l1Below_ex b i2 h2 4 hb hi2
    by_cases q1 : q = 0
    · obtain ⟨x, i4, h4, e4, hx, hi4⟩ := l1PickInt_ex b i3 h3 [(-1), 16, 17] hb hi3 (by simp) (by simp)
      refine ⟨x, es, i4, h4, Ev.bind hg (Ev.of_eq fun k => by simp only [e2, Option.bind_some, if_true, e3, q1, e4]), ?_, ?_, by omega, hi4⟩ <;> (simp at hx; omega)
    · by_cases q2 : q = 1
      · exact ⟨n, es ++ [⟨0, n⟩], i3, h3, Ev.bind hg (Ev.of_eq fun k => by simp only [e2, Option.bind_some, if_true, e3, q2]; rw [if_neg (by omega), if_pos (by omega)]), by omega, by omega, by simp; omega, hi3⟩
      · by_cases q3 : q = 2
        · exact ⟨n, es ++ [⟨-1, 0⟩], i3, h3, Ev.bind hg (Ev.of_eq fun k => by simp only [e2, Option.bind_some, if_true, e3, q3]; rw [if_neg (by omega), if_neg (by omega), if_pos (by omega)]), by omega, by omega, by simp; omega, hi3⟩
        · have key : ∀ (d : Nat) (es : List IE) (i h : Int), 250 ≤ es.length + d → es.length ≤ 201 → 0 ≤ i →
              ∃ es' i' h', Ev (fun k => spec_l14Some.l0 k n es b i h) (n, es', i', h') ∧ es'.length ≤ 300 ∧ 0 ≤ i' := by
            intro d
            induction d with
            | zero => intro es i h hd hes hi; omega
            | succ d ih =>
              intro es i h hd hes hi
              obtain ⟨x, i5, h5, e5, x0, x1, _, hi5⟩ := l1Below_ex b i h 2 hb hi
              have x2 := x1 (by omega)
              by_cases hlt : (es.length : Int) < 200 + x
              · by_cases hn1 : n > 1
                · obtain ⟨es', i', h', hr, r1, r2⟩ := ih (es ++ [⟨0, 1⟩]) i5 h5 (by simp; omega) (by simp; omega) hi5
                  refine ⟨es', i', h', Ev.step (fun k => ?_) hr, r1, r2⟩
                  simp only [spec_l14Some.l0, e5, Option.bind_some]
                  rw [w64 (by omega) (by omega), if_pos hlt, if_pos hn1, if_pos (by omega)]
                · refine ⟨es, i5, h5, Ev.succ (fun k => ?_), by omega, hi5⟩
                  simp only [spec_l14Some.l0, e5, Option.bind_some]
                  rw [w64 (by omega) (by omega), if_pos hlt, if_neg hn1]
              · refine ⟨es, i5, h5, Ev.succ (fun k => ?_), by omega, hi5⟩
                simp only [spec_l14Some.l0, e5, Option.bind_some]
                rw [w64 (by omega) (by omega), if_neg hlt]
          obtain ⟨es', i', h', hr, r1, r2⟩ := key 250 es i3 h3 (by omega) (by omega) hi3
          refine ⟨n, es', i', h', Ev.bind hg (Ev.congr (fun k => ?_) hr), by omega, by omega, r1, r2⟩
          simp only [e2, Option.bind_some, if_true, e3]
          rw [if_neg q1, if_neg q2, if_neg q3]

/-- Two lists, of which the first is less where they first differ. -/
def lexLt (n : Nat) (a b : List Int) : Prop := ∃ j, j < n ∧ (∀ i, i < j → a.getD i 0 = b.getD i 0) ∧ a.getD j 0 < b.getD j 0
theorem linG_pre {N : Nat} {l : List IE} {m : Nat} {o : List Int} {k : Nat} : ∃ t, linG N l m o k = o ++ t := by
  induction m generalizing o k with
  | zero => exact ⟨[], by simp [linG]⟩
  | succ m ih =>
    unfold linG
    split
    · rename_i x k' h
      obtain ⟨t, ht⟩ := ih (o := o ++ [(x : Int)]) (k := k')
      exact ⟨(x : Int) :: t, by rw [ht]; simp⟩
    · exact ⟨[], by simp⟩
theorem pickL_mono {N : Nat} {l : List IE} {m : Nat} {o : List Int} {xs : List Nat} (hs : xs.Pairwise (· < ·)) {a b : Nat} (hab : a < b) (hb : b < (xs.map (cntTerm N l m o)).sum) :
    ∃ x a' y b', pickL N l m o xs a = some (x, a') ∧ pickL N l m o xs b = some (y, b') ∧ (x < y ∨ x = y ∧ a' < b') := by
  induction xs generalizing a b with
  | nil => simp at hb
  | cons c xs ih =>
    rw [List.map_cons, List.sum_cons] at hb
    rw [List.pairwise_cons] at hs
    unfold pickL
    by_cases h1 : a < cntTerm N l m o c
    · rw [if_pos h1]
      by_cases h2 : b < cntTerm N l m o c
      · rw [if_pos h2]
        exact ⟨c, a, c, b, rfl, rfl, Or.inr ⟨rfl, hab⟩⟩
      · rw [if_neg h2]
        obtain ⟨y, b', e, hy, _⟩ := pickL_some (N := N) (l := l) (m := m) (o := o) (xs := xs) (k := b - cntTerm N l m o c) (by omega)
        exact ⟨c, a, y, b', rfl, e, Or.inl (hs.1 y hy)⟩
    · rw [if_neg h1, if_neg (by omega)]
      exact ih hs.2 (by omega) (by omega)
theorem range_lt (N : Nat) : (List.range N).Pairwise (· < ·) := List.pairwise_lt_range
theorem linG_rise {N : Nat} {l : List IE} {m : Nat} {o : List Int} {a b : Nat} (hab : a < b) (hb : b < cnt N l m o) : lexLt (o.length + m) (linG N l m o a) (linG N l m o b) := by
  induction m generalizing o a b with
  | zero => simp [cnt] at hb; omega
  | succ m ih =>
    obtain ⟨x, a', y, b', e1, e2, hxy⟩ := pickL_mono (N := N) (l := l) (m := m) (o := o) (range_lt N) hab hb
    obtain ⟨x2, a2, f1, _, g1⟩ := pickL_some (N := N) (l := l) (m := m) (o := o) (xs := List.range N) (k := a) (Nat.lt_trans hab hb)
    obtain ⟨y2, b2, f2, _, g2⟩ := pickL_some (N := N) (l := l) (m := m) (o := o) (xs := List.range N) (k := b) hb
    rw [e1] at f1
    rw [e2] at f2
    injection f1 with f1
    injection f2 with f2
    simp only [Prod.mk.injEq] at f1 f2
    obtain ⟨rfl, rfl⟩ := f1
    obtain ⟨rfl, rfl⟩ := f2
    have t1 := term_free g1
    have t2 := term_free g2
    rw [t1.2] at g1
    rw [t2.2] at g2
    unfold linG
    rw [e1, e2]
    show lexLt _ (linG N l m (o ++ [(x : Int)]) a') (linG N l m (o ++ [(y : Int)]) b')
    rcases hxy with hxy | ⟨rfl, hlt⟩
    · obtain ⟨t, ht⟩ := linG_pre (N := N) (l := l) (m := m) (o := o ++ [(x : Int)]) (k := a')
      obtain ⟨s, hs⟩ := linG_pre (N := N) (l := l) (m := m) (o := o ++ [(y : Int)]) (k := b')
      refine ⟨o.length, by omega, fun i hi => ?_, ?_⟩
      · rw [ht, hs]
        simp [List.getD_eq_getElem?_getD, List.getElem?_append_left hi]
      · rw [ht, hs]
        simp [List.getD_eq_getElem?_getD]
        omega
    · have h := ih (o := o ++ [(x : Int)]) hlt g2
      rw [show o.length + (m + 1) = (o ++ [(x : Int)]).length + m by simp; omega]
      exact h
theorem linG_ok {n : Int} {l : List IE} {N m : Nat} {o : List Int} {k : Nat} (hN : (N : Int) = n) (hk : k < cnt N l m o)
    (ho : ∀ (j : Nat) (hj : j < o.length), (0 ≤ o[j] ∧ o[j] ≤ n - 1) ∧ freeB l (o.take j) o[j] = true) : linOk n l (linG N l m o k) := by
  induction m generalizing o k with
  | zero => exact ho
  | succ m ih =>
    unfold linG
    obtain ⟨x, k', h1, hx, h3⟩ := pickL_some (N := N) (l := l) (m := m) (o := o) (xs := List.range N) (k := k) hk
    rw [h1]
    have h4 := term_free h3
    rw [h4.2] at h3
    refine ih h3 (fun j hj => ?_)
    simp at hj hx
    by_cases e : j < o.length
    · rw [List.getElem_append_left e, List.take_append_of_le_length (by omega)]
      exact ho j e
    · obtain rfl : j = o.length := by omega
      simp
      exact ⟨by omega, h4.1⟩
theorem lex_loop {N : Nat} (n : Int) (l : List IE) (c : Int) (last list : List Int) (i : Nat) (hn : n = (N : Int)) (hN : N ≤ 16) (h1 : last.length = N) (h2 : list.length = N) (hlex : lexLt N last list) (r : Bool)
    (hr : Ev (fun k => laws_FnLinears.l0 k n l c list (wrap64 ((i : Int) + 1))) r) : Ev (fun k => laws_FnLinears.l1 k n l c last (i : Int) list false 0) r := by
  obtain ⟨j, hj, heq, hlt⟩ := hlex
  have key : ∀ (d q : Nat), q + d = j → Ev (fun k => laws_FnLinears.l1 k n l c last (i : Int) list false (q : Int)) r := by
    intro d
    induction d with
    | zero =>
      intro q hq
      obtain rfl : q = j := by omega
      rw [getD_lt _ _ (by omega), getD_lt _ _ (by omega)] at hlt
      refine Ev.step (f := fun k => laws_FnLinears.j4 k n l c last (i : Int) list false (q : Int) true) (fun k => ?_) (Ev.step (fun k => ?_) hr)
      · simp only [laws_FnLinears.l1]
        rw [if_pos (by omega)]
        rfl
      · simp only [laws_FnLinears.j4, if_true]
        rw [if_pos (by omega), if_pos (by omega), if_pos (by omega), rd_lt _ (by omega), rd_lt _ (by omega), if_neg (by omega), if_pos hlt]
    | succ d ih =>
      intro q hq
      have he := heq q (by omega)
      rw [getD_lt _ _ (by omega), getD_lt _ _ (by omega)] at he
      refine Ev.step (f := fun k => laws_FnLinears.j4 k n l c last (i : Int) list false (q : Int) true) (fun k => ?_) (Ev.step (fun k => ?_) (ih (q + 1) (by omega)))
      · simp only [laws_FnLinears.l1]
        rw [if_pos (by omega)]
        rfl
      · simp only [laws_FnLinears.j4, if_true]
        rw [if_pos (by omega), if_pos (by omega), if_pos (by omega), rd_lt _ (by omega), rd_lt _ (by omega), if_pos he, w64 (by omega) (by omega)]
        rfl
  exact key j 0 (by omega)
theorem beyond (n : Int) (l : List IE) : linP n l (linearsP n l) = ([], false) := by
  unfold linP
  rw [if_neg (by omega)]
theorem proof : Pure := by
  intro code hc
  refine Ev.rounds ?_
  unfold laws_FnLinears.f laws_big.f
  simp only [Option.bind_some]
  by_cases hbig : (code.length : Int) > 1048576
  · exact Ev.of_eq fun k => by rw [if_pos (by simpa using hbig)]
  refine Ev.congr (fun k => if_neg (by simpa using hbig)) ?_
  obtain ⟨h0, hnew⟩ := l1New_ev code (by omega)
  obtain ⟨n, es, i1, h1, hsome, n0, n1, hl, hi1⟩ := l14Some_ev code 0 h0 6 (by omega) (by omega) (by omega) (by omega)
  obtain ⟨x, i2, h2, e2, _, _⟩ := l1PickInt_ex code i1 h1 [(-1), 0, 1, 2, 3, 5, 9, 23, 100, 719, 720] (by omega) hi1 (by simp) (by simp)
  have hdraw : Ev (fun k => spec_DrawLinear.f k code) (n, es, x) := by
    unfold spec_DrawLinear.f
    exact Ev.bind hnew (Ev.bind hsome (Ev.of_eq fun k => by simp only [e2, Option.bind_some]))
  refine Ev.bind hdraw (Ev.bind (impl_Linears_ev n es) (Ev.bind (spec_Linears_ev n es) ?_))
  refine Ev.congr (fun k => if_pos rfl) ?_
  have hbey : Ev (fun k => (impl_Linear.f k n es (linearsP n es)).bind fun bt => some (!bt.2)) true := by
    have h := impl_Linear_ev n es (linearsP n es)
    rw [beyond] at h
    exact Ev.bind h (Ev.of_eq fun k => rfl)
  by_cases hneg : linearsP n es < 0
  · refine Ev.congr (fun k => if_pos hneg) (Ev.step (fun k => ?_) hbey)
    simp only [laws_FnLinears.j0, if_true]
  refine Ev.congr (fun k => if_neg hneg) ?_
  by_cases h5 : n > 5
  · rw [decide_eq_true h5]
    refine Ev.step (fun k => ?_) hbey
    simp only [laws_FnLinears.j0, if_true]
  rw [decide_eq_false h5]
  obtain ⟨hg, h8, ecnt⟩ := linearsP_pos (n := n) (l := es) (by omega)
  obtain ⟨hn, hle, _⟩ := (graphOk_iff n es).1 hg
  have hcs := (linearsP_le n es).1
  refine Ev.step (f := fun k => laws_FnLinears.l0 k n es (linearsP n es) [] 0) (fun k => by simp only [laws_FnLinears.j0]; rw [if_neg (by simp)]) ?_
  have ok : ∀ i : Nat, (i : Int) < linearsP n es → linP n es (i : Int) = (linG n.toNat es n.toNat [] i, true) ∧ (linG n.toNat es n.toNat [] i).length = n.toNat ∧ linOk n es (linG n.toNat es n.toNat [] i) := by
    intro i hi
    have hk : i < cnt n.toNat es n.toNat [] := by omega
    refine ⟨?_, by simpa using linG_len hk, linG_ok (by omega) hk (fun j hj => by simp at hj)⟩
    unfold linP
    rw [if_pos (by omega), Int.toNat_natCast]
  have key : ∀ (d i : Nat) (last : List Int), (i : Int) + d = linearsP n es → (0 < i → last = linG n.toNat es n.toNat [] (i - 1)) → Ev (fun k => laws_FnLinears.l0 k n es (linearsP n es) last (i : Int)) true := by
    intro d
    induction d with
    | zero =>
      intro i last hi _
      refine Ev.step (fun k => ?_) hbey
      simp only [laws_FnLinears.l0]
      rw [if_neg (by omega)]
    | succ d ih =>
      intro i last hi hlast
      obtain ⟨e, hlen, hok⟩ := ok i (by omega)
      have hlin := impl_Linear_ev n es (i : Int)
      rw [e] at hlin
      obtain ⟨r1, hr1, hq1⟩ := impl_LinearOk_ev n es (linG n.toNat es n.toNat [] i) (by omega)
      obtain ⟨r2, hr2, hq2⟩ := spec_LinearOk_ev n es (linG n.toNat es n.toNat [] i) (by omega)
      have t1 : r1 = true := hq1.2 ⟨hg, by omega, hok⟩
      have t2 : r2 = true := hq2.2 ⟨hg, by omega, hok⟩
      subst t1 t2
      have hnext := ih (i + 1) (linG n.toNat es n.toNat [] i) (by omega) (fun _ => by simp)
      have hi2 : i ≤ 9223372036854775806 := by omega
      refine Ev.step (f := fun k => (impl_Linear.f k n es (i : Int)).bind fun bt302 => (if bt302.2 = true then ((impl_LinearOk.f k n es bt302.1).bind fun t306 => (if t306 = true then ((spec_LinearOk.f k n es bt302.1).bind fun t307 => (laws_FnLinears.j2 k n es (linearsP n es) last (i : Int) bt302.1 (!t307))) else (laws_FnLinears.j2 k n es (linearsP n es) last (i : Int) bt302.1 true))) else (laws_FnLinears.j2 k n es (linearsP n es) last (i : Int) bt302.1 true))) (fun k => ?_) ?_
      · simp only [laws_FnLinears.l0]
        rw [if_pos (by omega)]
      · refine Ev.bind hlin (Ev.congr (fun k => if_pos rfl) (Ev.bind hr1 (Ev.congr (fun k => if_pos rfl) (Ev.bind hr2 ?_))))
        refine Ev.step (f := fun k => laws_FnLinears.l1 k n es (linearsP n es) last (i : Int) (linG n.toNat es n.toNat [] i) ((i : Int) == 0) 0) (fun k => by simp only [laws_FnLinears.j2]; rw [if_neg (by simp)]) ?_
        by_cases hi0 : i = 0
        · subst hi0
          have fin : ∀ x : Int, Ev (fun k => laws_FnLinears.j4 k n es (linearsP n es) last ((0 : Nat) : Int) (linG n.toNat es n.toNat [] 0) true x false) true := fun x => by
            refine Ev.step (fun k => ?_) hnext
            simp only [laws_FnLinears.j4]
            rw [if_neg (by simp), if_pos trivial, w64_nat _ hi2]
          refine Ev.step (f := fun k => laws_FnLinears.j4 k n es (linearsP n es) last ((0 : Nat) : Int) (linG n.toNat es n.toNat [] 0) true 0 false) (fun k => ?_) (fin 0)
          simp only [laws_FnLinears.l1]
          split <;> rfl
        · obtain ⟨_, hlenp, _⟩ := ok (i - 1) (by omega)
          have hl2 := hlast (by omega)
          have hf : ((i : Int) == 0) = false := by simp; omega
          rw [hf]
          refine lex_loop (N := n.toNat) n es _ last _ i (by omega) (by omega) (by rw [hl2]; exact hlenp) hlen ?_ true (by rw [w64_nat _ hi2]; exact hnext)
          rw [hl2]
          have := linG_rise (N := n.toNat) (l := es) (m := n.toNat) (o := []) (a := i - 1) (b := i) (by omega) (by omega)
          simpa using this
  exact key (linearsP n es).toNat 0 [] (by omega) (by omega)


end Go.Proofs.Ytapbpfbhghheeaa.fnLinears
