/- The law FnExactLinear holds of the program's own functions, told over lists and numbers: for every argument it returns true. Conditions: none beyond the given row's own. -/
import Derived.Test.YtapbpfbhghheeaaSaysFnExactLinear
import Derived.Test.YtapbpfbhghheeaaKit
namespace Go.Proofs.Ytapbpfbhghheeaa.fnExactLinear
open Go.RowKit Go.Proofs.Ytapbpfbhghheeaa.PFnExactLinear Go.Proofs.YtapbpfbhghheeaaW.PrintWords Go.Proofs.YtapbpfbhghheeaaW.PrintLast Go.Proofs.Ytapbpfbhghheeaa.Own
set_option linter.unusedVariables false
set_option linter.unusedSimpArgs false
-- chunk edges: lists of edges are copied, and the same as themselves
abbrev LE := S78
abbrev IE := S60
def toE (x : LE) : IE := ⟨x.f0, x.f1⟩
theorem szEdgeS_eq (l : List LE) (a : Int) : laws_szEdgeS.f l a = some (if wrap64 (a - (l.length : Int)) < 0 then -1 else wrap64 (a - (l.length : Int))) := by
  unfold laws_szEdgeS.f; split <;> rfl
theorem szEdgeS_big {l : List LE} (hl : l.length ≤ maxLen) (h : 1048576 < l.length) : laws_szEdgeS.f l 1048576 = some (-1) := by
  unfold maxLen at hl
  rw [szEdgeS_eq, w64 (by omega) (by omega), if_pos (by omega)]
theorem rd_LE {l : List LE} {i : Nat} (h : i < l.length) : rd_T78 l (i : Int) = l[i] := by
  unfold rd_T78; rw [Int.toNat_natCast]; exact getD_lt l _ h
theorem rd_IE {l : List IE} {i : Nat} (h : i < l.length) : rd_T60 l (i : Int) = l[i] := by
  unfold rd_T60; rw [Int.toNat_natCast]; exact getD_lt l _ h
theorem toEdgeS_ev {l : List LE} (hl : l.length ≤ 17592186044416) : Ev (fun k => laws_toEdgeS.f k l) (l.map toE) := by
  unfold laws_toEdgeS.f
  simp only [Int.natCast_nonneg, if_true, Int.toNat_natCast, if_pos hl]
  refine fill_ev l toE (fun k ys i => laws_toEdgeS.l0 k l ys i) (fun i h ys hy r hr => ?_) (fun ys => ?_) _ (by simp)
  · refine Ev.step (fun k => ?_) hr
    show laws_toEdgeS.l0 (k + 1) l ys i = _
    simp only [laws_toEdgeS.l0]
    rw [if_pos (by omega), if_pos (by omega), rd_LE h]
    unfold laws_toEdge.f
    simp only [Option.bind_some]
    rw [if_pos (by omega), w64_succ h (by omega), Int.toNat_natCast]
    rfl
  · refine Ev.succ (fun k => ?_)
    simp only [laws_toEdgeS.l0]
    rw [if_neg (by omega)]
theorem eqEdgeS_refl {l : List IE} (hl : l.length ≤ 17592186044416) : Ev (fun k => laws_eqEdgeS.f k l l) true := by
  unfold laws_eqEdgeS.f
  simp only [if_true]
  refine down_ev (fun k i => laws_eqEdgeS.l0 k l l i) l.length true (fun i h hr => ?_) ?_ 0 (by omega)
  · refine Ev.step (fun k => ?_) hr
    simp only [laws_eqEdgeS.l0]
    rw [if_pos (by omega), if_pos (by omega), if_pos (by omega)]
    unfold laws_eqEdge.f
    simp only [if_true, Option.bind_some]
    rw [w64_succ h (by omega)]
  · refine Ev.succ (fun k => ?_)
    simp only [laws_eqEdgeS.l0]
    rw [if_neg (by omega)]

-- chunk graph: what GraphOk answers, of the program and of the reference
def edgeIn (n : Int) (e : IE) : Bool := decide (0 ≤ e.f0 ∧ e.f0 ≤ n - 1) && decide (0 ≤ e.f1 ∧ e.f1 ≤ n - 1)
def graphOk (n : Int) (l : List IE) : Bool := decide (0 ≤ n ∧ n ≤ 16) && decide (l.length ≤ 200) && l.all (edgeIn n)
theorem within_eq (a b c : Int) : impl_within.f a b c = some (decide (b ≤ a ∧ a ≤ c)) := by
  unfold impl_within.f
  split <;> simp [*]
theorem l1In_eq (a b c : Int) : spec_l1In.f a b c = some (decide (b ≤ a ∧ a ≤ c)) := by
  unfold spec_l1In.f
  split <;> simp [*]
theorem impl_GraphOk_ev (n : Int) (l : List IE) : Ev (fun k => impl_GraphOk.f k n l) (graphOk n l) := by
  unfold impl_GraphOk.f graphOk
  refine Ev.bindc (within_eq _ _ _) ?_
  by_cases hn : 0 ≤ n ∧ n ≤ 16
  · simp only [hn, decide_true, if_true, and_self, Bool.true_and]
    by_cases hl : l.length ≤ 200
    · refine Ev.step (f := fun k => impl_GraphOk.l0 k n l (l.length : Int) 0) (fun k => ?_) ?_
      · simp only [impl_GraphOk.j0]
        rw [if_neg (by simp; omega)]
      · have hw : wrap64 (n - 1) = n - 1 := w64 (by omega) (by omega)
        have h0 : l.all (edgeIn n) = (l.drop 0).all (edgeIn n) := rfl
        rw [decide_eq_true hl, Bool.true_and, h0]
        refine all_ev l (edgeIn n) (fun k i => impl_GraphOk.l0 k n l (l.length : Int) i) (fun i h hp r hr => ?_) (fun i h hp => ?_) ?_ 0 (by omega)
        · refine Ev.step (fun k => ?_) hr
          simp only [impl_GraphOk.l0]
          rw [if_pos (by omega), if_pos (by omega), if_pos (by omega), rd_IE h, within_eq, within_eq, hw]
          simp only [edgeIn, Bool.and_eq_true] at hp
          simp only [Option.bind_some, hp.1, hp.2, if_true]
          rw [w64_succ h (by omega)]
        · refine Ev.succ (fun k => ?_)
          simp only [impl_GraphOk.l0]
          rw [if_pos (by omega), if_pos (by omega), if_pos (by omega), rd_IE h, within_eq, within_eq, hw]
          simp only [edgeIn, Bool.and_eq_false_iff] at hp
          simp only [Option.bind_some]
          rcases hp with hp | hp
          · rw [hp]; rfl
          · rw [hp]; split <;> rfl
        · refine Ev.succ (fun k => ?_)
          simp only [impl_GraphOk.l0]
          rw [if_neg (by omega)]
    · rw [decide_eq_false hl, Bool.false_and]
      refine Ev.succ (fun k => ?_)
      simp only [impl_GraphOk.j0]
      rw [if_pos (by simp; omega)]
  · simp only [decide_eq_false hn, Bool.false_and]
    refine Ev.succ (fun k => ?_)
    rw [if_neg (by simp)]
    simp only [impl_GraphOk.j0, if_true]
theorem spec_GraphOk_ev (n : Int) (l : List IE) : Ev (fun k => spec_GraphOk.f k n l) (graphOk n l) := by
  unfold spec_GraphOk.f graphOk
  refine Ev.bindc (l1In_eq _ _ _) ?_
  by_cases hn : 0 ≤ n ∧ n ≤ 16
  · simp only [hn, decide_true, if_true, and_self, Bool.true_and]
    by_cases hl : l.length ≤ 200
    · refine Ev.step (f := fun k => spec_GraphOk.l0 k n l 0) (fun k => ?_) ?_
      · simp only [spec_GraphOk.j0]
        rw [if_neg (by simp; omega)]
      · have hw : wrap64 (n - 1) = n - 1 := w64 (by omega) (by omega)
        have h0 : l.all (edgeIn n) = (l.drop 0).all (edgeIn n) := rfl
        rw [decide_eq_true hl, Bool.true_and, h0]
        refine all_ev l (edgeIn n) (fun k i => spec_GraphOk.l0 k n l i) (fun i h hp r hr => ?_) (fun i h hp => ?_) ?_ 0 (by omega)
        · refine Ev.step (fun k => ?_) hr
          simp only [spec_GraphOk.l0]
          rw [if_pos (by omega), if_pos (by omega), rd_IE h, l1In_eq, l1In_eq, hw]
          simp only [edgeIn, Bool.and_eq_true] at hp
          simp only [Option.bind_some, hp.1, hp.2, if_true]
          rw [w64_succ h (by omega)]
        · refine Ev.succ (fun k => ?_)
          simp only [spec_GraphOk.l0]
          rw [if_pos (by omega), if_pos (by omega), rd_IE h, l1In_eq, l1In_eq, hw]
          simp only [edgeIn, Bool.and_eq_false_iff] at hp
          simp only [Option.bind_some]
          rcases hp with hp | hp
          · rw [hp]; rfl
          · rw [hp]; split <;> rfl
        · refine Ev.succ (fun k => ?_)
          simp only [spec_GraphOk.l0]
          rw [if_neg (by omega)]
    · rw [decide_eq_false hl, Bool.false_and]
      refine Ev.succ (fun k => ?_)
      simp only [spec_GraphOk.j0]
      rw [if_pos (by simp; omega)]
  · simp only [decide_eq_false hn, Bool.false_and]
    refine Ev.succ (fun k => ?_)
    rw [if_neg (by simp)]
    simp only [spec_GraphOk.j0, if_true]

-- chunk contains: slices.Index and slices.Contains of numbers
theorem index_ev {l : List Int} (x : Int) (hl : l.length ≤ 9223372036854775807) : Ev (fun k => slices_Index_int_int.f k l x) (if x ∈ l then (l.idxOf x : Int) else -1) := by
  unfold slices_Index_int_int.f
  have key : ∀ (d i : Nat), i + d = l.length → Ev (fun k => slices_Index_int_int.l0 k l x (l.length : Int) (i : Int)) (if x ∈ l.drop i then ((i + (l.drop i).idxOf x : Nat) : Int) else -1) := by
    intro d
    induction d with
    | zero =>
      intro i hi
      obtain rfl : i = l.length := by omega
      refine Ev.succ (fun k => ?_)
      simp only [slices_Index_int_int.l0]
      rw [if_neg (by omega)]
      simp
    | succ d ih =>
      intro i hi
      have h : i < l.length := by omega
      have hr := ih (i + 1) (by omega)
      rw [List.drop_eq_getElem_cons h]
      by_cases e : x = l[i]
      · refine Ev.succ (fun k => ?_)
        simp only [slices_Index_int_int.l0]
        rw [if_pos (by omega), if_pos (by omega), if_pos (by omega), rd_lt _ h, if_pos e]
        rw [if_pos (List.mem_cons.2 (Or.inl e)), List.idxOf_cons]
        simp only [e, beq_self_eq_true, cond_true, Nat.add_zero]
      · refine Ev.step (f := fun k => slices_Index_int_int.l0 k l x (l.length : Int) ((i + 1 : Nat) : Int)) (fun k => ?_) ?_
        · simp only [slices_Index_int_int.l0]
          rw [if_pos (by omega), if_pos (by omega), if_pos (by omega), rd_lt _ h, if_neg e, w64_succ h hl]
        · have : (if x ∈ l[i] :: l.drop (i + 1) then ((i + (l[i] :: l.drop (i + 1)).idxOf x : Nat) : Int) else -1) = (if x ∈ l.drop (i + 1) then (((i + 1) + (l.drop (i + 1)).idxOf x : Nat) : Int) else -1) := by
            rw [List.idxOf_cons]
            have hb : (l[i] == x) = false := by simpa using fun h => e h.symm
            simp only [List.mem_cons, e, false_or, hb]
            split
            · simp; omega
            · rfl
          rw [this]
          exact hr
  have h := key l.length 0 (by omega)
  simpa using h
theorem contains_ev {l : List Int} (x : Int) (hl : l.length ≤ 9223372036854775807) : Ev (fun k => slices_Contains_int_int.f k l x) (decide (x ∈ l)) := by
  unfold slices_Contains_int_int.f
  refine Ev.bind (index_ev x hl) (Ev.of_eq fun k => ?_)
  by_cases h : x ∈ l
  · rw [if_pos h, decide_eq_true h, decide_eq_true (by omega)]
  · rw [if_neg h, decide_eq_false h, decide_eq_false (by omega)]

-- chunk free: which number may come next
def edgeFree (d : List Int) (x : Int) (e : IE) : Bool := decide (e.f1 = x → e.f0 ∈ d)
def freeB (l : List IE) (d : List Int) (x : Int) : Bool := decide (x ∉ d) && l.all (edgeFree d x)
theorem freeB_iff (l : List IE) (d : List Int) (x : Int) : freeB l d x = true ↔ x ∉ d ∧ ∀ e ∈ l, e.f1 = x → e.f0 ∈ d := by
  unfold freeB edgeFree
  simp [Decidable.imp_iff_not_or]
theorem impl_free_ev {l : List IE} {d : List Int} (x : Int) (hl : l.length ≤ 9223372036854775807) (hd : d.length ≤ 9223372036854775807) : Ev (fun k => impl_free.f k l d x) (freeB l d x) := by
  unfold impl_free.f
  refine Ev.bind (contains_ev x hd) ?_
  by_cases hx : x ∈ d
  · rw [show freeB l d x = false by simp [freeB, hx]]
    exact Ev.of_eq fun k => by simp [hx]
  · have hf : freeB l d x = (l.drop 0).all (edgeFree d x) := by simp [freeB, hx]
    rw [hf]
    refine Ev.congr (fun k => if_neg (by simp [hx])) ?_
    refine all_ev l (edgeFree d x) (fun k i => impl_free.l0 k d x l (l.length : Int) i) (fun i h hp r hr => ?_) (fun i h hp => ?_) ?_ 0 (by omega)
    · by_cases e : l[i].f1 = x
      · refine Ev.step (f := fun k => (slices_Contains_int_int.f k d l[i].f0).bind fun t => if t = true then impl_free.l0 k d x l (l.length : Int) ((i + 1 : Nat) : Int) else some false) (fun k => ?_) ?_
        · simp only [impl_free.l0]
          rw [if_pos (by omega), if_pos (by omega), if_pos (by omega), rd_IE h, if_pos e, w64_succ h hl]
        · refine Ev.bind (contains_ev _ hd) ?_
          have : l[i].f0 ∈ d := by simpa [edgeFree, e] using hp
          simp only [this, decide_true, if_true]
          exact hr
      · refine Ev.step (fun k => ?_) hr
        simp only [impl_free.l0]
        rw [if_pos (by omega), if_pos (by omega), if_pos (by omega), rd_IE h, if_neg e, w64_succ h hl]
    · have e : l[i].f1 = x := by
        apply Classical.byContradiction
        intro hn
        simp [edgeFree, hn] at hp
      have hn : l[i].f0 ∉ d := by simpa [edgeFree, e] using hp
      refine Ev.step (f := fun k => (slices_Contains_int_int.f k d l[i].f0).bind fun t => if t = true then impl_free.l0 k d x l (l.length : Int) ((i + 1 : Nat) : Int) else some false) (fun k => ?_) ?_
      · simp only [impl_free.l0]
        rw [if_pos (by omega), if_pos (by omega), if_pos (by omega), rd_IE h, if_pos e, w64_succ h hl]
      · refine Ev.bind (contains_ev _ hd) ?_
        simp only [hn, decide_false]
        exact Ev.of_eq fun k => rfl
    · refine Ev.succ (fun k => ?_)
      simp only [impl_free.l0]
      rw [if_neg (by omega)]
theorem graphOk_iff (n : Int) (l : List IE) : graphOk n l = true ↔ (0 ≤ n ∧ n ≤ 16) ∧ l.length ≤ 200 ∧ ∀ e ∈ l, (0 ≤ e.f0 ∧ e.f0 ≤ n - 1) ∧ (0 ≤ e.f1 ∧ e.f1 ≤ n - 1) := by
  unfold graphOk edgeIn
  simp [and_assoc]

-- chunk canon: the canonical order
def nextOf (N : Nat) (l : List IE) (o : List Int) : Option Nat := least (fun x => freeB l o (x : Int)) N
/-- m more numbers behind o. -/
def canonG (N : Nat) (l : List IE) : Nat → List Int → Option (List Int)
  | 0, o => some o
  | m + 1, o => match nextOf N l o with
    | some x => canonG N l m (o ++ [(x : Int)])
    | none => none
def canonP (n : Int) (l : List IE) : Option (List Int) := canonG n.toNat l n.toNat []
def pairOf : Option (List Int) → List Int × Bool
  | some o => (o, true)
  | none => ([], false)
/-- The reference's flags of a list of numbers. -/
def flags (N : Nat) (o : List Int) : List Bool := (List.range N).map fun x : Nat => decide ((x : Int) ∈ o)
theorem flags_len (N : Nat) (o : List Int) : (flags N o).length = N := by simp [flags]
theorem rd_flags {N : Nat} {o : List Int} {x : Int} (h0 : 0 ≤ x) (h1 : x < (N : Int)) : rdOf false (flags N o) x = decide (x ∈ o) := by
  obtain ⟨y, rfl⟩ : ∃ y : Nat, x = (y : Int) := ⟨x.toNat, by omega⟩
  rw [rdOf_lt _ _ (by rw [flags_len]; omega)]
  simp [flags]
theorem flags_set {N : Nat} {o : List Int} {x : Nat} (h : x < N) : (flags N o).set x true = flags N (o ++ [(x : Int)]) := by
  apply List.ext_getElem
  · simp [flags]
  · intro j h1 h2
    simp [flags, List.getElem_set] at h1 h2 ⊢
    by_cases e : x = j
    · simp [e]
    · have : (j : Int) ≠ (x : Int) := by omega
      simp [e, this]
theorem l14Ready_ev {N : Nat} {l : List IE} {o : List Int} {x : Int} (h0 : 0 ≤ x) (h1 : x < (N : Int)) (hl : l.length ≤ 9223372036854775807) (he : ∀ e ∈ l, 0 ≤ e.f0 ∧ e.f0 < (N : Int)) :
    Ev (fun k => spec_l14Ready.f k l (flags N o) x) (freeB l o x) := by
  unfold spec_l14Ready.f
  refine Ev.congr (fun k => if_pos h0) (Ev.congr (fun k => if_pos (by rw [flags_len]; exact h1)) ?_)
  rw [rd_flags h0 h1]
  by_cases hx : x ∈ o
  · rw [show freeB l o x = false by simp [freeB, hx]]
    exact Ev.of_eq fun k => by simp [hx]
  · have hf : freeB l o x = (l.drop 0).all (edgeFree o x) := by simp [freeB, hx]
    rw [hf]
    refine Ev.congr (fun k => if_neg (by simp [hx])) ?_
    refine all_ev l (edgeFree o x) (fun k i => spec_l14Ready.l0 k l (flags N o) x i) (fun i h hp r hr => ?_) (fun i h hp => ?_) ?_ 0 (by omega)
    · have h2 := he l[i] (List.getElem_mem h)
      refine Ev.step (fun k => ?_) hr
      simp only [spec_l14Ready.l0]
      rw [if_pos (by omega), if_pos (by omega), rd_IE h, flags_len, w64_succ h hl]
      by_cases e : l[i].f1 = x
      · have : l[i].f0 ∈ o := by simpa [edgeFree, e] using hp
        rw [if_pos e, if_pos h2.1, if_pos h2.2, rd_flags h2.1 h2.2, if_pos (by simpa using this)]
      · rw [if_neg e]
    · have h2 := he l[i] (List.getElem_mem h)
      have e : l[i].f1 = x := by
        apply Classical.byContradiction
        intro hn
        simp [edgeFree, hn] at hp
      have hn : l[i].f0 ∉ o := by simpa [edgeFree, e] using hp
      refine Ev.succ (fun k => ?_)
      simp only [spec_l14Ready.l0]
      rw [if_pos (by omega), if_pos (by omega), rd_IE h, flags_len, if_pos e, if_pos h2.1, if_pos h2.2, rd_flags h2.1 h2.2, if_neg (by simpa using hn)]
    · refine Ev.succ (fun k => ?_)
      simp only [spec_l14Ready.l0]
      rw [if_neg (by omega)]
def cnt (N : Nat) (l : List IE) : Nat → List Int → Nat
  | 0, _ => 1
  | m + 1, o => ((List.range N).map fun x : Nat => if freeB l o (x : Int) then cnt N l m (o ++ [(x : Int)]) else 0).sum
def cntTerm (N : Nat) (l : List IE) (m : Nat) (o : List Int) (x : Nat) : Nat := if freeB l o (x : Int) then cnt N l m (o ++ [(x : Int)]) else 0
def cntFrom (N : Nat) (l : List IE) (m : Nat) (o : List Int) (i : Nat) : Nat := (((List.range N).drop i).map (cntTerm N l m o)).sum
theorem cnt_succ (N : Nat) (l : List IE) (m : Nat) (o : List Int) : cnt N l (m + 1) o = cntFrom N l m o 0 := rfl
theorem cntFrom_end (N : Nat) (l : List IE) (m : Nat) (o : List Int) : cntFrom N l m o N = 0 := by
  unfold cntFrom
  rw [List.drop_of_length_le (by simp)]
  rfl
theorem cntFrom_step {N : Nat} (l : List IE) (m : Nat) (o : List Int) {i : Nat} (h : i < N) : cntFrom N l m o i = cntTerm N l m o i + cntFrom N l m o (i + 1) := by
  unfold cntFrom
  rw [List.drop_eq_getElem_cons (by simpa using h), List.getElem_range, List.map_cons, List.sum_cons]
theorem sum_le {xs : List Nat} {b : Nat} (h : ∀ x ∈ xs, x ≤ b) : xs.sum ≤ xs.length * b := by
  induction xs with
  | nil => simp
  | cons a xs ih =>
    have h1 := h a (by simp)
    have h2 := ih (fun x hx => h x (by simp [hx]))
    rw [List.sum_cons, List.length_cons, Nat.add_mul, Nat.one_mul]
    omega
theorem cnt_le (N : Nat) (l : List IE) (m : Nat) (o : List Int) : cnt N l m o ≤ N ^ m := by
  induction m generalizing o with
  | zero => simp [cnt]
  | succ m ih =>
    unfold cnt
    refine Nat.le_trans (sum_le (b := N ^ m) fun x hx => ?_) (by simp [Nat.pow_succ, Nat.mul_comm])
    obtain ⟨y, _, rfl⟩ := List.mem_map.1 hx
    split
    · exact ih _
    · exact Nat.zero_le _
theorem cnt_small {N : Nat} (hN : N ≤ 8) (l : List IE) {m : Nat} (hm : m ≤ 8) (o : List Int) : cnt N l m o ≤ 16777216 := by
  refine Nat.le_trans (cnt_le N l m o) ?_
  refine Nat.le_trans (Nat.pow_le_pow_left hN m) ?_
  exact Nat.le_trans (Nat.pow_le_pow_right (by omega) hm) (by decide)
theorem cntTerm_small {N : Nat} (hN : N ≤ 8) (l : List IE) {m : Nat} (hm : m ≤ 8) (o : List Int) (x : Nat) : cntTerm N l m o x ≤ 16777216 := by
  unfold cntTerm
  split
  · exact cnt_small hN l hm _
  · omega
theorem cntFrom_small {N : Nat} (hN : N ≤ 8) (l : List IE) {m : Nat} (hm : m ≤ 8) (o : List Int) (i : Nat) : cntFrom N l m o i ≤ 134217728 := by
  unfold cntFrom
  refine Nat.le_trans (sum_le (b := 16777216) fun x hx => ?_) ?_
  · obtain ⟨y, _, rfl⟩ := List.mem_map.1 hx
    exact cntTerm_small hN l hm o y
  · simp
    omega
theorem impl_linears_ev {N : Nat} (hN : N ≤ 8) (l : List IE) (hl : l.length ≤ 200) : ∀ (m : Nat) (o : List Int), o.length + m = N → Ev (fun k => impl_linears.f k (N : Int) l o) (cnt N l m o : Int) := by
  intro m
  induction m with
  | zero =>
    intro o ho
    refine Ev.succ (fun k => ?_)
    simp only [impl_linears.f]
    rw [if_pos (by omega)]
    rfl
  | succ m ih =>
    intro o ho
    refine Ev.step (f := fun k => impl_linears.l0 k (N : Int) l o 0 (N : Int) 0) (fun k => ?_) ?_
    · simp only [impl_linears.f]
      rw [if_neg (by omega)]
    · have key : ∀ (d i s : Nat), i + d = N → s + cntFrom N l m o i ≤ 134217728 → Ev (fun k => impl_linears.l0 k (N : Int) l o (s : Int) (N : Int) (i : Int)) ((s + cntFrom N l m o i : Nat) : Int) := by
        intro d
        induction d with
        | zero =>
          intro i s hi hs
          obtain rfl : i = N := by omega
          rw [cntFrom_end]
          refine Ev.succ (fun k => ?_)
          simp only [impl_linears.l0]
          rw [if_neg (by omega)]
          rfl
        | succ d ihd =>
          intro i s hi hs
          rw [cntFrom_step l m o (by omega)] at hs ⊢
          have hr := ihd (i + 1) (s + cntTerm N l m o i) (by omega) (by omega)
          rw [show s + (cntTerm N l m o i + cntFrom N l m o (i + 1)) = s + cntTerm N l m o i + cntFrom N l m o (i + 1) by omega]
          refine Ev.step (f := fun k => (impl_free.f k l o (i : Int)).bind fun t => if t = true then ((impl_copyInts.f o).bind fun t1 => if t1.length < 17592186044416 then ((impl_linears.f k (N : Int) l (t1 ++ [(i : Int)])).bind fun t2 => impl_linears.l0 k (N : Int) l o (wrap64 ((s : Int) + t2)) (N : Int) ((i + 1 : Nat) : Int)) else none) else impl_linears.l0 k (N : Int) l o (s : Int) (N : Int) ((i + 1 : Nat) : Int)) (fun k => ?_) ?_
          · simp only [impl_linears.l0]
            rw [if_pos (by omega), w64_succ (n := N) (by omega) (by omega)]
          · refine Ev.bind (impl_free_ev (i : Int) (by omega) (by omega)) ?_
            cases hf : freeB l o (i : Int) with
            | false =>
              have e : cntTerm N l m o i = 0 := by simp [cntTerm, hf]
              rw [e] at hr ⊢
              exact Ev.congr (fun k => if_neg (by simp)) hr
            | true =>
              have e : cntTerm N l m o i = cnt N l m (o ++ [(i : Int)]) := by simp [cntTerm, hf]
              have hb := cntTerm_small hN l (m := m) (by omega) o i
              rw [e] at hr hs hb ⊢
              refine Ev.congr (fun k => if_pos rfl) ?_
              unfold impl_copyInts.f
              rw [if_pos (by omega)]
              simp only [Option.bind_some]
              refine Ev.congr (fun k => if_pos (by omega)) ?_
              refine Ev.bind (ih (o ++ [(i : Int)]) (by simp; omega)) ?_
              rw [w64 (by omega) (by omega), ← Int.natCast_add]
              exact hr
      have h := key N 0 0 (by omega) (by have := cntFrom_small hN l (m := m) (by omega) o 0; omega)
      rw [Nat.zero_add] at h
      exact h
theorem flags_unset {N : Nat} {o : List Int} {x : Nat} (h : (x : Int) ∉ o) : (flags N (o ++ [(x : Int)])).set x false = flags N o := by
  apply List.ext_getElem
  · simp [flags]
  · intro j h1 h2
    simp [flags, List.getElem_set] at h1 h2 ⊢
    by_cases e : x = j
    · subst e; simp [h]
    · have : (j : Int) ≠ (x : Int) := by omega
      simp [e, this]
theorem l14Count_ev {N : Nat} (hN : N ≤ 8) (l : List IE) (hl : l.length ≤ 200) (he : ∀ e ∈ l, 0 ≤ e.f0 ∧ e.f0 < (N : Int)) : ∀ (m : Nat) (o : List Int), o.length + m = N →
    Ev (fun k => spec_l14Count.f k (N : Int) l (flags N o) (m : Int)) ((cnt N l m o : Int), flags N o) := by
  intro m
  induction m with
  | zero =>
    intro o ho
    refine Ev.succ (fun k => ?_)
    simp only [spec_l14Count.f]
    rw [if_pos (by omega)]
    rfl
  | succ m ih =>
    intro o ho
    refine Ev.step (f := fun k => spec_l14Count.l0 k (N : Int) l (flags N o) ((m + 1 : Nat) : Int) 0 0) (fun k => ?_) ?_
    · simp only [spec_l14Count.f]
      rw [if_neg (by omega)]
    · have key : ∀ (d i s : Nat), i + d = N → s + cntFrom N l m o i ≤ 134217728 → Ev (fun k => spec_l14Count.l0 k (N : Int) l (flags N o) ((m + 1 : Nat) : Int) (s : Int) (i : Int)) (((s + cntFrom N l m o i : Nat) : Int), flags N o) := by
        intro d
        induction d with
        | zero =>
          intro i s hi hs
          obtain rfl : i = N := by omega
          rw [cntFrom_end]
          refine Ev.succ (fun k => ?_)
          simp only [spec_l14Count.l0]
          rw [if_neg (by omega)]
          rfl
        | succ d ihd =>
          intro i s hi hs
          rw [cntFrom_step l m o (by omega)] at hs ⊢
          have hr := ihd (i + 1) (s + cntTerm N l m o i) (by omega) (by omega)
          rw [show s + (cntTerm N l m o i + cntFrom N l m o (i + 1)) = s + cntTerm N l m o i + cntFrom N l m o (i + 1) by omega]
          refine Ev.step (f := fun k => (spec_l14Ready.f k l (flags N o) (i : Int)).bind fun t => if t = true then (if 0 ≤ (i : Int) then (if (i : Int) < ((flags N o).length : Int) then ((spec_l14Count.f k (N : Int) l ((flags N o).set (i : Int).toNat true) (wrap64 (((m + 1 : Nat) : Int) - 1))).bind fun t2 => spec_l14Count.l0 k (N : Int) l (t2.2.set (i : Int).toNat false) ((m + 1 : Nat) : Int) (wrap64 ((s : Int) + t2.1)) ((i + 1 : Nat) : Int)) else none) else none) else spec_l14Count.l0 k (N : Int) l (flags N o) ((m + 1 : Nat) : Int) (s : Int) ((i + 1 : Nat) : Int)) (fun k => ?_) ?_
          · simp only [spec_l14Count.l0]
            rw [if_pos (by omega), w64_succ (n := N) (by omega) (by omega)]
          · refine Ev.bind (l14Ready_ev (by omega) (by omega) (by omega) he) ?_
            cases hf : freeB l o (i : Int) with
            | false =>
              have e : cntTerm N l m o i = 0 := by simp [cntTerm, hf]
              rw [e] at hr ⊢
              exact Ev.congr (fun k => if_neg (by simp)) hr
            | true =>
              have e : cntTerm N l m o i = cnt N l m (o ++ [(i : Int)]) := by simp [cntTerm, hf]
              have hb := cntTerm_small hN l (m := m) (by omega) o i
              have hni := ((freeB_iff _ _ _).1 hf).1
              rw [e] at hr hs hb ⊢
              refine Ev.congr (fun k => if_pos rfl) (Ev.congr (fun k => if_pos (by omega)) (Ev.congr (fun k => if_pos (by rw [flags_len]; omega)) ?_))
              rw [Int.toNat_natCast, flags_set (by omega), w64 (x := ((m + 1 : Nat) : Int) - 1) (by omega) (by omega), show (((m + 1 : Nat) : Int) - 1) = (m : Int) by omega]
              refine Ev.bind (ih (o ++ [(i : Int)]) (by simp; omega)) ?_
              simp only [flags_unset hni]
              rw [w64 (by omega) (by omega), ← Int.natCast_add]
              exact hr
      have h := key N 0 0 (by omega) (by have := cntFrom_small hN l (m := m) (by omega) o 0; omega)
      rw [Nat.zero_add] at h
      exact h
def linearsP (n : Int) (l : List IE) : Int := if graphOk n l = true ∧ n ≤ 8 then (cnt n.toNat l n.toNat [] : Int) else -1
theorem impl_Linears_ev (n : Int) (l : List IE) : Ev (fun k => impl_Linears.f k n l) (linearsP n l) := by
  unfold impl_Linears.f linearsP
  refine Ev.bind (impl_GraphOk_ev n l) ?_
  cases hg : graphOk n l with
  | false => exact Ev.of_eq fun k => by simp
  | true =>
    obtain ⟨hn, hl, he⟩ := (graphOk_iff n l).1 hg
    refine Ev.congr (fun k => if_pos rfl) ?_
    by_cases h8 : n ≤ 8
    · refine Ev.congr (fun k => if_neg (by omega)) ?_
      rw [if_pos ⟨rfl, h8⟩]
      have h := impl_linears_ev (N := n.toNat) (by omega) l hl n.toNat [] (by simp)
      rw [Int.toNat_of_nonneg hn.1] at h
      exact Ev.bind h (Ev.of_eq fun k => rfl)
    · rw [if_neg (by simp [h8])]
      exact Ev.of_eq fun k => if_pos (by omega)
theorem flags_nil (N : Nat) : List.replicate N false = flags N [] := by
  apply List.ext_getElem
  · simp [flags]
  · intro j h1 h2; simp [flags]
theorem spec_Linears_ev (n : Int) (l : List IE) : Ev (fun k => spec_Linears.f k n l) (linearsP n l) := by
  unfold spec_Linears.f linearsP
  refine Ev.bind (spec_GraphOk_ev n l) ?_
  cases hg : graphOk n l with
  | false => exact Ev.of_eq fun k => by simp
  | true =>
    obtain ⟨hn, hl, he⟩ := (graphOk_iff n l).1 hg
    refine Ev.congr (fun k => if_pos rfl) ?_
    by_cases h8 : n ≤ 8
    · have hn0 := hn.1
      refine Ev.congr (fun k => if_neg (by omega)) (Ev.congr (fun k => if_pos hn0) (Ev.congr (fun k => if_pos (by omega)) ?_))
      rw [if_pos ⟨rfl, h8⟩]
      have h := l14Count_ev (N := n.toNat) (by omega) l hl (fun e hel => ⟨(he e hel).1.1, by have := (he e hel).1.2; omega⟩) n.toNat [] (by simp)
      rw [Int.toNat_of_nonneg hn0] at h
      rw [flags_nil]
      exact Ev.bind h (Ev.of_eq fun k => rfl)
    · rw [if_neg (by simp [h8])]
      exact Ev.of_eq fun k => if_pos (by omega)

-- chunk linear: the order with a number
def pickL (N : Nat) (l : List IE) (m : Nat) (o : List Int) : List Nat → Nat → Option (Nat × Nat)
  | [], _ => none
  | x :: xs, k => if k < cntTerm N l m o x then some (x, k) else pickL N l m o xs (k - cntTerm N l m o x)
theorem pickL_some {N : Nat} {l : List IE} {m : Nat} {o : List Int} {xs : List Nat} {k : Nat} (h : k < (xs.map (cntTerm N l m o)).sum) :
    ∃ x k', pickL N l m o xs k = some (x, k') ∧ x ∈ xs ∧ k' < cntTerm N l m o x := by
  induction xs generalizing k with
  | nil => simp at h
  | cons a xs ih =>
    unfold pickL
    by_cases hk : k < cntTerm N l m o a
    · exact ⟨a, k, by rw [if_pos hk], by simp, hk⟩
    · rw [List.map_cons, List.sum_cons] at h
      obtain ⟨x, k', h1, h2, h3⟩ := ih (k := k - cntTerm N l m o a) (by omega)
      exact ⟨x, k', by rw [if_neg hk]; exact h1, by simp [h2], h3⟩
theorem term_free {N : Nat} {l : List IE} {m : Nat} {o : List Int} {x k : Nat} (h : k < cntTerm N l m o x) : freeB l o (x : Int) = true ∧ cntTerm N l m o x = cnt N l m (o ++ [(x : Int)]) := by
  unfold cntTerm at h ⊢
  split at h
  · rename_i hf; exact ⟨hf, by rw [if_pos hf]⟩
  · omega
def linG (N : Nat) (l : List IE) : Nat → List Int → Nat → List Int
  | 0, o, _ => o
  | m + 1, o, k => match pickL N l m o (List.range N) k with
    | some (x, k') => linG N l m (o ++ [(x : Int)]) k'
    | none => o
def linP (n : Int) (l : List IE) (k : Int) : List Int × Bool := if 0 ≤ k ∧ k ≤ linearsP n l - 1 then (linG n.toNat l n.toNat [] k.toNat, true) else ([], false)
theorem linearsP_le (n : Int) (l : List IE) : linearsP n l ≤ 16777216 ∧ -1 ≤ linearsP n l := by
  unfold linearsP
  split
  · rename_i h
    have := cnt_small (N := n.toNat) (by omega) l (m := n.toNat) (by omega) []
    omega
  · omega
theorem linearsP_pos {n : Int} {l : List IE} (h : 0 ≤ linearsP n l) : graphOk n l = true ∧ n ≤ 8 ∧ linearsP n l = (cnt n.toNat l n.toNat [] : Int) := by
  unfold linearsP at h ⊢
  split at h
  · rename_i hg; exact ⟨hg.1, hg.2, by rw [if_pos hg]⟩
  · omega
theorem impl_Linear_l0_ev {N : Nat} (hN : N ≤ 8) (l : List IE) (hl : l.length ≤ 200) : ∀ (m : Nat) (o : List Int) (k0 : Nat), o.length + m = N → k0 < cnt N l m o →
    Ev (fun k => impl_Linear.l0 k (N : Int) l (k0 : Int) o) (linG N l m o k0, true) := by
  intro m
  induction m with
  | zero =>
    intro o k0 ho hk
    refine Ev.succ (fun k => ?_)
    simp only [impl_Linear.l0]
    rw [if_neg (by omega)]
    rfl
  | succ m ih =>
    intro o k0 ho hk
    refine Ev.step (f := fun k => impl_Linear.l1 k (N : Int) l (k0 : Int) o (N : Int) 0) (fun k => ?_) ?_
    · simp only [impl_Linear.l0]
      rw [if_pos (by omega)]
    · have key : ∀ (d i q : Nat), i + d = N → q < cntFrom N l m o i → Ev (fun k => impl_Linear.l1 k (N : Int) l (q : Int) o (N : Int) (i : Int)) (match pickL N l m o ((List.range N).drop i) q with
          | some (x, k') => (linG N l m (o ++ [(x : Int)]) k', true)
          | none => ([], false)) := by
        intro d
        induction d with
        | zero =>
          intro i q hi hq
          obtain rfl : i = N := by omega
          rw [cntFrom_end] at hq
          omega
        | succ d ihd =>
          intro i q hi hq
          have hs := cntFrom_small hN l (m := m) (by omega) o i
          rw [cntFrom_step l m o (by omega)] at hq hs
          rw [List.drop_eq_getElem_cons (by simp; omega), List.getElem_range]
          unfold pickL
          refine Ev.step (f := fun k => (impl_free.f k l o (i : Int)).bind fun t => if t = true then ((impl_copyInts.f o).bind fun t1 => if t1.length < 17592186044416 then ((some (t1 ++ [(i : Int)] : List Int)).bind fun y => (impl_linears.f k (N : Int) l y).bind fun t2 => if (q : Int) < t2 then impl_Linear.l0 k (N : Int) l (q : Int) y else impl_Linear.l1 k (N : Int) l (wrap64 ((q : Int) - t2)) o (N : Int) ((i + 1 : Nat) : Int)) else none) else impl_Linear.l1 k (N : Int) l (q : Int) o (N : Int) ((i + 1 : Nat) : Int)) (fun k => ?_) ?_
          · simp only [impl_Linear.l1]
            rw [if_pos (by omega), w64_succ (n := N) (by omega) (by omega)]
          · refine Ev.bind (impl_free_ev (i : Int) (by omega) (by omega)) ?_
            cases hf : freeB l o (i : Int) with
            | false =>
              have e : cntTerm N l m o i = 0 := by simp [cntTerm, hf]
              rw [e] at hq ⊢
              rw [if_neg (by omega)]
              exact Ev.congr (fun k => if_neg (by simp)) (ihd (i + 1) q (by omega) (by omega))
            | true =>
              have e : cntTerm N l m o i = cnt N l m (o ++ [(i : Int)]) := by simp [cntTerm, hf]
              rw [e] at hq hs ⊢
              refine Ev.congr (fun k => if_pos rfl) ?_
              unfold impl_copyInts.f
              rw [if_pos (by omega)]
              simp only [Option.bind_some]
              refine Ev.congr (fun k => if_pos (by omega)) ?_
              refine Ev.bind (impl_linears_ev hN l hl m (o ++ [(i : Int)]) (by simp; omega)) ?_
              by_cases hlt : q < cnt N l m (o ++ [(i : Int)])
              · rw [if_pos hlt]
                exact Ev.congr (fun k => if_pos (by omega)) (ih (o ++ [(i : Int)]) q (by simp; omega) hlt)
              · rw [if_neg hlt]
                refine Ev.congr (fun k => if_neg (by omega)) ?_
                rw [w64 (by omega) (by omega), ← Int.natCast_sub (by omega)]
                exact ihd (i + 1) (q - cnt N l m (o ++ [(i : Int)])) (by omega) (by omega)
      have h := key N 0 k0 (by omega) (by rw [cnt_succ] at hk; exact hk)
      rw [List.drop_zero] at h
      unfold linG
      obtain ⟨x, k', h1, _, _⟩ := pickL_some (N := N) (l := l) (m := m) (o := o) (xs := List.range N) (k := k0) hk
      rw [h1] at h ⊢
      exact h
theorem impl_Linear_ev (n : Int) (l : List IE) (k0 : Int) : Ev (fun k => impl_Linear.f k n l k0) (linP n l k0) := by
  unfold impl_Linear.f linP
  refine Ev.bind (impl_Linears_ev n l) ?_
  refine Ev.bindc (within_eq _ _ _) ?_
  have hb := linearsP_le n l
  rw [w64 (by omega) (by omega)]
  by_cases hk : 0 ≤ k0 ∧ k0 ≤ linearsP n l - 1
  · rw [decide_eq_true hk, if_pos hk]
    refine Ev.congr (fun k => if_pos rfl) ?_
    obtain ⟨hg, h8, e⟩ := linearsP_pos (n := n) (l := l) (by omega)
    obtain ⟨hn, hl, _⟩ := (graphOk_iff n l).1 hg
    have h := impl_Linear_l0_ev (N := n.toNat) (by omega) l hl n.toNat [] k0.toNat (by simp) (by omega)
    rw [Int.toNat_of_nonneg hn.1, Int.toNat_of_nonneg hk.1] at h
    exact h
  · rw [decide_eq_false hk, if_neg hk]
    exact Ev.of_eq fun k => rfl
theorem spec_Linear_l0_ev {N : Nat} (hN : N ≤ 8) (l : List IE) (hl : l.length ≤ 200) (he : ∀ e ∈ l, 0 ≤ e.f0 ∧ e.f0 < (N : Int)) : ∀ (m : Nat) (o : List Int) (k0 : Nat), o.length + m = N → k0 < cnt N l m o →
    Ev (fun k => spec_Linear.l0 k (N : Int) l (k0 : Int) o (flags N o)) (linG N l m o k0, true) := by
  intro m
  induction m with
  | zero =>
    intro o k0 ho hk
    refine Ev.succ (fun k => ?_)
    simp only [spec_Linear.l0]
    rw [if_neg (by omega)]
    rfl
  | succ m ih =>
    intro o k0 ho hk
    refine Ev.step (f := fun k => spec_Linear.l1 k (N : Int) l (k0 : Int) o (flags N o) 0) (fun k => ?_) ?_
    · simp only [spec_Linear.l0]
      rw [if_pos (by omega)]
    · have key : ∀ (d i q : Nat), i + d = N → q < cntFrom N l m o i → Ev (fun k => spec_Linear.l1 k (N : Int) l (q : Int) o (flags N o) (i : Int)) (match pickL N l m o ((List.range N).drop i) q with
          | some (x, k') => (linG N l m (o ++ [(x : Int)]) k', true)
          | none => ([], false)) := by
        intro d
        induction d with
        | zero =>
          intro i q hi hq
          obtain rfl : i = N := by omega
          rw [cntFrom_end] at hq
          omega
        | succ d ihd =>
          intro i q hi hq
          have hs := cntFrom_small hN l (m := m) (by omega) o i
          rw [cntFrom_step l m o (by omega)] at hq hs
          rw [List.drop_eq_getElem_cons (by simp; omega), List.getElem_range]
          unfold pickL
          refine Ev.step (f := fun k => (spec_l14Ready.f k l (flags N o) (i : Int)).bind fun t => if t = true then (if 0 ≤ (i : Int) then (if (i : Int) < ((flags N o).length : Int) then ((spec_l14Count.f k (N : Int) l ((flags N o).set (i : Int).toNat true) (wrap64 ((wrap64 ((N : Int) - (o.length : Int))) - 1))).bind fun t2 => if (q : Int) < t2.1 then (if o.length < 17592186044416 then spec_Linear.l0 k (N : Int) l (q : Int) (o ++ [(i : Int)]) t2.2 else none) else spec_Linear.l1 k (N : Int) l (wrap64 ((q : Int) - t2.1)) o (t2.2.set (i : Int).toNat false) ((i + 1 : Nat) : Int)) else none) else none) else spec_Linear.l1 k (N : Int) l (q : Int) o (flags N o) ((i + 1 : Nat) : Int)) (fun k => ?_) ?_
          · simp only [spec_Linear.l1]
            rw [if_pos (by omega), w64_succ (n := N) (by omega) (by omega)]
          · refine Ev.bind (l14Ready_ev (by omega) (by omega) (by omega) he) ?_
            cases hf : freeB l o (i : Int) with
            | false =>
              have e : cntTerm N l m o i = 0 := by simp [cntTerm, hf]
              rw [e] at hq ⊢
              rw [if_neg (by omega)]
              exact Ev.congr (fun k => if_neg (by simp)) (ihd (i + 1) q (by omega) (by omega))
            | true =>
              have e : cntTerm N l m o i = cnt N l m (o ++ [(i : Int)]) := by simp [cntTerm, hf]
              have hni := ((freeB_iff _ _ _).1 hf).1
              rw [e] at hq hs ⊢
              refine Ev.congr (fun k => if_pos rfl) (Ev.congr (fun k => if_pos (by omega)) (Ev.congr (fun k => if_pos (by rw [flags_len]; omega)) ?_))
              rw [Int.toNat_natCast, flags_set (by omega), w64 (x := (N : Int) - (o.length : Int)) (by omega) (by omega), w64 (x := (N : Int) - (o.length : Int) - 1) (by omega) (by omega), show (N : Int) - (o.length : Int) - 1 = (m : Int) by omega]
              refine Ev.bind (l14Count_ev hN l hl he m (o ++ [(i : Int)]) (by simp; omega)) ?_
              simp only [flags_unset hni]
              by_cases hlt : q < cnt N l m (o ++ [(i : Int)])
              · rw [if_pos hlt]
                exact Ev.congr (fun k => if_pos (by omega)) (Ev.congr (fun k => if_pos (by omega)) (ih (o ++ [(i : Int)]) q (by simp; omega) hlt))
              · rw [if_neg hlt]
                refine Ev.congr (fun k => if_neg (by omega)) ?_
                rw [w64 (by omega) (by omega), ← Int.natCast_sub (by omega)]
                exact ihd (i + 1) (q - cnt N l m (o ++ [(i : Int)])) (by omega) (by omega)
      have h := key N 0 k0 (by omega) (by rw [cnt_succ] at hk; exact hk)
      rw [List.drop_zero] at h
      unfold linG
      obtain ⟨x, k', h1, _, _⟩ := pickL_some (N := N) (l := l) (m := m) (o := o) (xs := List.range N) (k := k0) hk
      rw [h1] at h ⊢
      exact h
theorem spec_Linear_ev (n : Int) (l : List IE) (k0 : Int) : Ev (fun k => spec_Linear.f k n l k0) (linP n l k0) := by
  unfold spec_Linear.f linP
  by_cases h0 : k0 < 0
  · rw [if_neg (by omega)]
    refine Ev.congr (fun k => if_pos h0) (Ev.succ fun k => ?_)
    simp only [spec_Linear.j0, if_true]
  · refine Ev.congr (fun k => if_neg h0) (Ev.bind (spec_Linears_ev n l) ?_)
    by_cases hk : 0 ≤ k0 ∧ k0 ≤ linearsP n l - 1
    · rw [if_pos hk]
      obtain ⟨hg, h8, e⟩ := linearsP_pos (n := n) (l := l) (by omega)
      obtain ⟨hn, hl, he⟩ := (graphOk_iff n l).1 hg
      have hn0 := hn.1
      refine Ev.step (f := fun k => spec_Linear.l0 k n l k0 [] (List.replicate n.toNat false)) (fun k => ?_) ?_
      · simp only [spec_Linear.j0]
        rw [if_neg (by simp; omega), if_pos hn0, if_pos (by omega)]
      · have h := spec_Linear_l0_ev (N := n.toNat) (by omega) l hl (fun e hel => ⟨(he e hel).1.1, by have := (he e hel).1.2; omega⟩) n.toNat [] k0.toNat (by simp) (by omega)
        rw [Int.toNat_of_nonneg hn0, Int.toNat_of_nonneg hk.1] at h
        rw [flags_nil]
        exact h
    · rw [if_neg hk]
      refine Ev.succ fun k => ?_
      simp only [spec_Linear.j0]
      rw [if_pos (by simp; omega)]
theorem linG_len {N : Nat} {l : List IE} {m : Nat} {o : List Int} {k : Nat} (hk : k < cnt N l m o) : (linG N l m o k).length = o.length + m := by
  induction m generalizing o k with
  | zero => rfl
  | succ m ih =>
    unfold linG
    obtain ⟨x, k', h1, _, h3⟩ := pickL_some (N := N) (l := l) (m := m) (o := o) (xs := List.range N) (k := k) hk
    rw [h1]
    have h4 := term_free h3
    rw [h4.2] at h3
    have := ih h3
    simp at this ⊢
    omega

-- chunk ints: lists of numbers are copied, and the same as themselves
theorem eqIntS_refl {l : List Int} (hl : l.length ≤ 35184372088832) : Ev (fun k => laws_eqIntS.f k l l) true := by
  unfold laws_eqIntS.f
  simp only [if_true]
  refine down_ev (fun k i => laws_eqIntS.l0 k l l i) l.length true (fun i h hr => ?_) ?_ 0 (by omega)
  · refine Ev.step (fun k => ?_) hr
    simp only [laws_eqIntS.l0]
    rw [if_pos (by omega), if_pos (by omega), if_pos (by omega), if_pos trivial, w64_succ h (by omega)]
  · refine Ev.succ (fun k => ?_)
    simp only [laws_eqIntS.l0]
    rw [if_neg (by omega)]

-- chunk marks: what the laws write to see whether memory is shared
theorem markIntS_ev {l : List Int} (a : Int) (hl : l.length ≤ 4611686018427387904) (h0 : 0 ≤ a) (h1 : a ≤ 4611686018427387902) : Ev (fun k => laws_markIntS.f k l a) (a + l.length, (List.range l.length).map fun i : Nat => a + (i : Int)) := by
  unfold laws_markIntS.f
  have key : ∀ (d i : Nat) (ys : List Int), ys.length = l.length → i + d = l.length → (∀ j (hj : j < i), ys[j]? = some (a + (j : Int))) →
      Ev (fun k => laws_markIntS.l0 k ys (a + i) (i : Int)) (a + l.length, (List.range l.length).map fun i : Nat => a + (i : Int)) := by
    intro d
    induction d with
    | zero =>
      intro i ys hy hi hj
      obtain rfl : i = l.length := by omega
      refine Ev.succ (fun k => ?_)
      simp only [laws_markIntS.l0]
      rw [if_neg (by omega)]
      have : (List.range l.length).map (fun i : Nat => a + (i : Int)) = ys := by
        apply List.ext_getElem?
        intro j
        by_cases hjj : j < l.length
        · rw [hj j hjj, List.getElem?_map, List.getElem?_range hjj]; rfl
        · rw [List.getElem?_eq_none (by simpa using hjj), List.getElem?_eq_none (by omega)]
      rw [this]
    | succ d ih =>
      intro i ys hy hi hj
      have h := ih (i + 1) (ys.set i (a + i)) (by simpa using hy) (by omega) (fun j hj1 => by
        by_cases e : j = i
        · subst e
          rw [List.getElem?_set_self (by omega)]
        · rw [List.getElem?_set_ne (by omega)]
          exact hj j (by omega))
      refine Ev.step (fun k => ?_) h
      simp only [laws_markIntS.l0]
      rw [if_pos (by omega), if_pos (by omega), w64_succ (n := l.length) (by omega) (by omega), Int.toNat_natCast, w64 (by omega) (by omega)]
      rw [show a + (i : Int) + 1 = a + ((i + 1 : Nat) : Int) by omega]
  have h := key l.length 0 l rfl (by omega) (fun j hj => by omega)
  simpa using h
theorem heldIntS_ev {n : Nat} (a : Int) (hn : n ≤ 4611686018427387904) (h0 : 0 ≤ a) (h1 : a ≤ 4611686018427387902) : Ev (fun k => laws_heldIntS.f k ((List.range n).map fun i : Nat => a + (i : Int)) a) (a + n) := by
  unfold laws_heldIntS.f
  have key : ∀ (d i : Nat), i + d = n → Ev (fun k => laws_heldIntS.l0 k ((List.range n).map fun i : Nat => a + (i : Int)) (a + i) (i : Int)) (a + n) := by
    intro d
    induction d with
    | zero =>
      intro i hi
      obtain rfl : i = n := by omega
      refine Ev.succ (fun k => ?_)
      simp only [laws_heldIntS.l0, List.length_map, List.length_range]
      rw [if_neg (by omega)]
    | succ d ih =>
      intro i hi
      refine Ev.step (fun k => ?_) (ih (i + 1) (by omega))
      simp only [laws_heldIntS.l0, List.length_map, List.length_range]
      rw [if_pos (by omega), if_pos (by omega), rd_lt _ (by simp; omega), if_pos (by simp), w64_succ (n := n) (by omega) (by omega), w64 (by omega) (by omega)]
      rw [show a + (i : Int) + 1 = a + ((i + 1 : Nat) : Int) by omega]
  have h := key n 0 (by omega)
  simpa using h
/-- Lists of edges that are written: only how many, and that it goes. -/
theorem markEdgeS_ev {l : List IE} (a : Int) (hl : l.length ≤ 17592186044416) (h0 : 0 ≤ a) (h1 : a ≤ 17592186044416) : ∃ ys, Ev (fun k => laws_markEdgeS.f k l a) (a + 2 * l.length, ys) := by
  unfold laws_markEdgeS.f
  have key : ∀ (d i : Nat) (ys : List IE), ys.length = l.length → i + d = l.length →
      ∃ zs, Ev (fun k => laws_markEdgeS.l0 k ys (a + 2 * i) (i : Int)) (a + 2 * l.length, zs) := by
    intro d
    induction d with
    | zero =>
      intro i ys hy hi
      obtain rfl : i = l.length := by omega
      refine ⟨ys, Ev.succ (fun k => ?_)⟩
      simp only [laws_markEdgeS.l0]
      rw [if_neg (by omega)]
    | succ d ih =>
      intro i ys hy hi
      obtain ⟨zs, h⟩ := ih (i + 1) ((ys.set i ⟨a + 2 * i, (rd_T60 ys i).f1⟩).set i ⟨(rd_T60 (ys.set i ⟨a + 2 * i, (rd_T60 ys i).f1⟩) i).f0, a + 2 * i + 1⟩) (by simpa using hy) (by omega)
      refine ⟨zs, Ev.step (fun k => ?_) h⟩
      simp only [laws_markEdgeS.l0]
      rw [if_pos (by omega), if_pos (by omega), w64_succ (n := l.length) (by omega) (by omega), Int.toNat_natCast]
      simp only [Option.bind_some]
      rw [w64 (x := a + 2 * (i : Int) + 1) (by omega) (by omega), w64 (x := a + 2 * (i : Int) + 1 + 1) (by omega) (by omega)]
      rw [show a + 2 * (i : Int) + 1 + 1 = a + 2 * ((i + 1 : Nat) : Int) by omega]
  have h := key l.length 0 l rfl (by omega)
  simpa using h

theorem linP_len (n : Int) (l : List IE) (k : Int) : (linP n l k).1.length ≤ 16 := by
  unfold linP
  split
  · rename_i hk
    obtain ⟨hg, h8, e⟩ := linearsP_pos (n := n) (l := l) (by omega)
    obtain ⟨hn, hl, he⟩ := (graphOk_iff n l).1 hg
    have := linG_len (N := n.toNat) (l := l) (m := n.toNat) (o := []) (k := k.toNat) (by omega)
    simp at this ⊢
    omega
  · simp
theorem proof : Pure := by
  intro n l q _ hl _
  refine Ev.rounds ?_
  unfold laws_FnExactLinear.f
  by_cases hb : 1048576 < l.length
  · exact Ev.bindc (szEdgeS_big hl.1 hb) (Ev.of_eq fun k => by simp)
  refine Ev.bindc (szEdgeS_eq l _) ?_
  rw [w64 (by omega) (by omega), if_neg (by omega)]
  refine Ev.congr (fun k => if_neg (by omega)) ?_
  have hm : (l.map toE).length ≤ 17592186044416 := by rw [List.length_map]; omega
  have hlen := linP_len n (l.map toE) q
  have hi := impl_Linear_ev n (l.map toE) q
  have hs := spec_Linear_ev n (l.map toE) q
  generalize linP n (l.map toE) q = c at hlen hi hs
  refine Ev.bind (toEdgeS_ev (by omega)) (Ev.bind hs (Ev.bind (toEdgeS_ev (by omega)) (Ev.bind hi ?_)))
  refine Ev.bind (eqIntS_refl (by omega)) (Ev.congr (fun k => if_pos rfl) ?_)
  refine Ev.step (f := fun k => _) (fun k => by simp only [laws_FnExactLinear.j0]; rw [if_neg (by simp)]) ?_
  refine Ev.bind (toEdgeS_ev (by omega)) (Ev.bind (eqEdgeS_refl hm) (Ev.congr (fun k => if_pos rfl) ?_))
  obtain ⟨ys, hy⟩ := markEdgeS_ev 1 hm (by omega) (by omega)
  refine Ev.bind hy (Ev.congr (fun k => if_neg (by omega)) ?_)
  refine Ev.bind (eqIntS_refl (by omega)) (Ev.congr (fun k => if_pos rfl) ?_)
  refine Ev.step (f := fun k => _) (fun k => by simp only [laws_FnExactLinear.j1]; rw [if_neg (by simp)]) ?_
  refine Ev.bind (markIntS_ev 1 (by omega) (by omega) (by omega)) ?_
  refine Ev.bind (heldIntS_ev 1 (by omega) (by omega) (by omega)) (Ev.congr (fun k => if_neg (by omega)) (Ev.congr (fun k => if_pos rfl) ?_))
  refine Ev.bind (toEdgeS_ev (by omega)) (Ev.bind hi (Ev.bind (eqIntS_refl (by omega)) (Ev.congr (fun k => if_pos rfl) ?_)))
  refine Ev.step (f := fun k => _) (fun k => by simp only [laws_FnExactLinear.j2]; rw [if_neg (by simp)]) ?_
  exact Ev.bind (heldIntS_ev 1 (by omega) (by omega) (by omega)) (Ev.of_eq fun k => by rw [if_neg (by omega), if_pos rfl])



end Go.Proofs.Ytapbpfbhghheeaa.fnExactLinear
