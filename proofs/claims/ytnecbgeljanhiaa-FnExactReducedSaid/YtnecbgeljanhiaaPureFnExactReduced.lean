/- The law FnExactReduced holds of the program's own functions, told over lists and numbers: for every argument it returns true. Conditions: none beyond the given row's own. -/
import Derived.Test.YtnecbgeljanhiaaSaysFnExactReduced
import Derived.Test.YtnecbgeljanhiaaKit
namespace Go.Proofs.Ytnecbgeljanhiaa.fnExactReduced
open Go.RowKit Go.Proofs.Ytnecbgeljanhiaa.PFnExactReduced Go.Proofs.YtnecbgeljanhiaaW.PrintWords Go.Proofs.YtnecbgeljanhiaaW.PrintLast Go.Proofs.Ytnecbgeljanhiaa.Own
set_option linter.unusedVariables false
set_option linter.unusedSimpArgs false
-- chunk edges: lists of edges are copied, and the same as themselves
abbrev LE := S98
abbrev IE := S96
def toE (x : LE) : IE := ⟨x.f0, x.f1⟩
theorem szEdgeS_eq (l : List LE) (a : Int) : laws_szEdgeS.f l a = some (if wrap64 (a - (l.length : Int)) < 0 then -1 else wrap64 (a - (l.length : Int))) := by
  unfold laws_szEdgeS.f; split <;> rfl
theorem szEdgeS_big {l : List LE} (hl : l.length ≤ maxLen) (h : 1048576 < l.length) : laws_szEdgeS.f l 1048576 = some (-1) := by
  unfold maxLen at hl
  rw [szEdgeS_eq, w64 (by omega) (by omega), if_pos (by omega)]
theorem rd_LE {l : List LE} {i : Nat} (h : i < l.length) : rd_T98 l (i : Int) = l[i] := by
  unfold rd_T98; rw [Int.toNat_natCast]; exact getD_lt l _ h
theorem rd_IE {l : List IE} {i : Nat} (h : i < l.length) : rd_T96 l (i : Int) = l[i] := by
  unfold rd_T96; rw [Int.toNat_natCast]; exact getD_lt l _ h
theorem toEdgeS_ev {l : List LE} (hl : l.length ≤ 17592186044416) : Ev (fun k => laws_toEdgeS.f k l) (l.map toE) := by
  unfold laws_toEdgeS.f
  simp only [Int.natCast_nonneg, if_true, Int.toNat_natCast, if_pos hl]
  refine fill_ev l toE (fun k ys i => laws_toEdgeS.l0 k l ys i) (fun i h ys hy r hr => ?_) (fun ys => ?_) _ (by simp)
  · refine Ev.step (fun k => ?_) hr
    show laws_toEdgeS.l0 (k + 1) l ys i = _
    simp only [laws_toEdgeS.l0]
    rw [if_pos (by omega), if_pos (by omega), rd_LE h]
    unfold laws_toEdge.f
    simp only [Option.bind_some]
    rw [if_pos (by omega), w64_succ h (by omega), Int.toNat_natCast]
    rfl
  · refine Ev.succ (fun k => ?_)
    simp only [laws_toEdgeS.l0]
    rw [if_neg (by omega)]
theorem eqEdgeS_refl {l : List IE} (hl : l.length ≤ 17592186044416) : Ev (fun k => laws_eqEdgeS.f k l l) true := by
  unfold laws_eqEdgeS.f
  simp only [if_true]
  refine down_ev (fun k i => laws_eqEdgeS.l0 k l l i) l.length true (fun i h hr => ?_) ?_ 0 (by omega)
  · refine Ev.step (fun k => ?_) hr
    simp only [laws_eqEdgeS.l0]
    rw [if_pos (by omega), if_pos (by omega), if_pos (by omega)]
    unfold laws_eqEdge.f
    simp only [if_true, Option.bind_some]
    rw [w64_succ h (by omega)]
  · refine Ev.succ (fun k => ?_)
    simp only [laws_eqEdgeS.l0]
    rw [if_neg (by omega)]

-- chunk graph: what GraphOk answers, of the program and of the reference
def edgeIn (n : Int) (e : IE) : Bool := decide (0 ≤ e.f0 ∧ e.f0 ≤ n - 1) && decide (0 ≤ e.f1 ∧ e.f1 ≤ n - 1)
def graphOk (n : Int) (l : List IE) : Bool := decide (0 ≤ n ∧ n ≤ 16) && decide (l.length ≤ 200) && l.all (edgeIn n)
theorem within_eq (a b c : Int) : impl_within.f a b c = some (decide (b ≤ a ∧ a ≤ c)) := by
  unfold impl_within.f
  split <;> simp [*]
theorem l1In_eq (a b c : Int) : spec_l1In.f a b c = some (decide (b ≤ a ∧ a ≤ c)) := by
  unfold spec_l1In.f
  split <;> simp [*]
theorem impl_GraphOk_ev (n : Int) (l : List IE) : Ev (fun k => impl_GraphOk.f k n l) (graphOk n l) := by
  unfold impl_GraphOk.f graphOk
  refine Ev.bindc (within_eq _ _ _) ?_
  by_cases hn : 0 ≤ n ∧ n ≤ 16
  · simp only [hn, decide_true, if_true, and_self, Bool.true_and]
    by_cases hl : l.length ≤ 200
    · refine Ev.step (f := fun k => impl_GraphOk.l0 k n l (l.length : Int) 0) (fun k => ?_) ?_
      · simp only [impl_GraphOk.j0]
        rw [if_neg (by simp; omega)]
      · have hw : wrap64 (n - 1) = n - 1 := w64 (by omega) (by omega)
        have h0 : l.all (edgeIn n) = (l.drop 0).all (edgeIn n) := rfl
        rw [decide_eq_true hl, Bool.true_and, h0]
        refine all_ev l (edgeIn n) (fun k i => impl_GraphOk.l0 k n l (l.length : Int) i) (fun i h hp r hr => ?_) (fun i h hp => ?_) ?_ 0 (by omega)
        · refine Ev.step (fun k => ?_) hr
          simp only [impl_GraphOk.l0]
          rw [if_pos (by omega), if_pos (by omega), if_pos (by omega), rd_IE h, within_eq, within_eq, hw]
          simp only [edgeIn, Bool.and_eq_true] at hp
          simp only [Option.bind_some, hp.1, hp.2, if_true]
          rw [w64_succ h (by omega)]
        · refine Ev.succ (fun k => ?_)
          simp only [impl_GraphOk.l0]
          rw [if_pos (by omega), if_pos (by omega), if_pos (by omega), rd_IE h, within_eq, within_eq, hw]
          simp only [edgeIn, Bool.and_eq_false_iff] at hp
          simp only [Option.bind_some]
          rcases hp with hp | hp
          · rw [hp]; rfl
          · rw [hp]; split <;> rfl
        · refine Ev.succ (fun k => ?_)
          simp only [impl_GraphOk.l0]
          rw [if_neg (by omega)]
    · rw [decide_eq_false hl, Bool.false_and]
      refine Ev.succ (fun k => ?_)
      simp only [impl_GraphOk.j0]
      rw [if_pos (by simp; omega)]
  · simp only [decide_eq_false hn, Bool.false_and]
    refine Ev.succ (fun k => ?_)
    rw [if_neg (by simp)]
    simp only [impl_GraphOk.j0, if_true]
theorem spec_GraphOk_ev (n : Int) (l : List IE) : Ev (fun k => spec_GraphOk.f k n l) (graphOk n l) := by
  unfold spec_GraphOk.f graphOk
  refine Ev.bindc (l1In_eq _ _ _) ?_
  by_cases hn : 0 ≤ n ∧ n ≤ 16
  · simp only [hn, decide_true, if_true, and_self, Bool.true_and]
    by_cases hl : l.length ≤ 200
    · refine Ev.step (f := fun k => spec_GraphOk.l0 k n l 0) (fun k => ?_) ?_
      · simp only [spec_GraphOk.j0]
        rw [if_neg (by simp; omega)]
      · have hw : wrap64 (n - 1) = n - 1 := w64 (by omega) (by omega)
        have h0 : l.all (edgeIn n) = (l.drop 0).all (edgeIn n) := rfl
        rw [decide_eq_true hl, Bool.true_and, h0]
        refine all_ev l (edgeIn n) (fun k i => spec_GraphOk.l0 k n l i) (fun i h hp r hr => ?_) (fun i h hp => ?_) ?_ 0 (by omega)
        · refine Ev.step (fun k => ?_) hr
          simp only [spec_GraphOk.l0]
          rw [if_pos (by omega), if_pos (by omega), rd_IE h, l1In_eq, l1In_eq, hw]
          simp only [edgeIn, Bool.and_eq_true] at hp
          simp only [Option.bind_some, hp.1, hp.2, if_true]
          rw [w64_succ h (by omega)]
        · refine Ev.succ (fun k => ?_)
          simp only [spec_GraphOk.l0]
          rw [if_pos (by omega), if_pos (by omega), rd_IE h, l1In_eq, l1In_eq, hw]
          simp only [edgeIn, Bool.and_eq_false_iff] at hp
          simp only [Option.bind_some]
          rcases hp with hp | hp
          · rw [hp]; rfl
          · rw [hp]; split <;> rfl
        · refine Ev.succ (fun k => ?_)
          simp only [spec_GraphOk.l0]
          rw [if_neg (by omega)]
    · rw [decide_eq_false hl, Bool.false_and]
      refine Ev.succ (fun k => ?_)
      simp only [spec_GraphOk.j0]
      rw [if_pos (by simp; omega)]
  · simp only [decide_eq_false hn, Bool.false_and]
    refine Ev.succ (fun k => ?_)
    rw [if_neg (by simp)]
    simp only [spec_GraphOk.j0, if_true]

-- chunk contains: slices.Index and slices.Contains of numbers
theorem index_ev {l : List Int} (x : Int) (hl : l.length ≤ 9223372036854775807) : Ev (fun k => slices_Index_int_int.f k l x) (if x ∈ l then (l.idxOf x : Int) else -1) := by
  unfold slices_Index_int_int.f
  have key : ∀ (d i : Nat), i + d = l.length → Ev (fun k => slices_Index_int_int.l0 k l x (l.length : Int) (i : Int)) (if x ∈ l.drop i then ((i + (l.drop i).idxOf x : Nat) : Int) else -1) := by
    intro d
    induction d with
    | zero =>
      intro i hi
      obtain rfl : i = l.length := by omega
      refine Ev.succ (fun k => ?_)
      simp only [slices_Index_int_int.l0]
      rw [if_neg (by omega)]
      simp
    | succ d ih =>
      intro i hi
      have h : i < l.length := by omega
      have hr := ih (i + 1) (by omega)
      rw [List.drop_eq_getElem_cons h]
      by_cases e : x = l[i]
      · refine Ev.succ (fun k => ?_)
        simp only [slices_Index_int_int.l0]
        rw [if_pos (by omega), if_pos (by omega), if_pos (by omega), rd_lt _ h, if_pos e]
        rw [if_pos (List.mem_cons.2 (Or.inl e)), List.idxOf_cons]
        simp only [e, beq_self_eq_true, cond_true, Nat.add_zero]
      · refine Ev.step (f := fun k => slices_Index_int_int.l0 k l x (l.length : Int) ((i + 1 : Nat) : Int)) (fun k => ?_) ?_
        · simp only [slices_Index_int_int.l0]
          rw [if_pos (by omega), if_pos (by omega), if_pos (by omega), rd_lt _ h, if_neg e, w64_succ h hl]
        · have : (if x ∈ l[i] :: l.drop (i + 1) then ((i + (l[i] :: l.drop (i + 1)).idxOf x : Nat) : Int) else -1) = (if x ∈ l.drop (i + 1) then (((i + 1) + (l.drop (i + 1)).idxOf x : Nat) : Int) else -1) := by
            rw [List.idxOf_cons]
            have hb : (l[i] == x) = false := by simpa using fun h => e h.symm
            simp only [List.mem_cons, e, false_or, hb]
            split
            · simp; omega
            · rfl
          rw [this]
          exact hr
  have h := key l.length 0 (by omega)
  simpa using h
theorem contains_ev {l : List Int} (x : Int) (hl : l.length ≤ 9223372036854775807) : Ev (fun k => slices_Contains_int_int.f k l x) (decide (x ∈ l)) := by
  unfold slices_Contains_int_int.f
  refine Ev.bind (index_ev x hl) (Ev.of_eq fun k => ?_)
  by_cases h : x ∈ l
  · rw [if_pos h, decide_eq_true h, decide_eq_true (by omega)]
  · rw [if_neg h, decide_eq_false h, decide_eq_false (by omega)]

-- chunk free: which number may come next
def edgeFree (d : List Int) (x : Int) (e : IE) : Bool := decide (e.f1 = x → e.f0 ∈ d)
def freeB (l : List IE) (d : List Int) (x : Int) : Bool := decide (x ∉ d) && l.all (edgeFree d x)
theorem freeB_iff (l : List IE) (d : List Int) (x : Int) : freeB l d x = true ↔ x ∉ d ∧ ∀ e ∈ l, e.f1 = x → e.f0 ∈ d := by
  unfold freeB edgeFree
  simp [Decidable.imp_iff_not_or]
theorem impl_free_ev {l : List IE} {d : List Int} (x : Int) (hl : l.length ≤ 9223372036854775807) (hd : d.length ≤ 9223372036854775807) : Ev (fun k => impl_free.f k l d x) (freeB l d x) := by
  unfold impl_free.f
  refine Ev.bind (contains_ev x hd) ?_
  by_cases hx : x ∈ d
  · rw [show freeB l d x = false by simp [freeB, hx]]
    exact Ev.of_eq fun k => by simp [hx]
  · have hf : freeB l d x = (l.drop 0).all (edgeFree d x) := by simp [freeB, hx]
    rw [hf]
    refine Ev.congr (fun k => if_neg (by simp [hx])) ?_
    refine all_ev l (edgeFree d x) (fun k i => impl_free.l0 k d x l (l.length : Int) i) (fun i h hp r hr => ?_) (fun i h hp => ?_) ?_ 0 (by omega)
    · by_cases e : l[i].f1 = x
      · refine Ev.step (f := fun k => (slices_Contains_int_int.f k d l[i].f0).bind fun t => if t = true then impl_free.l0 k d x l (l.length : Int) ((i + 1 : Nat) : Int) else some false) (fun k => ?_) ?_
        · simp only [impl_free.l0]
          rw [if_pos (by omega), if_pos (by omega), if_pos (by omega), rd_IE h, if_pos e, w64_succ h hl]
        · refine Ev.bind (contains_ev _ hd) ?_
          have : l[i].f0 ∈ d := by simpa [edgeFree, e] using hp
          simp only [this, decide_true, if_true]
          exact hr
      · refine Ev.step (fun k => ?_) hr
        simp only [impl_free.l0]
        rw [if_pos (by omega), if_pos (by omega), if_pos (by omega), rd_IE h, if_neg e, w64_succ h hl]
    · have e : l[i].f1 = x := by
        apply Classical.byContradiction
        intro hn
        simp [edgeFree, hn] at hp
      have hn : l[i].f0 ∉ d := by simpa [edgeFree, e] using hp
      refine Ev.step (f := fun k => (slices_Contains_int_int.f k d l[i].f0).bind fun t => if t = true then impl_free.l0 k d x l (l.length : Int) ((i + 1 : Nat) : Int) else some false) (fun k => ?_) ?_
      · simp only [impl_free.l0]
        rw [if_pos (by omega), if_pos (by omega), if_pos (by omega), rd_IE h, if_pos e, w64_succ h hl]
      · refine Ev.bind (contains_ev _ hd) ?_
        simp only [hn, decide_false]
        exact Ev.of_eq fun k => rfl
    · refine Ev.succ (fun k => ?_)
      simp only [impl_free.l0]
      rw [if_neg (by omega)]
theorem graphOk_iff (n : Int) (l : List IE) : graphOk n l = true ↔ (0 ≤ n ∧ n ≤ 16) ∧ l.length ≤ 200 ∧ ∀ e ∈ l, (0 ≤ e.f0 ∧ e.f0 ≤ n - 1) ∧ (0 ≤ e.f1 ∧ e.f1 ≤ n - 1) := by
  unfold graphOk edgeIn
  simp [and_assoc]

-- chunk ways: shortest ways of a graph, as the program's table and as the reference's rounds
def E (l : List IE) (a b : Nat) : Prop := ∃ e ∈ l, e.f0 = (a : Int) ∧ e.f1 = (b : Int)
instance (l : List IE) (a b : Nat) : Decidable (E l a b) := by
  unfold E
  infer_instance
/-- A way from a along the numbers p to b. -/
def isWay (l : List IE) : Nat → List Nat → Nat → Prop
  | a, [], b => a = b
  | a, v :: p, b => E l a v ∧ isWay l v p b
theorem isWay_append {l : List IE} {p q : List Nat} {a b : Nat} : isWay l a (p ++ q) b ↔ ∃ c, isWay l a p c ∧ isWay l c q b := by
  induction p generalizing a with
  | nil => simp [isWay]
  | cons v p ih =>
    simp only [List.cons_append, isWay, ih]
    constructor
    · rintro ⟨h, c, h1, h2⟩; exact ⟨c, ⟨h, h1⟩, h2⟩
    · rintro ⟨c, ⟨h, h1⟩, h2⟩; exact ⟨h, c, h1, h2⟩
theorem isWay_cut {l : List IE} {s t : List Nat} {a v b : Nat} (h : isWay l a (s ++ v :: t) b) : isWay l v t b := by
  obtain ⟨c, _, h2⟩ := isWay_append.1 h
  exact h2.2
theorem isWay_prune {l : List IE} {p : List Nat} {a b : Nat} (h : isWay l a p b) : ∃ q, isWay l a q b ∧ q.Nodup ∧ (p ≠ [] → q ≠ []) ∧ q.length ≤ p.length := by
  induction p generalizing a with
  | nil => exact ⟨[], h, List.nodup_nil, fun h => absurd rfl h, Nat.le_refl _⟩
  | cons v p ih =>
    obtain ⟨q, h1, h2, _, h4⟩ := ih h.2
    by_cases hv : v ∈ q
    · obtain ⟨s, t, rfl⟩ := List.append_of_mem hv
      refine ⟨v :: t, ⟨h.1, isWay_cut h1⟩, (List.nodup_append.1 h2).2.1, fun _ => by simp, ?_⟩
      simp at h4 ⊢
      omega
    · exact ⟨v :: q, ⟨h.1, h1⟩, List.nodup_cons.2 ⟨hv, h2⟩, fun _ => by simp, by simpa using h4⟩
theorem isWay_lt {l : List IE} {N : Nat} (hE : ∀ a b, E l a b → a < N ∧ b < N) {p : List Nat} {a b : Nat} (h : isWay l a p b) : ∀ x ∈ p, x < N := by
  induction p generalizing a with
  | nil => intro x hx; simp at hx
  | cons v p ih =>
    intro x hx
    rcases List.mem_cons.1 hx with rfl | hx
    · exact (hE _ _ h.1).2
    · exact ih h.2 x hx
theorem isWay_short {l : List IE} {N : Nat} (hE : ∀ a b, E l a b → a < N ∧ b < N) {p : List Nat} {a b : Nat} (hp : p ≠ []) (h : isWay l a p b) : ∃ q, isWay l a q b ∧ q ≠ [] ∧ q.length ≤ N ∧ q.length ≤ p.length := by
  obtain ⟨q, h1, h2, h3, h4⟩ := isWay_prune h
  exact ⟨q, h1, h3 hp, nodup_len h2 (isWay_lt hE h1), h4⟩
/-- There is a way of m steps. -/
def Way (l : List IE) (m a b : Nat) : Prop := ∃ p, p.length = m ∧ isWay l a p b
theorem Way.one {l : List IE} {a b : Nat} : Way l 1 a b ↔ E l a b := by
  constructor
  · rintro ⟨p, hp, h⟩
    match p, hp with
    | [v], _ => obtain ⟨h1, rfl⟩ := h; exact h1
  · intro h; exact ⟨[b], rfl, h, rfl⟩
theorem Way.join {l : List IE} {m n a b c : Nat} (h : Way l m a c) (h' : Way l n c b) : Way l (m + n) a b := by
  obtain ⟨p, hp, h⟩ := h
  obtain ⟨q, hq, h'⟩ := h'
  exact ⟨p ++ q, by simp [hp, hq], isWay_append.2 ⟨c, h, h'⟩⟩
theorem Way.snoc {l : List IE} {m a b : Nat} : Way l (m + 1) a b ↔ ∃ c, Way l m a c ∧ E l c b := by
  constructor
  · rintro ⟨p, hp, h⟩
    obtain ⟨q, v, rfl⟩ : ∃ q v, p = q ++ [v] := ⟨p.dropLast, p.getLast (by intro e; simp [e] at hp), (List.dropLast_concat_getLast _).symm⟩
    obtain ⟨c, h1, h2, h3⟩ := isWay_append.1 h
    obtain rfl := h3
    exact ⟨c, ⟨q, by simpa using hp, h1⟩, h2⟩
  · rintro ⟨c, h, h'⟩
    exact Way.join h (Way.one.2 h')
/-- The least number of steps that lead from a to b; 0: there is none. -/
def isDist (l : List IE) (a b : Nat) (d : Nat) : Prop := (d = 0 ∧ ∀ m, 0 < m → ¬ Way l m a b) ∨ (0 < d ∧ Way l d a b ∧ ∀ m, 0 < m → m < d → ¬ Way l m a b)
theorem isDist_unique {l : List IE} {a b d d' : Nat} (h : isDist l a b d) (h' : isDist l a b d') : d = d' := by
  rcases h with ⟨rfl, h⟩ | ⟨h0, h1, h2⟩ <;> rcases h' with ⟨rfl, h'⟩ | ⟨h0', h1', h2'⟩
  · rfl
  · exact absurd h1' (h _ h0')
  · exact absurd h1 (h' _ h0)
  · rcases Nat.lt_trichotomy d d' with hl | hl | hl
    · exact absurd h1 (h2' _ h0 hl)
    · exact hl
    · exact absurd h1' (h2 _ h0' hl)
theorem isDist_le {l : List IE} {N : Nat} (hE : ∀ a b, E l a b → a < N ∧ b < N) {a b d : Nat} (h : isDist l a b d) : d ≤ N := by
  rcases h with ⟨rfl, _⟩ | ⟨h0, ⟨p, hp, h1⟩, h2⟩
  · omega
  · obtain ⟨q, g1, g2, g3, g4⟩ := isWay_short hE (by intro e; simp [e] at hp; omega) h1
    apply Classical.byContradiction
    intro hn
    exact h2 q.length (List.length_pos_iff.2 g2) (by omega) ⟨q, rfl, g1⟩
/-! Ways whose inner numbers are below k. -/
inductive Wk (l : List IE) (k : Nat) : Nat → Nat → Nat → Prop
  | edge {a b : Nat} (h : E l a b) : Wk l k 1 a b
  | join {m n a b c : Nat} (h : Wk l k m a c) (h' : Wk l k n c b) (hc : c < k) : Wk l k (m + n) a b
theorem Wk.pos {l : List IE} {k m a b : Nat} (h : Wk l k m a b) : 0 < m := by
  induction h with
  | edge _ => omega
  | join _ _ _ _ _ => omega
theorem Wk.up {l : List IE} {k m a b : Nat} (h : Wk l k m a b) : Wk l (k + 1) m a b := by
  induction h with
  | edge h => exact .edge h
  | join _ _ hc ih ih' => exact .join ih ih' (by omega)
theorem Wk.way {l : List IE} {k m a b : Nat} (h : Wk l k m a b) : Way l m a b := by
  induction h with
  | edge h => exact Way.one.2 h
  | join _ _ _ ih ih' => exact Way.join ih ih'
theorem Wk.zero {l : List IE} {m a b : Nat} (h : Wk l 0 m a b) : m = 1 ∧ E l a b := by
  cases h with
  | edge h => exact ⟨rfl, h⟩
  | join _ _ hc => omega
theorem Wk.of {l : List IE} {N : Nat} (hE : ∀ a b, E l a b → a < N ∧ b < N) {p : List Nat} {a b : Nat} (hp : p ≠ []) (h : isWay l a p b) : Wk l N p.length a b := by
  induction p generalizing a with
  | nil => exact absurd rfl hp
  | cons v p ih =>
    by_cases hq : p = []
    · subst hq
      obtain ⟨h1, rfl⟩ := h
      exact .edge h1
    · have h2 := ih hq h.2
      have h3 := Wk.join (.edge h.1) h2 (hE _ _ h.1).2
      rw [List.length_cons, Nat.add_comm]
      exact h3
theorem Wk.down {l : List IE} {k m a b : Nat} (h : Wk l (k + 1) m a b) : (∃ m', m' ≤ m ∧ Wk l k m' a b) ∨ ∃ m1 m2, m1 + m2 ≤ m ∧ Wk l k m1 a k ∧ Wk l k m2 k b := by
  induction h with
  | edge h => exact .inl ⟨1, Nat.le_refl _, .edge h⟩
  | @join m n a b c h h' hc ih ih' =>
    by_cases hck : c < k
    · rcases ih with ⟨p, hp, h1⟩ | ⟨p, q, hpq, h1, h2⟩
      · rcases ih' with ⟨p', hp', h1'⟩ | ⟨p', q', hpq', h1', h2'⟩
        · exact .inl ⟨p + p', by omega, .join h1 h1' hck⟩
        · exact .inr ⟨p + p', q', by omega, .join h1 h1' hck, h2'⟩
      · rcases ih' with ⟨p', hp', h1'⟩ | ⟨p', q', hpq', h1', h2'⟩
        · exact .inr ⟨p, q + p', by omega, h1, .join h2 h1' hck⟩
        · exact .inr ⟨p, q', by omega, h1, h2'⟩
    · obtain rfl : c = k := by omega
      obtain ⟨p, hp, h1⟩ : ∃ p, p ≤ m ∧ Wk l c p a c := by
        rcases ih with ⟨p, hp, h1⟩ | ⟨p, q, hpq, h1, _⟩
        · exact ⟨p, hp, h1⟩
        · exact ⟨p, by omega, h1⟩
      obtain ⟨q, hq, h2⟩ : ∃ q, q ≤ n ∧ Wk l c q c b := by
        rcases ih' with ⟨p, hp, h1⟩ | ⟨p, q, hpq, _, h1⟩
        · exact ⟨p, hp, h1⟩
        · exact ⟨q, by omega, h1⟩
      exact .inr ⟨p, q, by omega, h1, h2⟩
/-! The table. -/
theorem dGet_dSet {M : List Int} (hM : M.length = 256) {a b : Nat} (ha : a < 16) (hb : b < 16) (v : Int) {a' b' : Nat} (ha' : a' < 16) (hb' : b' < 16) :
    dGet (dSet M a b v) a' b' = if a' = a ∧ b' = b then v else dGet M a' b' := by
  unfold dGet dSet
  rw [getD_lt _ _ (by rw [List.length_set]; omega), getD_lt _ _ (by omega), List.getElem_set]
  by_cases h : a' = a ∧ b' = b
  · rw [if_pos h, if_pos (by obtain ⟨rfl, rfl⟩ := h; rfl)]
  · rw [if_neg h, if_neg (by omega)]
theorem dInitB_get {M : List Int} (hM : M.length = 256) {a : Nat} (ha : a < 16) {N : Nat} (hN : N ≤ 16) {a' b' : Nat} (ha' : a' < 16) (hb' : b' < 16) : dGet (dInitB a M N) a' b' = if a' = a ∧ b' < N then -1 else dGet M a' b' := by
  induction N with
  | zero => simp [dInitB]
  | succ N ih =>
    have e : dInitB a M (N + 1) = dSet (dInitB a M N) a N (-1) := by simp [dInitB, List.range_succ, List.foldl_append]
    rw [e, dGet_dSet (by rw [dInitB_len]; exact hM) ha (by omega) _ ha' hb', ih (by omega)]
    by_cases h : a' = a ∧ b' = N
    · rw [if_pos h, if_pos (by omega)]
    · rw [if_neg h]
      by_cases h2 : a' = a ∧ b' < N
      · rw [if_pos h2, if_pos (by omega)]
      · rw [if_neg h2, if_neg (by omega)]
theorem dInit_get {N : Nat} (hN : N ≤ 16) {m : Nat} (hm : m ≤ N) {M : List Int} (hM : M.length = 256) {a' b' : Nat} (ha' : a' < 16) (hb' : b' < 16) : dGet (dInit N m M) a' b' = if a' < m ∧ b' < N then -1 else dGet M a' b' := by
  induction m with
  | zero => simp [dInit]
  | succ m ih =>
    have e : dInit N (m + 1) M = dInitB m (dInit N m M) N := by simp [dInit, List.range_succ, List.foldl_append]
    rw [e, dInitB_get (by rw [dInit_len]; exact hM) (by omega) hN ha' hb', ih (by omega)]
    by_cases h : a' = m ∧ b' < N
    · rw [if_pos h, if_pos (by omega)]
    · rw [if_neg h]
      by_cases h2 : a' < m ∧ b' < N
      · rw [if_pos h2, if_pos (by omega)]
      · rw [if_neg h2, if_neg (by omega)]
theorem dEdges_get {l : List IE} {M : List Int} (hM : M.length = 256) (hl : ∀ e ∈ l, (0 ≤ e.f0 ∧ e.f0 < 16) ∧ 0 ≤ e.f1 ∧ e.f1 < 16) {a b : Nat} (ha : a < 16) (hb : b < 16) :
    (E l a b ∧ dGet (dEdges l M) a b = 1) ∨ (¬ E l a b ∧ dGet (dEdges l M) a b = dGet M a b) := by
  have key : ∀ (l : List IE) (M : List Int), M.length = 256 → (∀ e ∈ l, (0 ≤ e.f0 ∧ e.f0 < 16) ∧ 0 ≤ e.f1 ∧ e.f1 < 16) → dGet (dEdges l M) a b = if E l a b then 1 else dGet M a b := by
    intro l
    induction l with
    | nil => intro M _ _; rw [if_neg (by rintro ⟨e, he, _⟩; simp at he)]; rfl
    | cons e l ih =>
      intro M hM hl
      have h1 := hl e (by simp)
      have e1 : dEdges (e :: l) M = dEdges l (dSet M e.f0.toNat e.f1.toNat 1) := rfl
      rw [e1, ih _ (by rw [dSet_len]; exact hM) (fun x hx => hl x (by simp [hx])), dGet_dSet hM (by omega) (by omega) _ ha hb]
      by_cases h2 : E l a b
      · rw [if_pos h2, if_pos (by obtain ⟨x, hx, h⟩ := h2; exact ⟨x, by simp [hx], h⟩)]
      · rw [if_neg h2]
        by_cases h3 : a = e.f0.toNat ∧ b = e.f1.toNat
        · rw [if_pos h3, if_pos ⟨e, by simp, by omega, by omega⟩]
        · rw [if_neg h3, if_neg]
          rintro ⟨x, hx, hx1, hx2⟩
          rcases List.mem_cons.1 hx with rfl | hx
          · omega
          · exact h2 ⟨x, hx, hx1, hx2⟩
  have h := key l M hM hl
  by_cases h2 : E l a b
  · left; rw [if_pos h2] at h; exact ⟨h2, h⟩
  · right; rw [if_neg h2] at h; exact ⟨h2, h⟩
/-- What a round over k makes of an entry. -/
def upd (D : Nat → Nat → Int) (k a b : Nat) : Int :=
  if D a k < 0 ∨ D k b < 0 then D a b else if D a b < 0 ∨ D a k + D k b < D a b then D a k + D k b else D a b
def goodD (D : Nat → Nat → Int) (B : Int) : Prop := ∀ a b, a < 16 → b < 16 → (D a b = -1 ∨ 0 ≤ D a b) ∧ D a b ≤ B
theorem upd_col {D : Nat → Nat → Int} {B : Int} (h : goodD D B) {k a : Nat} (hk : k < 16) (ha : a < 16) : upd D k a k = D a k := by
  unfold upd
  have h1 := h k k hk hk
  by_cases c : D a k < 0 ∨ D k k < 0
  · rw [if_pos c]
  · rw [if_neg c, if_neg (by omega)]
theorem upd_row {D : Nat → Nat → Int} {B : Int} (h : goodD D B) {k b : Nat} (hk : k < 16) (hb : b < 16) : upd D k k b = D k b := by
  unfold upd
  have h1 := h k k hk hk
  by_cases c : D k k < 0 ∨ D k b < 0
  · rw [if_pos c]
  · rw [if_neg c, if_neg (by omega)]
theorem dStep_get {M : List Int} (hM : M.length = 256) {k i j : Nat} (hk : k < 16) (hi : i < 16) (hj : j < 16) {B : Int} (hB : B ≤ 1000000) (hg : goodD (dGet M) B) {a b : Nat} (ha : a < 16) (hb : b < 16) :
    dGet (dStep k i j M) a b = if a = i ∧ b = j then upd (dGet M) k i j else dGet M a b := by
  have g1 := hg i k hi hk
  have g2 := hg k j hk hj
  have hw : wrap64 (dGet M i k + dGet M k j) = dGet M i k + dGet M k j := w64 (by omega) (by omega)
  unfold dStep upd
  rw [hw]
  by_cases c : dGet M i k < 0 ∨ dGet M k j < 0
  · rw [if_pos c, if_pos c]
    split
    · rename_i h; rw [h.1, h.2]
    · rfl
  · rw [if_neg c, if_neg c]
    by_cases c2 : dGet M i j < 0 ∨ dGet M i k + dGet M k j < dGet M i j
    · rw [if_pos c2, if_pos c2, dGet_dSet hM hi hj _ ha hb]
    · rw [if_neg c2, if_neg c2]
      split
      · rename_i h; rw [h.1, h.2]
      · rfl
theorem upd_good {D : Nat → Nat → Int} {B : Int} (h : goodD D B) {k : Nat} (hk : k < 16) {a b : Nat} (ha : a < 16) (hb : b < 16) : (upd D k a b = -1 ∨ 0 ≤ upd D k a b) ∧ upd D k a b ≤ 2 * B + 2 := by
  have h1 := h a k ha hk
  have h2 := h k b hk hb
  have h3 := h a b ha hb
  unfold upd
  split
  · omega
  · split <;> omega
/-- An entry is as round k makes it, where the row is below i (the column below N), or it is row i and the column below j. -/
def midD (D : Nat → Nat → Int) (k N i j : Nat) (a b : Nat) : Int := if (a < i ∧ b < N) ∨ (a = i ∧ b < j) then upd D k a b else D a b
theorem midD_good {D : Nat → Nat → Int} {B : Int} (h : goodD D B) (hB : 0 ≤ B) {k : Nat} (hk : k < 16) (N i j : Nat) : goodD (midD D k N i j) (2 * B + 2) := by
  intro a b ha hb
  have h1 := upd_good h hk ha hb
  have h2 := h a b ha hb
  unfold midD
  split <;> omega
theorem midD_col {D : Nat → Nat → Int} {B : Int} (h : goodD D B) {k a : Nat} (hk : k < 16) (ha : a < 16) (N i j : Nat) : midD D k N i j a k = D a k := by
  unfold midD
  split
  · exact upd_col h hk ha
  · rfl
theorem midD_row {D : Nat → Nat → Int} {B : Int} (h : goodD D B) {k b : Nat} (hk : k < 16) (hb : b < 16) (N i j : Nat) : midD D k N i j k b = D k b := by
  unfold midD
  split
  · exact upd_row h hk hb
  · rfl
theorem goodD_congr {D D' : Nat → Nat → Int} {B : Int} (h : goodD D B) (he : ∀ a b, a < 16 → b < 16 → D' a b = D a b) : goodD D' B := fun a b ha hb => by rw [he a b ha hb]; exact h a b ha hb
theorem dRunB_get {D : Nat → Nat → Int} {B : Int} (hg : goodD D B) (hB0 : 0 ≤ B) (hB : B ≤ 400000) {k N i : Nat} (hk : k < 16) (hi : i < 16) (hN : N ≤ 16) {M : List Int} (hM : M.length = 256)
    (h : ∀ a b, a < 16 → b < 16 → dGet M a b = midD D k N i 0 a b) {m : Nat} (hm : m ≤ N) : ∀ a b, a < 16 → b < 16 → dGet (dRunB k i m M) a b = midD D k N i m a b := by
  induction m with
  | zero => exact h
  | succ m ih =>
    intro a b ha hb
    have ih := ih (by omega)
    have e : dRunB k i (m + 1) M = dStep k i m (dRunB k i m M) := by simp [dRunB, List.range_succ, List.foldl_append]
    have hgm := goodD_congr (midD_good hg hB0 hk N i m) ih
    rw [e, dStep_get (by rw [dRunB_len]; exact hM) hk hi (by omega) (B := 2 * B + 2) (by omega) hgm ha hb]
    have hu : upd (dGet (dRunB k i m M)) k i m = upd D k i m := by
      unfold upd
      rw [ih i k hi hk, ih k m hk (by omega), ih i m hi (by omega), midD_col hg hk hi, midD_row hg hk (by omega)]
      have : midD D k N i m i m = D i m := by unfold midD; rw [if_neg (by omega)]
      rw [this]
    rw [hu, ih a b ha hb]
    unfold midD
    by_cases c : a = i ∧ b = m
    · rw [if_pos c, if_pos (by omega), c.1, c.2]
    · rw [if_neg c]
      by_cases c2 : (a < i ∧ b < N) ∨ (a = i ∧ b < m)
      · rw [if_pos c2, if_pos (by omega)]
      · rw [if_neg c2, if_neg (by omega)]
theorem dRunA_get {D : Nat → Nat → Int} {B : Int} (hg : goodD D B) (hB0 : 0 ≤ B) (hB : B ≤ 400000) {k N : Nat} (hk : k < 16) (hN : N ≤ 16) {M : List Int} (hM : M.length = 256)
    (h : ∀ a b, a < 16 → b < 16 → dGet M a b = D a b) {m : Nat} (hm : m ≤ N) : ∀ a b, a < 16 → b < 16 → dGet (dRunA N k m M) a b = midD D k N m 0 a b := by
  induction m with
  | zero =>
    intro a b ha hb
    unfold midD
    rw [if_neg (by omega)]
    exact h a b ha hb
  | succ m ih =>
    intro a b ha hb
    have e : dRunA N k (m + 1) M = dRunB k m N (dRunA N k m M) := by simp [dRunA, List.range_succ, List.foldl_append]
    rw [e, dRunB_get hg hB0 hB hk (by omega) hN (by rw [dRunA_len]; exact hM) (ih (by omega)) (Nat.le_refl _) a b ha hb]
    unfold midD
    by_cases c : (a < m ∧ b < N) ∨ (a = m ∧ b < N)
    · rw [if_pos c, if_pos (by omega)]
    · rw [if_neg c, if_neg (by omega)]
/-- What the table tells behind the round k. -/
def tellsK (l : List IE) (k N : Nat) (D : Nat → Nat → Int) : Prop := ∀ a b, a < N → b < N → (D a b = -1 ∧ ∀ m, ¬ Wk l k m a b) ∨ (0 < D a b ∧ Wk l k (D a b).toNat a b ∧ ∀ m, Wk l k m a b → D a b ≤ m)
theorem tells_step {l : List IE} {k N : Nat} {D D' : Nat → Nat → Int} (hk : k < N) (h : tellsK l k N D) (he : ∀ a b, a < N → b < N → D' a b = upd D k a b) : tellsK l (k + 1) N D' := by
  intro a b ha hb
  rw [he a b ha hb]
  have hab := h a b ha hb
  have hak := h a k ha hk
  have hkb := h k b hk hb
  unfold upd
  by_cases c : D a k < 0 ∨ D k b < 0
  · rw [if_pos c]
    have no : ∀ m1 m2, ¬ (Wk l k m1 a k ∧ Wk l k m2 k b) := by
      rintro m1 m2 ⟨h1, h2⟩
      rcases c with c | c
      · rcases hak with ⟨_, hn⟩ | ⟨h0, _⟩
        · exact hn _ h1
        · omega
      · rcases hkb with ⟨_, hn⟩ | ⟨h0, _⟩
        · exact hn _ h2
        · omega
    rcases hab with ⟨e, hn⟩ | ⟨h0, h1, h2⟩
    · left
      refine ⟨e, fun m hm => ?_⟩
      rcases hm.down with ⟨m', _, h'⟩ | ⟨m1, m2, _, g1, g2⟩
      · exact hn _ h'
      · exact no _ _ ⟨g1, g2⟩
    · right
      refine ⟨h0, h1.up, fun m hm => ?_⟩
      rcases hm.down with ⟨m', hle, h'⟩ | ⟨m1, m2, _, g1, g2⟩
      · have := h2 _ h'; omega
      · exact absurd ⟨g1, g2⟩ (no _ _)
  · rw [if_neg c]
    rcases hak with ⟨e, _⟩ | ⟨k0, k1, k2⟩
    · omega
    rcases hkb with ⟨e, _⟩ | ⟨q0, q1, q2⟩
    · omega
    have hw : Wk l (k + 1) (D a k + D k b).toNat a b := by
      rw [show (D a k + D k b).toNat = (D a k).toNat + (D k b).toNat by omega]
      exact .join k1.up q1.up (by omega)
    have lower : ∀ m1 m2, Wk l k m1 a k → Wk l k m2 k b → D a k + D k b ≤ ((m1 + m2 : Nat) : Int) := fun m1 m2 g1 g2 => by
      have := k2 _ g1
      have := q2 _ g2
      omega
    by_cases c2 : D a b < 0 ∨ D a k + D k b < D a b
    · rw [if_pos c2]
      right
      refine ⟨by omega, hw, fun m hm => ?_⟩
      rcases hm.down with ⟨m', hle, h'⟩ | ⟨m1, m2, hle, g1, g2⟩
      · rcases hab with ⟨_, hn⟩ | ⟨h0, h1, h2⟩
        · exact absurd h' (hn _)
        · have := h2 _ h'; omega
      · have := lower _ _ g1 g2; omega
    · rw [if_neg c2]
      rcases hab with ⟨e, _⟩ | ⟨h0, h1, h2⟩
      · omega
      · right
        refine ⟨h0, h1.up, fun m hm => ?_⟩
        rcases hm.down with ⟨m', hle, h'⟩ | ⟨m1, m2, hle, g1, g2⟩
        · have := h2 _ h'; omega
        · have := lower _ _ g1 g2; omega
theorem dRun_tells {l : List IE} {N : Nat} (hN : N ≤ 16) {M : List Int} (hM : M.length = 256) (hg : goodD (dGet M) 1) (h0 : tellsK l 0 N (dGet M)) {m : Nat} (hm : m ≤ N) :
    goodD (dGet (dRun N m M)) (3 * 2 ^ m) ∧ tellsK l m N (dGet (dRun N m M)) := by
  induction m with
  | zero => exact ⟨fun a b ha hb => by have := hg a b ha hb; simp [dRun]; omega, h0⟩
  | succ m ih =>
    obtain ⟨g, t⟩ := ih (by omega)
    have e : dRun N (m + 1) M = dRunA N m N (dRun N m M) := by simp [dRun, List.range_succ, List.foldl_append]
    have hp : (2 : Int) ^ m ≤ 32768 := by
      have h1 : (2 : Nat) ^ m ≤ 2 ^ 15 := Nat.pow_le_pow_right (by omega) (by omega)
      have h2 : ((2 ^ m : Nat) : Int) ≤ ((2 ^ 15 : Nat) : Int) := Int.ofNat_le.2 h1
      simpa using h2
    have hp0 : (1 : Int) ≤ 2 ^ m := by
      have h1 : 0 < (2 : Nat) ^ m := Nat.two_pow_pos m
      have h2 : ((1 : Nat) : Int) ≤ ((2 ^ m : Nat) : Int) := Int.ofNat_le.2 h1
      simpa using h2
    have he := dRunA_get (D := dGet (dRun N m M)) g (by omega) (by omega) (k := m) (by omega) hN (by rw [dRun_len]; exact hM) (fun _ _ _ _ => rfl) (Nat.le_refl N)
    rw [e]
    constructor
    · intro a b ha hb
      rw [he a b ha hb]
      have h1 := midD_good g (by omega) (k := m) (by omega) N N 0 a b ha hb
      rw [Int.pow_succ]
      have h2 := upd_good g (k := m) (by omega) ha hb
      have h3 := g a b ha hb
      have hk1 := g a m ha (by omega)
      have hk2 := g m b (by omega) hb
      unfold midD upd at h1 ⊢
      repeat' split
      all_goals omega
    · refine tells_step (by omega) t (fun a b ha hb => ?_)
      rw [he a b (by omega) (by omega)]
      unfold midD
      rw [if_pos (by omega)]
/-- The program's table of a graph. -/
theorem dist_tells {n : Int} {l : List IE} (hg : graphOk n l = true) : ∃ M, impl_dist.f n l = some M ∧ M.length = 256 ∧
    ∀ a b : Nat, (a : Int) < n → (b : Int) < n → ∃ d : Nat, isDist l a b d ∧ dGet M a b = if d = 0 then -1 else (d : Int) := by
  obtain ⟨hn, hl, he⟩ := (graphOk_iff n l).1 hg
  have hok : ∀ e ∈ l, (0 ≤ e.f0 ∧ e.f0 < 16) ∧ 0 ≤ e.f1 ∧ e.f1 < 16 := fun e hel => by have := he e hel; omega
  have hE : ∀ a b, E l a b → a < n.toNat ∧ b < n.toNat := by
    rintro a b ⟨e, hel, h1, h2⟩
    have := he e hel
    omega
  refine ⟨dRun n.toNat n.toNat (dEdges l (dInit n.toNat n.toNat dZero)), ?_, ?_, ?_⟩
  · unfold impl_dist.f
    rw [if_pos hn, if_pos]
    rw [List.all_eq_true]
    intro e hel
    exact decide_eq_true (hok e hel)
  · rw [dRun_len, dEdges_len, dInit_len]
    simp only [dZero, List.length_replicate]
  · intro a b ha hb
    have hZ : dZero.length = 256 := by simp only [dZero, List.length_replicate]
    have hI : (dInit n.toNat n.toNat dZero).length = 256 := by rw [dInit_len]; exact hZ
    have hMl : (dEdges l (dInit n.toNat n.toNat dZero)).length = 256 := by rw [dEdges_len]; exact hI
    have zero : ∀ a b, a < 16 → b < 16 → dGet dZero a b = 0 := fun a b ha hb => by
      unfold dGet
      rw [getD_lt _ _ (by rw [hZ]; omega)]
      simp only [dZero, List.getElem_replicate]
    have h1 : goodD (dGet (dEdges l (dInit n.toNat n.toNat dZero))) 1 := by
      intro a b ha hb
      have h2 := dInit_get (N := n.toNat) (m := n.toNat) (by omega) (Nat.le_refl _) hZ ha hb
      rw [zero a b ha hb] at h2
      rcases dEdges_get hI hok ha hb with ⟨_, e⟩ | ⟨_, e⟩
      · rw [e]; omega
      · rw [e, h2]; split <;> omega
    have h3 : tellsK l 0 n.toNat (dGet (dEdges l (dInit n.toNat n.toNat dZero))) := by
      intro a b ha hb
      have h2 := dInit_get (N := n.toNat) (m := n.toNat) (by omega) (Nat.le_refl _) hZ (a' := a) (b' := b) (by omega) (by omega)
      rw [if_pos ⟨ha, hb⟩] at h2
      rcases dEdges_get hI hok (a := a) (b := b) (by omega) (by omega) with ⟨hee, e⟩ | ⟨hee, e⟩
      · right
        rw [e]
        refine ⟨by omega, .edge hee, fun m hm => ?_⟩
        have := hm.pos
        omega
      · left
        rw [e, h2]
        exact ⟨rfl, fun m hm => hee hm.zero.2⟩
    obtain ⟨_, ht⟩ := dRun_tells (by omega) hMl h1 h3 (Nat.le_refl n.toNat)
    rcases ht a b (by omega) (by omega) with ⟨e, hn2⟩ | ⟨h0, hw, hmin⟩
    · refine ⟨0, .inl ⟨rfl, ?_⟩, by rw [e]; rfl⟩
      rintro m hm ⟨p, hp, h⟩
      exact hn2 _ (Wk.of hE (by intro e; simp [e] at hp; omega) h)
    · refine ⟨_, .inr ⟨?_, hw.way, ?_⟩, ?_⟩
      · omega
      · rintro m hm0 hm ⟨p, hp, h⟩
        have := hmin _ (Wk.of hE (by intro e; simp [e] at hp; omega) h)
        omega
      · rw [if_neg (by omega)]
        omega
/-! The reference's rounds. -/
def stepB (N : Nat) (l : List IE) (f : List Bool) : List Bool := (List.range N).map fun v : Nat => l.any fun e => decide (e.f1 = (v : Int)) && rdOf false f e.f0
/-- Where m steps lead from a. -/
theorem rd_boolmap {N : Nat} (p : Nat → Bool) {x : Int} (h0 : 0 ≤ x) (h1 : x < (N : Int)) : rdOf false ((List.range N).map p) x = p x.toNat := by
  obtain ⟨y, rfl⟩ : ∃ y : Nat, x = (y : Int) := ⟨x.toNat, by omega⟩
  rw [rdOf_lt _ _ (by simp; omega)]
  simp
noncomputable def wayB (l : List IE) (m a v : Nat) : Bool := @decide (Way l m a v) (Classical.propDecidable _)
theorem wayB_iff {l : List IE} {m a v : Nat} : wayB l m a v = true ↔ Way l m a v := by
  unfold wayB
  exact @decide_eq_true_iff _ (Classical.propDecidable _)
noncomputable def nextV (l : List IE) (a m : Nat) (es : List IE) (v : Nat) : Bool := @decide (∃ e ∈ es, e.f1 = (v : Int) ∧ Way l m a e.f0.toNat) (Classical.propDecidable _)
theorem nextV_iff {l : List IE} {a m : Nat} {es : List IE} {v : Nat} : nextV l a m es v = true ↔ ∃ e ∈ es, e.f1 = (v : Int) ∧ Way l m a e.f0.toNat := by
  unfold nextV
  exact @decide_eq_true_iff _ (Classical.propDecidable _)
noncomputable def atB (N : Nat) (l : List IE) (a m : Nat) : List Bool := (List.range N).map (wayB l m a)
theorem atB_len (N : Nat) (l : List IE) (a m : Nat) : (atB N l a m).length = N := by simp [atB]
theorem atB_get {N : Nat} {l : List IE} {a m : Nat} {x : Int} (h0 : 0 ≤ x) (h1 : x < (N : Int)) : rdOf false (atB N l a m) x = true ↔ Way l m a x.toNat := by
  unfold atB
  rw [rd_boolmap _ h0 h1]
  exact wayB_iff
noncomputable def nextB (N : Nat) (l : List IE) (a m : Nat) (es : List IE) : List Bool := (List.range N).map (nextV l a m es)
theorem nextB_len (N : Nat) (l : List IE) (a m : Nat) (es : List IE) : (nextB N l a m es).length = N := by simp [nextB]
theorem nextB_all {N : Nat} {l : List IE} {a m : Nat} (hl : ∀ e ∈ l, 0 ≤ e.f0) : nextB N l a m l = atB N l a (m + 1) := by
  unfold nextB atB
  congr 1
  funext v
  rw [Bool.eq_iff_iff, nextV_iff, wayB_iff, Way.snoc]
  constructor
  · rintro ⟨e, he, h1, h2⟩
    exact ⟨e.f0.toNat, h2, e, he, by have := hl e he; omega, h1⟩
  · rintro ⟨c, h2, e, he, h3, h1⟩
    exact ⟨e, he, h1, by rw [h3, Int.toNat_natCast]; exact h2⟩
theorem l14Way_ev {n : Int} {l : List IE} (hg : graphOk n l = true) {a b : Nat} (ha : (a : Int) < n) (hb : (b : Int) < n) : ∃ d : Nat, isDist l a b d ∧ Ev (fun k => spec_l14Way.f k n l (a : Int) (b : Int)) (d : Int) := by
  obtain ⟨hn, hlen, he⟩ := (graphOk_iff n l).1 hg
  have hE : ∀ a b, E l a b → a < n.toNat ∧ b < n.toNat := by
    rintro a b ⟨e, hel, h1, h2⟩
    have := he e hel
    omega
  obtain ⟨N, rfl⟩ : ∃ N : Nat, n = (N : Int) := ⟨n.toNat, by omega⟩
  rw [Int.toNat_natCast] at hE
  -- from a number of steps on
  have key : ∀ (q m : Nat), m + q = N → (∀ j, 0 < j → j ≤ m → ¬ Way l j a b) → ∃ d : Nat, isDist l a b d ∧ Ev (fun k => spec_l14Way.l0 k (N : Int) l (b : Int) (atB N l a m) ((m + 1 : Nat) : Int)) (d : Int) := by
    intro q
    induction q with
    | zero =>
      intro m hm hno
      refine ⟨0, .inl ⟨rfl, ?_⟩, Ev.succ (fun k => ?_)⟩
      · rintro j hj ⟨p, hp, h⟩
        obtain ⟨q, g1, g2, g3, g4⟩ := isWay_short hE (by intro e; simp [e] at hp; omega) h
        exact hno q.length (List.length_pos_iff.2 g2) (by omega) ⟨q, rfl, g1⟩
      · simp only [spec_l14Way.l0]
        rw [if_neg (by omega)]
        rfl
    | succ q ih =>
      intro m hm hno
      -- the edges
      have inner : ∀ (t i : Nat) (r : Int), i + t = l.length → Ev (fun k => spec_l14Way.l1 k (N : Int) l (b : Int) (atB N l a m) ((m + 1 : Nat) : Int) (nextB N l a m l) (l.length : Int)) r →
          Ev (fun k => spec_l14Way.l1 k (N : Int) l (b : Int) (atB N l a m) ((m + 1 : Nat) : Int) (nextB N l a m (l.take i)) (i : Int)) r := by
        intro t
        induction t with
        | zero =>
          intro i r hi hr
          obtain rfl : i = l.length := by omega
          rw [List.take_length]
          exact hr
        | succ t iht =>
          intro i r hi hr
          have h : i < l.length := by omega
          have h1 := he l[i] (List.getElem_mem h)
          have hn2 := iht (i + 1) r (by omega) hr
          refine Ev.step (fun k => ?_) hn2
          simp only [spec_l14Way.l1]
          rw [if_pos (by omega), if_pos (by omega), rd_IE h, if_pos (by omega), atB_len, if_pos (by omega), w64_succ h (by omega)]
          have ts : l.take (i + 1) = l.take i ++ [l[i]] := List.take_succ_eq_append_getElem h
          by_cases hc : rdOf false (atB N l a m) l[i].f0 = true
          · rw [if_pos hc, if_pos (by omega), nextB_len, if_pos (by omega)]
            congr 1
            rw [ts]
            apply List.ext_getElem
            · simp [nextB]
            · intro v h2 h3
              simp only [nextB, List.length_set, List.length_map, List.length_range] at h2
              rw [List.getElem_set]
              simp only [nextB, List.getElem_map, List.getElem_range]
              have hw := (atB_get (by omega) (by omega)).1 hc
              by_cases hv : l[i].f1.toNat = v
              · rw [if_pos hv]
                exact (nextV_iff.2 ⟨l[i], List.mem_append_right _ (List.mem_singleton.2 rfl), by omega, hw⟩).symm
              · rw [if_neg hv, Bool.eq_iff_iff, nextV_iff, nextV_iff]
                constructor
                · rintro ⟨e, hel, g1, g2⟩; exact ⟨e, List.mem_append_left _ hel, g1, g2⟩
                · rintro ⟨e, hel, g1, g2⟩
                  rcases List.mem_append.1 hel with hel | hel
                  · exact ⟨e, hel, g1, g2⟩
                  · rw [List.mem_singleton.1 hel] at g1
                    omega
          · rw [if_neg hc]
            congr 1
            rw [ts]
            unfold nextB
            congr 1
            funext v
            rw [Bool.eq_iff_iff, nextV_iff, nextV_iff]
            constructor
            · rintro ⟨e, hel, g1, g2⟩; exact ⟨e, List.mem_append_left _ hel, g1, g2⟩
            · rintro ⟨e, hel, g1, g2⟩
              rcases List.mem_append.1 hel with hel | hel
              · exact ⟨e, hel, g1, g2⟩
              · rw [List.mem_singleton.1 hel] at g2
                exact absurd ((atB_get (by omega) (by omega)).2 g2) hc
      have e0 : List.replicate N false = nextB N l a m (l.take 0) := by
        apply List.ext_getElem
        · simp [nextB]
        · intro j h1 h2
          simp only [nextB, List.getElem_replicate, List.getElem_map, List.take_zero]
          symm
          rw [Bool.eq_false_iff]
          intro h
          obtain ⟨e, he, _⟩ := nextV_iff.1 h
          simp at he
      have close : ∀ r : Int, Ev (fun k => spec_l14Way.l1 k (N : Int) l (b : Int) (atB N l a m) ((m + 1 : Nat) : Int) (nextB N l a m l) (l.length : Int)) r → Ev (fun k => spec_l14Way.l0 k (N : Int) l (b : Int) (atB N l a m) ((m + 1 : Nat) : Int)) r := by
        intro r hr
        have h := inner l.length 0 r (by omega) hr
        rw [← e0] at h
        refine Ev.step (fun k => ?_) h
        simp only [spec_l14Way.l0]
        rw [if_pos (by omega), if_pos (by omega), if_pos (by omega), Int.toNat_natCast]
        rfl
      rw [nextB_all (fun e hel => (he e hel).1.1)] at close
      by_cases hw : Way l (m + 1) a b
      · refine ⟨m + 1, .inr ⟨by omega, hw, fun j hj hlt => hno j hj (by omega)⟩, close _ (Ev.succ (fun k => ?_))⟩
        simp only [spec_l14Way.l1]
        rw [if_neg (by omega), if_pos (by omega), atB_len, if_pos (by omega), if_pos ((atB_get (by omega) (by omega)).2 (by rw [Int.toNat_natCast]; exact hw))]
      · obtain ⟨d, hd, hev⟩ := ih (m + 1) (by omega) (fun j hj hle => by
          by_cases e : j = m + 1
          · rw [e]; exact hw
          · exact hno j hj (by omega))
        refine ⟨d, hd, close _ (Ev.step (fun k => ?_) hev)⟩
        simp only [spec_l14Way.l1]
        rw [if_neg (by omega), if_pos (by omega), atB_len, if_pos (by omega), if_neg (by
          intro hc
          have := (atB_get (by omega) (by omega)).1 hc
          rw [Int.toNat_natCast] at this
          exact hw this), w64_nat _ (by omega)]
  obtain ⟨d, hd, hev⟩ := key N 0 (by omega) (fun j hj hle => by omega)
  refine ⟨d, hd, ?_⟩
  unfold spec_l14Way.f
  refine Ev.congr (fun k => if_pos (by omega)) (Ev.congr (fun k => if_pos (by omega)) ?_)
  simp only [Option.bind_some]
  refine Ev.congr (fun k => if_pos (by omega)) (Ev.congr (fun k => if_pos (by rw [List.length_replicate]; omega)) ?_)
  have e : (List.replicate N false).set a true = atB N l a 0 := by
    apply List.ext_getElem
    · simp [atB]
    · intro j h1 h2
      rw [List.getElem_set]
      simp only [atB, List.getElem_map, List.getElem_range, List.getElem_replicate]
      by_cases h : a = j
      · rw [if_pos h]
        exact (wayB_iff.2 ⟨[], rfl, h⟩).symm
      · rw [if_neg h]
        symm
        rw [Bool.eq_false_iff]
        intro hc
        obtain ⟨p, hp, hw⟩ := wayB_iff.1 hc
        rw [List.length_eq_zero_iff.1 hp] at hw
        exact h hw
  rw [Int.toNat_natCast, Int.toNat_natCast, e]
  exact hev

-- chunk canon: the canonical order
def nextOf (N : Nat) (l : List IE) (o : List Int) : Option Nat := least (fun x => freeB l o (x : Int)) N
/-- m more numbers behind o. -/
def canonG (N : Nat) (l : List IE) : Nat → List Int → Option (List Int)
  | 0, o => some o
  | m + 1, o => match nextOf N l o with
    | some x => canonG N l m (o ++ [(x : Int)])
    | none => none
def canonP (n : Int) (l : List IE) : Option (List Int) := canonG n.toNat l n.toNat []
def pairOf : Option (List Int) → List Int × Bool
  | some o => (o, true)
  | none => ([], false)
theorem impl_canon_ev (n : Int) (l : List IE) (h0 : 0 ≤ n) (h1 : n ≤ 16) (hl : l.length ≤ 200) : Ev (fun k => impl_canon.f k n l) (pairOf (canonP n l)) := by
  unfold impl_canon.f canonP
  have key : ∀ (m : Nat) (o : List Int), o.length + m = n.toNat → Ev (fun k => impl_canon.l0 k n l o) (pairOf (canonG n.toNat l m o)) := by
    intro m
    induction m with
    | zero =>
      intro o ho
      refine Ev.succ (fun k => ?_)
      simp only [impl_canon.l0]
      rw [if_neg (by omega)]
      rfl
    | succ m ih =>
      intro o ho
      refine Ev.step (f := fun k => impl_canon.l1 k n l o (-1) ((n.toNat : Int) - 1)) (fun k => ?_) ?_
      · simp only [impl_canon.l0]
        rw [if_pos (by omega), w64 (by omega) (by omega), Int.toNat_of_nonneg h0]
      · refine down_least (fun x => freeB l o (x : Int)) n.toNat (fun k s i => impl_canon.l1 k n l o s i) _ (fun i hi s hr => ?_) ?_
        · refine Ev.step (f := fun k => (impl_free.f k l o (i : Int)).bind fun t => if t = true then impl_canon.l1 k n l o (i : Int) ((i : Int) - 1) else impl_canon.l1 k n l o s ((i : Int) - 1)) (fun k => ?_) ?_
          · simp only [impl_canon.l1]
            rw [if_pos (by omega), w64 (x := (i : Int) - 1) (by omega) (by omega)]
          · refine Ev.bind (impl_free_ev (i : Int) (by omega) (by omega)) ?_
            cases hf : freeB l o (i : Int) <;> simpa [hf] using hr
        · rw [seen_zero]
          show Ev _ (pairOf (canonG n.toNat l (m + 1) o))
          unfold canonG
          have e : nextOf n.toNat l o = least (fun x => freeB l o (x : Int)) n.toNat := rfl
          rw [e]
          cases hq : least (fun x => freeB l o (x : Int)) n.toNat with
          | none =>
            refine Ev.succ (fun k => ?_)
            simp only [impl_canon.l1]
            rw [if_neg (by omega), if_pos (by omega)]
            rfl
          | some x =>
            refine Ev.step (f := fun k => impl_canon.l0 k n l (o ++ [(x : Int)])) (fun k => ?_) (ih _ (by simp; omega))
            simp only [impl_canon.l1]
            rw [if_neg (by omega), if_neg (by omega), if_pos (by omega)]
  exact key n.toNat [] (by simp)
theorem impl_Canon_ev (n : Int) (l : List IE) : Ev (fun k => impl_Canon.f k n l) (if graphOk n l then pairOf (canonP n l) else ([], false)) := by
  unfold impl_Canon.f
  refine Ev.bind (impl_GraphOk_ev n l) ?_
  cases hg : graphOk n l with
  | false => exact Ev.of_eq fun k => rfl
  | true =>
    obtain ⟨hn, hl, _⟩ := (graphOk_iff n l).1 hg
    simp only [if_true]
    exact Ev.bind (impl_canon_ev n l hn.1 hn.2 hl) (Ev.of_eq fun k => rfl)
/-- The reference's flags of a list of numbers. -/
def flags (N : Nat) (o : List Int) : List Bool := (List.range N).map fun x : Nat => decide ((x : Int) ∈ o)
theorem flags_len (N : Nat) (o : List Int) : (flags N o).length = N := by simp [flags]
theorem rd_flags {N : Nat} {o : List Int} {x : Int} (h0 : 0 ≤ x) (h1 : x < (N : Int)) : rdOf false (flags N o) x = decide (x ∈ o) := by
  obtain ⟨y, rfl⟩ : ∃ y : Nat, x = (y : Int) := ⟨x.toNat, by omega⟩
  rw [rdOf_lt _ _ (by rw [flags_len]; omega)]
  simp [flags]
theorem flags_set {N : Nat} {o : List Int} {x : Nat} (h : x < N) : (flags N o).set x true = flags N (o ++ [(x : Int)]) := by
  apply List.ext_getElem
  · simp [flags]
  · intro j h1 h2
    simp [flags, List.getElem_set] at h1 h2 ⊢
    by_cases e : x = j
    · simp [e]
    · have : (j : Int) ≠ (x : Int) := by omega
      simp [e, this]
theorem l14Ready_ev {N : Nat} {l : List IE} {o : List Int} {x : Int} (h0 : 0 ≤ x) (h1 : x < (N : Int)) (hl : l.length ≤ 9223372036854775807) (he : ∀ e ∈ l, 0 ≤ e.f0 ∧ e.f0 < (N : Int)) :
    Ev (fun k => spec_l14Ready.f k l (flags N o) x) (freeB l o x) := by
  unfold spec_l14Ready.f
  refine Ev.congr (fun k => if_pos h0) (Ev.congr (fun k => if_pos (by rw [flags_len]; exact h1)) ?_)
  rw [rd_flags h0 h1]
  by_cases hx : x ∈ o
  · rw [show freeB l o x = false by simp [freeB, hx]]
    exact Ev.of_eq fun k => by simp [hx]
  · have hf : freeB l o x = (l.drop 0).all (edgeFree o x) := by simp [freeB, hx]
    rw [hf]
    refine Ev.congr (fun k => if_neg (by simp [hx])) ?_
    refine all_ev l (edgeFree o x) (fun k i => spec_l14Ready.l0 k l (flags N o) x i) (fun i h hp r hr => ?_) (fun i h hp => ?_) ?_ 0 (by omega)
    · have h2 := he l[i] (List.getElem_mem h)
      refine Ev.step (fun k => ?_) hr
      simp only [spec_l14Ready.l0]
      rw [if_pos (by omega), if_pos (by omega), rd_IE h, flags_len, w64_succ h hl]
      by_cases e : l[i].f1 = x
      · have : l[i].f0 ∈ o := by simpa [edgeFree, e] using hp
        rw [if_pos e, if_pos h2.1, if_pos h2.2, rd_flags h2.1 h2.2, if_pos (by simpa using this)]
      · rw [if_neg e]
    · have h2 := he l[i] (List.getElem_mem h)
      have e : l[i].f1 = x := by
        apply Classical.byContradiction
        intro hn
        simp [edgeFree, hn] at hp
      have hn : l[i].f0 ∉ o := by simpa [edgeFree, e] using hp
      refine Ev.succ (fun k => ?_)
      simp only [spec_l14Ready.l0]
      rw [if_pos (by omega), if_pos (by omega), rd_IE h, flags_len, if_pos e, if_pos h2.1, if_pos h2.2, rd_flags h2.1 h2.2, if_neg (by simpa using hn)]
    · refine Ev.succ (fun k => ?_)
      simp only [spec_l14Ready.l0]
      rw [if_neg (by omega)]
theorem spec_Canon_ev (n : Int) (l : List IE) : Ev (fun k => spec_Canon.f k n l) (if graphOk n l then pairOf (canonP n l) else ([], false)) := by
  unfold spec_Canon.f
  refine Ev.bind (spec_GraphOk_ev n l) ?_
  cases hg : graphOk n l with
  | false => exact Ev.of_eq fun k => rfl
  | true =>
    obtain ⟨hn, hl, he⟩ := (graphOk_iff n l).1 hg
    have h0 := hn.1
    have h1 := hn.2
    simp only [if_true]
    refine Ev.congr (fun k => if_pos h0) (Ev.congr (fun k => if_pos (by omega)) ?_)
    have key : ∀ (m : Nat) (o : List Int), o.length + m = n.toNat → Ev (fun k => spec_Canon.l0 k n l o (flags n.toNat o)) (pairOf (canonG n.toNat l m o)) := by
      intro m
      induction m with
      | zero =>
        intro o ho
        refine Ev.succ (fun k => ?_)
        simp only [spec_Canon.l0]
        rw [if_neg (by omega)]
        rfl
      | succ m ih =>
        intro o ho
        refine Ev.step (f := fun k => spec_Canon.l1 k n l o (flags n.toNat o) (-1) ((n.toNat : Int) - 1)) (fun k => ?_) ?_
        · simp only [spec_Canon.l0]
          rw [if_pos (by omega), w64 (by omega) (by omega), Int.toNat_of_nonneg h0]
        · refine down_least (fun x => freeB l o (x : Int)) n.toNat (fun k s i => spec_Canon.l1 k n l o (flags n.toNat o) s i) _ (fun i hi s hr => ?_) ?_
          · refine Ev.step (f := fun k => (spec_l14Ready.f k l (flags n.toNat o) (i : Int)).bind fun t => if t = true then spec_Canon.l1 k n l o (flags n.toNat o) (i : Int) ((i : Int) - 1) else spec_Canon.l1 k n l o (flags n.toNat o) s ((i : Int) - 1)) (fun k => ?_) ?_
            · simp only [spec_Canon.l1]
              rw [if_pos (by omega), w64 (x := (i : Int) - 1) (by omega) (by omega)]
            · refine Ev.bind (l14Ready_ev (by omega) (by omega) (by omega) (fun e hel => ⟨(he e hel).1.1, by have := (he e hel).1.2; omega⟩)) ?_
              cases hf : freeB l o (i : Int) <;> simpa [hf] using hr
          · rw [seen_zero]
            show Ev _ (pairOf (canonG n.toNat l (m + 1) o))
            unfold canonG
            have e : nextOf n.toNat l o = least (fun x => freeB l o (x : Int)) n.toNat := rfl
            rw [e]
            cases hq : least (fun x => freeB l o (x : Int)) n.toNat with
            | none =>
              refine Ev.succ (fun k => ?_)
              simp only [spec_Canon.l1]
              rw [if_neg (by omega), if_pos (by omega)]
              rfl
            | some x =>
              have hx := (least_some hq).1
              refine Ev.step (f := fun k => spec_Canon.l0 k n l (o ++ [(x : Int)]) (flags n.toNat (o ++ [(x : Int)]))) (fun k => ?_) (ih _ (by simp; omega))
              simp only [spec_Canon.l1]
              rw [if_neg (by omega), if_neg (by omega), if_pos (by omega), flags_len, if_pos (by omega), if_pos (by omega), Int.toNat_natCast, flags_set hx]
    have h := key n.toNat [] (by simp)
    have e : List.replicate n.toNat false = flags n.toNat [] := by
      apply List.ext_getElem
      · simp [flags]
      · intro j h1 h2; simp [flags]
    rw [e]
    exact h

-- chunk circle: the shortest circle, of the program and of the reference
theorem dist_of {l : List IE} {a b : Nat} : ∀ m, 0 < m → Way l m a b → ∃ d, isDist l a b d := by
  intro m
  induction m using Nat.strongRecOn with
  | _ m ih =>
    intro hm hw
    by_cases h : ∃ j, 0 < j ∧ j < m ∧ Way l j a b
    · obtain ⟨j, hj, hlt, hw2⟩ := h
      exact ih j hlt hj hw2
    · exact ⟨m, .inr ⟨hm, hw, fun j hj hlt hw2 => h ⟨j, hj, hlt, hw2⟩⟩⟩
theorem dist_ex (l : List IE) (a b : Nat) : ∃ d, isDist l a b d := by
  by_cases h : ∃ m, 0 < m ∧ Way l m a b
  · obtain ⟨m, hm, hw⟩ := h
    exact dist_of m hm hw
  · exact ⟨0, .inl ⟨rfl, fun m hm hw => h ⟨m, hm, hw⟩⟩⟩
noncomputable def dN (l : List IE) (a b : Nat) : Nat := Classical.choose (dist_ex l a b)
theorem dN_is (l : List IE) (a b : Nat) : isDist l a b (dN l a b) := Classical.choose_spec (dist_ex l a b)
theorem dN_eq {l : List IE} {a b d : Nat} (h : isDist l a b d) : dN l a b = d := isDist_unique (dN_is l a b) h
theorem dN_next {l : List IE} {a b d : Nat} (h : dN l a b = d + 2) : ∃ v, E l a v ∧ dN l v b = d + 1 := by
  have h1 := dN_is l a b
  rw [h] at h1
  rcases h1 with ⟨h0, _⟩ | ⟨_, ⟨p, hp, hw⟩, hmin⟩
  · omega
  · match p, hp with
    | v :: q, hq =>
      refine ⟨v, hw.1, dN_eq (.inr ⟨by omega, ⟨q, by simpa using hq, hw.2⟩, fun m hm hlt hw2 => ?_⟩)⟩
      exact hmin (1 + m) (by omega) (by omega) (Way.join (Way.one.2 hw.1) hw2)
theorem edge_within {n : Int} {l : List IE} (hg : graphOk n l = true) {a b : Nat} (h : E l a b) : (a : Int) < n ∧ (b : Int) < n := by
  obtain ⟨_, _, he⟩ := (graphOk_iff n l).1 hg
  obtain ⟨e, hel, h1, h2⟩ := h
  have := he e hel
  omega
def encO : Option Nat → Int
  | none => -1
  | some p => (p : Int)
def leO (D : Nat → Nat) (x : Nat) : Option Nat → Bool
  | none => true
  | some p => decide (x ≤ D p)
def cirAt (D : Nat → Nat) : Nat → Option Nat → Option Nat
  | 0, q => q
  | j + 1, q => cirAt D j (if 0 < D j ∧ leO D (D j) q = true then some j else q)
theorem cirAt_pos {D : Nat → Nat} {N : Nat} {i : Nat} {q : Option Nat} (hi : i ≤ N) (hq : ∀ p, q = some p → 0 < D p ∧ p < N) : ∀ p, cirAt D i q = some p → 0 < D p ∧ p < N := by
  induction i generalizing q with
  | zero => exact hq
  | succ j ih =>
    unfold cirAt
    refine ih (by omega) ?_
    intro p hp
    split at hp
    · rename_i h
      injection hp with hp
      subst hp
      exact ⟨h.1, by omega⟩
    · exact hq p hp
def tableOf (l : List IE) (N : Nat) (M : List Int) : Prop := ∀ a b, a < N → b < N → dGet M a b = if dN l a b = 0 then -1 else (dN l a b : Int)
noncomputable def nextC (l : List IE) (q : Nat) (last : Int) (left : Nat) (v : Nat) : Bool := decide (E l last.toNat v) && decide (dN l v q = left)
noncomputable def cwalk (l : List IE) (N q : Nat) : Nat → List Int → List Int
  | 0, o => o
  | m + 1, o => match (List.range N).find? (nextC l q (o.getLastD 0) (m + 1)) with
    | some v => cwalk l N q m (o ++ [(v : Int)])
    | none => cwalk l N q m o
theorem dN_one {l : List IE} {a b : Nat} : dN l a b = 1 ↔ E l a b := by
  constructor
  · intro h
    have h1 := dN_is l a b
    rw [h] at h1
    rcases h1 with ⟨h0, _⟩ | ⟨_, hw, _⟩
    · omega
    · exact Way.one.1 hw
  · intro h
    exact dN_eq (.inr ⟨by omega, Way.one.2 h, fun m hm hlt => by omega⟩)
theorem find_congr {α : Type} {p q : α → Bool} {xs : List α} (h : ∀ x ∈ xs, p x = q x) : xs.find? p = xs.find? q := by
  induction xs with
  | nil => rfl
  | cons a xs ih =>
    rw [List.find?_cons, List.find?_cons, h a (by simp), ih (fun x hx => h x (by simp [hx]))]
noncomputable def circP (l : List IE) (N : Nat) : List Int := match cirAt (fun j => dN l j j) N none with
  | none => []
  | some q => cwalk l N q (dN l q q - 1) [(q : Int)]
noncomputable def circleP (n : Int) (l : List IE) : List Int := if graphOk n l = true then circP l n.toNat else []
theorem way_dN {n : Int} {l : List IE} (hg : graphOk n l = true) {a b : Nat} (ha : (a : Int) < n) (hb : (b : Int) < n) : Ev (fun k => spec_l14Way.f k n l (a : Int) (b : Int)) (dN l a b : Int) := by
  obtain ⟨d, hd, h⟩ := l14Way_ev hg ha hb
  rw [dN_eq hd]
  exact h
def bestOf (D : Nat → Nat) : Option Nat → Int
  | none => 0
  | some p => (D p : Int)
def firstOf : Option Nat → Int
  | none => 0
  | some p => (p : Int)
theorem cwalk_len (l : List IE) (N q m : Nat) (o : List Int) : (cwalk l N q m o).length ≤ o.length + m := by
  induction m generalizing o with
  | zero => exact Nat.le_refl _
  | succ m ih =>
    unfold cwalk
    split
    · refine Nat.le_trans (ih _) ?_
      simp; omega
    · exact Nat.le_trans (ih _) (by omega)
theorem circleP_len (n : Int) (l : List IE) : (circleP n l).length ≤ 16 := by
  unfold circleP
  split
  · rename_i hg
    obtain ⟨hn, hlen, he⟩ := (graphOk_iff n l).1 hg
    unfold circP
    cases hc : cirAt (fun j => dN l j j) n.toNat none with
    | none => simp
    | some q =>
      have hq := cirAt_pos (N := n.toNat) (Nat.le_refl _) (fun p hp => by cases hp) q hc
      have hle : dN l q q ≤ n.toNat := isDist_le (N := n.toNat) (fun a b h => by have := edge_within hg h; omega) (dN_is l q q)
      have := cwalk_len l n.toNat q (dN l q q - 1) [(q : Int)]
      simp at this
      have h0 := hq.1
      simp only
      omega
  · simp

-- chunk reduced: what is left of a graph without the edges that a longer way stands for
def qAny (D : Nat → Nat → Bool) (a b m : Nat) : Bool := (List.range m).any fun k => D a k && D k b
theorem qAny_succ (D : Nat → Nat → Bool) (a b m : Nat) : qAny D a b (m + 1) = (qAny D a b m || (D a m && D m b)) := by
  unfold qAny
  rw [List.range_succ, List.any_append]
  simp
def qStep (D : Nat → Nat → Bool) (N a : Nat) (o : List IE) (b : Nat) : List IE := if D a b = true ∧ qAny D a b N = false then o ++ [(⟨(a : Int), (b : Int)⟩ : IE)] else o
def qB (D : Nat → Nat → Bool) (N a m : Nat) (o : List IE) : List IE := (List.range m).foldl (qStep D N a) o
theorem qB_succ (D : Nat → Nat → Bool) (N a m : Nat) (o : List IE) : qB D N a (m + 1) o = qStep D N a (qB D N a m o) m := by
  unfold qB
  rw [List.range_succ, List.foldl_append]
  rfl
def qA (D : Nat → Nat → Bool) (N m : Nat) (o : List IE) : List IE := (List.range m).foldl (fun o a => qB D N a N o) o
theorem qA_succ (D : Nat → Nat → Bool) (N m : Nat) (o : List IE) : qA D N (m + 1) o = qB D N m N (qA D N m o) := by
  unfold qA
  rw [List.range_succ, List.foldl_append]
  rfl
theorem qStep_len (D : Nat → Nat → Bool) (N a : Nat) (o : List IE) (b : Nat) : (qStep D N a o b).length ≤ o.length + 1 := by
  unfold qStep
  split <;> simp
theorem qB_len (D : Nat → Nat → Bool) (N a m : Nat) (o : List IE) : (qB D N a m o).length ≤ o.length + m := by
  induction m with
  | zero => exact Nat.le_refl _
  | succ m ih =>
    rw [qB_succ]
    have := qStep_len D N a (qB D N a m o) m
    omega
theorem qA_len (D : Nat → Nat → Bool) (N m : Nat) (o : List IE) : (qA D N m o).length ≤ o.length + m * N := by
  induction m with
  | zero => simp [qA]
  | succ m ih =>
    rw [qA_succ, Nat.add_mul]
    have := qB_len D N m N (qA D N m o)
    omega
noncomputable def posB (l : List IE) (a b : Nat) : Bool := decide (0 < dN l a b)
noncomputable def redP (n : Int) (l : List IE) : List IE := qA (posB l) n.toNat n.toNat []
noncomputable def reducedP (n : Int) (l : List IE) : List IE := if graphOk n l = true ∧ (canonP n l).isSome = true then redP n l else []
theorem reducedP_len (n : Int) (l : List IE) : (reducedP n l).length ≤ 256 := by
  unfold reducedP
  split
  · rename_i h
    obtain ⟨hn, _, _⟩ := (graphOk_iff n l).1 h.1
    have h1 := qA_len (posB l) n.toNat n.toNat []
    have h2 : n.toNat * n.toNat ≤ 16 * 16 := Nat.mul_le_mul (by omega) (by omega)
    unfold redP
    simp only [List.length_nil] at h1
    omega
  · simp
theorem table_pos {l : List IE} {N : Nat} {M : List Int} (hM : tableOf l N M) {a b : Nat} (ha : a < N) (hb : b < N) : decide (0 < dGet M a b) = posB l a b := by
  unfold posB
  have h := hM a b ha hb
  rw [h]
  refine decide_eq_decide.2 ?_
  split <;> omega
theorem rAny_eq {l : List IE} {N : Nat} {M : List Int} (hM : tableOf l N M) {a b m : Nat} (ha : a < N) (hb : b < N) (hm : m ≤ N) : rAny M a b m = qAny (posB l) a b m := by
  induction m with
  | zero => rfl
  | succ m ih =>
    have e : rAny M a b (m + 1) = (rAny M a b m || (decide (0 < dGet M a m) && decide (0 < dGet M m b))) := by
      unfold rAny
      rw [List.range_succ, List.any_append]
      simp
    rw [e, qAny_succ, ih (by omega), table_pos hM ha (by omega), table_pos hM (by omega) hb]
theorem rStep_eq {l : List IE} {N : Nat} {M : List Int} (hM : tableOf l N M) {a b : Nat} (ha : a < N) (hb : b < N) (o : List IE) : rStep M N a o b = qStep (posB l) N a o b := by
  unfold rStep qStep
  rw [rAny_eq hM ha hb (Nat.le_refl _)]
  have h := table_pos hM ha hb
  by_cases c : 0 < dGet M a b
  · rw [decide_eq_true c] at h
    rw [← h]
    simp [c]
  · rw [decide_eq_false c] at h
    rw [← h]
    simp [c]
theorem rB_eq {l : List IE} {N : Nat} {M : List Int} (hM : tableOf l N M) {a m : Nat} (ha : a < N) (hm : m ≤ N) (o : List IE) : rB M N a m o = qB (posB l) N a m o := by
  induction m with
  | zero => rfl
  | succ m ih =>
    have e : rB M N a (m + 1) o = rStep M N a (rB M N a m o) m := by
      unfold rB
      rw [List.range_succ, List.foldl_append]
      rfl
    rw [e, qB_succ, ih (by omega), rStep_eq hM ha (by omega)]
theorem rA_eq {l : List IE} {N : Nat} {M : List Int} (hM : tableOf l N M) {m : Nat} (hm : m ≤ N) (o : List IE) : rA M N m o = qA (posB l) N m o := by
  induction m with
  | zero => rfl
  | succ m ih =>
    have e : rA M N (m + 1) o = rB M N m N (rA M N m o) := by
      unfold rA
      rw [List.range_succ, List.foldl_append]
      rfl
    rw [e, qA_succ, ih (by omega), rB_eq hM (by omega) (Nat.le_refl _)]
theorem impl_Reduced_ev (n : Int) (l : List IE) : Ev (fun k => impl_Reduced.f k n l) (reducedP n l) := by
  unfold impl_Reduced.f reducedP
  refine Ev.bind (impl_Canon_ev n l) ?_
  cases hg : graphOk n l with
  | false => exact Ev.of_eq fun k => by simp
  | true =>
    cases hc : canonP n l with
    | none => exact Ev.of_eq fun k => by simp [pairOf]
    | some o =>
      obtain ⟨hn, hlen, he⟩ := (graphOk_iff n l).1 hg
      obtain ⟨M, e, hML, ht⟩ := dist_tells hg
      have hM : tableOf l n.toNat M := fun a b ha hb => by
        obtain ⟨d, hd, hm⟩ := ht a b (by omega) (by omega)
        rw [hm, dN_eq hd]
      refine Ev.of_eq fun k => ?_
      rw [e, if_pos (by simp [pairOf]), if_pos (by simp)]
      simp only [Option.bind_some]
      rw [rA_eq hM (Nat.le_refl _)]
      rfl

-- chunk ints: lists of numbers are copied, and the same as themselves
/-- Lists of edges that are written: only how many, and that it goes. -/
theorem markEdgeS_ev {l : List IE} (a : Int) (hl : l.length ≤ 17592186044416) (h0 : 0 ≤ a) (h1 : a ≤ 17592186044416) : ∃ ys, Ev (fun k => laws_markEdgeS.f k l a) (a + 2 * l.length, ys) := by
  unfold laws_markEdgeS.f
  have key : ∀ (d i : Nat) (ys : List IE), ys.length = l.length → i + d = l.length →
      ∃ zs, Ev (fun k => laws_markEdgeS.l0 k ys (a + 2 * i) (i : Int)) (a + 2 * l.length, zs) := by
    intro d
    induction d with
    | zero =>
      intro i ys hy hi
      obtain rfl : i = l.length := by omega
      refine ⟨ys, Ev.succ (fun k => ?_)⟩
      simp only [laws_markEdgeS.l0]
      rw [if_neg (by omega)]
    | succ d ih =>
      intro i ys hy hi
      obtain ⟨zs, h⟩ := ih (i + 1) ((ys.set i ⟨a + 2 * i, (rd_T96 ys i).f1⟩).set i ⟨(rd_T96 (ys.set i ⟨a + 2 * i, (rd_T96 ys i).f1⟩) i).f0, a + 2 * i + 1⟩) (by simpa using hy) (by omega)
      refine ⟨zs, Ev.step (fun k => ?_) h⟩
      simp only [laws_markEdgeS.l0]
      rw [if_pos (by omega), if_pos (by omega), w64_succ (n := l.length) (by omega) (by omega), Int.toNat_natCast]
      simp only [Option.bind_some]
      rw [w64 (x := a + 2 * (i : Int) + 1) (by omega) (by omega), w64 (x := a + 2 * (i : Int) + 1 + 1) (by omega) (by omega)]
      rw [show a + 2 * (i : Int) + 1 + 1 = a + 2 * ((i + 1 : Nat) : Int) by omega]
  have h := key l.length 0 l rfl (by omega)
  simpa using h

noncomputable def rowB (l : List IE) (N a : Nat) : List Bool := (List.range N).map (posB l a)
noncomputable def tabB (l : List IE) (N m : Nat) : List (List Bool) := (List.range m).map (rowB l N)
noncomputable def partB (l : List IE) (N a m : Nat) : List Bool := (List.range N).map fun b => if b < m then posB l a b else false
theorem partB_zero (l : List IE) (N a : Nat) : partB l N a 0 = List.replicate N false := by
  apply List.ext_getElem
  · simp [partB]
  · intro i h1 h2
    simp [partB]
theorem partB_all (l : List IE) (N a : Nat) : partB l N a N = rowB l N a := by
  apply List.ext_getElem
  · simp [partB, rowB]
  · intro i h1 h2
    have h3 : i < N := by simpa [rowB] using h2
    simp only [partB, rowB, List.getElem_map, List.getElem_range]
    rw [if_pos h3]
theorem partB_set (l : List IE) (N a m : Nat) (hm : m < N) : (partB l N a m).set m (posB l a m) = partB l N a (m + 1) := by
  apply List.ext_getElem
  · simp [partB]
  · intro i h1 h2
    rw [List.getElem_set]
    simp only [partB, List.getElem_map, List.getElem_range]
    by_cases h : m = i
    · rw [if_pos h, if_pos (by omega), h]
    · rw [if_neg h]
      by_cases h3 : i < m
      · rw [if_pos h3, if_pos (by omega)]
      · rw [if_neg h3, if_neg (by omega)]
theorem rowB_len (l : List IE) (N a : Nat) : (rowB l N a).length = N := by simp [rowB]
theorem tabB_len (l : List IE) (N m : Nat) : (tabB l N m).length = m := by simp [tabB]
theorem l14All_ev {N : Nat} {l : List IE} (hg : graphOk (N : Int) l = true) : Ev (fun k => spec_l14All.f k (N : Int) l) (tabB l N N) := by
  obtain ⟨hn, hlen, he⟩ := (graphOk_iff _ l).1 hg
  unfold spec_l14All.f
  have row : ∀ (i : Nat) (hi : i < N) (xs : List (List Bool)) (r : List (List Bool)), xs.length = i → Ev (fun k => spec_l14All.l0 k (N : Int) l (xs ++ [rowB l N i]) ((i + 1 : Nat) : Int)) r →
      ∀ (d j : Nat), j + d = N → Ev (fun k => spec_l14All.l1 k (N : Int) l xs (i : Int) (partB l N i j) (j : Int)) r := by
    intro i hi xs r hxs hr d
    induction d with
    | zero =>
      intro j hj
      obtain rfl : j = N := by omega
      refine Ev.step (fun k => ?_) hr
      simp only [spec_l14All.l1]
      rw [if_neg (by omega), if_pos (by omega), partB_all, w64_nat i (by omega)]
    | succ d ih =>
      intro j hj
      refine Ev.step (f := fun k => (spec_l14Way.f k (N : Int) l (i : Int) (j : Int)).bind fun t140 => spec_l14All.l1 k (N : Int) l xs (i : Int) ((partB l N i j).set j (decide (t140 > 0))) ((j + 1 : Nat) : Int)) (fun k => ?_) ?_
      · simp only [spec_l14All.l1]
        have e : ((partB l N i j).length : Int) = (N : Int) := by simp [partB]
        rw [if_pos (by omega), e, w64_nat j (by omega), Int.toNat_natCast]
        simp only [if_pos (show (0 : Int) ≤ (j : Int) by omega), if_pos (show (j : Int) < (N : Int) by omega)]
      · refine Ev.bind (way_dN hg (by omega) (by omega)) ?_
        have e : decide ((dN l i j : Int) > 0) = posB l i j := by unfold posB; exact decide_eq_decide.2 (by omega)
        rw [e, partB_set l N i j (by omega)]
        exact ih (j + 1) (by omega)
  have key : ∀ (d i : Nat), i + d = N → Ev (fun k => spec_l14All.l0 k (N : Int) l (tabB l N i) (i : Int)) (tabB l N N) := by
    intro d
    induction d with
    | zero =>
      intro i hi
      obtain rfl : i = N := by omega
      refine Ev.succ (fun k => ?_)
      simp only [spec_l14All.l0]
      rw [if_neg (by omega)]
    | succ d ih =>
      intro i hi
      have h := ih (i + 1) (by omega)
      have e : tabB l N (i + 1) = tabB l N i ++ [rowB l N i] := by simp [tabB, List.range_succ]
      rw [e] at h
      refine Ev.step (fun k => ?_) (row i (by omega) (tabB l N i) _ (tabB_len l N i) h N 0 (by omega))
      simp only [spec_l14All.l0]
      rw [if_pos (by omega), if_pos (by omega), if_pos (by omega), partB_zero, Int.toNat_natCast]
      rfl
  exact key N 0 (by omega)
theorem rd_tab {l : List IE} {N a : Nat} (ha : a < N) : rd_L4 (tabB l N N) (a : Int) = rowB l N a := by
  unfold rd_L4
  rw [Int.toNat_natCast, getD_lt _ _ (by rw [tabB_len]; exact ha)]
  simp [tabB]
theorem rd_row {l : List IE} {N a b : Nat} (hb : b < N) : rdOf false (rowB l N a) (b : Int) = posB l a b := by
  rw [rdOf_lt _ _ (by rw [rowB_len]; exact hb)]
  simp [rowB]
theorem spec_red_ev {N : Nat} {l : List IE} (hN : N ≤ 16) : Ev (fun k => spec_Reduced.l0 k (N : Int) [] (tabB l N N) 0) (qA (posB l) N N []) := by
  have inner : ∀ (a b : Nat) (ha : a < N) (hb : b < N) (o : List IE) (ho : o.length ≤ 4096) (r : List IE), Ev (fun k => spec_Reduced.l1 k (N : Int) (qStep (posB l) N a o b) (tabB l N N) (a : Int) ((b + 1 : Nat) : Int)) r →
      ∀ (d c : Nat), c + d = N → Ev (fun k => spec_Reduced.l2 k (N : Int) o (tabB l N N) (a : Int) (b : Int) (qAny (posB l) a b c) (c : Int)) r := by
    intro a b ha hb o ho r hr d
    induction d with
    | zero =>
      intro c hc
      obtain rfl : c = N := by omega
      refine Ev.step (fun k => ?_) hr
      simp only [spec_Reduced.l2]
      rw [tabB_len, rd_tab ha, rowB_len, rd_row hb, w64_nat b (by omega), if_neg (by omega), if_pos (by omega), if_pos (by omega), if_pos (by omega), if_pos (by omega)]
      unfold qStep
      cases posB l a b <;> cases qAny (posB l) a b c <;> simp <;> omega
    | succ d ih =>
      intro c hc
      have h := ih (c + 1) (by omega)
      rw [qAny_succ] at h
      refine Ev.step (fun k => ?_) h
      simp only [spec_Reduced.l2]
      rw [tabB_len, rd_tab ha, rd_tab (show c < N by omega), rowB_len, rowB_len, rd_row (show c < N by omega), rd_row hb, w64_nat c (by omega)]
      rw [if_pos (show (c : Int) < (N : Int) by omega), if_pos (show (0 : Int) ≤ (a : Int) by omega), if_pos (show (a : Int) < (N : Int) by omega), if_pos (show (0 : Int) ≤ (c : Int) by omega), if_pos (show (c : Int) < (N : Int) by omega), if_pos (show (c : Int) < (N : Int) by omega), if_pos (show (0 : Int) ≤ (b : Int) by omega), if_pos (show (b : Int) < (N : Int) by omega)]
      cases posB l a c <;> cases qAny (posB l) a b c <;> simp
  have mid : ∀ (a : Nat) (ha : a < N) (o : List IE) (ho : o.length ≤ 2048) (r : List IE), Ev (fun k => spec_Reduced.l0 k (N : Int) (qB (posB l) N a N o) (tabB l N N) ((a + 1 : Nat) : Int)) r →
      ∀ (d b : Nat), b + d = N → Ev (fun k => spec_Reduced.l1 k (N : Int) (qB (posB l) N a b o) (tabB l N N) (a : Int) (b : Int)) r := by
    intro a ha o ho r hr d
    induction d with
    | zero =>
      intro b hb
      obtain rfl : b = N := by omega
      refine Ev.step (fun k => ?_) hr
      simp only [spec_Reduced.l1]
      rw [if_neg (by omega), w64_nat a (by omega)]
    | succ d ih =>
      intro b hb
      have h := ih (b + 1) (by omega)
      rw [qB_succ] at h
      have hl := qB_len (posB l) N a b o
      refine Ev.step (fun k => ?_) (inner a b ha (by omega) _ (by omega) r h N 0 (by omega))
      simp only [spec_Reduced.l1]
      rw [if_pos (by omega)]
      rfl
  have key : ∀ (d a : Nat), a + d = N → Ev (fun k => spec_Reduced.l0 k (N : Int) (qA (posB l) N a []) (tabB l N N) (a : Int)) (qA (posB l) N N []) := by
    intro d
    induction d with
    | zero =>
      intro a ha
      obtain rfl : a = N := by omega
      refine Ev.succ (fun k => ?_)
      simp only [spec_Reduced.l0]
      rw [if_neg (by omega)]
    | succ d ih =>
      intro a ha
      have h := ih (a + 1) (by omega)
      rw [qA_succ] at h
      have hl := qA_len (posB l) N a []
      have h2 : a * N ≤ 16 * 16 := Nat.mul_le_mul (by omega) hN
      simp only [List.length_nil] at hl
      refine Ev.step (fun k => ?_) (mid a (by omega) _ (by omega) _ h N 0 (by omega))
      simp only [spec_Reduced.l0]
      rw [if_pos (by omega)]
      rfl
  exact key N 0 (by omega)
theorem spec_Reduced_ev (n : Int) (l : List IE) : Ev (fun k => spec_Reduced.f k n l) (reducedP n l) := by
  unfold spec_Reduced.f reducedP
  simp only [Option.bind_some]
  refine Ev.bind (spec_Canon_ev n l) ?_
  cases hg : graphOk n l with
  | false => exact Ev.of_eq fun k => by simp
  | true =>
    cases hc : canonP n l with
    | none => exact Ev.of_eq fun k => by simp [pairOf]
    | some o =>
      obtain ⟨hn, hlen, he⟩ := (graphOk_iff n l).1 hg
      obtain ⟨N, rfl⟩ : ∃ N : Nat, n = (N : Int) := ⟨n.toNat, by omega⟩
      refine Ev.congr (fun k => if_pos (by simp [pairOf])) ?_
      rw [if_pos (by simp)]
      refine Ev.bind (l14All_ev hg) ?_
      unfold redP
      rw [Int.toNat_natCast]
      exact spec_red_ev (by omega)
def marked (a : Int) (n : Nat) : List IE := (List.range n).map fun i : Nat => (⟨a + 2 * (i : Int), a + 2 * (i : Int) + 1⟩ : IE)
theorem markEdgeS_is {l : List IE} (a : Int) (hl : l.length ≤ 17592186044416) (h0 : 0 ≤ a) (h1 : a ≤ 17592186044416) : Ev (fun k => laws_markEdgeS.f k l a) (a + 2 * l.length, marked a l.length) := by
  unfold laws_markEdgeS.f
  have key : ∀ (d i : Nat) (ys : List IE), ys.length = l.length → i + d = l.length → (∀ j (hj : j < i), ys[j]? = some (⟨a + 2 * (j : Int), a + 2 * (j : Int) + 1⟩ : IE)) →
      Ev (fun k => laws_markEdgeS.l0 k ys (a + 2 * i) (i : Int)) (a + 2 * l.length, marked a l.length) := by
    intro d
    induction d with
    | zero =>
      intro i ys hy hi hj
      obtain rfl : i = l.length := by omega
      refine Ev.succ (fun k => ?_)
      simp only [laws_markEdgeS.l0]
      rw [if_neg (by omega)]
      have : marked a l.length = ys := by
        apply List.ext_getElem?
        intro j
        by_cases hjj : j < l.length
        · rw [hj j hjj]; unfold marked; rw [List.getElem?_map, List.getElem?_range hjj]; rfl
        · rw [List.getElem?_eq_none (by simpa [marked] using hjj), List.getElem?_eq_none (by omega)]
      rw [this]
    | succ d ih =>
      intro i ys hy hi hj
      have h := ih (i + 1) ((ys.set i ⟨a + 2 * i, (rd_T96 ys i).f1⟩).set i ⟨(rd_T96 (ys.set i ⟨a + 2 * i, (rd_T96 ys i).f1⟩) i).f0, a + 2 * i + 1⟩) (by simpa using hy) (by omega) (fun j hj1 => by
        by_cases e : j = i
        · subst e
          rw [List.getElem?_set_self (by simp; omega), rd_IE (by simp; omega)]
          simp
        · rw [List.getElem?_set_ne (by omega), List.getElem?_set_ne (by omega)]
          exact hj j (by omega))
      refine Ev.step (fun k => ?_) h
      simp only [laws_markEdgeS.l0]
      rw [if_pos (by omega), if_pos (by omega), w64_succ (n := l.length) (by omega) (by omega), Int.toNat_natCast]
      simp only [Option.bind_some]
      rw [w64 (x := a + 2 * (i : Int) + 1) (by omega) (by omega), w64 (x := a + 2 * (i : Int) + 1 + 1) (by omega) (by omega)]
      rw [show a + 2 * (i : Int) + 1 + 1 = a + 2 * ((i + 1 : Nat) : Int) by omega]
  have h := key l.length 0 l rfl (by omega) (fun j hj => by omega)
  simpa using h
theorem heldEdgeS_ev {n : Nat} (a : Int) (hn : n ≤ 17592186044416) (h0 : 0 ≤ a) (h1 : a ≤ 17592186044416) : Ev (fun k => laws_heldEdgeS.f k (marked a n) a) (a + 2 * n) := by
  unfold laws_heldEdgeS.f
  have hlen : (marked a n).length = n := by simp [marked]
  have key : ∀ (d i : Nat), i + d = n → Ev (fun k => laws_heldEdgeS.l0 k (marked a n) (a + 2 * i) (i : Int)) (a + 2 * n) := by
    intro d
    induction d with
    | zero =>
      intro i hi
      obtain rfl : i = n := by omega
      refine Ev.succ (fun k => ?_)
      simp only [laws_heldEdgeS.l0]
      rw [hlen, if_neg (by omega)]
    | succ d ih =>
      intro i hi
      refine Ev.step (fun k => ?_) (ih (i + 1) (by omega))
      simp only [laws_heldEdgeS.l0]
      have e : rd_T96 (marked a n) (i : Int) = (⟨a + 2 * (i : Int), a + 2 * (i : Int) + 1⟩ : IE) := by
        rw [rd_IE (by rw [hlen]; omega)]
        simp [marked]
      rw [hlen, if_pos (by omega), if_pos (by omega), e, w64_nat i (by omega), w64 (x := a + 2 * (i : Int) + 1) (by omega) (by omega), w64 (x := a + 2 * (i : Int) + 1 + 1) (by omega) (by omega), if_pos rfl, if_pos rfl]
      rw [show a + 2 * (i : Int) + 1 + 1 = a + 2 * ((i + 1 : Nat) : Int) by omega]
  have h := key n 0 (by omega)
  simpa using h
theorem proof : Pure := by
  intro n l _ hl
  refine Ev.rounds ?_
  unfold laws_FnExactReduced.f
  by_cases hb : 1048576 < l.length
  · exact Ev.bindc (szEdgeS_big hl.1 hb) (Ev.of_eq fun k => by simp)
  refine Ev.bindc (szEdgeS_eq l _) ?_
  rw [w64 (by omega) (by omega), if_neg (by omega)]
  refine Ev.congr (fun k => if_neg (by omega)) ?_
  have hm : (l.map toE).length ≤ 17592186044416 := by rw [List.length_map]; omega
  have hlen := reducedP_len n (l.map toE)
  have hi := impl_Reduced_ev n (l.map toE)
  have hs := spec_Reduced_ev n (l.map toE)
  generalize reducedP n (l.map toE) = c at hlen hi hs
  have hcr : Ev (fun k => laws_eqEdgeS.f k c c) true := eqEdgeS_refl (by omega)
  refine Ev.bind (toEdgeS_ev (by omega)) (Ev.bind hs (Ev.bind (toEdgeS_ev (by omega)) (Ev.bind hi ?_)))
  refine Ev.bind hcr (Ev.congr (fun k => if_pos rfl) ?_)
  refine Ev.bind (toEdgeS_ev (by omega)) (Ev.bind (eqEdgeS_refl hm) (Ev.congr (fun k => if_pos rfl) ?_))
  refine Ev.bind (markEdgeS_is 1 hm (by omega) (by omega)) (Ev.congr (fun k => if_neg (by omega)) ?_)
  refine Ev.bind hcr ?_
  refine Ev.step (f := fun k => _) (fun k => by simp only [laws_FnExactReduced.j0]; rw [if_neg (by simp)]) ?_
  refine Ev.bind (markEdgeS_is 1 (by omega) (by omega) (by omega)) ?_
  refine Ev.bind (heldEdgeS_ev (n := c.length) 1 (by omega) (by omega) (by omega)) (Ev.congr (fun k => if_neg (by omega)) (Ev.congr (fun k => if_pos rfl) ?_))
  refine Ev.bind (toEdgeS_ev (by omega)) (Ev.bind hi (Ev.bind hcr (Ev.congr (fun k => if_pos rfl) ?_)))
  exact Ev.bind (heldEdgeS_ev (n := c.length) 1 (by omega) (by omega) (by omega)) (Ev.of_eq fun k => by rw [if_neg (by omega), if_pos rfl])


end Go.Proofs.Ytnecbgeljanhiaa.fnExactReduced
