/- The law FnReduced holds of the program's own functions, told over lists and numbers: for every argument it returns true. Conditions: none beyond the given row's own. -/
import Derived.Test.YtnecbgeljanhiaaSaysFnReduced
import Derived.Test.YtnecbgeljanhiaaKit
namespace Go.Proofs.Ytnecbgeljanhiaa.fnReduced
open Go.RowKit Go.Proofs.Ytnecbgeljanhiaa.PFnReduced Go.Proofs.YtnecbgeljanhiaaW.PrintWords Go.Proofs.YtnecbgeljanhiaaW.PrintLast Go.Proofs.Ytnecbgeljanhiaa.Own
set_option linter.unusedVariables false
set_option linter.unusedSimpArgs false
-- chunk edges: lists of edges are copied, and the same as themselves
abbrev IE := S96
theorem rd_IE {l : List IE} {i : Nat} (h : i < l.length) : rd_T96 l (i : Int) = l[i] := by
  unfold rd_T96; rw [Int.toNat_natCast]; exact getD_lt l _ h
def edgeIn (n : Int) (e : IE) : Bool := decide (0 ≤ e.f0 ∧ e.f0 ≤ n - 1) && decide (0 ≤ e.f1 ∧ e.f1 ≤ n - 1)
def graphOk (n : Int) (l : List IE) : Bool := decide (0 ≤ n ∧ n ≤ 16) && decide (l.length ≤ 200) && l.all (edgeIn n)
theorem within_eq (a b c : Int) : impl_within.f a b c = some (decide (b ≤ a ∧ a ≤ c)) := by
  unfold impl_within.f
  split <;> simp [*]
theorem l1In_eq (a b c : Int) : spec_l1In.f a b c = some (decide (b ≤ a ∧ a ≤ c)) := by
  unfold spec_l1In.f
  split <;> simp [*]
theorem impl_GraphOk_ev (n : Int) (l : List IE) : Ev (fun k => impl_GraphOk.f k n l) (graphOk n l) := by
  unfold impl_GraphOk.f graphOk
  refine Ev.bindc (within_eq _ _ _) ?_
  by_cases hn : 0 ≤ n ∧ n ≤ 16
  · simp only [hn, decide_true, if_true, and_self, Bool.true_and]
    by_cases hl : l.length ≤ 200
    · refine Ev.step (f := fun k => impl_GraphOk.l0 k n l (l.length : Int) 0) (fun k => ?_) ?_
      · simp only [impl_GraphOk.j0]
        rw [if_neg (by simp; omega)]
      · have hw : wrap64 (n - 1) = n - 1 := w64 (by omega) (by omega)
        have h0 : l.all (edgeIn n) = (l.drop 0).all (edgeIn n) := rfl
        rw [decide_eq_true hl, Bool.true_and, h0]
        refine all_ev l (edgeIn n) (fun k i => impl_GraphOk.l0 k n l (l.length : Int) i) (fun i h hp r hr => ?_) (fun i h hp => ?_) ?_ 0 (by omega)
        · refine Ev.step (fun k => ?_) hr
          simp only [impl_GraphOk.l0]
          rw [if_pos (by omega), if_pos (by omega), if_pos (by omega), rd_IE h, within_eq, within_eq, hw]
          simp only [edgeIn, Bool.and_eq_true] at hp
          simp only [Option.bind_some, hp.1, hp.2, if_true]
          rw [w64_succ h (by omega)]
        · refine Ev.succ (fun k => ?_)
          simp only [impl_GraphOk.l0]
          rw [if_pos (by omega), if_pos (by omega), if_pos (by omega), rd_IE h, within_eq, within_eq, hw]
          simp only [edgeIn, Bool.and_eq_false_iff] at hp
          simp only [Option.bind_some]
          rcases hp with hp | hp
          · rw [hp]; rfl
          · rw [hp]; split <;> rfl
        · refine Ev.succ (fun k => ?_)
          simp only [impl_GraphOk.l0]
          rw [if_neg (by omega)]
    · rw [decide_eq_false hl, Bool.false_and]
      refine Ev.succ (fun k => ?_)
      simp only [impl_GraphOk.j0]
      rw [if_pos (by simp; omega)]
  · simp only [decide_eq_false hn, Bool.false_and]
    refine Ev.succ (fun k => ?_)
    rw [if_neg (by simp)]
    simp only [impl_GraphOk.j0, if_true]
theorem spec_GraphOk_ev (n : Int) (l : List IE) : Ev (fun k => spec_GraphOk.f k n l) (graphOk n l) := by
  unfold spec_GraphOk.f graphOk
  refine Ev.bindc (l1In_eq _ _ _) ?_
  by_cases hn : 0 ≤ n ∧ n ≤ 16
  · simp only [hn, decide_true, if_true, and_self, Bool.true_and]
    by_cases hl : l.length ≤ 200
    · refine Ev.step (f := fun k => spec_GraphOk.l0 k n l 0) (fun k => ?_) ?_
      · simp only [spec_GraphOk.j0]
        rw [if_neg (by simp; omega)]
      · have hw : wrap64 (n - 1) = n - 1 := w64 (by omega) (by omega)
        have h0 : l.all (edgeIn n) = (l.drop 0).all (edgeIn n) := rfl
        rw [decide_eq_true hl, Bool.true_and, h0]
        refine all_ev l (edgeIn n) (fun k i => spec_GraphOk.l0 k n l i) (fun i h hp r hr => ?_) (fun i h hp => ?_) ?_ 0 (by omega)
        · refine Ev.step (fun k => ?_) hr
          simp only [spec_GraphOk.l0]
          rw [if_pos (by omega), if_pos (by omega), rd_IE h, l1In_eq, l1In_eq, hw]
          simp only [edgeIn, Bool.and_eq_true] at hp
          simp only [Option.bind_some, hp.1, hp.2, if_true]
          rw [w64_succ h (by omega)]
        · refine Ev.succ (fun k => ?_)
          simp only [spec_GraphOk.l0]
          rw [if_pos (by omega), if_pos (by omega), rd_IE h, l1In_eq, l1In_eq, hw]
          simp only [edgeIn, Bool.and_eq_false_iff] at hp
          simp only [Option.bind_some]
          rcases hp with hp | hp
          · rw [hp]; rfl
          · rw [hp]; split <;> rfl
        · refine Ev.succ (fun k => ?_)
          simp only [spec_GraphOk.l0]
          rw [if_neg (by omega)]
    · rw [decide_eq_false hl, Bool.false_and]
      refine Ev.succ (fun k => ?_)
      simp only [spec_GraphOk.j0]
      rw [if_pos (by simp; omega)]
  · simp only [decide_eq_false hn, Bool.false_and]
    refine Ev.succ (fun k => ?_)
    rw [if_neg (by simp)]
    simp only [spec_GraphOk.j0, if_true]

-- chunk contains: slices.Index and slices.Contains of numbers
theorem index_ev {l : List Int} (x : Int) (hl : l.length ≤ 9223372036854775807) : Ev (fun k => slices_Index_int_int.f k l x) (if x ∈ l then (l.idxOf x : Int) else -1) := by
  unfold slices_Index_int_int.f
  have key : ∀ (d i : Nat), i + d = l.length → Ev (fun k => slices_Index_int_int.l0 k l x (l.length : Int) (i : Int)) (if x ∈ l.drop i then ((i + (l.drop i).idxOf x : Nat) : Int) else -1) := by
    intro d
    induction d with
    | zero =>
      intro i hi
      obtain rfl : i = l.length := by omega
      refine Ev.succ (fun k => ?_)
      simp only [slices_Index_int_int.l0]
      rw [if_neg (by omega)]
      simp
    | succ d ih =>
      intro i hi
      have h : i < l.length := by omega
      have hr := ih (i + 1) (by omega)
      rw [List.drop_eq_getElem_cons h]
      by_cases e : x = l[i]
      · refine Ev.succ (fun k => ?_)
        simp only [slices_Index_int_int.l0]
        rw [if_pos (by omega), if_pos (by omega), if_pos (by omega), rd_lt _ h, if_pos e]
        rw [if_pos (List.mem_cons.2 (Or.inl e)), List.idxOf_cons]
        simp only [e, beq_self_eq_true, cond_true, Nat.add_zero]
      · refine Ev.step (f := fun k => slices_Index_int_int.l0 k l x (l.length : Int) ((i + 1 : Nat) : Int)) (fun k => ?_) ?_
        · simp only [slices_Index_int_int.l0]
          rw [if_pos (by omega), if_pos (by omega), if_pos (by omega), rd_lt _ h, if_neg e, w64_succ h hl]
        · have : (if x ∈ l[i] :: l.drop (i + 1) then ((i + (l[i] :: l.drop (i + 1)).idxOf x : Nat) : Int) else -1) = (if x ∈ l.drop (i + 1) then (((i + 1) + (l.drop (i + 1)).idxOf x : Nat) : Int) else -1) := by
            rw [List.idxOf_cons]
            have hb : (l[i] == x) = false := by simpa using fun h => e h.symm
            simp only [List.mem_cons, e, false_or, hb]
            split
            · simp; omega
            · rfl
          rw [this]
          exact hr
  have h := key l.length 0 (by omega)
  simpa using h
theorem contains_ev {l : List Int} (x : Int) (hl : l.length ≤ 9223372036854775807) : Ev (fun k => slices_Contains_int_int.f k l x) (decide (x ∈ l)) := by
  unfold slices_Contains_int_int.f
  refine Ev.bind (index_ev x hl) (Ev.of_eq fun k => ?_)
  by_cases h : x ∈ l
  · rw [if_pos h, decide_eq_true h, decide_eq_true (by omega)]
  · rw [if_neg h, decide_eq_false h, decide_eq_false (by omega)]

-- chunk free: which number may come next
def edgeFree (d : List Int) (x : Int) (e : IE) : Bool := decide (e.f1 = x → e.f0 ∈ d)
def freeB (l : List IE) (d : List Int) (x : Int) : Bool := decide (x ∉ d) && l.all (edgeFree d x)
theorem freeB_iff (l : List IE) (d : List Int) (x : Int) : freeB l d x = true ↔ x ∉ d ∧ ∀ e ∈ l, e.f1 = x → e.f0 ∈ d := by
  unfold freeB edgeFree
  simp [Decidable.imp_iff_not_or]
theorem impl_free_ev {l : List IE} {d : List Int} (x : Int) (hl : l.length ≤ 9223372036854775807) (hd : d.length ≤ 9223372036854775807) : Ev (fun k => impl_free.f k l d x) (freeB l d x) := by
  unfold impl_free.f
  refine Ev.bind (contains_ev x hd) ?_
  by_cases hx : x ∈ d
  · rw [show freeB l d x = false by simp [freeB, hx]]
    exact Ev.of_eq fun k => by simp [hx]
  · have hf : freeB l d x = (l.drop 0).all (edgeFree d x) := by simp [freeB, hx]
    rw [hf]
    refine Ev.congr (fun k => if_neg (by simp [hx])) ?_
    refine all_ev l (edgeFree d x) (fun k i => impl_free.l0 k d x l (l.length : Int) i) (fun i h hp r hr => ?_) (fun i h hp => ?_) ?_ 0 (by omega)
    · by_cases e : l[i].f1 = x
      · refine Ev.step (f := fun k => (slices_Contains_int_int.f k d l[i].f0).bind fun t => if t = true then impl_free.l0 k d x l (l.length : Int) ((i + 1 : Nat) : Int) else some false) (fun k => ?_) ?_
        · simp only [impl_free.l0]
          rw [if_pos (by omega), if_pos (by omega), if_pos (by omega), rd_IE h, if_pos e, w64_succ h hl]
        · refine Ev.bind (contains_ev _ hd) ?_
          have : l[i].f0 ∈ d := by simpa [edgeFree, e] using hp
          simp only [this, decide_true, if_true]
          exact hr
      · refine Ev.step (fun k => ?_) hr
        simp only [impl_free.l0]
        rw [if_pos (by omega), if_pos (by omega), if_pos (by omega), rd_IE h, if_neg e, w64_succ h hl]
    · have e : l[i].f1 = x := by
        apply Classical.byContradiction
        intro hn
        simp [edgeFree, hn] at hp
      have hn : l[i].f0 ∉ d := by simpa [edgeFree, e] using hp
      refine Ev.step (f := fun k => (slices_Contains_int_int.f k d l[i].f0).bind fun t => if t = true then impl_free.l0 k d x l (l.length : Int) ((i + 1 : Nat) : Int) else some false) (fun k => ?_) ?_
      · simp only [impl_free.l0]
        rw [if_pos (by omega), if_pos (by omega), if_pos (by omega), rd_IE h, if_pos e, w64_succ h hl]
      · refine Ev.bind (contains_ev _ hd) ?_
        simp only [hn, decide_false]
        exact Ev.of_eq fun k => rfl
    · refine Ev.succ (fun k => ?_)
      simp only [impl_free.l0]
      rw [if_neg (by omega)]
theorem graphOk_iff (n : Int) (l : List IE) : graphOk n l = true ↔ (0 ≤ n ∧ n ≤ 16) ∧ l.length ≤ 200 ∧ ∀ e ∈ l, (0 ≤ e.f0 ∧ e.f0 ≤ n - 1) ∧ (0 ≤ e.f1 ∧ e.f1 ≤ n - 1) := by
  unfold graphOk edgeIn
  simp [and_assoc]

-- chunk ways: shortest ways of a graph, as the program's table and as the reference's rounds
def E (l : List IE) (a b : Nat) : Prop := ∃ e ∈ l, e.f0 = (a : Int) ∧ e.f1 = (b : Int)
instance (l : List IE) (a b : Nat) : Decidable (E l a b) := by
  unfold E
  infer_instance
/-- A way from a along the numbers p to b. -/
def isWay (l : List IE) : Nat → List Nat → Nat → Prop
  | a, [], b => a = b
  | a, v :: p, b => E l a v ∧ isWay l v p b
theorem isWay_append {l : List IE} {p q : List Nat} {a b : Nat} : isWay l a (p ++ q) b ↔ ∃ c, isWay l a p c ∧ isWay l c q b := by
  induction p generalizing a with
  | nil => simp [isWay]
  | cons v p ih =>
    simp only [List.cons_append, isWay, ih]
    constructor
    · rintro ⟨h, c, h1, h2⟩; exact ⟨c, ⟨h, h1⟩, h2⟩
    · rintro ⟨c, ⟨h, h1⟩, h2⟩; exact ⟨h, c, h1, h2⟩
theorem isWay_cut {l : List IE} {s t : List Nat} {a v b : Nat} (h : isWay l a (s ++ v :: t) b) : isWay l v t b := by
  obtain ⟨c, _, h2⟩ := isWay_append.1 h
  exact h2.2
theorem isWay_prune {l : List IE} {p : List Nat} {a b : Nat} (h : isWay l a p b) : ∃ q, isWay l a q b ∧ q.Nodup ∧ (p ≠ [] → q ≠ []) ∧ q.length ≤ p.length := by
  induction p generalizing a with
  | nil => exact ⟨[], h, List.nodup_nil, fun h => absurd rfl h, Nat.le_refl _⟩
  | cons v p ih =>
    obtain ⟨q, h1, h2, _, h4⟩ := ih h.2
    by_cases hv : v ∈ q
    · obtain ⟨s, t, rfl⟩ := List.append_of_mem hv
      refine ⟨v :: t, ⟨h.1, isWay_cut h1⟩, (List.nodup_append.1 h2).2.1, fun _ => by simp, ?_⟩
      simp at h4 ⊢
      omega
    · exact ⟨v :: q, ⟨h.1, h1⟩, List.nodup_cons.2 ⟨hv, h2⟩, fun _ => by simp, by simpa using h4⟩
theorem isWay_lt {l : List IE} {N : Nat} (hE : ∀ a b, E l a b → a < N ∧ b < N) {p : List Nat} {a b : Nat} (h : isWay l a p b) : ∀ x ∈ p, x < N := by
  induction p generalizing a with
  | nil => intro x hx; simp at hx
  | cons v p ih =>
    intro x hx
    rcases List.mem_cons.1 hx with rfl | hx
    · exact (hE _ _ h.1).2
    · exact ih h.2 x hx
theorem isWay_short {l : List IE} {N : Nat} (hE : ∀ a b, E l a b → a < N ∧ b < N) {p : List Nat} {a b : Nat} (hp : p ≠ []) (h : isWay l a p b) : ∃ q, isWay l a q b ∧ q ≠ [] ∧ q.length ≤ N ∧ q.length ≤ p.length := by
  obtain ⟨q, h1, h2, h3, h4⟩ := isWay_prune h
  exact ⟨q, h1, h3 hp, nodup_len h2 (isWay_lt hE h1), h4⟩
/-- There is a way of m steps. -/
def Way (l : List IE) (m a b : Nat) : Prop := ∃ p, p.length = m ∧ isWay l a p b
theorem Way.one {l : List IE} {a b : Nat} : Way l 1 a b ↔ E l a b := by
  constructor
  · rintro ⟨p, hp, h⟩
    match p, hp with
    | [v], _ => obtain ⟨h1, rfl⟩ := h; exact h1
  · intro h; exact ⟨[b], rfl, h, rfl⟩
theorem Way.join {l : List IE} {m n a b c : Nat} (h : Way l m a c) (h' : Way l n c b) : Way l (m + n) a b := by
  obtain ⟨p, hp, h⟩ := h
  obtain ⟨q, hq, h'⟩ := h'
  exact ⟨p ++ q, by simp [hp, hq], isWay_append.2 ⟨c, h, h'⟩⟩
theorem Way.snoc {l : List IE} {m a b : Nat} : Way l (m + 1) a b ↔ ∃ c, Way l m a c ∧ E l c b := by
  constructor
  · rintro ⟨p, hp, h⟩
    obtain ⟨q, v, rfl⟩ : ∃ q v, p = q ++ [v] := ⟨p.dropLast, p.getLast (by intro e; simp [e] at hp), (List.dropLast_concat_getLast _).symm⟩
    obtain ⟨c, h1, h2, h3⟩ := isWay_append.1 h
    obtain rfl := h3
    exact ⟨c, ⟨q, by simpa using hp, h1⟩, h2⟩
  · rintro ⟨c, h, h'⟩
    exact Way.join h (Way.one.2 h')
/-- The least number of steps that lead from a to b; 0: there is none. -/
def isDist (l : List IE) (a b : Nat) (d : Nat) : Prop := (d = 0 ∧ ∀ m, 0 < m → ¬ Way l m a b) ∨ (0 < d ∧ Way l d a b ∧ ∀ m, 0 < m → m < d → ¬ Way l m a b)
theorem isDist_unique {l : List IE} {a b d d' : Nat} (h : isDist l a b d) (h' : isDist l a b d') : d = d' := by
  rcases h with ⟨rfl, h⟩ | ⟨h0, h1, h2⟩ <;> rcases h' with ⟨rfl, h'⟩ | ⟨h0', h1', h2'⟩
  · rfl
  · exact absurd h1' (h _ h0')
  · exact absurd h1 (h' _ h0)
  · rcases Nat.lt_trichotomy d d' with hl | hl | hl
    · exact absurd h1 (h2' _ h0 hl)
    · exact hl
    · exact absurd h1' (h2 _ h0' hl)
theorem isDist_le {l : List IE} {N : Nat} (hE : ∀ a b, E l a b → a < N ∧ b < N) {a b d : Nat} (h : isDist l a b d) : d ≤ N := by
  rcases h with ⟨rfl, _⟩ | ⟨h0, ⟨p, hp, h1⟩, h2⟩
  · omega
  · obtain ⟨q, g1, g2, g3, g4⟩ := isWay_short hE (by intro e; simp [e] at hp; omega) h1
    apply Classical.byContradiction
    intro hn
    exact h2 q.length (List.length_pos_iff.2 g2) (by omega) ⟨q, rfl, g1⟩
/-! Ways whose inner numbers are below k. -/
inductive Wk (l : List IE) (k : Nat) : Nat → Nat → Nat → Prop
  | edge {a b : Nat} (h : E l a b) : Wk l k 1 a b
  | join {m n a b c : Nat} (h : Wk l k m a c) (h' : Wk l k n c b) (hc : c < k) : Wk l k (m + n) a b
theorem Wk.pos {l : List IE} {k m a b : Nat} (h : Wk l k m a b) : 0 < m := by
  induction h with
  | edge _ => omega
  | join _ _ _ _ _ => omega
theorem Wk.up {l : List IE} {k m a b : Nat} (h : Wk l k m a b) : Wk l (k + 1) m a b := by
  induction h with
  | edge h => exact .edge h
  | join _ _ hc ih ih' => exact .join ih ih' (by omega)
theorem Wk.way {l : List IE} {k m a b : Nat} (h : Wk l k m a b) : Way l m a b := by
  induction h with
  | edge h => exact Way.one.2 h
  | join _ _ _ ih ih' => exact Way.join ih ih'
theorem Wk.zero {l : List IE} {m a b : Nat} (h : Wk l 0 m a b) : m = 1 ∧ E l a b := by
  cases h with
  | edge h => exact ⟨rfl, h⟩
  | join _ _ hc => omega
theorem Wk.of {l : List IE} {N : Nat} (hE : ∀ a b, E l a b → a < N ∧ b < N) {p : List Nat} {a b : Nat} (hp : p ≠ []) (h : isWay l a p b) : Wk l N p.length a b := by
  induction p generalizing a with
  | nil => exact absurd rfl hp
  | cons v p ih =>
    by_cases hq : p = []
    · subst hq
      obtain ⟨h1, rfl⟩ := h
      exact .edge h1
    · have h2 := ih hq h.2
      have h3 := Wk.join (.edge h.1) h2 (hE _ _ h.1).2
      rw [List.length_cons, Nat.add_comm]
      exact h3
theorem Wk.down {l : List IE} {k m a b : Nat} (h : Wk l (k + 1) m a b) : (∃ m', m' ≤ m ∧ Wk l k m' a b) ∨ ∃ m1 m2, m1 + m2 ≤ m ∧ Wk l k m1 a k ∧ Wk l k m2 k b := by
  induction h with
  | edge h => exact .inl ⟨1, Nat.le_refl _, .edge h⟩
  | @join m n a b c h h' hc ih ih' =>
    by_cases hck : c < k
    · rcases ih with ⟨p, hp, h1⟩ | ⟨p, q, hpq, h1, h2⟩
      · rcases ih' with ⟨p', hp', h1'⟩ | ⟨p', q', hpq', h1', h2'⟩
        · exact .inl ⟨p + p', by omega, .join h1 h1' hck⟩
        · exact .inr ⟨p + p', q', by omega, .join h1 h1' hck, h2'⟩
      · rcases ih' with ⟨p', hp', h1'⟩ | ⟨p', q', hpq', h1', h2'⟩
        · exact .inr ⟨p, q + p', by omega, h1, .join h2 h1' hck⟩
        · exact .inr ⟨p, q', by omega, h1, h2'⟩
    · obtain rfl : c = k := by omega
      obtain ⟨p, hp, h1⟩ : ∃ p, p ≤ m ∧ Wk l c p a c := by
        rcases ih with ⟨p, hp, h1⟩ | ⟨p, q, hpq, h1, _⟩
        · exact ⟨p, hp, h1⟩
        · exact ⟨p, by omega, h1⟩
      obtain ⟨q, hq, h2⟩ : ∃ q, q ≤ n ∧ Wk l c q c b := by
        rcases ih' with ⟨p, hp, h1⟩ | ⟨p, q, hpq, _, h1⟩
        · exact ⟨p, hp, h1⟩
        · exact ⟨q, by omega, h1⟩
      exact .inr ⟨p, q, by omega, h1, h2⟩
/-! The table. -/
theorem dGet_dSet {M : List Int} (hM : M.length = 256) {a b : Nat} (ha : a < 16) (hb : b < 16) (v : Int) {a' b' : Nat} (ha' : a' < 16) (hb' : b' < 16) :
    dGet (dSet M a b v) a' b' = if a' = a ∧ b' = b then v else dGet M a' b' := by
  unfold dGet dSet
  rw [getD_lt _ _ (by rw [List.length_set]; omega), getD_lt _ _ (by omega), List.getElem_set]
  by_cases h : a' = a ∧ b' = b
  · rw [if_pos h, if_pos (by obtain ⟨rfl, rfl⟩ := h; rfl)]
  · rw [if_neg h, if_neg (by omega)]
theorem dInitB_get {M : List Int} (hM : M.length = 256) {a : Nat} (ha : a < 16) {N : Nat} (hN : N ≤ 16) {a' b' : Nat} (ha' : a' < 16) (hb' : b' < 16) : dGet (dInitB a M N) a' b' = if a' = a ∧ b' < N then -1 else dGet M a' b' := by
  induction N with
  | zero => simp [dInitB]
  | succ N ih =>
    have e : dInitB a M (N + 1) = dSet (dInitB a M N) a N (-1) := by simp [dInitB, List.range_succ, List.foldl_append]
    rw [e, dGet_dSet (by rw [dInitB_len]; exact hM) ha (by omega) _ ha' hb', ih (by omega)]
    by_cases h : a' = a ∧ b' = N
    · rw [if_pos h, if_pos (by omega)]
    · rw [if_neg h]
      by_cases h2 : a' = a ∧ b' < N
      · rw [if_pos h2, if_pos (by omega)]
      · rw [if_neg h2, if_neg (by omega)]
theorem dInit_get {N : Nat} (hN : N ≤ 16) {m : Nat} (hm : m ≤ N) {M : List Int} (hM : M.length = 256) {a' b' : Nat} (ha' : a' < 16) (hb' : b' < 16) : dGet (dInit N m M) a' b' = if a' < m ∧ b' < N then -1 else dGet M a' b' := by
  induction m with
  | zero => simp [dInit]
  | succ m ih =>
    have e : dInit N (m + 1) M = dInitB m (dInit N m M) N := by simp [dInit, List.range_succ, List.foldl_append]
    rw [e, dInitB_get (by rw [dInit_len]; exact hM) (by omega) hN ha' hb', ih (by omega)]
    by_cases h : a' = m ∧ b' < N
    · rw [if_pos h, if_pos (by omega)]
    · rw [if_neg h]
      by_cases h2 : a' < m ∧ b' < N
      · rw [if_pos h2, if_pos (by omega)]
      · rw [if_neg h2, if_neg (by omega)]
theorem dEdges_get {l : List IE} {M : List Int} (hM : M.length = 256) (hl : ∀ e ∈ l, (0 ≤ e.f0 ∧ e.f0 < 16) ∧ 0 ≤ e.f1 ∧ e.f1 < 16) {a b : Nat} (ha : a < 16) (hb : b < 16) :
    (E l a b ∧ dGet (dEdges l M) a b = 1) ∨ (¬ E l a b ∧ dGet (dEdges l M) a b = dGet M a b) := by
  have key : ∀ (l : List IE) (M : List Int), M.length = 256 → (∀ e ∈ l, (0 ≤ e.f0 ∧ e.f0 < 16) ∧ 0 ≤ e.f1 ∧ e.f1 < 16) → dGet (dEdges l M) a b = if E l a b then 1 else dGet M a b := by
    intro l
    induction l with
    | nil => intro M _ _; rw [if_neg (by rintro ⟨e, he, _⟩; simp at he)]; rfl
    | cons e l ih =>
      intro M hM hl
      have h1 := hl e (by simp)
      have e1 : dEdges (e :: l) M = dEdges l (dSet M e.f0.toNat e.f1.toNat 1) := rfl
      rw [e1, ih _ (by rw [dSet_len]; exact hM) (fun x hx => hl x (by simp [hx])), dGet_dSet hM (by omega) (by omega) _ ha hb]
      by_cases h2 : E l a b
      · rw [if_pos h2, if_pos (by obtain ⟨x, hx, h⟩ := h2; exact ⟨x, by simp [hx], h⟩)]
      · rw [if_neg h2]
        by_cases h3 : a = e.f0.toNat ∧ b = e.f1.toNat
        · rw [if_pos h3, if_pos ⟨e, by simp, by omega, by omega⟩]
        · rw [if_neg h3, if_neg]
          rintro ⟨x, hx, hx1, hx2⟩
          rcases List.mem_cons.1 hx with rfl | hx
          · omega
          · exact h2 ⟨x, hx, hx1, hx2⟩
  have h := key l M hM hl
  by_cases h2 : E l a b
  · left; rw [if_pos h2] at h; exact ⟨h2, h⟩
  · right; rw [if_neg h2] at h; exact ⟨h2, h⟩
/-- What a round over k makes of an entry. -/
def upd (D : Nat → Nat → Int) (k a b : Nat) : Int :=
  if D a k < 0 ∨ D k b < 0 then D a b else if D a b < 0 ∨ D a k + D k b < D a b then D a k + D k b else D a b
def goodD (D : Nat → Nat → Int) (B : Int) : Prop := ∀ a b, a < 16 → b < 16 → (D a b = -1 ∨ 0 ≤ D a b) ∧ D a b ≤ B
theorem upd_col {D : Nat → Nat → Int} {B : Int} (h : goodD D B) {k a : Nat} (hk : k < 16) (ha : a < 16) : upd D k a k = D a k := by
  unfold upd
  have h1 := h k k hk hk
  by_cases c : D a k < 0 ∨ D k k < 0
  · rw [if_pos c]
  · rw [if_neg c, if_neg (by omega)]
theorem upd_row {D : Nat → Nat → Int} {B : Int} (h : goodD D B) {k b : Nat} (hk : k < 16) (hb : b < 16) : upd D k k b = D k b := by
  unfold upd
  have h1 := h k k hk hk
  by_cases c : D k k < 0 ∨ D k b < 0
  · rw [if_pos c]
  · rw [if_neg c, if_neg (by omega)]
theorem dStep_get {M : List Int} (hM : M.length = 256) {k i j : Nat} (hk : k < 16) (hi : i < 16) (hj : j < 16) {B : Int} (hB : B ≤ 1000000) (hg : goodD (dGet M) B) {a b : Nat} (ha : a < 16) (hb : b < 16) :
    dGet (dStep k i j M) a b = if a = i ∧ b = j then upd (dGet M) k i j else dGet M a b := by
  have g1 := hg i k hi hk
  have g2 := hg k j hk hj
  have hw : wrap64 (dGet M i k + dGet M k j) = dGet M i k + dGet M k j := w64 (by omega) (by omega)
  unfold dStep upd
  rw [hw]
  by_cases c : dGet M i k < 0 ∨ dGet M k j < 0
  · rw [if_pos c, if_pos c]
    split
    · rename_i h; rw [h.1, h.2]
    · rfl
  · rw [if_neg c, if_neg c]
    by_cases c2 : dGet M i j < 0 ∨ dGet M i k + dGet M k j < dGet M i j
    · rw [if_pos c2, if_pos c2, dGet_dSet hM hi hj _ ha hb]
    · rw [if_neg c2, if_neg c2]
      split
      · rename_i h; rw [h.1, h.2]
      · rfl
theorem upd_good {D : Nat → Nat → Int} {B : Int} (h : goodD D B) {k : Nat} (hk : k < 16) {a b : Nat} (ha : a < 16) (hb : b < 16) : (upd D k a b = -1 ∨ 0 ≤ upd D k a b) ∧ upd D k a b ≤ 2 * B + 2 := by
  have h1 := h a k ha hk
  have h2 := h k b hk hb
  have h3 := h a b ha hb
  unfold upd
  split
  · omega
  · split <;> omega
/-- An entry is as round k makes it, where the row is below i (the column below N), or it is row i and the column below j. -/
def midD (D : Nat → Nat → Int) (k N i j : Nat) (a b : Nat) : Int := if (a < i ∧ b < N) ∨ (a = i ∧ b < j) then upd D k a b else D a b
theorem midD_good {D : Nat → Nat → Int} {B : Int} (h : goodD D B) (hB : 0 ≤ B) {k : Nat} (hk : k < 16) (N i j : Nat) : goodD (midD D k N i j) (2 * B + 2) := by
  intro a b ha hb
  have h1 := upd_good h hk ha hb
  have h2 := h a b ha hb
  unfold midD
  split <;> omega
theorem midD_col {D : Nat → Nat → Int} {B : Int} (h : goodD D B) {k a : Nat} (hk : k < 16) (ha : a < 16) (N i j : Nat) : midD D k N i j a k = D a k := by
  unfold midD
  split
  · exact upd_col h hk ha
  · rfl
theorem midD_row {D : Nat → Nat → Int} {B : Int} (h : goodD D B) {k b : Nat} (hk : k < 16) (hb : b < 16) (N i j : Nat) : midD D k N i j k b = D k b := by
  unfold midD
  split
  · exact upd_row h hk hb
  · rfl
theorem goodD_congr {D D' : Nat → Nat → Int} {B : Int} (h : goodD D B) (he : ∀ a b, a < 16 → b < 16 → D' a b = D a b) : goodD D' B := fun a b ha hb => by rw [he a b ha hb]; exact h a b ha hb
theorem dRunB_get {D : Nat → Nat → Int} {B : Int} (hg : goodD D B) (hB0 : 0 ≤ B) (hB : B ≤ 400000) {k N i : Nat} (hk : k < 16) (hi : i < 16) (hN : N ≤ 16) {M : List Int} (hM : M.length = 256)
    (h : ∀ a b, a < 16 → b < 16 → dGet M a b = midD D k N i 0 a b) {m : Nat} (hm : m ≤ N) : ∀ a b, a < 16 → b < 16 → dGet (dRunB k i m M) a b = midD D k N i m a b := by
  induction m with
  | zero => exact h
  | succ m ih =>
    intro a b ha hb
    have ih := ih (by omega)
    have e : dRunB k i (m + 1) M = dStep k i m (dRunB k i m M) := by simp [dRunB, List.range_succ, List.foldl_append]
    have hgm := goodD_congr (midD_good hg hB0 hk N i m) ih
    rw [e, dStep_get (by rw [dRunB_len]; exact hM) hk hi (by omega) (B := 2 * B + 2) (by omega) hgm ha hb]
    have hu : upd (dGet (dRunB k i m M)) k i m = upd D k i m := by
      unfold upd
      rw [ih i k hi hk, ih k m hk (by omega), ih i m hi (by omega), midD_col hg hk hi, midD_row hg hk (by omega)]
      have : midD D k N i m i m = D i m := by unfold midD; rw [if_neg (by omega)]
      rw [this]
    rw [hu, ih a b ha hb]
    unfold midD
    by_cases c : a = i ∧ b = m
    · rw [if_pos c, if_pos (by omega), c.1, c.2]
    · rw [if_neg c]
      by_cases c2 : (a < i ∧ b < N) ∨ (a = i ∧ b < m)
      · rw [if_pos c2, if_pos (by omega)]
      · rw [if_neg c2, if_neg (by omega)]
theorem dRunA_get {D : Nat → Nat → Int} {B : Int} (hg : goodD D B) (hB0 : 0 ≤ B) (hB : B ≤ 400000) {k N : Nat} (hk : k < 16) (hN : N ≤ 16) {M : List Int} (hM : M.length = 256)
    (h : ∀ a b, a < 16 → b < 16 → dGet M a b = D a b) {m : Nat} (hm : m ≤ N) : ∀ a b, a < 16 → b < 16 → dGet (dRunA N k m M) a b = midD D k N m 0 a b := by
  induction m with
  | zero =>
    intro a b ha hb
    unfold midD
    rw [if_neg (by omega)]
    exact h a b ha hb
  | succ m ih =>
    intro a b ha hb
    have e : dRunA N k (m + 1) M = dRunB k m N (dRunA N k m M) := by simp [dRunA, List.range_succ, List.foldl_append]
    rw [e, dRunB_get hg hB0 hB hk (by omega) hN (by rw [dRunA_len]; exact hM) (ih (by omega)) (Nat.le_refl _) a b ha hb]
    unfold midD
    by_cases c : (a < m ∧ b < N) ∨ (a = m ∧ b < N)
    · rw [if_pos c, if_pos (by omega)]
    · rw [if_neg c, if_neg (by omega)]
/-- What the table tells behind the round k. -/
def tellsK (l : List IE) (k N : Nat) (D : Nat → Nat → Int) : Prop := ∀ a b, a < N → b < N → (D a b = -1 ∧ ∀ m, ¬ Wk l k m a b) ∨ (0 < D a b ∧ Wk l k (D a b).toNat a b ∧ ∀ m, Wk l k m a b → D a b ≤ m)
theorem tells_step {l : List IE} {k N : Nat} {D D' : Nat → Nat → Int} (hk : k < N) (h : tellsK l k N D) (he : ∀ a b, a < N → b < N → D' a b = upd D k a b) : tellsK l (k + 1) N D' := by
  intro a b ha hb
  rw [he a b ha hb]
  have hab := h a b ha hb
  have hak := h a k ha hk
  have hkb := h k b hk hb
  unfold upd
  by_cases c : D a k < 0 ∨ D k b < 0
  · rw [if_pos c]
    have no : ∀ m1 m2, ¬ (Wk l k m1 a k ∧ Wk l k m2 k b) := by
      rintro m1 m2 ⟨h1, h2⟩
      rcases c with c | c
      · rcases hak with ⟨_, hn⟩ | ⟨h0, _⟩
        · exact hn _ h1
        · omega
      · rcases hkb with ⟨_, hn⟩ | ⟨h0, _⟩
        · exact hn _ h2
        · omega
    rcases hab with ⟨e, hn⟩ | ⟨h0, h1, h2⟩
    · left
      refine ⟨e, fun m hm => ?_⟩
      rcases hm.down with ⟨m', _, h'⟩ | ⟨m1, m2, _, g1, g2⟩
      · exact hn _ h'
      · exact no _ _ ⟨g1, g2⟩
    · right
      refine ⟨h0, h1.up, fun m hm => ?_⟩
      rcases hm.down with ⟨m', hle, h'⟩ | ⟨m1, m2, _, g1, g2⟩
      · have := h2 _ h'; omega
      · exact absurd ⟨g1, g2⟩ (no _ _)
  · rw [if_neg c]
    rcases hak with ⟨e, _⟩ | ⟨k0, k1, k2⟩
    · omega
    rcases hkb with ⟨e, _⟩ | ⟨q0, q1, q2⟩
    · omega
    have hw : Wk l (k + 1) (D a k + D k b).toNat a b := by
      rw [show (D a k + D k b).toNat = (D a k).toNat + (D k b).toNat by omega]
      exact .join k1.up q1.up (by omega)
    have lower : ∀ m1 m2, Wk l k m1 a k → Wk l k m2 k b → D a k + D k b ≤ ((m1 + m2 : Nat) : Int) := fun m1 m2 g1 g2 => by
      have := k2 _ g1
      have := q2 _ g2
      omega
    by_cases c2 : D a b < 0 ∨ D a k + D k b < D a b
    · rw [if_pos c2]
      right
      refine ⟨by omega, hw, fun m hm => ?_⟩
      rcases hm.down with ⟨m', hle, h'⟩ | ⟨m1, m2, hle, g1, g2⟩
      · rcases hab with ⟨_, hn⟩ | ⟨h0, h1, h2⟩
        · exact absurd h' (hn _)
        · have := h2 _ h'; omega
      · have := lower _ _ g1 g2; omega
    · rw [if_neg c2]
      rcases hab with ⟨e, _⟩ | ⟨h0, h1, h2⟩
      · omega
      · right
        refine ⟨h0, h1.up, fun m hm => ?_⟩
        rcases hm.down with ⟨m', hle, h'⟩ | ⟨m1, m2, hle, g1, g2⟩
        · have := h2 _ h'; omega
        · have := lower _ _ g1 g2; omega
theorem dRun_tells {l : List IE} {N : Nat} (hN : N ≤ 16) {M : List Int} (hM : M.length = 256) (hg : goodD (dGet M) 1) (h0 : tellsK l 0 N (dGet M)) {m : Nat} (hm : m ≤ N) :
    goodD (dGet (dRun N m M)) (3 * 2 ^ m) ∧ tellsK l m N (dGet (dRun N m M)) := by
  induction m with
  | zero => exact ⟨fun a b ha hb => by have := hg a b ha hb; simp [dRun]; omega, h0⟩
  | succ m ih =>
    obtain ⟨g, t⟩ := ih (by omega)
    have e : dRun N (m + 1) M = dRunA N m N (dRun N m M) := by simp [dRun, List.range_succ, List.foldl_append]
    have hp : (2 : Int) ^ m ≤ 32768 := by
      have h1 : (2 : Nat) ^ m ≤ 2 ^ 15 := Nat.pow_le_pow_right (by omega) (by omega)
      have h2 : ((2 ^ m : Nat) : Int) ≤ ((2 ^ 15 : Nat) : Int) := Int.ofNat_le.2 h1
      simpa using h2
    have hp0 : (1 : Int) ≤ 2 ^ m := by
      have h1 : 0 < (2 : Nat) ^ m := Nat.two_pow_pos m
      have h2 : ((1 : Nat) : Int) ≤ ((2 ^ m : Nat) : Int) := Int.ofNat_le.2 h1
      simpa using h2
    have he := dRunA_get (D := dGet (dRun N m M)) g (by omega) (by omega) (k := m) (by omega) hN (by rw [dRun_len]; exact hM) (fun _ _ _ _ => rfl) (Nat.le_refl N)
    rw [e]
    constructor
    · intro a b ha hb
      rw [he a b ha hb]
      have h1 := midD_good g (by omega) (k := m) (by omega) N N 0 a b ha hb
      rw [Int.pow_succ]
      have h2 := upd_good g (k := m) (by omega) ha hb
      have h3 := g a b ha hb
      have hk1 := g a m ha (by omega)
      have hk2 := g m b (by omega) hb
      unfold midD upd at h1 ⊢
      repeat' split
      all_goals omega
    · refine tells_step (by omega) t (fun a b ha hb => ?_)
      rw [he a b (by omega) (by omega)]
      unfold midD
      rw [if_pos (by omega)]
/-- The program's table of a graph. -/
theorem dist_tells {n : Int} {l : List IE} (hg : graphOk n l = true) : ∃ M, impl_dist.f n l = some M ∧ M.length = 256 ∧
    ∀ a b : Nat, (a : Int) < n → (b : Int) < n → ∃ d : Nat, isDist l a b d ∧ dGet M a b = if d = 0 then -1 else (d : Int) := by
  obtain ⟨hn, hl, he⟩ := (graphOk_iff n l).1 hg
  have hok : ∀ e ∈ l, (0 ≤ e.f0 ∧ e.f0 < 16) ∧ 0 ≤ e.f1 ∧ e.f1 < 16 := fun e hel => by have := he e hel; omega
  have hE : ∀ a b, E l a b → a < n.toNat ∧ b < n.toNat := by
    rintro a b ⟨e, hel, h1, h2⟩
    have := he e hel
    omega
  refine ⟨dRun n.toNat n.toNat (dEdges l (dInit n.toNat n.toNat dZero)), ?_, ?_, ?_⟩
  · unfold impl_dist.f
    rw [if_pos hn, if_pos]
    rw [List.all_eq_true]
    intro e hel
    exact decide_eq_true (hok e hel)
  · rw [dRun_len, dEdges_len, dInit_len]
    simp only [dZero, List.length_replicate]
  · intro a b ha hb
    have hZ : dZero.length = 256 := by simp only [dZero, List.length_replicate]
    have hI : (dInit n.toNat n.toNat dZero).length = 256 := by rw [dInit_len]; exact hZ
    have hMl : (dEdges l (dInit n.toNat n.toNat dZero)).length = 256 := by rw [dEdges_len]; exact hI
    have zero : ∀ a b, a < 16 → b < 16 → dGet dZero a b = 0 := fun a b ha hb => by
      unfold dGet
      rw [getD_lt _ _ (by rw [hZ]; omega)]
      simp only [dZero, List.getElem_replicate]
    have h1 : goodD (dGet (dEdges l (dInit n.toNat n.toNat dZero))) 1 := by
      intro a b ha hb
      have h2 := dInit_get (N := n.toNat) (m := n.toNat) (by omega) (Nat.le_refl _) hZ ha hb
      rw [zero a b ha hb] at h2
      rcases dEdges_get hI hok ha hb with ⟨_, e⟩ | ⟨_, e⟩
      · rw [e]; omega
      · rw [e, h2]; split <;> omega
    have h3 : tellsK l 0 n.toNat (dGet (dEdges l (dInit n.toNat n.toNat dZero))) := by
      intro a b ha hb
      have h2 := dInit_get (N := n.toNat) (m := n.toNat) (by omega) (Nat.le_refl _) hZ (a' := a) (b' := b) (by omega) (by omega)
      rw [if_pos ⟨ha, hb⟩] at h2
      rcases dEdges_get hI hok (a := a) (b := b) (by omega) (by omega) with ⟨hee, e⟩ | ⟨hee, e⟩
      · right
        rw [e]
        refine ⟨by omega, .edge hee, fun m hm => ?_⟩
        have := hm.pos
        omega
      · left
        rw [e, h2]
        exact ⟨rfl, fun m hm => hee hm.zero.2⟩
    obtain ⟨_, ht⟩ := dRun_tells (by omega) hMl h1 h3 (Nat.le_refl n.toNat)
    rcases ht a b (by omega) (by omega) with ⟨e, hn2⟩ | ⟨h0, hw, hmin⟩
    · refine ⟨0, .inl ⟨rfl, ?_⟩, by rw [e]; rfl⟩
      rintro m hm ⟨p, hp, h⟩
      exact hn2 _ (Wk.of hE (by intro e; simp [e] at hp; omega) h)
    · refine ⟨_, .inr ⟨?_, hw.way, ?_⟩, ?_⟩
      · omega
      · rintro m hm0 hm ⟨p, hp, h⟩
        have := hmin _ (Wk.of hE (by intro e; simp [e] at hp; omega) h)
        omega
      · rw [if_neg (by omega)]
        omega
/-! The reference's rounds. -/
def stepB (N : Nat) (l : List IE) (f : List Bool) : List Bool := (List.range N).map fun v : Nat => l.any fun e => decide (e.f1 = (v : Int)) && rdOf false f e.f0
/-- Where m steps lead from a. -/
theorem rd_boolmap {N : Nat} (p : Nat → Bool) {x : Int} (h0 : 0 ≤ x) (h1 : x < (N : Int)) : rdOf false ((List.range N).map p) x = p x.toNat := by
  obtain ⟨y, rfl⟩ : ∃ y : Nat, x = (y : Int) := ⟨x.toNat, by omega⟩
  rw [rdOf_lt _ _ (by simp; omega)]
  simp
noncomputable def wayB (l : List IE) (m a v : Nat) : Bool := @decide (Way l m a v) (Classical.propDecidable _)
theorem wayB_iff {l : List IE} {m a v : Nat} : wayB l m a v = true ↔ Way l m a v := by
  unfold wayB
  exact @decide_eq_true_iff _ (Classical.propDecidable _)
noncomputable def nextV (l : List IE) (a m : Nat) (es : List IE) (v : Nat) : Bool := @decide (∃ e ∈ es, e.f1 = (v : Int) ∧ Way l m a e.f0.toNat) (Classical.propDecidable _)
theorem nextV_iff {l : List IE} {a m : Nat} {es : List IE} {v : Nat} : nextV l a m es v = true ↔ ∃ e ∈ es, e.f1 = (v : Int) ∧ Way l m a e.f0.toNat := by
  unfold nextV
  exact @decide_eq_true_iff _ (Classical.propDecidable _)
noncomputable def atB (N : Nat) (l : List IE) (a m : Nat) : List Bool := (List.range N).map (wayB l m a)
theorem atB_len (N : Nat) (l : List IE) (a m : Nat) : (atB N l a m).length = N := by simp [atB]
theorem atB_get {N : Nat} {l : List IE} {a m : Nat} {x : Int} (h0 : 0 ≤ x) (h1 : x < (N : Int)) : rdOf false (atB N l a m) x = true ↔ Way l m a x.toNat := by
  unfold atB
  rw [rd_boolmap _ h0 h1]
  exact wayB_iff
noncomputable def nextB (N : Nat) (l : List IE) (a m : Nat) (es : List IE) : List Bool := (List.range N).map (nextV l a m es)
theorem nextB_len (N : Nat) (l : List IE) (a m : Nat) (es : List IE) : (nextB N l a m es).length = N := by simp [nextB]
theorem nextB_all {N : Nat} {l : List IE} {a m : Nat} (hl : ∀ e ∈ l, 0 ≤ e.f0) : nextB N l a m l = atB N l a (m + 1) := by
  unfold nextB atB
  congr 1
  funext v
  rw [Bool.eq_iff_iff, nextV_iff, wayB_iff, Way.snoc]
  constructor
  · rintro ⟨e, he, h1, h2⟩
    exact ⟨e.f0.toNat, h2, e, he, by have := hl e he; omega, h1⟩
  · rintro ⟨c, h2, e, he, h3, h1⟩
    exact ⟨e, he, h1, by rw [h3, Int.toNat_natCast]; exact h2⟩
theorem l14Way_ev {n : Int} {l : List IE} (hg : graphOk n l = true) {a b : Nat} (ha : (a : Int) < n) (hb : (b : Int) < n) : ∃ d : Nat, isDist l a b d ∧ Ev (fun k => spec_l14Way.f k n l (a : Int) (b : Int)) (d : Int) := by
  obtain ⟨hn, hlen, he⟩ := (graphOk_iff n l).1 hg
  have hE : ∀ a b, E l a b → a < n.toNat ∧ b < n.toNat := by
    rintro a b ⟨e, hel, h1, h2⟩
    have := he e hel
    omega
  obtain ⟨N, rfl⟩ : ∃ N : Nat, n = (N : Int) := ⟨n.toNat, by omega⟩
  rw [Int.toNat_natCast] at hE
  -- from a number of steps on
  have key : ∀ (q m : Nat), m + q = N → (∀ j, 0 < j → j ≤ m → ¬ Way l j a b) → ∃ d : Nat, isDist l a b d ∧ Ev (fun k => spec_l14Way.l0 k (N : Int) l (b : Int) (atB N l a m) ((m + 1 : Nat) : Int)) (d : Int) := by
    intro q
    induction q with
    | zero =>
      intro m hm hno
      refine ⟨0, .inl ⟨rfl, ?_⟩, Ev.succ (fun k => ?_)⟩
      · rintro j hj ⟨p, hp, h⟩
        obtain ⟨q, g1, g2, g3, g4⟩ := isWay_short hE (by intro e; simp [e] at hp; omega) h
        exact hno q.length (List.length_pos_iff.2 g2) (by omega) ⟨q, rfl, g1⟩
      · simp only [spec_l14Way.l0]
        rw [if_neg (by omega)]
        rfl
    | succ q ih =>
      intro m hm hno
      -- the edges
      have inner : ∀ (t i : Nat) (r : Int), i + t = l.length → Ev (fun k => spec_l14Way.l1 k (N : Int) l (b : Int) (atB N l a m) ((m + 1 : Nat) : Int) (nextB N l a m l) (l.length : Int)) r →
          Ev (fun k => spec_l14Way.l1 k (N : Int) l (b : Int) (atB N l a m) ((m + 1 : Nat) : Int) (nextB N l a m (l.take i)) (i : Int)) r := by
        intro t
        induction t with
        | zero =>
          intro i r hi hr
          obtain rfl : i = l.length := by omega
          rw [List.take_length]
          exact hr
        | succ t iht =>
          intro i r hi hr
          have h : i < l.length := by omega
          have h1 := he l[i] (List.getElem_mem h)
          have hn2 := iht (i + 1) r (by omega) hr
          refine Ev.step (fun k => ?_) hn2
          simp only [spec_l14Way.l1]
          rw [if_pos (by omega), if_pos (by omega), rd_IE h, if_pos (by omega), atB_len, if_pos (by omega), w64_succ h (by omega)]
          have ts : l.take (i + 1) = l.take i ++ [l[i]] := List.take_succ_eq_append_getElem h
          by_cases hc : rdOf false (atB N l a m) l[i].f0 = true
          · rw [if_pos hc, if_pos (by omega), nextB_len, if_pos (by omega)]
            congr 1
            rw [ts]
            apply List.ext_getElem
            · simp [nextB]
            · intro v h2 h3
              simp only [nextB, List.length_set, List.length_map, List.length_range] at h2
              rw [List.getElem_set]
              simp only [nextB, List.getElem_map, List.getElem_range]
              have hw := (atB_get (by omega) (by omega)).1 hc
              by_cases hv : l[i].f1.toNat = v
              · rw [if_pos hv]
                exact (nextV_iff.2 ⟨l[i], List.mem_append_right _ (List.mem_singleton.2 rfl), by omega, hw⟩).symm
              · rw [if_neg hv, Bool.eq_iff_iff, nextV_iff, nextV_iff]
                constructor
                · rintro ⟨e, hel, g1, g2⟩; exact ⟨e, List.mem_append_left _ hel, g1, g2⟩
                · rintro ⟨e, hel, g1, g2⟩
                  rcases List.mem_append.1 hel with hel | hel
                  · exact ⟨e, hel, g1, g2⟩
                  · rw [List.mem_singleton.1 hel] at g1
                    omega
          · rw [if_neg hc]
            congr 1
            rw [ts]
            unfold nextB
            congr 1
            funext v
            rw [Bool.eq_iff_iff, nextV_iff, nextV_iff]
            constructor
            · rintro ⟨e, hel, g1, g2⟩; exact ⟨e, List.mem_append_left _ hel, g1, g2⟩
            · rintro ⟨e, hel, g1, g2⟩
              rcases List.mem_append.1 hel with hel | hel
              · exact ⟨e, hel, g1, g2⟩
              · rw [List.mem_singleton.1 hel] at g2
                exact absurd ((atB_get (by omega) (by omega)).2 g2) hc
      have e0 : List.replicate N false = nextB N l a m (l.take 0) := by
        apply List.ext_getElem
        · simp [nextB]
        · intro j h1 h2
          simp only [nextB, List.getElem_replicate, List.getElem_map, List.take_zero]
          symm
          rw [Bool.eq_false_iff]
          intro h
          obtain ⟨e, he, _⟩ := nextV_iff.1 h
          simp at he
      have close : ∀ r : Int, Ev (fun k => spec_l14Way.l1 k (N : Int) l (b : Int) (atB N l a m) ((m + 1 : Nat) : Int) (nextB N l a m l) (l.length : Int)) r → Ev (fun k => spec_l14Way.l0 k (N : Int) l (b : Int) (atB N l a m) ((m + 1 : Nat) : Int)) r := by
        intro r hr
        have h := inner l.length 0 r (by omega) hr
        rw [← e0] at h
        refine Ev.step (fun k => ?_) h
        simp only [spec_l14Way.l0]
        rw [if_pos (by omega), if_pos (by omega), if_pos (by omega), Int.toNat_natCast]
        rfl
      rw [nextB_all (fun e hel => (he e hel).1.1)] at close
      by_cases hw : Way l (m + 1) a b
      · refine ⟨m + 1, .inr ⟨by omega, hw, fun j hj hlt => hno j hj (by omega)⟩, close _ (Ev.succ (fun k => ?_))⟩
        simp only [spec_l14Way.l1]
        rw [if_neg (by omega), if_pos (by omega), atB_len, if_pos (by omega), if_pos ((atB_get (by omega) (by omega)).2 (by rw [Int.toNat_natCast]; exact hw))]
      · obtain ⟨d, hd, hev⟩ := ih (m + 1) (by omega) (fun j hj hle => by
          by_cases e : j = m + 1
          · rw [e]; exact hw
          · exact hno j hj (by omega))
        refine ⟨d, hd, close _ (Ev.step (fun k => ?_) hev)⟩
        simp only [spec_l14Way.l1]
        rw [if_neg (by omega), if_pos (by omega), atB_len, if_pos (by omega), if_neg (by
          intro hc
          have := (atB_get (by omega) (by omega)).1 hc
          rw [Int.toNat_natCast] at this
          exact hw this), w64_nat _ (by omega)]
  obtain ⟨d, hd, hev⟩ := key N 0 (by omega) (fun j hj hle => by omega)
  refine ⟨d, hd, ?_⟩
  unfold spec_l14Way.f
  refine Ev.congr (fun k => if_pos (by omega)) (Ev.congr (fun k => if_pos (by omega)) ?_)
  simp only [Option.bind_some]
  refine Ev.congr (fun k => if_pos (by omega)) (Ev.congr (fun k => if_pos (by rw [List.length_replicate]; omega)) ?_)
  have e : (List.replicate N false).set a true = atB N l a 0 := by
    apply List.ext_getElem
    · simp [atB]
    · intro j h1 h2
      rw [List.getElem_set]
      simp only [atB, List.getElem_map, List.getElem_range, List.getElem_replicate]
      by_cases h : a = j
      · rw [if_pos h]
        exact (wayB_iff.2 ⟨[], rfl, h⟩).symm
      · rw [if_neg h]
        symm
        rw [Bool.eq_false_iff]
        intro hc
        obtain ⟨p, hp, hw⟩ := wayB_iff.1 hc
        rw [List.length_eq_zero_iff.1 hp] at hw
        exact h hw
  rw [Int.toNat_natCast, Int.toNat_natCast, e]
  exact hev

-- chunk canon: the canonical order
def nextOf (N : Nat) (l : List IE) (o : List Int) : Option Nat := least (fun x => freeB l o (x : Int)) N
/-- m more numbers behind o. -/
def canonG (N : Nat) (l : List IE) : Nat → List Int → Option (List Int)
  | 0, o => some o
  | m + 1, o => match nextOf N l o with
    | some x => canonG N l m (o ++ [(x : Int)])
    | none => none
def canonP (n : Int) (l : List IE) : Option (List Int) := canonG n.toNat l n.toNat []
def pairOf : Option (List Int) → List Int × Bool
  | some o => (o, true)
  | none => ([], false)
theorem impl_canon_ev (n : Int) (l : List IE) (h0 : 0 ≤ n) (h1 : n ≤ 16) (hl : l.length ≤ 200) : Ev (fun k => impl_canon.f k n l) (pairOf (canonP n l)) := by
  unfold impl_canon.f canonP
  have key : ∀ (m : Nat) (o : List Int), o.length + m = n.toNat → Ev (fun k => impl_canon.l0 k n l o) (pairOf (canonG n.toNat l m o)) := by
    intro m
    induction m with
    | zero =>
      intro o ho
      refine Ev.succ (fun k => ?_)
      simp only [impl_canon.l0]
      rw [if_neg (by omega)]
      rfl
    | succ m ih =>
      intro o ho
      refine Ev.step (f := fun k => impl_canon.l1 k n l o (-1) ((n.toNat : Int) - 1)) (fun k => ?_) ?_
      · simp only [impl_canon.l0]
        rw [if_pos (by omega), w64 (by omega) (by omega), Int.toNat_of_nonneg h0]
      · refine down_least (fun x => freeB l o (x : Int)) n.toNat (fun k s i => impl_canon.l1 k n l o s i) _ (fun i hi s hr => ?_) ?_
        · refine Ev.step (f := fun k => (impl_free.f k l o (i : Int)).bind fun t => if t = true then impl_canon.l1 k n l o (i : Int) ((i : Int) - 1) else impl_canon.l1 k n l o s ((i : Int) - 1)) (fun k => ?_) ?_
          · simp only [impl_canon.l1]
            rw [if_pos (by omega), w64 (x := (i : Int) - 1) (by omega) (by omega)]
          · refine Ev.bind (impl_free_ev (i : Int) (by omega) (by omega)) ?_
            cases hf : freeB l o (i : Int) <;> simpa [hf] using hr
        · rw [seen_zero]
          show Ev _ (pairOf (canonG n.toNat l (m + 1) o))
          unfold canonG
          have e : nextOf n.toNat l o = least (fun x => freeB l o (x : Int)) n.toNat := rfl
          rw [e]
          cases hq : least (fun x => freeB l o (x : Int)) n.toNat with
          | none =>
            refine Ev.succ (fun k => ?_)
            simp only [impl_canon.l1]
            rw [if_neg (by omega), if_pos (by omega)]
            rfl
          | some x =>
            refine Ev.step (f := fun k => impl_canon.l0 k n l (o ++ [(x : Int)])) (fun k => ?_) (ih _ (by simp; omega))
            simp only [impl_canon.l1]
            rw [if_neg (by omega), if_neg (by omega), if_pos (by omega)]
  exact key n.toNat [] (by simp)
theorem impl_Canon_ev (n : Int) (l : List IE) : Ev (fun k => impl_Canon.f k n l) (if graphOk n l then pairOf (canonP n l) else ([], false)) := by
  unfold impl_Canon.f
  refine Ev.bind (impl_GraphOk_ev n l) ?_
  cases hg : graphOk n l with
  | false => exact Ev.of_eq fun k => rfl
  | true =>
    obtain ⟨hn, hl, _⟩ := (graphOk_iff n l).1 hg
    simp only [if_true]
    exact Ev.bind (impl_canon_ev n l hn.1 hn.2 hl) (Ev.of_eq fun k => rfl)
/-- The reference's flags of a list of numbers. -/
def flags (N : Nat) (o : List Int) : List Bool := (List.range N).map fun x : Nat => decide ((x : Int) ∈ o)
theorem flags_len (N : Nat) (o : List Int) : (flags N o).length = N := by simp [flags]
theorem rd_flags {N : Nat} {o : List Int} {x : Int} (h0 : 0 ≤ x) (h1 : x < (N : Int)) : rdOf false (flags N o) x = decide (x ∈ o) := by
  obtain ⟨y, rfl⟩ : ∃ y : Nat, x = (y : Int) := ⟨x.toNat, by omega⟩
  rw [rdOf_lt _ _ (by rw [flags_len]; omega)]
  simp [flags]
theorem flags_set {N : Nat} {o : List Int} {x : Nat} (h : x < N) : (flags N o).set x true = flags N (o ++ [(x : Int)]) := by
  apply List.ext_getElem
  · simp [flags]
  · intro j h1 h2
    simp [flags, List.getElem_set] at h1 h2 ⊢
    by_cases e : x = j
    · simp [e]
    · have : (j : Int) ≠ (x : Int) := by omega
      simp [e, this]
theorem l14Ready_ev {N : Nat} {l : List IE} {o : List Int} {x : Int} (h0 : 0 ≤ x) (h1 : x < (N : Int)) (hl : l.length ≤ 9223372036854775807) (he : ∀ e ∈ l, 0 ≤ e.f0 ∧ e.f0 < (N : Int)) :
    Ev (fun k => spec_l14Ready.f k l (flags N o) x) (freeB l o x) := by
  unfold spec_l14Ready.f
  refine Ev.congr (fun k => if_pos h0) (Ev.congr (fun k => if_pos (by rw [flags_len]; exact h1)) ?_)
  rw [rd_flags h0 h1]
  by_cases hx : x ∈ o
  · rw [show freeB l o x = false by simp [freeB, hx]]
    exact Ev.of_eq fun k => by simp [hx]
  · have hf : freeB l o x = (l.drop 0).all (edgeFree o x) := by simp [freeB, hx]
    rw [hf]
    refine Ev.congr (fun k => if_neg (by simp [hx])) ?_
    refine all_ev l (edgeFree o x) (fun k i => spec_l14Ready.l0 k l (flags N o) x i) (fun i h hp r hr => ?_) (fun i h hp => ?_) ?_ 0 (by omega)
    · have h2 := he l[i] (List.getElem_mem h)
      refine Ev.step (fun k => ?_) hr
      simp only [spec_l14Ready.l0]
      rw [if_pos (by omega), if_pos (by omega), rd_IE h, flags_len, w64_succ h hl]
      by_cases e : l[i].f1 = x
      · have : l[i].f0 ∈ o := by simpa [edgeFree, e] using hp
        rw [if_pos e, if_pos h2.1, if_pos h2.2, rd_flags h2.1 h2.2, if_pos (by simpa using this)]
      · rw [if_neg e]
    · have h2 := he l[i] (List.getElem_mem h)
      have e : l[i].f1 = x := by
        apply Classical.byContradiction
        intro hn
        simp [edgeFree, hn] at hp
      have hn : l[i].f0 ∉ o := by simpa [edgeFree, e] using hp
      refine Ev.succ (fun k => ?_)
      simp only [spec_l14Ready.l0]
      rw [if_pos (by omega), if_pos (by omega), rd_IE h, flags_len, if_pos e, if_pos h2.1, if_pos h2.2, rd_flags h2.1 h2.2, if_neg (by simpa using hn)]
    · refine Ev.succ (fun k => ?_)
      simp only [spec_l14Ready.l0]
      rw [if_neg (by omega)]
theorem spec_Canon_ev (n : Int) (l : List IE) : Ev (fun k => spec_Canon.f k n l) (if graphOk n l then pairOf (canonP n l) else ([], false)) := by
  unfold spec_Canon.f
  refine Ev.bind (spec_GraphOk_ev n l) ?_
  cases hg : graphOk n l with
  | false => exact Ev.of_eq fun k => rfl
  | true =>
    obtain ⟨hn, hl, he⟩ := (graphOk_iff n l).1 hg
    have h0 := hn.1
    have h1 := hn.2
    simp only [if_true]
    refine Ev.congr (fun k => if_pos h0) (Ev.congr (fun k => if_pos (by omega)) ?_)
    have key : ∀ (m : Nat) (o : List Int), o.length + m = n.toNat → Ev (fun k => spec_Canon.l0 k n l o (flags n.toNat o)) (pairOf (canonG n.toNat l m o)) := by
      intro m
      induction m with
      | zero =>
        intro o ho
        refine Ev.succ (fun k => ?_)
        simp only [spec_Canon.l0]
        rw [if_neg (by omega)]
        rfl
      | succ m ih =>
        intro o ho
        refine Ev.step (f := fun k => spec_Canon.l1 k n l o (flags n.toNat o) (-1) ((n.toNat : Int) - 1)) (fun k => ?_) ?_
        · simp only [spec_Canon.l0]
          rw [if_pos (by omega), w64 (by omega) (by omega), Int.toNat_of_nonneg h0]
        · refine down_least (fun x => freeB l o (x : Int)) n.toNat (fun k s i => spec_Canon.l1 k n l o (flags n.toNat o) s i) _ (fun i hi s hr => ?_) ?_
          · refine Ev.step (f := fun k => (spec_l14Ready.f k l (flags n.toNat o) (i : Int)).bind fun t => if t = true then spec_Canon.l1 k n l o (flags n.toNat o) (i : Int) ((i : Int) - 1) else spec_Canon.l1 k n l o (flags n.toNat o) s ((i : Int) - 1)) (fun k => ?_) ?_
            · simp only [spec_Canon.l1]
              rw [if_pos (by omega), w64 (x := (i : Int) - 1) (by omega) (by omega)]
            · refine Ev.bind (l14Ready_ev (by omega) (by omega) (by omega) (fun e hel => ⟨(he e hel).1.1, by have := (he e hel).1.2; omega⟩)) ?_
              cases hf : freeB l o (i : Int) <;> simpa [hf] using hr
          · rw [seen_zero]
            show Ev _ (pairOf (canonG n.toNat l (m + 1) o))
            unfold canonG
            have e : nextOf n.toNat l o = least (fun x => freeB l o (x : Int)) n.toNat := rfl
            rw [e]
            cases hq : least (fun x => freeB l o (x : Int)) n.toNat with
            | none =>
              refine Ev.succ (fun k => ?_)
              simp only [spec_Canon.l1]
              rw [if_neg (by omega), if_pos (by omega)]
              rfl
            | some x =>
              have hx := (least_some hq).1
              refine Ev.step (f := fun k => spec_Canon.l0 k n l (o ++ [(x : Int)]) (flags n.toNat (o ++ [(x : Int)]))) (fun k => ?_) (ih _ (by simp; omega))
              simp only [spec_Canon.l1]
              rw [if_neg (by omega), if_neg (by omega), if_pos (by omega), flags_len, if_pos (by omega), if_pos (by omega), Int.toNat_natCast, flags_set hx]
    have h := key n.toNat [] (by simp)
    have e : List.replicate n.toNat false = flags n.toNat [] := by
      apply List.ext_getElem
      · simp [flags]
      · intro j h1 h2; simp [flags]
    rw [e]
    exact h

-- chunk circle: the shortest circle, of the program and of the reference
theorem dist_of {l : List IE} {a b : Nat} : ∀ m, 0 < m → Way l m a b → ∃ d, isDist l a b d := by
  intro m
  induction m using Nat.strongRecOn with
  | _ m ih =>
    intro hm hw
    by_cases h : ∃ j, 0 < j ∧ j < m ∧ Way l j a b
    · obtain ⟨j, hj, hlt, hw2⟩ := h
      exact ih j hlt hj hw2
    · exact ⟨m, .inr ⟨hm, hw, fun j hj hlt hw2 => h ⟨j, hj, hlt, hw2⟩⟩⟩
theorem dist_ex (l : List IE) (a b : Nat) : ∃ d, isDist l a b d := by
  by_cases h : ∃ m, 0 < m ∧ Way l m a b
  · obtain ⟨m, hm, hw⟩ := h
    exact dist_of m hm hw
  · exact ⟨0, .inl ⟨rfl, fun m hm hw => h ⟨m, hm, hw⟩⟩⟩
noncomputable def dN (l : List IE) (a b : Nat) : Nat := Classical.choose (dist_ex l a b)
theorem dN_is (l : List IE) (a b : Nat) : isDist l a b (dN l a b) := Classical.choose_spec (dist_ex l a b)
theorem dN_eq {l : List IE} {a b d : Nat} (h : isDist l a b d) : dN l a b = d := isDist_unique (dN_is l a b) h
theorem dN_next {l : List IE} {a b d : Nat} (h : dN l a b = d + 2) : ∃ v, E l a v ∧ dN l v b = d + 1 := by
  have h1 := dN_is l a b
  rw [h] at h1
  rcases h1 with ⟨h0, _⟩ | ⟨_, ⟨p, hp, hw⟩, hmin⟩
  · omega
  · match p, hp with
    | v :: q, hq =>
      refine ⟨v, hw.1, dN_eq (.inr ⟨by omega, ⟨q, by simpa using hq, hw.2⟩, fun m hm hlt hw2 => ?_⟩)⟩
      exact hmin (1 + m) (by omega) (by omega) (Way.join (Way.one.2 hw.1) hw2)
theorem edge_within {n : Int} {l : List IE} (hg : graphOk n l = true) {a b : Nat} (h : E l a b) : (a : Int) < n ∧ (b : Int) < n := by
  obtain ⟨_, _, he⟩ := (graphOk_iff n l).1 hg
  obtain ⟨e, hel, h1, h2⟩ := h
  have := he e hel
  omega
def encO : Option Nat → Int
  | none => -1
  | some p => (p : Int)
def leO (D : Nat → Nat) (x : Nat) : Option Nat → Bool
  | none => true
  | some p => decide (x ≤ D p)
def cirAt (D : Nat → Nat) : Nat → Option Nat → Option Nat
  | 0, q => q
  | j + 1, q => cirAt D j (if 0 < D j ∧ leO D (D j) q = true then some j else q)
theorem cirAt_pos {D : Nat → Nat} {N : Nat} {i : Nat} {q : Option Nat} (hi : i ≤ N) (hq : ∀ p, q = some p → 0 < D p ∧ p < N) : ∀ p, cirAt D i q = some p → 0 < D p ∧ p < N := by
  induction i generalizing q with
  | zero => exact hq
  | succ j ih =>
    unfold cirAt
    refine ih (by omega) ?_
    intro p hp
    split at hp
    · rename_i h
      injection hp with hp
      subst hp
      exact ⟨h.1, by omega⟩
    · exact hq p hp
def tableOf (l : List IE) (N : Nat) (M : List Int) : Prop := ∀ a b, a < N → b < N → dGet M a b = if dN l a b = 0 then -1 else (dN l a b : Int)
noncomputable def nextC (l : List IE) (q : Nat) (last : Int) (left : Nat) (v : Nat) : Bool := decide (E l last.toNat v) && decide (dN l v q = left)
noncomputable def cwalk (l : List IE) (N q : Nat) : Nat → List Int → List Int
  | 0, o => o
  | m + 1, o => match (List.range N).find? (nextC l q (o.getLastD 0) (m + 1)) with
    | some v => cwalk l N q m (o ++ [(v : Int)])
    | none => cwalk l N q m o
theorem dN_one {l : List IE} {a b : Nat} : dN l a b = 1 ↔ E l a b := by
  constructor
  · intro h
    have h1 := dN_is l a b
    rw [h] at h1
    rcases h1 with ⟨h0, _⟩ | ⟨_, hw, _⟩
    · omega
    · exact Way.one.1 hw
  · intro h
    exact dN_eq (.inr ⟨by omega, Way.one.2 h, fun m hm hlt => by omega⟩)
theorem find_congr {α : Type} {p q : α → Bool} {xs : List α} (h : ∀ x ∈ xs, p x = q x) : xs.find? p = xs.find? q := by
  induction xs with
  | nil => rfl
  | cons a xs ih =>
    rw [List.find?_cons, List.find?_cons, h a (by simp), ih (fun x hx => h x (by simp [hx]))]
noncomputable def circP (l : List IE) (N : Nat) : List Int := match cirAt (fun j => dN l j j) N none with
  | none => []
  | some q => cwalk l N q (dN l q q - 1) [(q : Int)]
noncomputable def circleP (n : Int) (l : List IE) : List Int := if graphOk n l = true then circP l n.toNat else []
theorem way_dN {n : Int} {l : List IE} (hg : graphOk n l = true) {a b : Nat} (ha : (a : Int) < n) (hb : (b : Int) < n) : Ev (fun k => spec_l14Way.f k n l (a : Int) (b : Int)) (dN l a b : Int) := by
  obtain ⟨d, hd, h⟩ := l14Way_ev hg ha hb
  rw [dN_eq hd]
  exact h
def bestOf (D : Nat → Nat) : Option Nat → Int
  | none => 0
  | some p => (D p : Int)
def firstOf : Option Nat → Int
  | none => 0
  | some p => (p : Int)
theorem cwalk_len (l : List IE) (N q m : Nat) (o : List Int) : (cwalk l N q m o).length ≤ o.length + m := by
  induction m generalizing o with
  | zero => exact Nat.le_refl _
  | succ m ih =>
    unfold cwalk
    split
    · refine Nat.le_trans (ih _) ?_
      simp; omega
    · exact Nat.le_trans (ih _) (by omega)
theorem circleP_len (n : Int) (l : List IE) : (circleP n l).length ≤ 16 := by
  unfold circleP
  split
  · rename_i hg
    obtain ⟨hn, hlen, he⟩ := (graphOk_iff n l).1 hg
    unfold circP
    cases hc : cirAt (fun j => dN l j j) n.toNat none with
    | none => simp
    | some q =>
      have hq := cirAt_pos (N := n.toNat) (Nat.le_refl _) (fun p hp => by cases hp) q hc
      have hle : dN l q q ≤ n.toNat := isDist_le (N := n.toNat) (fun a b h => by have := edge_within hg h; omega) (dN_is l q q)
      have := cwalk_len l n.toNat q (dN l q q - 1) [(q : Int)]
      simp at this
      have h0 := hq.1
      simp only
      omega
  · simp

-- chunk reduced: what is left of a graph without the edges that a longer way stands for
def qAny (D : Nat → Nat → Bool) (a b m : Nat) : Bool := (List.range m).any fun k => D a k && D k b
theorem qAny_succ (D : Nat → Nat → Bool) (a b m : Nat) : qAny D a b (m + 1) = (qAny D a b m || (D a m && D m b)) := by
  unfold qAny
  rw [List.range_succ, List.any_append]
  simp
def qStep (D : Nat → Nat → Bool) (N a : Nat) (o : List IE) (b : Nat) : List IE := if D a b = true ∧ qAny D a b N = false then o ++ [(⟨(a : Int), (b : Int)⟩ : IE)] else o
def qB (D : Nat → Nat → Bool) (N a m : Nat) (o : List IE) : List IE := (List.range m).foldl (qStep D N a) o
theorem qB_succ (D : Nat → Nat → Bool) (N a m : Nat) (o : List IE) : qB D N a (m + 1) o = qStep D N a (qB D N a m o) m := by
  unfold qB
  rw [List.range_succ, List.foldl_append]
  rfl
def qA (D : Nat → Nat → Bool) (N m : Nat) (o : List IE) : List IE := (List.range m).foldl (fun o a => qB D N a N o) o
theorem qA_succ (D : Nat → Nat → Bool) (N m : Nat) (o : List IE) : qA D N (m + 1) o = qB D N m N (qA D N m o) := by
  unfold qA
  rw [List.range_succ, List.foldl_append]
  rfl
theorem qStep_len (D : Nat → Nat → Bool) (N a : Nat) (o : List IE) (b : Nat) : (qStep D N a o b).length ≤ o.length + 1 := by
  unfold qStep
  split <;> simp
theorem qB_len (D : Nat → Nat → Bool) (N a m : Nat) (o : List IE) : (qB D N a m o).length ≤ o.length + m := by
  induction m with
  | zero => exact Nat.le_refl _
  | succ m ih =>
    rw [qB_succ]
    have := qStep_len D N a (qB D N a m o) m
    omega
theorem qA_len (D : Nat → Nat → Bool) (N m : Nat) (o : List IE) : (qA D N m o).length ≤ o.length + m * N := by
  induction m with
  | zero => simp [qA]
  | succ m ih =>
    rw [qA_succ, Nat.add_mul]
    have := qB_len D N m N (qA D N m o)
    omega
noncomputable def posB (l : List IE) (a b : Nat) : Bool := decide (0 < dN l a b)
noncomputable def redP (n : Int) (l : List IE) : List IE := qA (posB l) n.toNat n.toNat []
noncomputable def reducedP (n : Int) (l : List IE) : List IE := if graphOk n l = true ∧ (canonP n l).isSome = true then redP n l else []
theorem reducedP_len (n : Int) (l : List IE) : (reducedP n l).length ≤ 256 := by
  unfold reducedP
  split
  · rename_i h
    obtain ⟨hn, _, _⟩ := (graphOk_iff n l).1 h.1
    have h1 := qA_len (posB l) n.toNat n.toNat []
    have h2 : n.toNat * n.toNat ≤ 16 * 16 := Nat.mul_le_mul (by omega) (by omega)
    unfold redP
    simp only [List.length_nil] at h1
    omega
  · simp
theorem table_pos {l : List IE} {N : Nat} {M : List Int} (hM : tableOf l N M) {a b : Nat} (ha : a < N) (hb : b < N) : decide (0 < dGet M a b) = posB l a b := by
  unfold posB
  have h := hM a b ha hb
  rw [h]
  refine decide_eq_decide.2 ?_
  split <;> omega
theorem rAny_eq {l : List IE} {N : Nat} {M : List Int} (hM : tableOf l N M) {a b m : Nat} (ha : a < N) (hb : b < N) (hm : m ≤ N) : rAny M a b m = qAny (posB l) a b m := by
  induction m with
  | zero => rfl
  | succ m ih =>
    have e : rAny M a b (m + 1) = (rAny M a b m || (decide (0 < dGet M a m) && decide (0 < dGet M m b))) := by
      unfold rAny
      rw [List.range_succ, List.any_append]
      simp
    rw [e, qAny_succ, ih (by omega), table_pos hM ha (by omega), table_pos hM (by omega) hb]
theorem rStep_eq {l : List IE} {N : Nat} {M : List Int} (hM : tableOf l N M) {a b : Nat} (ha : a < N) (hb : b < N) (o : List IE) : rStep M N a o b = qStep (posB l) N a o b := by
  unfold rStep qStep
  rw [rAny_eq hM ha hb (Nat.le_refl _)]
  have h := table_pos hM ha hb
  by_cases c : 0 < dGet M a b
  · rw [decide_eq_true c] at h
    rw [← h]
    simp [c]
  · rw [decide_eq_false c] at h
    rw [← h]
    simp [c]
theorem rB_eq {l : List IE} {N : Nat} {M : List Int} (hM : tableOf l N M) {a m : Nat} (ha : a < N) (hm : m ≤ N) (o : List IE) : rB M N a m o = qB (posB l) N a m o := by
  induction m with
  | zero => rfl
  | succ m ih =>
    have e : rB M N a (m + 1) o = rStep M N a (rB M N a m o) m := by
      unfold rB
      rw [List.range_succ, List.foldl_append]
      rfl
    rw [e, qB_succ, ih (by omega), rStep_eq hM ha (by omega)]
theorem rA_eq {l : List IE} {N : Nat} {M : List Int} (hM : tableOf l N M) {m : Nat} (hm : m ≤ N) (o : List IE) : rA M N m o = qA (posB l) N m o := by
  induction m with
  | zero => rfl
  | succ m ih =>
    have e : rA M N (m + 1) o = rB M N m N (rA M N m o) := by
      unfold rA
      rw [List.range_succ, List.foldl_append]
      rfl
    rw [e, qA_succ, ih (by omega), rB_eq hM (by omega) (Nat.le_refl _)]
theorem impl_Reduced_ev (n : Int) (l : List IE) : Ev (fun k => impl_Reduced.f k n l) (reducedP n l) := by
  unfold impl_Reduced.f reducedP
  refine Ev.bind (impl_Canon_ev n l) ?_
  cases hg : graphOk n l with
  | false => exact Ev.of_eq fun k => by simp
  | true =>
    cases hc : canonP n l with
    | none => exact Ev.of_eq fun k => by simp [pairOf]
    | some o =>
      obtain ⟨hn, hlen, he⟩ := (graphOk_iff n l).1 hg
      obtain ⟨M, e, hML, ht⟩ := dist_tells hg
      have hM : tableOf l n.toNat M := fun a b ha hb => by
        obtain ⟨d, hd, hm⟩ := ht a b (by omega) (by omega)
        rw [hm, dN_eq hd]
      refine Ev.of_eq fun k => ?_
      rw [e, if_pos (by simp [pairOf]), if_pos (by simp)]
      simp only [Option.bind_some]
      rw [rA_eq hM (Nat.le_refl _)]
      rfl

-- chunk acyclic: there is an order just if there is no circle
def acyc (l : List IE) : Prop := ∀ c m, 0 < m → ¬ Way l m c c
theorem way_dup {l : List IE} {p : List Nat} {a b : Nat} (h : isWay l a p b) (hd : ¬ (a :: p).Nodup) : ∃ c m, 0 < m ∧ Way l m c c := by
  induction p generalizing a with
  | nil => exact absurd (by simp) hd
  | cons v q ih =>
    by_cases ha : a ∈ v :: q
    · obtain ⟨s, t, e⟩ := List.append_of_mem ha
      rw [e] at h
      obtain ⟨c, h1, h2⟩ := isWay_append.1 h
      exact ⟨a, s.length + 1, by omega, Way.snoc.2 ⟨c, ⟨s, rfl, h1⟩, h2.1⟩⟩
    · exact ih h.2 (fun hn => hd (List.nodup_cons.2 ⟨ha, hn⟩))
theorem stuck_circle {N : Nat} {l : List IE} (hE : ∀ a b, E l a b → a < N ∧ b < N) (hI : ∀ e ∈ l, 0 ≤ e.f0 ∧ 0 ≤ e.f1) {o : List Int} {x : Nat} (hx : x < N) (hxo : (x : Int) ∉ o) (h : nextOf N l o = none) : ∃ c m, 0 < m ∧ Way l m c c := by
  have back : ∀ m, ∃ p a, p.length = m ∧ isWay l a p x ∧ (a : Int) ∉ o ∧ a < N := by
    intro m
    induction m with
    | zero => exact ⟨[], x, rfl, rfl, hxo, hx⟩
    | succ m ih =>
      obtain ⟨p, a, hp, hw, hao, haN⟩ := ih
      have hf := least_none h a haN
      have hnf : ¬ (freeB l o (a : Int) = true) := by rw [hf]; simp
      rw [freeB_iff] at hnf
      have : ∃ e ∈ l, e.f1 = (a : Int) ∧ e.f0 ∉ o := by
        apply Classical.byContradiction
        intro hn
        refine hnf ⟨hao, fun e he h1 => ?_⟩
        apply Classical.byContradiction
        intro h0
        exact hn ⟨e, he, h1, h0⟩
      obtain ⟨e, he, h1, h0⟩ := this
      have hI := hI e he
      have hEe : E l e.f0.toNat a := ⟨e, he, by omega, h1⟩
      exact ⟨a :: p, e.f0.toNat, by simp [hp], ⟨hEe, hw⟩, by rw [Int.toNat_of_nonneg hI.1]; exact h0, (hE _ _ hEe).1⟩
  obtain ⟨p, a, hp, hw, hao, haN⟩ := back N
  refine way_dup hw (fun hd => ?_)
  have := nodup_len hd (fun y hy => by
    rcases List.mem_cons.1 hy with rfl | hy
    · exact haN
    · exact isWay_lt hE hw y hy)
  simp at this
  omega
/-- What holds of the numbers that stand in an order. -/
def ordOk (N : Nat) (l : List IE) (o : List Int) : Prop := o.Nodup ∧ (∀ x ∈ o, 0 ≤ x ∧ x < (N : Int)) ∧ ∀ (j : Nat) (hj : j < o.length), ∀ e ∈ l, e.f1 = o[j] → e.f0 ∈ o.take j
theorem ordOk_snoc {N : Nat} {l : List IE} {o : List Int} (h : ordOk N l o) {x : Nat} (hx : x < N) (hf : freeB l o (x : Int) = true) : ordOk N l (o ++ [(x : Int)]) := by
  obtain ⟨h1, h2, h3⟩ := h
  rw [freeB_iff] at hf
  refine ⟨?_, ?_, ?_⟩
  · rw [List.nodup_append]
    refine ⟨h1, by simp, fun a ha b hb => ?_⟩
    rw [List.mem_singleton.1 hb]
    rintro rfl
    exact hf.1 ha
  · intro y hy
    rcases List.mem_append.1 hy with hy | hy
    · exact h2 y hy
    · rw [List.mem_singleton.1 hy]; omega
  · intro j hj e he h4
    by_cases c : j < o.length
    · rw [List.getElem_append_left c] at h4
      rw [List.take_append_of_le_length (by omega)]
      exact h3 j c e he h4
    · obtain rfl : j = o.length := by simp at hj; omega
      simp at h4
      simp
      exact hf.2 e he h4
theorem canonG_ok {N : Nat} {l : List IE} {m : Nat} {o o' : List Int} (ho : ordOk N l o) (h : canonG N l m o = some o') : ordOk N l o' ∧ o'.length = o.length + m := by
  induction m generalizing o with
  | zero => unfold canonG at h; injection h with h; subst h; exact ⟨ho, rfl⟩
  | succ m ih =>
    unfold canonG at h
    split at h
    · rename_i x hx
      have h1 := least_some hx
      have h2 := ih (ordOk_snoc ho h1.1 h1.2.1) h
      simp at h2
      exact ⟨h2.1, by omega⟩
    · cases h
theorem int_nodup_len {N : Nat} {o : List Int} (hd : o.Nodup) (h : ∀ x ∈ o, 0 ≤ x ∧ x < (N : Int)) : o.length ≤ N := by
  have h1 : (o.map Int.toNat).Nodup := by
    rw [List.nodup_iff_pairwise_ne, List.pairwise_map]
    refine List.Pairwise.imp_of_mem (R := fun a b => a ≠ b) ?_ (List.nodup_iff_pairwise_ne.1 hd)
    intro a b ha hb hab
    have := h a ha
    have := h b hb
    omega
  have := nodup_len h1 (n := N) (fun y hy => by
    obtain ⟨x, hx, rfl⟩ := List.mem_map.1 hy
    have := h x hx
    omega)
  simpa using this
theorem ord_full {N : Nat} {l : List IE} {o : List Int} (ho : ordOk N l o) (hl : o.length = N) {x : Nat} (hx : x < N) : (x : Int) ∈ o := by
  apply Classical.byContradiction
  intro hn
  have := int_nodup_len (N := N) (o := (x : Int) :: o) (List.nodup_cons.2 ⟨hn, ho.1⟩) (fun y hy => by
    rcases List.mem_cons.1 hy with rfl | hy
    · omega
    · exact ho.2.1 y hy)
  simp at this
  omega
theorem ord_acyc {N : Nat} {l : List IE} (hE : ∀ a b, E l a b → a < N ∧ b < N) {o : List Int} (ho : ordOk N l o) (hlen : o.length = N) : acyc l := by
  have step : ∀ a b, E l a b → o.idxOf (a : Int) < o.idxOf (b : Int) := by
    intro a b hab
    have hN := hE a b hab
    have hb := List.idxOf_lt_length_of_mem (ord_full ho hlen hN.2)
    obtain ⟨e, he, h0, h1⟩ := hab
    have h3 := ho.2.2 (o.idxOf (b : Int)) hb e he (by rw [h1, List.getElem_idxOf])
    rw [h0] at h3
    obtain ⟨j, hj, hj2⟩ := List.mem_iff_getElem.1 h3
    rw [List.getElem_take] at hj2
    simp at hj
    rw [← hj2]
    have : o.idxOf o[j] = j := ho.1.idxOf_getElem j (by omega)
    omega
  have walk : ∀ (p : List Nat) (a b : Nat), p ≠ [] → isWay l a p b → o.idxOf (a : Int) < o.idxOf (b : Int) := by
    intro p
    induction p with
    | nil => intro a b h; exact absurd rfl h
    | cons v q ih =>
      intro a b _ hw
      have h1 := step a v hw.1
      by_cases hq : q = []
      · subst hq
        obtain rfl := hw.2
        exact h1
      · have := ih v b hq hw.2
        omega
  rintro c m hm ⟨p, hp, hw⟩
  have := walk p c c (by intro e; subst e; simp at hp; omega) hw
  omega
theorem canon_acyc {N : Nat} {l : List IE} (hE : ∀ a b, E l a b → a < N ∧ b < N) {o : List Int} (h : canonG N l N [] = some o) : acyc l := by
  obtain ⟨ho, hlen⟩ := canonG_ok (o := []) ⟨List.nodup_nil, by simp, by simp⟩ h
  exact ord_acyc hE ho (by simpa using hlen)
theorem sub_len {s t : List Int} (hs : s.Nodup) (h : ∀ x ∈ s, x ∈ t) : s.length ≤ t.length := by
  induction s generalizing t with
  | nil => simp
  | cons a s ih =>
    rw [List.nodup_cons] at hs
    have ha := h a (by simp)
    have h1 := ih (t := t.erase a) hs.2 (fun x hx => (List.mem_erase_of_ne (fun e => hs.1 (by rw [← e]; exact hx))).2 (h x (by simp [hx])))
    rw [List.length_erase_of_mem ha] at h1
    have := List.length_pos_of_mem ha
    simp
    omega
theorem acyc_canon {N : Nat} {l : List IE} (hE : ∀ a b, E l a b → a < N ∧ b < N) (hI : ∀ e ∈ l, 0 ≤ e.f0 ∧ 0 ≤ e.f1) (ha : acyc l) {m : Nat} {o : List Int} (hm : o.length + m = N) (ho : ordOk N l o) : ∃ o', canonG N l m o = some o' := by
  induction m generalizing o with
  | zero => exact ⟨o, rfl⟩
  | succ m ih =>
    unfold canonG
    cases hx : nextOf N l o with
    | some x =>
      have h1 := least_some hx
      exact ih (by simp; omega) (ordOk_snoc ho h1.1 h1.2.1)
    | none =>
      exfalso
      have : ∃ x : Nat, x < N ∧ (x : Int) ∉ o := by
        apply Classical.byContradiction
        intro hn
        have hall : ∀ x : Nat, x < N → (x : Int) ∈ o := fun x hx => Classical.byContradiction fun h => hn ⟨x, hx, h⟩
        have h1 : (List.range N).Nodup := List.nodup_range
        have h2 : ((List.range N).map fun x : Nat => (x : Int)).Nodup := by
          rw [List.nodup_iff_pairwise_ne, List.pairwise_map]
          exact List.Pairwise.imp (fun {a b} hab => by omega) (List.nodup_iff_pairwise_ne.1 h1)
        have h3 := sub_len (t := o) h2 (fun y hy => by
          obtain ⟨x, hx, rfl⟩ := List.mem_map.1 hy
          exact hall x (List.mem_range.1 hx))
        simp at h3
        omega
      obtain ⟨x, hxN, hxo⟩ := this
      obtain ⟨c, m, hm, hw⟩ := stuck_circle hE hI hxN hxo hx
      exact ha c m hm hw
theorem canon_iff {n : Int} {l : List IE} (hg : graphOk n l = true) : (canonP n l).isSome = true ↔ acyc l := by
  obtain ⟨hn, hlen, he⟩ := (graphOk_iff n l).1 hg
  have hE : ∀ a b, E l a b → a < n.toNat ∧ b < n.toNat := fun a b h => by have := edge_within hg h; omega
  unfold canonP
  constructor
  · intro h
    obtain ⟨o, ho⟩ := Option.isSome_iff_exists.1 h
    exact canon_acyc hE ho
  · intro h
    obtain ⟨o, ho⟩ := acyc_canon hE (fun e h => by have := he e h; omega) h (m := n.toNat) (o := []) (by simp) ⟨List.nodup_nil, by simp, by simp⟩
    rw [ho]
    rfl
theorem cirAt_none {D : Nat → Nat} {i : Nat} {q : Option Nat} (h : cirAt D i q = none) : q = none ∧ ∀ j, j < i → D j = 0 := by
  induction i generalizing q with
  | zero => exact ⟨h, fun j hj => by omega⟩
  | succ i ih =>
    unfold cirAt at h
    obtain ⟨h1, h2⟩ := ih h
    by_cases c : 0 < D i ∧ leO D (D i) q = true
    · rw [if_pos c] at h1; cases h1
    · rw [if_neg c] at h1
      subst h1
      refine ⟨rfl, fun j hj => ?_⟩
      by_cases hji : j = i
      · subst hji
        have : ¬ 0 < D j := fun h0 => c ⟨h0, rfl⟩
        omega
      · exact h2 j (by omega)
theorem cirAt_zero {D : Nat → Nat} {i : Nat} (h : ∀ j, j < i → D j = 0) : cirAt D i none = none := by
  induction i with
  | zero => rfl
  | succ i ih =>
    unfold cirAt
    rw [if_neg (by have := h i (by omega); omega)]
    exact ih (fun j hj => h j (by omega))
theorem acyc_dN {n : Int} {l : List IE} (hg : graphOk n l = true) : acyc l ↔ ∀ j, j < n.toNat → dN l j j = 0 := by
  constructor
  · intro h j hj
    rcases dN_is l j j with ⟨h0, _⟩ | ⟨h0, hw, _⟩
    · exact h0
    · exact absurd hw (h j _ h0)
  · rintro h c m hm hw
    have hc : c < n.toNat := by
      obtain ⟨p, hp, hw⟩ := hw
      match p, hp, hw with
      | [], hp, _ => simp at hp; omega
      | v :: q, _, hw => have := edge_within hg hw.1; omega
    rcases dN_is l c c with ⟨_, h1⟩ | ⟨h0, _, _⟩
    · exact h1 m hm hw
    · have := h c hc; omega
theorem cwalk_pre (l : List IE) (N q m : Nat) (o : List Int) : ∃ t, cwalk l N q m o = o ++ t := by
  induction m generalizing o with
  | zero => exact ⟨[], by simp [cwalk]⟩
  | succ m ih =>
    unfold cwalk
    split
    · rename_i v _
      obtain ⟨t, ht⟩ := ih (o ++ [(v : Int)])
      exact ⟨(v : Int) :: t, by rw [ht]; simp⟩
    · exact ih o
theorem circle_nil {n : Int} {l : List IE} (hg : graphOk n l = true) : circleP n l = [] ↔ acyc l := by
  rw [acyc_dN hg]
  unfold circleP circP
  rw [if_pos hg]
  constructor
  · intro h
    cases hc : cirAt (fun j => dN l j j) n.toNat none with
    | none => exact (cirAt_none hc).2
    | some q =>
      rw [hc] at h
      obtain ⟨t, ht⟩ := cwalk_pre l n.toNat q (dN l q q - 1) [(q : Int)]
      simp only [ht] at h
      simp at h
  · intro h
    rw [cirAt_zero (D := fun j => dN l j j) h]

-- chunk count: how many orders go on from a beginning, and the one with a number
def cnt (N : Nat) (l : List IE) : Nat → List Int → Nat
  | 0, _ => 1
  | m + 1, o => ((List.range N).map fun x : Nat => if freeB l o (x : Int) then cnt N l m (o ++ [(x : Int)]) else 0).sum
def cntTerm (N : Nat) (l : List IE) (m : Nat) (o : List Int) (x : Nat) : Nat := if freeB l o (x : Int) then cnt N l m (o ++ [(x : Int)]) else 0
def cntFrom (N : Nat) (l : List IE) (m : Nat) (o : List Int) (i : Nat) : Nat := (((List.range N).drop i).map (cntTerm N l m o)).sum
theorem cnt_succ (N : Nat) (l : List IE) (m : Nat) (o : List Int) : cnt N l (m + 1) o = cntFrom N l m o 0 := rfl
theorem cntFrom_end (N : Nat) (l : List IE) (m : Nat) (o : List Int) : cntFrom N l m o N = 0 := by
  unfold cntFrom
  rw [List.drop_of_length_le (by simp)]
  rfl
theorem cntFrom_step {N : Nat} (l : List IE) (m : Nat) (o : List Int) {i : Nat} (h : i < N) : cntFrom N l m o i = cntTerm N l m o i + cntFrom N l m o (i + 1) := by
  unfold cntFrom
  rw [List.drop_eq_getElem_cons (by simpa using h), List.getElem_range, List.map_cons, List.sum_cons]
theorem sum_le {xs : List Nat} {b : Nat} (h : ∀ x ∈ xs, x ≤ b) : xs.sum ≤ xs.length * b := by
  induction xs with
  | nil => simp
  | cons a xs ih =>
    have h1 := h a (by simp)
    have h2 := ih (fun x hx => h x (by simp [hx]))
    rw [List.sum_cons, List.length_cons, Nat.add_mul, Nat.one_mul]
    omega
theorem cnt_le (N : Nat) (l : List IE) (m : Nat) (o : List Int) : cnt N l m o ≤ N ^ m := by
  induction m generalizing o with
  | zero => simp [cnt]
  | succ m ih =>
    unfold cnt
    refine Nat.le_trans (sum_le (b := N ^ m) fun x hx => ?_) (by simp [Nat.pow_succ, Nat.mul_comm])
    obtain ⟨y, _, rfl⟩ := List.mem_map.1 hx
    split
    · exact ih _
    · exact Nat.zero_le _
theorem cnt_small {N : Nat} (hN : N ≤ 8) (l : List IE) {m : Nat} (hm : m ≤ 8) (o : List Int) : cnt N l m o ≤ 16777216 := by
  refine Nat.le_trans (cnt_le N l m o) ?_
  refine Nat.le_trans (Nat.pow_le_pow_left hN m) ?_
  exact Nat.le_trans (Nat.pow_le_pow_right (by omega) hm) (by decide)
theorem cntTerm_small {N : Nat} (hN : N ≤ 8) (l : List IE) {m : Nat} (hm : m ≤ 8) (o : List Int) (x : Nat) : cntTerm N l m o x ≤ 16777216 := by
  unfold cntTerm
  split
  · exact cnt_small hN l hm _
  · omega
theorem cntFrom_small {N : Nat} (hN : N ≤ 8) (l : List IE) {m : Nat} (hm : m ≤ 8) (o : List Int) (i : Nat) : cntFrom N l m o i ≤ 134217728 := by
  unfold cntFrom
  refine Nat.le_trans (sum_le (b := 16777216) fun x hx => ?_) ?_
  · obtain ⟨y, _, rfl⟩ := List.mem_map.1 hx
    exact cntTerm_small hN l hm o y
  · simp
    omega
theorem impl_linears_ev {N : Nat} (hN : N ≤ 8) (l : List IE) (hl : l.length ≤ 200) : ∀ (m : Nat) (o : List Int), o.length + m = N → Ev (fun k => impl_linears.f k (N : Int) l o) (cnt N l m o : Int) := by
  intro m
  induction m with
  | zero =>
    intro o ho
    refine Ev.succ (fun k => ?_)
    simp only [impl_linears.f]
    rw [if_pos (by omega)]
    rfl
  | succ m ih =>
    intro o ho
    refine Ev.step (f := fun k => impl_linears.l0 k (N : Int) l o 0 (N : Int) 0) (fun k => ?_) ?_
    · simp only [impl_linears.f]
      rw [if_neg (by omega)]
    · have key : ∀ (d i s : Nat), i + d = N → s + cntFrom N l m o i ≤ 134217728 → Ev (fun k => impl_linears.l0 k (N : Int) l o (s : Int) (N : Int) (i : Int)) ((s + cntFrom N l m o i : Nat) : Int) := by
        intro d
        induction d with
        | zero =>
          intro i s hi hs
          obtain rfl : i = N := by omega
          rw [cntFrom_end]
          refine Ev.succ (fun k => ?_)
          simp only [impl_linears.l0]
          rw [if_neg (by omega)]
          rfl
        | succ d ihd =>
          intro i s hi hs
          rw [cntFrom_step l m o (by omega)] at hs ⊢
          have hr := ihd (i + 1) (s + cntTerm N l m o i) (by omega) (by omega)
          rw [show s + (cntTerm N l m o i + cntFrom N l m o (i + 1)) = s + cntTerm N l m o i + cntFrom N l m o (i + 1) by omega]
          refine Ev.step (f := fun k => (impl_free.f k l o (i : Int)).bind fun t => if t = true then ((impl_copyInts.f o).bind fun t1 => if t1.length < 17592186044416 then ((impl_linears.f k (N : Int) l (t1 ++ [(i : Int)])).bind fun t2 => impl_linears.l0 k (N : Int) l o (wrap64 ((s : Int) + t2)) (N : Int) ((i + 1 : Nat) : Int)) else none) else impl_linears.l0 k (N : Int) l o (s : Int) (N : Int) ((i + 1 : Nat) : Int)) (fun k => ?_) ?_
          · simp only [impl_linears.l0]
            rw [if_pos (by omega), w64_succ (n := N) (by omega) (by omega)]
          · refine Ev.bind (impl_free_ev (i : Int) (by omega) (by omega)) ?_
            cases hf : freeB l o (i : Int) with
            | false =>
              have e : cntTerm N l m o i = 0 := by simp [cntTerm, hf]
              rw [e] at hr ⊢
              exact Ev.congr (fun k => if_neg (by simp)) hr
            | true =>
              have e : cntTerm N l m o i = cnt N l m (o ++ [(i : Int)]) := by simp [cntTerm, hf]
              have hb := cntTerm_small hN l (m := m) (by omega) o i
              rw [e] at hr hs hb ⊢
              refine Ev.congr (fun k => if_pos rfl) ?_
              unfold impl_copyInts.f
              rw [if_pos (by omega)]
              simp only [Option.bind_some]
              refine Ev.congr (fun k => if_pos (by omega)) ?_
              refine Ev.bind (ih (o ++ [(i : Int)]) (by simp; omega)) ?_
              rw [w64 (by omega) (by omega), ← Int.natCast_add]
              exact hr
      have h := key N 0 0 (by omega) (by have := cntFrom_small hN l (m := m) (by omega) o 0; omega)
      rw [Nat.zero_add] at h
      exact h
theorem flags_unset {N : Nat} {o : List Int} {x : Nat} (h : (x : Int) ∉ o) : (flags N (o ++ [(x : Int)])).set x false = flags N o := by
  apply List.ext_getElem
  · simp [flags]
  · intro j h1 h2
    simp [flags, List.getElem_set] at h1 h2 ⊢
    by_cases e : x = j
    · subst e; simp [h]
    · have : (j : Int) ≠ (x : Int) := by omega
      simp [e, this]
theorem l14Count_ev {N : Nat} (hN : N ≤ 8) (l : List IE) (hl : l.length ≤ 200) (he : ∀ e ∈ l, 0 ≤ e.f0 ∧ e.f0 < (N : Int)) : ∀ (m : Nat) (o : List Int), o.length + m = N →
    Ev (fun k => spec_l14Count.f k (N : Int) l (flags N o) (m : Int)) ((cnt N l m o : Int), flags N o) := by
  intro m
  induction m with
  | zero =>
    intro o ho
    refine Ev.succ (fun k => ?_)
    simp only [spec_l14Count.f]
    rw [if_pos (by omega)]
    rfl
  | succ m ih =>
    intro o ho
    refine Ev.step (f := fun k => spec_l14Count.l0 k (N : Int) l (flags N o) ((m + 1 : Nat) : Int) 0 0) (fun k => ?_) ?_
    · simp only [spec_l14Count.f]
      rw [if_neg (by omega)]
    · have key : ∀ (d i s : Nat), i + d = N → s + cntFrom N l m o i ≤ 134217728 → Ev (fun k => spec_l14Count.l0 k (N : Int) l (flags N o) ((m + 1 : Nat) : Int) (s : Int) (i : Int)) (((s + cntFrom N l m o i : Nat) : Int), flags N o) := by
        intro d
        induction d with
        | zero =>
          intro i s hi hs
          obtain rfl : i = N := by omega
          rw [cntFrom_end]
          refine Ev.succ (fun k => ?_)
          simp only [spec_l14Count.l0]
          rw [if_neg (by omega)]
          rfl
        | succ d ihd =>
          intro i s hi hs
          rw [cntFrom_step l m o (by omega)] at hs ⊢
          have hr := ihd (i + 1) (s + cntTerm N l m o i) (by omega) (by omega)
          rw [show s + (cntTerm N l m o i + cntFrom N l m o (i + 1)) = s + cntTerm N l m o i + cntFrom N l m o (i + 1) by omega]
          refine Ev.step (f := fun k => (spec_l14Ready.f k l (flags N o) (i : Int)).bind fun t => if t = true then (if 0 ≤ (i : Int) then (if (i : Int) < ((flags N o).length : Int) then ((spec_l14Count.f k (N : Int) l ((flags N o).set (i : Int).toNat true) (wrap64 (((m + 1 : Nat) : Int) - 1))).bind fun t2 => spec_l14Count.l0 k (N : Int) l (t2.2.set (i : Int).toNat false) ((m + 1 : Nat) : Int) (wrap64 ((s : Int) + t2.1)) ((i + 1 : Nat) : Int)) else none) else none) else spec_l14Count.l0 k (N : Int) l (flags N o) ((m + 1 : Nat) : Int) (s : Int) ((i + 1 : Nat) : Int)) (fun k => ?_) ?_
          · simp only [spec_l14Count.l0]
            rw [if_pos (by omega), w64_succ (n := N) (by omega) (by omega)]
          · refine Ev.bind (l14Ready_ev (by omega) (by omega) (by omega) he) ?_
            cases hf : freeB l o (i : Int) with
            | false =>
              have e : cntTerm N l m o i = 0 := by simp [cntTerm, hf]
              rw [e] at hr ⊢
              exact Ev.congr (fun k => if_neg (by simp)) hr
            | true =>
              have e : cntTerm N l m o i = cnt N l m (o ++ [(i : Int)]) := by simp [cntTerm, hf]
              have hb := cntTerm_small hN l (m := m) (by omega) o i
              have hni := ((freeB_iff _ _ _).1 hf).1
              rw [e] at hr hs hb ⊢
              refine Ev.congr (fun k => if_pos rfl) (Ev.congr (fun k => if_pos (by omega)) (Ev.congr (fun k => if_pos (by rw [flags_len]; omega)) ?_))
              rw [Int.toNat_natCast, flags_set (by omega), w64 (x := ((m + 1 : Nat) : Int) - 1) (by omega) (by omega), show (((m + 1 : Nat) : Int) - 1) = (m : Int) by omega]
              refine Ev.bind (ih (o ++ [(i : Int)]) (by simp; omega)) ?_
              simp only [flags_unset hni]
              rw [w64 (by omega) (by omega), ← Int.natCast_add]
              exact hr
      have h := key N 0 0 (by omega) (by have := cntFrom_small hN l (m := m) (by omega) o 0; omega)
      rw [Nat.zero_add] at h
      exact h
def linearsP (n : Int) (l : List IE) : Int := if graphOk n l = true ∧ n ≤ 8 then (cnt n.toNat l n.toNat [] : Int) else -1
theorem impl_Linears_ev (n : Int) (l : List IE) : Ev (fun k => impl_Linears.f k n l) (linearsP n l) := by
  unfold impl_Linears.f linearsP
  refine Ev.bind (impl_GraphOk_ev n l) ?_
  cases hg : graphOk n l with
  | false => exact Ev.of_eq fun k => by simp
  | true =>
    obtain ⟨hn, hl, he⟩ := (graphOk_iff n l).1 hg
    refine Ev.congr (fun k => if_pos rfl) ?_
    by_cases h8 : n ≤ 8
    · refine Ev.congr (fun k => if_neg (by omega)) ?_
      rw [if_pos ⟨rfl, h8⟩]
      have h := impl_linears_ev (N := n.toNat) (by omega) l hl n.toNat [] (by simp)
      rw [Int.toNat_of_nonneg hn.1] at h
      exact Ev.bind h (Ev.of_eq fun k => rfl)
    · rw [if_neg (by simp [h8])]
      exact Ev.of_eq fun k => if_pos (by omega)
theorem flags_nil (N : Nat) : List.replicate N false = flags N [] := by
  apply List.ext_getElem
  · simp [flags]
  · intro j h1 h2; simp [flags]
theorem spec_Linears_ev (n : Int) (l : List IE) : Ev (fun k => spec_Linears.f k n l) (linearsP n l) := by
  unfold spec_Linears.f linearsP
  refine Ev.bind (spec_GraphOk_ev n l) ?_
  cases hg : graphOk n l with
  | false => exact Ev.of_eq fun k => by simp
  | true =>
    obtain ⟨hn, hl, he⟩ := (graphOk_iff n l).1 hg
    refine Ev.congr (fun k => if_pos rfl) ?_
    by_cases h8 : n ≤ 8
    · have hn0 := hn.1
      refine Ev.congr (fun k => if_neg (by omega)) (Ev.congr (fun k => if_pos hn0) (Ev.congr (fun k => if_pos (by omega)) ?_))
      rw [if_pos ⟨rfl, h8⟩]
      have h := l14Count_ev (N := n.toNat) (by omega) l hl (fun e hel => ⟨(he e hel).1.1, by have := (he e hel).1.2; omega⟩) n.toNat [] (by simp)
      rw [Int.toNat_of_nonneg hn0] at h
      rw [flags_nil]
      exact Ev.bind h (Ev.of_eq fun k => rfl)
    · rw [if_neg (by simp [h8])]
      exact Ev.of_eq fun k => if_pos (by omega)

-- chunk linear: the order with a number
def pickL (N : Nat) (l : List IE) (m : Nat) (o : List Int) : List Nat → Nat → Option (Nat × Nat)
  | [], _ => none
  | x :: xs, k => if k < cntTerm N l m o x then some (x, k) else pickL N l m o xs (k - cntTerm N l m o x)
theorem pickL_some {N : Nat} {l : List IE} {m : Nat} {o : List Int} {xs : List Nat} {k : Nat} (h : k < (xs.map (cntTerm N l m o)).sum) :
    ∃ x k', pickL N l m o xs k = some (x, k') ∧ x ∈ xs ∧ k' < cntTerm N l m o x := by
  induction xs generalizing k with
  | nil => simp at h
  | cons a xs ih =>
    unfold pickL
    by_cases hk : k < cntTerm N l m o a
    · exact ⟨a, k, by rw [if_pos hk], by simp, hk⟩
    · rw [List.map_cons, List.sum_cons] at h
      obtain ⟨x, k', h1, h2, h3⟩ := ih (k := k - cntTerm N l m o a) (by omega)
      exact ⟨x, k', by rw [if_neg hk]; exact h1, by simp [h2], h3⟩
theorem term_free {N : Nat} {l : List IE} {m : Nat} {o : List Int} {x k : Nat} (h : k < cntTerm N l m o x) : freeB l o (x : Int) = true ∧ cntTerm N l m o x = cnt N l m (o ++ [(x : Int)]) := by
  unfold cntTerm at h ⊢
  split at h
  · rename_i hf; exact ⟨hf, by rw [if_pos hf]⟩
  · omega
def linG (N : Nat) (l : List IE) : Nat → List Int → Nat → List Int
  | 0, o, _ => o
  | m + 1, o, k => match pickL N l m o (List.range N) k with
    | some (x, k') => linG N l m (o ++ [(x : Int)]) k'
    | none => o
def linP (n : Int) (l : List IE) (k : Int) : List Int × Bool := if 0 ≤ k ∧ k ≤ linearsP n l - 1 then (linG n.toNat l n.toNat [] k.toNat, true) else ([], false)
theorem linearsP_le (n : Int) (l : List IE) : linearsP n l ≤ 16777216 ∧ -1 ≤ linearsP n l := by
  unfold linearsP
  split
  · rename_i h
    have := cnt_small (N := n.toNat) (by omega) l (m := n.toNat) (by omega) []
    omega
  · omega
theorem linearsP_pos {n : Int} {l : List IE} (h : 0 ≤ linearsP n l) : graphOk n l = true ∧ n ≤ 8 ∧ linearsP n l = (cnt n.toNat l n.toNat [] : Int) := by
  unfold linearsP at h ⊢
  split at h
  · rename_i hg; exact ⟨hg.1, hg.2, by rw [if_pos hg]⟩
  · omega
theorem linG_len {N : Nat} {l : List IE} {m : Nat} {o : List Int} {k : Nat} (hk : k < cnt N l m o) : (linG N l m o k).length = o.length + m := by
  induction m generalizing o k with
  | zero => rfl
  | succ m ih =>
    unfold linG
    obtain ⟨x, k', h1, _, h3⟩ := pickL_some (N := N) (l := l) (m := m) (o := o) (xs := List.range N) (k := k) hk
    rw [h1]
    have h4 := term_free h3
    rw [h4.2] at h3
    have := ih h3
    simp at this ⊢
    omega

-- chunk draw: what the draws may tell
theorem and255 (v : Int) : 0 ≤ Go.bits .and .i64 v 255 ∧ Go.bits .and .i64 v 255 ≤ 255 := by
  have h : Go.bits .and .i64 v 255 = IntKind.i64.wrap (((BitVec.ofInt 64 v &&& BitVec.ofInt 64 255).toNat : Nat) : Int) := rfl
  have h2 : (BitVec.ofInt 64 v &&& BitVec.ofInt 64 255).toNat ≤ 255 := by
    rw [BitVec.toNat_and]
    exact Nat.le_trans Nat.and_le_right (by decide)
  rw [h, IntKind.wrap_i64]
  omega
theorem l1Byte_ex (b : List Int) (i h : Int) (hb : b.length ≤ 140737488351232) (hi : 0 ≤ i) : ∃ x i' h', spec_l1Byte.f b i h = some (x, i', h') ∧ 0 ≤ x ∧ x ≤ 255 ∧ 0 ≤ i' := by
  unfold spec_l1Byte.f
  by_cases hl : i < (b.length : Int)
  · rw [if_pos hl, if_pos hi]
    refine ⟨_, _, _, rfl, (and255 _).1, (and255 _).2, ?_⟩
    rw [w64 (by omega) (by omega)]
    omega
  · rw [if_neg hl]
    exact ⟨_, _, _, rfl, (and255 _).1, (and255 _).2, hi⟩
theorem l1Below_ex (b : List Int) (i h n : Int) (hb : b.length ≤ 140737488351232) (hi : 0 ≤ i) : ∃ x i' h', spec_l1Below.f b i h n = some (x, i', h') ∧ 0 ≤ x ∧ (0 < n → x < n) ∧ (n ≤ 0 → x = 0) ∧ 0 ≤ i' := by
  unfold spec_l1Below.f
  by_cases h0 : n ≤ 0
  · rw [if_pos h0]
    exact ⟨0, i, h, rfl, by omega, by omega, fun _ => rfl, hi⟩
  · rw [if_neg h0]
    by_cases h1 : n ≤ 256
    · rw [if_pos h1]
      obtain ⟨x, i1, h1, e1, p1, q1, r1⟩ := l1Byte_ex b i h hb hi
      rw [e1]
      simp only [Option.bind_some]
      rw [if_neg (by omega)]
      exact ⟨_, _, _, rfl, Int.tmod_nonneg _ p1, fun _ => Int.tmod_lt_of_pos _ (by omega), fun h => absurd h h0, r1⟩
    · rw [if_neg h1]
      obtain ⟨x, i1, h1, e1, p1, q1, r1⟩ := l1Byte_ex b i h hb hi
      obtain ⟨y, i2, h2, e2, p2, q2, r2⟩ := l1Byte_ex b i1 h1 hb r1
      obtain ⟨z, i3, h3, e3, p3, q3, r3⟩ := l1Byte_ex b i2 h2 hb r2
      obtain ⟨w, i4, h4, e4, p4, q4, r4⟩ := l1Byte_ex b i3 h3 hb r3
      rw [e1]; simp only [Option.bind_some]; rw [e2]; simp only [Option.bind_some]; rw [e3]; simp only [Option.bind_some]; rw [e4]; simp only [Option.bind_some]
      rw [if_neg (by omega)]
      refine ⟨_, _, _, rfl, Int.tmod_nonneg _ ?_, fun _ => Int.tmod_lt_of_pos _ (by omega), fun h => absurd h h0, r4⟩
      rw [w64 (x := x * 16777216) (by omega) (by omega), w64 (x := y * 65536) (by omega) (by omega), w64 (x := z * 256) (by omega) (by omega), w64 (x := x * 16777216 + y * 65536) (by omega) (by omega), w64 (x := x * 16777216 + y * 65536 + z * 256) (by omega) (by omega), w64 (by omega) (by omega)]
      omega
theorem l1Once_ex (b : List Int) (i h n : Int) (hb : b.length ≤ 140737488351232) (hi : 0 ≤ i) : ∃ x i' h', spec_l1Once.f b i h n = some (x, i', h') ∧ 0 ≤ i' := by
  obtain ⟨x, i', h', e, _, _, _, hi'⟩ := l1Below_ex b i h n hb hi
  unfold spec_l1Once.f
  rw [e]
  exact ⟨_, _, _, rfl, hi'⟩
theorem l1PickInt_ex (b : List Int) (i h : Int) (l : List Int) (hb : b.length ≤ 140737488351232) (hi : 0 ≤ i) (hl : l ≠ []) (hm : l.length ≤ 1000) : ∃ x i' h', spec_l1PickInt.f b i h l = some (x, i', h') ∧ x ∈ l ∧ 0 ≤ i' := by
  obtain ⟨x, i', h', e, h0, h1, _, hi'⟩ := l1Below_ex b i h (l.length : Int) hb hi
  have hp : 0 < l.length := List.length_pos_iff.2 hl
  have h2 := h1 (by omega)
  unfold spec_l1PickInt.f
  rw [e]
  simp only [Option.bind_some]
  rw [if_pos h0, if_pos h2]
  refine ⟨_, _, _, rfl, ?_, hi'⟩
  obtain ⟨y, rfl⟩ : ∃ y : Nat, x = (y : Int) := ⟨x.toNat, by omega⟩
  rw [rd_lt _ (by omega)]
  exact List.getElem_mem _
theorem l1New_ev (b : List Int) (hb : b.length ≤ 140737488351232) : ∃ h, Ev (fun k => spec_l1New.f k b) (b, 0, h) := by
  unfold spec_l1New.f
  have key : ∀ (d i : Nat) (h : Int), i + d = b.length → ∃ h', Ev (fun k => spec_l1New.l0 k b h (i : Int)) (b, 0, h') := by
    intro d
    induction d with
    | zero =>
      intro i h hi
      refine ⟨h, Ev.succ (fun k => ?_)⟩
      simp only [spec_l1New.l0]
      rw [if_neg (by omega)]
    | succ d ih =>
      intro i h hi
      by_cases h4 : i < 4000
      · obtain ⟨h', hr⟩ := ih (i + 1) (Go.bits .and .i64 (wrap64 ((wrap64 ((wrap64 (h * 131)) + (wrap64 (rd b i)))) + 7)) 1073741823) (by omega)
        refine ⟨h', Ev.step (fun k => ?_) hr⟩
        simp only [spec_l1New.l0]
        rw [if_pos (by omega), if_pos (by omega), if_pos (by omega), w64_succ (n := b.length) (by omega) (by omega)]
      · refine ⟨h, Ev.succ (fun k => ?_)⟩
        simp only [spec_l1New.l0]
        rw [if_pos (by omega), if_neg (by omega)]
  exact key b.length 0 _ (by omega)

-- chunk drawgraph: drawn graphs
def inGraph (n : Int) (es : List IE) : Prop := ∀ e ∈ es, (0 ≤ e.f0 ∧ e.f0 < n) ∧ (0 ≤ e.f1 ∧ e.f1 < n)
theorem inGraph_snoc {n : Int} {es : List IE} {e : IE} (h : inGraph n es) (he : (0 ≤ e.f0 ∧ e.f0 < n) ∧ (0 ≤ e.f1 ∧ e.f1 < n)) : inGraph n (es ++ [e]) := by
  intro x hx
  rcases List.mem_append.1 hx with hx | hx
  · exact h x hx
  · rw [List.mem_singleton.1 hx]; exact he
theorem l14Graph_ev (b : List Int) (i h most : Int) (hb : b.length ≤ 140737488351232) (hi : 0 ≤ i) (hm0 : 0 ≤ most) (hm : most ≤ 16) :
    ∃ n es i' h', Ev (fun k => spec_l14Graph.f k b i h most) (n, es, i', h') ∧ 0 ≤ n ∧ n ≤ most ∧ (es.length : Int) ≤ 2 * n + 2 ∧ inGraph n es ∧ 0 ≤ i' := by
  unfold spec_l14Graph.f
  rw [w64 (x := most + 1) (by omega) (by omega)]
  obtain ⟨n, i1, h1, e1, n0, n1, _, hi1⟩ := l1Below_ex b i h (most + 1) hb hi
  have n2 := n1 (by omega)
  rw [e1]
  simp only [Option.bind_some]
  rw [w64 (x := 2 * n) (by omega) (by omega), w64 (x := 2 * n + 2) (by omega) (by omega)]
  obtain ⟨m, i2, h2, e2, m0, m1, _, hi2⟩ := l1Below_ex b i1 h1 (2 * n + 2) hb hi1
  have m2 := m1 (by omega)
  rw [e2]
  simp only [Option.bind_some]
  have key : ∀ (d : Nat) (j : Nat) (es : List IE) (i h : Int), (j : Int) + d = m → es.length ≤ j → inGraph n es → 0 ≤ i →
      ∃ es' i' h', Ev (fun k => spec_l14Graph.l0 k n es m (j : Int) b i h) (n, es', i', h') ∧ (es'.length : Int) ≤ 2 * n + 2 ∧ inGraph n es' ∧ 0 ≤ i' := by
    intro d
    induction d with
    | zero =>
      intro j es i h hj hes hin hi
      refine ⟨es, i, h, Ev.step (f := fun k => spec_l14Graph.j1 k n es m (j : Int) false b i h) (fun k => ?_) (Ev.succ fun k => ?_), by omega, hin, hi⟩
      · simp only [spec_l14Graph.l0]
        rw [if_neg (by omega)]
      · simp [spec_l14Graph.j1]
    | succ d ih =>
      intro j es i h hj hes hin hi
      have hj2 : j ≤ 9223372036854775806 := by omega
      by_cases hn : 0 < n
      · obtain ⟨a, i3, h3, e3, a0, a1, _, hi3⟩ := l1Below_ex b i h n hb hi
        obtain ⟨c, i4, h4, e4, c0, c1, _, hi4⟩ := l1Below_ex b i3 h3 n hb hi3
        have a2 := a1 hn
        have c2 := c1 hn
        -- from j2 on
        have two : ∀ (t : Bool) (i h : Int), 0 ≤ i → ∃ es' i' h', Ev (fun k => spec_l14Graph.j2 k n es m (j : Int) a c t b i h) (n, es', i', h') ∧ (es'.length : Int) ≤ 2 * n + 2 ∧ inGraph n es' ∧ 0 ≤ i' := by
          intro t i h hi
          cases t with
          | true =>
            by_cases hac : c = a
            · obtain ⟨o, i5, h5, e5, hi5⟩ := l1Once_ex b i h 12 hb hi
              cases o with
              | true =>
                obtain ⟨es', i', h', hr, r1, r2, r3⟩ := ih (j + 1) (es ++ [⟨c, a⟩]) i5 h5 (by omega) (by simp; omega) (inGraph_snoc hin ⟨⟨c0, c2⟩, a0, a2⟩) hi5
                refine ⟨es', i', h', Ev.step (fun k => ?_) hr, r1, r2, r3⟩
                simp only [spec_l14Graph.j2, if_true]
                rw [if_pos hac, e5]
                simp only [Option.bind_some, if_true]
                rw [if_pos (by omega), w64_nat j hj2]
              | false =>
                obtain ⟨es', i', h', hr, r1, r2, r3⟩ := ih (j + 1) es i5 h5 (by omega) (by omega) hin hi5
                refine ⟨es', i', h', Ev.step (fun k => ?_) hr, r1, r2, r3⟩
                simp only [spec_l14Graph.j2, if_true]
                rw [if_pos hac, e5]
                simp only [Option.bind_some]
                rw [if_neg (by simp), w64_nat j hj2]
            · obtain ⟨es', i', h', hr, r1, r2, r3⟩ := ih (j + 1) (es ++ [⟨c, a⟩]) i h (by omega) (by simp; omega) (inGraph_snoc hin ⟨⟨c0, c2⟩, a0, a2⟩) hi
              refine ⟨es', i', h', Ev.step (fun k => ?_) hr, r1, r2, r3⟩
              simp only [spec_l14Graph.j2, if_true]
              rw [if_neg hac, if_pos (by omega), w64_nat j hj2]
          | false =>
            by_cases hac : a = c
            · obtain ⟨o, i5, h5, e5, hi5⟩ := l1Once_ex b i h 12 hb hi
              cases o with
              | true =>
                obtain ⟨es', i', h', hr, r1, r2, r3⟩ := ih (j + 1) (es ++ [⟨a, c⟩]) i5 h5 (by omega) (by simp; omega) (inGraph_snoc hin ⟨⟨a0, a2⟩, c0, c2⟩) hi5
                refine ⟨es', i', h', Ev.step (fun k => ?_) hr, r1, r2, r3⟩
                simp only [spec_l14Graph.j2]
                rw [if_neg (by simp), if_pos hac, e5]
                simp only [Option.bind_some, if_true]
                rw [if_pos (by omega), w64_nat j hj2]
              | false =>
                obtain ⟨es', i', h', hr, r1, r2, r3⟩ := ih (j + 1) es i5 h5 (by omega) (by omega) hin hi5
                refine ⟨es', i', h', Ev.step (fun k => ?_) hr, r1, r2, r3⟩
                simp only [spec_l14Graph.j2]
                rw [if_neg (by simp), if_pos hac, e5]
                simp only [Option.bind_some]
                rw [if_neg (by simp), w64_nat j hj2]
            · obtain ⟨es', i', h', hr, r1, r2, r3⟩ := ih (j + 1) (es ++ [⟨a, c⟩]) i h (by omega) (by simp; omega) (inGraph_snoc hin ⟨⟨a0, a2⟩, c0, c2⟩) hi
              refine ⟨es', i', h', Ev.step (fun k => ?_) hr, r1, r2, r3⟩
              simp only [spec_l14Graph.j2]
              rw [if_neg (by simp), if_neg hac, if_pos (by omega), w64_nat j hj2]
        by_cases hgt : a > c
        · obtain ⟨o, i5, h5, e5, hi5⟩ := l1Once_ex b i4 h4 7 hb hi4
          obtain ⟨es', i', h', hr, r1, r2, r3⟩ := two (!o) i5 h5 hi5
          refine ⟨es', i', h', Ev.step (f := fun k => spec_l14Graph.j1 k n es m (j : Int) true b i h) (fun k => ?_) (Ev.step (fun k => ?_) hr), r1, r2, r3⟩
          · simp only [spec_l14Graph.l0]
            rw [if_pos (by omega), decide_eq_true (by omega : n > 0)]
          · simp only [spec_l14Graph.j1, if_true]
            rw [e3]; simp only [Option.bind_some]; rw [e4]; simp only [Option.bind_some]
            rw [if_pos hgt, e5]; rfl
        · obtain ⟨es', i', h', hr, r1, r2, r3⟩ := two false i4 h4 hi4
          refine ⟨es', i', h', Ev.step (f := fun k => spec_l14Graph.j1 k n es m (j : Int) true b i h) (fun k => ?_) (Ev.step (fun k => ?_) hr), r1, r2, r3⟩
          · simp only [spec_l14Graph.l0]
            rw [if_pos (by omega), decide_eq_true (by omega : n > 0)]
          · simp only [spec_l14Graph.j1, if_true]
            rw [e3]; simp only [Option.bind_some]; rw [e4]; simp only [Option.bind_some]
            rw [if_neg hgt]
      · refine ⟨es, i, h, Ev.step (f := fun k => spec_l14Graph.j1 k n es m (j : Int) false b i h) (fun k => ?_) (Ev.succ fun k => ?_), by omega, hin, hi⟩
        · simp only [spec_l14Graph.l0]
          rw [if_pos (by omega), decide_eq_false (by omega : ¬ n > 0)]
        · simp [spec_l14Graph.j1]
  obtain ⟨es', i', h', hr, r1, r2, r3⟩ := key m.toNat 0 [] i2 h2 (by omega) (by simp) (fun e he => by simp at he) hi2
  exact ⟨n, es', i', h', hr, n0, by omega, r1, r2, r3⟩
theorem l14Some_ev (b : List Int) (i h most : Int) (hb : b.length ≤ 140737488351232) (hi : 0 ≤ i) (hm0 : 0 ≤ most) (hm : most ≤ 16) :
    ∃ n es i' h', Ev (fun k => spec_l14Some.f k b i h most) (n, es, i', h') ∧ -1 ≤ n ∧ n ≤ 17 ∧ es.length ≤ 300 ∧ 0 ≤ i' := by
  unfold spec_l14Some.f
  obtain ⟨n, es, i1, h1, hg, n0, n1, hl, hin, hi1⟩ := l14Graph_ev b i h most hb hi hm0 hm
  obtain ⟨o, i2, h2, e2, hi2⟩ := l1Once_ex b i1 h1 12 hb hi1
  cases o with
  | false => exact ⟨n, es, i2, h2, Ev.bind hg (Ev.of_eq fun k => by simp only [e2, Option.bind_some]; rfl), by omega, by omega, by omega, hi2⟩
  | true =>
    obtain ⟨q, i3, h3, e3, q0, _, _, hi3⟩ := l1Below_ex b i2 h2 4 hb hi2
    by_cases q1 : q = 0
    · obtain ⟨x, i4, h4, e4, hx, hi4⟩ := l1PickInt_ex b i3 h3 [(-1), 16, 17] hb hi3 (by simp) (by simp)
      refine ⟨x, es, i4, h4, Ev.bind hg (Ev.of_eq fun k => by simp only [e2, Option.bind_some, if_true, e3, q1, e4]), ?_, ?_, by omega, hi4⟩ <;> (simp at hx; omega)
    · by_cases q2 : q = 1
      · exact ⟨n, es ++ [⟨0, n⟩], i3, h3, Ev.bind hg (Ev.of_eq fun k => by simp only [e2, Option.bind_some, if_true, e3, q2]; rw [if_neg (by omega), if_pos (by omega)]), by omega, by omega, by simp; omega, hi3⟩
      · by_cases q3 : q = 2
        · exact ⟨n, es ++ [⟨-1, 0⟩], i3, h3, Ev.bind hg (Ev.of_eq fun k => by simp only [e2, Option.bind_some, if_true, e3, q3]; rw [if_neg (by omega), if_neg (by omega), if_pos (by omega)]), by omega, by omega, by simp; omega, hi3⟩
        · have key : ∀ (d : Nat) (es : List IE) (i h : Int), 250 ≤ es.length + d → es.length ≤ 201 → 0 ≤ i →
              ∃ es' i' h', Ev (fun k => spec_l14Some.l0 k n es b i h) (n, es', i', h') ∧ es'.length ≤ 300 ∧ 0 ≤ i' := by
            intro d
            induction d with
            | zero => intro es i h hd hes hi; omega
            | succ d ih =>
              intro es i h hd hes hi
              obtain ⟨x, i5, h5, e5, x0, x1, _, hi5⟩ := l1Below_ex b i h 2 hb hi
              have x2 := x1 (by omega)
              by_cases hlt : (es.length : Int) < 200 + x
              · by_cases hn1 : n > 1
                · obtain ⟨es', i', h', hr, r1, r2⟩ := ih (es ++ [⟨0, 1⟩]) i5 h5 (by simp; omega) (by simp; omega) hi5
                  refine ⟨es', i', h', Ev.step (fun k => ?_) hr, r1, r2⟩
                  simp only [spec_l14Some.l0, e5, Option.bind_some]
                  rw [w64 (by omega) (by omega), if_pos hlt, if_pos hn1, if_pos (by omega)]
                · refine ⟨es, i5, h5, Ev.succ (fun k => ?_), by omega, hi5⟩
                  simp only [spec_l14Some.l0, e5, Option.bind_some]
                  rw [w64 (by omega) (by omega), if_pos hlt, if_neg hn1]
              · refine ⟨es, i5, h5, Ev.succ (fun k => ?_), by omega, hi5⟩
                simp only [spec_l14Some.l0, e5, Option.bind_some]
                rw [w64 (by omega) (by omega), if_neg hlt]
          obtain ⟨es', i', h', hr, r1, r2⟩ := key 250 es i3 h3 (by omega) (by omega) hi3
          refine ⟨n, es', i', h', Ev.bind hg (Ev.congr (fun k => ?_) hr), by omega, by omega, r1, r2⟩
          simp only [e2, Option.bind_some, if_true, e3]
          rw [if_neg q1, if_neg q2, if_neg q3]

-- chunk firsts: the canonical order is the first of all orders
theorem sum_zero {xs : List Nat} (h : 0 < xs.sum) : ∃ x ∈ xs, 0 < x := by
  induction xs with
  | nil => simp at h
  | cons a xs ih =>
    rw [List.sum_cons] at h
    by_cases ha : 0 < a
    · exact ⟨a, by simp, ha⟩
    · obtain ⟨x, hx, h0⟩ := ih (by omega)
      exact ⟨x, by simp [hx], h0⟩
theorem cnt_pos_ok {N : Nat} {l : List IE} {m : Nat} {o : List Int} (h : 0 < cnt N l m o) (ho : ordOk N l o) : ∃ o', ordOk N l o' ∧ o'.length = o.length + m := by
  induction m generalizing o with
  | zero => exact ⟨o, ho, rfl⟩
  | succ m ih =>
    unfold cnt at h
    obtain ⟨y, hy, h0⟩ := sum_zero h
    obtain ⟨x, hx, rfl⟩ := List.mem_map.1 hy
    have t := term_free (N := N) (l := l) (m := m) (o := o) (x := x) (k := 0) h0
    have h1 : 0 < cnt N l m (o ++ [(x : Int)]) := by rw [← t.2]; exact h0
    obtain ⟨o', h2, h3⟩ := ih h1 (ordOk_snoc ho (List.mem_range.1 hx) t.1)
    simp at h3
    exact ⟨o', h2, by omega⟩
theorem pickL_first {N : Nat} {l : List IE} {m : Nat} {o : List Int} {x : Nat} {xs ys : List Nat} (h : ∀ y ∈ xs, cntTerm N l m o y = 0) (hx : 0 < cntTerm N l m o x) : pickL N l m o (xs ++ x :: ys) 0 = some (x, 0) := by
  induction xs with
  | nil =>
    rw [List.nil_append]
    unfold pickL
    rw [if_pos hx]
  | cons a xs ih =>
    rw [List.cons_append]
    unfold pickL
    have ha := h a (by simp)
    rw [if_neg (by omega), Nat.zero_sub]
    exact ih (fun y hy => h y (by simp [hy]))
theorem range_cut {N x : Nat} (h : x < N) : List.range N = List.range x ++ x :: (List.range N).drop (x + 1) := by
  have h1 : (List.range N).drop x = x :: (List.range N).drop (x + 1) := by
    rw [List.drop_eq_getElem_cons (by simpa using h), List.getElem_range]
  rw [← h1]
  have h2 : List.range x = (List.range N).take x := by rw [List.take_range, Nat.min_eq_left (by omega)]
  rw [h2, List.take_append_drop]
theorem canon_first {N : Nat} {l : List IE} {m : Nat} {o o' : List Int} (h : canonG N l m o = some o') : 0 < cnt N l m o ∧ linG N l m o 0 = o' := by
  induction m generalizing o with
  | zero => unfold canonG at h; injection h with h; exact ⟨by simp [cnt], h⟩
  | succ m ih =>
    unfold canonG at h
    split at h
    · rename_i x hx
      have h1 := least_some hx
      obtain ⟨i0, i1⟩ := ih h
      have ht : cntTerm N l m o x = cnt N l m (o ++ [(x : Int)]) := by unfold cntTerm; rw [if_pos h1.2.1]
      have hp : pickL N l m o (List.range N) 0 = some (x, 0) := by
        rw [range_cut h1.1]
        refine pickL_first (fun y hy => ?_) (by omega)
        unfold cntTerm
        rw [if_neg (by have h5 : freeB l o (y : Int) = false := h1.2.2 y (List.mem_range.1 hy); rw [h5]; simp)]
      constructor
      · show 0 < ((List.range N).map (cntTerm N l m o)).sum
        rw [range_cut h1.1, List.map_append, List.sum_append, List.map_cons, List.sum_cons]
        omega
      · unfold linG
        rw [hp]
        exact i1
    · cases h
theorem linP_first {n : Int} {l : List IE} (hg : graphOk n l = true) (h8 : n ≤ 8) : linP n l 0 = pairOf (canonP n l) := by
  obtain ⟨hn, hlen, he⟩ := (graphOk_iff n l).1 hg
  have e : linearsP n l = (cnt n.toNat l n.toNat [] : Int) := by unfold linearsP; rw [if_pos ⟨hg, h8⟩]
  unfold linP
  rw [e]
  cases hc : canonP n l with
  | some o =>
    have h := canon_first (N := n.toNat) hc
    rw [if_pos (by omega)]
    unfold pairOf
    rw [show Int.toNat 0 = 0 from rfl, h.2]
  | none =>
    have h0 : ¬ 0 < cnt n.toNat l n.toNat [] := by
      intro h
      obtain ⟨o', h1, h2⟩ := cnt_pos_ok h ⟨List.nodup_nil, by simp, by simp⟩
      have ha := ord_acyc (fun a b h => by have := edge_within hg h; omega) h1 (by simpa using h2)
      have := (canon_iff hg).2 ha
      rw [hc] at this
      cases this
    rw [if_neg (by omega)]
    rfl
theorem DrawLinears_ev (b : List Int) (hb : b.length ≤ 140737488351232) : ∃ n es, Ev (fun k => spec_DrawLinears.f k b) (n, es) ∧ es.length ≤ 300 := by
  unfold spec_DrawLinears.f
  obtain ⟨h0, hnew⟩ := l1New_ev b hb
  obtain ⟨x, i1, h1, e1, x0, x1, _, hi1⟩ := l1Below_ex b 0 h0 3 hb (by omega)
  have x2 := x1 (by omega)
  obtain ⟨n, es, i2, h2, hg, n0, n1, hl, hi2⟩ := l14Some_ev b i1 h1 (7 + x) hb hi1 (by omega) (by omega)
  refine ⟨n, es, Ev.bind hnew (Ev.bindc e1 ?_), hl⟩
  rw [w64 (by omega) (by omega)]
  exact Ev.bind hg (Ev.of_eq fun k => rfl)
theorem qB_mem {D : Nat → Nat → Bool} {N a m : Nat} {o : List IE} {e : IE} : e ∈ qB D N a m o ↔ e ∈ o ∨ ∃ b, b < m ∧ D a b = true ∧ qAny D a b N = false ∧ e = (⟨(a : Int), (b : Int)⟩ : IE) := by
  induction m with
  | zero => simp [qB]
  | succ m ih =>
    rw [qB_succ]
    unfold qStep
    constructor
    · intro h
      split at h
      · rename_i c
        rcases List.mem_append.1 h with h | h
        · rcases ih.1 h with h | ⟨b, hb, h1, h2, h3⟩
          · exact .inl h
          · exact .inr ⟨b, by omega, h1, h2, h3⟩
        · exact .inr ⟨m, by omega, c.1, c.2, List.mem_singleton.1 h⟩
      · rcases ih.1 h with h | ⟨b, hb, h1, h2, h3⟩
        · exact .inl h
        · exact .inr ⟨b, by omega, h1, h2, h3⟩
    · rintro (h | ⟨b, hb, h1, h2, h3⟩)
      · have := ih.2 (.inl h)
        split
        · exact List.mem_append_left _ this
        · exact this
      · by_cases hbm : b = m
        · subst hbm
          rw [if_pos ⟨h1, h2⟩, h3]
          simp
        · have := ih.2 (.inr ⟨b, by omega, h1, h2, h3⟩)
          split
          · exact List.mem_append_left _ this
          · exact this
theorem qA_mem {D : Nat → Nat → Bool} {N m : Nat} {e : IE} : e ∈ qA D N m [] ↔ ∃ a b, a < m ∧ b < N ∧ D a b = true ∧ qAny D a b N = false ∧ e = (⟨(a : Int), (b : Int)⟩ : IE) := by
  induction m with
  | zero => simp [qA]
  | succ m ih =>
    rw [qA_succ, qB_mem, ih]
    constructor
    · rintro (⟨a, b, h1, h2⟩ | ⟨b, h1, h2⟩)
      · exact ⟨a, b, by omega, h2⟩
      · exact ⟨m, b, by omega, h1, h2⟩
    · rintro ⟨a, b, h1, h2, h3⟩
      by_cases ha : a = m
      · subst ha
        exact .inr ⟨b, h2, h3⟩
      · exact .inl ⟨a, b, by omega, h2, h3⟩
theorem qB_nodup {D : Nat → Nat → Bool} {N a m : Nat} {o : List IE} (ho : o.Nodup) (h : ∀ e ∈ o, e.f0 < (a : Int)) : (qB D N a m o).Nodup := by
  induction m with
  | zero => exact ho
  | succ m ih =>
    rw [qB_succ]
    unfold qStep
    split
    · rw [List.nodup_append]
      refine ⟨ih, by simp, fun x hx y hy => ?_⟩
      rw [List.mem_singleton.1 hy]
      rintro rfl
      rcases qB_mem.1 hx with hx | ⟨b, hb, _, _, he⟩
      · have := h _ hx
        simp at this
      · injection he with h1 h2
        omega
    · exact ih
theorem qA_nodup {D : Nat → Nat → Bool} {N m : Nat} : (qA D N m []).Nodup := by
  induction m with
  | zero => exact List.nodup_nil
  | succ m ih =>
    rw [qA_succ]
    refine qB_nodup ih (fun e he => ?_)
    obtain ⟨a, b, ha, _, _, _, rfl⟩ := qA_mem.1 he
    show (a : Int) < m
    omega
theorem qAny_false {D : Nat → Nat → Bool} {a b N : Nat} (h : qAny D a b N = false) {k : Nat} (hk : k < N) : ¬ (D a k = true ∧ D k b = true) := by
  unfold qAny at h
  rw [List.any_eq_false] at h
  have := h k (List.mem_range.2 hk)
  simpa using this
theorem qAny_true {D : Nat → Nat → Bool} {a b N : Nat} (h : ¬ qAny D a b N = false) : ∃ k, D a k = true ∧ D k b = true := by
  rw [Bool.not_eq_false] at h
  unfold qAny at h
  obtain ⟨k, _, hk⟩ := List.any_eq_true.1 h
  exact ⟨k, by simpa using hk⟩
theorem posB_iff {l : List IE} {a b : Nat} : posB l a b = true ↔ ∃ m, 0 < m ∧ Way l m a b := by
  unfold posB
  rw [decide_eq_true_iff]
  rcases dN_is l a b with ⟨h0, h1⟩ | ⟨h0, h1, h2⟩
  · rw [h0]
    constructor
    · intro h; omega
    · rintro ⟨m, hm, hw⟩; exact absurd hw (h1 m hm)
  · exact ⟨fun _ => ⟨_, h0, h1⟩, fun _ => h0⟩
theorem E_red {N : Nat} {l : List IE} {a b : Nat} : E (qA (posB l) N N []) a b ↔ a < N ∧ b < N ∧ posB l a b = true ∧ qAny (posB l) a b N = false := by
  unfold E
  constructor
  · rintro ⟨e, he, h0, h1⟩
    obtain ⟨x, y, hx, hy, h2, h3, rfl⟩ := qA_mem.1 he
    obtain rfl : x = a := Int.ofNat.inj h0
    obtain rfl : y = b := Int.ofNat.inj h1
    exact ⟨hx, hy, h2, h3⟩
  · rintro ⟨ha, hb, h2, h3⟩
    exact ⟨⟨a, b⟩, qA_mem.2 ⟨a, b, ha, hb, h2, h3, rfl⟩, rfl, rfl⟩
/-- A reduced edge is an edge. -/
theorem red_edge {N : Nat} {l : List IE} (hE : ∀ a b, E l a b → a < N ∧ b < N) {a b : Nat} (h : E (qA (posB l) N N []) a b) : E l a b := by
  obtain ⟨ha, hb, h2, h3⟩ := E_red.1 h
  obtain ⟨m, hm, p, hp, hw⟩ := posB_iff.1 h2
  match p, hp, hw with
  | [], hp, _ => simp at hp; omega
  | [v], _, hw => obtain ⟨h4, h5⟩ := hw; obtain rfl : v = b := h5; exact h4
  | v :: u :: q, _, hw =>
    have hv := (hE _ _ hw.1).2
    exact absurd ⟨posB_iff.2 ⟨1, by omega, Way.one.2 hw.1⟩, posB_iff.2 ⟨(u :: q).length, by simp, u :: q, rfl, hw.2⟩⟩ (qAny_false h3 hv)
theorem red_way {N : Nat} {l : List IE} (hE : ∀ a b, E l a b → a < N ∧ b < N) {p : List Nat} {a b : Nat} (h : isWay (qA (posB l) N N []) a p b) : isWay l a p b := by
  induction p generalizing a with
  | nil => exact h
  | cons v p ih => exact ⟨red_edge hE h.1, ih h.2⟩
theorem way_longer {N : Nat} {l : List IE} (hE : ∀ a b, E l a b → a < N ∧ b < N) {p : List Nat} {a b : Nat} (h : isWay l a p b) : isWay (qA (posB l) N N []) a p b ∨ ∃ q, isWay l a q b ∧ p.length < q.length := by
  induction p generalizing a with
  | nil => exact .inl h
  | cons v p ih =>
    have hN := hE _ _ h.1
    by_cases c : qAny (posB l) a v N = false
    · rcases ih h.2 with h1 | ⟨q, h1, h2⟩
      · exact .inl ⟨E_red.2 ⟨hN.1, hN.2, posB_iff.2 ⟨1, by omega, Way.one.2 h.1⟩, c⟩, h1⟩
      · exact .inr ⟨v :: q, ⟨h.1, h1⟩, by simpa using h2⟩
    · obtain ⟨k, h1, h2⟩ := qAny_true c
      obtain ⟨m1, hm1, p1, e1, w1⟩ := posB_iff.1 h1
      obtain ⟨m2, hm2, p2, e2, w2⟩ := posB_iff.1 h2
      refine .inr ⟨p1 ++ (p2 ++ p), isWay_append.2 ⟨k, w1, isWay_append.2 ⟨v, w2, h.2⟩⟩, ?_⟩
      simp
      omega
theorem acyc_len {N : Nat} {l : List IE} (hE : ∀ a b, E l a b → a < N ∧ b < N) (ha : acyc l) {p : List Nat} {a b : Nat} (h : isWay l a p b) : p.length ≤ N := by
  have hd : (a :: p).Nodup := by
    apply Classical.byContradiction
    intro hn
    obtain ⟨c, m, hm, hw⟩ := way_dup h hn
    exact ha c m hm hw
  exact nodup_len (List.nodup_cons.1 hd).2 (isWay_lt hE h)
theorem way_red {N : Nat} {l : List IE} (hE : ∀ a b, E l a b → a < N ∧ b < N) (ha : acyc l) {a b : Nat} : ∀ (d : Nat) (p : List Nat), p ≠ [] → N - p.length ≤ d → isWay l a p b → ∃ q, q ≠ [] ∧ isWay (qA (posB l) N N []) a q b := by
  intro d
  induction d with
  | zero =>
    intro p hp hd h
    rcases way_longer hE h with h1 | ⟨q, h1, h2⟩
    · exact ⟨p, hp, h1⟩
    · have := acyc_len hE ha h1
      omega
  | succ d ih =>
    intro p hp hd h
    rcases way_longer hE h with h1 | ⟨q, h1, h2⟩
    · exact ⟨p, hp, h1⟩
    · exact ih q (by intro e; subst e; simp at h2) (by omega) h1
theorem red_pos {N : Nat} {l : List IE} (hE : ∀ a b, E l a b → a < N ∧ b < N) (ha : acyc l) (a b : Nat) : (∃ m, 0 < m ∧ Way (qA (posB l) N N []) m a b) ↔ ∃ m, 0 < m ∧ Way l m a b := by
  constructor
  · rintro ⟨m, hm, p, hp, hw⟩
    exact ⟨m, hm, p, hp, red_way hE hw⟩
  · rintro ⟨m, hm, p, hp, hw⟩
    obtain ⟨q, hq, hw2⟩ := way_red hE ha (N - p.length) p (by intro e; subst e; simp at hp; omega) (Nat.le_refl _) hw
    exact ⟨q.length, List.length_pos_iff.2 hq, q, rfl, hw2⟩
theorem red_posB {N : Nat} {l : List IE} (hE : ∀ a b, E l a b → a < N ∧ b < N) (ha : acyc l) : posB (qA (posB l) N N []) = posB l := by
  funext a b
  rw [Bool.eq_iff_iff, posB_iff, posB_iff]
  exact red_pos hE ha a b
theorem red_acyc {N : Nat} {l : List IE} (hE : ∀ a b, E l a b → a < N ∧ b < N) (ha : acyc l) : acyc (qA (posB l) N N []) := by
  rintro c m hm ⟨p, hp, hw⟩
  exact ha c m hm ⟨p, hp, red_way hE hw⟩
theorem sub_lenE {s t : List IE} (hs : s.Nodup) (h : ∀ x ∈ s, x ∈ t) : s.length ≤ t.length := by
  induction s generalizing t with
  | nil => simp
  | cons a s ih =>
    rw [List.nodup_cons] at hs
    have ha := h a (by simp)
    obtain ⟨t1, t2, rfl⟩ := List.append_of_mem ha
    have h1 := ih (t := t1 ++ t2) hs.2 (fun x hx => by
      have h2 := h x (by simp [hx])
      rcases List.mem_append.1 h2 with h2 | h2
      · exact List.mem_append_left _ h2
      · rcases List.mem_cons.1 h2 with rfl | h2
        · exact absurd hx hs.1
        · exact List.mem_append_right _ h2)
    simp at h1 ⊢
    omega
theorem red_graph {N : Nat} {l : List IE} (hg : graphOk (N : Int) l = true) : graphOk (N : Int) (qA (posB l) N N []) = true := by
  obtain ⟨hn, hlen, he⟩ := (graphOk_iff _ l).1 hg
  have hE : ∀ a b, E l a b → a < N ∧ b < N := fun a b h => by have := edge_within hg h; omega
  refine (graphOk_iff _ _).2 ⟨hn, Nat.le_trans (sub_lenE qA_nodup fun e hm => ?_) hlen, fun e hm => ?_⟩
  · obtain ⟨a, b, h1, h2, h3, h4, rfl⟩ := qA_mem.1 hm
    obtain ⟨x, hx, hx0, hx1⟩ := red_edge hE (E_red.2 ⟨h1, h2, h3, h4⟩)
    have e : x = (⟨(a : Int), (b : Int)⟩ : IE) := by cases x; simp at hx0 hx1; rw [hx0, hx1]
    rw [← e]
    exact hx
  · obtain ⟨a, b, h1, h2, h3, h4, rfl⟩ := qA_mem.1 hm
    simp
    omega
theorem closed_way {N : Nat} {l : List IE} {o : List Int} (ho : ordOk N l o) {p : List Nat} {a c : Nat} (h : isWay l a p c) (hc : (c : Int) ∈ o) : (a : Int) ∈ o := by
  induction p generalizing a with
  | nil => obtain rfl : a = c := h; exact hc
  | cons v p ih =>
    have hv := ih h.2
    obtain ⟨e, he, h0, h1⟩ := h.1
    obtain ⟨j, hj, hj2⟩ := List.mem_iff_getElem.1 hv
    have h3 := ho.2.2 j hj e he (by rw [h1, hj2])
    rw [h0] at h3
    exact List.mem_of_mem_take h3
theorem red_free {N : Nat} {l : List IE} (hg : graphOk (N : Int) l = true) (ha : acyc l) {o : List Int} (ho : ordOk N l o) (x : Nat) : freeB (qA (posB l) N N []) o (x : Int) = freeB l o (x : Int) := by
  obtain ⟨hn, hlen, he⟩ := (graphOk_iff _ l).1 hg
  have hE : ∀ a b, E l a b → a < N ∧ b < N := fun a b h => by have := edge_within hg h; omega
  rw [Bool.eq_iff_iff, freeB_iff, freeB_iff]
  constructor
  · rintro ⟨h1, h2⟩
    refine ⟨h1, fun e hel hx => ?_⟩
    have hb := he e hel
    have hE1 : E l e.f0.toNat x := ⟨e, hel, by omega, hx⟩
    obtain ⟨m, hm, hw⟩ := (red_pos hE ha _ _).2 ⟨1, by omega, Way.one.2 hE1⟩
    obtain ⟨t, rfl⟩ : ∃ t, m = t + 1 := ⟨m - 1, by omega⟩
    obtain ⟨c, ⟨p, _, hw1⟩, hc⟩ := Way.snoc.1 hw
    obtain ⟨e2, he2, h3, h4⟩ := hc
    have h5 := h2 e2 he2 h4
    rw [h3] at h5
    have := closed_way ho (red_way hE hw1) h5
    rw [Int.toNat_of_nonneg hb.1.1] at this
    exact this
  · rintro ⟨h1, h2⟩
    refine ⟨h1, fun e hel hx => ?_⟩
    obtain ⟨a, b, h3, h4, h5, h6, rfl⟩ := qA_mem.1 hel
    obtain ⟨e2, he2, h7, h8⟩ := red_edge hE (E_red.2 ⟨h3, h4, h5, h6⟩)
    have := h2 e2 he2 (by rw [h8]; exact hx)
    rw [h7] at this
    exact this
theorem red_cnt {N : Nat} {l : List IE} (hg : graphOk (N : Int) l = true) (ha : acyc l) {m : Nat} {o : List Int} (ho : ordOk N l o) : cnt N (qA (posB l) N N []) m o = cnt N l m o := by
  induction m generalizing o with
  | zero => rfl
  | succ m ih =>
    unfold cnt
    congr 1
    refine List.map_congr_left fun x hx => ?_
    rw [red_free hg ha ho x]
    by_cases c : freeB l o (x : Int) = true
    · rw [if_pos c, if_pos c]
      exact ih (ordOk_snoc ho (List.mem_range.1 hx) c)
    · rw [if_neg c, if_neg c]

-- chunk ahead: who leads to whom
def aheadP (n : Int) (l : List IE) (a b : Int) : Prop := graphOk n l = true ∧ (0 ≤ a ∧ a ≤ n - 1) ∧ (0 ≤ b ∧ b ≤ n - 1) ∧ ∃ m, 0 < m ∧ Way l m a.toNat b.toNat
theorem isDist_pos {l : List IE} {a b d : Nat} (h : isDist l a b d) : 0 < d ↔ ∃ m, 0 < m ∧ Way l m a b := by
  rcases h with ⟨rfl, h⟩ | ⟨h0, h1, _⟩
  · constructor
    · omega
    · rintro ⟨m, hm, hw⟩; exact absurd hw (h m hm)
  · exact ⟨fun _ => ⟨d, h0, h1⟩, fun _ => h0⟩
theorem spec_Ahead_ev (n : Int) (l : List IE) (a b : Int) : ∃ r, Ev (fun k => spec_Ahead.f k n l a b) r ∧ (r = true ↔ aheadP n l a b) := by
  unfold spec_Ahead.f aheadP
  cases hg : graphOk n l with
  | false => exact ⟨false, Ev.bind (spec_GraphOk_ev n l) (by rw [hg]; exact Ev.of_eq fun k => rfl), by simp⟩
  | true =>
    obtain ⟨hn, hlen, he⟩ := (graphOk_iff n l).1 hg
    have hw : wrap64 (n - 1) = n - 1 := w64 (by omega) (by omega)
    simp only [l1In_eq, hw, Option.bind_some]
    by_cases ha : 0 ≤ a ∧ a ≤ n - 1
    · by_cases hb : 0 ≤ b ∧ b ≤ n - 1
      · obtain ⟨d, hd, hev⟩ := l14Way_ev hg (a := a.toNat) (b := b.toNat) (by omega) (by omega)
        rw [Int.toNat_of_nonneg ha.1, Int.toNat_of_nonneg hb.1] at hev
        refine ⟨decide (0 < d), Ev.bind (spec_GraphOk_ev n l) ?_, ?_⟩
        · rw [hg]
          simp only [if_true, decide_eq_true ha, decide_eq_true hb]
          refine Ev.bind hev (Ev.of_eq fun k => ?_)
          congr 1
          rw [Bool.eq_iff_iff]
          simp only [decide_eq_true_eq]
          omega
        · rw [decide_eq_true_eq, isDist_pos hd]
          simp [ha, hb]
      · exact ⟨false, Ev.bind (spec_GraphOk_ev n l) (Ev.of_eq fun k => by rw [hg, if_pos rfl, decide_eq_true ha, if_pos rfl, decide_eq_false hb]; rfl), by simp [hb]⟩
    · exact ⟨false, Ev.bind (spec_GraphOk_ev n l) (Ev.of_eq fun k => by rw [hg, if_pos rfl, decide_eq_false ha]; rfl), by simp [ha]⟩

theorem sameEdges_refl {l : List IE} (hl : l.length ≤ 1000000) : Ev (fun k => laws_sameEdges.f k l l) true := by
  unfold laws_sameEdges.f
  simp only [if_true]
  have key : ∀ (d i : Nat), i + d = l.length → Ev (fun k => laws_sameEdges.l0 k l l (i : Int)) true := by
    intro d
    induction d with
    | zero =>
      intro i hi
      refine Ev.succ (fun k => ?_)
      simp only [laws_sameEdges.l0]
      rw [if_neg (by omega)]
    | succ d ih =>
      intro i hi
      refine Ev.step (fun k => ?_) (ih (i + 1) (by omega))
      simp only [laws_sameEdges.l0]
      rw [if_pos (by omega), if_pos (by omega), if_pos (by omega), if_neg (by simp), w64_nat i (by omega)]
  exact key l.length 0 (by omega)
theorem proof : Pure := by
  intro code hc
  refine Ev.rounds ?_
  unfold laws_FnReduced.f laws_big.f
  simp only [Option.bind_some]
  by_cases hbig : (code.length : Int) > 1048576
  · exact Ev.of_eq fun k => by rw [if_pos (decide_eq_true hbig)]
  refine Ev.congr (fun k => if_neg (by rw [decide_eq_false hbig]; simp)) ?_
  obtain ⟨n, l, hdraw, hlen⟩ := DrawLinears_ev code (by omega)
  refine Ev.bind hdraw (Ev.bind (impl_Reduced_ev n l) (Ev.bind (spec_Canon_ev n l) ?_))
  have hend : reducedP n l = [] → Ev (fun k => some (((reducedP n l).length : Int) == 0)) true := by
    intro h
    rw [h]
    exact Ev.of_eq fun k => rfl
  cases hg : graphOk n l with
  | false => exact Ev.congr (fun k => if_neg (by simp)) (hend (by unfold reducedP; rw [hg]; simp))
  | true =>
    cases hcn : canonP n l with
    | none => exact Ev.congr (fun k => if_neg (by simp [pairOf])) (hend (by unfold reducedP; rw [hcn]; simp))
    | some o =>
      refine Ev.congr (fun k => if_pos (by simp [pairOf])) ?_
      have hsome : (canonP n l).isSome = true := by rw [hcn]; rfl
      have ha := (canon_iff hg).1 hsome
      obtain ⟨hn, hle, he⟩ := (graphOk_iff n l).1 hg
      obtain ⟨N, rfl⟩ : ∃ N : Nat, n = (N : Int) := ⟨n.toNat, by omega⟩
      have hE : ∀ a b, E l a b → a < N ∧ b < N := fun a b h => by have := edge_within hg h; omega
      have hr : reducedP (N : Int) l = qA (posB l) N N [] := by
        unfold reducedP redP
        rw [if_pos ⟨hg, hsome⟩, Int.toNat_natCast]
      have hfew := reducedP_len (N : Int) l
      rw [hr] at hfew ⊢
      have hgf := red_graph hg
      have haf := red_acyc hE ha
      have hsf := (canon_iff hgf).2 haf
      have hrr : reducedP (N : Int) (qA (posB l) N N []) = qA (posB l) N N [] := by
        unfold reducedP redP
        rw [if_pos ⟨hgf, hsf⟩, Int.toNat_natCast, red_posB hE ha]
      have hlin : linearsP (N : Int) (qA (posB l) N N []) = linearsP (N : Int) l := by
        unfold linearsP
        rw [hgf, hg, Int.toNat_natCast, red_cnt hg ha ⟨List.nodup_nil, by simp, by simp⟩]
      have hpos := red_pos hE ha
      have i1 := impl_Reduced_ev (N : Int) (qA (posB l) N N [])
      have i2 := impl_Linears_ev (N : Int) (qA (posB l) N N [])
      rw [hrr] at i1
      rw [hlin] at i2
      have hah : ∀ a b : Nat, ∃ r, Ev (fun k => spec_Ahead.f k (N : Int) (qA (posB l) N N []) (a : Int) (b : Int)) r ∧ Ev (fun k => spec_Ahead.f k (N : Int) l (a : Int) (b : Int)) r := by
        intro a b
        obtain ⟨r1, h1, q1⟩ := spec_Ahead_ev (N : Int) (qA (posB l) N N []) (a : Int) (b : Int)
        obtain ⟨r2, h2, q2⟩ := spec_Ahead_ev (N : Int) l (a : Int) (b : Int)
        have e : r1 = r2 := by
          rw [Bool.eq_iff_iff, q1, q2]
          unfold aheadP
          rw [hgf, hg, hpos]
        subst e
        exact ⟨r1, h1, h2⟩
      generalize qA (posB l) N N [] = few at hfew i1 i2 hah ⊢
      have last : Ev (fun k => laws_FnReduced.j2 k (N : Int) few false) true := by
        refine Ev.step (f := fun k => (impl_Reduced.f k (N : Int) few).bind fun t => (laws_sameEdges.f k t few).bind fun t2 => some t2) (fun k => by simp only [laws_FnReduced.j2]; rw [if_neg (by simp)]) ?_
        exact Ev.bind i1 (Ev.bind (sameEdges_refl (by omega)) (Ev.of_eq fun k => rfl))
      have key : ∀ (d a : Nat), a + d = N → Ev (fun k => laws_FnReduced.l0 k (N : Int) l few (a : Int)) true := by
        intro d
        induction d with
        | zero =>
          intro a haN
          by_cases h6 : (N : Int) ≤ 6
          · refine Ev.step (f := fun k => (impl_Linears.f k (N : Int) few).bind fun t => (spec_Linears.f k (N : Int) l).bind fun t2 => laws_FnReduced.j2 k (N : Int) few (t != t2)) (fun k => ?_) ?_
            · simp only [laws_FnReduced.l0]
              rw [if_neg (by omega), if_pos h6]
            · refine Ev.bind i2 (Ev.bind (spec_Linears_ev (N : Int) l) ?_)
              rw [show (linearsP (N : Int) l != linearsP (N : Int) l) = false by simp]
              exact last
          · refine Ev.step (fun k => ?_) last
            simp only [laws_FnReduced.l0]
            rw [if_neg (by omega), if_neg h6]
        | succ d ih =>
          intro a haN
          have hnext := ih (a + 1) (by omega)
          have row : ∀ (d b : Nat), b + d = N → Ev (fun k => laws_FnReduced.l1 k (N : Int) l few (a : Int) (b : Int)) true := by
            intro d
            induction d with
            | zero =>
              intro b hb
              refine Ev.step (fun k => ?_) hnext
              simp only [laws_FnReduced.l1]
              rw [if_neg (by omega), w64_nat a (by omega)]
            | succ d ihd =>
              intro b hb
              obtain ⟨r, h1, h2⟩ := hah a b
              refine Ev.step (f := fun k => (spec_Ahead.f k (N : Int) few (a : Int) (b : Int)).bind fun t301 => (spec_Ahead.f k (N : Int) l (a : Int) (b : Int)).bind fun t302 => if (t301 != t302) = true then some false else laws_FnReduced.l1 k (N : Int) l few (a : Int) ((b + 1 : Nat) : Int)) (fun k => ?_) ?_
              · simp only [laws_FnReduced.l1]
                rw [if_pos (by omega), w64_nat b (by omega)]
              · exact Ev.bind h1 (Ev.bind h2 (Ev.congr (fun k => if_neg (by simp)) (ihd (b + 1) (by omega))))
          refine Ev.step (fun k => ?_) (row N 0 (by omega))
          simp only [laws_FnReduced.l0]
          rw [if_pos (by omega)]
          rfl
      exact key N 0 (by omega)


end Go.Proofs.Ytnecbgeljanhiaa.fnReduced
