/- The law FnExactAhead holds of the program's own functions, told over lists and numbers: for every argument it returns true. Conditions: none beyond the given row's own. -/
import Derived.Test.YtapbpfbhghheeaaSaysFnExactAhead
import Derived.Test.YtapbpfbhghheeaaKit
namespace Go.Proofs.Ytapbpfbhghheeaa.fnExactAhead
open Go.RowKit Go.Proofs.Ytapbpfbhghheeaa.PFnExactAhead Go.Proofs.YtapbpfbhghheeaaW.PrintWords Go.Proofs.YtapbpfbhghheeaaW.PrintLast Go.Proofs.Ytapbpfbhghheeaa.Own
set_option linter.unusedVariables false
set_option linter.unusedSimpArgs false
-- chunk edges: lists of edges are copied, and the same as themselves
abbrev LE := S78
abbrev IE := S60
def toE (x : LE) : IE := ⟨x.f0, x.f1⟩
theorem szEdgeS_eq (l : List LE) (a : Int) : laws_szEdgeS.f l a = some (if wrap64 (a - (l.length : Int)) < 0 then -1 else wrap64 (a - (l.length : Int))) := by
  unfold laws_szEdgeS.f; split <;> rfl
theorem szEdgeS_big {l : List LE} (hl : l.length ≤ maxLen) (h : 1048576 < l.length) : laws_szEdgeS.f l 1048576 = some (-1) := by
  unfold maxLen at hl
  rw [szEdgeS_eq, w64 (by omega) (by omega), if_pos (by omega)]
theorem rd_LE {l : List LE} {i : Nat} (h : i < l.length) : rd_T78 l (i : Int) = l[i] := by
  unfold rd_T78; rw [Int.toNat_natCast]; exact getD_lt l _ h
theorem rd_IE {l : List IE} {i : Nat} (h : i < l.length) : rd_T60 l (i : Int) = l[i] := by
  unfold rd_T60; rw [Int.toNat_natCast]; exact getD_lt l _ h
theorem toEdgeS_ev {l : List LE} (hl : l.length ≤ 17592186044416) : Ev (fun k => laws_toEdgeS.f k l) (l.map toE) := by
  unfold laws_toEdgeS.f
  simp only [Int.natCast_nonneg, if_true, Int.toNat_natCast, if_pos hl]
  refine fill_ev l toE (fun k ys i => laws_toEdgeS.l0 k l ys i) (fun i h ys hy r hr => ?_) (fun ys => ?_) _ (by simp)
  · refine Ev.step (fun k => ?_) hr
    show laws_toEdgeS.l0 (k + 1) l ys i = _
    simp only [laws_toEdgeS.l0]
    rw [if_pos (by omega), if_pos (by omega), rd_LE h]
    unfold laws_toEdge.f
    simp only [Option.bind_some]
    rw [if_pos (by omega), w64_succ h (by omega), Int.toNat_natCast]
    rfl
  · refine Ev.succ (fun k => ?_)
    simp only [laws_toEdgeS.l0]
    rw [if_neg (by omega)]
theorem eqEdgeS_refl {l : List IE} (hl : l.length ≤ 17592186044416) : Ev (fun k => laws_eqEdgeS.f k l l) true := by
  unfold laws_eqEdgeS.f
  simp only [if_true]
  refine down_ev (fun k i => laws_eqEdgeS.l0 k l l i) l.length true (fun i h hr => ?_) ?_ 0 (by omega)
  · refine Ev.step (fun k => ?_) hr
    simp only [laws_eqEdgeS.l0]
    rw [if_pos (by omega), if_pos (by omega), if_pos (by omega)]
    unfold laws_eqEdge.f
    simp only [if_true, Option.bind_some]
    rw [w64_succ h (by omega)]
  · refine Ev.succ (fun k => ?_)
    simp only [laws_eqEdgeS.l0]
    rw [if_neg (by omega)]

-- chunk graph: what GraphOk answers, of the program and of the reference
def edgeIn (n : Int) (e : IE) : Bool := decide (0 ≤ e.f0 ∧ e.f0 ≤ n - 1) && decide (0 ≤ e.f1 ∧ e.f1 ≤ n - 1)
def graphOk (n : Int) (l : List IE) : Bool := decide (0 ≤ n ∧ n ≤ 16) && decide (l.length ≤ 200) && l.all (edgeIn n)
theorem within_eq (a b c : Int) : impl_within.f a b c = some (decide (b ≤ a ∧ a ≤ c)) := by
  unfold impl_within.f
  split <;> simp [*]
theorem l1In_eq (a b c : Int) : spec_l1In.f a b c = some (decide (b ≤ a ∧ a ≤ c)) := by
  unfold spec_l1In.f
  split <;> simp [*]
theorem impl_GraphOk_ev (n : Int) (l : List IE) : Ev (fun k => impl_GraphOk.f k n l) (graphOk n l) := by
  unfold impl_GraphOk.f graphOk
  refine Ev.bindc (within_eq _ _ _) ?_
  by_cases hn : 0 ≤ n ∧ n ≤ 16
  · simp only [hn, decide_true, if_true, and_self, Bool.true_and]
    by_cases hl : l.length ≤ 200
    · refine Ev.step (f := fun k => impl_GraphOk.l0 k n l (l.length : Int) 0) (fun k => ?_) ?_
      · simp only [impl_GraphOk.j0]
        rw [if_neg (by simp; omega)]
      · have hw : wrap64 (n - 1) = n - 1 := w64 (by omega) (by omega)
        have h0 : l.all (edgeIn n) = (l.drop 0).all (edgeIn n) := rfl
        rw [decide_eq_true hl, Bool.true_and, h0]
        refine all_ev l (edgeIn n) (fun k i => impl_GraphOk.l0 k n l (l.length : Int) i) (fun i h hp r hr => ?_) (fun i h hp => ?_) ?_ 0 (by omega)
        · refine Ev.step (fun k => ?_) hr
          simp only [impl_GraphOk.l0]
          rw [if_pos (by omega), if_pos (by omega), if_pos (by omega), rd_IE h, within_eq, within_eq, hw]
          simp only [edgeIn, Bool.and_eq_true] at hp
          simp only [Option.bind_some, hp.1, hp.2, if_true]
          rw [w64_succ h (by omega)]
        · refine Ev.succ (fun k => ?_)
          simp only [impl_GraphOk.l0]
          rw [if_pos (by omega), if_pos (by omega), if_pos (by omega), rd_IE h, within_eq, within_eq, hw]
          simp only [edgeIn, Bool.and_eq_false_iff] at hp
          simp only [Option.bind_some]
          rcases hp with hp | hp
          · rw [hp]; rfl
          · rw [hp]; split <;> rfl
        · refine Ev.succ (fun k => ?_)
          simp only [impl_GraphOk.l0]
          rw [if_neg (by omega)]
    · rw [decide_eq_false hl, Bool.false_and]
      refine Ev.succ (fun k => ?_)
      simp only [impl_GraphOk.j0]
      rw [if_pos (by simp; omega)]
  · simp only [decide_eq_false hn, Bool.false_and]
    refine Ev.succ (fun k => ?_)
    rw [if_neg (by simp)]
    simp only [impl_GraphOk.j0, if_true]
theorem spec_GraphOk_ev (n : Int) (l : List IE) : Ev (fun k => spec_GraphOk.f k n l) (graphOk n l) := by
  unfold spec_GraphOk.f graphOk
  refine Ev.bindc (l1In_eq _ _ _) ?_
  by_cases hn : 0 ≤ n ∧ n ≤ 16
  · simp only [hn, decide_true, if_true, and_self, Bool.true_and]
    by_cases hl : l.length ≤ 200
    · refine Ev.step (f := fun k => spec_GraphOk.l0 k n l 0) (fun k => ?_) ?_
      · simp only [spec_GraphOk.j0]
        rw [if_neg (by simp; omega)]
      · have hw : wrap64 (n - 1) = n - 1 := w64 (by omega) (by omega)
        have h0 : l.all (edgeIn n) = (l.drop 0).all (edgeIn n) := rfl
        rw [decide_eq_true hl, Bool.true_and, h0]
        refine all_ev l (edgeIn n) (fun k i => spec_GraphOk.l0 k n l i) (fun i h hp r hr => ?_) (fun i h hp => ?_) ?_ 0 (by omega)
        · refine Ev.step (fun k => ?_) hr
          simp only [spec_GraphOk.l0]
          rw [if_pos (by omega), if_pos (by omega), rd_IE h, l1In_eq, l1In_eq, hw]
          simp only [edgeIn, Bool.and_eq_true] at hp
          simp only [Option.bind_some, hp.1, hp.2, if_true]
          rw [w64_succ h (by omega)]
        · refine Ev.succ (fun k => ?_)
          simp only [spec_GraphOk.l0]
          rw [if_pos (by omega), if_pos (by omega), rd_IE h, l1In_eq, l1In_eq, hw]
          simp only [edgeIn, Bool.and_eq_false_iff] at hp
          simp only [Option.bind_some]
          rcases hp with hp | hp
          · rw [hp]; rfl
          · rw [hp]; split <;> rfl
        · refine Ev.succ (fun k => ?_)
          simp only [spec_GraphOk.l0]
          rw [if_neg (by omega)]
    · rw [decide_eq_false hl, Bool.false_and]
      refine Ev.succ (fun k => ?_)
      simp only [spec_GraphOk.j0]
      rw [if_pos (by simp; omega)]
  · simp only [decide_eq_false hn, Bool.false_and]
    refine Ev.succ (fun k => ?_)
    rw [if_neg (by simp)]
    simp only [spec_GraphOk.j0, if_true]

-- chunk contains: slices.Index and slices.Contains of numbers
def edgeFree (d : List Int) (x : Int) (e : IE) : Bool := decide (e.f1 = x → e.f0 ∈ d)
def freeB (l : List IE) (d : List Int) (x : Int) : Bool := decide (x ∉ d) && l.all (edgeFree d x)
theorem freeB_iff (l : List IE) (d : List Int) (x : Int) : freeB l d x = true ↔ x ∉ d ∧ ∀ e ∈ l, e.f1 = x → e.f0 ∈ d := by
  unfold freeB edgeFree
  simp [Decidable.imp_iff_not_or]
theorem graphOk_iff (n : Int) (l : List IE) : graphOk n l = true ↔ (0 ≤ n ∧ n ≤ 16) ∧ l.length ≤ 200 ∧ ∀ e ∈ l, (0 ≤ e.f0 ∧ e.f0 ≤ n - 1) ∧ (0 ≤ e.f1 ∧ e.f1 ≤ n - 1) := by
  unfold graphOk edgeIn
  simp [and_assoc]

-- chunk ways: shortest ways of a graph, as the program's table and as the reference's rounds
def E (l : List IE) (a b : Nat) : Prop := ∃ e ∈ l, e.f0 = (a : Int) ∧ e.f1 = (b : Int)
instance (l : List IE) (a b : Nat) : Decidable (E l a b) := by
  unfold E
  infer_instance
/-- A way from a along the numbers p to b. -/
def isWay (l : List IE) : Nat → List Nat → Nat → Prop
  | a, [], b => a = b
  | a, v :: p, b => E l a v ∧ isWay l v p b
theorem isWay_append {l : List IE} {p q : List Nat} {a b : Nat} : isWay l a (p ++ q) b ↔ ∃ c, isWay l a p c ∧ isWay l c q b := by
  induction p generalizing a with
  | nil => simp [isWay]
  | cons v p ih =>
    simp only [List.cons_append, isWay, ih]
    constructor
    · rintro ⟨h, c, h1, h2⟩; exact ⟨c, ⟨h, h1⟩, h2⟩
    · rintro ⟨c, ⟨h, h1⟩, h2⟩; exact ⟨h, c, h1, h2⟩
theorem isWay_cut {l : List IE} {s t : List Nat} {a v b : Nat} (h : isWay l a (s ++ v :: t) b) : isWay l v t b := by
  obtain ⟨c, _, h2⟩ := isWay_append.1 h
  exact h2.2
theorem isWay_prune {l : List IE} {p : List Nat} {a b : Nat} (h : isWay l a p b) : ∃ q, isWay l a q b ∧ q.Nodup ∧ (p ≠ [] → q ≠ []) ∧ q.length ≤ p.length := by
  induction p generalizing a with
  | nil => exact ⟨[], h, List.nodup_nil, fun h => absurd rfl h, Nat.le_refl _⟩
  | cons v p ih =>
    obtain ⟨q, h1, h2, _, h4⟩ := ih h.2
    by_cases hv : v ∈ q
    · obtain ⟨s, t, rfl⟩ := List.append_of_mem hv
      refine ⟨v :: t, ⟨h.1, isWay_cut h1⟩, (List.nodup_append.1 h2).2.1, fun _ => by simp, ?_⟩
      simp at h4 ⊢
      omega
    · exact ⟨v :: q, ⟨h.1, h1⟩, List.nodup_cons.2 ⟨hv, h2⟩, fun _ => by simp, by simpa using h4⟩
theorem isWay_lt {l : List IE} {N : Nat} (hE : ∀ a b, E l a b → a < N ∧ b < N) {p : List Nat} {a b : Nat} (h : isWay l a p b) : ∀ x ∈ p, x < N := by
  induction p generalizing a with
  | nil => intro x hx; simp at hx
  | cons v p ih =>
    intro x hx
    rcases List.mem_cons.1 hx with rfl | hx
    · exact (hE _ _ h.1).2
    · exact ih h.2 x hx
theorem isWay_short {l : List IE} {N : Nat} (hE : ∀ a b, E l a b → a < N ∧ b < N) {p : List Nat} {a b : Nat} (hp : p ≠ []) (h : isWay l a p b) : ∃ q, isWay l a q b ∧ q ≠ [] ∧ q.length ≤ N ∧ q.length ≤ p.length := by
  obtain ⟨q, h1, h2, h3, h4⟩ := isWay_prune h
  exact ⟨q, h1, h3 hp, nodup_len h2 (isWay_lt hE h1), h4⟩
/-- There is a way of m steps. -/
def Way (l : List IE) (m a b : Nat) : Prop := ∃ p, p.length = m ∧ isWay l a p b
theorem Way.one {l : List IE} {a b : Nat} : Way l 1 a b ↔ E l a b := by
  constructor
  · rintro ⟨p, hp, h⟩
    match p, hp with
    | [v], _ => obtain ⟨h1, rfl⟩ := h; exact h1
  · intro h; exact ⟨[b], rfl, h, rfl⟩
theorem Way.join {l : List IE} {m n a b c : Nat} (h : Way l m a c) (h' : Way l n c b) : Way l (m + n) a b := by
  obtain ⟨p, hp, h⟩ := h
  obtain ⟨q, hq, h'⟩ := h'
  exact ⟨p ++ q, by simp [hp, hq], isWay_append.2 ⟨c, h, h'⟩⟩
theorem Way.snoc {l : List IE} {m a b : Nat} : Way l (m + 1) a b ↔ ∃ c, Way l m a c ∧ E l c b := by
  constructor
  · rintro ⟨p, hp, h⟩
    obtain ⟨q, v, rfl⟩ : ∃ q v, p = q ++ [v] := ⟨p.dropLast, p.getLast (by intro e; simp [e] at hp), (List.dropLast_concat_getLast _).symm⟩
    obtain ⟨c, h1, h2, h3⟩ := isWay_append.1 h
    obtain rfl := h3
    exact ⟨c, ⟨q, by simpa using hp, h1⟩, h2⟩
  · rintro ⟨c, h, h'⟩
    exact Way.join h (Way.one.2 h')
/-- The least number of steps that lead from a to b; 0: there is none. -/
def isDist (l : List IE) (a b : Nat) (d : Nat) : Prop := (d = 0 ∧ ∀ m, 0 < m → ¬ Way l m a b) ∨ (0 < d ∧ Way l d a b ∧ ∀ m, 0 < m → m < d → ¬ Way l m a b)
theorem isDist_unique {l : List IE} {a b d d' : Nat} (h : isDist l a b d) (h' : isDist l a b d') : d = d' := by
  rcases h with ⟨rfl, h⟩ | ⟨h0, h1, h2⟩ <;> rcases h' with ⟨rfl, h'⟩ | ⟨h0', h1', h2'⟩
  · rfl
  · exact absurd h1' (h _ h0')
  · exact absurd h1 (h' _ h0)
  · rcases Nat.lt_trichotomy d d' with hl | hl | hl
    · exact absurd h1 (h2' _ h0 hl)
    · exact hl
    · exact absurd h1' (h2 _ h0' hl)
theorem isDist_le {l : List IE} {N : Nat} (hE : ∀ a b, E l a b → a < N ∧ b < N) {a b d : Nat} (h : isDist l a b d) : d ≤ N := by
  rcases h with ⟨rfl, _⟩ | ⟨h0, ⟨p, hp, h1⟩, h2⟩
  · omega
  · obtain ⟨q, g1, g2, g3, g4⟩ := isWay_short hE (by intro e; simp [e] at hp; omega) h1
    apply Classical.byContradiction
    intro hn
    exact h2 q.length (List.length_pos_iff.2 g2) (by omega) ⟨q, rfl, g1⟩
/-! Ways whose inner numbers are below k. -/
inductive Wk (l : List IE) (k : Nat) : Nat → Nat → Nat → Prop
  | edge {a b : Nat} (h : E l a b) : Wk l k 1 a b
  | join {m n a b c : Nat} (h : Wk l k m a c) (h' : Wk l k n c b) (hc : c < k) : Wk l k (m + n) a b
theorem Wk.pos {l : List IE} {k m a b : Nat} (h : Wk l k m a b) : 0 < m := by
  induction h with
  | edge _ => omega
  | join _ _ _ _ _ => omega
theorem Wk.up {l : List IE} {k m a b : Nat} (h : Wk l k m a b) : Wk l (k + 1) m a b := by
  induction h with
  | edge h => exact .edge h
  | join _ _ hc ih ih' => exact .join ih ih' (by omega)
theorem Wk.way {l : List IE} {k m a b : Nat} (h : Wk l k m a b) : Way l m a b := by
  induction h with
  | edge h => exact Way.one.2 h
  | join _ _ _ ih ih' => exact Way.join ih ih'
theorem Wk.zero {l : List IE} {m a b : Nat} (h : Wk l 0 m a b) : m = 1 ∧ E l a b := by
  cases h with
  | edge h => exact ⟨rfl, h⟩
  | join _ _ hc => omega
theorem Wk.of {l : List IE} {N : Nat} (hE : ∀ a b, E l a b → a < N ∧ b < N) {p : List Nat} {a b : Nat} (hp : p ≠ []) (h : isWay l a p b) : Wk l N p.length a b := by
  induction p generalizing a with
  | nil => exact absurd rfl hp
  | cons v p ih =>
    by_cases hq : p = []
    · subst hq
      obtain ⟨h1, rfl⟩ := h
      exact .edge h1
    · have h2 := ih hq h.2
      have h3 := Wk.join (.edge h.1) h2 (hE _ _ h.1).2
      rw [List.length_cons, Nat.add_comm]
      exact h3
theorem Wk.down {l : List IE} {k m a b : Nat} (h : Wk l (k + 1) m a b) : (∃ m', m' ≤ m ∧ Wk l k m' a b) ∨ ∃ m1 m2, m1 + m2 ≤ m ∧ Wk l k m1 a k ∧ Wk l k m2 k b := by
  induction h with
  | edge h => exact .inl ⟨1, Nat.le_refl _, .edge h⟩
  | @join m n a b c h h' hc ih ih' =>
    by_cases hck : c < k
    · rcases ih with ⟨p, hp, h1⟩ | ⟨p, q, hpq, h1, h2⟩
      · rcases ih' with ⟨p', hp', h1'⟩ | ⟨p', q', hpq', h1', h2'⟩
        · exact .inl ⟨p + p', by omega, .join h1 h1' hck⟩
        · exact .inr ⟨p + p', q', by omega, .join h1 h1' hck, h2'⟩
      · rcases ih' with ⟨p', hp', h1'⟩ | ⟨p', q', hpq', h1', h2'⟩
        · exact .inr ⟨p, q + p', by omega, h1, .join h2 h1' hck⟩
        · exact .inr ⟨p, q', by omega, h1, h2'⟩
    · obtain rfl : c = k := by omega
      obtain ⟨p, hp, h1⟩ : ∃ p, p ≤ m ∧ Wk l c p a c := by
        rcases ih with ⟨p, hp, h1⟩ | ⟨p, q, hpq, h1, _⟩
        · exact ⟨p, hp, h1⟩
        · exact ⟨p, by omega, h1⟩
      obtain ⟨q, hq, h2⟩ : ∃ q, q ≤ n ∧ Wk l c q c b := by
        rcases ih' with ⟨p, hp, h1⟩ | ⟨p, q, hpq, _, h1⟩
        · exact ⟨p, hp, h1⟩
        · exact ⟨q, by omega, h1⟩
      exact .inr ⟨p, q, by omega, h1, h2⟩
/-! The table. -/
theorem dGet_dSet {M : List Int} (hM : M.length = 256) {a b : Nat} (ha : a < 16) (hb : b < 16) (v : Int) {a' b' : Nat} (ha' : a' < 16) (hb' : b' < 16) :
    dGet (dSet M a b v) a' b' = if a' = a ∧ b' = b then v else dGet M a' b' := by
  unfold dGet dSet
  rw [getD_lt _ _ (by rw [List.length_set]; omega), getD_lt _ _ (by omega), List.getElem_set]
  by_cases h : a' = a ∧ b' = b
  · rw [if_pos h, if_pos (by obtain ⟨rfl, rfl⟩ := h; rfl)]
  · rw [if_neg h, if_neg (by omega)]
theorem dInitB_get {M : List Int} (hM : M.length = 256) {a : Nat} (ha : a < 16) {N : Nat} (hN : N ≤ 16) {a' b' : Nat} (ha' : a' < 16) (hb' : b' < 16) : dGet (dInitB a M N) a' b' = if a' = a ∧ b' < N then -1 else dGet M a' b' := by
  induction N with
  | zero => simp [dInitB]
  | succ N ih =>
    have e : dInitB a M (N + 1) = dSet (dInitB a M N) a N (-1) := by simp [dInitB, List.range_succ, List.foldl_append]
    rw [e, dGet_dSet (by rw [dInitB_len]; exact hM) ha (by omega) _ ha' hb', ih (by omega)]
    by_cases h : a' = a ∧ b' = N
    · rw [if_pos h, if_pos (by omega)]
    · rw [if_neg h]
      by_cases h2 : a' = a ∧ b' < N
      · rw [if_pos h2, if_pos (by omega)]
      · rw [if_neg h2, if_neg (by omega)]
theorem dInit_get {N : Nat} (hN : N ≤ 16) {m : Nat} (hm : m ≤ N) {M : List Int} (hM : M.length = 256) {a' b' : Nat} (ha' : a' < 16) (hb' : b' < 16) : dGet (dInit N m M) a' b' = if a' < m ∧ b' < N then -1 else dGet M a' b' := by
  induction m with
  | zero => simp [dInit]
  | succ m ih =>
    have e : dInit N (m + 1) M = dInitB m (dInit N m M) N := by simp [dInit, List.range_succ, List.foldl_append]
    rw [e, dInitB_get (by rw [dInit_len]; exact hM) (by omega) hN ha' hb', ih (by omega)]
    by_cases h : a' = m ∧ b' < N
    · rw [if_pos h, if_pos (by omega)]
    · rw [if_neg h]
      by_cases h2 : a' < m ∧ b' < N
      · rw [if_pos h2, if_pos (by omega)]
      · rw [if_neg h2, if_neg (by omega)]
theorem dEdges_get {l : List IE} {M : List Int} (hM : M.length = 256) (hl : ∀ e ∈ l, (0 ≤ e.f0 ∧ e.f0 < 16) ∧ 0 ≤ e.f1 ∧ e.f1 < 16) {a b : Nat} (ha : a < 16) (hb : b < 16) :
    (E l a b ∧ dGet (dEdges l M) a b = 1) ∨ (¬ E l a b ∧ dGet (dEdges l M) a b = dGet M a b) := by
  have key : ∀ (l : List IE) (M : List Int), M.length = 256 → (∀ e ∈ l, (0 ≤ e.f0 ∧ e.f0 < 16) ∧ 0 ≤ e.f1 ∧ e.f1 < 16) → dGet (dEdges l M) a b = if E l a b then 1 else dGet M a b := by
    intro l
    induction l with
    | nil => intro M _ _; rw [if_neg (by rintro ⟨e, he, _⟩; simp at he)]; rfl
    | cons e l ih =>
      intro M hM hl
      have h1 := hl e (by simp)
      have e1 : dEdges (e :: l) M = dEdges l (dSet M e.f0.toNat e.f1.toNat 1) := rfl
      rw [e1, ih _ (by rw [dSet_len]; exact hM) (fun x hx => hl x (by simp [hx])), dGet_dSet hM (by omega) (by omega) _ ha hb]
      by_cases h2 : E l a b
      · rw [if_pos h2, if_pos (by obtain ⟨x, hx, h⟩ := h2; exact ⟨x, by simp [hx], h⟩)]
      · rw [if_neg h2]
        by_cases h3 : a = e.f0.toNat ∧ b = e.f1.toNat
        · rw [if_pos h3, if_pos ⟨e, by simp, by omega, by omega⟩]
        · rw [if_neg h3, if_neg]
          rintro ⟨x, hx, hx1, hx2⟩
          rcases List.mem_cons.1 hx with rfl | hx
          · omega
          · exact h2 ⟨x, hx, hx1, hx2⟩
  have h := key l M hM hl
  by_cases h2 : E l a b
  · left; rw [if_pos h2] at h; exact ⟨h2, h⟩
  · right; rw [if_neg h2] at h; exact ⟨h2, h⟩
/-- What a round over k makes of an entry. -/
def upd (D : Nat → Nat → Int) (k a b : Nat) : Int :=
  if D a k < 0 ∨ D k b < 0 then D a b else if D a b < 0 ∨ D a k + D k b < D a b then D a k + D k b else D a b
def goodD (D : Nat → Nat → Int) (B : Int) : Prop := ∀ a b, a < 16 → b < 16 → (D a b = -1 ∨ 0 ≤ D a b) ∧ D a b ≤ B
theorem upd_col {D : Nat → Nat → Int} {B : Int} (h : goodD D B) {k a : Nat} (hk : k < 16) (ha : a < 16) : upd D k a k = D a k := by
  unfold upd
  have h1 := h k k hk hk
  by_cases c : D a k < 0 ∨ D k k < 0
  · rw [if_pos c]
  · rw [if_neg c, if_neg (by omega)]
theorem upd_row {D : Nat → Nat → Int} {B : Int} (h : goodD D B) {k b : Nat} (hk : k < 16) (hb : b < 16) : upd D k k b = D k b := by
  unfold upd
  have h1 := h k k hk hk
  by_cases c : D k k < 0 ∨ D k b < 0
  · rw [if_pos c]
  · rw [if_neg c, if_neg (by omega)]
theorem dStep_get {M : List Int} (hM : M.length = 256) {k i j : Nat} (hk : k < 16) (hi : i < 16) (hj : j < 16) {B : Int} (hB : B ≤ 1000000) (hg : goodD (dGet M) B) {a b : Nat} (ha : a < 16) (hb : b < 16) :
    dGet (dStep k i j M) a b = if a = i ∧ b = j then upd (dGet M) k i j else dGet M a b := by
  have g1 := hg i k hi hk
  have g2 := hg k j hk hj
  have hw : wrap64 (dGet M i k + dGet M k j) = dGet M i k + dGet M k j := w64 (by omega) (by omega)
  unfold dStep upd
  rw [hw]
  by_cases c : dGet M i k < 0 ∨ dGet M k j < 0
  · rw [if_pos c, if_pos c]
    split
    · rename_i h; rw [h.1, h.2]
    · rfl
  · rw [if_neg c, if_neg c]
    by_cases c2 : dGet M i j < 0 ∨ dGet M i k + dGet M k j < dGet M i j
    · rw [if_pos c2, if_pos c2, dGet_dSet hM hi hj _ ha hb]
    · rw [if_neg c2, if_neg c2]
      split
      · rename_i h; rw [h.1, h.2]
      · rfl
theorem upd_good {D : Nat → Nat → Int} {B : Int} (h : goodD D B) {k : Nat} (hk : k < 16) {a b : Nat} (ha : a < 16) (hb : b < 16) : (upd D k a b = -1 ∨ 0 ≤ upd D k a b) ∧ upd D k a b ≤ 2 * B + 2 := by
  have h1 := h a k ha hk
  have h2 := h k b hk hb
  have h3 := h a b ha hb
  unfold upd
  split
  · omega
  · split <;> omega
/-- An entry is as round k makes it, where the row is below i (the column below N), or it is row i and the column below j. -/
def midD (D : Nat → Nat → Int) (k N i j : Nat) (a b : Nat) : Int := if (a < i ∧ b < N) ∨ (a = i ∧ b < j) then upd D k a b else D a b
theorem midD_good {D : Nat → Nat → Int} {B : Int} (h : goodD D B) (hB : 0 ≤ B) {k : Nat} (hk : k < 16) (N i j : Nat) : goodD (midD D k N i j) (2 * B + 2) := by
  intro a b ha hb
  have h1 := upd_good h hk ha hb
  have h2 := h a b ha hb
  unfold midD
  split <;> omega
theorem midD_col {D : Nat → Nat → Int} {B : Int} (h : goodD D B) {k a : Nat} (hk : k < 16) (ha : a < 16) (N i j : Nat) : midD D k N i j a k = D a k := by
  unfold midD
  split
  · exact upd_col h hk ha
  · rfl
theorem midD_row {D : Nat → Nat → Int} {B : Int} (h : goodD D B) {k b : Nat} (hk : k < 16) (hb : b < 16) (N i j : Nat) : midD D k N i j k b = D k b := by
  unfold midD
  split
  · exact upd_row h hk hb
  · rfl
theorem goodD_congr {D D' : Nat → Nat → Int} {B : Int} (h : goodD D B) (he : ∀ a b, a < 16 → b < 16 → D' a b = D a b) : goodD D' B := fun a b ha hb => by rw [he a b ha hb]; exact h a b ha hb
theorem dRunB_get {D : Nat → Nat → Int} {B : Int} (hg : goodD D B) (hB0 : 0 ≤ B) (hB : B ≤ 400000) {k N i : Nat} (hk : k < 16) (hi : i < 16) (hN : N ≤ 16) {M : List Int} (hM : M.length = 256)
    (h : ∀ a b, a < 16 → b < 16 → dGet M a b = midD D k N i 0 a b) {m : Nat} (hm : m ≤ N) : ∀ a b, a < 16 → b < 16 → dGet (dRunB k i m M) a b = midD D k N i m a b := by
  induction m with
  | zero => exact h
  | succ m ih =>
    intro a b ha hb
    have ih := ih (by omega)
    have e : dRunB k i (m + 1) M = dStep k i m (dRunB k i m M) := by simp [dRunB, List.range_succ, List.foldl_append]
    have hgm := goodD_congr (midD_good hg hB0 hk N i m) ih
    rw [e, dStep_get (by rw [dRunB_len]; exact hM) hk hi (by omega) (B := 2 * B + 2) (by omega) hgm ha hb]
    have hu : upd (dGet (dRunB k i m M)) k i m = upd D k i m := by
      unfold upd
      rw [ih i k hi hk, ih k m hk (by omega), ih i m hi (by omega), midD_col hg hk hi, midD_row hg hk (by omega)]
      have : midD D k N i m i m = D i m := by unfold midD; rw [if_neg (by omega)]
      rw [this]
    rw [hu, ih a b ha hb]
    unfold midD
    by_cases c : a = i ∧ b = m
    · rw [if_pos c, if_pos (by omega), c.1, c.2]
    · rw [if_neg c]
      by_cases c2 : (a < i ∧ b < N) ∨ (a = i ∧ b < m)
      · rw [if_pos c2, if_pos (by omega)]
      · rw [if_neg c2, if_neg (by omega)]
theorem dRunA_get {D : Nat → Nat → Int} {B : Int} (hg : goodD D B) (hB0 : 0 ≤ B) (hB : B ≤ 400000) {k N : Nat} (hk : k < 16) (hN : N ≤ 16) {M : List Int} (hM : M.length = 256)
    (h : ∀ a b, a < 16 → b < 16 → dGet M a b = D a b) {m : Nat} (hm : m ≤ N) : ∀ a b, a < 16 → b < 16 → dGet (dRunA N k m M) a b = midD D k N m 0 a b := by
  induction m with
  | zero =>
    intro a b ha hb
    unfold midD
    rw [if_neg (by omega)]
    exact h a b ha hb
  | succ m ih =>
    intro a b ha hb
    have e : dRunA N k (m + 1) M = dRunB k m N (dRunA N k m M) := by simp [dRunA, List.range_succ, List.foldl_append]
    rw [e, dRunB_get hg hB0 hB hk (by omega) hN (by rw [dRunA_len]; exact hM) (ih (by omega)) (Nat.le_refl _) a b ha hb]
    unfold midD
    by_cases c : (a < m ∧ b < N) ∨ (a = m ∧ b < N)
    · rw [if_pos c, if_pos (by omega)]
    · rw [if_neg c, if_neg (by omega)]
/-- What the table tells behind the round k. -/
def tellsK (l : List IE) (k N : Nat) (D : Nat → Nat → Int) : Prop := ∀ a b, a < N → b < N → (D a b = -1 ∧ ∀ m, ¬ Wk l k m a b) ∨ (0 < D a b ∧ Wk l k (D a b).toNat a b ∧ ∀ m, Wk l k m a b → D a b ≤ m)
theorem tells_step {l : List IE} {k N : Nat} {D D' : Nat → Nat → Int} (hk : k < N) (h : tellsK l k N D) (he : ∀ a b, a < N → b < N → D' a b = upd D k a b) : tellsK l (k + 1) N D' := by
  intro a b ha hb
  rw [he a b ha hb]
  have hab := h a b ha hb
  have hak := h a k ha hk
  have hkb := h k b hk hb
  unfold upd
  by_cases c : D a k < 0 ∨ D k b < 0
  · rw [if_pos c]
    have no : ∀ m1 m2, ¬ (Wk l k m1 a k ∧ Wk l k m2 k b) := by
      rintro m1 m2 ⟨h1, h2⟩
      rcases c with c | c
      · rcases hak with ⟨_, hn⟩ | ⟨h0, _⟩
        · exact hn _ h1
        · omega
      · rcases hkb with ⟨_, hn⟩ | ⟨h0, _⟩
        · exact hn _ h2
        · omega
    rcases hab with ⟨e, hn⟩ | ⟨h0, h1, h2⟩
    · left
      refine ⟨e, fun m hm => ?_⟩
      rcases hm.down with ⟨m', _, h'⟩ | ⟨m1, m2, _, g1, g2⟩
      · exact hn _ h'
      · exact no _ _ ⟨g1, g2⟩
    · right
      refine ⟨h0, h1.up, fun m hm => ?_⟩
      rcases hm.down with ⟨m', hle, h'⟩ | ⟨m1, m2, _, g1, g2⟩
      · have := h2 _ h'; omega
      · exact absurd ⟨g1, g2⟩ (no _ _)
  · rw [if_neg c]
    rcases hak with ⟨e, _⟩ | ⟨k0, k1, k2⟩
    · omega
    rcases hkb with ⟨e, _⟩ | ⟨q0, q1, q2⟩
    · omega
    have hw : Wk l (k + 1) (D a k + D k b).toNat a b := by
      rw [show (D a k + D k b).toNat = (D a k).toNat + (D k b).toNat by omega]
      exact .join k1.up q1.up (by omega)
    have lower : ∀ m1 m2, Wk l k m1 a k → Wk l k m2 k b → D a k + D k b ≤ ((m1 + m2 : Nat) : Int) := fun m1 m2 g1 g2 => by
      have := k2 _ g1
      have := q2 _ g2
      omega
    by_cases c2 : D a b < 0 ∨ D a k + D k b < D a b
    · rw [if_pos c2]
      right
      refine ⟨by omega, hw, fun m hm => ?_⟩
      rcases hm.down with ⟨m', hle, h'⟩ | ⟨m1, m2, hle, g1, g2⟩
      · rcases hab with ⟨_, hn⟩ | ⟨h0, h1, h2⟩
        · exact absurd h' (hn _)
        · have := h2 _ h'; omega
      · have := lower _ _ g1 g2; omega
    · rw [if_neg c2]
      rcases hab with ⟨e, _⟩ | ⟨h0, h1, h2⟩
      · omega
      · right
        refine ⟨h0, h1.up, fun m hm => ?_⟩
        rcases hm.down with ⟨m', hle, h'⟩ | ⟨m1, m2, hle, g1, g2⟩
        · have := h2 _ h'; omega
        · have := lower _ _ g1 g2; omega
theorem dRun_tells {l : List IE} {N : Nat} (hN : N ≤ 16) {M : List Int} (hM : M.length = 256) (hg : goodD (dGet M) 1) (h0 : tellsK l 0 N (dGet M)) {m : Nat} (hm : m ≤ N) :
    goodD (dGet (dRun N m M)) (3 * 2 ^ m) ∧ tellsK l m N (dGet (dRun N m M)) := by
  induction m with
  | zero => exact ⟨fun a b ha hb => by have := hg a b ha hb; simp [dRun]; omega, h0⟩
  | succ m ih =>
    obtain ⟨g, t⟩ := ih (by omega)
    have e : dRun N (m + 1) M = dRunA N m N (dRun N m M) := by simp [dRun, List.range_succ, List.foldl_append]
    have hp : (2 : Int) ^ m ≤ 32768 := by
      have h1 : (2 : Nat) ^ m ≤ 2 ^ 15 := Nat.pow_le_pow_right (by omega) (by omega)
      have h2 : ((2 ^ m : Nat) : Int) ≤ ((2 ^ 15 : Nat) : Int) := Int.ofNat_le.2 h1
      simpa using h2
    have hp0 : (1 : Int) ≤ 2 ^ m := by
      have h1 : 0 < (2 : Nat) ^ m := Nat.two_pow_pos m
      have h2 : ((1 : Nat) : Int) ≤ ((2 ^ m : Nat) : Int) := Int.ofNat_le.2 h1
      simpa using h2
    have he := dRunA_get (D := dGet (dRun N m M)) g (by omega) (by omega) (k := m) (by omega) hN (by rw [dRun_len]; exact hM) (fun _ _ _ _ => rfl) (Nat.le_refl N)
    rw [e]
    constructor
    · intro a b ha hb
      rw [he a b ha hb]
      have h1 := midD_good g (by omega) (k := m) (by omega) N N 0 a b ha hb
      rw [Int.pow_succ]
      have h2 := upd_good g (k := m) (by omega) ha hb
      have h3 := g a b ha hb
      have hk1 := g a m ha (by omega)
      have hk2 := g m b (by omega) hb
      unfold midD upd at h1 ⊢
      repeat' split
      all_goals omega
    · refine tells_step (by omega) t (fun a b ha hb => ?_)
      rw [he a b (by omega) (by omega)]
      unfold midD
      rw [if_pos (by omega)]
/-- The program's table of a graph. -/
theorem dist_tells {n : Int} {l : List IE} (hg : graphOk n l = true) : ∃ M, impl_dist.f n l = some M ∧ M.length = 256 ∧
    ∀ a b : Nat, (a : Int) < n → (b : Int) < n → ∃ d : Nat, isDist l a b d ∧ dGet M a b = if d = 0 then -1 else (d : Int) := by
  obtain ⟨hn, hl, he⟩ := (graphOk_iff n l).1 hg
  have hok : ∀ e ∈ l, (0 ≤ e.f0 ∧ e.f0 < 16) ∧ 0 ≤ e.f1 ∧ e.f1 < 16 := fun e hel => by have := he e hel; omega
  have hE : ∀ a b, E l a b → a < n.toNat ∧ b < n.toNat := by
    rintro a b ⟨e, hel, h1, h2⟩
    have := he e hel
    omega
  refine ⟨dRun n.toNat n.toNat (dEdges l (dInit n.toNat n.toNat dZero)), ?_, ?_, ?_⟩
  · unfold impl_dist.f
    rw [if_pos hn, if_pos]
    rw [List.all_eq_true]
    intro e hel
    exact decide_eq_true (hok e hel)
  · rw [dRun_len, dEdges_len, dInit_len]
    simp only [dZero, List.length_replicate]
  · intro a b ha hb
    have hZ : dZero.length = 256 := by simp only [dZero, List.length_replicate]
    have hI : (dInit n.toNat n.toNat dZero).length = 256 := by rw [dInit_len]; exact hZ
    have hMl : (dEdges l (dInit n.toNat n.toNat dZero)).length = 256 := by rw [dEdges_len]; exact hI
    have zero : ∀ a b, a < 16 → b < 16 → dGet dZero a b = 0 := fun a b ha hb => by
      unfold dGet
      rw [getD_lt _ _ (by rw [hZ]; omega)]
      simp only [dZero, List.getElem_replicate]
    have h1 : goodD (dGet (dEdges l (dInit n.toNat n.toNat dZero))) 1 := by
      intro a b ha hb
      have h2 := dInit_get (N := n.toNat) (m := n.toNat) (by omega) (Nat.le_refl _) hZ ha hb
      rw [zero a b ha hb] at h2
      rcases dEdges_get hI hok ha hb with ⟨_, e⟩ | ⟨_, e⟩
      · rw [e]; omega
      · rw [e, h2]; split <;> omega
    have h3 : tellsK l 0 n.toNat (dGet (dEdges l (dInit n.toNat n.toNat dZero))) := by
      intro a b ha hb
      have h2 := dInit_get (N := n.toNat) (m := n.toNat) (by omega) (Nat.le_refl _) hZ (a' := a) (b' := b) (by omega) (by omega)
      rw [if_pos ⟨ha, hb⟩] at h2
      rcases dEdges_get hI hok (a := a) (b := b) (by omega) (by omega) with ⟨hee, e⟩ | ⟨hee, e⟩
      · right
        rw [e]
        refine ⟨by omega, .edge hee, fun m hm => ?_⟩
        have := hm.pos
        omega
      · left
        rw [e, h2]
        exact ⟨rfl, fun m hm => hee hm.zero.2⟩
    obtain ⟨_, ht⟩ := dRun_tells (by omega) hMl h1 h3 (Nat.le_refl n.toNat)
    rcases ht a b (by omega) (by omega) with ⟨e, hn2⟩ | ⟨h0, hw, hmin⟩
    · refine ⟨0, .inl ⟨rfl, ?_⟩, by rw [e]; rfl⟩
      rintro m hm ⟨p, hp, h⟩
      exact hn2 _ (Wk.of hE (by intro e; simp [e] at hp; omega) h)
    · refine ⟨_, .inr ⟨?_, hw.way, ?_⟩, ?_⟩
      · omega
      · rintro m hm0 hm ⟨p, hp, h⟩
        have := hmin _ (Wk.of hE (by intro e; simp [e] at hp; omega) h)
        omega
      · rw [if_neg (by omega)]
        omega
/-! The reference's rounds. -/
def stepB (N : Nat) (l : List IE) (f : List Bool) : List Bool := (List.range N).map fun v : Nat => l.any fun e => decide (e.f1 = (v : Int)) && rdOf false f e.f0
/-- Where m steps lead from a. -/
theorem rd_boolmap {N : Nat} (p : Nat → Bool) {x : Int} (h0 : 0 ≤ x) (h1 : x < (N : Int)) : rdOf false ((List.range N).map p) x = p x.toNat := by
  obtain ⟨y, rfl⟩ : ∃ y : Nat, x = (y : Int) := ⟨x.toNat, by omega⟩
  rw [rdOf_lt _ _ (by simp; omega)]
  simp
noncomputable def wayB (l : List IE) (m a v : Nat) : Bool := @decide (Way l m a v) (Classical.propDecidable _)
theorem wayB_iff {l : List IE} {m a v : Nat} : wayB l m a v = true ↔ Way l m a v := by
  unfold wayB
  exact @decide_eq_true_iff _ (Classical.propDecidable _)
noncomputable def nextV (l : List IE) (a m : Nat) (es : List IE) (v : Nat) : Bool := @decide (∃ e ∈ es, e.f1 = (v : Int) ∧ Way l m a e.f0.toNat) (Classical.propDecidable _)
theorem nextV_iff {l : List IE} {a m : Nat} {es : List IE} {v : Nat} : nextV l a m es v = true ↔ ∃ e ∈ es, e.f1 = (v : Int) ∧ Way l m a e.f0.toNat := by
  unfold nextV
  exact @decide_eq_true_iff _ (Classical.propDecidable _)
noncomputable def atB (N : Nat) (l : List IE) (a m : Nat) : List Bool := (List.range N).map (wayB l m a)
theorem atB_len (N : Nat) (l : List IE) (a m : Nat) : (atB N l a m).length = N := by simp [atB]
theorem atB_get {N : Nat} {l : List IE} {a m : Nat} {x : Int} (h0 : 0 ≤ x) (h1 : x < (N : Int)) : rdOf false (atB N l a m) x = true ↔ Way l m a x.toNat := by
  unfold atB
  rw [rd_boolmap _ h0 h1]
  exact wayB_iff
noncomputable def nextB (N : Nat) (l : List IE) (a m : Nat) (es : List IE) : List Bool := (List.range N).map (nextV l a m es)
theorem nextB_len (N : Nat) (l : List IE) (a m : Nat) (es : List IE) : (nextB N l a m es).length = N := by simp [nextB]
theorem nextB_all {N : Nat} {l : List IE} {a m : Nat} (hl : ∀ e ∈ l, 0 ≤ e.f0) : nextB N l a m l = atB N l a (m + 1) := by
  unfold nextB atB
  congr 1
  funext v
  rw [Bool.eq_iff_iff, nextV_iff, wayB_iff, Way.snoc]
  constructor
  · rintro ⟨e, he, h1, h2⟩
    exact ⟨e.f0.toNat, h2, e, he, by have := hl e he; omega, h1⟩
  · rintro ⟨c, h2, e, he, h3, h1⟩
    exact ⟨e, he, h1, by rw [h3, Int.toNat_natCast]; exact h2⟩
theorem l14Way_ev {n : Int} {l : List IE} (hg : graphOk n l = true) {a b : Nat} (ha : (a : Int) < n) (hb : (b : Int) < n) : ∃ d : Nat, isDist l a b d ∧ Ev (fun k => spec_l14Way.f k n l (a : Int) (b : Int)) (d : Int) := by
  obtain ⟨hn, hlen, he⟩ := (graphOk_iff n l).1 hg
  have hE : ∀ a b, E l a b → a < n.toNat ∧ b < n.toNat := by
    rintro a b ⟨e, hel, h1, h2⟩
    have := he e hel
    omega
  obtain ⟨N, rfl⟩ : ∃ N : Nat, n = (N : Int) := ⟨n.toNat, by omega⟩
  rw [Int.toNat_natCast] at hE
  -- from a number of steps on
  have key : ∀ (q m : Nat), m + q = N → (∀ j, 0 < j → j ≤ m → ¬ Way l j a b) → ∃ d : Nat, isDist l a b d ∧ Ev (fun k => spec_l14Way.l0 k (N : Int) l (b : Int) (atB N l a m) ((m + 1 : Nat) : Int)) (d : Int) := by
    intro q
    induction q with
    | zero =>
      intro m hm hno
      refine ⟨0, .inl ⟨rfl, ?_⟩, Ev.succ (fun k => ?_)⟩
      · rintro j hj ⟨p, hp, h⟩
        obtain ⟨q, g1, g2, g3, g4⟩ := isWay_short hE (by intro e; simp [e] at hp; omega) h
        exact hno q.length (List.length_pos_iff.2 g2) (by omega) ⟨q, rfl, g1⟩
      · simp only [spec_l14Way.l0]
        rw [if_neg (by omega)]
        rfl
    | succ q ih =>
      intro m hm hno
      -- the edges
      have inner : ∀ (t i : Nat) (r : Int), i + t = l.length → Ev (fun k => spec_l14Way.l1 k (N : Int) l (b : Int) (atB N l a m) ((m + 1 : Nat) : Int) (nextB N l a m l) (l.length : Int)) r →
          Ev (fun k => spec_l14Way.l1 k (N : Int) l (b : Int) (atB N l a m) ((m + 1 : Nat) : Int) (nextB N l a m (l.take i)) (i : Int)) r := by
        intro t
        induction t with
        | zero =>
          intro i r hi hr
          obtain rfl : i = l.length := by omega
          rw [List.take_length]
          exact hr
        | succ t iht =>
          intro i r hi hr
          have h : i < l.length := by omega
          have h1 := he l[i] (List.getElem_mem h)
          have hn2 := iht (i + 1) r (by omega) hr
          refine Ev.step (fun k => ?_) hn2
          simp only [spec_l14Way.l1]
          rw [if_pos (by omega), if_pos (by omega), rd_IE h, if_pos (by omega), atB_len, if_pos (by omega), w64_succ h (by omega)]
          have ts : l.take (i + 1) = l.take i ++ [l[i]] := List.take_succ_eq_append_getElem h
          by_cases hc : rdOf false (atB N l a m) l[i].f0 = true
          · rw [if_pos hc, if_pos (by omega), nextB_len, if_pos (by omega)]
            congr 1
            rw [ts]
            apply List.ext_getElem
            · simp [nextB]
            · intro v h2 h3
              simp only [nextB, List.length_set, List.length_map, List.length_range] at h2
              rw [List.getElem_set]
              simp only [nextB, List.getElem_map, List.getElem_range]
              have hw := (atB_get (by omega) (by omega)).1 hc
              by_cases hv : l[i].f1.toNat = v
              · rw [if_pos hv]
                exact (nextV_iff.2 ⟨l[i], List.mem_append_right _ (List.mem_singleton.2 rfl), by omega, hw⟩).symm
              · rw [if_neg hv, Bool.eq_iff_iff, nextV_iff, nextV_iff]
                constructor
                · rintro ⟨e, hel, g1, g2⟩; exact ⟨e, List.mem_append_left _ hel, g1, g2⟩
                · rintro ⟨e, hel, g1, g2⟩
                  rcases List.mem_append.1 hel with hel | hel
                  · exact ⟨e, hel, g1, g2⟩
                  · rw [List.mem_singleton.1 hel] at g1
                    omega
          · rw [if_neg hc]
            congr 1
            rw [ts]
            unfold nextB
            congr 1
            funext v
            rw [Bool.eq_iff_iff, nextV_iff, nextV_iff]
            constructor
            · rintro ⟨e, hel, g1, g2⟩; exact ⟨e, List.mem_append_left _ hel, g1, g2⟩
            · rintro ⟨e, hel, g1, g2⟩
              rcases List.mem_append.1 hel with hel | hel
              · exact ⟨e, hel, g1, g2⟩
              · rw [List.mem_singleton.1 hel] at g2
                exact absurd ((atB_get (by omega) (by omega)).2 g2) hc
      have e0 : List.replicate N false = nextB N l a m (l.take 0) := by
        apply List.ext_getElem
        · simp [nextB]
        · intro j h1 h2
          simp only [nextB, List.getElem_replicate, List.getElem_map, List.take_zero]
          symm
          rw [Bool.eq_false_iff]
          intro h
          obtain ⟨e, he, _⟩ := nextV_iff.1 h
          simp at he
      have close : ∀ r : Int, Ev (fun k => spec_l14Way.l1 k (N : Int) l (b : Int) (atB N l a m) ((m + 1 : Nat) : Int) (nextB N l a m l) (l.length : Int)) r → Ev (fun k => spec_l14Way.l0 k (N : Int) l (b : Int) (atB N l a m) ((m + 1 : Nat) : Int)) r := by
        intro r hr
        have h := inner l.length 0 r (by omega) hr
        rw [← e0] at h
        refine Ev.step (fun k => ?_) h
        simp only [spec_l14Way.l0]
        rw [if_pos (by omega), if_pos (by omega), if_pos (by omega), Int.toNat_natCast]
        rfl
      rw [nextB_all (fun e hel => (he e hel).1.1)] at close
      by_cases hw : Way l (m + 1) a b
      · refine ⟨m + 1, .inr ⟨by omega, hw, fun j hj hlt => hno j hj (by omega)⟩, close _ (Ev.succ (fun k => ?_))⟩
        simp only [spec_l14Way.l1]
        rw [if_neg (by omega), if_pos (by omega), atB_len, if_pos (by omega), if_pos ((atB_get (by omega) (by omega)).2 (by rw [Int.toNat_natCast]; exact hw))]
      · obtain ⟨d, hd, hev⟩ := ih (m + 1) (by omega) (fun j hj hle => by
          by_cases e : j = m + 1
          · rw [e]; exact hw
          · exact hno j hj (by omega))
        refine ⟨d, hd, close _ (Ev.step (fun k => ?_) hev)⟩
        simp only [spec_l14Way.l1]
        rw [if_neg (by omega), if_pos (by omega), atB_len, if_pos (by omega), if_neg (by
          intro hc
          have := (atB_get (by omega) (by omega)).1 hc
          rw [Int.toNat_natCast] at this
          exact hw this), w64_nat _ (by omega)]
  obtain ⟨d, hd, hev⟩ := key N 0 (by omega) (fun j hj hle => by omega)
  refine ⟨d, hd, ?_⟩
  unfold spec_l14Way.f
  refine Ev.congr (fun k => if_pos (by omega)) (Ev.congr (fun k => if_pos (by omega)) ?_)
  simp only [Option.bind_some]
  refine Ev.congr (fun k => if_pos (by omega)) (Ev.congr (fun k => if_pos (by rw [List.length_replicate]; omega)) ?_)
  have e : (List.replicate N false).set a true = atB N l a 0 := by
    apply List.ext_getElem
    · simp [atB]
    · intro j h1 h2
      rw [List.getElem_set]
      simp only [atB, List.getElem_map, List.getElem_range, List.getElem_replicate]
      by_cases h : a = j
      · rw [if_pos h]
        exact (wayB_iff.2 ⟨[], rfl, h⟩).symm
      · rw [if_neg h]
        symm
        rw [Bool.eq_false_iff]
        intro hc
        obtain ⟨p, hp, hw⟩ := wayB_iff.1 hc
        rw [List.length_eq_zero_iff.1 hp] at hw
        exact h hw
  rw [Int.toNat_natCast, Int.toNat_natCast, e]
  exact hev

def aheadP (n : Int) (l : List IE) (a b : Int) : Prop := graphOk n l = true ∧ (0 ≤ a ∧ a ≤ n - 1) ∧ (0 ≤ b ∧ b ≤ n - 1) ∧ ∃ m, 0 < m ∧ Way l m a.toNat b.toNat
theorem isDist_pos {l : List IE} {a b d : Nat} (h : isDist l a b d) : 0 < d ↔ ∃ m, 0 < m ∧ Way l m a b := by
  rcases h with ⟨rfl, h⟩ | ⟨h0, h1, _⟩
  · constructor
    · omega
    · rintro ⟨m, hm, hw⟩; exact absurd hw (h m hm)
  · exact ⟨fun _ => ⟨d, h0, h1⟩, fun _ => h0⟩
theorem impl_Ahead_ev (n : Int) (l : List IE) (a b : Int) : ∃ r, Ev (fun k => impl_Ahead.f k n l a b) r ∧ (r = true ↔ aheadP n l a b) := by
  unfold impl_Ahead.f aheadP
  cases hg : graphOk n l with
  | false => exact ⟨false, Ev.bind (impl_GraphOk_ev n l) (by rw [hg]; exact Ev.of_eq fun k => rfl), by simp⟩
  | true =>
    obtain ⟨hn, hlen, he⟩ := (graphOk_iff n l).1 hg
    have hw : wrap64 (n - 1) = n - 1 := w64 (by omega) (by omega)
    simp only [within_eq, hw, Option.bind_some]
    by_cases ha : 0 ≤ a ∧ a ≤ n - 1
    · by_cases hb : 0 ≤ b ∧ b ≤ n - 1
      · obtain ⟨M, e, _, ht⟩ := dist_tells hg
        obtain ⟨d, hd, hM⟩ := ht a.toNat b.toNat (by omega) (by omega)
        refine ⟨decide (0 < d), Ev.bind (impl_GraphOk_ev n l) (Ev.of_eq fun k => ?_), ?_⟩
        · rw [hg, if_pos rfl, decide_eq_true ha, if_pos rfl, decide_eq_true hb, if_pos rfl, e]
          simp only [Option.bind_some]
          rw [if_pos (by omega), hM]
          congr 1
          rw [Bool.eq_iff_iff]
          simp only [decide_eq_true_eq]
          split <;> omega
        · rw [decide_eq_true_eq, isDist_pos hd]
          simp [ha, hb]
      · exact ⟨false, Ev.bind (impl_GraphOk_ev n l) (Ev.of_eq fun k => by rw [hg, if_pos rfl, decide_eq_true ha, if_pos rfl, decide_eq_false hb]; rfl), by simp [hb]⟩
    · exact ⟨false, Ev.bind (impl_GraphOk_ev n l) (Ev.of_eq fun k => by rw [hg, if_pos rfl, decide_eq_false ha]; rfl), by simp [ha]⟩
theorem spec_Ahead_ev (n : Int) (l : List IE) (a b : Int) : ∃ r, Ev (fun k => spec_Ahead.f k n l a b) r ∧ (r = true ↔ aheadP n l a b) := by
  unfold spec_Ahead.f aheadP
  cases hg : graphOk n l with
  | false => exact ⟨false, Ev.bind (spec_GraphOk_ev n l) (by rw [hg]; exact Ev.of_eq fun k => rfl), by simp⟩
  | true =>
    obtain ⟨hn, hlen, he⟩ := (graphOk_iff n l).1 hg
    have hw : wrap64 (n - 1) = n - 1 := w64 (by omega) (by omega)
    simp only [l1In_eq, hw, Option.bind_some]
    by_cases ha : 0 ≤ a ∧ a ≤ n - 1
    · by_cases hb : 0 ≤ b ∧ b ≤ n - 1
      · obtain ⟨d, hd, hev⟩ := l14Way_ev hg (a := a.toNat) (b := b.toNat) (by omega) (by omega)
        rw [Int.toNat_of_nonneg ha.1, Int.toNat_of_nonneg hb.1] at hev
        refine ⟨decide (0 < d), Ev.bind (spec_GraphOk_ev n l) ?_, ?_⟩
        · rw [hg]
          simp only [if_true, decide_eq_true ha, decide_eq_true hb]
          refine Ev.bind hev (Ev.of_eq fun k => ?_)
          congr 1
          rw [Bool.eq_iff_iff]
          simp only [decide_eq_true_eq]
          omega
        · rw [decide_eq_true_eq, isDist_pos hd]
          simp [ha, hb]
      · exact ⟨false, Ev.bind (spec_GraphOk_ev n l) (Ev.of_eq fun k => by rw [hg, if_pos rfl, decide_eq_true ha, if_pos rfl, decide_eq_false hb]; rfl), by simp [hb]⟩
    · exact ⟨false, Ev.bind (spec_GraphOk_ev n l) (Ev.of_eq fun k => by rw [hg, if_pos rfl, decide_eq_false ha]; rfl), by simp [ha]⟩
theorem proof : Pure := by
  intro n l a b _ hl _ _
  refine Ev.rounds ?_
  unfold laws_FnExactAhead.f
  by_cases hb : 1048576 < l.length
  · exact Ev.bindc (szEdgeS_big hl.1 hb) (Ev.of_eq fun k => by simp)
  refine Ev.bindc (szEdgeS_eq l _) ?_
  rw [w64 (by omega) (by omega), if_neg (by omega)]
  refine Ev.congr (fun k => if_neg (by omega)) ?_
  have hm : (l.map toE).length ≤ 17592186044416 := by rw [List.length_map]; omega
  obtain ⟨r, hr, hq⟩ := impl_Ahead_ev n (l.map toE) a b
  obtain ⟨r', hr', hq'⟩ := spec_Ahead_ev n (l.map toE) a b
  have e : r' = r := by rw [Bool.eq_iff_iff, hq, hq']
  subst e
  refine Ev.bind (toEdgeS_ev (by omega)) (Ev.bind hr' (Ev.bind (toEdgeS_ev (by omega)) (Ev.bind hr ?_)))
  refine Ev.congr (fun k => if_neg (by simp)) ?_
  exact Ev.bind (toEdgeS_ev (by omega)) (Ev.bind (eqEdgeS_refl hm) (Ev.of_eq fun k => rfl))


end Go.Proofs.Ytapbpfbhghheeaa.fnExactAhead
