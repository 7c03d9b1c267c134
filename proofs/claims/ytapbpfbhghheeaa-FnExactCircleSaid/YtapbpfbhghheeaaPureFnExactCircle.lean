/- The law FnExactCircle holds of the program's own functions, told over lists and numbers: for every argument it returns true. Conditions: none beyond the given row's own. -/
import Derived.Test.YtapbpfbhghheeaaSaysFnExactCircle
import Derived.Test.YtapbpfbhghheeaaKit
namespace Go.Proofs.Ytapbpfbhghheeaa.fnExactCircle
open Go.RowKit Go.Proofs.Ytapbpfbhghheeaa.PFnExactCircle Go.Proofs.YtapbpfbhghheeaaW.PrintWords Go.Proofs.YtapbpfbhghheeaaW.PrintLast Go.Proofs.Ytapbpfbhghheeaa.Own
set_option linter.unusedVariables false
set_option linter.unusedSimpArgs false
-- chunk edges: lists of edges are copied, and the same as themselves
abbrev LE := S78
abbrev IE := S60
def toE (x : LE) : IE := ⟨x.f0, x.f1⟩
theorem szEdgeS_eq (l : List LE) (a : Int) : laws_szEdgeS.f l a = some (if wrap64 (a - (l.length : Int)) < 0 then -1 else wrap64 (a - (l.length : Int))) := by
  unfold laws_szEdgeS.f; split <;> rfl
theorem szEdgeS_big {l : List LE} (hl : l.length ≤ maxLen) (h : 1048576 < l.length) : laws_szEdgeS.f l 1048576 = some (-1) := by
  unfold maxLen at hl
  rw [szEdgeS_eq, w64 (by omega) (by omega), if_pos (by omega)]
theorem rd_LE {l : List LE} {i : Nat} (h : i < l.length) : rd_T78 l (i : Int) = l[i] := by
  unfold rd_T78; rw [Int.toNat_natCast]; exact getD_lt l _ h
theorem rd_IE {l : List IE} {i : Nat} (h : i < l.length) : rd_T60 l (i : Int) = l[i] := by
  unfold rd_T60; rw [Int.toNat_natCast]; exact getD_lt l _ h
theorem toEdgeS_ev {l : List LE} (hl : l.length ≤ 17592186044416) : Ev (fun k => laws_toEdgeS.f k l) (l.map toE) := by
  unfold laws_toEdgeS.f
  simp only [Int.natCast_nonneg, if_true, Int.toNat_natCast, if_pos hl]
  refine fill_ev l toE (fun k ys i => laws_toEdgeS.l0 k l ys i) (fun i h ys hy r hr => ?_) (fun ys => ?_) _ (by simp)
  · refine Ev.step (fun k => ?_) hr
    show laws_toEdgeS.l0 (k + 1) l ys i = _
    simp only [laws_toEdgeS.l0]
    rw [if_pos (by omega), if_pos (by omega), rd_LE h]
    unfold laws_toEdge.f
    simp only [Option.bind_some]
    rw [if_pos (by omega), w64_succ h (by omega), Int.toNat_natCast]
    rfl
  · refine Ev.succ (fun k => ?_)
    simp only [laws_toEdgeS.l0]
    rw [if_neg (by omega)]
theorem eqEdgeS_refl {l : List IE} (hl : l.length ≤ 17592186044416) : Ev (fun k => laws_eqEdgeS.f k l l) true := by
  unfold laws_eqEdgeS.f
  simp only [if_true]
  refine down_ev (fun k i => laws_eqEdgeS.l0 k l l i) l.length true (fun i h hr => ?_) ?_ 0 (by omega)
  · refine Ev.step (fun k => ?_) hr
    simp only [laws_eqEdgeS.l0]
    rw [if_pos (by omega), if_pos (by omega), if_pos (by omega)]
    unfold laws_eqEdge.f
    simp only [if_true, Option.bind_some]
    rw [w64_succ h (by omega)]
  · refine Ev.succ (fun k => ?_)
    simp only [laws_eqEdgeS.l0]
    rw [if_neg (by omega)]

-- chunk graph: what GraphOk answers, of the program and of the reference
def edgeIn (n : Int) (e : IE) : Bool := decide (0 ≤ e.f0 ∧ e.f0 ≤ n - 1) && decide (0 ≤ e.f1 ∧ e.f1 ≤ n - 1)
def graphOk (n : Int) (l : List IE) : Bool := decide (0 ≤ n ∧ n ≤ 16) && decide (l.length ≤ 200) && l.all (edgeIn n)
theorem within_eq (a b c : Int) : impl_within.f a b c = some (decide (b ≤ a ∧ a ≤ c)) := by
  unfold impl_within.f
  split <;> simp [*]
theorem l1In_eq (a b c : Int) : spec_l1In.f a b c = some (decide (b ≤ a ∧ a ≤ c)) := by
  unfold spec_l1In.f
  split <;> simp [*]
theorem impl_GraphOk_ev (n : Int) (l : List IE) : Ev (fun k => impl_GraphOk.f k n l) (graphOk n l) := by
  unfold impl_GraphOk.f graphOk
  refine Ev.bindc (within_eq _ _ _) ?_
  by_cases hn : 0 ≤ n ∧ n ≤ 16
  · simp only [hn, decide_true, if_true, and_self, Bool.true_and]
    by_cases hl : l.length ≤ 200
    · refine Ev.step (f := fun k => impl_GraphOk.l0 k n l (l.length : Int) 0) (fun k => ?_) ?_
      · simp only [impl_GraphOk.j0]
        rw [if_neg (by simp; omega)]
      · have hw : wrap64 (n - 1) = n - 1 := w64 (by omega) (by omega)
        have h0 : l.all (edgeIn n) = (l.drop 0).all (edgeIn n) := rfl
        rw [decide_eq_true hl, Bool.true_and, h0]
        refine all_ev l (edgeIn n) (fun k i => impl_GraphOk.l0 k n l (l.length : Int) i) (fun i h hp r hr => ?_) (fun i h hp => ?_) ?_ 0 (by omega)
        · refine Ev.step (fun k => ?_) hr
          simp only [impl_GraphOk.l0]
          rw [if_pos (by omega), if_pos (by omega), if_pos (by omega), rd_IE h, within_eq, within_eq, hw]
          simp only [edgeIn, Bool.and_eq_true] at hp
          simp only [Option.bind_some, hp.1, hp.2, if_true]
          rw [w64_succ h (by omega)]
        · refine Ev.succ (fun k => ?_)
          simp only [impl_GraphOk.l0]
          rw [if_pos (by omega), if_pos (by omega), if_pos (by omega), rd_IE h, within_eq, within_eq, hw]
          simp only [edgeIn, Bool.and_eq_false_iff] at hp
          simp only [Option.bind_some]
          rcases hp with hp | hp
          · rw [hp]; rfl
          · rw [hp]; split <;> rfl
        · refine Ev.succ (fun k => ?_)
          simp only [impl_GraphOk.l0]
          rw [if_neg (by omega)]
    · rw [decide_eq_false hl, Bool.false_and]
      refine Ev.succ (fun k => ?_)
      simp only [impl_GraphOk.j0]
      rw [if_pos (by simp; omega)]
  · simp only [decide_eq_false hn, Bool.false_and]
    refine Ev.succ (fun k => ?_)
    rw [if_neg (by simp)]
    simp only [impl_GraphOk.j0, if_true]
theorem spec_GraphOk_ev (n : Int) (l : List IE) : Ev (fun k => spec_GraphOk.f k n l) (graphOk n l) := by
  unfold spec_GraphOk.f graphOk
  refine Ev.bindc (l1In_eq _ _ _) ?_
  by_cases hn : 0 ≤ n ∧ n ≤ 16
  · simp only [hn, decide_true, if_true, and_self, Bool.true_and]
    by_cases hl : l.length ≤ 200
    · refine Ev.step (f := fun k => spec_GraphOk.l0 k n l 0) (fun k => ?_) ?_
      · simp only [spec_GraphOk.j0]
        rw [if_neg (by simp; omega)]
      · have hw : wrap64 (n - 1) = n - 1 := w64 (by omega) (by omega)
        have h0 : l.all (edgeIn n) = (l.drop 0).all (edgeIn n) := rfl
        rw [decide_eq_true hl, Bool.true_and, h0]
        refine all_ev l (edgeIn n) (fun k i => spec_GraphOk.l0 k n l i) (fun i h hp r hr => ?_) (fun i h hp => ?_) ?_ 0 (by omega)
        · refine Ev.step (fun k => ?_) hr
          simp only [spec_GraphOk.l0]
          rw [if_pos (by omega), if_pos (by omega), rd_IE h, l1In_eq, l1In_eq, hw]
          simp only [edgeIn, Bool.and_eq_true] at hp
          simp only [Option.bind_some, hp.1, hp.2, if_true]
          rw [w64_succ h (by omega)]
        · refine Ev.succ (fun k => ?_)
          simp only [spec_GraphOk.l0]
          rw [if_pos (by omega), if_pos (by omega), rd_IE h, l1In_eq, l1In_eq, hw]
          simp only [edgeIn, Bool.and_eq_false_iff] at hp
          simp only [Option.bind_some]
          rcases hp with hp | hp
          · rw [hp]; rfl
          · rw [hp]; split <;> rfl
        · refine Ev.succ (fun k => ?_)
          simp only [spec_GraphOk.l0]
          rw [if_neg (by omega)]
    · rw [decide_eq_false hl, Bool.false_and]
      refine Ev.succ (fun k => ?_)
      simp only [spec_GraphOk.j0]
      rw [if_pos (by simp; omega)]
  · simp only [decide_eq_false hn, Bool.false_and]
    refine Ev.succ (fun k => ?_)
    rw [if_neg (by simp)]
    simp only [spec_GraphOk.j0, if_true]

-- chunk contains: slices.Index and slices.Contains of numbers
def edgeFree (d : List Int) (x : Int) (e : IE) : Bool := decide (e.f1 = x → e.f0 ∈ d)
def freeB (l : List IE) (d : List Int) (x : Int) : Bool := decide (x ∉ d) && l.all (edgeFree d x)
theorem freeB_iff (l : List IE) (d : List Int) (x : Int) : freeB l d x = true ↔ x ∉ d ∧ ∀ e ∈ l, e.f1 = x → e.f0 ∈ d := by
  unfold freeB edgeFree
  simp [Decidable.imp_iff_not_or]
theorem graphOk_iff (n : Int) (l : List IE) : graphOk n l = true ↔ (0 ≤ n ∧ n ≤ 16) ∧ l.length ≤ 200 ∧ ∀ e ∈ l, (0 ≤ e.f0 ∧ e.f0 ≤ n - 1) ∧ (0 ≤ e.f1 ∧ e.f1 ≤ n - 1) := by
  unfold graphOk edgeIn
  simp [and_assoc]

-- chunk ways: shortest ways of a graph, as the program's table and as the reference's rounds
def E (l : List IE) (a b : Nat) : Prop := ∃ e ∈ l, e.f0 = (a : Int) ∧ e.f1 = (b : Int)
instance (l : List IE) (a b : Nat) : Decidable (E l a b) := by
  unfold E
  infer_instance
/-- A way from a along the numbers p to b. -/
def isWay (l : List IE) : Nat → List Nat → Nat → Prop
  | a, [], b => a = b
  | a, v :: p, b => E l a v ∧ isWay l v p b
theorem isWay_append {l : List IE} {p q : List Nat} {a b : Nat} : isWay l a (p ++ q) b ↔ ∃ c, isWay l a p c ∧ isWay l c q b := by
  induction p generalizing a with
  | nil => simp [isWay]
  | cons v p ih =>
    simp only [List.cons_append, isWay, ih]
    constructor
    · rintro ⟨h, c, h1, h2⟩; exact ⟨c, ⟨h, h1⟩, h2⟩
    · rintro ⟨c, ⟨h, h1⟩, h2⟩; exact ⟨h, c, h1, h2⟩
theorem isWay_cut {l : List IE} {s t : List Nat} {a v b : Nat} (h : isWay l a (s ++ v :: t) b) : isWay l v t b := by
  obtain ⟨c, _, h2⟩ := isWay_append.1 h
  exact h2.2
theorem isWay_prune {l : List IE} {p : List Nat} {a b : Nat} (h : isWay l a p b) : ∃ q, isWay l a q b ∧ q.Nodup ∧ (p ≠ [] → q ≠ []) ∧ q.length ≤ p.length := by
  induction p generalizing a with
  | nil => exact ⟨[], h, List.nodup_nil, fun h => absurd rfl h, Nat.le_refl _⟩
  | cons v p ih =>
    obtain ⟨q, h1, h2, _, h4⟩ := ih h.2
    by_cases hv : v ∈ q
    · obtain ⟨s, t, rfl⟩ := List.append_of_mem hv
      refine ⟨v :: t, ⟨h.1, isWay_cut h1⟩, (List.nodup_append.1 h2).2.1, fun _ => by simp, ?_⟩
      simp at h4 ⊢
      omega
    · exact ⟨v :: q, ⟨h.1, h1⟩, List.nodup_cons.2 ⟨hv, h2⟩, fun _ => by simp, by simpa using h4⟩
theorem isWay_lt {l : List IE} {N : Nat} (hE : ∀ a b, E l a b → a < N ∧ b < N) {p : List Nat} {a b : Nat} (h : isWay l a p b) : ∀ x ∈ p, x < N := by
  induction p generalizing a with
  | nil => intro x hx; simp at hx
  | cons v p ih =>
    intro x hx
    rcases List.mem_cons.1 hx with rfl | hx
    · exact (hE _ _ h.1).2
    · exact ih h.2 x hx
theorem isWay_short {l : List IE} {N : Nat} (hE : ∀ a b, E l a b → a < N ∧ b < N) {p : List Nat} {a b : Nat} (hp : p ≠ []) (h : isWay l a p b) : ∃ q, isWay l a q b ∧ q ≠ [] ∧ q.length ≤ N ∧ q.length ≤ p.length := by
  obtain ⟨q, h1, h2, h3, h4⟩ := isWay_prune h
  exact ⟨q, h1, h3 hp, nodup_len h2 (isWay_lt hE h1), h4⟩
/-- There is a way of m steps. -/
def Way (l : List IE) (m a b : Nat) : Prop := ∃ p, p.length = m ∧ isWay l a p b
theorem Way.one {l : List IE} {a b : Nat} : Way l 1 a b ↔ E l a b := by
  constructor
  · rintro ⟨p, hp, h⟩
    match p, hp with
    | [v], _ => obtain ⟨h1, rfl⟩ := h; exact h1
  · intro h; exact ⟨[b], rfl, h, rfl⟩
theorem Way.join {l : List IE} {m n a b c : Nat} (h : Way l m a c) (h' : Way l n c b) : Way l (m + n) a b := by
  obtain ⟨p, hp, h⟩ := h
  obtain ⟨q, hq, h'⟩ := h'
  exact ⟨p ++ q, by simp [hp, hq], isWay_append.2 ⟨c, h, h'⟩⟩
theorem Way.snoc {l : List IE} {m a b : Nat} : Way l (m + 1) a b ↔ ∃ c, Way l m a c ∧ E l c b := by
  constructor
  · rintro ⟨p, hp, h⟩
    obtain ⟨q, v, rfl⟩ : ∃ q v, p = q ++ [v] := ⟨p.dropLast, p.getLast (by intro e; simp [e] at hp), (List.dropLast_concat_getLast _).symm⟩
    obtain ⟨c, h1, h2, h3⟩ := isWay_append.1 h
    obtain rfl := h3
    exact ⟨c, ⟨q, by simpa using hp, h1⟩, h2⟩
  · rintro ⟨c, h, h'⟩
    exact Way.join h (Way.one.2 h')
/-- The least number of steps that lead from a to b; 0: there is none. -/
def isDist (l : List IE) (a b : Nat) (d : Nat) : Prop := (d = 0 ∧ ∀ m, 0 < m → ¬ Way l m a b) ∨ (0 < d ∧ Way l d a b ∧ ∀ m, 0 < m → m < d → ¬ Way l m a b)
theorem isDist_unique {l : List IE} {a b d d' : Nat} (h : isDist l a b d) (h' : isDist l a b d') : d = d' := by
  rcases h with ⟨rfl, h⟩ | ⟨h0, h1, h2⟩ <;> rcases h' with ⟨rfl, h'⟩ | ⟨h0', h1', h2'⟩
  · rfl
  · exact absurd h1' (h _ h0')
  · exact absurd h1 (h' _ h0)
  · rcases Nat.lt_trichotomy d d' with hl | hl | hl
    · exact absurd h1 (h2' _ h0 hl)
    · exact hl
    · exact absurd h1' (h2 _ h0' hl)
theorem isDist_le {l : List IE} {N : Nat} (hE : ∀ a b, E l a b → a < N ∧ b < N) {a b d : Nat} (h : isDist l a b d) : d ≤ N := by
  rcases h with ⟨rfl, _⟩ | ⟨h0, ⟨p, hp, h1⟩, h2⟩
  · omega
  · obtain ⟨q, g1, g2, g3, g4⟩ := isWay_short hE (by intro e; simp [e] at hp; omega) h1
    apply Classical.byContradiction
    intro hn
    exact h2 q.length (List.length_pos_iff.2 g2) (by omega) ⟨q, rfl, g1⟩
/-! Ways whose inner numbers are below k. -/
inductive Wk (l : List IE) (k : Nat) : Nat → Nat → Nat → Prop
  | edge {a b : Nat} (h : E l a b) : Wk l k 1 a b
  | join {m n a b c : Nat} (h : Wk l k m a c) (h' : Wk l k n c b) (hc : c < k) : Wk l k (m + n) a b
theorem Wk.pos {l : List IE} {k m a b : Nat} (h : Wk l k m a b) : 0 < m := by
  induction h with
  | edge _ => omega
  | join _ _ _ _ _ => omega
theorem Wk.up {l : List IE} {k m a b : Nat} (h : Wk l k m a b) : Wk l (k + 1) m a b := by
  induction h with
  | edge h => exact .edge h
  | join _ _ hc ih ih' => exact .join ih ih' (by omega)
theorem Wk.way {l : List IE} {k m a b : Nat} (h : Wk l k m a b) : Way l m a b := by
  induction h with
  | edge h => exact Way.one.2 h
  | join _ _ _ ih ih' => exact Way.join ih ih'
theorem Wk.zero {l : List IE} {m a b : Nat} (h : Wk l 0 m a b) : m = 1 ∧ E l a b := by
  cases h with
  | edge h => exact ⟨rfl, h⟩
  | join _ _ hc => omega
theorem Wk.of {l : List IE} {N : Nat} (hE : ∀ a b, E l a b → a < N ∧ b < N) {p : List Nat} {a b : Nat} (hp : p ≠ []) (h : isWay l a p b) : Wk l N p.length a b := by
  induction p generalizing a with
  | nil => exact absurd rfl hp
  | cons v p ih =>
    by_cases hq : p = []
    · subst hq
      obtain ⟨h1, rfl⟩ := h
      exact .edge h1
    · have h2 := ih hq h.2
      have h3 := Wk.join (.edge h.1) h2 (hE _ _ h.1).2
      rw [List.length_cons, Nat.add_comm]
      exact h3
theorem Wk.down {l : List IE} {k m a b : Nat} (h : Wk l (k + 1) m a b) : (∃ m', m' ≤ m ∧ Wk l k m' a b) ∨ ∃ m1 m2, m1 + m2 ≤ m ∧ Wk l k m1 a k ∧ Wk l k m2 k b := by
  induction h with
  | edge h => exact .inl ⟨1, Nat.le_refl _, .edge h⟩
  | @join m n a b c h h' hc ih ih' =>
    by_cases hck : c < k
    · rcases ih with ⟨p, hp, h1⟩ | ⟨p, q, hpq, h1, h2⟩
      · rcases ih' with ⟨p', hp', h1'⟩ | ⟨p', q', hpq', h1', h2'⟩
        · exact .inl ⟨p + p', by omega, .join h1 h1' hck⟩
        · exact .inr ⟨p + p', q', by omega, .join h1 h1' hck, h2'⟩
      · rcases ih' with ⟨p', hp', h1'⟩ | ⟨p', q', hpq', h1', h2'⟩
        · exact .inr ⟨p, q + p', by omega, h1, .join h2 h1' hck⟩
        · exact .inr ⟨p, q', by omega, h1, h2'⟩
    · obtain rfl : c = k := by omega
      obtain ⟨p, hp, h1⟩ : ∃ p, p ≤ m ∧ Wk l c p a c := by
        rcases ih with ⟨p, hp, h1⟩ | ⟨p, q, hpq, h1, _⟩
        · exact ⟨p, hp, h1⟩
        · exact ⟨p, by omega, h1⟩
      obtain ⟨q, hq, h2⟩ : ∃ q, q ≤ n ∧ Wk l c q c b := by
        rcases ih' with ⟨p, hp, h1⟩ | ⟨p, q, hpq, _, h1⟩
        · exact ⟨p, hp, h1⟩
        · exact ⟨q, by omega, h1⟩
      exact .inr ⟨p, q, by omega, h1, h2⟩
/-! The table. -/
theorem dGet_dSet {M : List Int} (hM : M.length = 256) {a b : Nat} (ha : a < 16) (hb : b < 16) (v : Int) {a' b' : Nat} (ha' : a' < 16) (hb' : b' < 16) :
    dGet (dSet M a b v) a' b' = if a' = a ∧ b' = b then v else dGet M a' b' := by
  unfold dGet dSet
  rw [getD_lt _ _ (by rw [List.length_set]; omega), getD_lt _ _ (by omega), List.getElem_set]
  by_cases h : a' = a ∧ b' = b
  · rw [if_pos h, if_pos (by obtain ⟨rfl, rfl⟩ := h; rfl)]
  · rw [if_neg h, if_neg (by omega)]
theorem dInitB_get {M : List Int} (hM : M.length = 256) {a : Nat} (ha : a < 16) {N : Nat} (hN : N ≤ 16) {a' b' : Nat} (ha' : a' < 16) (hb' : b' < 16) : dGet (dInitB a M N) a' b' = if a' = a ∧ b' < N then -1 else dGet M a' b' := by
  induction N with
  | zero => simp [dInitB]
  | succ N ih =>
    have e : dInitB a M (N + 1) = dSet (dInitB a M N) a N (-1) := by simp [dInitB, List.range_succ, List.foldl_append]
    rw [e, dGet_dSet (by rw [dInitB_len]; exact hM) ha (by omega) _ ha' hb', ih (by omega)]
    by_cases h : a' = a ∧ b' = N
    · rw [if_pos h, if_pos (by omega)]
    · rw [if_neg h]
      by_cases h2 : a' = a ∧ b' < N
      · rw [if_pos h2, if_pos (by omega)]
      · rw [if_neg h2, if_neg (by omega)]
theorem dInit_get {N : Nat} (hN : N ≤ 16) {m : Nat} (hm : m ≤ N) {M : List Int} (hM : M.length = 256) {a' b' : Nat} (ha' : a' < 16) (hb' : b' < 16) : dGet (dInit N m M) a' b' = if a' < m ∧ b' < N then -1 else dGet M a' b' := by
  induction m with
  | zero => simp [dInit]
  | succ m ih =>
    have e : dInit N (m + 1) M = dInitB m (dInit N m M) N := by simp [dInit, List.range_succ, List.foldl_append]
    rw [e, dInitB_get (by rw [dInit_len]; exact hM) (by omega) hN ha' hb', ih (by omega)]
    by_cases h : a' = m ∧ b' < N
    · rw [if_pos h, if_pos (by omega)]
    · rw [if_neg h]
      by_cases h2 : a' < m ∧ b' < N
      · rw [if_pos h2, if_pos (by omega)]
      · rw [if_neg h2, if_neg (by omega)]
theorem dEdges_get {l : List IE} {M : List Int} (hM : M.length = 256) (hl : ∀ e ∈ l, (0 ≤ e.f0 ∧ e.f0 < 16) ∧ 0 ≤ e.f1 ∧ e.f1 < 16) {a b : Nat} (ha : a < 16) (hb : b < 16) :
    (E l a b ∧ dGet (dEdges l M) a b = 1) ∨ (¬ E l a b ∧ dGet (dEdges l M) a b = dGet M a b) := by
  have key : ∀ (l : List IE) (M : List Int), M.length = 256 → (∀ e ∈ l, (0 ≤ e.f0 ∧ e.f0 < 16) ∧ 0 ≤ e.f1 ∧ e.f1 < 16) → dGet (dEdges l M) a b = if E l a b then 1 else dGet M a b := by
    intro l
    induction l with
    | nil => intro M _ _; rw [if_neg (by rintro ⟨e, he, _⟩; simp at he)]; rfl
    | cons e l ih =>
      intro M hM hl
      have h1 := hl e (by simp)
      have e1 : dEdges (e :: l) M = dEdges l (dSet M e.f0.toNat e.f1.toNat 1) := rfl
      rw [e1, ih _ (by rw [dSet_len]; exact hM) (fun x hx => hl x (by simp [hx])), dGet_dSet hM (by omega) (by omega) _ ha hb]
      by_cases h2 : E l a b
      · rw [if_pos h2, if_pos (by obtain ⟨x, hx, h⟩ := h2; exact ⟨x, by simp [hx], h⟩)]
      · rw [if_neg h2]
        by_cases h3 : a = e.f0.toNat ∧ b = e.f1.toNat
        · rw [if_pos h3, if_pos ⟨e, by simp, by omega, by omega⟩]
        · rw [if_neg h3, if_neg]
          rintro ⟨x, hx, hx1, hx2⟩
          rcases List.mem_cons.1 hx with rfl | hx
          · omega
          · exact h2 ⟨x, hx, hx1, hx2⟩
  have h := key l M hM hl
  by_cases h2 : E l a b
  · left; rw [if_pos h2] at h; exact ⟨h2, h⟩
  · right; rw [if_neg h2] at h; exact ⟨h2, h⟩
/-- What a round over k makes of an entry. -/
def upd (D : Nat → Nat → Int) (k a b : Nat) : Int :=
  if D a k < 0 ∨ D k b < 0 then D a b else if D a b < 0 ∨ D a k + D k b < D a b then D a k + D k b else D a b
def goodD (D : Nat → Nat → Int) (B : Int) : Prop := ∀ a b, a < 16 → b < 16 → (D a b = -1 ∨ 0 ≤ D a b) ∧ D a b ≤ B
theorem upd_col {D : Nat → Nat → Int} {B : Int} (h : goodD D B) {k a : Nat} (hk : k < 16) (ha : a < 16) : upd D k a k = D a k := by
  unfold upd
  have h1 := h k k hk hk
  by_cases c : D a k < 0 ∨ D k k < 0
  · rw [if_pos c]
  · rw [if_neg c, if_neg (by omega)]
theorem upd_row {D : Nat → Nat → Int} {B : Int} (h : goodD D B) {k b : Nat} (hk : k < 16) (hb : b < 16) : upd D k k b = D k b := by
  unfold upd
  have h1 := h k k hk hk
  by_cases c : D k k < 0 ∨ D k b < 0
  · rw [if_pos c]
  · rw [if_neg c, if_neg (by omega)]
theorem dStep_get {M : List Int} (hM : M.length = 256) {k i j : Nat} (hk : k < 16) (hi : i < 16) (hj : j < 16) {B : Int} (hB : B ≤ 1000000) (hg : goodD (dGet M) B) {a b : Nat} (ha : a < 16) (hb : b < 16) :
    dGet (dStep k i j M) a b = if a = i ∧ b = j then upd (dGet M) k i j else dGet M a b := by
  have g1 := hg i k hi hk
  have g2 := hg k j hk hj
  have hw : wrap64 (dGet M i k + dGet M k j) = dGet M i k + dGet M k j := w64 (by omega) (by omega)
  unfold dStep upd
  rw [hw]
  by_cases c : dGet M i k < 0 ∨ dGet M k j < 0
  · rw [if_pos c, if_pos c]
    split
    · rename_i h; rw [h.1, h.2]
    · rfl
  · rw [if_neg c, if_neg c]
    by_cases c2 : dGet M i j < 0 ∨ dGet M i k + dGet M k j < dGet M i j
    · rw [if_pos c2, if_pos c2, dGet_dSet hM hi hj _ ha hb]
    · rw [if_neg c2, if_neg c2]
      split
      · rename_i h; rw [h.1, h.2]
      · rfl
theorem upd_good {D : Nat → Nat → Int} {B : Int} (h : goodD D B) {k : Nat} (hk : k < 16) {a b : Nat} (ha : a < 16) (hb : b < 16) : (upd D k a b = -1 ∨ 0 ≤ upd D k a b) ∧ upd D k a b ≤ 2 * B + 2 := by
  have h1 := h a k ha hk
  have h2 := h k b hk hb
  have h3 := h a b ha hb
  unfold upd
  split
  · omega
  · split <;> omega
/-- An entry is as round k makes it, where the row is below i (the column below N), or it is row i and the column below j. -/
def midD (D : Nat → Nat → Int) (k N i j : Nat) (a b : Nat) : Int := if (a < i ∧ b < N) ∨ (a = i ∧ b < j) then upd D k a b else D a b
theorem midD_good {D : Nat → Nat → Int} {B : Int} (h : goodD D B) (hB : 0 ≤ B) {k : Nat} (hk : k < 16) (N i j : Nat) : goodD (midD D k N i j) (2 * B + 2) := by
  intro a b ha hb
  have h1 := upd_good h hk ha hb
  have h2 := h a b ha hb
  unfold midD
  split <;> omega
theorem midD_col {D : Nat → Nat → Int} {B : Int} (h : goodD D B) {k a : Nat} (hk : k < 16) (ha : a < 16) (N i j : Nat) : midD D k N i j a k = D a k := by
  unfold midD
  split
  · exact upd_col h hk ha
  · rfl
theorem midD_row {D : Nat → Nat → Int} {B : Int} (h : goodD D B) {k b : Nat} (hk : k < 16) (hb : b < 16) (N i j : Nat) : midD D k N i j k b = D k b := by
  unfold midD
  split
  · exact upd_row h hk hb
  · rfl
theorem goodD_congr {D D' : Nat → Nat → Int} {B : Int} (h : goodD D B) (he : ∀ a b, a < 16 → b < 16 → D' a b = D a b) : goodD D' B := fun a b ha hb => by rw [he a b ha hb]; exact h a b ha hb
theorem dRunB_get {D : Nat → Nat → Int} {B : Int} (hg : goodD D B) (hB0 : 0 ≤ B) (hB : B ≤ 400000) {k N i : Nat} (hk : k < 16) (hi : i < 16) (hN : N ≤ 16) {M : List Int} (hM : M.length = 256)
    (h : ∀ a b, a < 16 → b < 16 → dGet M a b = midD D k N i 0 a b) {m : Nat} (hm : m ≤ N) : ∀ a b, a < 16 → b < 16 → dGet (dRunB k i m M) a b = midD D k N i m a b := by
  induction m with
  | zero => exact h
  | succ m ih =>
    intro a b ha hb
    have ih := ih (by omega)
    have e : dRunB k i (m + 1) M = dStep k i m (dRunB k i m M) := by simp [dRunB, List.range_succ, List.foldl_append]
    have hgm := goodD_congr (midD_good hg hB0 hk N i m) ih
    rw [e, dStep_get (by rw [dRunB_len]; exact hM) hk hi (by omega) (B := 2 * B + 2) (by omega) hgm ha hb]
    have hu : upd (dGet (dRunB k i m M)) k i m = upd D k i m := by
      unfold upd
      rw [ih i k hi hk, ih k m hk (by omega), ih i m hi (by omega), midD_col hg hk hi, midD_row hg hk (by omega)]
      have : midD D k N i m i m = D i m := by unfold midD; rw [if_neg (by omega)]
      rw [this]
    rw [hu, ih a b ha hb]
    unfold midD
    by_cases c : a = i ∧ b = m
    · rw [if_pos c, if_pos (by omega), c.1, c.2]
    · rw [if_neg c]
      by_cases c2 : (a < i ∧ b < N) ∨ (a = i ∧ b < m)
      · rw [if_pos c2, if_pos (by omega)]
      · rw [if_neg c2, if_neg (by omega)]
theorem dRunA_get {D : Nat → Nat → Int} {B : Int} (hg : goodD D B) (hB0 : 0 ≤ B) (hB : B ≤ 400000) {k N : Nat} (hk : k < 16) (hN : N ≤ 16) {M : List Int} (hM : M.length = 256)
    (h : ∀ a b, a < 16 → b < 16 → dGet M a b = D a b) {m : Nat} (hm : m ≤ N) : ∀ a b, a < 16 → b < 16 → dGet (dRunA N k m M) a b = midD D k N m 0 a b := by
  induction m with
  | zero =>
    intro a b ha hb
    unfold midD
    rw [if_neg (by omega)]
    exact h a b ha hb
  | succ m ih =>
    intro a b ha hb
    have e : dRunA N k (m + 1) M = dRunB k m N (dRunA N k m M) := by simp [dRunA, List.range_succ, List.foldl_append]
    rw [e, dRunB_get hg hB0 hB hk (by omega) hN (by rw [dRunA_len]; exact hM) (ih (by omega)) (Nat.le_refl _) a b ha hb]
    unfold midD
    by_cases c : (a < m ∧ b < N) ∨ (a = m ∧ b < N)
    · rw [if_pos c, if_pos (by omega)]
    · rw [if_neg c, if_neg (by omega)]
/-- What the table tells behind the round k. -/
def tellsK (l : List IE) (k N : Nat) (D : Nat → Nat → Int) : Prop := ∀ a b, a < N → b < N → (D a b = -1 ∧ ∀ m, ¬ Wk l k m a b) ∨ (0 < D a b ∧ Wk l k (D a b).toNat a b ∧ ∀ m, Wk l k m a b → D a b ≤ m)
theorem tells_step {l : List IE} {k N : Nat} {D D' : Nat → Nat → Int} (hk : k < N) (h : tellsK l k N D) (he : ∀ a b, a < N → b < N → D' a b = upd D k a b) : tellsK l (k + 1) N D' := by
  intro a b ha hb
  rw [he a b ha hb]
  have hab := h a b ha hb
  have hak := h a k ha hk
  have hkb := h k b hk hb
  unfold upd
  by_cases c : D a k < 0 ∨ D k b < 0
  · rw [if_pos c]
    have no : ∀ m1 m2, ¬ (Wk l k m1 a k ∧ Wk l k m2 k b) := by
      rintro m1 m2 ⟨h1, h2⟩
      rcases c with c | c
      · rcases hak with ⟨_, hn⟩ | ⟨h0, _⟩
        · exact hn _ h1
        · omega
      · rcases hkb with ⟨_, hn⟩ | ⟨h0, _⟩
        · exact hn _ h2
        · omega
    rcases hab with ⟨e, hn⟩ | ⟨h0, h1, h2⟩
    · left
      refine ⟨e, fun m hm => ?_⟩
      rcases hm.down with ⟨m', _, h'⟩ | ⟨m1, m2, _, g1, g2⟩
      · exact hn _ h'
      · exact no _ _ ⟨g1, g2⟩
    · right
      refine ⟨h0, h1.up, fun m hm => ?_⟩
      rcases hm.down with ⟨m', hle, h'⟩ | ⟨m1, m2, _, g1, g2⟩
      · have := h2 _ h'; omega
      · exact absurd ⟨g1, g2⟩ (no _ _)
  · rw [if_neg c]
    rcases hak with ⟨e, _⟩ | ⟨k0, k1, k2⟩
    · omega
    rcases hkb with ⟨e, _⟩ | ⟨q0, q1, q2⟩
    · omega
    have hw : Wk l (k + 1) (D a k + D k b).toNat a b := by
      rw [show (D a k + D k b).toNat = (D a k).toNat + (D k b).toNat by omega]
      exact .join k1.up q1.up (by omega)
    have lower : ∀ m1 m2, Wk l k m1 a k → Wk l k m2 k b → D a k + D k b ≤ ((m1 + m2 : Nat) : Int) := fun m1 m2 g1 g2 => by
      have := k2 _ g1
      have := q2 _ g2
      omega
    by_cases c2 : D a b < 0 ∨ D a k + D k b < D a b
    · rw [if_pos c2]
      right
      refine ⟨by omega, hw, fun m hm => ?_⟩
      rcases hm.down with ⟨m', hle, h'⟩ | ⟨m1, m2, hle, g1, g2⟩
      · rcases hab with ⟨_, hn⟩ | ⟨h0, h1, h2⟩
        · exact absurd h' (hn _)
        · have := h2 _ h'; omega
      · have := lower _ _ g1 g2; omega
    · rw [if_neg c2]
      rcases hab with ⟨e, _⟩ | ⟨h0, h1, h2⟩
      · omega
      · right
        refine ⟨h0, h1.up, fun m hm => ?_⟩
        rcases hm.down with ⟨m', hle, h'⟩ | ⟨m1, m2, hle, g1, g2⟩
        · have := h2 _ h'; omega
        · have := lower _ _ g1 g2; omega
theorem dRun_tells {l : List IE} {N : Nat} (hN : N ≤ 16) {M : List Int} (hM : M.length = 256) (hg : goodD (dGet M) 1) (h0 : tellsK l 0 N (dGet M)) {m : Nat} (hm : m ≤ N) :
    goodD (dGet (dRun N m M)) (3 * 2 ^ m) ∧ tellsK l m N (dGet (dRun N m M)) := by
  induction m with
  | zero => exact ⟨fun a b ha hb => by have := hg a b ha hb; simp [dRun]; omega, h0⟩
  | succ m ih =>
    obtain ⟨g, t⟩ := ih (by omega)
    have e : dRun N (m + 1) M = dRunA N m N (dRun N m M) := by simp [dRun, List.range_succ, List.foldl_append]
    have hp : (2 : Int) ^ m ≤ 32768 := by
      have h1 : (2 : Nat) ^ m ≤ 2 ^ 15 := Nat.pow_le_pow_right (by omega) (by omega)
      have h2 : ((2 ^ m : Nat) : Int) ≤ ((2 ^ 15 : Nat) : Int) := Int.ofNat_le.2 h1
      simpa using h2
    have hp0 : (1 : Int) ≤ 2 ^ m := by
      have h1 : 0 < (2 : Nat) ^ m := Nat.two_pow_pos m
      have h2 : ((1 : Nat) : Int) ≤ ((2 ^ m : Nat) : Int) := Int.ofNat_le.2 h1
      simpa using h2
    have he := dRunA_get (D := dGet (dRun N m M)) g (by omega) (by omega) (k := m) (by omega) hN (by rw [dRun_len]; exact hM) (fun _ _ _ _ => rfl) (Nat.le_refl N)
    rw [e]
    constructor
    · intro a b ha hb
      rw [he a b ha hb]
      have h1 := midD_good g (by omega) (k := m) (by omega) N N 0 a b ha hb
      rw [Int.pow_succ]
      have h2 := upd_good g (k := m) (by omega) ha hb
      have h3 := g a b ha hb
      have hk1 := g a m ha (by omega)
      have hk2 := g m b (by omega) hb
      unfold midD upd at h1 ⊢
      repeat' split
      all_goals omega
    · refine tells_step (by omega) t (fun a b ha hb => ?_)
      rw [he a b (by omega) (by omega)]
      unfold midD
      rw [if_pos (by omega)]
/-- The program's table of a graph. -/
theorem dist_tells {n : Int} {l : List IE} (hg : graphOk n l = true) : ∃ M, impl_dist.f n l = some M ∧ M.length = 256 ∧
    ∀ a b : Nat, (a : Int) < n → (b : Int) < n → ∃ d : Nat, isDist l a b d ∧ dGet M a b = if d = 0 then -1 else (d : Int) := by
  obtain ⟨hn, hl, he⟩ := (graphOk_iff n l).1 hg
  have hok : ∀ e ∈ l, (0 ≤ e.f0 ∧ e.f0 < 16) ∧ 0 ≤ e.f1 ∧ e.f1 < 16 := fun e hel => by have := he e hel; omega
  have hE : ∀ a b, E l a b → a < n.toNat ∧ b < n.toNat := by
    rintro a b ⟨e, hel, h1, h2⟩
    have := he e hel
    omega
  refine ⟨dRun n.toNat n.toNat (dEdges l (dInit n.toNat n.toNat dZero)), ?_, ?_, ?_⟩
  · unfold impl_dist.f
    rw [if_pos hn, if_pos]
    rw [List.all_eq_true]
    intro e hel
    exact decide_eq_true (hok e hel)
  · rw [dRun_len, dEdges_len, dInit_len]
    simp only [dZero, List.length_replicate]
  · intro a b ha hb
    have hZ : dZero.length = 256 := by simp only [dZero, List.length_replicate]
    have hI : (dInit n.toNat n.toNat dZero).length = 256 := by rw [dInit_len]; exact hZ
    have hMl : (dEdges l (dInit n.toNat n.toNat dZero)).length = 256 := by rw [dEdges_len]; exact hI
    have zero : ∀ a b, a < 16 → b < 16 → dGet dZero a b = 0 := fun a b ha hb => by
      unfold dGet
      rw [getD_lt _ _ (by rw [hZ]; omega)]
      simp only [dZero, List.getElem_replicate]
    have h1 : goodD (dGet (dEdges l (dInit n.toNat n.toNat dZero))) 1 := by
      intro a b ha hb
      have h2 := dInit_get (N := n.toNat) (m := n.toNat) (by omega) (Nat.le_refl _) hZ ha hb
      rw [zero a b ha hb] at h2
      rcases dEdges_get hI hok ha hb with ⟨_, e⟩ | ⟨_, e⟩
      · rw [e]; omega
      · rw [e, h2]; split <;> omega
    have h3 : tellsK l 0 n.toNat (dGet (dEdges l (dInit n.toNat n.toNat dZero))) := by
      intro a b ha hb
      have h2 := dInit_get (N := n.toNat) (m := n.toNat) (by omega) (Nat.le_refl _) hZ (a' := a) (b' := b) (by omega) (by omega)
      rw [if_pos ⟨ha, hb⟩] at h2
      rcases dEdges_get hI hok (a := a) (b := b) (by omega) (by omega) with ⟨hee, e⟩ | ⟨hee, e⟩
      · right
        rw [e]
        refine ⟨by omega, .edge hee, fun m hm => ?_⟩
        have := hm.pos
        omega
      · left
        rw [e, h2]
        exact ⟨rfl, fun m hm => hee hm.zero.2⟩
    obtain ⟨_, ht⟩ := dRun_tells (by omega) hMl h1 h3 (Nat.le_refl n.toNat)
    rcases ht a b (by omega) (by omega) with ⟨e, hn2⟩ | ⟨h0, hw, hmin⟩
    · refine ⟨0, .inl ⟨rfl, ?_⟩, by rw [e]; rfl⟩
      rintro m hm ⟨p, hp, h⟩
      exact hn2 _ (Wk.of hE (by intro e; simp [e] at hp; omega) h)
    · refine ⟨_, .inr ⟨?_, hw.way, ?_⟩, ?_⟩
      · omega
      · rintro m hm0 hm ⟨p, hp, h⟩
        have := hmin _ (Wk.of hE (by intro e; simp [e] at hp; omega) h)
        omega
      · rw [if_neg (by omega)]
        omega
/-! The reference's rounds. -/
def stepB (N : Nat) (l : List IE) (f : List Bool) : List Bool := (List.range N).map fun v : Nat => l.any fun e => decide (e.f1 = (v : Int)) && rdOf false f e.f0
/-- Where m steps lead from a. -/
theorem rd_boolmap {N : Nat} (p : Nat → Bool) {x : Int} (h0 : 0 ≤ x) (h1 : x < (N : Int)) : rdOf false ((List.range N).map p) x = p x.toNat := by
  obtain ⟨y, rfl⟩ : ∃ y : Nat, x = (y : Int) := ⟨x.toNat, by omega⟩
  rw [rdOf_lt _ _ (by simp; omega)]
  simp
noncomputable def wayB (l : List IE) (m a v : Nat) : Bool := @decide (Way l m a v) (Classical.propDecidable _)
theorem wayB_iff {l : List IE} {m a v : Nat} : wayB l m a v = true ↔ Way l m a v := by
  unfold wayB
  exact @decide_eq_true_iff _ (Classical.propDecidable _)
noncomputable def nextV (l : List IE) (a m : Nat) (es : List IE) (v : Nat) : Bool := @decide (∃ e ∈ es, e.f1 = (v : Int) ∧ Way l m a e.f0.toNat) (Classical.propDecidable _)
theorem nextV_iff {l : List IE} {a m : Nat} {es : List IE} {v : Nat} : nextV l a m es v = true ↔ ∃ e ∈ es, e.f1 = (v : Int) ∧ Way l m a e.f0.toNat := by
  unfold nextV
  exact @decide_eq_true_iff _ (Classical.propDecidable _)
noncomputable def atB (N : Nat) (l : List IE) (a m : Nat) : List Bool := (List.range N).map (wayB l m a)
theorem atB_len (N : Nat) (l : List IE) (a m : Nat) : (atB N l a m).length = N := by simp [atB]
theorem atB_get {N : Nat} {l : List IE} {a m : Nat} {x : Int} (h0 : 0 ≤ x) (h1 : x < (N : Int)) : rdOf false (atB N l a m) x = true ↔ Way l m a x.toNat := by
  unfold atB
  rw [rd_boolmap _ h0 h1]
  exact wayB_iff
noncomputable def nextB (N : Nat) (l : List IE) (a m : Nat) (es : List IE) : List Bool := (List.range N).map (nextV l a m es)
theorem nextB_len (N : Nat) (l : List IE) (a m : Nat) (es : List IE) : (nextB N l a m es).length = N := by simp [nextB]
theorem nextB_all {N : Nat} {l : List IE} {a m : Nat} (hl : ∀ e ∈ l, 0 ≤ e.f0) : nextB N l a m l = atB N l a (m + 1) := by
  unfold nextB atB
  congr 1
  funext v
  rw [Bool.eq_iff_iff, nextV_iff, wayB_iff, Way.snoc]
  constructor
  · rintro ⟨e, he, h1, h2⟩
    exact ⟨e.f0.toNat, h2, e, he, by have := hl e he; omega, h1⟩
  · rintro ⟨c, h2, e, he, h3, h1⟩
    exact ⟨e, he, h1, by rw [h3, Int.toNat_natCast]; exact h2⟩
theorem l14Way_ev {n : Int} {l : List IE} (hg : graphOk n l = true) {a b : Nat} (ha : (a : Int) < n) (hb : (b : Int) < n) : ∃ d : Nat, isDist l a b d ∧ Ev (fun k => spec_l14Way.f k n l (a : Int) (b : Int)) (d : Int) := by
  obtain ⟨hn, hlen, he⟩ := (graphOk_iff n l).1 hg
  have hE : ∀ a b, E l a b → a < n.toNat ∧ b < n.toNat := by
    rintro a b ⟨e, hel, h1, h2⟩
    have := he e hel
    omega
  obtain ⟨N, rfl⟩ : ∃ N : Nat, n = (N : Int) := ⟨n.toNat, by omega⟩
  rw [Int.toNat_natCast] at hE
  -- from a number of steps on
  have key : ∀ (q m : Nat), m + q = N → (∀ j, 0 < j → j ≤ m → ¬ Way l j a b) → ∃ d : Nat, isDist l a b d ∧ Ev (fun k => spec_l14Way.l0 k (N : Int) l (b : Int) (atB N l a m) ((m + 1 : Nat) : Int)) (d : Int) := by
    intro q
    induction q with
    | zero =>
      intro m hm hno
      refine ⟨0, .inl ⟨rfl, ?_⟩, Ev.succ (fun k => ?_)⟩
      · rintro j hj ⟨p, hp, h⟩
        obtain ⟨q, g1, g2, g3, g4⟩ := isWay_short hE (by intro e; simp [e] at hp; omega) h
        exact hno q.length (List.length_pos_iff.2 g2) (by omega) ⟨q, rfl, g1⟩
      · simp only [spec_l14Way.l0]
        rw [if_neg (by omega)]
        rfl
    | succ q ih =>
      intro m hm hno
      -- the edges
      have inner : ∀ (t i : Nat) (r : Int), i + t = l.length → Ev (fun k => spec_l14Way.l1 k (N : Int) l (b : Int) (atB N l a m) ((m + 1 : Nat) : Int) (nextB N l a m l) (l.length : Int)) r →
          Ev (fun k => spec_l14Way.l1 k (N : Int) l (b : Int) (atB N l a m) ((m + 1 : Nat) : Int) (nextB N l a m (l.take i)) (i : Int)) r := by
        intro t
        induction t with
        | zero =>
          intro i r hi hr
          obtain rfl : i = l.length := by omega
          rw [List.take_length]
          exact hr
        | succ t iht =>
          intro i r hi hr
          have h : i < l.length := by omega
          have h1 := he l[i] (List.getElem_mem h)
          have hn2 := iht (i + 1) r (by omega) hr
          refine Ev.step (fun k => ?_) hn2
          simp only [spec_l14Way.l1]
          rw [if_pos (by omega), if_pos (by omega), rd_IE h, if_pos (by omega), atB_len, if_pos (by omega), w64_succ h (by omega)]
          have ts : l.take (i + 1) = l.take i ++ [l[i]] := List.take_succ_eq_append_getElem h
          by_cases hc : rdOf false (atB N l a m) l[i].f0 = true
          · rw [if_pos hc, if_pos (by omega), nextB_len, if_pos (by omega)]
            congr 1
            rw [ts]
            apply List.ext_getElem
            · simp [nextB]
            · intro v h2 h3
              simp only [nextB, List.length_set, List.length_map, List.length_range] at h2
              rw [List.getElem_set]
              simp only [nextB, List.getElem_map, List.getElem_range]
              have hw := (atB_get (by omega) (by omega)).1 hc
              by_cases hv : l[i].f1.toNat = v
              · rw [if_pos hv]
                exact (nextV_iff.2 ⟨l[i], List.mem_append_right _ (List.mem_singleton.2 rfl), by omega, hw⟩).symm
              · rw [if_neg hv, Bool.eq_iff_iff, nextV_iff, nextV_iff]
                constructor
                · rintro ⟨e, hel, g1, g2⟩; exact ⟨e, List.mem_append_left _ hel, g1, g2⟩
                · rintro ⟨e, hel, g1, g2⟩
                  rcases List.mem_append.1 hel with hel | hel
                  · exact ⟨e, hel, g1, g2⟩
                  · rw [List.mem_singleton.1 hel] at g1
                    omega
          · rw [if_neg hc]
            congr 1
            rw [ts]
            unfold nextB
            congr 1
            funext v
            rw [Bool.eq_iff_iff, nextV_iff, nextV_iff]
            constructor
            · rintro ⟨e, hel, g1, g2⟩; exact ⟨e, List.mem_append_left _ hel, g1, g2⟩
            · rintro ⟨e, hel, g1, g2⟩
              rcases List.mem_append.1 hel with hel | hel
              · exact ⟨e, hel, g1, g2⟩
              · rw [List.mem_singleton.1 hel] at g2
                exact absurd ((atB_get (by omega) (by omega)).2 g2) hc
      have e0 : List.replicate N false = nextB N l a m (l.take 0) := by
        apply List.ext_getElem
        · simp [nextB]
        · intro j h1 h2
          simp only [nextB, List.getElem_replicate, List.getElem_map, List.take_zero]
          symm
          rw [Bool.eq_false_iff]
          intro h
          obtain ⟨e, he, _⟩ := nextV_iff.1 h
          simp at he
      have close : ∀ r : Int, Ev (fun k => spec_l14Way.l1 k (N : Int) l (b : Int) (atB N l a m) ((m + 1 : Nat) : Int) (nextB N l a m l) (l.length : Int)) r → Ev (fun k => spec_l14Way.l0 k (N : Int) l (b : Int) (atB N l a m) ((m + 1 : Nat) : Int)) r := by
        intro r hr
        have h := inner l.length 0 r (by omega) hr
        rw [← e0] at h
        refine Ev.step (fun k => ?_) h
        simp only [spec_l14Way.l0]
        rw [if_pos (by omega), if_pos (by omega), if_pos (by omega), Int.toNat_natCast]
        rfl
      rw [nextB_all (fun e hel => (he e hel).1.1)] at close
      by_cases hw : Way l (m + 1) a b
      · refine ⟨m + 1, .inr ⟨by omega, hw, fun j hj hlt => hno j hj (by omega)⟩, close _ (Ev.succ (fun k => ?_))⟩
        simp only [spec_l14Way.l1]
        rw [if_neg (by omega), if_pos (by omega), atB_len, if_pos (by omega), if_pos ((atB_get (by omega) (by omega)).2 (by rw [Int.toNat_natCast]; exact hw))]
      · obtain ⟨d, hd, hev⟩ := ih (m + 1) (by omega) (fun j hj hle => by
          by_cases e : j = m + 1
          · rw [e]; exact hw
          · exact hno j hj (by omega))
        refine ⟨d, hd, close _ (Ev.step (fun k => ?_) hev)⟩
        simp only [spec_l14Way.l1]
        rw [if_neg (by omega), if_pos (by omega), atB_len, if_pos (by omega), if_neg (by
          intro hc
          have := (atB_get (by omega) (by omega)).1 hc
          rw [Int.toNat_natCast] at this
          exact hw this), w64_nat _ (by omega)]
  obtain ⟨d, hd, hev⟩ := key N 0 (by omega) (fun j hj hle => by omega)
  refine ⟨d, hd, ?_⟩
  unfold spec_l14Way.f
  refine Ev.congr (fun k => if_pos (by omega)) (Ev.congr (fun k => if_pos (by omega)) ?_)
  simp only [Option.bind_some]
  refine Ev.congr (fun k => if_pos (by omega)) (Ev.congr (fun k => if_pos (by rw [List.length_replicate]; omega)) ?_)
  have e : (List.replicate N false).set a true = atB N l a 0 := by
    apply List.ext_getElem
    · simp [atB]
    · intro j h1 h2
      rw [List.getElem_set]
      simp only [atB, List.getElem_map, List.getElem_range, List.getElem_replicate]
      by_cases h : a = j
      · rw [if_pos h]
        exact (wayB_iff.2 ⟨[], rfl, h⟩).symm
      · rw [if_neg h]
        symm
        rw [Bool.eq_false_iff]
        intro hc
        obtain ⟨p, hp, hw⟩ := wayB_iff.1 hc
        rw [List.length_eq_zero_iff.1 hp] at hw
        exact h hw
  rw [Int.toNat_natCast, Int.toNat_natCast, e]
  exact hev

-- chunk canon: the canonical order
def nextOf (N : Nat) (l : List IE) (o : List Int) : Option Nat := least (fun x => freeB l o (x : Int)) N
/-- m more numbers behind o. -/
def canonG (N : Nat) (l : List IE) : Nat → List Int → Option (List Int)
  | 0, o => some o
  | m + 1, o => match nextOf N l o with
    | some x => canonG N l m (o ++ [(x : Int)])
    | none => none
def canonP (n : Int) (l : List IE) : Option (List Int) := canonG n.toNat l n.toNat []
def pairOf : Option (List Int) → List Int × Bool
  | some o => (o, true)
  | none => ([], false)
/-- The reference's flags of a list of numbers. -/
def flags (N : Nat) (o : List Int) : List Bool := (List.range N).map fun x : Nat => decide ((x : Int) ∈ o)
theorem flags_len (N : Nat) (o : List Int) : (flags N o).length = N := by simp [flags]
theorem rd_flags {N : Nat} {o : List Int} {x : Int} (h0 : 0 ≤ x) (h1 : x < (N : Int)) : rdOf false (flags N o) x = decide (x ∈ o) := by
  obtain ⟨y, rfl⟩ : ∃ y : Nat, x = (y : Int) := ⟨x.toNat, by omega⟩
  rw [rdOf_lt _ _ (by rw [flags_len]; omega)]
  simp [flags]
theorem flags_set {N : Nat} {o : List Int} {x : Nat} (h : x < N) : (flags N o).set x true = flags N (o ++ [(x : Int)]) := by
  apply List.ext_getElem
  · simp [flags]
  · intro j h1 h2
    simp [flags, List.getElem_set] at h1 h2 ⊢
    by_cases e : x = j
    · simp [e]
    · have : (j : Int) ≠ (x : Int) := by omega
      simp [e, this]
theorem dist_of {l : List IE} {a b : Nat} : ∀ m, 0 < m → Way l m a b → ∃ d, isDist l a b d := by
  intro m
  induction m using Nat.strongRecOn with
  | _ m ih =>
    intro hm hw
    by_cases h : ∃ j, 0 < j ∧ j < m ∧ Way l j a b
    · obtain ⟨j, hj, hlt, hw2⟩ := h
      exact ih j hlt hj hw2
    · exact ⟨m, .inr ⟨hm, hw, fun j hj hlt hw2 => h ⟨j, hj, hlt, hw2⟩⟩⟩
theorem dist_ex (l : List IE) (a b : Nat) : ∃ d, isDist l a b d := by
  by_cases h : ∃ m, 0 < m ∧ Way l m a b
  · obtain ⟨m, hm, hw⟩ := h
    exact dist_of m hm hw
  · exact ⟨0, .inl ⟨rfl, fun m hm hw => h ⟨m, hm, hw⟩⟩⟩
noncomputable def dN (l : List IE) (a b : Nat) : Nat := Classical.choose (dist_ex l a b)
theorem dN_is (l : List IE) (a b : Nat) : isDist l a b (dN l a b) := Classical.choose_spec (dist_ex l a b)
theorem dN_eq {l : List IE} {a b d : Nat} (h : isDist l a b d) : dN l a b = d := isDist_unique (dN_is l a b) h
theorem dN_next {l : List IE} {a b d : Nat} (h : dN l a b = d + 2) : ∃ v, E l a v ∧ dN l v b = d + 1 := by
  have h1 := dN_is l a b
  rw [h] at h1
  rcases h1 with ⟨h0, _⟩ | ⟨_, ⟨p, hp, hw⟩, hmin⟩
  · omega
  · match p, hp with
    | v :: q, hq =>
      refine ⟨v, hw.1, dN_eq (.inr ⟨by omega, ⟨q, by simpa using hq, hw.2⟩, fun m hm hlt hw2 => ?_⟩)⟩
      exact hmin (1 + m) (by omega) (by omega) (Way.join (Way.one.2 hw.1) hw2)
theorem edge_within {n : Int} {l : List IE} (hg : graphOk n l = true) {a b : Nat} (h : E l a b) : (a : Int) < n ∧ (b : Int) < n := by
  obtain ⟨_, _, he⟩ := (graphOk_iff n l).1 hg
  obtain ⟨e, hel, h1, h2⟩ := h
  have := he e hel
  omega
def encO : Option Nat → Int
  | none => -1
  | some p => (p : Int)
def leO (D : Nat → Nat) (x : Nat) : Option Nat → Bool
  | none => true
  | some p => decide (x ≤ D p)
def cirAt (D : Nat → Nat) : Nat → Option Nat → Option Nat
  | 0, q => q
  | j + 1, q => cirAt D j (if 0 < D j ∧ leO D (D j) q = true then some j else q)
theorem cirAt_pos {D : Nat → Nat} {N : Nat} {i : Nat} {q : Option Nat} (hi : i ≤ N) (hq : ∀ p, q = some p → 0 < D p ∧ p < N) : ∀ p, cirAt D i q = some p → 0 < D p ∧ p < N := by
  induction i generalizing q with
  | zero => exact hq
  | succ j ih =>
    unfold cirAt
    refine ih (by omega) ?_
    intro p hp
    split at hp
    · rename_i h
      injection hp with hp
      subst hp
      exact ⟨h.1, by omega⟩
    · exact hq p hp
def tableOf (l : List IE) (N : Nat) (M : List Int) : Prop := ∀ a b, a < N → b < N → dGet M a b = if dN l a b = 0 then -1 else (dN l a b : Int)
theorem cScan_eq {l : List IE} {N : Nat} {M : List Int} (hM : tableOf l N M) {i : Nat} {q : Option Nat} (hi : i ≤ N) (hq : ∀ p, q = some p → 0 < dN l p p ∧ p < N) :
    cScan M i (encO q) = encO (cirAt (fun j => dN l j j) i q) := by
  induction i generalizing q with
  | zero => rfl
  | succ j ih =>
    rw [cScan_succ]
    unfold cirAt
    have hj := hM j j (by omega) (by omega)
    have hc : (dGet M j j > 0 ∧ (encO q < 0 ∨ dGet M j j ≤ dGet M (encO q).toNat (encO q).toNat)) ↔ (0 < dN l j j ∧ leO (fun j => dN l j j) (dN l j j) q = true) := by
      cases q with
      | none =>
        simp only [encO, leO]
        rw [hj]
        split <;> simp <;> omega
      | some p =>
        have hp := hq p rfl
        have hpp := hM p p hp.2 hp.2
        simp only [encO, Int.toNat_natCast, leO, decide_eq_true_eq]
        rw [hpp, if_neg (by omega), hj]
        split <;> omega
    by_cases c : 0 < dN l j j ∧ leO (fun j => dN l j j) (dN l j j) q = true
    · rw [if_pos (hc.2 c), if_pos c]
      exact ih (q := some j) (by omega) (fun p hp => by injection hp with hp; subst hp; exact ⟨c.1, by omega⟩)
    · rw [if_neg (fun h => c (hc.1 h)), if_neg c]
      exact ih (by omega) hq
noncomputable def nextC (l : List IE) (q : Nat) (last : Int) (left : Nat) (v : Nat) : Bool := decide (E l last.toNat v) && decide (dN l v q = left)
noncomputable def cwalk (l : List IE) (N q : Nat) : Nat → List Int → List Int
  | 0, o => o
  | m + 1, o => match (List.range N).find? (nextC l q (o.getLastD 0) (m + 1)) with
    | some v => cwalk l N q m (o ++ [(v : Int)])
    | none => cwalk l N q m o
theorem dN_one {l : List IE} {a b : Nat} : dN l a b = 1 ↔ E l a b := by
  constructor
  · intro h
    have h1 := dN_is l a b
    rw [h] at h1
    rcases h1 with ⟨h0, _⟩ | ⟨_, hw, _⟩
    · omega
    · exact Way.one.1 hw
  · intro h
    exact dN_eq (.inr ⟨by omega, Way.one.2 h, fun m hm hlt => by omega⟩)
theorem find_congr {α : Type} {p q : α → Bool} {xs : List α} (h : ∀ x ∈ xs, p x = q x) : xs.find? p = xs.find? q := by
  induction xs with
  | nil => rfl
  | cons a xs ih =>
    rw [List.find?_cons, List.find?_cons, h a (by simp), ih (fun x hx => h x (by simp [hx]))]
theorem cLoop_eq {l : List IE} {N : Nat} {M : List Int} (hM : tableOf l N M) {q : Nat} (hq : q < N) {m : Nat} {o : List Int} (ho : ∀ x ∈ o, 0 ≤ x ∧ x < (N : Int)) (hne : o ≠ []) : cLoop M N q m o = cwalk l N q m o := by
  induction m generalizing o with
  | zero => rfl
  | succ m ih =>
    unfold cLoop cwalk
    have hl : 0 ≤ o.getLastD 0 ∧ o.getLastD 0 < (N : Int) := by
      refine ho _ ?_
      rw [List.getLastD_eq_getLast?, List.getLast?_eq_some_getLast hne]
      exact List.getLast_mem hne
    have e : (List.range N).find? (cNext M N q (o.getLastD 0) ((m + 1 : Nat) : Int)) = (List.range N).find? (nextC l q (o.getLastD 0) (m + 1)) := by
      refine find_congr fun v hv => ?_
      have hv := List.mem_range.1 hv
      unfold cNext nextC
      have h1 := hM (o.getLastD 0).toNat v (by omega) hv
      have h2 := hM v q hv hq
      have c1 : dGet M (o.getLastD 0).toNat v = 1 ↔ E l (o.getLastD 0).toNat v := by
        rw [h1, ← dN_one]
        split <;> omega
      have c2 : dGet M v q = ((m + 1 : Nat) : Int) ↔ dN l v q = m + 1 := by
        rw [h2]
        split <;> omega
      rw [decide_eq_decide.2 c1, decide_eq_decide.2 c2]
    rw [e]
    cases hf : (List.range N).find? (nextC l q (o.getLastD 0) (m + 1)) with
    | none => exact ih ho hne
    | some v =>
      have hv : v < N := List.mem_range.1 (List.mem_of_find?_eq_some hf)
      refine ih (fun x hx => ?_) (by simp)
      rcases List.mem_append.1 hx with hx | hx
      · exact ho x hx
      · rw [List.mem_singleton.1 hx]; omega
noncomputable def circP (l : List IE) (N : Nat) : List Int := match cirAt (fun j => dN l j j) N none with
  | none => []
  | some q => cwalk l N q (dN l q q - 1) [(q : Int)]
noncomputable def circleP (n : Int) (l : List IE) : List Int := if graphOk n l = true then circP l n.toNat else []
theorem impl_Circle_ev (n : Int) (l : List IE) : Ev (fun k => impl_Circle.f k n l) (circleP n l) := by
  unfold impl_Circle.f circleP
  refine Ev.bind (impl_GraphOk_ev n l) ?_
  cases hg : graphOk n l with
  | false => exact Ev.of_eq fun k => rfl
  | true =>
    obtain ⟨hn, hlen, he⟩ := (graphOk_iff n l).1 hg
    obtain ⟨M, e, hML, ht⟩ := dist_tells hg
    have hM : tableOf l n.toNat M := fun a b ha hb => by
      obtain ⟨d, hd, hm⟩ := ht a b (by omega) (by omega)
      rw [hm, dN_eq hd]
    rw [if_pos rfl]
    refine Ev.of_eq fun k => ?_
    rw [if_pos rfl, e]
    simp only [Option.bind_some]
    have hs := cScan_eq hM (i := n.toNat) (q := none) (Nat.le_refl _) (fun p hp => by cases hp)
    rw [show (-1 : Int) = encO none from rfl, hs]
    unfold circP
    cases hc : cirAt (fun j => dN l j j) n.toNat none with
    | none => rw [if_pos (by simp [encO])]
    | some q =>
      have hq := cirAt_pos (N := n.toNat) (Nat.le_refl _) (fun p hp => by cases hp) q hc
      have hqq := hM q q hq.2 hq.2
      rw [if_neg (by have := hq.1; omega)] at hqq
      have hle : dN l q q ≤ n.toNat := isDist_le (N := n.toNat) (fun a b h => by have := edge_within hg h; omega) (dN_is l q q)
      have h0 := hq.1
      rw [show encO (some q) = (q : Int) from rfl, Int.toNat_natCast, if_neg (by omega), hqq, if_pos (by omega), cLoop_eq hM hq.2 (fun x hx => by rw [List.mem_singleton.1 hx]; omega) (by simp)]
      rw [show ((dN l q q : Int) - 1).toNat = dN l q q - 1 by omega]
theorem l14Edge_ev {l : List IE} (hl : l.length ≤ 200) (a b : Nat) : Ev (fun k => spec_l14Edge.f k l (a : Int) (b : Int)) (decide (E l a b)) := by
  unfold spec_l14Edge.f
  have key : ∀ (d i : Nat), i + d = l.length → Ev (fun k => spec_l14Edge.l0 k l (a : Int) (b : Int) (i : Int)) (decide (E (l.drop i) a b)) := by
    intro d
    induction d with
    | zero =>
      intro i hi
      obtain rfl : i = l.length := by omega
      have : ¬ E (l.drop l.length) a b := by rintro ⟨e, he, _⟩; simp at he
      rw [decide_eq_false this]
      refine Ev.succ (fun k => ?_)
      simp only [spec_l14Edge.l0]
      rw [if_neg (by omega)]
    | succ d ih =>
      intro i hi
      have h : i < l.length := by omega
      have hd : l.drop i = l[i] :: l.drop (i + 1) := List.drop_eq_getElem_cons h
      by_cases c : l[i].f0 = (a : Int) ∧ l[i].f1 = (b : Int)
      · have : E (l.drop i) a b := ⟨l[i], by rw [hd]; exact List.mem_cons_self, c.1, c.2⟩
        rw [decide_eq_true this]
        refine Ev.succ (fun k => ?_)
        simp only [spec_l14Edge.l0]
        rw [if_pos (by omega), if_pos (by omega), rd_IE h, if_pos c.1, if_pos c.2]
      · have : E (l.drop i) a b ↔ E (l.drop (i + 1)) a b := by
          rw [hd]
          constructor
          · rintro ⟨e, he, h1, h2⟩
            rcases List.mem_cons.1 he with rfl | he
            · exact absurd ⟨h1, h2⟩ c
            · exact ⟨e, he, h1, h2⟩
          · rintro ⟨e, he, h1, h2⟩; exact ⟨e, List.mem_cons_of_mem _ he, h1, h2⟩
        rw [decide_eq_decide.2 this]
        refine Ev.step (fun k => ?_) (ih (i + 1) (by omega))
        simp only [spec_l14Edge.l0]
        rw [if_pos (by omega), if_pos (by omega), rd_IE h, w64_succ h (by omega)]
        by_cases c1 : l[i].f0 = (a : Int)
        · rw [if_pos c1, if_neg (fun h2 => c ⟨c1, h2⟩)]
        · rw [if_neg c1]
  exact key l.length 0 (by omega)
theorem way_dN {n : Int} {l : List IE} (hg : graphOk n l = true) {a b : Nat} (ha : (a : Int) < n) (hb : (b : Int) < n) : Ev (fun k => spec_l14Way.f k n l (a : Int) (b : Int)) (dN l a b : Int) := by
  obtain ⟨d, hd, h⟩ := l14Way_ev hg ha hb
  rw [dN_eq hd]
  exact h
theorem spec_walk_ev {N : Nat} {l : List IE} (hg : graphOk (N : Int) l = true) {q : Nat} (hq : q < N) (best : Nat) (hbest : best ≤ 16) : ∀ (m : Nat) (o : List Int), o.length + m = best → (∀ x ∈ o, 0 ≤ x ∧ x < (N : Int)) → o ≠ [] → dN l (o.getLastD 0).toNat q = m + 1 →
    Ev (fun k => spec_Circle.l1 k (N : Int) l o (best : Int) (q : Int)) (cwalk l N q m o) := by
  obtain ⟨hn, hlen, he⟩ := (graphOk_iff _ l).1 hg
  intro m
  induction m with
  | zero =>
    intro o ho _ _ _
    refine Ev.succ (fun k => ?_)
    simp only [spec_Circle.l1]
    rw [if_neg (by omega)]
    rfl
  | succ m ih =>
    intro o ho hall hne hd
    obtain ⟨t, ht⟩ : ∃ t, o.length = t + 1 := ⟨o.length - 1, by have := List.length_pos_iff.2 hne; omega⟩
    have hlast : rd o (t : Int) = o.getLastD 0 := by
      rw [rd_lt _ (by omega), List.getLastD_eq_getLast?, List.getLast?_eq_getElem?, show o.length - 1 = t by omega, List.getElem?_eq_getElem (by omega)]
      rfl
    have hz0 : 0 ≤ o.getLastD 0 ∧ o.getLastD 0 < (N : Int) := by
      refine hall _ ?_
      rw [List.getLastD_eq_getLast?, List.getLast?_eq_some_getLast hne]
      exact List.getLast_mem hne
    obtain ⟨z, hz⟩ : ∃ z : Nat, o.getLastD 0 = (z : Int) := ⟨(o.getLastD 0).toNat, by omega⟩
    rw [hz, Int.toNat_natCast] at hd
    obtain ⟨v0, hE0, hd0⟩ := dN_next hd
    have hv0 := edge_within hg hE0
    unfold cwalk
    rw [hz]
    refine Ev.step (f := fun k => spec_Circle.l2 k (N : Int) l o (best : Int) (q : Int) ((m + 1 : Nat) : Int) 0) (fun k => ?_) ?_
    · simp only [spec_Circle.l1]
      rw [if_pos (by omega), w64 (by omega) (by omega), show (best : Int) - (o.length : Int) = ((m + 1 : Nat) : Int) by omega]
    · have key : ∀ (d i : Nat), i + d = N → i ≤ v0 → Ev (fun k => spec_Circle.l2 k (N : Int) l o (best : Int) (q : Int) ((m + 1 : Nat) : Int) (i : Int)) (match ((List.range N).drop i).find? (nextC l q (z : Int) (m + 1)) with
          | some v => cwalk l N q m (o ++ [(v : Int)])
          | none => cwalk l N q m o) := by
        intro d
        induction d with
        | zero => intro i hi hv; omega
        | succ d ihd =>
          intro i hi hv
          have hi2 : i < N := by omega
          rw [List.drop_eq_getElem_cons (by simpa using hi2), List.getElem_range, List.find?_cons]
          refine Ev.step (f := fun k => (spec_l14Edge.f k l (z : Int) (i : Int)).bind fun t155 => (if t155 = true then ((spec_l14Way.f k (N : Int) l (i : Int) (q : Int)).bind fun t156 => (if t156 = ((m + 1 : Nat) : Int) then (if o.length < 17592186044416 then (spec_Circle.l1 k (N : Int) l (o ++ [(i : Int)]) (best : Int) (q : Int)) else (none)) else (spec_Circle.l2 k (N : Int) l o (best : Int) (q : Int) ((m + 1 : Nat) : Int) ((i + 1 : Nat) : Int)))) else (spec_Circle.l2 k (N : Int) l o (best : Int) (q : Int) ((m + 1 : Nat) : Int) ((i + 1 : Nat) : Int)))) (fun k => ?_) ?_
          · simp only [spec_Circle.l2]
            rw [w64 (x := (o.length : Int) - 1) (by omega) (by omega), show (o.length : Int) - 1 = (t : Int) by omega, if_pos (by omega), if_pos (by omega), if_pos (by omega), hlast, hz, w64_nat i (by omega)]
          · refine Ev.bind (l14Edge_ev (by omega) z i) ?_
            by_cases cE : E l z i
            · rw [decide_eq_true cE]
              refine Ev.congr (fun k => if_pos rfl) (Ev.bind (way_dN hg (by omega) (by omega)) ?_)
              by_cases cd : dN l i q = m + 1
              · have hn1 : nextC l q (z : Int) (m + 1) i = true := by unfold nextC; rw [Int.toNat_natCast, decide_eq_true cE, decide_eq_true cd]; rfl
                rw [hn1]
                refine Ev.congr (fun k => if_pos (by omega)) (Ev.congr (fun k => if_pos (by omega)) (ih (o ++ [(i : Int)]) (by simp; omega) (fun x hx => ?_) (by simp) (by simp [cd])))
                rcases List.mem_append.1 hx with hx | hx
                · exact hall x hx
                · rw [List.mem_singleton.1 hx]; omega
              · have hn1 : nextC l q (z : Int) (m + 1) i = false := by unfold nextC; rw [decide_eq_false cd, Bool.and_false]
                rw [hn1]
                exact Ev.congr (fun k => if_neg (by omega)) (ihd (i + 1) (by omega) (by
                  apply Classical.byContradiction
                  intro hv2
                  obtain rfl : i = v0 := by omega
                  exact cd hd0))
            · rw [decide_eq_false cE]
              have hn1 : nextC l q (z : Int) (m + 1) i = false := by unfold nextC; rw [Int.toNat_natCast, decide_eq_false cE]; rfl
              rw [hn1]
              exact Ev.congr (fun k => if_neg (by simp)) (ihd (i + 1) (by omega) (by
                apply Classical.byContradiction
                intro hv2
                obtain rfl : i = v0 := by omega
                exact cE hE0))
      have h := key N 0 (by omega) (by omega)
      rw [List.drop_zero] at h
      exact h
def bestOf (D : Nat → Nat) : Option Nat → Int
  | none => 0
  | some p => (D p : Int)
def firstOf : Option Nat → Int
  | none => 0
  | some p => (p : Int)
theorem spec_Circle_ev (n : Int) (l : List IE) : Ev (fun k => spec_Circle.f k n l) (circleP n l) := by
  unfold spec_Circle.f circleP
  simp only [Option.bind_some]
  refine Ev.bind (spec_GraphOk_ev n l) ?_
  cases hg : graphOk n l with
  | false => exact Ev.of_eq fun k => rfl
  | true =>
    obtain ⟨hn, hlen, he⟩ := (graphOk_iff n l).1 hg
    obtain ⟨N, rfl⟩ : ∃ N : Nat, n = (N : Int) := ⟨n.toNat, by omega⟩
    rw [if_pos rfl, Int.toNat_natCast]
    refine Ev.congr (fun k => if_pos rfl) ?_
    rw [w64 (by omega) (by omega)]
    have key : ∀ (i : Nat) (q : Option Nat), i ≤ N → (∀ p, q = some p → 0 < dN l p p ∧ p < N) → Ev (fun k => spec_Circle.l0 k (N : Int) l [] (bestOf (fun j => dN l j j) q) (firstOf q) ((i : Int) - 1)) (match cirAt (fun j => dN l j j) i q with
        | none => []
        | some q => cwalk l N q (dN l q q - 1) [(q : Int)]) := by
      intro i
      induction i with
      | zero =>
        intro q hi hq
        cases q with
        | none =>
          refine Ev.succ (fun k => ?_)
          simp only [spec_Circle.l0]
          rw [if_neg (by omega), if_pos (show bestOf (fun j => dN l j j) none = 0 from rfl)]
          rfl
        | some p =>
          have hp := hq p rfl
          have hle : dN l p p ≤ N := isDist_le (N := N) (fun a b h => by have := edge_within hg h; omega) (dN_is l p p)
          refine Ev.step (f := fun k => spec_Circle.l1 k (N : Int) l ([] ++ [(p : Int)]) (dN l p p : Int) (p : Int)) (fun k => ?_) ?_
          · simp only [spec_Circle.l0]
            rw [show bestOf (fun j => dN l j j) (some p) = (dN l p p : Int) from rfl, show firstOf (some p) = (p : Int) from rfl, if_neg (by omega), if_neg (by have := hp.1; omega), if_pos (by simp)]
          · have h := spec_walk_ev hg hp.2 (dN l p p) (by omega) (dN l p p - 1) [(p : Int)] (by have := hp.1; simp; omega) (fun x hx => by rw [List.mem_singleton.1 hx]; omega) (by simp) (by have := hp.1; simp; omega)
            exact h
      | succ j ih =>
        intro q hi hq
        refine Ev.step (f := fun k => (spec_l14Way.f k (N : Int) l (j : Int) (j : Int)).bind fun t150 => (if t150 > 0 then (if (bestOf (fun j => dN l j j) q) = 0 then (spec_Circle.l0 k (N : Int) l [] t150 (j : Int) ((j : Int) - 1)) else (if t150 ≤ (bestOf (fun j => dN l j j) q) then (spec_Circle.l0 k (N : Int) l [] t150 (j : Int) ((j : Int) - 1)) else (spec_Circle.l0 k (N : Int) l [] (bestOf (fun j => dN l j j) q) (firstOf q) ((j : Int) - 1)))) else (spec_Circle.l0 k (N : Int) l [] (bestOf (fun j => dN l j j) q) (firstOf q) ((j : Int) - 1)))) (fun k => ?_) ?_
        · simp only [spec_Circle.l0]
          rw [show (((j + 1 : Nat) : Int) - 1) = (j : Int) by omega, if_pos (by omega), w64 (x := (j : Int) - 1) (by omega) (by omega)]
        · refine Ev.bind (way_dN hg (by omega) (by omega)) ?_
          unfold cirAt
          by_cases c0 : 0 < dN l j j
          · refine Ev.congr (fun k => if_pos (by omega)) ?_
            cases q with
            | none =>
              rw [if_pos ⟨c0, rfl⟩]
              exact Ev.congr (fun k => if_pos rfl) (ih (some j) (by omega) (fun p hp => by injection hp with hp; subst hp; exact ⟨c0, by omega⟩))
            | some p =>
              have hp := hq p rfl
              refine Ev.congr (fun k => if_neg (by have := hp.1; simp only [bestOf]; omega)) ?_
              by_cases c1 : dN l j j ≤ dN l p p
              · rw [if_pos ⟨c0, decide_eq_true c1⟩]
                exact Ev.congr (fun k => if_pos (by simp only [bestOf]; omega)) (ih (some j) (by omega) (fun p hp => by injection hp with hp; subst hp; exact ⟨c0, by omega⟩))
              · rw [if_neg (fun h => c1 (of_decide_eq_true h.2))]
                exact Ev.congr (fun k => if_neg (by simp only [bestOf]; omega)) (ih (some p) (by omega) hq)
          · rw [if_neg (fun h => c0 h.1)]
            exact Ev.congr (fun k => if_neg (by omega)) (ih q (by omega) hq)
    have h := key N none (Nat.le_refl _) (fun p hp => by cases hp)
    unfold circP
    exact h
theorem cwalk_len (l : List IE) (N q m : Nat) (o : List Int) : (cwalk l N q m o).length ≤ o.length + m := by
  induction m generalizing o with
  | zero => exact Nat.le_refl _
  | succ m ih =>
    unfold cwalk
    split
    · refine Nat.le_trans (ih _) ?_
      simp; omega
    · exact Nat.le_trans (ih _) (by omega)
theorem circleP_len (n : Int) (l : List IE) : (circleP n l).length ≤ 16 := by
  unfold circleP
  split
  · rename_i hg
    obtain ⟨hn, hlen, he⟩ := (graphOk_iff n l).1 hg
    unfold circP
    cases hc : cirAt (fun j => dN l j j) n.toNat none with
    | none => simp
    | some q =>
      have hq := cirAt_pos (N := n.toNat) (Nat.le_refl _) (fun p hp => by cases hp) q hc
      have hle : dN l q q ≤ n.toNat := isDist_le (N := n.toNat) (fun a b h => by have := edge_within hg h; omega) (dN_is l q q)
      have := cwalk_len l n.toNat q (dN l q q - 1) [(q : Int)]
      simp at this
      have h0 := hq.1
      simp only
      omega
  · simp

-- chunk ints: lists of numbers are copied, and the same as themselves
theorem eqIntS_refl {l : List Int} (hl : l.length ≤ 35184372088832) : Ev (fun k => laws_eqIntS.f k l l) true := by
  unfold laws_eqIntS.f
  simp only [if_true]
  refine down_ev (fun k i => laws_eqIntS.l0 k l l i) l.length true (fun i h hr => ?_) ?_ 0 (by omega)
  · refine Ev.step (fun k => ?_) hr
    simp only [laws_eqIntS.l0]
    rw [if_pos (by omega), if_pos (by omega), if_pos (by omega), if_pos trivial, w64_succ h (by omega)]
  · refine Ev.succ (fun k => ?_)
    simp only [laws_eqIntS.l0]
    rw [if_neg (by omega)]

-- chunk marks: what the laws write to see whether memory is shared
theorem markIntS_ev {l : List Int} (a : Int) (hl : l.length ≤ 4611686018427387904) (h0 : 0 ≤ a) (h1 : a ≤ 4611686018427387902) : Ev (fun k => laws_markIntS.f k l a) (a + l.length, (List.range l.length).map fun i : Nat => a + (i : Int)) := by
  unfold laws_markIntS.f
  have key : ∀ (d i : Nat) (ys : List Int), ys.length = l.length → i + d = l.length → (∀ j (hj : j < i), ys[j]? = some (a + (j : Int))) →
      Ev (fun k => laws_markIntS.l0 k ys (a + i) (i : Int)) (a + l.length, (List.range l.length).map fun i : Nat => a + (i : Int)) := by
    intro d
    induction d with
    | zero =>
      intro i ys hy hi hj
      obtain rfl : i = l.length := by omega
      refine Ev.succ (fun k => ?_)
      simp only [laws_markIntS.l0]
      rw [if_neg (by omega)]
      have : (List.range l.length).map (fun i : Nat => a + (i : Int)) = ys := by
        apply List.ext_getElem?
        intro j
        by_cases hjj : j < l.length
        · rw [hj j hjj, List.getElem?_map, List.getElem?_range hjj]; rfl
        · rw [List.getElem?_eq_none (by simpa using hjj), List.getElem?_eq_none (by omega)]
      rw [this]
    | succ d ih =>
      intro i ys hy hi hj
      have h := ih (i + 1) (ys.set i (a + i)) (by simpa using hy) (by omega) (fun j hj1 => by
        by_cases e : j = i
        · subst e
          rw [List.getElem?_set_self (by omega)]
        · rw [List.getElem?_set_ne (by omega)]
          exact hj j (by omega))
      refine Ev.step (fun k => ?_) h
      simp only [laws_markIntS.l0]
      rw [if_pos (by omega), if_pos (by omega), w64_succ (n := l.length) (by omega) (by omega), Int.toNat_natCast, w64 (by omega) (by omega)]
      rw [show a + (i : Int) + 1 = a + ((i + 1 : Nat) : Int) by omega]
  have h := key l.length 0 l rfl (by omega) (fun j hj => by omega)
  simpa using h
theorem heldIntS_ev {n : Nat} (a : Int) (hn : n ≤ 4611686018427387904) (h0 : 0 ≤ a) (h1 : a ≤ 4611686018427387902) : Ev (fun k => laws_heldIntS.f k ((List.range n).map fun i : Nat => a + (i : Int)) a) (a + n) := by
  unfold laws_heldIntS.f
  have key : ∀ (d i : Nat), i + d = n → Ev (fun k => laws_heldIntS.l0 k ((List.range n).map fun i : Nat => a + (i : Int)) (a + i) (i : Int)) (a + n) := by
    intro d
    induction d with
    | zero =>
      intro i hi
      obtain rfl : i = n := by omega
      refine Ev.succ (fun k => ?_)
      simp only [laws_heldIntS.l0, List.length_map, List.length_range]
      rw [if_neg (by omega)]
    | succ d ih =>
      intro i hi
      refine Ev.step (fun k => ?_) (ih (i + 1) (by omega))
      simp only [laws_heldIntS.l0, List.length_map, List.length_range]
      rw [if_pos (by omega), if_pos (by omega), rd_lt _ (by simp; omega), if_pos (by simp), w64_succ (n := n) (by omega) (by omega), w64 (by omega) (by omega)]
      rw [show a + (i : Int) + 1 = a + ((i + 1 : Nat) : Int) by omega]
  have h := key n 0 (by omega)
  simpa using h
/-- Lists of edges that are written: only how many, and that it goes. -/
theorem markEdgeS_ev {l : List IE} (a : Int) (hl : l.length ≤ 17592186044416) (h0 : 0 ≤ a) (h1 : a ≤ 17592186044416) : ∃ ys, Ev (fun k => laws_markEdgeS.f k l a) (a + 2 * l.length, ys) := by
  unfold laws_markEdgeS.f
  have key : ∀ (d i : Nat) (ys : List IE), ys.length = l.length → i + d = l.length →
      ∃ zs, Ev (fun k => laws_markEdgeS.l0 k ys (a + 2 * i) (i : Int)) (a + 2 * l.length, zs) := by
    intro d
    induction d with
    | zero =>
      intro i ys hy hi
      obtain rfl : i = l.length := by omega
      refine ⟨ys, Ev.succ (fun k => ?_)⟩
      simp only [laws_markEdgeS.l0]
      rw [if_neg (by omega)]
    | succ d ih =>
      intro i ys hy hi
      obtain ⟨zs, h⟩ := ih (i + 1) ((ys.set i ⟨a + 2 * i, (rd_T60 ys i).f1⟩).set i ⟨(rd_T60 (ys.set i ⟨a + 2 * i, (rd_T60 ys i).f1⟩) i).f0, a + 2 * i + 1⟩) (by simpa using hy) (by omega)
      refine ⟨zs, Ev.step (fun k => ?_) h⟩
      simp only [laws_markEdgeS.l0]
      rw [if_pos (by omega), if_pos (by omega), w64_succ (n := l.length) (by omega) (by omega), Int.toNat_natCast]
      simp only [Option.bind_some]
      rw [w64 (x := a + 2 * (i : Int) + 1) (by omega) (by omega), w64 (x := a + 2 * (i : Int) + 1 + 1) (by omega) (by omega)]
      rw [show a + 2 * (i : Int) + 1 + 1 = a + 2 * ((i + 1 : Nat) : Int) by omega]
  have h := key l.length 0 l rfl (by omega)
  simpa using h

theorem proof : Pure := by
  intro n l _ hl
  refine Ev.rounds ?_
  unfold laws_FnExactCircle.f
  by_cases hb : 1048576 < l.length
  · exact Ev.bindc (szEdgeS_big hl.1 hb) (Ev.of_eq fun k => by simp)
  refine Ev.bindc (szEdgeS_eq l _) ?_
  rw [w64 (by omega) (by omega), if_neg (by omega)]
  refine Ev.congr (fun k => if_neg (by omega)) ?_
  have hm : (l.map toE).length ≤ 17592186044416 := by rw [List.length_map]; omega
  have hlen := circleP_len n (l.map toE)
  have hi := impl_Circle_ev n (l.map toE)
  have hs := spec_Circle_ev n (l.map toE)
  generalize circleP n (l.map toE) = c at hlen hi hs
  refine Ev.bind (toEdgeS_ev (by omega)) (Ev.bind hs (Ev.bind (toEdgeS_ev (by omega)) (Ev.bind hi ?_)))
  refine Ev.bind (eqIntS_refl (by omega)) (Ev.congr (fun k => if_pos rfl) ?_)
  refine Ev.bind (toEdgeS_ev (by omega)) (Ev.bind (eqEdgeS_refl hm) (Ev.congr (fun k => if_pos rfl) ?_))
  obtain ⟨ys, hy⟩ := markEdgeS_ev 1 hm (by omega) (by omega)
  refine Ev.bind hy (Ev.congr (fun k => if_neg (by omega)) ?_)
  refine Ev.bind (eqIntS_refl (by omega)) ?_
  refine Ev.step (f := fun k => _) (fun k => by simp only [laws_FnExactCircle.j0]; rw [if_neg (by simp)]) ?_
  refine Ev.bind (markIntS_ev 1 (by omega) (by omega) (by omega)) ?_
  refine Ev.bind (heldIntS_ev 1 (by omega) (by omega) (by omega)) (Ev.congr (fun k => if_neg (by omega)) (Ev.congr (fun k => if_pos rfl) ?_))
  refine Ev.bind (toEdgeS_ev (by omega)) (Ev.bind hi (Ev.bind (eqIntS_refl (by omega)) (Ev.congr (fun k => if_pos rfl) ?_)))
  exact Ev.bind (heldIntS_ev 1 (by omega) (by omega) (by omega)) (Ev.of_eq fun k => by rw [if_neg (by omega), if_pos rfl])


end Go.Proofs.Ytapbpfbhghheeaa.fnExactCircle
