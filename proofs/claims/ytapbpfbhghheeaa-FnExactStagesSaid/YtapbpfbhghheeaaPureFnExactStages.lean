/- The law FnExactStages holds of the program's own functions, told over lists and numbers: for every argument it returns true. Conditions: none beyond the given row's own. -/
import Derived.Test.YtapbpfbhghheeaaSaysFnExactStages
import Derived.Test.YtapbpfbhghheeaaKit
namespace Go.Proofs.Ytapbpfbhghheeaa.fnExactStages
open Go.RowKit Go.Proofs.Ytapbpfbhghheeaa.PFnExactStages Go.Proofs.YtapbpfbhghheeaaW.PrintWords Go.Proofs.YtapbpfbhghheeaaW.PrintLast Go.Proofs.Ytapbpfbhghheeaa.Own
set_option linter.unusedVariables false
set_option linter.unusedSimpArgs false
-- chunk ints: lists of numbers are copied, and the same as themselves
theorem toIntS_ev {l : List Int} (hl : l.length ≤ 35184372088832) : Ev (fun k => laws_toIntS.f k l) l := by
  unfold laws_toIntS.f
  simp only [Int.natCast_nonneg, if_true, Int.toNat_natCast, if_pos hl]
  have h := fill_ev l (fun x : Int => x) (fun k ys i => laws_toIntS.l0 k l ys i) (fun i h ys hy r hr => ?_) (fun ys => ?_) (List.replicate l.length 0) (by simp)
  · simpa using h
  · refine Ev.step (fun k => ?_) hr
    simp only [laws_toIntS.l0]
    rw [if_pos (by omega), if_pos (by omega), if_pos (by omega), rd_lt _ h, w64_succ h (by omega), Int.toNat_natCast]
  · refine Ev.succ (fun k => ?_)
    simp only [laws_toIntS.l0]
    rw [if_neg (by omega)]
theorem eqIntS_refl {l : List Int} (hl : l.length ≤ 35184372088832) : Ev (fun k => laws_eqIntS.f k l l) true := by
  unfold laws_eqIntS.f
  simp only [if_true]
  refine down_ev (fun k i => laws_eqIntS.l0 k l l i) l.length true (fun i h hr => ?_) ?_ 0 (by omega)
  · refine Ev.step (fun k => ?_) hr
    simp only [laws_eqIntS.l0]
    rw [if_pos (by omega), if_pos (by omega), if_pos (by omega), if_pos trivial, w64_succ h (by omega)]
  · refine Ev.succ (fun k => ?_)
    simp only [laws_eqIntS.l0]
    rw [if_neg (by omega)]

-- chunk effects: lists of effects are copied, and the same as themselves
abbrev LF := S129
abbrev IF := S130
def toF (x : LF) : IF := ⟨x.f0, x.f1, x.f2, x.f3, x.f4, x.f5, x.f6, x.f7, x.f8, x.f9⟩
/-- An effect all of whose lists are of a bearable length. -/
def smallF (m : Nat) (x : LF) : Prop := x.f0.length ≤ m ∧ x.f1.length ≤ m ∧ x.f2.length ≤ m ∧ x.f3.length ≤ m ∧ x.f4.length ≤ m ∧ x.f5.length ≤ m ∧ x.f6.length ≤ m ∧ x.f7.length ≤ m
theorem szIntS_eq (l : List Int) (a : Int) : laws_szIntS.f l a = some (if wrap64 (a - (l.length : Int)) < 0 then -1 else wrap64 (a - (l.length : Int))) := by
  unfold laws_szIntS.f; split <;> rfl
theorem szIntS_cases {l : List Int} (hl : l.length ≤ maxLen) {a : Int} (h0 : 0 ≤ a) (h1 : a ≤ 1048576) :
    (laws_szIntS.f l a = some (-1)) ∨ (laws_szIntS.f l a = some (a - l.length) ∧ (l.length : Int) ≤ a) := by
  unfold maxLen at hl
  rw [szIntS_eq, w64 (by omega) (by omega)]
  by_cases h : a - (l.length : Int) < 0
  · left; rw [if_pos h]
  · right; rw [if_neg h]; exact ⟨rfl, by omega⟩
theorem szEffect_cases {f0 f1 f2 f3 f4 f5 f6 f7 : List Int} (b8 b9 : Bool) (h : f0.length ≤ maxLen ∧ f1.length ≤ maxLen ∧ f2.length ≤ maxLen ∧ f3.length ≤ maxLen ∧ f4.length ≤ maxLen ∧ f5.length ≤ maxLen ∧ f6.length ≤ maxLen ∧ f7.length ≤ maxLen) {a : Int} (h0 : 0 ≤ a) (h1 : a ≤ 1048576) :
    (laws_szEffect.f f0 f1 f2 f3 f4 f5 f6 f7 b8 b9 a = some (-1)) ∨ (∃ r, laws_szEffect.f f0 f1 f2 f3 f4 f5 f6 f7 b8 b9 a = some r ∧ 0 ≤ r ∧ r ≤ a ∧
      (f0.length ≤ 1048576 ∧ f1.length ≤ 1048576 ∧ f2.length ≤ 1048576 ∧ f3.length ≤ 1048576 ∧ f4.length ≤ 1048576 ∧ f5.length ≤ 1048576 ∧ f6.length ≤ 1048576 ∧ f7.length ≤ 1048576)) := by
  obtain ⟨l0, l1, l2, l3, l4, l5, l6, l7⟩ := h
  unfold laws_szEffect.f
  rcases szIntS_cases l0 h0 h1 with e | ⟨e0, p0⟩
  · left; rw [e]; rfl
  rw [e0]; simp only [Option.bind_some]; rw [if_neg (by omega)]
  rcases szIntS_cases l1 (a := a - f0.length) (by omega) (by omega) with e | ⟨e1, p1⟩
  · left; rw [e]; rfl
  rw [e1]; simp only [Option.bind_some]; rw [if_neg (by omega)]
  rcases szIntS_cases l2 (a := a - f0.length - f1.length) (by omega) (by omega) with e | ⟨e2, p2⟩
  · left; rw [e]; rfl
  rw [e2]; simp only [Option.bind_some]; rw [if_neg (by omega)]
  rcases szIntS_cases l3 (a := a - f0.length - f1.length - f2.length) (by omega) (by omega) with e | ⟨e3, p3⟩
  · left; rw [e]; rfl
  rw [e3]; simp only [Option.bind_some]; rw [if_neg (by omega)]
  rcases szIntS_cases l4 (a := a - f0.length - f1.length - f2.length - f3.length) (by omega) (by omega) with e | ⟨e4, p4⟩
  · left; rw [e]; rfl
  rw [e4]; simp only [Option.bind_some]; rw [if_neg (by omega)]
  rcases szIntS_cases l5 (a := a - f0.length - f1.length - f2.length - f3.length - f4.length) (by omega) (by omega) with e | ⟨e5, p5⟩
  · left; rw [e]; rfl
  rw [e5]; simp only [Option.bind_some]; rw [if_neg (by omega)]
  rcases szIntS_cases l6 (a := a - f0.length - f1.length - f2.length - f3.length - f4.length - f5.length) (by omega) (by omega) with e | ⟨e6, p6⟩
  · left; rw [e]; rfl
  rw [e6]; simp only [Option.bind_some]; rw [if_neg (by omega)]
  rcases szIntS_cases l7 (a := a - f0.length - f1.length - f2.length - f3.length - f4.length - f5.length - f6.length) (by omega) (by omega) with e | ⟨e7, p7⟩
  · left; rw [e]; rfl
  rw [e7]; simp only [Option.bind_some]; rw [if_neg (by omega)]
  right
  refine ⟨_, rfl, by omega, by omega, ?_⟩
  refine ⟨?_, ?_, ?_, ?_, ?_, ?_, ?_, ?_⟩ <;> omega
theorem rd_LF {l : List LF} {i : Nat} (h : i < l.length) : rd_T129 l (i : Int) = l[i] := by
  unfold rd_T129; rw [Int.toNat_natCast]; exact getD_lt l _ h
theorem rd_IF {l : List IF} {i : Nat} (h : i < l.length) : rd_T130 l (i : Int) = l[i] := by
  unfold rd_T130; rw [Int.toNat_natCast]; exact getD_lt l _ h
theorem szEffectS_cases {l : List LF} (hl : l.length ≤ maxLen) (hs : ∀ x ∈ l, smallF maxLen x) {a : Int} (h0 : 0 ≤ a) (h1 : a ≤ 1048576) :
    Ev (fun k => laws_szEffectS.f k l a) (-1) ∨ (∃ r, Ev (fun k => laws_szEffectS.f k l a) r ∧ 0 ≤ r ∧ r ≤ a ∧ l.length ≤ 1048576 ∧ ∀ x ∈ l, smallF 1048576 x) := by
  unfold laws_szEffectS.f
  have hl' := hl
  unfold maxLen at hl'
  rw [w64 (by omega) (by omega)]
  by_cases hn : a - (l.length : Int) < 0
  · left; exact Ev.of_eq fun k => if_pos hn
  · simp only [hn, if_false]
    have key : ∀ (d i : Nat) (b : Int), i + d = l.length → 0 ≤ b → b ≤ a → Ev (fun k => laws_szEffectS.l0 k l b (i : Int)) (-1) ∨ (∃ r, Ev (fun k => laws_szEffectS.l0 k l b (i : Int)) r ∧ 0 ≤ r ∧ r ≤ a ∧ ∀ (j : Nat) (hj : j < l.length), i ≤ j → smallF 1048576 l[j]) := by
      intro d
      induction d with
      | zero =>
        intro i b hi hb0 hb1
        right
        refine ⟨b, Ev.succ (fun k => ?_), hb0, hb1, fun j hj hij => by omega⟩
        simp only [laws_szEffectS.l0]
        rw [if_neg (by omega)]
      | succ d ih =>
        intro i b hi hb0 hb1
        have h : i < l.length := by omega
        rcases szEffect_cases (l[i]).f8 (l[i]).f9 (hs l[i] (List.getElem_mem h)) (a := b) hb0 (by omega) with e | ⟨r, e, r0, r1, hr⟩
        · left
          refine Ev.succ (fun k => ?_)
          simp only [laws_szEffectS.l0]
          rw [if_pos (by omega), if_pos (by omega), rd_LF h, e]
          rfl
        · have st : ∀ q, Ev (fun k => laws_szEffectS.l0 k l r ((i + 1 : Nat) : Int)) q → Ev (fun k => laws_szEffectS.l0 k l b (i : Int)) q := fun q hq => by
            refine Ev.step (fun k => ?_) hq
            simp only [laws_szEffectS.l0]
            rw [if_pos (by omega), if_pos (by omega), rd_LF h, e]
            simp only [Option.bind_some]
            rw [if_neg (by omega), w64_succ h (by omega)]
          rcases ih (i + 1) r (by omega) r0 (by omega) with e2 | ⟨q, e2, q0, q1, hq⟩
          · left; exact st _ e2
          · right
            refine ⟨q, st _ e2, q0, q1, fun j hj hij => ?_⟩
            by_cases ej : j = i
            · subst ej; exact hr
            · exact hq j hj (by omega)
    rcases key l.length 0 (a - l.length) (by omega) (by omega) (by omega) with e | ⟨r, e, r0, r1, hr⟩
    · left; exact e
    · right
      refine ⟨r, e, r0, r1, by omega, fun x hx => ?_⟩
      obtain ⟨j, hj, rfl⟩ := List.mem_iff_getElem.1 hx
      exact hr j hj (by omega)
theorem toEffect_ev {x : LF} (h : smallF 1048576 x) : Ev (fun k => laws_toEffect.f k x.f0 x.f1 x.f2 x.f3 x.f4 x.f5 x.f6 x.f7 x.f8 x.f9) (x.f0, x.f1, x.f2, x.f3, x.f4, x.f5, x.f6, x.f7, x.f8, x.f9) := by
  obtain ⟨l0, l1, l2, l3, l4, l5, l6, l7⟩ := h
  unfold laws_toEffect.f
  exact Ev.bind (toIntS_ev (by omega)) (Ev.bind (toIntS_ev (by omega)) (Ev.bind (toIntS_ev (by omega)) (Ev.bind (toIntS_ev (by omega)) (Ev.bind (toIntS_ev (by omega)) (Ev.bind (toIntS_ev (by omega)) (Ev.bind (toIntS_ev (by omega)) (Ev.bind (toIntS_ev (by omega)) (Ev.of_eq fun k => rfl))))))))
theorem toEffectS_ev {l : List LF} (hl : l.length ≤ 1048576) (hs : ∀ x ∈ l, smallF 1048576 x) : Ev (fun k => laws_toEffectS.f k l) (l.map toF) := by
  unfold laws_toEffectS.f
  simp only [Int.natCast_nonneg, if_true, Int.toNat_natCast]
  refine Ev.congr (fun k => if_pos (by omega)) ?_
  refine fill_ev l toF (fun k ys i => laws_toEffectS.l0 k l ys i) (fun i h ys hy r hr => ?_) (fun ys => ?_) _ (by simp)
  · refine Ev.step (f := fun k => (laws_toEffect.f k l[i].f0 l[i].f1 l[i].f2 l[i].f3 l[i].f4 l[i].f5 l[i].f6 l[i].f7 l[i].f8 l[i].f9).bind fun t => laws_toEffectS.l0 k l (ys.set i ⟨t.1, t.2.1, t.2.2.1, t.2.2.2.1, t.2.2.2.2.1, t.2.2.2.2.2.1, t.2.2.2.2.2.2.1, t.2.2.2.2.2.2.2.1, t.2.2.2.2.2.2.2.2.1, t.2.2.2.2.2.2.2.2.2⟩) ((i + 1 : Nat) : Int)) (fun k => ?_) (Ev.bind (toEffect_ev (hs l[i] (List.getElem_mem h))) hr)
    simp only [laws_toEffectS.l0]
    rw [if_pos (by omega), if_pos (by omega), rd_LF h, w64_succ h (by omega), Int.toNat_natCast]
    congr 1
    funext t
    rw [if_pos (by omega)]
  · refine Ev.succ (fun k => ?_)
    simp only [laws_toEffectS.l0]
    rw [if_neg (by omega)]
theorem eqEffect_refl {x : LF} (h : smallF 1048576 x) : Ev (fun k => laws_eqEffect.f k x.f0 x.f1 x.f2 x.f3 x.f4 x.f5 x.f6 x.f7 x.f8 x.f9 x.f0 x.f1 x.f2 x.f3 x.f4 x.f5 x.f6 x.f7 x.f8 x.f9) true := by
  obtain ⟨l0, l1, l2, l3, l4, l5, l6, l7⟩ := h
  unfold laws_eqEffect.f
  refine Ev.bind (eqIntS_refl (by omega)) (Ev.congr (fun k => if_pos rfl) ?_)
  refine Ev.bind (eqIntS_refl (by omega)) (Ev.congr (fun k => if_pos rfl) ?_)
  refine Ev.bind (eqIntS_refl (by omega)) (Ev.congr (fun k => if_pos rfl) ?_)
  refine Ev.bind (eqIntS_refl (by omega)) (Ev.congr (fun k => if_pos rfl) ?_)
  refine Ev.bind (eqIntS_refl (by omega)) (Ev.congr (fun k => if_pos rfl) ?_)
  refine Ev.bind (eqIntS_refl (by omega)) (Ev.congr (fun k => if_pos rfl) ?_)
  refine Ev.bind (eqIntS_refl (by omega)) (Ev.congr (fun k => if_pos rfl) ?_)
  refine Ev.bind (eqIntS_refl (by omega)) (Ev.congr (fun k => if_pos rfl) ?_)
  exact Ev.of_eq fun k => by rw [if_neg (by simp), if_neg (by simp)]
theorem eqEffectS_refl {l : List LF} (hl : l.length ≤ 1048576) (hs : ∀ x ∈ l, smallF 1048576 x) : Ev (fun k => laws_eqEffectS.f k (l.map toF) (l.map toF)) true := by
  unfold laws_eqEffectS.f
  simp only [if_true]
  have h := down_ev (fun k i => laws_eqEffectS.l0 k (l.map toF) (l.map toF) i) l.length true (fun i h hr => ?_) ?_ 0 (by omega)
  · exact h
  · refine Ev.step (f := fun k => (laws_eqEffect.f k l[i].f0 l[i].f1 l[i].f2 l[i].f3 l[i].f4 l[i].f5 l[i].f6 l[i].f7 l[i].f8 l[i].f9 l[i].f0 l[i].f1 l[i].f2 l[i].f3 l[i].f4 l[i].f5 l[i].f6 l[i].f7 l[i].f8 l[i].f9).bind fun t => if t = true then laws_eqEffectS.l0 k (l.map toF) (l.map toF) ((i + 1 : Nat) : Int) else some false) (fun k => ?_) (Ev.bind (eqEffect_refl (hs l[i] (List.getElem_mem h))) (Ev.congr (fun k => if_pos rfl) hr))
    simp only [laws_eqEffectS.l0, List.length_map]
    rw [if_pos (by omega), if_pos (by omega), if_pos (by omega), rd_IF (by simpa using h), w64_succ h (by omega), List.getElem_map]
    rfl
  · refine Ev.succ (fun k => ?_)
    simp only [laws_eqEffectS.l0, List.length_map]
    rw [if_neg (by omega)]

-- chunk edges: lists of edges are copied, and the same as themselves
abbrev LE := S78
abbrev IE := S60
def toE (x : LE) : IE := ⟨x.f0, x.f1⟩
theorem szEdgeS_eq (l : List LE) (a : Int) : laws_szEdgeS.f l a = some (if wrap64 (a - (l.length : Int)) < 0 then -1 else wrap64 (a - (l.length : Int))) := by
  unfold laws_szEdgeS.f; split <;> rfl
theorem szEdgeS_big {l : List LE} (hl : l.length ≤ maxLen) (h : 1048576 < l.length) : laws_szEdgeS.f l 1048576 = some (-1) := by
  unfold maxLen at hl
  rw [szEdgeS_eq, w64 (by omega) (by omega), if_pos (by omega)]
theorem rd_LE {l : List LE} {i : Nat} (h : i < l.length) : rd_T78 l (i : Int) = l[i] := by
  unfold rd_T78; rw [Int.toNat_natCast]; exact getD_lt l _ h
theorem rd_IE {l : List IE} {i : Nat} (h : i < l.length) : rd_T60 l (i : Int) = l[i] := by
  unfold rd_T60; rw [Int.toNat_natCast]; exact getD_lt l _ h
theorem toEdgeS_ev {l : List LE} (hl : l.length ≤ 17592186044416) : Ev (fun k => laws_toEdgeS.f k l) (l.map toE) := by
  unfold laws_toEdgeS.f
  simp only [Int.natCast_nonneg, if_true, Int.toNat_natCast, if_pos hl]
  refine fill_ev l toE (fun k ys i => laws_toEdgeS.l0 k l ys i) (fun i h ys hy r hr => ?_) (fun ys => ?_) _ (by simp)
  · refine Ev.step (fun k => ?_) hr
    show laws_toEdgeS.l0 (k + 1) l ys i = _
    simp only [laws_toEdgeS.l0]
    rw [if_pos (by omega), if_pos (by omega), rd_LE h]
    unfold laws_toEdge.f
    simp only [Option.bind_some]
    rw [if_pos (by omega), w64_succ h (by omega), Int.toNat_natCast]
    rfl
  · refine Ev.succ (fun k => ?_)
    simp only [laws_toEdgeS.l0]
    rw [if_neg (by omega)]
theorem eqEdgeS_refl {l : List IE} (hl : l.length ≤ 17592186044416) : Ev (fun k => laws_eqEdgeS.f k l l) true := by
  unfold laws_eqEdgeS.f
  simp only [if_true]
  refine down_ev (fun k i => laws_eqEdgeS.l0 k l l i) l.length true (fun i h hr => ?_) ?_ 0 (by omega)
  · refine Ev.step (fun k => ?_) hr
    simp only [laws_eqEdgeS.l0]
    rw [if_pos (by omega), if_pos (by omega), if_pos (by omega)]
    unfold laws_eqEdge.f
    simp only [if_true, Option.bind_some]
    rw [w64_succ h (by omega)]
  · refine Ev.succ (fun k => ?_)
    simp only [laws_eqEdgeS.l0]
    rw [if_neg (by omega)]

-- chunk plan: plans are copied, and the same as themselves
theorem szPlan_cases {s o : List Int} {es : List LE} {fs : List LF} (hs : s.length ≤ maxLen) (ho : o.length ≤ maxLen) (he : es.length ≤ maxLen) (hf : fs.length ≤ maxLen) (hg : ∀ x ∈ fs, good129 x) :
    Ev (fun k => laws_szPlan.f k s o es fs 1048576) (-1) ∨ (∃ r, Ev (fun k => laws_szPlan.f k s o es fs 1048576) r ∧ 0 ≤ r ∧ s.length ≤ 1048576 ∧ o.length ≤ 1048576 ∧ es.length ≤ 1048576 ∧ fs.length ≤ 1048576 ∧ ∀ x ∈ fs, smallF 1048576 x) := by
  unfold laws_szPlan.f
  rcases szIntS_cases hs (a := 1048576) (by omega) (by omega) with e | ⟨e0, p0⟩
  · left; rw [e]; exact Ev.of_eq fun k => rfl
  have q0 : ¬ (1048576 - (s.length : Int) < 0) := by omega
  rw [e0]; simp only [Option.bind_some, q0, if_false]
  rcases szIntS_cases ho (a := 1048576 - s.length) (by omega) (by omega) with e | ⟨e1, p1⟩
  · left; rw [e]; exact Ev.of_eq fun k => rfl
  have q1 : ¬ (1048576 - (s.length : Int) - o.length < 0) := by omega
  rw [e1]; simp only [Option.bind_some, q1, if_false]
  have he' := he
  unfold maxLen at he'
  rw [szEdgeS_eq, w64 (by omega) (by omega)]
  simp only [Option.bind_some]
  by_cases hn : 1048576 - (s.length : Int) - o.length - es.length < 0
  · left; simp only [hn, if_true]; exact Ev.of_eq fun k => rfl
  simp only [hn, if_false]
  rcases szEffectS_cases hf (fun x hx => by obtain ⟨h0, h1, h2, h3, h4, h5, h6, h7⟩ := hg x hx; exact ⟨h0.1, h1.1, h2.1, h3.1, h4.1, h5.1, h6.1, h7.1⟩) (a := 1048576 - (s.length : Int) - o.length - es.length) (by omega) (by omega) with e | ⟨r, e, r0, r1, b, hb⟩
  · left; exact Ev.bind e (Ev.of_eq fun k => rfl)
  · right
    exact ⟨r, Ev.bind e (Ev.of_eq fun k => if_neg (by omega)), r0, by omega, by omega, by omega, b, hb⟩
theorem toPlan_ev {s o : List Int} {es : List LE} {fs : List LF} (b1 : s.length ≤ 1048576) (b2 : o.length ≤ 1048576) (b3 : es.length ≤ 1048576) (b4 : fs.length ≤ 1048576) (b5 : ∀ x ∈ fs, smallF 1048576 x) :
    Ev (fun k => laws_toPlan.f k s o es fs) (s, o, es.map toE, fs.map toF) := by
  unfold laws_toPlan.f
  exact Ev.bind (toIntS_ev (by omega)) (Ev.bind (toIntS_ev (by omega)) (Ev.bind (toEdgeS_ev (by omega)) (Ev.bind (toEffectS_ev b4 b5) (Ev.of_eq fun k => rfl))))
theorem eqPlan_refl {s o : List Int} {es : List LE} {fs : List LF} (b1 : s.length ≤ 1048576) (b2 : o.length ≤ 1048576) (b3 : es.length ≤ 1048576) (b4 : fs.length ≤ 1048576) (b5 : ∀ x ∈ fs, smallF 1048576 x) :
    Ev (fun k => laws_eqPlan.f k s o (es.map toE) (fs.map toF) s o (es.map toE) (fs.map toF)) true := by
  unfold laws_eqPlan.f
  refine Ev.bind (eqIntS_refl (by omega)) (Ev.congr (fun k => if_pos rfl) ?_)
  refine Ev.bind (eqIntS_refl (by omega)) (Ev.congr (fun k => if_pos rfl) ?_)
  refine Ev.bind (eqEdgeS_refl (by rw [List.length_map]; omega)) (Ev.congr (fun k => if_pos rfl) ?_)
  exact Ev.bind (eqEffectS_refl b4 b5) (Ev.of_eq fun k => rfl)

-- chunk graph: what GraphOk answers, of the program and of the reference
def edgeIn (n : Int) (e : IE) : Bool := decide (0 ≤ e.f0 ∧ e.f0 ≤ n - 1) && decide (0 ≤ e.f1 ∧ e.f1 ≤ n - 1)
def graphOk (n : Int) (l : List IE) : Bool := decide (0 ≤ n ∧ n ≤ 16) && decide (l.length ≤ 200) && l.all (edgeIn n)
theorem within_eq (a b c : Int) : impl_within.f a b c = some (decide (b ≤ a ∧ a ≤ c)) := by
  unfold impl_within.f
  split <;> simp [*]
theorem mostOf_eq (l : List Int) (m : Int) : l.foldl (fun a x => mx a x) m = l.foldl (fun a x => if x > a then x else a) m := by
  induction l generalizing m with
  | nil => rfl
  | cons a l ih =>
    simp only [List.foldl_cons]
    rw [ih]
    congr 1
theorem fold_ge (l : List Int) (m : Int) : m ≤ l.foldl (fun a x => mx a x) m := by
  induction l generalizing m with
  | nil => simp
  | cons a l ih =>
    simp only [List.foldl_cons]
    have := ih (mx m a)
    have h2 : m ≤ mx m a := by unfold mx; split <;> omega
    omega
theorem fold_max (l : List Int) (m q : Int) : l.foldl (fun a x => mx a x) (mx m q) = mx (l.foldl (fun a x => mx a x) m) q := by
  induction l generalizing m with
  | nil => rfl
  | cons a l ih =>
    simp only [List.foldl_cons]
    rw [← ih]
    congr 1
    unfold mx
    repeat' split
    all_goals omega
theorem fold_wf (l : List Int) (m : Int) (hm : m ≤ 9223372036854775807) (hl : ∀ x ∈ l, x ≤ 9223372036854775807) : l.foldl (fun a x => mx a x) m ≤ 9223372036854775807 := by
  induction l generalizing m with
  | nil => exact hm
  | cons a l ih =>
    simp only [List.foldl_cons]
    refine ih _ ?_ (fun x hx => hl x (by simp [hx]))
    have := hl a (by simp)
    unfold mx; split <;> omega
theorem max_ev {l : List Int} (a : Int) (hl : (a :: l).length ≤ 1048576) : Ev (fun k => slices_Max_int_int.f k (a :: l)) (l.foldl (fun a x => mx a x) a) := by
  unfold slices_Max_int_int.f
  refine Ev.congr (fun k => if_neg (by simp; omega)) (Ev.congr (fun k => if_pos (by simp)) ?_)
  have key : ∀ (d i : Nat) (m : Int), i + d = (a :: l).length → Ev (fun k => slices_Max_int_int.l0 k (a :: l) m (i : Int)) (((a :: l).drop i).foldl (fun a x => mx a x) m) := by
    intro d
    induction d with
    | zero =>
      intro i m hi
      obtain rfl : i = (a :: l).length := by omega
      rw [List.drop_length]
      refine Ev.succ (fun k => ?_)
      simp only [slices_Max_int_int.l0]
      rw [if_neg (by omega)]
      rfl
    | succ d ih =>
      intro i m hi
      have h : i < (a :: l).length := by omega
      rw [List.drop_eq_getElem_cons h, List.foldl_cons]
      refine Ev.step (fun k => ?_) (ih (i + 1) (mx m (a :: l)[i]) (by omega))
      simp only [slices_Max_int_int.l0]
      rw [if_pos (by omega), if_pos (by omega), rd_lt _ h, w64_succ h (by omega)]
  have h := key l.length 1 a (by simp; omega)
  simpa [rd] using h
def stagesP (s : List Int) : Int := if s.foldl (fun a x => mx a x) (-1) ≥ 16 then 0 else s.foldl (fun a x => mx a x) (-1) + 1
theorem impl_Stages_ev (s : List Int) (l1 : List Int) (l2 : List IE) (l3 : List IF) (hs : s.length ≤ 1048576) : Ev (fun k => impl_Stages.f k s l1 l2 l3) (stagesP s) := by
  unfold impl_Stages.f stagesP
  cases s with
  | nil => exact Ev.of_eq fun k => by simp
  | cons a l =>
    refine Ev.congr (fun k => if_neg (by simp; omega)) (Ev.bind (max_ev a hs) (Ev.bindc (within_eq _ _ _) ?_))
    have e : (a :: l).foldl (fun a x => mx a x) (-1) = mx (l.foldl (fun a x => mx a x) a) (-1) := by
      rw [List.foldl_cons, ← fold_max]
      congr 1
      unfold mx
      repeat' split
      all_goals omega
    rw [e]
    generalize l.foldl (fun a x => mx a x) a = m
    by_cases h : 0 ≤ m ∧ m ≤ 15
    · rw [decide_eq_true h]
      have h2 : mx m (-1) = m := by unfold mx; split <;> omega
      have h4 : (if m ≥ 16 then (0 : Int) else m + 1) = m + 1 := if_neg (by omega)
      rw [h2, h4, w64 (by omega) (by omega)]
      exact Ev.of_eq fun k => rfl
    · rw [decide_eq_false h]
      by_cases h3 : 16 ≤ m
      · have h2 : mx m (-1) = m := by unfold mx; split <;> omega
        have h4 : (if m ≥ 16 then (0 : Int) else m + 1) = 0 := if_pos (by omega)
        rw [h2, h4]
        exact Ev.of_eq fun k => rfl
      · have h2 : mx m (-1) = -1 := by unfold mx; split <;> omega
        have h4 : (if (-1 : Int) ≥ 16 then (0 : Int) else -1 + 1) = 0 := by decide
        rw [h2, h4]
        exact Ev.of_eq fun k => rfl
theorem spec_Stages_ev (s : List Int) (l1 : List Int) (l2 : List IE) (l3 : List IF) (hs : s.length ≤ 1048576) : Ev (fun k => spec_Stages.f k s l1 l2 l3) (stagesP s) := by
  unfold spec_Stages.f stagesP
  have key : ∀ (d i : Nat) (m : Int), i + d = s.length → -1 ≤ m → Ev (fun k => spec_Stages.l0 k m (i : Int) s l1 l2 l3) (if (s.drop i).foldl (fun a x => mx a x) m ≥ 16 then 0 else (s.drop i).foldl (fun a x => mx a x) m + 1) := by
    intro d
    induction d with
    | zero =>
      intro i m hi hm
      obtain rfl : i = s.length := by omega
      rw [List.drop_length, List.foldl_nil]
      refine Ev.succ (fun k => ?_)
      simp only [spec_Stages.l0]
      rw [if_neg (by omega)]
      by_cases h : m ≥ 16
      · rw [if_pos h, if_pos h]
      · rw [if_neg h, if_neg h, w64 (by omega) (by omega)]
    | succ d ih =>
      intro i m hi hm
      have h : i < s.length := by omega
      rw [List.drop_eq_getElem_cons h, List.foldl_cons]
      have hmx : mx m s[i] = if s[i] > m then s[i] else m := by unfold mx; rfl
      refine Ev.step (fun k => ?_) (ih (i + 1) (mx m s[i]) (by omega) (by rw [hmx]; split <;> omega))
      simp only [spec_Stages.l0]
      rw [if_pos (by omega), if_pos (by omega), rd_lt _ h, w64_succ h (by omega), hmx]
      split <;> rfl
  exact key s.length 0 (-1) (by omega) (by omega)
theorem proof : Pure := by
  intro s o es fs hs ho he hf
  refine Ev.rounds ?_
  unfold laws_FnExactStages.f
  rcases szPlan_cases hs.1 ho.1 he.1 hf.1 hf.2 with e | ⟨r, e, r0, b1, b2, b3, b4, b5⟩
  · exact Ev.bind e (Ev.of_eq fun k => by rw [if_pos (by omega)])
  refine Ev.bind e (Ev.congr (fun k => if_neg (by omega)) ?_)
  have hp := toPlan_ev b1 b2 b3 b4 b5
  refine Ev.bind hp (Ev.bind (spec_Stages_ev s o _ _ b1) (Ev.bind hp (Ev.bind (impl_Stages_ev s o _ _ b1) ?_)))
  refine Ev.congr (fun k => if_pos rfl) (Ev.bind hp (Ev.bind (eqPlan_refl b1 b2 b3 b4 b5) (Ev.of_eq fun k => rfl)))


end Go.Proofs.Ytapbpfbhghheeaa.fnExactStages
