/- The law FnExactPlanSame holds of the program's own functions, told over lists and numbers: for every argument it returns true. Conditions: none beyond the given row's own. -/
import Derived.Test.YtnecbgeljanhiaaSaysFnExactPlanSame
import Derived.Test.YtnecbgeljanhiaaKit
namespace Go.Proofs.Ytnecbgeljanhiaa.fnExactPlanSame
open Go.RowKit Go.Proofs.Ytnecbgeljanhiaa.PFnExactPlanSame Go.Proofs.YtnecbgeljanhiaaW.PrintWords Go.Proofs.YtnecbgeljanhiaaW.PrintLast Go.Proofs.Ytnecbgeljanhiaa.Own
set_option linter.unusedVariables false
set_option linter.unusedSimpArgs false
-- chunk ints: lists of numbers are copied, and the same as themselves
theorem toIntS_ev {l : List Int} (hl : l.length ≤ 35184372088832) : Ev (fun k => laws_toIntS.f k l) l := by
  unfold laws_toIntS.f
  simp only [Int.natCast_nonneg, if_true, Int.toNat_natCast, if_pos hl]
  have h := fill_ev l (fun x : Int => x) (fun k ys i => laws_toIntS.l0 k l ys i) (fun i h ys hy r hr => ?_) (fun ys => ?_) (List.replicate l.length 0) (by simp)
  · simpa using h
  · refine Ev.step (fun k => ?_) hr
    simp only [laws_toIntS.l0]
    rw [if_pos (by omega), if_pos (by omega), if_pos (by omega), rd_lt _ h, w64_succ h (by omega), Int.toNat_natCast]
  · refine Ev.succ (fun k => ?_)
    simp only [laws_toIntS.l0]
    rw [if_neg (by omega)]
theorem eqIntS_refl {l : List Int} (hl : l.length ≤ 35184372088832) : Ev (fun k => laws_eqIntS.f k l l) true := by
  unfold laws_eqIntS.f
  simp only [if_true]
  refine down_ev (fun k i => laws_eqIntS.l0 k l l i) l.length true (fun i h hr => ?_) ?_ 0 (by omega)
  · refine Ev.step (fun k => ?_) hr
    simp only [laws_eqIntS.l0]
    rw [if_pos (by omega), if_pos (by omega), if_pos (by omega), if_pos trivial, w64_succ h (by omega)]
  · refine Ev.succ (fun k => ?_)
    simp only [laws_eqIntS.l0]
    rw [if_neg (by omega)]

-- chunk effects: lists of effects are copied, and the same as themselves
abbrev LF := S174
abbrev IF := S142
def toF (x : LF) : IF := ⟨x.f0, x.f1, x.f2, x.f3, x.f4, x.f5, x.f6, x.f7, x.f8, x.f9⟩
/-- An effect all of whose lists are of a bearable length. -/
def smallF (m : Nat) (x : LF) : Prop := x.f0.length ≤ m ∧ x.f1.length ≤ m ∧ x.f2.length ≤ m ∧ x.f3.length ≤ m ∧ x.f4.length ≤ m ∧ x.f5.length ≤ m ∧ x.f6.length ≤ m ∧ x.f7.length ≤ m
theorem szIntS_eq (l : List Int) (a : Int) : laws_szIntS.f l a = some (if wrap64 (a - (l.length : Int)) < 0 then -1 else wrap64 (a - (l.length : Int))) := by
  unfold laws_szIntS.f; split <;> rfl
theorem szIntS_cases {l : List Int} (hl : l.length ≤ maxLen) {a : Int} (h0 : 0 ≤ a) (h1 : a ≤ 1048576) :
    (laws_szIntS.f l a = some (-1)) ∨ (laws_szIntS.f l a = some (a - l.length) ∧ (l.length : Int) ≤ a) := by
  unfold maxLen at hl
  rw [szIntS_eq, w64 (by omega) (by omega)]
  by_cases h : a - (l.length : Int) < 0
  · left; rw [if_pos h]
  · right; rw [if_neg h]; exact ⟨rfl, by omega⟩
theorem szEffect_cases {f0 f1 f2 f3 f4 f5 f6 f7 : List Int} (b8 b9 : Bool) (h : f0.length ≤ maxLen ∧ f1.length ≤ maxLen ∧ f2.length ≤ maxLen ∧ f3.length ≤ maxLen ∧ f4.length ≤ maxLen ∧ f5.length ≤ maxLen ∧ f6.length ≤ maxLen ∧ f7.length ≤ maxLen) {a : Int} (h0 : 0 ≤ a) (h1 : a ≤ 1048576) :
    (laws_szEffect.f f0 f1 f2 f3 f4 f5 f6 f7 b8 b9 a = some (-1)) ∨ (∃ r, laws_szEffect.f f0 f1 f2 f3 f4 f5 f6 f7 b8 b9 a = some r ∧ 0 ≤ r ∧ r ≤ a ∧
      (f0.length ≤ 1048576 ∧ f1.length ≤ 1048576 ∧ f2.length ≤ 1048576 ∧ f3.length ≤ 1048576 ∧ f4.length ≤ 1048576 ∧ f5.length ≤ 1048576 ∧ f6.length ≤ 1048576 ∧ f7.length ≤ 1048576)) := by
  obtain ⟨l0, l1, l2, l3, l4, l5, l6, l7⟩ := h
  unfold laws_szEffect.f
  rcases szIntS_cases l0 h0 h1 with e | ⟨e0, p0⟩
  · left; rw [e]; rfl
  rw [e0]; simp only [Option.bind_some]; rw [if_neg (by omega)]
  rcases szIntS_cases l1 (a := a - f0.length) (by omega) (by omega) with e | ⟨e1, p1⟩
  · left; rw [e]; rfl
  rw [e1]; simp only [Option.bind_some]; rw [if_neg (by omega)]
  rcases szIntS_cases l2 (a := a - f0.length - f1.length) (by omega) (by omega) with e | ⟨e2, p2⟩
  · left; rw [e]; rfl
  rw [e2]; simp only [Option.bind_some]; rw [if_neg (by omega)]
  rcases szIntS_cases l3 (a := a - f0.length - f1.length - f2.length) (by omega) (by omega) with e | ⟨e3, p3⟩
  · left; rw [e]; rfl
  rw [e3]; simp only [Option.bind_some]; rw [if_neg (by omega)]
  rcases szIntS_cases l4 (a := a - f0.length - f1.length - f2.length - f3.length) (by omega) (by omega) with e | ⟨e4, p4⟩
  · left; rw [e]; rfl
  rw [e4]; simp only [Option.bind_some]; rw [if_neg (by omega)]
  rcases szIntS_cases l5 (a := a - f0.length - f1.length - f2.length - f3.length - f4.length) (by omega) (by omega) with e | ⟨e5, p5⟩
  · left; rw [e]; rfl
  rw [e5]; simp only [Option.bind_some]; rw [if_neg (by omega)]
  rcases szIntS_cases l6 (a := a - f0.length - f1.length - f2.length - f3.length - f4.length - f5.length) (by omega) (by omega) with e | ⟨e6, p6⟩
  · left; rw [e]; rfl
  rw [e6]; simp only [Option.bind_some]; rw [if_neg (by omega)]
  rcases szIntS_cases l7 (a := a - f0.length - f1.length - f2.length - f3.length - f4.length - f5.length - f6.length) (by omega) (by omega) with e | ⟨e7, p7⟩
  · left; rw [e]; rfl
  rw [e7]; simp only [Option.bind_some]; rw [if_neg (by omega)]
  right
  refine ⟨_, rfl, by omega, by omega, ?_⟩
  refine ⟨?_, ?_, ?_, ?_, ?_, ?_, ?_, ?_⟩ <;> omega
theorem rd_LF {l : List LF} {i : Nat} (h : i < l.length) : rd_T174 l (i : Int) = l[i] := by
  unfold rd_T174; rw [Int.toNat_natCast]; exact getD_lt l _ h
theorem rd_IF {l : List IF} {i : Nat} (h : i < l.length) : rd_T142 l (i : Int) = l[i] := by
  unfold rd_T142; rw [Int.toNat_natCast]; exact getD_lt l _ h
theorem szEffectS_cases {l : List LF} (hl : l.length ≤ maxLen) (hs : ∀ x ∈ l, smallF maxLen x) {a : Int} (h0 : 0 ≤ a) (h1 : a ≤ 1048576) :
    Ev (fun k => laws_szEffectS.f k l a) (-1) ∨ (∃ r, Ev (fun k => laws_szEffectS.f k l a) r ∧ 0 ≤ r ∧ r ≤ a ∧ l.length ≤ 1048576 ∧ ∀ x ∈ l, smallF 1048576 x) := by
  unfold laws_szEffectS.f
  have hl' := hl
  unfold maxLen at hl'
  rw [w64 (by omega) (by omega)]
  by_cases hn : a - (l.length : Int) < 0
  · left; exact Ev.of_eq fun k => if_pos hn
  · simp only [hn, if_false]
    have key : ∀ (d i : Nat) (b : Int), i + d = l.length → 0 ≤ b → b ≤ a → Ev (fun k => laws_szEffectS.l0 k l b (i : Int)) (-1) ∨ (∃ r, Ev (fun k => laws_szEffectS.l0 k l b (i : Int)) r ∧ 0 ≤ r ∧ r ≤ a ∧ ∀ (j : Nat) (hj : j < l.length), i ≤ j → smallF 1048576 l[j]) := by
      intro d
      induction d with
      | zero =>
        intro i b hi hb0 hb1
        right
        refine ⟨b, Ev.succ (fun k => ?_), hb0, hb1, fun j hj hij => by omega⟩
        simp only [laws_szEffectS.l0]
        rw [if_neg (by omega)]
      | succ d ih =>
        intro i b hi hb0 hb1
        have h : i < l.length := by omega
        rcases szEffect_cases (l[i]).f8 (l[i]).f9 (hs l[i] (List.getElem_mem h)) (a := b) hb0 (by omega) with e | ⟨r, e, r0, r1, hr⟩
        · left
          refine Ev.succ (fun k => ?_)
          simp only [laws_szEffectS.l0]
          rw [if_pos (by omega), if_pos (by omega), rd_LF h, e]
          rfl
        · have st : ∀ q, Ev (fun k => laws_szEffectS.l0 k l r ((i + 1 : Nat) : Int)) q → Ev (fun k => laws_szEffectS.l0 k l b (i : Int)) q := fun q hq => by
            refine Ev.step (fun k => ?_) hq
            simp only [laws_szEffectS.l0]
            rw [if_pos (by omega), if_pos (by omega), rd_LF h, e]
            simp only [Option.bind_some]
            rw [if_neg (by omega), w64_succ h (by omega)]
          rcases ih (i + 1) r (by omega) r0 (by omega) with e2 | ⟨q, e2, q0, q1, hq⟩
          · left; exact st _ e2
          · right
            refine ⟨q, st _ e2, q0, q1, fun j hj hij => ?_⟩
            by_cases ej : j = i
            · subst ej; exact hr
            · exact hq j hj (by omega)
    rcases key l.length 0 (a - l.length) (by omega) (by omega) (by omega) with e | ⟨r, e, r0, r1, hr⟩
    · left; exact e
    · right
      refine ⟨r, e, r0, r1, by omega, fun x hx => ?_⟩
      obtain ⟨j, hj, rfl⟩ := List.mem_iff_getElem.1 hx
      exact hr j hj (by omega)
theorem toEffect_ev {x : LF} (h : smallF 1048576 x) : Ev (fun k => laws_toEffect.f k x.f0 x.f1 x.f2 x.f3 x.f4 x.f5 x.f6 x.f7 x.f8 x.f9) (x.f0, x.f1, x.f2, x.f3, x.f4, x.f5, x.f6, x.f7, x.f8, x.f9) := by
  obtain ⟨l0, l1, l2, l3, l4, l5, l6, l7⟩ := h
  unfold laws_toEffect.f
  exact Ev.bind (toIntS_ev (by omega)) (Ev.bind (toIntS_ev (by omega)) (Ev.bind (toIntS_ev (by omega)) (Ev.bind (toIntS_ev (by omega)) (Ev.bind (toIntS_ev (by omega)) (Ev.bind (toIntS_ev (by omega)) (Ev.bind (toIntS_ev (by omega)) (Ev.bind (toIntS_ev (by omega)) (Ev.of_eq fun k => rfl))))))))
theorem toEffectS_ev {l : List LF} (hl : l.length ≤ 1048576) (hs : ∀ x ∈ l, smallF 1048576 x) : Ev (fun k => laws_toEffectS.f k l) (l.map toF) := by
  unfold laws_toEffectS.f
  simp only [Int.natCast_nonneg, if_true, Int.toNat_natCast]
  refine Ev.congr (fun k => if_pos (by omega)) ?_
  refine fill_ev l toF (fun k ys i => laws_toEffectS.l0 k l ys i) (fun i h ys hy r hr => ?_) (fun ys => ?_) _ (by simp)
  · refine Ev.step (f := fun k => (laws_toEffect.f k l[i].f0 l[i].f1 l[i].f2 l[i].f3 l[i].f4 l[i].f5 l[i].f6 l[i].f7 l[i].f8 l[i].f9).bind fun t => laws_toEffectS.l0 k l (ys.set i ⟨t.1, t.2.1, t.2.2.1, t.2.2.2.1, t.2.2.2.2.1, t.2.2.2.2.2.1, t.2.2.2.2.2.2.1, t.2.2.2.2.2.2.2.1, t.2.2.2.2.2.2.2.2.1, t.2.2.2.2.2.2.2.2.2⟩) ((i + 1 : Nat) : Int)) (fun k => ?_) (Ev.bind (toEffect_ev (hs l[i] (List.getElem_mem h))) hr)
    simp only [laws_toEffectS.l0]
    rw [if_pos (by omega), if_pos (by omega), rd_LF h, w64_succ h (by omega), Int.toNat_natCast]
    congr 1
    funext t
    rw [if_pos (by omega)]
  · refine Ev.succ (fun k => ?_)
    simp only [laws_toEffectS.l0]
    rw [if_neg (by omega)]
theorem eqEffect_refl {x : LF} (h : smallF 1048576 x) : Ev (fun k => laws_eqEffect.f k x.f0 x.f1 x.f2 x.f3 x.f4 x.f5 x.f6 x.f7 x.f8 x.f9 x.f0 x.f1 x.f2 x.f3 x.f4 x.f5 x.f6 x.f7 x.f8 x.f9) true := by
  obtain ⟨l0, l1, l2, l3, l4, l5, l6, l7⟩ := h
  unfold laws_eqEffect.f
  refine Ev.bind (eqIntS_refl (by omega)) (Ev.congr (fun k => if_pos rfl) ?_)
  refine Ev.bind (eqIntS_refl (by omega)) (Ev.congr (fun k => if_pos rfl) ?_)
  refine Ev.bind (eqIntS_refl (by omega)) (Ev.congr (fun k => if_pos rfl) ?_)
  refine Ev.bind (eqIntS_refl (by omega)) (Ev.congr (fun k => if_pos rfl) ?_)
  refine Ev.bind (eqIntS_refl (by omega)) (Ev.congr (fun k => if_pos rfl) ?_)
  refine Ev.bind (eqIntS_refl (by omega)) (Ev.congr (fun k => if_pos rfl) ?_)
  refine Ev.bind (eqIntS_refl (by omega)) (Ev.congr (fun k => if_pos rfl) ?_)
  refine Ev.bind (eqIntS_refl (by omega)) (Ev.congr (fun k => if_pos rfl) ?_)
  exact Ev.of_eq fun k => by rw [if_neg (by simp), if_neg (by simp)]
theorem eqEffectS_refl {l : List LF} (hl : l.length ≤ 1048576) (hs : ∀ x ∈ l, smallF 1048576 x) : Ev (fun k => laws_eqEffectS.f k (l.map toF) (l.map toF)) true := by
  unfold laws_eqEffectS.f
  simp only [if_true]
  have h := down_ev (fun k i => laws_eqEffectS.l0 k (l.map toF) (l.map toF) i) l.length true (fun i h hr => ?_) ?_ 0 (by omega)
  · exact h
  · first
    | (refine Ev.step (f := fun k => (laws_eqEffect.f k l[i].f0 l[i].f1 l[i].f2 l[i].f3 l[i].f4 l[i].f5 l[i].f6 l[i].f7 l[i].f8 l[i].f9 l[i].f0 l[i].f1 l[i].f2 l[i].f3 l[i].f4 l[i].f5 l[i].f6 l[i].f7 l[i].f8 l[i].f9).bind fun t => if t = true then laws_eqEffectS.l0 k (l.map toF) (l.map toF) ((i + 1 : Nat) : Int) else some false) (fun k => ?_) (Ev.bind (eqEffect_refl (hs l[i] (List.getElem_mem h))) (Ev.congr (fun k => if_pos rfl) hr)); simp only [laws_eqEffectS.l0, List.length_map]; rw [if_pos (by omega), if_pos (by omega), if_pos (by omega), rd_IF (by simpa using h), w64_succ h (by omega), List.getElem_map]; rfl)
    | (refine Ev.step (f := fun k => (laws_eqEffect.f k l[i].f0 l[i].f1 l[i].f2 l[i].f3 l[i].f4 l[i].f5 l[i].f6 l[i].f7 l[i].f8 l[i].f9 l[i].f0 l[i].f1 l[i].f2 l[i].f3 l[i].f4 l[i].f5 l[i].f6 l[i].f7 l[i].f8 l[i].f9).bind fun t => if t = true then laws_eqEffectS.l0 k (l.map toF) (l.map toF) ((i + 1 : Nat) : Int) else none) (fun k => ?_) (Ev.bind (eqEffect_refl (hs l[i] (List.getElem_mem h))) (Ev.congr (fun k => if_pos rfl) hr)); simp only [laws_eqEffectS.l0, List.length_map]; rw [if_pos (by omega), if_pos (by omega), if_pos (by omega), rd_IF (by simpa using h), w64_succ h (by omega), List.getElem_map]; rfl)
  · refine Ev.succ (fun k => ?_)
    simp only [laws_eqEffectS.l0, List.length_map]
    rw [if_neg (by omega)]

-- chunk edges: lists of edges are copied, and the same as themselves
abbrev LE := S98
abbrev IE := S96
def toE (x : LE) : IE := ⟨x.f0, x.f1⟩
theorem szEdgeS_eq (l : List LE) (a : Int) : laws_szEdgeS.f l a = some (if wrap64 (a - (l.length : Int)) < 0 then -1 else wrap64 (a - (l.length : Int))) := by
  unfold laws_szEdgeS.f; split <;> rfl
theorem szEdgeS_big {l : List LE} (hl : l.length ≤ maxLen) (h : 1048576 < l.length) : laws_szEdgeS.f l 1048576 = some (-1) := by
  unfold maxLen at hl
  rw [szEdgeS_eq, w64 (by omega) (by omega), if_pos (by omega)]
theorem rd_LE {l : List LE} {i : Nat} (h : i < l.length) : rd_T98 l (i : Int) = l[i] := by
  unfold rd_T98; rw [Int.toNat_natCast]; exact getD_lt l _ h
theorem rd_IE {l : List IE} {i : Nat} (h : i < l.length) : rd_T96 l (i : Int) = l[i] := by
  unfold rd_T96; rw [Int.toNat_natCast]; exact getD_lt l _ h
theorem toEdgeS_ev {l : List LE} (hl : l.length ≤ 17592186044416) : Ev (fun k => laws_toEdgeS.f k l) (l.map toE) := by
  unfold laws_toEdgeS.f
  simp only [Int.natCast_nonneg, if_true, Int.toNat_natCast, if_pos hl]
  refine fill_ev l toE (fun k ys i => laws_toEdgeS.l0 k l ys i) (fun i h ys hy r hr => ?_) (fun ys => ?_) _ (by simp)
  · refine Ev.step (fun k => ?_) hr
    show laws_toEdgeS.l0 (k + 1) l ys i = _
    simp only [laws_toEdgeS.l0]
    rw [if_pos (by omega), if_pos (by omega), rd_LE h]
    unfold laws_toEdge.f
    simp only [Option.bind_some]
    rw [if_pos (by omega), w64_succ h (by omega), Int.toNat_natCast]
    rfl
  · refine Ev.succ (fun k => ?_)
    simp only [laws_toEdgeS.l0]
    rw [if_neg (by omega)]
theorem eqEdgeS_refl {l : List IE} (hl : l.length ≤ 17592186044416) : Ev (fun k => laws_eqEdgeS.f k l l) true := by
  unfold laws_eqEdgeS.f
  simp only [if_true]
  refine down_ev (fun k i => laws_eqEdgeS.l0 k l l i) l.length true (fun i h hr => ?_) ?_ 0 (by omega)
  · refine Ev.step (fun k => ?_) hr
    simp only [laws_eqEdgeS.l0]
    rw [if_pos (by omega), if_pos (by omega), if_pos (by omega)]
    unfold laws_eqEdge.f
    simp only [if_true, Option.bind_some]
    rw [w64_succ h (by omega)]
  · refine Ev.succ (fun k => ?_)
    simp only [laws_eqEdgeS.l0]
    rw [if_neg (by omega)]

-- chunk plan: plans are copied, and the same as themselves
theorem szPlan_cases {s o : List Int} {es : List LE} {fs : List LF} (hs : s.length ≤ maxLen) (ho : o.length ≤ maxLen) (he : es.length ≤ maxLen) (hf : fs.length ≤ maxLen) (hg : ∀ x ∈ fs, good174 x) :
    Ev (fun k => laws_szPlan.f k s o es fs 1048576) (-1) ∨ (∃ r, Ev (fun k => laws_szPlan.f k s o es fs 1048576) r ∧ 0 ≤ r ∧ s.length ≤ 1048576 ∧ o.length ≤ 1048576 ∧ es.length ≤ 1048576 ∧ fs.length ≤ 1048576 ∧ ∀ x ∈ fs, smallF 1048576 x) := by
  unfold laws_szPlan.f
  rcases szIntS_cases hs (a := 1048576) (by omega) (by omega) with e | ⟨e0, p0⟩
  · left; rw [e]; exact Ev.of_eq fun k => rfl
  have q0 : ¬ (1048576 - (s.length : Int) < 0) := by omega
  rw [e0]; simp only [Option.bind_some, q0, if_false]
  rcases szIntS_cases ho (a := 1048576 - s.length) (by omega) (by omega) with e | ⟨e1, p1⟩
  · left; rw [e]; exact Ev.of_eq fun k => rfl
  have q1 : ¬ (1048576 - (s.length : Int) - o.length < 0) := by omega
  rw [e1]; simp only [Option.bind_some, q1, if_false]
  have he' := he
  unfold maxLen at he'
  rw [szEdgeS_eq, w64 (by omega) (by omega)]
  simp only [Option.bind_some]
  by_cases hn : 1048576 - (s.length : Int) - o.length - es.length < 0
  · left; simp only [hn, if_true]; exact Ev.of_eq fun k => rfl
  simp only [hn, if_false]
  rcases szEffectS_cases hf (fun x hx => by obtain ⟨h0, h1, h2, h3, h4, h5, h6, h7⟩ := hg x hx; exact ⟨h0.1, h1.1, h2.1, h3.1, h4.1, h5.1, h6.1, h7.1⟩) (a := 1048576 - (s.length : Int) - o.length - es.length) (by omega) (by omega) with e | ⟨r, e, r0, r1, b, hb⟩
  · left; exact Ev.bind e (Ev.of_eq fun k => rfl)
  · right
    exact ⟨r, Ev.bind e (Ev.of_eq fun k => if_neg (by omega)), r0, by omega, by omega, by omega, b, hb⟩
theorem toPlan_ev {s o : List Int} {es : List LE} {fs : List LF} (b1 : s.length ≤ 1048576) (b2 : o.length ≤ 1048576) (b3 : es.length ≤ 1048576) (b4 : fs.length ≤ 1048576) (b5 : ∀ x ∈ fs, smallF 1048576 x) :
    Ev (fun k => laws_toPlan.f k s o es fs) (s, o, es.map toE, fs.map toF) := by
  unfold laws_toPlan.f
  exact Ev.bind (toIntS_ev (by omega)) (Ev.bind (toIntS_ev (by omega)) (Ev.bind (toEdgeS_ev (by omega)) (Ev.bind (toEffectS_ev b4 b5) (Ev.of_eq fun k => rfl))))
theorem eqPlan_refl {s o : List Int} {es : List LE} {fs : List LF} (b1 : s.length ≤ 1048576) (b2 : o.length ≤ 1048576) (b3 : es.length ≤ 1048576) (b4 : fs.length ≤ 1048576) (b5 : ∀ x ∈ fs, smallF 1048576 x) :
    Ev (fun k => laws_eqPlan.f k s o (es.map toE) (fs.map toF) s o (es.map toE) (fs.map toF)) true := by
  unfold laws_eqPlan.f
  refine Ev.bind (eqIntS_refl (by omega)) (Ev.congr (fun k => if_pos rfl) ?_)
  refine Ev.bind (eqIntS_refl (by omega)) (Ev.congr (fun k => if_pos rfl) ?_)
  refine Ev.bind (eqEdgeS_refl (by rw [List.length_map]; omega)) (Ev.congr (fun k => if_pos rfl) ?_)
  exact Ev.bind (eqEffectS_refl b4 b5) (Ev.of_eq fun k => rfl)

-- chunk plansame: when two plans are the same, of the program and of the reference
theorem zip_ev {α : Type} (xs ys : List α) (p : α × α → Bool) (F : Nat → Int → Option Bool) (R : Bool) (hn : xs.length = ys.length)
    (h1 : ∀ (i : Nat) (h : i < xs.length) (h' : i < ys.length), p (xs[i], ys[i]) = true → ∀ r, Ev (fun k => F k ((i + 1 : Nat) : Int)) r → Ev (fun k => F k (i : Int)) r)
    (h0 : ∀ (i : Nat) (h : i < xs.length) (h' : i < ys.length), p (xs[i], ys[i]) = false → Ev (fun k => F k (i : Int)) false)
    (h2 : Ev (fun k => F k (xs.length : Int)) R) : Ev (fun k => F k 0) ((xs.zip ys).all p && R) := by
  have key : ∀ (d i : Nat), i + d = xs.length → Ev (fun k => F k (i : Int)) (((xs.drop i).zip (ys.drop i)).all p && R) := by
    intro d
    induction d with
    | zero =>
      intro i hi
      obtain rfl : i = xs.length := by omega
      rw [List.drop_length, List.zip_nil_left, List.all_nil, Bool.true_and]
      exact h2
    | succ d ih =>
      intro i hi
      have a1 : i < xs.length := by omega
      have a2 : i < ys.length := by omega
      rw [List.drop_eq_getElem_cons a1, List.drop_eq_getElem_cons a2, List.zip_cons_cons, List.all_cons]
      cases hp : p (xs[i], ys[i]) with
      | true =>
        rw [Bool.true_and]
        exact h1 i a1 a2 hp _ (ih (i + 1) (by omega))
      | false =>
        rw [Bool.false_and, Bool.false_and]
        exact h0 i a1 a2 hp
  exact key xs.length 0 (by omega)
def eqL (a b : List Int) : Bool := decide (a.length = b.length) && (a.zip b).all fun t => decide (t.1 = t.2)
theorem l4Equal_ev {a b : List Int} (ha : a.length ≤ 1000000000) : Ev (fun k => spec_l4Equal.f k a b) (eqL a b) := by
  unfold spec_l4Equal.f eqL
  by_cases c : a.length = b.length
  · rw [decide_eq_true c, Bool.true_and]
    refine Ev.congr (fun k => if_pos (by omega)) ?_
    have h := zip_ev a b (fun t => decide (t.1 = t.2)) (fun k i => spec_l4Equal.l0 k a b i) true c (fun i h h' hp r hr => ?_) (fun i h h' hp => ?_) ?_
    · rw [Bool.and_true] at h
      exact h
    · refine Ev.step (fun k => ?_) hr
      simp only [spec_l4Equal.l0]
      rw [if_pos (by omega), if_pos (by omega), if_pos (by omega), rd_lt a h, rd_lt b h', if_pos (of_decide_eq_true hp), w64_nat i (by omega)]
    · refine Ev.succ (fun k => ?_)
      simp only [spec_l4Equal.l0]
      rw [if_pos (by omega), if_pos (by omega), if_pos (by omega), rd_lt a h, rd_lt b h', if_neg (of_decide_eq_false hp)]
    · refine Ev.succ (fun k => ?_)
      simp only [spec_l4Equal.l0]
      rw [if_neg (by omega)]
  · rw [decide_eq_false c, Bool.false_and]
    exact Ev.of_eq fun k => if_neg (by omega)
theorem slEqual_ev {a b : List Int} (ha : a.length ≤ 1000000000) : Ev (fun k => slices_Equal_int_int.f k a b) (eqL a b) := by
  unfold slices_Equal_int_int.f eqL
  by_cases c : a.length = b.length
  · rw [decide_eq_true c, Bool.true_and]
    refine Ev.congr (fun k => if_pos (by omega)) ?_
    have h := zip_ev a b (fun t => decide (t.1 = t.2)) (fun k i => slices_Equal_int_int.l0 k a b (a.length : Int) i) true c (fun i h h' hp r hr => ?_) (fun i h h' hp => ?_) ?_
    · rw [Bool.and_true] at h
      exact h
    · refine Ev.step (fun k => ?_) hr
      simp only [slices_Equal_int_int.l0]
      rw [if_pos (by omega), if_pos (by omega), if_pos (by omega), if_pos (by omega), rd_lt a h, rd_lt b h', if_pos (of_decide_eq_true hp), w64_nat i (by omega)]
    · refine Ev.succ (fun k => ?_)
      simp only [slices_Equal_int_int.l0]
      rw [if_pos (by omega), if_pos (by omega), if_pos (by omega), if_pos (by omega), rd_lt a h, rd_lt b h', if_neg (of_decide_eq_false hp)]
    · refine Ev.succ (fun k => ?_)
      simp only [slices_Equal_int_int.l0]
      rw [if_neg (by omega)]
  · rw [decide_eq_false c, Bool.false_and]
    exact Ev.of_eq fun k => if_neg (by omega)
def eqE1 (t : IE × IE) : Bool := t.1.f0 == t.2.f0 && t.1.f1 == t.2.f1
def eqE (a b : List IE) : Bool := decide (a.length = b.length) && (a.zip b).all eqE1
theorem eqE1_not {x y : IE} : (!(x.f0 == y.f0) || !(x.f1 == y.f1)) = !(eqE1 (x, y)) := by
  unfold eqE1
  rw [Bool.not_and]
theorem implEdge_ev {a b : List IE} (ha : a.length ≤ 1000000000) : Ev (fun k => impl_Edge.f k a b) (eqE a b) := by
  unfold impl_Edge.f eqE
  by_cases c : a.length = b.length
  · rw [decide_eq_true c, Bool.true_and]
    refine Ev.congr (fun k => if_pos (by omega)) ?_
    have h := zip_ev a b eqE1 (fun k i => impl_Edge.l0 k a b (a.length : Int) i) true c (fun i h h' hp r hr => ?_) (fun i h h' hp => ?_) ?_
    · rw [Bool.and_true] at h
      exact h
    · refine Ev.step (fun k => ?_) hr
      simp only [impl_Edge.l0]
      rw [if_pos (by omega), if_pos (by omega), if_pos (by omega), if_pos (by omega), rd_IE h, rd_IE h', eqE1_not, hp, if_neg (by simp), w64_nat i (by omega)]
    · refine Ev.succ (fun k => ?_)
      simp only [impl_Edge.l0]
      rw [if_pos (by omega), if_pos (by omega), if_pos (by omega), if_pos (by omega), rd_IE h, rd_IE h', eqE1_not, hp, if_pos (by simp)]
    · refine Ev.succ (fun k => ?_)
      simp only [impl_Edge.l0]
      rw [if_neg (by omega)]
  · rw [decide_eq_false c, Bool.false_and]
    exact Ev.of_eq fun k => if_neg (by omega)
def smallI9 (x : IF) : Prop := x.f0.length ≤ 1048576 ∧ x.f1.length ≤ 1048576 ∧ x.f2.length ≤ 1048576 ∧ x.f3.length ≤ 1048576 ∧ x.f4.length ≤ 1048576 ∧ x.f5.length ≤ 1048576 ∧ x.f6.length ≤ 1048576 ∧ x.f7.length ≤ 1048576
def eqF1 (t : IF × IF) : Bool := eqL t.1.f0 t.2.f0 && (eqL t.1.f1 t.2.f1 && (eqL t.1.f2 t.2.f2 && (eqL t.1.f3 t.2.f3 && (eqL t.1.f4 t.2.f4 && (eqL t.1.f5 t.2.f5 && (eqL t.1.f6 t.2.f6 && (eqL t.1.f7 t.2.f7 && (t.1.f8 == t.2.f8 && t.1.f9 == t.2.f9))))))))
theorem and_ev {g : Nat → Option Bool} {a b : Bool} {h : Nat → Option Bool} (hg : Ev g a) (hh : Ev h b) : Ev (fun k => (g k).bind fun t => if t = true then h k else some false) (a && b) := by
  refine Ev.bind hg ?_
  cases a with
  | true => rw [Bool.true_and]; exact Ev.congr (fun k => if_pos rfl) hh
  | false => rw [Bool.false_and]; exact Ev.of_eq fun k => if_neg (by simp)
theorem specSame_ev {x y : IF} (hx : smallI9 x) : Ev (fun k => spec_l17SameEffect.f k x.f0 x.f1 x.f2 x.f3 x.f4 x.f5 x.f6 x.f7 x.f8 x.f9 y.f0 y.f1 y.f2 y.f3 y.f4 y.f5 y.f6 y.f7 y.f8 y.f9) (eqF1 (x, y)) := by
  obtain ⟨h0, h1, h2, h3, h4, h5, h6, h7⟩ := hx
  unfold spec_l17SameEffect.f eqF1
  refine and_ev (l4Equal_ev (by omega)) (and_ev (l4Equal_ev (by omega)) (and_ev (l4Equal_ev (by omega)) (and_ev (l4Equal_ev (by omega)) (and_ev (l4Equal_ev (by omega)) (and_ev (l4Equal_ev (by omega)) (and_ev (l4Equal_ev (by omega)) (and_ev (l4Equal_ev (by omega)) ?_)))))))
  cases c : (x.f8 == y.f8) with
  | true => exact Ev.of_eq fun k => by rw [if_pos rfl, Bool.true_and]
  | false => exact Ev.of_eq fun k => by rw [if_neg (by simp), Bool.false_and]
theorem same1_ev {a b : List Int} (ha : a.length ≤ 1000000000) : Ev (fun k => impl_sameEffect_1.f k a b) (eqL a b) := by
  unfold impl_sameEffect_1.f
  exact Ev.bind (slEqual_ev ha) (Ev.now _)
theorem eqAllF_ev : ∀ (ps qs : List (List Int)), ps.length = qs.length → (∀ a ∈ ps, a.length ≤ 1000000000) → Ev (fun k => eqAllF k ps qs) ((ps.zip qs).all fun t => eqL t.1 t.2) := by
  intro ps
  induction ps with
  | nil =>
    intro qs hq _
    cases qs with
    | nil => exact Ev.now _
    | cons b qs => simp at hq
  | cons a ps ih =>
    intro qs hq hl
    cases qs with
    | nil => simp at hq
    | cons b qs =>
      rw [List.zip_cons_cons, List.all_cons]
      exact and_ev (same1_ev (hl a List.mem_cons_self)) (ih qs (by simpa using hq) (fun c hc => hl c (List.mem_cons_of_mem _ hc)))
theorem implSame_ev {x y : IF} (hx : smallI9 x) : Ev (fun k => impl_sameEffect.f k x.f0 x.f1 x.f2 x.f3 x.f4 x.f5 x.f6 x.f7 x.f8 x.f9 y.f0 y.f1 y.f2 y.f3 y.f4 y.f5 y.f6 y.f7 y.f8 y.f9) (eqF1 (x, y)) := by
  obtain ⟨h0, h1, h2, h3, h4, h5, h6, h7⟩ := hx
  unfold impl_sameEffect.f
  have h := eqAllF_ev [x.f0, x.f1, x.f2, x.f7, x.f3, x.f4, x.f5, x.f6] [y.f0, y.f1, y.f2, y.f7, y.f3, y.f4, y.f5, y.f6] rfl (fun a ha => by
    simp only [List.mem_cons, List.not_mem_nil, or_false] at ha
    rcases ha with rfl | rfl | rfl | rfl | rfl | rfl | rfl | rfl <;> omega)
  have e : eqF1 (x, y) = (((([x.f0, x.f1, x.f2, x.f7, x.f3, x.f4, x.f5, x.f6].zip [y.f0, y.f1, y.f2, y.f7, y.f3, y.f4, y.f5, y.f6]).all fun t => eqL t.1 t.2) && (x.f8 == y.f8)) && (x.f9 == y.f9)) := by
    unfold eqF1
    simp only [List.zip_cons_cons, List.zip_nil_left, List.all_cons, List.all_nil, Bool.and_true]
    cases eqL x.f0 y.f0 <;> cases eqL x.f1 y.f1 <;> cases eqL x.f2 y.f2 <;> cases eqL x.f3 y.f3 <;> cases eqL x.f4 y.f4 <;> cases eqL x.f5 y.f5 <;> cases eqL x.f6 y.f6 <;> cases eqL x.f7 y.f7 <;> rfl
  rw [e]
  exact Ev.bind h (Ev.now _)
def eqFs (a b : List IF) : Bool := decide (a.length = b.length) && (a.zip b).all eqF1
theorem implEffs_ev {a b : List IF} (ha : a.length ≤ 1000000000) (hs : ∀ x ∈ a, smallI9 x) : Ev (fun k => impl_Effect__impl_sameEffect.f k a b) (eqFs a b) := by
  unfold impl_Effect__impl_sameEffect.f eqFs
  by_cases c : a.length = b.length
  · rw [decide_eq_true c, Bool.true_and]
    refine Ev.congr (fun k => if_pos (by omega)) ?_
    have h := zip_ev a b eqF1 (fun k i => impl_Effect__impl_sameEffect.l0 k b a (a.length : Int) i) true c (fun i h h' hp r hr => ?_) (fun i h h' hp => ?_) ?_
    · rw [Bool.and_true] at h
      exact h
    · have hq := implSame_ev (y := b[i]) (hs a[i] (List.getElem_mem h))
      rw [hp] at hq
      refine Ev.step (f := fun k => (impl_sameEffect.f k a[i].f0 a[i].f1 a[i].f2 a[i].f3 a[i].f4 a[i].f5 a[i].f6 a[i].f7 a[i].f8 a[i].f9 b[i].f0 b[i].f1 b[i].f2 b[i].f3 b[i].f4 b[i].f5 b[i].f6 b[i].f7 b[i].f8 b[i].f9).bind fun t => if t = true then impl_Effect__impl_sameEffect.l0 k b a (a.length : Int) ((i + 1 : Nat) : Int) else some false) (fun k => ?_) (Ev.bind hq (Ev.congr (fun k => if_pos rfl) hr))
      simp only [impl_Effect__impl_sameEffect.l0]
      rw [if_pos (by omega), if_pos (by omega), if_pos (by omega), if_pos (by omega), rd_IF h, rd_IF h', w64_nat i (by omega)]
    · have hq := implSame_ev (y := b[i]) (hs a[i] (List.getElem_mem h))
      rw [hp] at hq
      refine Ev.step (f := fun k => (impl_sameEffect.f k a[i].f0 a[i].f1 a[i].f2 a[i].f3 a[i].f4 a[i].f5 a[i].f6 a[i].f7 a[i].f8 a[i].f9 b[i].f0 b[i].f1 b[i].f2 b[i].f3 b[i].f4 b[i].f5 b[i].f6 b[i].f7 b[i].f8 b[i].f9).bind fun t => if t = true then impl_Effect__impl_sameEffect.l0 k b a (a.length : Int) ((i + 1 : Nat) : Int) else some false) (fun k => ?_) (Ev.bind hq (Ev.of_eq fun k => if_neg (by simp)))
      simp only [impl_Effect__impl_sameEffect.l0]
      rw [if_pos (by omega), if_pos (by omega), if_pos (by omega), if_pos (by omega), rd_IF h, rd_IF h', w64_nat i (by omega)]
    · refine Ev.succ (fun k => ?_)
      simp only [impl_Effect__impl_sameEffect.l0]
      rw [if_neg (by omega)]
  · rw [decide_eq_false c, Bool.false_and]
    exact Ev.of_eq fun k => if_neg (by omega)
def planSame (s o : List Int) (es : List IE) (fs : List IF) (s' o' : List Int) (es' : List IE) (fs' : List IF) : Bool := eqL s s' && (eqL o o' && (eqE es es' && eqFs fs fs'))
theorem impl_PlanSame_ev {s o : List Int} {es : List IE} {fs : List IF} (s' o' : List Int) (es' : List IE) (fs' : List IF) (h1 : s.length ≤ 1048576) (h2 : o.length ≤ 1048576) (h3 : es.length ≤ 1048576) (h4 : fs.length ≤ 1048576) (h5 : ∀ x ∈ fs, smallI9 x) : Ev (fun k => impl_PlanSame.f k s o es fs s' o' es' fs') (planSame s o es fs s' o' es' fs') := by
  unfold impl_PlanSame.f planSame
  exact and_ev (slEqual_ev (by omega)) (and_ev (slEqual_ev (by omega)) (and_ev (implEdge_ev (by omega)) (Ev.bind (implEffs_ev (by omega) h5) (Ev.now _))))
theorem spec_PlanSame_ev {s o : List Int} {es : List IE} {fs : List IF} (s' o' : List Int) (es' : List IE) (fs' : List IF) (h1 : s.length ≤ 1048576) (h2 : o.length ≤ 1048576) (h3 : es.length ≤ 1048576) (h4 : fs.length ≤ 1048576) (h5 : ∀ x ∈ fs, smallI9 x) : Ev (fun k => spec_PlanSame.f k s o es fs s' o' es' fs') (planSame s o es fs s' o' es' fs') := by
  unfold spec_PlanSame.f planSame
  have hfalse : Ev (fun k => spec_PlanSame.j0 k true s o es fs s' o' es' fs') false := Ev.succ fun k => by simp only [spec_PlanSame.j0, if_true]
  refine Ev.bind (l4Equal_ev (b := s') (by omega)) ?_
  cases eqL s s' with
  | false =>
    rw [Bool.false_and]
    exact Ev.congr (fun k => if_neg (by simp)) hfalse
  | true =>
    rw [Bool.true_and]
    refine Ev.congr (fun k => if_pos rfl) (Ev.bind (l4Equal_ev (b := o') (by omega)) ?_)
    cases eqL o o' with
    | false =>
      rw [Bool.false_and]
      exact Ev.congr (fun k => if_neg (by simp)) hfalse
    | true =>
      rw [Bool.true_and]
      refine Ev.congr (fun k => if_pos rfl) ?_
      unfold eqE eqFs
      by_cases c1 : es.length = es'.length
      · rw [decide_eq_true c1, Bool.true_and]
        refine Ev.congr (fun k => if_pos (by omega)) ?_
        by_cases c2 : fs.length = fs'.length
        · rw [decide_eq_true c2, Bool.true_and]
          have hne : ((fs.length : Int) != (fs'.length : Int)) = false := by rw [c2]; simp
          rw [hne]
          have hF : Ev (fun k => spec_PlanSame.l1 k 0 s o es fs s' o' es' fs') ((fs.zip fs').all eqF1) := by
            have h := zip_ev fs fs' eqF1 (fun k i => spec_PlanSame.l1 k i s o es fs s' o' es' fs') true c2 (fun i h h' hp r hr => ?_) (fun i h h' hp => ?_) ?_
            · rw [Bool.and_true] at h
              exact h
            · have hq := specSame_ev (y := fs'[i]) (h5 fs[i] (List.getElem_mem h))
              rw [hp] at hq
              refine Ev.step (f := fun k => (spec_l17SameEffect.f k fs[i].f0 fs[i].f1 fs[i].f2 fs[i].f3 fs[i].f4 fs[i].f5 fs[i].f6 fs[i].f7 fs[i].f8 fs[i].f9 fs'[i].f0 fs'[i].f1 fs'[i].f2 fs'[i].f3 fs'[i].f4 fs'[i].f5 fs'[i].f6 fs'[i].f7 fs'[i].f8 fs'[i].f9).bind fun t => if t = true then spec_PlanSame.l1 k ((i + 1 : Nat) : Int) s o es fs s' o' es' fs' else some false) (fun k => ?_) (Ev.bind hq (Ev.congr (fun k => if_pos rfl) hr))
              simp only [spec_PlanSame.l1]
              rw [if_pos (by omega), if_pos (by omega), if_pos (by omega), rd_IF h, rd_IF h', w64_nat i (by omega)]
            · have hq := specSame_ev (y := fs'[i]) (h5 fs[i] (List.getElem_mem h))
              rw [hp] at hq
              refine Ev.step (f := fun k => (spec_l17SameEffect.f k fs[i].f0 fs[i].f1 fs[i].f2 fs[i].f3 fs[i].f4 fs[i].f5 fs[i].f6 fs[i].f7 fs[i].f8 fs[i].f9 fs'[i].f0 fs'[i].f1 fs'[i].f2 fs'[i].f3 fs'[i].f4 fs'[i].f5 fs'[i].f6 fs'[i].f7 fs'[i].f8 fs'[i].f9).bind fun t => if t = true then spec_PlanSame.l1 k ((i + 1 : Nat) : Int) s o es fs s' o' es' fs' else some false) (fun k => ?_) (Ev.bind hq (Ev.of_eq fun k => if_neg (by simp)))
              simp only [spec_PlanSame.l1]
              rw [if_pos (by omega), if_pos (by omega), if_pos (by omega), rd_IF h, rd_IF h', w64_nat i (by omega)]
            · refine Ev.succ (fun k => ?_)
              simp only [spec_PlanSame.l1]
              rw [if_neg (by omega)]
          have hE : Ev (fun k => spec_PlanSame.l0 k 0 s o es fs s' o' es' fs') ((es.zip es').all eqE1 && (fs.zip fs').all eqF1) := by
            refine zip_ev es es' eqE1 (fun k i => spec_PlanSame.l0 k i s o es fs s' o' es' fs') _ c1 (fun i h h' hp r hr => ?_) (fun i h h' hp => ?_) ?_
            · refine Ev.step (fun k => ?_) hr
              simp only [spec_PlanSame.l0]
              rw [if_pos (by omega), if_pos (by omega), if_pos (by omega), rd_IE h, rd_IE h', eqE1_not, hp, if_neg (by simp), w64_nat i (by omega)]
            · refine Ev.succ (fun k => ?_)
              simp only [spec_PlanSame.l0]
              rw [if_pos (by omega), if_pos (by omega), if_pos (by omega), rd_IE h, rd_IE h', eqE1_not, hp, if_pos (by simp)]
            · refine Ev.step (fun k => ?_) hF
              simp only [spec_PlanSame.l0]
              rw [if_neg (by omega)]
          refine Ev.step (fun k => ?_) hE
          simp only [spec_PlanSame.j0]
          rw [if_neg (by simp)]
        · rw [decide_eq_false c2, Bool.false_and, Bool.and_false]
          have hne : ((fs.length : Int) != (fs'.length : Int)) = true := bne_iff_ne.2 (by omega)
          rw [hne]
          exact hfalse
      · rw [decide_eq_false c1, Bool.false_and, Bool.false_and]
        exact Ev.congr (fun k => if_neg (by omega)) hfalse

theorem szPlan_from {s o : List Int} {es : List LE} {fs : List LF} (hs : s.length ≤ maxLen) (ho : o.length ≤ maxLen) (he : es.length ≤ maxLen) (hf : fs.length ≤ maxLen) (hg : ∀ x ∈ fs, good174 x) {z : Int} (z0 : 0 ≤ z) (z1 : z ≤ 1048576) :
    Ev (fun k => laws_szPlan.f k s o es fs z) (-1) ∨ (∃ r, Ev (fun k => laws_szPlan.f k s o es fs z) r ∧ 0 ≤ r ∧ r ≤ 1048576 ∧ s.length ≤ 1048576 ∧ o.length ≤ 1048576 ∧ es.length ≤ 1048576 ∧ fs.length ≤ 1048576 ∧ ∀ x ∈ fs, smallF 1048576 x) := by
  unfold laws_szPlan.f
  rcases szIntS_cases hs (a := z) (by omega) (by omega) with e | ⟨e0, p0⟩
  · left; rw [e]; exact Ev.of_eq fun k => rfl
  have q0 : ¬ (z - (s.length : Int) < 0) := by omega
  rw [e0]; simp only [Option.bind_some, q0, if_false]
  rcases szIntS_cases ho (a := z - s.length) (by omega) (by omega) with e | ⟨e1, p1⟩
  · left; rw [e]; exact Ev.of_eq fun k => rfl
  have q1 : ¬ (z - (s.length : Int) - o.length < 0) := by omega
  rw [e1]; simp only [Option.bind_some, q1, if_false]
  have he' := he
  unfold maxLen at he'
  rw [szEdgeS_eq, w64 (by omega) (by omega)]
  simp only [Option.bind_some]
  by_cases hn : z - (s.length : Int) - o.length - es.length < 0
  · left; simp only [hn, if_true]; exact Ev.of_eq fun k => rfl
  simp only [hn, if_false]
  rcases szEffectS_cases hf (fun x hx => by obtain ⟨h0, h1, h2, h3, h4, h5, h6, h7⟩ := hg x hx; exact ⟨h0.1, h1.1, h2.1, h3.1, h4.1, h5.1, h6.1, h7.1⟩) (a := z - (s.length : Int) - o.length - es.length) (by omega) (by omega) with e | ⟨r, e, r0, r1, b, hb⟩
  · left; exact Ev.bind e (Ev.of_eq fun k => rfl)
  · right
    exact ⟨r, Ev.bind e (Ev.of_eq fun k => if_neg (by omega)), r0, by omega, by omega, by omega, by omega, b, hb⟩
theorem small9 {x : LF} (h : smallF 1048576 x) : smallI9 (toF x) := h
theorem proof : Pure := by
  intro s o es fs s' o' es' fs' hs ho he hf hs' ho' he' hf'
  refine Ev.rounds ?_
  unfold laws_FnExactPlanSame.f
  rcases szPlan_from hs.1 ho.1 he.1 hf.1 hf.2 (z := 1048576) (by omega) (by omega) with e | ⟨r, e, r0, r1, b1, b2, b3, b4, b5⟩
  · exact Ev.bind e (Ev.of_eq fun k => by rw [if_pos (by omega)])
  refine Ev.bind e (Ev.congr (fun k => if_neg (by omega)) ?_)
  rcases szPlan_from hs'.1 ho'.1 he'.1 hf'.1 hf'.2 (z := r) r0 r1 with e | ⟨q, e, q0, q1, d1, d2, d3, d4, d5⟩
  · exact Ev.bind e (Ev.of_eq fun k => by rw [if_pos (by omega)])
  refine Ev.bind e (Ev.congr (fun k => if_neg (by omega)) ?_)
  have hp := toPlan_ev b1 b2 b3 b4 b5
  have hq := toPlan_ev d1 d2 d3 d4 d5
  have h5 : ∀ x ∈ fs.map toF, smallI9 x := fun x hx => by
    obtain ⟨y, hy, rfl⟩ := List.mem_map.1 hx
    exact small9 (b5 y hy)
  have hi := impl_PlanSame_ev (s := s) (o := o) (es := es.map toE) (fs := fs.map toF) s' o' (es'.map toE) (fs'.map toF) b1 b2 (by rw [List.length_map]; exact b3) (by rw [List.length_map]; exact b4) h5
  have hsp := spec_PlanSame_ev (s := s) (o := o) (es := es.map toE) (fs := fs.map toF) s' o' (es'.map toE) (fs'.map toF) b1 b2 (by rw [List.length_map]; exact b3) (by rw [List.length_map]; exact b4) h5
  generalize planSame s o (es.map toE) (fs.map toF) s' o' (es'.map toE) (fs'.map toF) = t at hi hsp
  refine Ev.bind hp (Ev.bind hq (Ev.bind hsp (Ev.bind hp (Ev.bind hq (Ev.bind hi ?_)))))
  refine Ev.congr (fun k => if_neg (by simp)) ?_
  refine Ev.bind hp (Ev.bind (eqPlan_refl b1 b2 b3 b4 b5) (Ev.congr (fun k => if_pos rfl) ?_))
  exact Ev.bind hq (Ev.bind (eqPlan_refl d1 d2 d3 d4 d5) (Ev.of_eq fun k => if_pos rfl))


end Go.Proofs.Ytnecbgeljanhiaa.fnExactPlanSame
