/- The law FnExactWidest holds of the program's own functions, told over lists and numbers: for every argument it returns true. Conditions: none beyond the given row's own. -/
import Derived.Test.YtnecbgeljanhiaaSaysFnExactWidest
import Derived.Test.YtnecbgeljanhiaaKit
namespace Go.Proofs.Ytnecbgeljanhiaa.fnExactWidest
open Go.RowKit Go.Proofs.Ytnecbgeljanhiaa.PFnExactWidest Go.Proofs.YtnecbgeljanhiaaW.PrintWords Go.Proofs.YtnecbgeljanhiaaW.PrintLast Go.Proofs.Ytnecbgeljanhiaa.Own
set_option linter.unusedVariables false
set_option linter.unusedSimpArgs false
-- chunk moves: lists of moves are copied, and the same as themselves
abbrev LM := S107
abbrev IM := S46
def toM (x : LM) : IM := ⟨x.f0, x.f1⟩
theorem szMoveS_eq (l : List LM) (a : Int) : laws_szMoveS.f l a = some (if wrap64 (a - (l.length : Int)) < 0 then -1 else wrap64 (a - (l.length : Int))) := by
  unfold laws_szMoveS.f; split <;> rfl
theorem szMoveS_big {l : List LM} (hl : l.length ≤ maxLen) (h : 1048576 < l.length) : laws_szMoveS.f l 1048576 = some (-1) := by
  unfold maxLen at hl
  rw [szMoveS_eq, w64 (by omega) (by omega), if_pos (by omega)]
theorem rd_LM {l : List LM} {i : Nat} (h : i < l.length) : rd_T107 l (i : Int) = l[i] := by
  unfold rd_T107; rw [Int.toNat_natCast]; exact getD_lt l _ h
theorem rd_IM {l : List IM} {i : Nat} (h : i < l.length) : rd_T46 l (i : Int) = l[i] := by
  unfold rd_T46; rw [Int.toNat_natCast]; exact getD_lt l _ h
theorem toMoveS_ev {l : List LM} (hl : l.length ≤ 17592186044416) : Ev (fun k => laws_toMoveS.f k l) (l.map toM) := by
  unfold laws_toMoveS.f
  simp only [Int.natCast_nonneg, if_true, Int.toNat_natCast, if_pos hl]
  refine fill_ev l toM (fun k ys i => laws_toMoveS.l0 k l ys i) (fun i h ys hy r hr => ?_) (fun ys => ?_) _ (by simp)
  · refine Ev.step (fun k => ?_) hr
    show laws_toMoveS.l0 (k + 1) l ys i = _
    simp only [laws_toMoveS.l0]
    rw [if_pos (by omega), if_pos (by omega), rd_LM h]
    unfold laws_toMove.f
    simp only [Option.bind_some]
    rw [if_pos (by omega), w64_succ h (by omega), Int.toNat_natCast]
    rfl
  · refine Ev.succ (fun k => ?_)
    simp only [laws_toMoveS.l0]
    rw [if_neg (by omega)]
theorem eqMoveS_refl {l : List IM} (hl : l.length ≤ 17592186044416) : Ev (fun k => laws_eqMoveS.f k l l) true := by
  unfold laws_eqMoveS.f
  simp only [if_true]
  refine down_ev (fun k i => laws_eqMoveS.l0 k l l i) l.length true (fun i h hr => ?_) ?_ 0 (by omega)
  · refine Ev.step (fun k => ?_) hr
    simp only [laws_eqMoveS.l0]
    rw [if_pos (by omega), if_pos (by omega), if_pos (by omega)]
    unfold laws_eqMove.f
    simp only [if_true, Option.bind_some]
    rw [w64_succ h (by omega)]
  · refine Ev.succ (fun k => ?_)
    simp only [laws_eqMoveS.l0]
    rw [if_neg (by omega)]
theorem rise_unique {l1 l2 : List Int} (h1 : l1.Pairwise (· < ·)) (h2 : l2.Pairwise (· < ·)) (h : ∀ x, x ∈ l1 ↔ x ∈ l2) : l1 = l2 := by
  induction l1 generalizing l2 with
  | nil =>
    cases l2 with
    | nil => rfl
    | cons b u => exact absurd ((h b).2 (by simp)) (by simp)
  | cons a t ih =>
    cases l2 with
    | nil => exact absurd ((h a).1 (by simp)) (by simp)
    | cons b u =>
      rw [List.pairwise_cons] at h1 h2
      have hab : a = b := by
        have q1 := (h a).1 (by simp)
        have q2 := (h b).2 (by simp)
        rw [List.mem_cons] at q1 q2
        rcases q1 with q1 | q1
        · exact q1
        · rcases q2 with q2 | q2
          · exact q2.symm
          · have := h1.1 b q2
            have := h2.1 a q1
            omega
      subst hab
      rw [ih h1.2 h2.2 (fun x => ?_)]
      have q := h x
      rw [List.mem_cons, List.mem_cons] at q
      constructor
      · intro hx
        have := h1.1 x hx
        rcases q.1 (.inr hx) with e | e
        · omega
        · exact e
      · intro hx
        have := h2.1 x hx
        rcases q.2 (.inr hx) with e | e
        · omega
        · exact e
theorem srt_pair (l : List Int) : (l.mergeSort fun x y => decide (x ≤ y)).Pairwise (· ≤ ·) := by
  have h := List.pairwise_mergeSort (le := fun x y : Int => decide (x ≤ y)) (fun a b c h1 h2 => by simp at h1 h2 ⊢; omega) (fun a b => by simp; omega) l
  exact h.imp (fun h => by simpa using h)
theorem srt_get {s : List Int} (h : s.Pairwise (· ≤ ·)) {i j : Nat} (hij : i ≤ j) (hj : j < s.length) : s.toArray[i]! ≤ s.toArray[j]! := by
  rw [getElem!_pos s.toArray i (by simp; omega), getElem!_pos s.toArray j (by simpa using hj)]
  simp only [List.getElem_toArray]
  rcases Nat.lt_or_ge i j with h1 | h1
  · exact List.pairwise_iff_getElem.1 h i j (by omega) hj h1
  · obtain rfl : i = j := by omega
    exact Int.le_refl _
theorem asc_rise (l : List Int) : (ascL l).Pairwise (· < ·) := by
  unfold ascL Lib.compact Lib.compactUpTo
  have hs := srt_pair l
  obtain ⟨s, es⟩ : ∃ s, s = l.mergeSort fun x y => decide (x ≤ y) := ⟨_, rfl⟩
  rw [← es] at hs ⊢
  rw [List.pairwise_map]
  refine List.Pairwise.imp_of_mem (fun {a b} ha hb hab => ?_) (List.Pairwise.filter _ List.pairwise_lt_range)
  rw [List.mem_filter, List.mem_range] at ha hb
  have hk := hb.2
  unfold Lib.keeps at hk
  have hk := of_decide_eq_true hk
  have hne := hk.resolve_left (by omega)
  have q1 := srt_get hs (i := a) (j := b - 1) (by omega) (by omega)
  have q2 := srt_get hs (i := b - 1) (j := b) (by omega) (by omega)
  omega
theorem asc_mem (l : List Int) (x : Int) : x ∈ ascL l ↔ x ∈ l := by
  unfold ascL Lib.compact Lib.compactUpTo
  rw [← List.mem_mergeSort (le := fun x y : Int => decide (x ≤ y)) (l := l)]
  obtain ⟨s, es⟩ : ∃ s, s = l.mergeSort fun x y => decide (x ≤ y) := ⟨_, rfl⟩
  rw [← es]
  have get : ∀ j (hj : j < s.length), s.toArray[j]! = s[j] := fun j hj => by
    rw [getElem!_pos s.toArray j (by simpa using hj)]
    simp
  have key : ∀ j, j < s.length → ∃ i, i < s.length ∧ Lib.keeps s.toArray i = true ∧ s.toArray[i]! = s.toArray[j]! := by
    intro j
    induction j with
    | zero => intro h; exact ⟨0, h, by simp [Lib.keeps], rfl⟩
    | succ j ih =>
      intro h
      by_cases hk : Lib.keeps s.toArray (j + 1) = true
      · exact ⟨j + 1, h, hk, rfl⟩
      · obtain ⟨i, h1, h2, h3⟩ := ih (by omega)
        refine ⟨i, h1, h2, h3.trans ?_⟩
        unfold Lib.keeps at hk
        have hk : ¬ (j + 1 = 0 ∨ s.toArray[j + 1]! ≠ s.toArray[j + 1 - 1]!) := fun h => hk (decide_eq_true h)
        have := Decidable.not_not.1 (fun h => hk (.inr h))
        rw [this]; rfl
  constructor
  · intro h
    obtain ⟨j, hj, rfl⟩ := List.mem_map.1 h
    rw [List.mem_filter, List.mem_range] at hj
    rw [get j hj.1]
    exact List.getElem_mem _
  · intro h
    obtain ⟨j, hj, rfl⟩ := List.mem_iff_getElem.1 h
    obtain ⟨i, h1, h2, h3⟩ := key j hj
    refine List.mem_map.2 ⟨i, List.mem_filter.2 ⟨List.mem_range.2 h1, h2⟩, ?_⟩
    rw [h3, get j hj]
theorem asc_congr {l l' : List Int} (h : ∀ x, x ∈ l ↔ x ∈ l') : ascL l = ascL l' :=
  rise_unique (asc_rise l) (asc_rise l') (fun x => by rw [asc_mem, asc_mem]; exact h x)
theorem asc_eq {l r : List Int} (h1 : r.Pairwise (· < ·)) (h2 : ∀ x, x ∈ r ↔ x ∈ l) : r = ascL l :=
  rise_unique h1 (asc_rise l) (fun x => by rw [asc_mem]; exact h2 x)
def pushL (out : List Int) (x : Int) : List Int := if out.getLast? = some x then out else out ++ [x]
theorem push_len (out : List Int) (x : Int) : (pushL out x).length ≤ out.length + 1 := by
  unfold pushL
  split <;> simp
theorem push_code {ρ : Type} (out : List Int) (hl : out.length ≤ 1000000000000) (x : Int) (F : List Int → Option ρ) :
    (if (out.length : Int) = 0 then (if out.length < 17592186044416 then (F (out ++ [x])) else (none)) else (if 0 ≤ (wrap64 ((out.length : Int) - 1)) then (if (wrap64 ((out.length : Int) - 1)) < (out.length : Int) then (if (rd out (wrap64 ((out.length : Int) - 1))) = x then (F out) else (if out.length < 17592186044416 then (F (out ++ [x])) else (none))) else (none)) else (none))) = F (pushL out x) := by
  unfold pushL
  by_cases h : out = []
  · subst h
    simp
  · have hp := List.length_pos_iff.2 h
    have e : wrap64 ((out.length : Int) - 1) = ((out.length - 1 : Nat) : Int) := by rw [w64 (by omega) (by omega)]; omega
    rw [if_neg (by omega), e, if_pos (by omega), if_pos (by omega), rd_lt _ (by omega), List.getLast?_eq_getElem?, List.getElem?_eq_getElem (by omega)]
    by_cases hx : out[out.length - 1] = x
    · rw [if_pos hx, if_pos (by rw [hx])]
    · rw [if_neg hx, if_neg (fun he => hx (Option.some.inj he)), if_pos (by omega)]
theorem push_spec {out : List Int} {x : Int} (h : out.Pairwise (· < ·)) (hx : ∀ y ∈ out, y ≤ x) : (pushL out x).Pairwise (· < ·) ∧ ∀ z, z ∈ pushL out x ↔ z ∈ out ∨ z = x := by
  unfold pushL
  split
  · rename_i hl
    have hm : x ∈ out := List.mem_of_getLast? hl
    exact ⟨h, fun z => ⟨.inl, fun hz => hz.elim id (fun e => e ▸ hm)⟩⟩
  · rename_i hl
    have hn : x ∉ out := by
      intro hm
      have hne : out ≠ [] := by rintro rfl; simp at hm
      have hp := List.length_pos_iff.2 hne
      apply hl
      rw [List.getLast?_eq_getElem?, List.getElem?_eq_getElem (by omega)]
      congr 1
      obtain ⟨i, hi, rfl⟩ := List.mem_iff_getElem.1 hm
      have h2 := hx (out[out.length - 1]) (List.getElem_mem _)
      rcases Nat.lt_or_ge i (out.length - 1) with h3 | h3
      · have := List.pairwise_iff_getElem.1 h i (out.length - 1) hi (by omega) h3
        omega
      · have e : i = out.length - 1 := by omega
        subst e; rfl
    refine ⟨List.pairwise_append.2 ⟨h, by simp, fun a ha b hb => ?_⟩, fun z => by simp⟩
    obtain rfl := List.mem_singleton.1 hb
    have := hx a ha
    have : a ≠ b := fun e => hn (e ▸ ha)
    omega
theorem rise_le {l : List Int} (h : l.Pairwise (· < ·)) {i j : Nat} (hij : i ≤ j) (hj : j < l.length) : l[i] ≤ l[j] := by
  rcases Nat.lt_or_ge i j with h1 | h1
  · exact Int.le_of_lt (List.pairwise_iff_getElem.1 h i j (by omega) hj h1)
  · obtain rfl : i = j := by omega
    exact Int.le_refl _

-- chunk sorted: the reference's sorting by halves, unions and meets
theorem mem_take_succ {l : List Int} {i : Nat} (h : i < l.length) (z : Int) : z ∈ l.take (i + 1) ↔ z ∈ l.take i ∨ z = l[i] := by
  rw [List.take_succ_eq_append_getElem h, List.mem_append, List.mem_singleton]
theorem merge_ev {a b : List Int} (ha : a.Pairwise (· < ·)) (hb : b.Pairwise (· < ·)) (hl : a.length + b.length ≤ 1000000000) :
    Ev (fun k => spec_l10Sorted.l0 k a b [] 0 0) (ascL (a ++ b)) := by
  have key : ∀ (d : Nat) (out : List Int) (i j : Nat), (a.length - i) + (b.length - j) = d → i ≤ a.length → j ≤ b.length → out.length ≤ i + j → out.Pairwise (· < ·) →
      (∀ z, z ∈ out ↔ z ∈ a.take i ∨ z ∈ b.take j) → (∀ y ∈ out, ∀ p (hp : p < a.length), i ≤ p → y ≤ a[p]) → (∀ y ∈ out, ∀ p (hp : p < b.length), j ≤ p → y ≤ b[p]) →
      Ev (fun k => spec_l10Sorted.l0 k a b out (i : Int) (j : Int)) (ascL (a ++ b)) := by
    intro d
    induction d with
    | zero =>
      intro out i j hd hi hj hlen hr hm _ _
      obtain rfl : i = a.length := by omega
      obtain rfl : j = b.length := by omega
      refine Ev.step (f := fun k => spec_l10Sorted.j1 k a b out (a.length : Int) (b.length : Int) false) (fun k => ?_) (Ev.succ (fun k => ?_))
      · simp only [spec_l10Sorted.l0]
        rw [if_neg (by omega), decide_eq_false (by omega)]
      · simp only [spec_l10Sorted.j1]
        rw [if_neg (by simp)]
        congr 1
        refine asc_eq hr (fun x => ?_)
        rw [hm, List.take_length, List.take_length, List.mem_append]
    | succ d ih =>
      intro out i j hd hi hj hlen hr hm hA hB
      -- the way of one side
      have left : ∀ hia : i < a.length, (∀ p (hp : p < b.length), j ≤ p → a[i] ≤ b[p]) → Ev (fun k => spec_l10Sorted.j2 k a b out (i : Int) (j : Int) true) (ascL (a ++ b)) := by
        intro hia hle
        have hx := fun y hy => hA y hy i hia (Nat.le_refl _)
        have hs := push_spec hr hx
        refine Ev.step (f := fun k => spec_l10Sorted.l0 k a b (pushL out a[i]) ((i + 1 : Nat) : Int) (j : Int)) (fun k => ?_) (ih (pushL out a[i]) (i + 1) j (by omega) (by omega) hj (by have := push_len out a[i]; omega) hs.1 (fun z => ?_) (fun y hy p hp hip => ?_) (fun y hy p hp hjp => ?_))
        · simp only [spec_l10Sorted.j2]
          rw [if_pos (by simp), if_pos (by omega), if_pos (by omega), w64_succ hia (by omega), rd_lt _ hia]
          exact push_code out (by omega) a[i] (fun o => spec_l10Sorted.l0 k a b o ((i + 1 : Nat) : Int) (j : Int))
        · rw [hs.2, hm, mem_take_succ hia]
          constructor
          · rintro ((h | h) | h)
            · exact .inl (.inl h)
            · exact .inr h
            · exact .inl (.inr h)
          · rintro ((h | h) | h)
            · exact .inl (.inl h)
            · exact .inr h
            · exact .inl (.inr h)
        · rcases (hs.2 y).1 hy with h | rfl
          · exact hA y h p hp (by omega)
          · exact rise_le ha (by omega) hp
        · rcases (hs.2 y).1 hy with h | rfl
          · exact hB y h p hp hjp
          · exact hle p hp hjp
      have right : ∀ hjb : j < b.length, (∀ p (hp : p < a.length), i ≤ p → b[j] ≤ a[p]) → Ev (fun k => spec_l10Sorted.j2 k a b out (i : Int) (j : Int) false) (ascL (a ++ b)) := by
        intro hjb hle
        have hx := fun y hy => hB y hy j hjb (Nat.le_refl _)
        have hs := push_spec hr hx
        refine Ev.step (f := fun k => spec_l10Sorted.l0 k a b (pushL out b[j]) (i : Int) ((j + 1 : Nat) : Int)) (fun k => ?_) (ih (pushL out b[j]) i (j + 1) (by omega) hi (by omega) (by have := push_len out b[j]; omega) hs.1 (fun z => ?_) (fun y hy p hp hip => ?_) (fun y hy p hp hjp => ?_))
        · simp only [spec_l10Sorted.j2]
          rw [if_neg (by simp), if_pos (by omega), if_pos (by omega), w64_succ hjb (by omega), rd_lt _ hjb]
          exact push_code out (by omega) b[j] (fun o => spec_l10Sorted.l0 k a b o (i : Int) ((j + 1 : Nat) : Int))
        · rw [hs.2, hm, mem_take_succ hjb]
          constructor
          · rintro ((h | h) | h)
            · exact .inl h
            · exact .inr (.inl h)
            · exact .inr (.inr h)
          · rintro (h | h | h)
            · exact .inl (.inl h)
            · exact .inl (.inr h)
            · exact .inr h
        · rcases (hs.2 y).1 hy with h | rfl
          · exact hA y h p hp hip
          · exact hle p hp hip
        · rcases (hs.2 y).1 hy with h | rfl
          · exact hB y h p hp (by omega)
          · exact rise_le hb (by omega) hp
      have inner : Ev (fun k => spec_l10Sorted.j1 k a b out (i : Int) (j : Int) true) (ascL (a ++ b)) := by
        by_cases hjb : j < b.length
        · by_cases hia : i < a.length
          · by_cases hc : a[i] ≤ b[j]
            · refine Ev.step (fun k => ?_) (left hia (fun p hp hjp => Int.le_trans hc (rise_le hb hjp hp)))
              simp only [spec_l10Sorted.j1]
              rw [if_pos (by simp), if_neg (by omega), if_pos (by omega), if_pos (by omega), if_pos (by omega), if_pos (by omega), rd_lt _ hia, rd_lt _ hjb, decide_eq_true hc]
            · refine Ev.step (fun k => ?_) (right hjb (fun p hp hip => Int.le_trans (by omega) (rise_le ha hip hp)))
              simp only [spec_l10Sorted.j1]
              rw [if_pos (by simp), if_neg (by omega), if_pos (by omega), if_pos (by omega), if_pos (by omega), if_pos (by omega), rd_lt _ hia, rd_lt _ hjb, decide_eq_false hc]
          · refine Ev.step (fun k => ?_) (right hjb (fun p hp hip => by omega))
            simp only [spec_l10Sorted.j1]
            rw [if_pos (by simp), if_neg (by omega), if_neg (by omega)]
        · refine Ev.step (fun k => ?_) (left (by omega) (fun p hp hjp => by omega))
          simp only [spec_l10Sorted.j1]
          rw [if_pos (by simp), if_pos (by omega)]
      refine Ev.step (fun k => ?_) inner
      simp only [spec_l10Sorted.l0]
      by_cases hia : i < a.length
      · rw [if_pos (by omega)]
      · rw [if_neg (by omega), decide_eq_true (by omega)]
  exact key _ [] 0 0 rfl (by omega) (by omega) (by simp) (by simp) (fun z => by simp) (fun y hy => by simp at hy) (fun y hy => by simp at hy)
theorem spec_l10Sorted_ev (l : List Int) (hl : l.length ≤ 1000000000) : Ev (fun k => spec_l10Sorted.f k l) (ascL l) := by
  obtain ⟨n, hn⟩ : ∃ n, l.length ≤ n := ⟨_, Nat.le_refl _⟩
  induction n generalizing l with
  | zero =>
    obtain rfl : l = [] := List.length_eq_zero_iff.1 (by omega)
    refine Ev.succ (fun k => ?_)
    simp only [spec_l10Sorted.f]
    rw [if_pos (by simp)]
    simp only [Option.bind_some]
    have e0 : ascL [] = [] := (asc_eq (by simp) (by simp)).symm
    rw [if_pos (by simp), e0]
    rfl
  | succ n ih =>
    by_cases h2 : l.length < 2
    · refine Ev.succ (fun k => ?_)
      simp only [spec_l10Sorted.f]
      rw [if_pos (by omega)]
      simp only [Option.bind_some]
      rw [if_pos (by simp; omega), List.nil_append]
      congr 1
      refine asc_eq ?_ (fun x => Iff.rfl)
      match l, h2 with
      | [], _ => simp
      | [a], _ => simp
    · have e : wrap64 ((l.length : Int) / 2) = ((l.length / 2 : Nat) : Int) := by rw [w64 (by omega) (by omega)]; omega
      have h := ih (l.take (l.length / 2)) (by rw [List.length_take]; omega) (by rw [List.length_take]; omega)
      have h' := ih (l.drop (l.length / 2)) (by rw [List.length_drop]; omega) (by rw [List.length_drop]; omega)
      have q1 := asc_len (l.take (l.length / 2))
      have q2 := asc_len (l.drop (l.length / 2))
      rw [List.length_take] at q1
      rw [List.length_drop] at q2
      have hm := merge_ev (asc_rise (l.take (l.length / 2))) (asc_rise (l.drop (l.length / 2))) (by omega)
      have er : ascL (ascL (l.take (l.length / 2)) ++ ascL (l.drop (l.length / 2))) = ascL l := asc_congr (fun x => by
        rw [List.mem_append, asc_mem, asc_mem, ← List.mem_append, List.take_append_drop])
      rw [er] at hm
      refine Ev.step (f := fun k => (spec_l10Sorted.f k (l.take (l.length / 2))).bind fun t => (spec_l10Sorted.f k (l.drop (l.length / 2))).bind fun u => spec_l10Sorted.l0 k t u [] 0 0) (fun k => ?_) (Ev.bind h (Ev.bind h' hm))
      simp only [spec_l10Sorted.f, e, Int.toNat_natCast]
      rw [if_neg (by omega), if_pos (by omega), if_pos (by omega)]
def meetL (x y : List Int) : List Int := x.filter fun z => decide (z ∈ y)
theorem meet_mem (a b : List Int) (x : Int) : x ∈ meetL (ascL a) (ascL b) ↔ x ∈ a ∧ x ∈ b := by
  unfold meetL
  rw [List.mem_filter, asc_mem, decide_eq_true_eq, asc_mem]
theorem meet_len (a b : List Int) : (meetL a b).length ≤ a.length := List.length_filter_le _ _
/-- What one writes and the other one writes or reads. -/
def hitsL (aw ar bw br : List Int) : List Int := ascL ((aw.filter fun x => decide (x ∈ bw ++ br)) ++ (bw.filter fun x => decide (x ∈ aw ++ ar)))
theorem hits_len (aw ar bw br : List Int) : (hitsL aw ar bw br).length ≤ aw.length + bw.length := by
  have h := asc_len ((aw.filter fun x => decide (x ∈ bw ++ br)) ++ (bw.filter fun x => decide (x ∈ aw ++ ar)))
  have h1 := List.length_filter_le (fun x => decide (x ∈ bw ++ br)) aw
  have h2 := List.length_filter_le (fun x => decide (x ∈ aw ++ ar)) bw
  rw [List.length_append] at h
  unfold hitsL
  omega
def spR : List IM → List Int × List Int
  | [] => ([], [])
  | m :: l => if m.f0 = 1 then ((spR l).1, (spR l).2 ++ [m.f1]) else if m.f0 = 2 then (if m.f1 ∈ (spR l).2 then spR l else ((spR l).1 ++ [m.f1], (spR l).2)) else spR l
theorem spR_cons (m : IM) (l : List IM) : spR (m :: l) = if m.f0 = 1 then ((spR l).1, (spR l).2 ++ [m.f1]) else if m.f0 = 2 then (if m.f1 ∈ (spR l).2 then spR l else ((spR l).1 ++ [m.f1], (spR l).2)) else spR l := rfl
theorem spR_len (l : List IM) : (spR l).1.length ≤ l.length ∧ (spR l).2.length ≤ l.length := by
  induction l with
  | nil => simp [spR]
  | cons m l ih =>
    rw [spR_cons]
    split
    · simp; omega
    · split
      · split
        · simp; omega
        · simp; omega
      · simp; omega
theorem spR_mem (l : List IM) : ∀ (o : List Int) (x : Int), x ∈ l.foldl nowStep o ↔ (x ∈ o ∧ x ∉ (spR l).2) ∨ x ∈ (spR l).1 := by
  induction l with
  | nil => intro o x; simp [spR]
  | cons m l ih =>
    intro o x
    rw [List.foldl_cons, ih, spR_cons]
    unfold nowStep
    by_cases h1 : m.f0 = 1
    · rw [if_neg (by omega), if_pos h1, if_pos h1]
      simp only [delL, List.mem_filter, List.mem_append, List.mem_singleton, Bool.not_eq_true', beq_eq_false_iff_ne, ne_eq, not_or]
      constructor
      · rintro (⟨⟨h2, h3⟩, h4⟩ | h2)
        · exact .inl ⟨h2, h4, h3⟩
        · exact .inr h2
      · rintro (⟨h2, h4, h3⟩ | h2)
        · exact .inl ⟨⟨h2, h3⟩, h4⟩
        · exact .inr h2
    · by_cases h2 : m.f0 = 2
      · rw [if_pos h2, if_neg h1, if_pos h2]
        by_cases h3 : m.f1 ∈ (spR l).2
        · rw [if_pos h3]
          simp only [List.mem_append, List.mem_singleton]
          constructor
          · rintro (⟨h4 | h4, h5⟩ | h4)
            · exact .inl ⟨h4, h5⟩
            · subst h4; exact absurd h3 h5
            · exact .inr h4
          · rintro (⟨h4, h5⟩ | h4)
            · exact .inl ⟨.inl h4, h5⟩
            · exact .inr h4
        · rw [if_neg h3]
          simp only [List.mem_append, List.mem_singleton]
          constructor
          · rintro (⟨h4 | h4, h5⟩ | h4)
            · exact .inl ⟨h4, h5⟩
            · exact .inr (.inr h4)
            · exact .inr (.inl h4)
          · rintro (⟨h4, h5⟩ | h4 | h4)
            · exact .inl ⟨.inl h4, h5⟩
            · exact .inr h4
            · subst h4; exact .inl ⟨.inr rfl, h3⟩
      · rw [if_neg h2, if_neg h1, if_neg h1, if_neg h2]
theorem spR_asc (l : List IM) : ascL (spR l).1 = ascL (nowL l) := asc_congr fun x => by
  have := spR_mem l [] x
  simp at this
  exact this.symm
theorem l4At_ev (l : List Int) (x : Int) (hl : l.length ≤ 1000000000) : ∃ r : Int, Ev (fun k => spec_l4At.f k l x) r ∧ (r < 0 ↔ x ∉ l) := by
  have key : ∀ (d i : Nat), i + d = l.length → ∃ r : Int, Ev (fun k => spec_l4At.l0 k l x (i : Int)) r ∧ (r < 0 ↔ x ∉ l.drop i) := by
    intro d
    induction d with
    | zero =>
      intro i hi
      refine ⟨-1, Ev.succ (fun k => ?_), ?_⟩
      · simp only [spec_l4At.l0]
        rw [if_neg (by omega)]
      · rw [List.drop_of_length_le (by omega)]
        simp
    | succ d ih =>
      intro i hi
      have hlt : i < l.length := by omega
      rw [List.drop_eq_getElem_cons hlt]
      by_cases e : l[i] = x
      · refine ⟨(i : Int), Ev.succ (fun k => ?_), ?_⟩
        · simp only [spec_l4At.l0]
          rw [if_pos (by omega), if_pos (by omega), rd_lt l hlt, if_pos e]
        · simp [e]
      · obtain ⟨r, h1, h2⟩ := ih (i + 1) (by omega)
        refine ⟨r, Ev.step (fun k => ?_) h1, ?_⟩
        · simp only [spec_l4At.l0]
          rw [if_pos (by omega), if_pos (by omega), rd_lt l hlt, if_neg e, w64_nat i (by omega)]
        · rw [h2]
          simp only [List.mem_cons, not_or]
          exact ⟨fun h => ⟨fun h3 => e h3.symm, h⟩, fun h => h.2⟩
  obtain ⟨r, h1, h2⟩ := key l.length 0 (by omega)
  exact ⟨r, h1, by simpa using h2⟩
def runningL (l : List IM) : List Int := if 200 < l.length then [] else ascL (nowL l)
theorem spec_Running_ev (l : List IM) (hl : l.length ≤ 17592186044416) : Ev (fun k => spec_Running.f k l) (runningL l) := by
  unfold spec_Running.f runningL
  simp only [Option.bind_some]
  by_cases c : 200 < l.length
  · rw [if_pos c]
    exact Ev.of_eq fun k => if_pos (by omega)
  · rw [if_neg c]
    refine Ev.congr (fun k => if_neg (by omega)) ?_
    have key : ∀ (i : Nat), i ≤ l.length → Ev (fun k => spec_Running.l0 k l (spR (l.drop i)).1 (spR (l.drop i)).2 ((i : Int) - 1)) (ascL (nowL l)) := by
      intro i
      induction i with
      | zero =>
        intro _
        rw [List.drop_zero]
        have h := spec_l10Sorted_ev (spR l).1 (by have := (spR_len l).1; omega)
        rw [spR_asc] at h
        refine Ev.step (f := fun k => (spec_l10Sorted.f k (spR l).1).bind fun t => some t) (fun k => ?_) (Ev.bind h (Ev.now _))
        simp only [spec_Running.l0]
        rw [if_neg (by omega)]
      | succ i ih =>
        intro hi
        have hlt : i < l.length := by omega
        have h := ih (by omega)
        have hs : spR (l.drop i) = spR (l[i] :: l.drop (i + 1)) := by rw [List.drop_eq_getElem_cons hlt]
        have hlen := spR_len (l.drop (i + 1))
        rw [List.length_drop] at hlen
        rw [hs] at h
        generalize l.drop (i + 1) = s at h hlen
        have e1 : (((i + 1 : Nat) : Int) - 1) = (i : Int) := by omega
        rw [e1]
        have e2 : wrap64 ((i : Int) - 1) = (i : Int) - 1 := w64 (by omega) (by omega)
        rw [spR_cons] at h
        by_cases h1 : l[i].f0 = 1
        · rw [if_pos h1] at h
          refine Ev.step (fun k => ?_) h
          simp only [spec_Running.l0]
          rw [if_pos (by omega), if_pos (by omega), if_pos (by omega), rd_IM hlt, if_pos h1, if_pos (by omega), e2]
        · rw [if_neg h1] at h
          by_cases h2 : l[i].f0 = 2
          · rw [if_pos h2] at h
            obtain ⟨r, hr, hr2⟩ := l4At_ev (spR s).2 l[i].f1 (by omega)
            by_cases h3 : l[i].f1 ∈ (spR s).2
            · rw [if_pos h3] at h
              refine Ev.step (f := fun k => (spec_l4At.f k (spR s).2 l[i].f1).bind fun t => if t < 0 then (if (spR s).1.length < 17592186044416 then spec_Running.l0 k l ((spR s).1 ++ [l[i].f1]) (spR s).2 ((i : Int) - 1) else none) else spec_Running.l0 k l (spR s).1 (spR s).2 ((i : Int) - 1)) (fun k => ?_) (Ev.bind hr (Ev.congr (fun k => if_neg (fun h4 => hr2.1 h4 h3)) h))
              simp only [spec_Running.l0]
              rw [if_pos (by omega), if_pos (by omega), if_pos (by omega), rd_IM hlt, if_neg h1, if_pos h2, e2]
            · rw [if_neg h3] at h
              refine Ev.step (f := fun k => (spec_l4At.f k (spR s).2 l[i].f1).bind fun t => if t < 0 then (if (spR s).1.length < 17592186044416 then spec_Running.l0 k l ((spR s).1 ++ [l[i].f1]) (spR s).2 ((i : Int) - 1) else none) else spec_Running.l0 k l (spR s).1 (spR s).2 ((i : Int) - 1)) (fun k => ?_) (Ev.bind hr (Ev.congr (fun k => if_pos (hr2.2 h3)) (Ev.congr (fun k => if_pos (by omega)) h)))
              simp only [spec_Running.l0]
              rw [if_pos (by omega), if_pos (by omega), if_pos (by omega), rd_IM hlt, if_neg h1, if_pos h2, e2]
          · rw [if_neg h2] at h
            refine Ev.step (fun k => ?_) h
            simp only [spec_Running.l0]
            rw [if_pos (by omega), if_pos (by omega), if_pos (by omega), rd_IM hlt, if_neg h1, if_neg h2, e2]
    have h := key l.length (Nat.le_refl _)
    rw [List.drop_length] at h
    rw [w64 (by omega) (by omega)]
    exact h
theorem impl_Running_eq (l : List IM) : impl_Running.f l = some (runningL l) := by
  unfold impl_Running.f runningL
  split <;> rfl
theorem runningL_len (l : List IM) : (runningL l).length ≤ 200 := by
  unfold runningL
  split
  · simp
  · have := asc_len (nowL l)
    have := nowL_len l
    omega

-- chunk widest: how many run at most
def wideTo (l : List IM) : Nat → Int
  | 0 => 0
  | i + 1 => mx (wideTo l i) ((runningL (l.take (i + 1))).length : Int)
def widestL (l : List IM) : Int := if 200 < l.length then 0 else wideTo l l.length
theorem impl_Widest_ev (l : List IM) (hl : l.length ≤ 17592186044416) : Ev (fun k => impl_Widest.f k l) (widestL l) := by
  unfold impl_Widest.f widestL
  by_cases c : 200 < l.length
  · rw [if_pos c]
    exact Ev.of_eq fun k => if_pos (by omega)
  · rw [if_neg c]
    refine Ev.congr (fun k => if_neg (by omega)) ?_
    have key : ∀ (d i : Nat), i + d = l.length → Ev (fun k => impl_Widest.l0 k l (wideTo l i) (l.length : Int) (i : Int)) (wideTo l l.length) := by
      intro d
      induction d with
      | zero =>
        intro i hi
        obtain rfl : i = l.length := by omega
        refine Ev.succ (fun k => ?_)
        simp only [impl_Widest.l0]
        rw [if_neg (by omega)]
      | succ d ih =>
        intro i hi
        refine Ev.step (fun k => ?_) (ih (i + 1) (by omega))
        simp only [impl_Widest.l0]
        rw [if_pos (by omega), w64_nat i (by omega), if_pos (by omega), if_pos (by omega), Int.toNat_natCast, impl_Running_eq]
        rfl
    exact key l.length 0 (by omega)
theorem spec_Widest_ev (l : List IM) (hl : l.length ≤ 17592186044416) : Ev (fun k => spec_Widest.f k l) (widestL l) := by
  unfold spec_Widest.f widestL
  by_cases c : 200 < l.length
  · rw [if_pos c]
    exact Ev.of_eq fun k => if_pos (by omega)
  · rw [if_neg c]
    refine Ev.congr (fun k => if_neg (by omega)) ?_
    have key : ∀ (d i : Nat), i + d = l.length → Ev (fun k => spec_Widest.l0 k l (wideTo l i) ((i + 1 : Nat) : Int)) (wideTo l l.length) := by
      intro d
      induction d with
      | zero =>
        intro i hi
        obtain rfl : i = l.length := by omega
        refine Ev.succ (fun k => ?_)
        simp only [spec_Widest.l0]
        rw [if_neg (by omega)]
      | succ d ih =>
        intro i hi
        have h := ih (i + 1) (by omega)
        have hr := spec_Running_ev (l.take (i + 1)) (by rw [List.length_take]; omega)
        refine Ev.step (f := fun k => (spec_Running.f k (l.take (i + 1))).bind fun t => if (t.length : Int) > wideTo l i then spec_Widest.l0 k l (t.length : Int) ((i + 1 + 1 : Nat) : Int) else spec_Widest.l0 k l (wideTo l i) ((i + 1 + 1 : Nat) : Int)) (fun k => ?_) (Ev.bind hr ?_)
        · simp only [spec_Widest.l0]
          rw [if_pos (by omega), if_pos (by omega), w64_nat (i + 1) (by omega), Int.toNat_natCast]
        · by_cases c2 : ((runningL (l.take (i + 1))).length : Int) > wideTo l i
          · have e : wideTo l (i + 1) = ((runningL (l.take (i + 1))).length : Int) := by
              show mx _ _ = _
              unfold mx; omega
            rw [e] at h
            exact Ev.congr (fun k => if_pos c2) h
          · have e : wideTo l (i + 1) = wideTo l i := by
              show mx _ _ = _
              unfold mx; omega
            rw [e] at h
            exact Ev.congr (fun k => if_neg c2) h
    have h0 := spec_Running_ev ([] : List IM) (by simp)
    have e0 : (runningL ([] : List IM)).length = 0 := by
      have h1 := asc_len (nowL ([] : List IM))
      have h2 := nowL_len ([] : List IM)
      have h3 : runningL ([] : List IM) = ascL (nowL []) := rfl
      rw [h3]
      simp only [List.length_nil] at h2
      omega
    refine Ev.step (f := fun k => (spec_Running.f k []).bind fun t => if (t.length : Int) > 0 then spec_Widest.l0 k l (t.length : Int) ((0 + 1 : Nat) : Int) else spec_Widest.l0 k l 0 ((0 + 1 : Nat) : Int)) (fun k => ?_) (Ev.bind h0 (Ev.congr (fun k => if_neg (by rw [e0]; omega)) (key l.length 0 (by omega))))
    simp only [spec_Widest.l0]
    have e1 : wrap64 (0 + 1) = ((0 + 1 : Nat) : Int) := w64_nat 0 (by omega)
    rw [if_pos (by omega), if_pos (by omega), e1, show l.take (Int.toNat 0) = [] from rfl]
theorem wideTo_le (l : List IM) (i : Nat) : 0 ≤ wideTo l i ∧ wideTo l i ≤ 200 := by
  induction i with
  | zero => simp [wideTo]
  | succ i ih =>
    have := runningL_len (l.take (i + 1))
    have e : wideTo l (i + 1) = mx (wideTo l i) ((runningL (l.take (i + 1))).length : Int) := rfl
    rw [e]
    unfold mx
    omega

theorem proof : Pure := by
  intro l hl
  refine Ev.rounds ?_
  unfold laws_FnExactWidest.f
  by_cases hb : 1048576 < l.length
  · exact Ev.bindc (szMoveS_big hl.1 hb) (Ev.of_eq fun k => by simp)
  refine Ev.bindc (szMoveS_eq l _) ?_
  rw [w64 (by omega) (by omega), if_neg (by omega)]
  refine Ev.congr (fun k => if_neg (by omega)) ?_
  have hm : (l.map toM).length ≤ 17592186044416 := by rw [List.length_map]; omega
  have ht := toMoveS_ev (l := l) (by omega)
  refine Ev.bind ht (Ev.bind (spec_Widest_ev _ hm) (Ev.bind ht (Ev.bind (impl_Widest_ev _ hm) ?_)))
  refine Ev.congr (fun k => if_pos rfl) ?_
  exact Ev.bind ht (Ev.bind (eqMoveS_refl hm) (Ev.of_eq fun k => if_pos rfl))


end Go.Proofs.Ytnecbgeljanhiaa.fnExactWidest
