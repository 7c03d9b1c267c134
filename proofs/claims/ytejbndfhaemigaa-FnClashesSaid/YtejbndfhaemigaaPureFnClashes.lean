/- The law FnClashes holds of the program's own functions, told over lists and numbers: for every argument it returns true. Conditions: none beyond the given row's own. -/
import Derived.Test.YtejbndfhaemigaaSaysFnClashes
import Derived.Test.YtejbndfhaemigaaKit
namespace Go.Proofs.Ytejbndfhaemigaa.fnClashes
open Go.RowKit Go.Proofs.Ytejbndfhaemigaa.PFnClashes Go.Proofs.YtejbndfhaemigaaW.PrintWords Go.Proofs.YtejbndfhaemigaaW.PrintLast Go.Proofs.Ytejbndfhaemigaa.Own
set_option linter.unusedVariables false
set_option linter.unusedSimpArgs false
-- chunk sets: numbers ascending, told by what stands in them
theorem rise_unique {l1 l2 : List Int} (h1 : l1.Pairwise (· < ·)) (h2 : l2.Pairwise (· < ·)) (h : ∀ x, x ∈ l1 ↔ x ∈ l2) : l1 = l2 := by
  induction l1 generalizing l2 with
  | nil =>
    cases l2 with
    | nil => rfl
    | cons b u => exact absurd ((h b).2 (by simp)) (by simp)
  | cons a t ih =>
    cases l2 with
    | nil => exact absurd ((h a).1 (by simp)) (by simp)
    | cons b u =>
      rw [List.pairwise_cons] at h1 h2
      have hab : a = b := by
        have q1 := (h a).1 (by simp)
        have q2 := (h b).2 (by simp)
        rw [List.mem_cons] at q1 q2
        rcases q1 with q1 | q1
        · exact q1
        · rcases q2 with q2 | q2
          · exact q2.symm
          · have := h1.1 b q2
            have := h2.1 a q1
            omega
      subst hab
      rw [ih h1.2 h2.2 (fun x => ?_)]
      have q := h x
      rw [List.mem_cons, List.mem_cons] at q
      constructor
      · intro hx
        have := h1.1 x hx
        rcases q.1 (.inr hx) with e | e
        · omega
        · exact e
      · intro hx
        have := h2.1 x hx
        rcases q.2 (.inr hx) with e | e
        · omega
        · exact e
theorem srt_pair (l : List Int) : (l.mergeSort fun x y => decide (x ≤ y)).Pairwise (· ≤ ·) := by
  have h := List.pairwise_mergeSort (le := fun x y : Int => decide (x ≤ y)) (fun a b c h1 h2 => by simp at h1 h2 ⊢; omega) (fun a b => by simp; omega) l
  exact h.imp (fun h => by simpa using h)
theorem srt_get {s : List Int} (h : s.Pairwise (· ≤ ·)) {i j : Nat} (hij : i ≤ j) (hj : j < s.length) : s.toArray[i]! ≤ s.toArray[j]! := by
  rw [getElem!_pos s.toArray i (by simp; omega), getElem!_pos s.toArray j (by simpa using hj)]
  simp only [List.getElem_toArray]
  rcases Nat.lt_or_ge i j with h1 | h1
  · exact List.pairwise_iff_getElem.1 h i j (by omega) hj h1
  · obtain rfl : i = j := by omega
    exact Int.le_refl _
theorem asc_rise (l : List Int) : (ascL l).Pairwise (· < ·) := by
  unfold ascL Lib.compact Lib.compactUpTo
  have hs := srt_pair l
  obtain ⟨s, es⟩ : ∃ s, s = l.mergeSort fun x y => decide (x ≤ y) := ⟨_, rfl⟩
  rw [← es] at hs ⊢
  rw [List.pairwise_map]
  refine List.Pairwise.imp_of_mem (fun {a b} ha hb hab => ?_) (List.Pairwise.filter _ List.pairwise_lt_range)
  rw [List.mem_filter, List.mem_range] at ha hb
  have hk := hb.2
  unfold Lib.keeps at hk
  have hk := of_decide_eq_true hk
  have hne := hk.resolve_left (by omega)
  have q1 := srt_get hs (i := a) (j := b - 1) (by omega) (by omega)
  have q2 := srt_get hs (i := b - 1) (j := b) (by omega) (by omega)
  omega
theorem asc_mem (l : List Int) (x : Int) : x ∈ ascL l ↔ x ∈ l := by
  unfold ascL Lib.compact Lib.compactUpTo
  rw [← List.mem_mergeSort (le := fun x y : Int => decide (x ≤ y)) (l := l)]
  obtain ⟨s, es⟩ : ∃ s, s = l.mergeSort fun x y => decide (x ≤ y) := ⟨_, rfl⟩
  rw [← es]
  have get : ∀ j (hj : j < s.length), s.toArray[j]! = s[j] := fun j hj => by
    rw [getElem!_pos s.toArray j (by simpa using hj)]
    simp
  have key : ∀ j, j < s.length → ∃ i, i < s.length ∧ Lib.keeps s.toArray i = true ∧ s.toArray[i]! = s.toArray[j]! := by
    intro j
    induction j with
    | zero => intro h; exact ⟨0, h, by simp [Lib.keeps], rfl⟩
    | succ j ih =>
      intro h
      by_cases hk : Lib.keeps s.toArray (j + 1) = true
      · exact ⟨j + 1, h, hk, rfl⟩
      · obtain ⟨i, h1, h2, h3⟩ := ih (by omega)
        refine ⟨i, h1, h2, h3.trans ?_⟩
        unfold Lib.keeps at hk
        have hk : ¬ (j + 1 = 0 ∨ s.toArray[j + 1]! ≠ s.toArray[j + 1 - 1]!) := fun h => hk (decide_eq_true h)
        have := Decidable.not_not.1 (fun h => hk (.inr h))
        rw [this]; rfl
  constructor
  · intro h
    obtain ⟨j, hj, rfl⟩ := List.mem_map.1 h
    rw [List.mem_filter, List.mem_range] at hj
    rw [get j hj.1]
    exact List.getElem_mem _
  · intro h
    obtain ⟨j, hj, rfl⟩ := List.mem_iff_getElem.1 h
    obtain ⟨i, h1, h2, h3⟩ := key j hj
    refine List.mem_map.2 ⟨i, List.mem_filter.2 ⟨List.mem_range.2 h1, h2⟩, ?_⟩
    rw [h3, get j hj]
theorem asc_congr {l l' : List Int} (h : ∀ x, x ∈ l ↔ x ∈ l') : ascL l = ascL l' :=
  rise_unique (asc_rise l) (asc_rise l') (fun x => by rw [asc_mem, asc_mem]; exact h x)
theorem asc_eq {l r : List Int} (h1 : r.Pairwise (· < ·)) (h2 : ∀ x, x ∈ r ↔ x ∈ l) : r = ascL l :=
  rise_unique h1 (asc_rise l) (fun x => by rw [asc_mem]; exact h2 x)
def pushL (out : List Int) (x : Int) : List Int := if out.getLast? = some x then out else out ++ [x]
theorem push_len (out : List Int) (x : Int) : (pushL out x).length ≤ out.length + 1 := by
  unfold pushL
  split <;> simp
theorem push_code {ρ : Type} (out : List Int) (hl : out.length ≤ 1000000000000) (x : Int) (F : List Int → Option ρ) :
    (if (out.length : Int) = 0 then (if out.length < 17592186044416 then (F (out ++ [x])) else (none)) else (if 0 ≤ (wrap64 ((out.length : Int) - 1)) then (if (wrap64 ((out.length : Int) - 1)) < (out.length : Int) then (if (rd out (wrap64 ((out.length : Int) - 1))) = x then (F out) else (if out.length < 17592186044416 then (F (out ++ [x])) else (none))) else (none)) else (none))) = F (pushL out x) := by
  unfold pushL
  by_cases h : out = []
  · subst h
    simp
  · have hp := List.length_pos_iff.2 h
    have e : wrap64 ((out.length : Int) - 1) = ((out.length - 1 : Nat) : Int) := by rw [w64 (by omega) (by omega)]; omega
    rw [if_neg (by omega), e, if_pos (by omega), if_pos (by omega), rd_lt _ (by omega), List.getLast?_eq_getElem?, List.getElem?_eq_getElem (by omega)]
    by_cases hx : out[out.length - 1] = x
    · rw [if_pos hx, if_pos (by rw [hx])]
    · rw [if_neg hx, if_neg (fun he => hx (Option.some.inj he)), if_pos (by omega)]
theorem push_spec {out : List Int} {x : Int} (h : out.Pairwise (· < ·)) (hx : ∀ y ∈ out, y ≤ x) : (pushL out x).Pairwise (· < ·) ∧ ∀ z, z ∈ pushL out x ↔ z ∈ out ∨ z = x := by
  unfold pushL
  split
  · rename_i hl
    have hm : x ∈ out := List.mem_of_getLast? hl
    exact ⟨h, fun z => ⟨.inl, fun hz => hz.elim id (fun e => e ▸ hm)⟩⟩
  · rename_i hl
    have hn : x ∉ out := by
      intro hm
      have hne : out ≠ [] := by rintro rfl; simp at hm
      have hp := List.length_pos_iff.2 hne
      apply hl
      rw [List.getLast?_eq_getElem?, List.getElem?_eq_getElem (by omega)]
      congr 1
      obtain ⟨i, hi, rfl⟩ := List.mem_iff_getElem.1 hm
      have h2 := hx (out[out.length - 1]) (List.getElem_mem _)
      rcases Nat.lt_or_ge i (out.length - 1) with h3 | h3
      · have := List.pairwise_iff_getElem.1 h i (out.length - 1) hi (by omega) h3
        omega
      · have e : i = out.length - 1 := by omega
        subst e; rfl
    refine ⟨List.pairwise_append.2 ⟨h, by simp, fun a ha b hb => ?_⟩, fun z => by simp⟩
    obtain rfl := List.mem_singleton.1 hb
    have := hx a ha
    have : a ≠ b := fun e => hn (e ▸ ha)
    omega
theorem rise_le {l : List Int} (h : l.Pairwise (· < ·)) {i j : Nat} (hij : i ≤ j) (hj : j < l.length) : l[i] ≤ l[j] := by
  rcases Nat.lt_or_ge i j with h1 | h1
  · exact Int.le_of_lt (List.pairwise_iff_getElem.1 h i j (by omega) hj h1)
  · obtain rfl : i = j := by omega
    exact Int.le_refl _

-- chunk sorted: the reference's sorting by halves, unions and meets
theorem mem_take_succ {l : List Int} {i : Nat} (h : i < l.length) (z : Int) : z ∈ l.take (i + 1) ↔ z ∈ l.take i ∨ z = l[i] := by
  rw [List.take_succ_eq_append_getElem h, List.mem_append, List.mem_singleton]
theorem merge_ev {a b : List Int} (ha : a.Pairwise (· < ·)) (hb : b.Pairwise (· < ·)) (hl : a.length + b.length ≤ 1000000000) :
    Ev (fun k => spec_l10Sorted.l0 k a b [] 0 0) (ascL (a ++ b)) := by
  have key : ∀ (d : Nat) (out : List Int) (i j : Nat), (a.length - i) + (b.length - j) = d → i ≤ a.length → j ≤ b.length → out.length ≤ i + j → out.Pairwise (· < ·) →
      (∀ z, z ∈ out ↔ z ∈ a.take i ∨ z ∈ b.take j) → (∀ y ∈ out, ∀ p (hp : p < a.length), i ≤ p → y ≤ a[p]) → (∀ y ∈ out, ∀ p (hp : p < b.length), j ≤ p → y ≤ b[p]) →
      Ev (fun k => spec_l10Sorted.l0 k a b out (i : Int) (j : Int)) (ascL (a ++ b)) := by
    intro d
    induction d with
    | zero =>
      intro out i j hd hi hj hlen hr hm _ _
      obtain rfl : i = a.length := by omega
      obtain rfl : j = b.length := by omega
      refine Ev.step (f := fun k => spec_l10Sorted.j1 k a b out (a.length : Int) (b.length : Int) false) (fun k => ?_) (Ev.succ (fun k => ?_))
      · simp only [spec_l10Sorted.l0]
        rw [if_neg (by omega), decide_eq_false (by omega)]
      · simp only [spec_l10Sorted.j1]
        rw [if_neg (by simp)]
        congr 1
        refine asc_eq hr (fun x => ?_)
        rw [hm, List.take_length, List.take_length, List.mem_append]
    | succ d ih =>
      intro out i j hd hi hj hlen hr hm hA hB
      -- the way of one side
      have left : ∀ hia : i < a.length, (∀ p (hp : p < b.length), j ≤ p → a[i] ≤ b[p]) → Ev (fun k => spec_l10Sorted.j2 k a b out (i : Int) (j : Int) true) (ascL (a ++ b)) := by
        intro hia hle
        have hx := fun y hy => hA y hy i hia (Nat.le_refl _)
        have hs := push_spec hr hx
        refine Ev.step (f := fun k => spec_l10Sorted.l0 k a b (pushL out a[i]) ((i + 1 : Nat) : Int) (j : Int)) (fun k => ?_) (ih (pushL out a[i]) (i + 1) j (by omega) (by omega) hj (by have := push_len out a[i]; omega) hs.1 (fun z => ?_) (fun y hy p hp hip => ?_) (fun y hy p hp hjp => ?_))
        · simp only [spec_l10Sorted.j2]
          rw [if_pos (by simp), if_pos (by omega), if_pos (by omega), w64_succ hia (by omega), rd_lt _ hia]
          exact push_code out (by omega) a[i] (fun o => spec_l10Sorted.l0 k a b o ((i + 1 : Nat) : Int) (j : Int))
        · rw [hs.2, hm, mem_take_succ hia]
          constructor
          · rintro ((h | h) | h)
            · exact .inl (.inl h)
            · exact .inr h
            · exact .inl (.inr h)
          · rintro ((h | h) | h)
            · exact .inl (.inl h)
            · exact .inr h
            · exact .inl (.inr h)
        · rcases (hs.2 y).1 hy with h | rfl
          · exact hA y h p hp (by omega)
          · exact rise_le ha (by omega) hp
        · rcases (hs.2 y).1 hy with h | rfl
          · exact hB y h p hp hjp
          · exact hle p hp hjp
      have right : ∀ hjb : j < b.length, (∀ p (hp : p < a.length), i ≤ p → b[j] ≤ a[p]) → Ev (fun k => spec_l10Sorted.j2 k a b out (i : Int) (j : Int) false) (ascL (a ++ b)) := by
        intro hjb hle
        have hx := fun y hy => hB y hy j hjb (Nat.le_refl _)
        have hs := push_spec hr hx
        refine Ev.step (f := fun k => spec_l10Sorted.l0 k a b (pushL out b[j]) (i : Int) ((j + 1 : Nat) : Int)) (fun k => ?_) (ih (pushL out b[j]) i (j + 1) (by omega) hi (by omega) (by have := push_len out b[j]; omega) hs.1 (fun z => ?_) (fun y hy p hp hip => ?_) (fun y hy p hp hjp => ?_))
        · simp only [spec_l10Sorted.j2]
          rw [if_neg (by simp), if_pos (by omega), if_pos (by omega), w64_succ hjb (by omega), rd_lt _ hjb]
          exact push_code out (by omega) b[j] (fun o => spec_l10Sorted.l0 k a b o (i : Int) ((j + 1 : Nat) : Int))
        · rw [hs.2, hm, mem_take_succ hjb]
          constructor
          · rintro ((h | h) | h)
            · exact .inl h
            · exact .inr (.inl h)
            · exact .inr (.inr h)
          · rintro (h | h | h)
            · exact .inl (.inl h)
            · exact .inl (.inr h)
            · exact .inr h
        · rcases (hs.2 y).1 hy with h | rfl
          · exact hA y h p hp hip
          · exact hle p hp hip
        · rcases (hs.2 y).1 hy with h | rfl
          · exact hB y h p hp (by omega)
          · exact rise_le hb (by omega) hp
      have inner : Ev (fun k => spec_l10Sorted.j1 k a b out (i : Int) (j : Int) true) (ascL (a ++ b)) := by
        by_cases hjb : j < b.length
        · by_cases hia : i < a.length
          · by_cases hc : a[i] ≤ b[j]
            · refine Ev.step (fun k => ?_) (left hia (fun p hp hjp => Int.le_trans hc (rise_le hb hjp hp)))
              simp only [spec_l10Sorted.j1]
              rw [if_pos (by simp), if_neg (by omega), if_pos (by omega), if_pos (by omega), if_pos (by omega), if_pos (by omega), rd_lt _ hia, rd_lt _ hjb, decide_eq_true hc]
            · refine Ev.step (fun k => ?_) (right hjb (fun p hp hip => Int.le_trans (by omega) (rise_le ha hip hp)))
              simp only [spec_l10Sorted.j1]
              rw [if_pos (by simp), if_neg (by omega), if_pos (by omega), if_pos (by omega), if_pos (by omega), if_pos (by omega), rd_lt _ hia, rd_lt _ hjb, decide_eq_false hc]
          · refine Ev.step (fun k => ?_) (right hjb (fun p hp hip => by omega))
            simp only [spec_l10Sorted.j1]
            rw [if_pos (by simp), if_neg (by omega), if_neg (by omega)]
        · refine Ev.step (fun k => ?_) (left (by omega) (fun p hp hjp => by omega))
          simp only [spec_l10Sorted.j1]
          rw [if_pos (by simp), if_pos (by omega)]
      refine Ev.step (fun k => ?_) inner
      simp only [spec_l10Sorted.l0]
      by_cases hia : i < a.length
      · rw [if_pos (by omega)]
      · rw [if_neg (by omega), decide_eq_true (by omega)]
  exact key _ [] 0 0 rfl (by omega) (by omega) (by simp) (by simp) (fun z => by simp) (fun y hy => by simp at hy) (fun y hy => by simp at hy)
theorem spec_l10Sorted_ev (l : List Int) (hl : l.length ≤ 1000000000) : Ev (fun k => spec_l10Sorted.f k l) (ascL l) := by
  obtain ⟨n, hn⟩ : ∃ n, l.length ≤ n := ⟨_, Nat.le_refl _⟩
  induction n generalizing l with
  | zero =>
    obtain rfl : l = [] := List.length_eq_zero_iff.1 (by omega)
    refine Ev.succ (fun k => ?_)
    simp only [spec_l10Sorted.f]
    rw [if_pos (by simp)]
    simp only [Option.bind_some]
    have e0 : ascL [] = [] := (asc_eq (by simp) (by simp)).symm
    rw [if_pos (by simp), e0]
    rfl
  | succ n ih =>
    by_cases h2 : l.length < 2
    · refine Ev.succ (fun k => ?_)
      simp only [spec_l10Sorted.f]
      rw [if_pos (by omega)]
      simp only [Option.bind_some]
      rw [if_pos (by simp; omega), List.nil_append]
      congr 1
      refine asc_eq ?_ (fun x => Iff.rfl)
      match l, h2 with
      | [], _ => simp
      | [a], _ => simp
    · have e : wrap64 ((l.length : Int) / 2) = ((l.length / 2 : Nat) : Int) := by rw [w64 (by omega) (by omega)]; omega
      have h := ih (l.take (l.length / 2)) (by rw [List.length_take]; omega) (by rw [List.length_take]; omega)
      have h' := ih (l.drop (l.length / 2)) (by rw [List.length_drop]; omega) (by rw [List.length_drop]; omega)
      have q1 := asc_len (l.take (l.length / 2))
      have q2 := asc_len (l.drop (l.length / 2))
      rw [List.length_take] at q1
      rw [List.length_drop] at q2
      have hm := merge_ev (asc_rise (l.take (l.length / 2))) (asc_rise (l.drop (l.length / 2))) (by omega)
      have er : ascL (ascL (l.take (l.length / 2)) ++ ascL (l.drop (l.length / 2))) = ascL l := asc_congr (fun x => by
        rw [List.mem_append, asc_mem, asc_mem, ← List.mem_append, List.take_append_drop])
      rw [er] at hm
      refine Ev.step (f := fun k => (spec_l10Sorted.f k (l.take (l.length / 2))).bind fun t => (spec_l10Sorted.f k (l.drop (l.length / 2))).bind fun u => spec_l10Sorted.l0 k t u [] 0 0) (fun k => ?_) (Ev.bind h (Ev.bind h' hm))
      simp only [spec_l10Sorted.f, e, Int.toNat_natCast]
      rw [if_neg (by omega), if_pos (by omega), if_pos (by omega)]
theorem spec_l10Union_ev (a b : List Int) (hl : a.length + b.length ≤ 1000000000) : Ev (fun k => spec_l10Union.f k a b) (ascL (a ++ b)) := by
  unfold spec_l10Union.f
  refine Ev.congr (f := fun k => (spec_l10Sorted.f k (a ++ b)).bind fun t => some t) (fun k => ?_) (Ev.bind (spec_l10Sorted_ev _ (by rw [List.length_append]; exact hl)) (Ev.now _))
  simp only [Option.bind_some]
  rw [if_pos (by simp; omega), if_pos (by simp; omega)]
  rfl
def meetL (x y : List Int) : List Int := x.filter fun z => decide (z ∈ y)
theorem meet_ev {x y : List Int} (hx : x.Pairwise (· < ·)) (hy : y.Pairwise (· < ·)) (hl : x.length + y.length ≤ 1000000000) : Ev (fun k => spec_l16Meet.l0 k x y [] 0 0) (meetL x y) := by
  have key : ∀ (d i j : Nat), (x.length - i) + (y.length - j) = d → i ≤ x.length → j ≤ y.length → (∀ p (hp : p < y.length), p < j → ∀ q (hq : q < x.length), i ≤ q → y[p] < x[q]) →
      Ev (fun k => spec_l16Meet.l0 k x y (meetL (x.take i) y) (j : Int) (i : Int)) (meetL x y) := by
    intro d
    induction d using Nat.strongRecOn with
    | _ d ih =>
      intro i j hd hi hj hinv
      by_cases hix : i < x.length
      · have snoc : meetL (x.take (i + 1)) y = if x[i] ∈ y then meetL (x.take i) y ++ [x[i]] else meetL (x.take i) y := by
          unfold meetL
          rw [List.take_succ_eq_append_getElem hix, List.filter_append]
          by_cases h : x[i] ∈ y <;> simp [h]
        have nin : (∀ p (hp : p < y.length), y[p] ≠ x[i]) → x[i] ∉ y := fun h hm => by
          obtain ⟨p, hp, e⟩ := List.mem_iff_getElem.1 hm
          exact h p hp e
        have next : ∀ j', j ≤ j' → j' ≤ y.length → (∀ p (hp : p < y.length), p < j' → ∀ q (hq : q < x.length), i ≤ q → y[p] < x[q]) → (∀ p (hp : p < y.length), j' ≤ p → y[p] ≠ x[i]) →
            Ev (fun k => spec_l16Meet.l0 k x y (meetL (x.take i) y) (j' : Int) ((i + 1 : Nat) : Int)) (meetL x y) := by
          intro j' _ h1 h2 h3
          have h4 := ih _ (by omega) (i + 1) j' rfl (by omega) h1 (fun p hp hpj q hq hiq => h2 p hp hpj q hq (by omega))
          rw [snoc, if_neg (nin (fun p hp => by
            rcases Nat.lt_or_ge p j' with h | h
            · have := h2 p hp h i hix (Nat.le_refl _); omega
            · exact h3 p hp h))] at h4
          exact h4
        have inner : ∀ (c j' : Nat), y.length - j' = c → j ≤ j' → j' ≤ y.length → (∀ p (hp : p < y.length), p < j' → ∀ q (hq : q < x.length), i ≤ q → y[p] < x[q]) →
            Ev (fun k => spec_l16Meet.l1 k x y (meetL (x.take i) y) (j' : Int) (i : Int)) (meetL x y) := by
          intro c
          induction c with
          | zero =>
            intro j' hc h0 h1 h2
            refine Ev.step (fun k => ?_) (next j' h0 h1 h2 (fun p hp hpj => by omega))
            simp only [spec_l16Meet.l1]
            rw [if_neg (by omega), w64_succ hix (by omega)]
          | succ c ihc =>
            intro j' hc h0 h1 h2
            have hjy : j' < y.length := by omega
            rcases Int.lt_trichotomy (y[j']) (x[i]) with h | h | h
            · refine Ev.step (fun k => ?_) (ihc (j' + 1) (by omega) (by omega) (by omega) (fun p hp hpj q hq hiq => ?_))
              · simp only [spec_l16Meet.l1]
                rw [if_pos (by omega), if_pos (by omega), if_pos (by omega), if_pos (by omega), rd_lt _ hjy, rd_lt _ hix, if_pos h, w64_succ hjy (by omega)]
              · rcases Nat.lt_or_ge p j' with hpj' | hpj'
                · exact h2 p hp hpj' q hq hiq
                · obtain rfl : p = j' := by omega
                  exact Int.lt_of_lt_of_le h (rise_le hx hiq hq)
            · have h4 := ih _ (by omega) (i + 1) j' rfl (by omega) h1 (fun p hp hpj q hq hiq => h2 p hp hpj q hq (by omega))
              rw [snoc, if_pos (h ▸ List.getElem_mem hjy)] at h4
              refine Ev.step (fun k => ?_) h4
              simp only [spec_l16Meet.l1]
              have hlen : (meetL (x.take i) y).length ≤ x.length := Nat.le_trans (List.length_filter_le _ _) (by rw [List.length_take]; omega)
              rw [if_pos (by omega), if_pos (by omega), if_pos (by omega), if_pos (by omega), rd_lt _ hjy, rd_lt _ hix, if_neg (by omega), if_pos h, if_pos (by omega), w64_succ hix (by omega)]
            · refine Ev.step (fun k => ?_) (next j' h0 h1 h2 (fun p hp hpj => ?_))
              · simp only [spec_l16Meet.l1]
                rw [if_pos (by omega), if_pos (by omega), if_pos (by omega), if_pos (by omega), rd_lt _ hjy, rd_lt _ hix, if_neg (by omega), if_neg (by omega), w64_succ hix (by omega)]
              · have := rise_le hy hpj hp
                omega
        refine Ev.step (fun k => ?_) (inner _ j rfl (Nat.le_refl _) hj hinv)
        simp only [spec_l16Meet.l0]
        rw [if_pos (by omega)]
      · obtain rfl : i = x.length := by omega
        refine Ev.succ (fun k => ?_)
        simp only [spec_l16Meet.l0]
        rw [if_neg (by omega), List.take_length]
  exact key _ 0 0 rfl (by omega) (by omega) (fun p hp hpj => by omega)
theorem spec_l16Meet_ev (a b : List Int) (hl : a.length + b.length ≤ 1000000000) : Ev (fun k => spec_l16Meet.f k a b) (meetL (ascL a) (ascL b)) := by
  unfold spec_l16Meet.f
  have q1 := asc_len a
  have q2 := asc_len b
  exact Ev.bind (spec_l10Sorted_ev a (by omega)) (Ev.bind (spec_l10Sorted_ev b (by omega)) (meet_ev (asc_rise a) (asc_rise b) (by omega)))
theorem meet_mem (a b : List Int) (x : Int) : x ∈ meetL (ascL a) (ascL b) ↔ x ∈ a ∧ x ∈ b := by
  unfold meetL
  rw [List.mem_filter, asc_mem, decide_eq_true_eq, asc_mem]
theorem meet_len (a b : List Int) : (meetL a b).length ≤ a.length := List.length_filter_le _ _
def hitsL (aw ar bw br : List Int) : List Int := ascL ((aw.filter fun x => decide (x ∈ bw ++ br)) ++ (bw.filter fun x => decide (x ∈ aw ++ ar)))
theorem hits_len (aw ar bw br : List Int) : (hitsL aw ar bw br).length ≤ aw.length + bw.length := by
  have h := asc_len ((aw.filter fun x => decide (x ∈ bw ++ br)) ++ (bw.filter fun x => decide (x ∈ aw ++ ar)))
  have h1 := List.length_filter_le (fun x => decide (x ∈ bw ++ br)) aw
  have h2 := List.length_filter_le (fun x => decide (x ∈ aw ++ ar)) bw
  rw [List.length_append] at h
  unfold hitsL
  omega
theorem spec_l16Hits_ev (aw ar bw br : List Int) (hl : aw.length ≤ 100000000 ∧ ar.length ≤ 100000000 ∧ bw.length ≤ 100000000 ∧ br.length ≤ 100000000) : Ev (fun k => spec_l16Hits.f k aw ar bw br) (hitsL aw ar bw br) := by
  unfold spec_l16Hits.f
  have q1 := asc_len (bw ++ br)
  have q2 := asc_len (aw ++ ar)
  rw [List.length_append] at q1 q2
  have q3 := meet_len (ascL aw) (ascL (ascL (bw ++ br)))
  have q4 := meet_len (ascL bw) (ascL (ascL (aw ++ ar)))
  have q5 := asc_len aw
  have q6 := asc_len bw
  have e : ascL (meetL (ascL aw) (ascL (ascL (bw ++ br))) ++ meetL (ascL bw) (ascL (ascL (aw ++ ar)))) = hitsL aw ar bw br := by
    unfold hitsL
    refine asc_congr (fun x => ?_)
    rw [List.mem_append, List.mem_append, meet_mem, meet_mem, asc_mem, asc_mem, List.mem_filter, List.mem_filter, decide_eq_true_eq, decide_eq_true_eq]
  rw [← e]
  exact Ev.bind (spec_l10Union_ev _ _ (by omega)) (Ev.bind (spec_l16Meet_ev _ _ (by omega)) (Ev.bind (spec_l10Union_ev _ _ (by omega)) (Ev.bind (spec_l16Meet_ev _ _ (by omega)) (Ev.bind (spec_l10Union_ev _ _ (by omega)) (Ev.now _)))))

-- chunk contains: slices.Index and slices.Contains of numbers
theorem index_ev {l : List Int} (x : Int) (hl : l.length ≤ 9223372036854775807) : Ev (fun k => slices_Index_int_int.f k l x) (if x ∈ l then (l.idxOf x : Int) else -1) := by
  unfold slices_Index_int_int.f
  have key : ∀ (d i : Nat), i + d = l.length → Ev (fun k => slices_Index_int_int.l0 k l x (l.length : Int) (i : Int)) (if x ∈ l.drop i then ((i + (l.drop i).idxOf x : Nat) : Int) else -1) := by
    intro d
    induction d with
    | zero =>
      intro i hi
      obtain rfl : i = l.length := by omega
      refine Ev.succ (fun k => ?_)
      simp only [slices_Index_int_int.l0]
      rw [if_neg (by omega)]
      simp
    | succ d ih =>
      intro i hi
      have h : i < l.length := by omega
      have hr := ih (i + 1) (by omega)
      rw [List.drop_eq_getElem_cons h]
      by_cases e : x = l[i]
      · refine Ev.succ (fun k => ?_)
        simp only [slices_Index_int_int.l0]
        rw [if_pos (by omega), if_pos (by omega), if_pos (by omega), rd_lt _ h, if_pos e]
        rw [if_pos (List.mem_cons.2 (Or.inl e)), List.idxOf_cons]
        simp only [e, beq_self_eq_true, cond_true, Nat.add_zero]
      · refine Ev.step (f := fun k => slices_Index_int_int.l0 k l x (l.length : Int) ((i + 1 : Nat) : Int)) (fun k => ?_) ?_
        · simp only [slices_Index_int_int.l0]
          rw [if_pos (by omega), if_pos (by omega), if_pos (by omega), rd_lt _ h, if_neg e, w64_succ h hl]
        · have : (if x ∈ l[i] :: l.drop (i + 1) then ((i + (l[i] :: l.drop (i + 1)).idxOf x : Nat) : Int) else -1) = (if x ∈ l.drop (i + 1) then (((i + 1) + (l.drop (i + 1)).idxOf x : Nat) : Int) else -1) := by
            rw [List.idxOf_cons]
            have hb : (l[i] == x) = false := by simpa using fun h => e h.symm
            simp only [List.mem_cons, e, false_or, hb]
            split
            · simp; omega
            · rfl
          rw [this]
          exact hr
  have h := key l.length 0 (by omega)
  simpa using h
theorem contains_ev {l : List Int} (x : Int) (hl : l.length ≤ 9223372036854775807) : Ev (fun k => slices_Contains_int_int.f k l x) (decide (x ∈ l)) := by
  unfold slices_Contains_int_int.f
  refine Ev.bind (index_ev x hl) (Ev.of_eq fun k => ?_)
  by_cases h : x ∈ l
  · rw [if_pos h, decide_eq_true h, decide_eq_true (by omega)]
  · rw [if_neg h, decide_eq_false h, decide_eq_false (by omega)]

-- chunk ints: lists of numbers are copied, and the same as themselves
abbrev CL := S33
structure EF where
  (f0 f1 f2 f3 f4 f5 f6 f7 : List Int)
  (f8 f9 : Bool)
theorem impl_both_ev (a b : List Int) (hl : a.length + b.length ≤ 1000000000) : impl_both.f a b = some (ascL (a ++ b)) := by
  unfold impl_both.f impl_copyInts.f impl_ascending.f
  rw [if_pos (by omega)]
  simp only [Option.bind_some]
  rw [if_pos (by omega), if_pos (by rw [List.length_append]; omega)]
  rfl
theorem impl_common_ev (a b : List Int) (hl : a.length ≤ 1000000000) (hb : b.length ≤ 1000000000) : Ev (fun k => impl_common.f k a b) (a.filter fun x => decide (x ∈ b)) := by
  unfold impl_common.f
  have key : ∀ (d i : Nat), i + d = a.length → Ev (fun k => impl_common.l0 k b ((a.take i).filter fun x => decide (x ∈ b)) a (a.length : Int) (i : Int)) (a.filter fun x => decide (x ∈ b)) := by
    intro d
    induction d with
    | zero =>
      intro i hi
      obtain rfl : i = a.length := by omega
      refine Ev.succ (fun k => ?_)
      simp only [impl_common.l0]
      rw [if_neg (by omega), List.take_length]
    | succ d ih =>
      intro i hi
      have h : i < a.length := by omega
      have hr := ih (i + 1) (by omega)
      rw [List.take_succ_eq_append_getElem h, List.filter_append] at hr
      have hlen := List.length_filter_le (fun x => decide (x ∈ b)) (a.take i)
      rw [List.length_take] at hlen
      refine Ev.step (f := fun k => (slices_Contains_int_int.f k b a[i]).bind fun t => if t = true then impl_common.l0 k b (((a.take i).filter fun x => decide (x ∈ b)) ++ [a[i]]) a (a.length : Int) ((i + 1 : Nat) : Int) else impl_common.l0 k b ((a.take i).filter fun x => decide (x ∈ b)) a (a.length : Int) ((i + 1 : Nat) : Int)) (fun k => ?_) (Ev.bind (contains_ev a[i] (by omega)) ?_)
      · simp only [impl_common.l0]
        rw [if_pos (by omega), if_pos (by omega), if_pos (by omega), rd_lt _ h, w64_succ h (by omega)]
        congr 1
        funext t
        cases t with
        | true => rw [if_pos rfl, if_pos rfl, if_pos (by omega)]
        | false => rfl
      · by_cases hm : a[i] ∈ b
        · rw [decide_eq_true hm]
          refine Ev.congr (fun k => if_pos rfl) ?_
          simpa [hm] using hr
        · rw [decide_eq_false hm]
          refine Ev.congr (fun k => if_neg (by simp)) ?_
          simpa [hm] using hr
  have h := key a.length 0 (by omega)
  simpa using h
theorem clash_loop (sort : Int) (l : List Int) (hl : l.length ≤ 1000000000) : Ev (fun k => impl_clash.l0 k sort [] l (l.length : Int) 0) (l.map fun x => (⟨sort, x⟩ : CL)) := by
  have key : ∀ (d i : Nat), i + d = l.length → Ev (fun k => impl_clash.l0 k sort ((l.take i).map fun x => (⟨sort, x⟩ : CL)) l (l.length : Int) (i : Int)) (l.map fun x => (⟨sort, x⟩ : CL)) := by
    intro d
    induction d with
    | zero =>
      intro i hi
      obtain rfl : i = l.length := by omega
      refine Ev.succ (fun k => ?_)
      simp only [impl_clash.l0]
      rw [if_neg (by omega), List.take_length]
    | succ d ih =>
      intro i hi
      have h : i < l.length := by omega
      have hr := ih (i + 1) (by omega)
      rw [List.take_succ_eq_append_getElem h, List.map_append] at hr
      refine Ev.step (fun k => ?_) hr
      simp only [impl_clash.l0]
      rw [if_pos (by omega), if_pos (by omega), if_pos (by omega), if_pos (by rw [List.length_map, List.length_take]; omega), rd_lt _ h, w64_succ h (by omega)]
      rfl
  have h := key l.length 0 (by omega)
  simpa using h
theorem impl_clash_ev (sort : Int) (aw ar bw br : List Int) (ta tb : List Int) (hta : ∀ x, x ∈ ta ↔ x ∈ aw ++ ar) (htb : ∀ x, x ∈ tb ↔ x ∈ bw ++ br) (hl : aw.length ≤ 100000000 ∧ bw.length ≤ 100000000 ∧ ta.length ≤ 1000000000 ∧ tb.length ≤ 1000000000) :
    Ev (fun k => impl_clash.f k sort aw ta bw tb) ((hitsL aw ar bw br).map fun x => (⟨sort, x⟩ : CL)) := by
  unfold impl_clash.f
  have e1 : (aw.filter fun x => decide (x ∈ tb)) = aw.filter fun x => decide (x ∈ bw ++ br) := List.filter_congr (fun x _ => by rw [decide_eq_decide]; exact htb x)
  have e2 : (bw.filter fun x => decide (x ∈ ta)) = bw.filter fun x => decide (x ∈ aw ++ ar) := List.filter_congr (fun x _ => by rw [decide_eq_decide]; exact hta x)
  have q1 := List.length_filter_le (fun x => decide (x ∈ tb)) aw
  have q2 := List.length_filter_le (fun x => decide (x ∈ ta)) bw
  have q3 := hits_len aw ar bw br
  refine Ev.bind (impl_common_ev aw tb (by omega) (by omega)) (Ev.bind (impl_common_ev bw ta (by omega) (by omega)) (Ev.bindc (impl_both_ev _ _ (by omega)) ?_))
  rw [e1, e2]
  exact clash_loop sort (hitsL aw ar bw br) (by omega)
theorem spec_l16Both_ev (out : List CL) (sort : Int) (l : List Int) (hl : out.length + l.length ≤ 1000000000) : Ev (fun k => spec_l16Both.f k out sort l) (out ++ l.map fun x => (⟨sort, x⟩ : CL)) := by
  unfold spec_l16Both.f
  have key : ∀ (d i : Nat), i + d = l.length → Ev (fun k => spec_l16Both.l0 k (out ++ (l.take i).map fun x => (⟨sort, x⟩ : CL)) sort l (i : Int)) (out ++ l.map fun x => (⟨sort, x⟩ : CL)) := by
    intro d
    induction d with
    | zero =>
      intro i hi
      obtain rfl : i = l.length := by omega
      refine Ev.succ (fun k => ?_)
      simp only [spec_l16Both.l0]
      rw [if_neg (by omega), List.take_length]
    | succ d ih =>
      intro i hi
      have h : i < l.length := by omega
      have hr := ih (i + 1) (by omega)
      rw [List.take_succ_eq_append_getElem h, List.map_append, ← List.append_assoc] at hr
      refine Ev.step (fun k => ?_) hr
      simp only [spec_l16Both.l0]
      rw [if_pos (by omega), if_pos (by omega), if_pos (by rw [List.length_append, List.length_map, List.length_take]; omega), rd_lt _ h, w64_succ h (by omega)]
      rfl
  have h := key l.length 0 (by omega)
  simpa using h
def clashL (x y : EF) : List CL := ((hitsL x.f1 x.f0 y.f1 y.f0).map fun z => (⟨1, z⟩ : CL)) ++ ((hitsL x.f4 x.f3 y.f4 y.f3).map fun z => (⟨2, z⟩ : CL)) ++ ((hitsL x.f5 x.f6 y.f5 y.f6).map fun z => (⟨3, z⟩ : CL))
def smallI (m : Nat) (x : EF) : Prop := x.f0.length ≤ m ∧ x.f1.length ≤ m ∧ x.f2.length ≤ m ∧ x.f3.length ≤ m ∧ x.f4.length ≤ m ∧ x.f5.length ≤ m ∧ x.f6.length ≤ m ∧ x.f7.length ≤ m
theorem clash_len {x y : EF} (hx : smallI 1048576 x) (hy : smallI 1048576 y) : (clashL x y).length ≤ 6 * 1048576 := by
  obtain ⟨x0, x1, x2, x3, x4, x5, x6, x7⟩ := hx
  obtain ⟨y0, y1, y2, y3, y4, y5, y6, y7⟩ := hy
  have q1 := hits_len x.f1 x.f0 y.f1 y.f0
  have q2 := hits_len x.f4 x.f3 y.f4 y.f3
  have q3 := hits_len x.f5 x.f6 y.f5 y.f6
  unfold clashL
  simp only [List.length_append, List.length_map]
  omega
theorem impl_Clashes_ev {x y : EF} (hx : smallI 1048576 x) (hy : smallI 1048576 y) : Ev (fun k => impl_Clashes.f k x.f0 x.f1 x.f2 x.f3 x.f4 x.f5 x.f6 x.f7 x.f8 x.f9 y.f0 y.f1 y.f2 y.f3 y.f4 y.f5 y.f6 y.f7 y.f8 y.f9) (clashL x y) := by
  obtain ⟨x0, x1, x2, x3, x4, x5, x6, x7⟩ := hx
  obtain ⟨y0, y1, y2, y3, y4, y5, y6, y7⟩ := hy
  have q1 := hits_len x.f1 x.f0 y.f1 y.f0
  have q2 := hits_len x.f4 x.f3 y.f4 y.f3
  have q3 := hits_len x.f5 x.f6 y.f5 y.f6
  have m : ∀ a b : List Int, ∀ z, z ∈ ascL (a ++ b) ↔ z ∈ b ++ a := fun a b z => by rw [asc_mem, List.mem_append, List.mem_append, or_comm]
  have m' : ∀ a b : List Int, ∀ z, z ∈ ascL (a ++ b) ↔ z ∈ a ++ b := fun a b z => asc_mem _ _
  have n : ∀ a b : List Int, (ascL (a ++ b)).length ≤ a.length + b.length := fun a b => by have := asc_len (a ++ b); rw [List.length_append] at this; exact this
  have n1 := n x.f0 x.f1
  have n2 := n y.f0 y.f1
  have n3 := n x.f3 x.f4
  have n4 := n y.f3 y.f4
  have n5 := n x.f5 x.f6
  have n6 := n y.f5 y.f6
  unfold impl_Clashes.f
  refine Ev.bindc (impl_both_ev _ _ (by omega)) (Ev.bindc (impl_both_ev _ _ (by omega)) (Ev.bind (impl_clash_ev 1 x.f1 x.f0 y.f1 y.f0 _ _ (m _ _) (m _ _) (by omega)) ?_))
  refine Ev.bindc (impl_both_ev _ _ (by omega)) (Ev.bindc (impl_both_ev _ _ (by omega)) (Ev.bind (impl_clash_ev 2 x.f4 x.f3 y.f4 y.f3 _ _ (m _ _) (m _ _) (by omega)) ?_))
  refine Ev.congr (fun k => if_pos (by rw [List.length_map, List.length_map]; omega)) ?_
  simp only [Option.bind_some]
  refine Ev.bindc (impl_both_ev _ _ (by omega)) (Ev.bindc (impl_both_ev _ _ (by omega)) (Ev.bind (impl_clash_ev 3 x.f5 x.f6 y.f5 y.f6 _ _ (m' _ _) (m' _ _) (by omega)) ?_))
  refine Ev.congr (fun k => if_pos (by rw [List.length_append, List.length_map, List.length_map, List.length_map]; omega)) (Ev.now _)
theorem spec_Clashes_ev {x y : EF} (hx : smallI 1048576 x) (hy : smallI 1048576 y) : Ev (fun k => spec_Clashes.f k x.f0 x.f1 x.f2 x.f3 x.f4 x.f5 x.f6 x.f7 x.f8 x.f9 y.f0 y.f1 y.f2 y.f3 y.f4 y.f5 y.f6 y.f7 y.f8 y.f9) (clashL x y) := by
  obtain ⟨x0, x1, x2, x3, x4, x5, x6, x7⟩ := hx
  obtain ⟨y0, y1, y2, y3, y4, y5, y6, y7⟩ := hy
  have q1 := hits_len x.f1 x.f0 y.f1 y.f0
  have q2 := hits_len x.f4 x.f3 y.f4 y.f3
  have q3 := hits_len x.f5 x.f6 y.f5 y.f6
  unfold spec_Clashes.f
  have b1 := spec_l16Both_ev [] 1 (hitsL x.f1 x.f0 y.f1 y.f0) (by simp only [List.length_nil]; omega)
  have b2 := spec_l16Both_ev ([] ++ (hitsL x.f1 x.f0 y.f1 y.f0).map fun z => (⟨1, z⟩ : CL)) 2 (hitsL x.f4 x.f3 y.f4 y.f3) (by simp only [List.length_append, List.length_map, List.length_nil]; omega)
  have b3 := spec_l16Both_ev (([] ++ (hitsL x.f1 x.f0 y.f1 y.f0).map fun z => (⟨1, z⟩ : CL)) ++ (hitsL x.f4 x.f3 y.f4 y.f3).map fun z => (⟨2, z⟩ : CL)) 3 (hitsL x.f5 x.f6 y.f5 y.f6) (by simp only [List.length_append, List.length_map, List.length_nil]; omega)
  exact Ev.bind (spec_l16Hits_ev x.f1 x.f0 y.f1 y.f0 (by omega)) (Ev.bind b1 (Ev.bind (spec_l16Hits_ev x.f4 x.f3 y.f4 y.f3 (by omega)) (Ev.bind b2 (Ev.bind (spec_l16Hits_ev x.f5 x.f6 y.f5 y.f6 (by omega)) (Ev.bind b3 (Ev.now _))))))
theorem impl_Apart_ev {x y : EF} (hx : smallI 1048576 x) (hy : smallI 1048576 y) : Ev (fun k => impl_Apart.f k x.f0 x.f1 x.f2 x.f3 x.f4 x.f5 x.f6 x.f7 x.f8 x.f9 y.f0 y.f1 y.f2 y.f3 y.f4 y.f5 y.f6 y.f7 y.f8 y.f9) (((clashL x y).length : Int) == 0) := by
  unfold impl_Apart.f
  exact Ev.bind (impl_Clashes_ev hx hy) (Ev.now _)
def targetsL (x : EF) (c : Nat) : List Int := ascL (x.f7 ++ if x.f9 = true then (List.range c).map (fun j : Nat => (j : Int)) else [])
theorem targets_len (x : EF) (c : Nat) : (targetsL x c).length ≤ x.f7.length + c := by
  unfold targetsL
  refine Nat.le_trans (asc_len _) ?_
  rw [List.length_append]
  split
  · rw [List.length_map, List.length_range]; exact Nat.le_refl _
  · simp
theorem upto_succ (i d : Nat) : ((List.range' i (d + 1)).map fun j : Nat => (j : Int)) = (i : Int) :: ((List.range' (i + 1) d).map fun j : Nat => (j : Int)) := by
  rw [List.range'_succ, List.map_cons]
theorem impl_targets_ev {x : EF} {c : Nat} (hx : x.f7.length ≤ 1048576) (hc : c ≤ 100) : Ev (fun k => impl_targets.f k x.f0 x.f1 x.f2 x.f3 x.f4 x.f5 x.f6 x.f7 x.f8 x.f9 (c : Int)) (targetsL x c) := by
  unfold impl_targets.f
  have hcp : impl_copyInts.f x.f7 = some x.f7 := by unfold impl_copyInts.f; rw [if_pos (by omega)]
  refine Ev.bindc hcp ?_
  unfold targetsL
  have fin : ∀ out : List Int, out.length ≤ 1048676 → impl_ascending.f out = some (ascL out) := fun out h => by unfold impl_ascending.f; rw [if_pos (by omega)]
  cases h9 : x.f9 with
  | false =>
    rw [if_neg (by simp), List.append_nil]
    refine Ev.succ (fun k => ?_)
    simp only [impl_targets.l0]
    by_cases hz : (0 : Int) < (c : Int)
    · rw [if_pos hz, if_neg (by simp), fin _ (by omega)]; rfl
    · rw [if_neg hz, fin _ (by omega)]; rfl
  | true =>
    rw [if_pos rfl]
    have key : ∀ d i : Nat, ∀ out : List Int, i + d = c → out.length + d ≤ 1048676 → Ev (fun k => impl_targets.l0 k (c : Int) out (i : Int) x.f0 x.f1 x.f2 x.f3 x.f4 x.f5 x.f6 x.f7 x.f8 true) (ascL (out ++ (List.range' i d).map fun j : Nat => (j : Int))) := by
      intro d
      induction d with
      | zero =>
        intro i out hi ho
        refine Ev.succ (fun k => ?_)
        simp only [impl_targets.l0]
        rw [if_neg (by omega), fin _ (by omega)]
        simp
      | succ d ih =>
        intro i out hi ho
        rw [upto_succ, List.append_cons]
        refine Ev.step (fun k => ?_) (ih (i + 1) (out ++ [(i : Int)]) (by omega) (by rw [List.length_append, List.length_singleton]; omega))
        simp only [impl_targets.l0]
        rw [if_pos (by omega), if_pos trivial, if_pos (by omega), w64_nat _ (by omega)]
    have h := key c 0 x.f7 (by omega) (by omega)
    rw [List.range_eq_range']
    exact h
theorem flat_succ (ls : List (List Int)) {i : Nat} (h : i < ls.length) : (ls.take (i + 1)).flatten = (ls.take i).flatten ++ ls[i] := by
  rw [List.take_succ_eq_append_getElem h, List.flatten_append, List.flatten_singleton]
theorem flat_le (ls : List (List Int)) (i : Nat) : (ls.take i).flatten.length ≤ ls.flatten.length := by
  have e : ls.flatten = (ls.take i).flatten ++ (ls.drop i).flatten := by rw [← List.flatten_append, List.take_append_drop]
  rw [e, List.length_append]
  omega
theorem concat_ev (ls : List (List Int)) (hl : ls.flatten.length ≤ 1000000000) (hn : ls.length ≤ 1000) : Ev (fun k => slices_Concat_int_int.f k ls) ls.flatten := by
  have rdl : ∀ i : Nat, i < ls.length → rd_L3 ls (i : Int) = ls[i]! := fun i h => by
    unfold rd_L3
    rw [Int.toNat_natCast, List.getD_eq_getElem?_getD, List.getElem?_eq_getElem h, getElem!_pos ls i h]
    rfl
  have k1 : ∀ d i : Nat, i + d = ls.length → Ev (fun k => slices_Concat_int_int.l1 k (ls.take i).flatten ls (ls.length : Int) (i : Int)) ls.flatten := by
    intro d
    induction d with
    | zero =>
      intro i hi
      obtain rfl : i = ls.length := by omega
      refine Ev.succ (fun k => ?_)
      simp only [slices_Concat_int_int.l1]
      rw [if_neg (by omega), List.take_length]
    | succ d ih =>
      intro i hi
      have h : i < ls.length := by omega
      have hf := flat_le ls (i + 1)
      have hs := flat_succ ls h
      have r := ih (i + 1) (by omega)
      rw [hs] at r
      rw [hs, List.length_append] at hf
      refine Ev.step (fun k => ?_) r
      simp only [slices_Concat_int_int.l1]
      rw [rdl i h, getElem!_pos ls i h, if_pos (by omega), if_pos (by omega), if_pos (by omega), if_pos (by omega), w64_succ h (by omega)]
  have k0 : ∀ d i : Nat, i + d = ls.length → Ev (fun k => slices_Concat_int_int.l0 k ls ((ls.take i).flatten.length : Int) ls (ls.length : Int) (i : Int)) ls.flatten := by
    intro d
    induction d with
    | zero =>
      intro i hi
      obtain rfl : i = ls.length := by omega
      have hg : slices_Grow_int_int.f ([] : List Int) ((ls.take ls.length).flatten.length : Int) = some [] := by
        unfold slices_Grow_int_int.f
        rw [List.take_length, if_pos ⟨rfl, by omega, by omega⟩]
      have r := k1 ls.length 0 (by omega)
      rw [List.take_zero, List.flatten_nil] at r
      refine Ev.step (f := fun k => (slices_Grow_int_int.f ([] : List Int) ((ls.take ls.length).flatten.length : Int)).bind fun t => slices_Concat_int_int.l1 k t ls (ls.length : Int) 0) (fun k => ?_) (Ev.bindc hg r)
      simp only [slices_Concat_int_int.l0]
      rw [if_neg (by omega)]
    | succ d ih =>
      intro i hi
      have h : i < ls.length := by omega
      have hf := flat_le ls (i + 1)
      have hs := flat_succ ls h
      have r := ih (i + 1) (by omega)
      rw [hs, List.length_append] at r
      rw [hs, List.length_append] at hf
      have n0 : ¬ ((((ls.take i).flatten.length + ls[i].length : Nat) : Int) < 0) := by omega
      have c1 : (i : Int) < (ls.length : Int) := by omega
      have c0 : (0 : Int) ≤ (i : Int) := by omega
      have b1 : -9223372036854775808 ≤ ((ls.take i).flatten.length : Int) + (ls[i].length : Int) := by omega
      have b2 : ((ls.take i).flatten.length : Int) + (ls[i].length : Int) ≤ 9223372036854775807 := by omega
      refine Ev.step (fun k => ?_) r
      simp only [slices_Concat_int_int.l0]
      rw [rdl i h, getElem!_pos ls i h, if_pos c1, if_pos c0, if_pos c1, w64 b1 b2, ← Int.natCast_add, if_neg n0, w64_succ h (by omega)]
  unfold slices_Concat_int_int.f
  exact k0 ls.length 0 (by omega)
def strictL (x y : EF) (c : Nat) : List CL := clashL x y ++ (hitsL (targetsL x c) (x.f0 ++ x.f1 ++ x.f2) (targetsL y c) (y.f0 ++ y.f1 ++ y.f2)).map fun z => (⟨4, z⟩ : CL)
theorem strict_len {x y : EF} {c : Nat} (hx : smallI 1048576 x) (hy : smallI 1048576 y) (hc : c ≤ 100) : (strictL x y c).length ≤ 10 * 1048576 := by
  have h1 := clash_len hx hy
  have h2 := hits_len (targetsL x c) (x.f0 ++ x.f1 ++ x.f2) (targetsL y c) (y.f0 ++ y.f1 ++ y.f2)
  have h3 := targets_len x c
  have h4 := targets_len y c
  obtain ⟨x0, x1, x2, x3, x4, x5, x6, x7⟩ := hx
  obtain ⟨y0, y1, y2, y3, y4, y5, y6, y7⟩ := hy
  unfold strictL
  rw [List.length_append, List.length_map]
  omega
def strictR (x y : EF) (c : Int) : List CL := if 0 ≤ c ∧ c ≤ 12 then strictL x y c.toNat else []
theorem impl_Strictly_ev {x y : EF} (hx : smallI 1048576 x) (hy : smallI 1048576 y) (c : Int) : Ev (fun k => impl_Strictly.f k x.f0 x.f1 x.f2 x.f3 x.f4 x.f5 x.f6 x.f7 x.f8 x.f9 y.f0 y.f1 y.f2 y.f3 y.f4 y.f5 y.f6 y.f7 y.f8 y.f9 c) (strictR x y c) := by
  unfold impl_Strictly.f impl_within.f strictR
  by_cases h0 : 0 ≤ c
  · by_cases h1 : c ≤ 12
    · obtain ⟨n, rfl⟩ := Int.eq_ofNat_of_zero_le h0
      rw [if_pos (show 0 ≤ (n : Int) ∧ (n : Int) ≤ 12 from ⟨h0, h1⟩)]
      have hxx := hx
      have hyy := hy
      obtain ⟨x0, x1, x2, x3, x4, x5, x6, x7⟩ := hx
      obtain ⟨y0, y1, y2, y3, y4, y5, y6, y7⟩ := hy
      have q1 := targets_len x n
      have q2 := targets_len y n
      have q3 := clash_len hxx hyy
      have q4 := hits_len (targetsL x n) (x.f0 ++ x.f1 ++ x.f2) (targetsL y n) (y.f0 ++ y.f1 ++ y.f2)
      have fl : ∀ a b d e : List Int, [a, b, d, e].flatten = a ++ (b ++ (d ++ e)) := fun a b d e => by simp
      have cl1 := concat_ev [x.f0, x.f1, x.f2, targetsL x n] (by rw [fl]; simp only [List.length_append]; omega) (by simp)
      have cl2 := concat_ev [y.f0, y.f1, y.f2, targetsL y n] (by rw [fl]; simp only [List.length_append]; omega) (by simp)
      rw [fl] at cl1 cl2
      have mem : ∀ (a b d e : List Int) (z : Int), z ∈ a ++ (b ++ (d ++ e)) ↔ z ∈ e ++ (a ++ b ++ d) := fun a b d e z => by
        simp only [List.mem_append]
        constructor
        · rintro (h | h | h | h)
          · exact .inr (.inl (.inl h))
          · exact .inr (.inl (.inr h))
          · exact .inr (.inr h)
          · exact .inl h
        · rintro (h | (h | h) | h)
          · exact .inr (.inr (.inr h))
          · exact .inl h
          · exact .inr (.inl h)
          · exact .inr (.inr (.inl h))
      have cc := impl_clash_ev 4 (targetsL x n) (x.f0 ++ x.f1 ++ x.f2) (targetsL y n) (y.f0 ++ y.f1 ++ y.f2) _ _ (mem x.f0 x.f1 x.f2 (targetsL x n)) (mem y.f0 y.f1 y.f2 (targetsL y n)) ⟨by omega, by omega, by simp only [List.length_append]; omega, by simp only [List.length_append]; omega⟩
      refine Ev.bindc (a := true) (by rw [if_pos h0, decide_eq_true h1]) (Ev.congr (fun k => if_pos rfl) ?_)
      refine Ev.bind (impl_targets_ev x7 (by omega)) (Ev.bind (impl_targets_ev y7 (by omega)) (Ev.bind cl1 (Ev.bind cl2 (Ev.bind (impl_Clashes_ev hxx hyy) (Ev.bind cc ?_)))))
      refine Ev.congr (fun k => if_pos (by rw [List.length_map]; omega)) (Ev.now _)
    · rw [if_neg (show ¬ (0 ≤ c ∧ c ≤ 12) by omega)]
      exact Ev.bindc (a := false) (by rw [if_pos h0, decide_eq_false h1]) (Ev.congr (fun k => if_neg (by simp)) (Ev.now _))
  · rw [if_neg (show ¬ (0 ≤ c ∧ c ≤ 12) by omega)]
    exact Ev.bindc (a := false) (by rw [if_neg h0]) (Ev.congr (fun k => if_neg (by simp)) (Ev.now _))
theorem and255 (v : Int) : 0 ≤ Go.bits .and .i64 v 255 ∧ Go.bits .and .i64 v 255 ≤ 255 := by
  have h : Go.bits .and .i64 v 255 = IntKind.i64.wrap (((BitVec.ofInt 64 v &&& BitVec.ofInt 64 255).toNat : Nat) : Int) := rfl
  have h2 : (BitVec.ofInt 64 v &&& BitVec.ofInt 64 255).toNat ≤ 255 := by
    rw [BitVec.toNat_and]
    exact Nat.le_trans Nat.and_le_right (by decide)
  rw [h, IntKind.wrap_i64]
  omega
theorem l1Byte_ex (b : List Int) (i h : Int) (hb : b.length ≤ 140737488351232) (hi : 0 ≤ i) : ∃ x i' h', spec_l1Byte.f b i h = some (x, i', h') ∧ 0 ≤ x ∧ x ≤ 255 ∧ 0 ≤ i' := by
  unfold spec_l1Byte.f
  by_cases hl : i < (b.length : Int)
  · rw [if_pos hl, if_pos hi]
    refine ⟨_, _, _, rfl, (and255 _).1, (and255 _).2, ?_⟩
    rw [w64 (by omega) (by omega)]
    omega
  · rw [if_neg hl]
    exact ⟨_, _, _, rfl, (and255 _).1, (and255 _).2, hi⟩
theorem l1Below_ex (b : List Int) (i h n : Int) (hb : b.length ≤ 140737488351232) (hi : 0 ≤ i) : ∃ x i' h', spec_l1Below.f b i h n = some (x, i', h') ∧ 0 ≤ x ∧ (0 < n → x < n) ∧ (n ≤ 0 → x = 0) ∧ 0 ≤ i' := by
  unfold spec_l1Below.f
  by_cases h0 : n ≤ 0
  · rw [if_pos h0]
    exact ⟨0, i, h, rfl, by omega, by omega, fun _ => rfl, hi⟩
  · rw [if_neg h0]
    by_cases h1 : n ≤ 256
    · rw [if_pos h1]
      obtain ⟨x, i1, h1, e1, p1, q1, r1⟩ := l1Byte_ex b i h hb hi
      rw [e1]
      simp only [Option.bind_some]
      rw [if_neg (by omega)]
      exact ⟨_, _, _, rfl, Int.tmod_nonneg _ p1, fun _ => Int.tmod_lt_of_pos _ (by omega), fun h => absurd h h0, r1⟩
    · rw [if_neg h1]
      obtain ⟨x, i1, h1, e1, p1, q1, r1⟩ := l1Byte_ex b i h hb hi
      obtain ⟨y, i2, h2, e2, p2, q2, r2⟩ := l1Byte_ex b i1 h1 hb r1
      obtain ⟨z, i3, h3, e3, p3, q3, r3⟩ := l1Byte_ex b i2 h2 hb r2
      obtain ⟨w, i4, h4, e4, p4, q4, r4⟩ := l1Byte_ex b i3 h3 hb r3
      rw [e1]; simp only [Option.bind_some]; rw [e2]; simp only [Option.bind_some]; rw [e3]; simp only [Option.bind_some]; rw [e4]; simp only [Option.bind_some]
      rw [if_neg (by omega)]
      refine ⟨_, _, _, rfl, Int.tmod_nonneg _ ?_, fun _ => Int.tmod_lt_of_pos _ (by omega), fun h => absurd h h0, r4⟩
      rw [w64 (x := x * 16777216) (by omega) (by omega), w64 (x := y * 65536) (by omega) (by omega), w64 (x := z * 256) (by omega) (by omega), w64 (x := x * 16777216 + y * 65536) (by omega) (by omega), w64 (x := x * 16777216 + y * 65536 + z * 256) (by omega) (by omega), w64 (by omega) (by omega)]
      omega
theorem l1Once_ex (b : List Int) (i h n : Int) (hb : b.length ≤ 140737488351232) (hi : 0 ≤ i) : ∃ x i' h', spec_l1Once.f b i h n = some (x, i', h') ∧ 0 ≤ i' := by
  obtain ⟨x, i', h', e, _, _, _, hi'⟩ := l1Below_ex b i h n hb hi
  unfold spec_l1Once.f
  rw [e]
  exact ⟨_, _, _, rfl, hi'⟩
theorem l1PickInt_ex (b : List Int) (i h : Int) (l : List Int) (hb : b.length ≤ 140737488351232) (hi : 0 ≤ i) (hl : l ≠ []) (hm : l.length ≤ 1000) : ∃ x i' h', spec_l1PickInt.f b i h l = some (x, i', h') ∧ x ∈ l ∧ 0 ≤ i' := by
  obtain ⟨x, i', h', e, h0, h1, _, hi'⟩ := l1Below_ex b i h (l.length : Int) hb hi
  have hp : 0 < l.length := List.length_pos_iff.2 hl
  have h2 := h1 (by omega)
  unfold spec_l1PickInt.f
  rw [e]
  simp only [Option.bind_some]
  rw [if_pos h0, if_pos h2]
  refine ⟨_, _, _, rfl, ?_, hi'⟩
  obtain ⟨y, rfl⟩ : ∃ y : Nat, x = (y : Int) := ⟨x.toNat, by omega⟩
  rw [rd_lt _ (by omega)]
  exact List.getElem_mem _
theorem l1New_ev (b : List Int) (hb : b.length ≤ 140737488351232) : ∃ h, Ev (fun k => spec_l1New.f k b) (b, 0, h) := by
  unfold spec_l1New.f
  have key : ∀ (d i : Nat) (h : Int), i + d = b.length → ∃ h', Ev (fun k => spec_l1New.l0 k b h (i : Int)) (b, 0, h') := by
    intro d
    induction d with
    | zero =>
      intro i h hi
      refine ⟨h, Ev.succ (fun k => ?_)⟩
      simp only [spec_l1New.l0]
      rw [if_neg (by omega)]
    | succ d ih =>
      intro i h hi
      by_cases h4 : i < 4000
      · obtain ⟨h', hr⟩ := ih (i + 1) (Go.bits .and .i64 (wrap64 ((wrap64 ((wrap64 (h * 131)) + (wrap64 (rd b i)))) + 7)) 1073741823) (by omega)
        refine ⟨h', Ev.step (fun k => ?_) hr⟩
        simp only [spec_l1New.l0]
        rw [if_pos (by omega), if_pos (by omega), if_pos (by omega), w64_succ (n := b.length) (by omega) (by omega)]
      · refine ⟨h, Ev.succ (fun k => ?_)⟩
        simp only [spec_l1New.l0]
        rw [if_pos (by omega), if_neg (by omega)]
  exact key b.length 0 _ (by omega)

theorem l10List_ex (b : List Int) (i h : Int) (n : Nat) (hb : b.length ≤ 140737488351232) (hi : 0 ≤ i) (hn : n ≤ 100) : ∃ l i' h', Ev (fun k => spec_l10List.f k b i h (n : Int)) (l, i', h') ∧ l.length ≤ n + 1 ∧ 0 ≤ i' := by
  unfold spec_l10List.f
  have key : ∀ (d j : Nat) (l : List Int) (i h : Int), j + d = n → l.length ≤ j → 0 ≤ i → ∃ l' i' h', Ev (fun k => spec_l10List.l0 k (n : Int) l (j : Int) b i h) (l', i', h') ∧ l'.length ≤ n + 1 ∧ 0 ≤ i' := by
    intro d
    induction d with
    | zero =>
      intro j l i h hj hl hi
      obtain ⟨x, i1, h1, e1, hi1⟩ := l1Once_ex b i h 20 hb hi
      cases x with
      | true =>
        obtain ⟨y, i2, h2, e2, _, _, _, hi2⟩ := l1Below_ex b i1 h1 9 hb hi1
        refine ⟨l ++ [wrap64 (y - 2)], i2, h2, Ev.succ (fun k => ?_), by rw [List.length_append, List.length_singleton]; omega, hi2⟩
        simp only [spec_l10List.l0]
        rw [if_neg (by omega), e1]
        simp only [Option.bind_some, if_true]
        rw [e2]
        simp only [Option.bind_some]
        rw [if_pos (by omega)]
      | false =>
        refine ⟨l, i1, h1, Ev.succ (fun k => ?_), by omega, hi1⟩
        simp only [spec_l10List.l0]
        rw [if_neg (by omega), e1]
        simp only [Option.bind_some]
        rw [if_neg (by simp)]
    | succ d ih =>
      intro j l i h hj hl hi
      obtain ⟨x, i1, h1, e1, hi1⟩ := l1Once_ex b i h 3 hb hi
      cases x with
      | true =>
        obtain ⟨l', i', h', hr, r1, r2⟩ := ih (j + 1) (l ++ [(j : Int)]) i1 h1 (by omega) (by rw [List.length_append, List.length_singleton]; omega) hi1
        refine ⟨l', i', h', Ev.step (fun k => ?_) hr, r1, r2⟩
        simp only [spec_l10List.l0]
        rw [if_pos (by omega), e1]
        simp only [Option.bind_some, if_true]
        rw [if_pos (by omega), w64_nat _ (by omega)]
      | false =>
        obtain ⟨l', i', h', hr, r1, r2⟩ := ih (j + 1) l i1 h1 (by omega) (by omega) hi1
        refine ⟨l', i', h', Ev.step (fun k => ?_) hr, r1, r2⟩
        simp only [spec_l10List.l0]
        rw [if_pos (by omega), e1]
        simp only [Option.bind_some]
        rw [if_neg (by simp), w64_nat _ (by omega)]
  exact key n 0 [] i h (by omega) (by simp) hi
theorem l10Effect_ex (b : List Int) (i h : Int) (hb : b.length ≤ 140737488351232) (hi : 0 ≤ i) : ∃ (x : EF) (i' h' : Int), Ev (fun k => spec_l10Effect.f k b i h) (x.f0, x.f1, x.f2, x.f3, x.f4, x.f5, x.f6, x.f7, x.f8, x.f9, i', h') ∧ smallI 1048576 x ∧ 0 ≤ i' := by
  unfold spec_l10Effect.f
  obtain ⟨l0, i0, h0, e0, s0, p0⟩ := l10List_ex b i h 5 hb hi (by omega)
  obtain ⟨l1, i1, h1, e1, s1, p1⟩ := l10List_ex b i0 h0 5 hb p0 (by omega)
  obtain ⟨l2, i2, h2, e2, s2, p2⟩ := l10List_ex b i1 h1 5 hb p1 (by omega)
  obtain ⟨l3, i3, h3, e3, s3, p3⟩ := l10List_ex b i2 h2 4 hb p2 (by omega)
  obtain ⟨l4, i4, h4, e4, s4, p4⟩ := l10List_ex b i3 h3 4 hb p3 (by omega)
  obtain ⟨l5, i5, h5, e5, s5, p5⟩ := l10List_ex b i4 h4 2 hb p4 (by omega)
  obtain ⟨l6, i6, h6, e6, s6, p6⟩ := l10List_ex b i5 h5 2 hb p5 (by omega)
  obtain ⟨l7, i7, h7, e7, s7, p7⟩ := l10List_ex b i6 h6 5 hb p6 (by omega)
  obtain ⟨b8, i8, h8, e8, p8⟩ := l1Once_ex b i7 h7 3 hb p7
  obtain ⟨b9, i9, h9, e9, p9⟩ := l1Once_ex b i8 h8 4 hb p8
  refine ⟨⟨l0, l1, l2, l3, l4, l5, l6, l7, b8, b9⟩, i9, h9, ?_, ⟨by show l0.length ≤ _; omega, by show l1.length ≤ _; omega, by show l2.length ≤ _; omega, by show l3.length ≤ _; omega, by show l4.length ≤ _; omega, by show l5.length ≤ _; omega, by show l6.length ≤ _; omega, by show l7.length ≤ _; omega⟩, p9⟩
  exact Ev.bind e0 (Ev.bind e1 (Ev.bind e2 (Ev.bind e3 (Ev.bind e4 (Ev.bind e5 (Ev.bind e6 (Ev.bind e7 (Ev.bindc e8 (Ev.bindc e9 (Ev.now _))))))))))
theorem DrawStrictly_ex (b : List Int) (hb : b.length ≤ 140737488351232) : ∃ (x y : EF) (c : Int), Ev (fun k => spec_DrawStrictly.f k b) (x.f0, x.f1, x.f2, x.f3, x.f4, x.f5, x.f6, x.f7, x.f8, x.f9, y.f0, y.f1, y.f2, y.f3, y.f4, y.f5, y.f6, y.f7, y.f8, y.f9, c) ∧ smallI 1048576 x ∧ smallI 1048576 y := by
  unfold spec_DrawStrictly.f
  obtain ⟨h, e⟩ := l1New_ev b hb
  obtain ⟨x, i1, h1, e1, s1, p1⟩ := l10Effect_ex b 0 h hb (by omega)
  obtain ⟨y, i2, h2, e2, s2, p2⟩ := l10Effect_ex b i1 h1 hb p1
  obtain ⟨c, i3, h3, e3, _, _⟩ := l1PickInt_ex b i2 h2 [5, 5, 5, 0, (-1), 12, 13] hb p2 (by simp) (by simp)
  exact ⟨x, y, c, Ev.bind e (Ev.bind e1 (Ev.bind e2 (Ev.bindc e3 (Ev.now _)))), s1, s2⟩
theorem hits_comm (aw ar bw br : List Int) : hitsL aw ar bw br = hitsL bw br aw ar := by
  unfold hitsL
  refine asc_congr (fun x => ?_)
  rw [List.mem_append, List.mem_append, or_comm]
theorem clash_comm (x y : EF) : clashL x y = clashL y x := by
  unfold clashL
  rw [hits_comm x.f1, hits_comm x.f4, hits_comm x.f5]
theorem strict_comm (x y : EF) (c : Nat) : strictL x y c = strictL y x c := by
  unfold strictL
  rw [clash_comm, hits_comm]
theorem clash_none (f0 f2 f3 f6 g0 g3 g6 : List Int) : clashL ⟨f0, [], f2, f3, [], [], f6, [], false, false⟩ ⟨g0, [], [], g3, [], [], g6, [], false, false⟩ = [] := by
  have h : ∀ a b : List Int, hitsL [] a [] b = [] := fun a b => by
    have := hits_len [] a [] b
    exact List.eq_nil_of_length_eq_zero (by simpa using this)
  unfold clashL
  simp only [h, List.map_nil, List.append_nil]
theorem tail_ev {x y : EF} (hx : smallI 1048576 x) (hy : smallI 1048576 y) (c : Int) :
    Ev (fun k => clashTail k x.f0 x.f1 x.f2 x.f3 x.f4 x.f5 x.f6 x.f7 x.f8 x.f9 y.f0 y.f1 y.f2 y.f3 y.f4 y.f5 y.f6 y.f7 y.f8 y.f9 c) true := by
  unfold clashTail
  have hl := clash_len hx hy
  have h1 := impl_Clashes_ev hx hy
  have h2 := impl_Clashes_ev hy hx
  rw [clash_comm y x] at h2
  refine Ev.bind h1 (Ev.bind h2 (Ev.bind (spec_Clashes_ev hx hy) (Ev.bind (impl_Apart_ev hx hy) ?_)))
  refine Ev.congr (fun k => if_pos ⟨rfl, by omega, rfl, rfl⟩) ?_
  refine Ev.bind (impl_Strictly_ev hx hy c) (Ev.bind (impl_Strictly_ev hy hx c) ?_)
  by_cases h0 : c < 0 ∨ 12 < c
  · have s1 : strictR x y c = [] := by unfold strictR; exact if_neg (by omega)
    have s2 : strictR y x c = [] := by unfold strictR; exact if_neg (by omega)
    refine Ev.congr (fun k => if_pos h0) ?_
    rw [s1, s2]
    exact Ev.of_eq fun k => if_pos ⟨rfl, rfl⟩
  · have s1 : strictR x y c = strictL x y c.toNat := by unfold strictR; exact if_pos (by omega)
    have s2 : strictR y x c = strictL x y c.toNat := by unfold strictR; rw [strict_comm x y]; exact if_pos (by omega)
    refine Ev.congr (fun k => if_neg h0) ?_
    rw [s1, s2]
    have hsl := strict_len (c := c.toNat) hx hy (by omega)
    have hst : strictL x y c.toNat = clashL x y ++ (hitsL (targetsL x c.toNat) (x.f0 ++ x.f1 ++ x.f2) (targetsL y c.toNat) (y.f0 ++ y.f1 ++ y.f2)).map fun z => (⟨4, z⟩ : CL) := rfl
    have sx : smallI 1048576 (⟨x.f0, [], x.f2, x.f3, [], [], x.f6, [], false, false⟩ : EF) := ⟨hx.1, by simp, hx.2.2.1, hx.2.2.2.1, by simp, by simp, hx.2.2.2.2.2.2.1, by simp⟩
    have sy : smallI 1048576 (⟨y.f0, [], [], y.f3, [], [], y.f6, [], false, false⟩ : EF) := ⟨hy.1, by simp, by simp, hy.2.2.2.1, by simp, by simp, hy.2.2.2.2.2.2.1, by simp⟩
    have ha := impl_Apart_ev sx sy
    rw [clash_none] at ha
    refine Ev.congr (fun k => if_pos ⟨rfl, by omega, by rw [hst, List.length_append]; omega, by rw [hst, List.take_left], fun e he => ?_⟩) ha
    rw [hst, List.drop_left] at he
    obtain ⟨q, _, rfl⟩ := List.mem_map.1 he
    rfl
theorem proof : Pure := by
  intro l hl
  refine Ev.rounds ?_
  unfold laws_FnClashes.f
  by_cases hb : (l.length : Int) > 1048576
  · exact Ev.of_eq fun k => if_pos hb
  refine Ev.congr (fun k => if_neg hb) ?_
  obtain ⟨x, y, c, e, hx, hy⟩ := DrawStrictly_ex l (by omega)
  exact Ev.bind e (tail_ev hx hy c)


end Go.Proofs.Ytejbndfhaemigaa.fnClashes
