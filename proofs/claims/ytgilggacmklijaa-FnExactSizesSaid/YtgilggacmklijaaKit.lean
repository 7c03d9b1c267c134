/- Plain lemmas on rounds and loops over lists: no program in sight. -/
import Derived.Test.YtgilggacmklijaaWWords
import Derived.Test.YtgilggacmklijaaWLast
import Derived.RowKit
namespace Go.Proofs.Ytgilggacmklijaa.Own
open Go.RowKit Go.Proofs.YtgilggacmklijaaW.PrintWords

theorem w64 {x : Int} (h : -9223372036854775808 ≤ x) (h' : x ≤ 9223372036854775807) : wrap64 x = x := by
  unfold wrap64
  omega

theorem w64_succ {i n : Nat} (h : i < n) (hn : n ≤ 9223372036854775807) : wrap64 ((i : Int) + 1) = ((i + 1 : Nat) : Int) := by
  rw [w64 (by omega) (by omega)]
  omega

theorem w64_nat (i : Nat) (h : i ≤ 9223372036854775806) : wrap64 ((i : Int) + 1) = ((i + 1 : Nat) : Int) := by
  rw [w64 (by omega) (by omega)]
  omega

theorem Ev.some {α : Type} (r : α) : Ev (fun _ => Option.some r) r := Ev.now r

theorem Ev.of_eq {α : Type} {g : Nat → Option α} {r : α} (h : ∀ k, g k = Option.some r) : Ev g r := ⟨0, fun k _ => h k⟩

theorem Ev.succ {α : Type} {g : Nat → Option α} {r : α} (h : ∀ k, g (k + 1) = Option.some r) : Ev g r :=
  ⟨1, fun n hn => by
    obtain ⟨m, rfl⟩ : ∃ m, n = m + 1 := ⟨n - 1, by omega⟩
    exact h m⟩

theorem Ev.unique {α : Type} {g : Nat → Option α} {r q : α} (h : Ev g r) (h' : Ev g q) : r = q := by
  obtain ⟨K, h⟩ := h
  obtain ⟨K', h'⟩ := h'
  have h1 := h (max K K') (by omega)
  have h2 := h' (max K K') (by omega)
  rw [h1] at h2
  exact Option.some.inj h2

/-- Where the rounds don't count. -/
theorem Ev.bindc {α β : Type} {g : Option α} {f : Nat → α → Option β} {a : α} {r : β} (h : g = Option.some a) (k : Ev (fun n => f n a) r) : Ev (fun n => g.bind (f n)) r := by
  subst h
  exact k

theorem down_ev {ρ : Type} (F : Nat → Int → Option ρ) (n : Nat) (r : ρ) (h1 : ∀ i : Nat, i < n → Ev (fun k => F k ((i + 1 : Nat) : Int)) r → Ev (fun k => F k (i : Int)) r) (h2 : Ev (fun k => F k (n : Int)) r) :
    ∀ i : Nat, i ≤ n → Ev (fun k => F k (i : Int)) r := by
  intro i hi
  obtain ⟨d, hd⟩ : ∃ d, n - i = d := ⟨_, rfl⟩
  induction d generalizing i with
  | zero => obtain rfl : i = n := by omega
            exact h2
  | succ d ih => exact h1 i (by omega) (ih (i + 1) (by omega) (by omega))

/-- A loop over a list that fills another one. -/
theorem fill_ev {α β : Type} (xs : List α) (f : α → β) (F : Nat → List β → Int → Option (List β))
    (h1 : ∀ (i : Nat) (h : i < xs.length) (ys : List β), ys.length = xs.length → ∀ r, Ev (fun k => F k (ys.set i (f xs[i])) ((i + 1 : Nat) : Int)) r → Ev (fun k => F k ys (i : Int)) r)
    (h2 : ∀ ys : List β, Ev (fun k => F k ys (xs.length : Int)) ys) : ∀ ys : List β, ys.length = xs.length → Ev (fun k => F k ys 0) (xs.map f) := by
  have key : ∀ (d i : Nat) (ys : List β), ys.length = xs.length → i + d = xs.length → (∀ j (hj : j < i) (hx : j < xs.length), ys[j]? = Option.some (f xs[j])) → Ev (fun k => F k ys (i : Int)) (xs.map f) := by
    intro d
    induction d with
    | zero =>
      intro i ys hy hi hj
      obtain rfl : i = xs.length := by omega
      have : xs.map f = ys := by
        apply List.ext_getElem?
        intro j
        by_cases hjj : j < xs.length
        · rw [hj j hjj hjj, List.getElem?_map, List.getElem?_eq_getElem hjj]; rfl
        · rw [List.getElem?_eq_none (by simpa using hjj), List.getElem?_eq_none (by omega)]
      rw [this]
      exact h2 ys
    | succ d ih =>
      intro i ys hy hi hj
      refine h1 i (by omega) ys hy _ (ih (i + 1) _ (by simpa using hy) (by omega) fun j hj1 hx => ?_)
      by_cases e : j = i
      · subst e
        rw [List.getElem?_set_self (by omega)]
      · rw [List.getElem?_set_ne (by omega)]
        exact hj j (by omega) hx
  intro ys hy
  exact key xs.length 0 ys hy (by omega) (fun j hj => by omega)

/-- A loop over a list with a state, and an end on the way. -/
def runL {α σ ρ : Type} (step : α → σ → ρ ⊕ σ) (fin : σ → ρ) : List α → σ → ρ
  | [], s => fin s
  | x :: xs, s => match step x s with
    | .inl r => r
    | .inr s' => runL step fin xs s'

theorem run_ev {α σ ρ : Type} (xs : List α) (step : α → σ → ρ ⊕ σ) (fin : σ → ρ) (F : Nat → Int → σ → Option ρ)
    (h1 : ∀ (i : Nat) (h : i < xs.length) (s : σ), match step xs[i] s with
      | .inl r => Ev (fun k => F k (i : Int) s) r
      | .inr s' => ∀ r, Ev (fun k => F k ((i + 1 : Nat) : Int) s') r → Ev (fun k => F k (i : Int) s) r)
    (h2 : ∀ s, Ev (fun k => F k (xs.length : Int) s) (fin s)) : ∀ (i : Nat) (s : σ), i ≤ xs.length → Ev (fun k => F k (i : Int) s) (runL step fin (xs.drop i) s) := by
  intro i s hi
  obtain ⟨d, hd⟩ : ∃ d, xs.length - i = d := ⟨_, rfl⟩
  induction d generalizing i s with
  | zero =>
    obtain rfl : i = xs.length := by omega
    rw [List.drop_length]
    exact h2 s
  | succ d ih =>
    have hlt : i < xs.length := by omega
    have h := h1 i hlt s
    rw [List.drop_eq_getElem_cons hlt]
    unfold runL
    split <;> rename_i e <;> rw [e] at h
    · exact h
    · exact h _ (ih (i + 1) _ (by omega) (by omega))

/-- A loop that asks all of a list. -/
theorem all_ev {α : Type} (xs : List α) (p : α → Bool) (F : Nat → Int → Option Bool)
    (h1 : ∀ (i : Nat) (h : i < xs.length), p xs[i] = true → ∀ r, Ev (fun k => F k ((i + 1 : Nat) : Int)) r → Ev (fun k => F k (i : Int)) r)
    (h0 : ∀ (i : Nat) (h : i < xs.length), p xs[i] = false → Ev (fun k => F k (i : Int)) false)
    (h2 : Ev (fun k => F k (xs.length : Int)) true) : ∀ i : Nat, i ≤ xs.length → Ev (fun k => F k (i : Int)) ((xs.drop i).all p) := by
  intro i hi
  obtain ⟨d, hd⟩ : ∃ d, xs.length - i = d := ⟨_, rfl⟩
  induction d generalizing i with
  | zero =>
    obtain rfl : i = xs.length := by omega
    rw [List.drop_length]
    exact h2
  | succ d ih =>
    have hlt : i < xs.length := by omega
    rw [List.drop_eq_getElem_cons hlt, List.all_cons]
    cases hp : p xs[i] with
    | true =>
      rw [Bool.true_and]
      exact h1 i hlt hp _ (ih (i + 1) (by omega) (by omega))
    | false => exact h0 i hlt hp

theorem getD_lt {α : Type} (xs : List α) (d : α) {i : Nat} (h : i < xs.length) : xs.getD i d = xs[i] := by
  rw [List.getD_eq_getElem?_getD, List.getElem?_eq_getElem h]; rfl

theorem rdOf_lt {α : Type} (xs : List α) (d : α) {i : Nat} (h : i < xs.length) : rdOf d xs (i : Int) = xs[i] := by
  unfold rdOf; rw [Int.toNat_natCast]; exact getD_lt xs d h

theorem rd_lt (xs : List Int) {i : Nat} (h : i < xs.length) : rd xs (i : Int) = xs[i] := by
  unfold rd; rw [Int.toNat_natCast]; exact getD_lt xs 0 h

/-- A loop over a list that fills another one, and what comes behind. -/
theorem fillk_ev {α β ρ : Type} (xs : List α) (f : α → β) (F : Nat → List β → Int → Option ρ) (r : ρ)
    (h1 : ∀ (i : Nat) (h : i < xs.length) (ys : List β), ys.length = xs.length → Ev (fun k => F k (ys.set i (f xs[i])) ((i + 1 : Nat) : Int)) r → Ev (fun k => F k ys (i : Int)) r)
    (h2 : Ev (fun k => F k (xs.map f) (xs.length : Int)) r) : ∀ ys : List β, ys.length = xs.length → Ev (fun k => F k ys 0) r := by
  have key : ∀ (d i : Nat) (ys : List β), ys.length = xs.length → i + d = xs.length → (∀ j (hj : j < i) (hx : j < xs.length), ys[j]? = Option.some (f xs[j])) → Ev (fun k => F k ys (i : Int)) r := by
    intro d
    induction d with
    | zero =>
      intro i ys hy hi hj
      obtain rfl : i = xs.length := by omega
      have : xs.map f = ys := by
        apply List.ext_getElem?
        intro j
        by_cases hjj : j < xs.length
        · rw [hj j hjj hjj, List.getElem?_map, List.getElem?_eq_getElem hjj]; rfl
        · rw [List.getElem?_eq_none (by simpa using hjj), List.getElem?_eq_none (by omega)]
      rw [← this]
      exact h2
    | succ d ih =>
      intro i ys hy hi hj
      refine h1 i (by omega) ys hy (ih (i + 1) _ (by simpa using hy) (by omega) fun j hj1 hx => ?_)
      by_cases e : j = i
      · subst e
        rw [List.getElem?_set_self (by omega)]
      · rw [List.getElem?_set_ne (by omega)]
        exact hj j (by omega) hx
  intro ys hy
  exact key xs.length 0 ys hy (by omega) (fun j hj => by omega)

/-- A loop that asks all numbers below n. -/
theorem alli_ev (n : Nat) (p : Nat → Bool) (F : Nat → Int → Option Bool)
    (h1 : ∀ i : Nat, i < n → p i = true → ∀ r, Ev (fun k => F k ((i + 1 : Nat) : Int)) r → Ev (fun k => F k (i : Int)) r)
    (h0 : ∀ i : Nat, i < n → p i = false → Ev (fun k => F k (i : Int)) false)
    (h2 : Ev (fun k => F k (n : Int)) true) : ∀ i : Nat, i ≤ n → ∃ r, Ev (fun k => F k (i : Int)) r ∧ (r = true ↔ ∀ j, i ≤ j → j < n → p j = true) := by
  intro i hi
  obtain ⟨d, hd⟩ : ∃ d, n - i = d := ⟨_, rfl⟩
  induction d generalizing i with
  | zero =>
    obtain rfl : i = n := by omega
    exact ⟨true, h2, by simp; intro j h h'; omega⟩
  | succ d ih =>
    have hlt : i < n := by omega
    cases hp : p i with
    | true =>
      obtain ⟨r, hr, hq⟩ := ih (i + 1) (by omega) (by omega)
      refine ⟨r, h1 i hlt hp r hr, hq.trans ⟨fun h j hj hn => ?_, fun h j hj hn => h j (by omega) hn⟩⟩
      by_cases e : j = i
      · rw [e]; exact hp
      · exact h j (by omega) hn
    | false => exact ⟨false, h0 i hlt hp, by simp; exact ⟨i, Nat.le_refl _, hlt, hp⟩⟩

/-- A loop that goes down and keeps the last number that is so: the least one. -/
def least (p : Nat → Bool) (n : Nat) : Option Nat := (List.range n).find? p
def seen (p : Nat → Bool) (n i : Nat) : Int := match ((List.range n).drop i).find? p with
  | some k => (k : Int)
  | none => -1
theorem seen_top (p : Nat → Bool) (n : Nat) : seen p n n = -1 := by
  unfold seen
  rw [List.drop_of_length_le (by simp)]
  rfl
theorem seen_down (p : Nat → Bool) (n i : Nat) (h : i < n) : seen p n i = if p i then (i : Int) else seen p n (i + 1) := by
  unfold seen
  rw [List.drop_eq_getElem_cons (by simpa using h), List.getElem_range, List.find?_cons]
  cases p i <;> simp
theorem seen_zero (p : Nat → Bool) (n : Nat) : seen p n 0 = match least p n with
  | some k => (k : Int)
  | none => -1 := rfl
theorem least_some {p : Nat → Bool} {n k : Nat} (h : least p n = some k) : k < n ∧ p k = true ∧ ∀ j, j < k → p j = false := by
  unfold least at h
  rw [List.find?_range_eq_some] at h
  simp at h
  refine ⟨h.2.1, h.1, fun j hj => ?_⟩
  exact h.2.2 j hj
theorem least_none {p : Nat → Bool} {n : Nat} (h : least p n = none) : ∀ j, j < n → p j = false := by
  unfold least at h
  rw [List.find?_range_eq_none] at h
  simpa using h
theorem least_congr {p q : Nat → Bool} {n : Nat} (h : ∀ j, j < n → p j = q j) : least p n = least q n := by
  unfold least
  have : ∀ l : List Nat, (∀ x ∈ l, x < n) → l.find? p = l.find? q := by
    intro l
    induction l with
    | nil => intro _; rfl
    | cons a l ih =>
      intro hl
      rw [List.find?_cons, List.find?_cons, h a (hl a (by simp)), ih (fun x hx => hl x (by simp [hx]))]
  exact this _ (by simp)
theorem down_least (p : Nat → Bool) (n : Nat) {ρ : Type} (F : Nat → Int → Int → Option ρ) (r : ρ)
    (h1 : ∀ i : Nat, i < n → ∀ s, Ev (fun k => F k (if p i then (i : Int) else s) ((i : Int) - 1)) r → Ev (fun k => F k s (i : Int)) r)
    (h2 : Ev (fun k => F k (seen p n 0) (-1)) r) : Ev (fun k => F k (-1) ((n : Int) - 1)) r := by
  have key : ∀ i : Nat, i ≤ n → Ev (fun k => F k (seen p n i) ((i : Int) - 1)) r := by
    intro i
    induction i with
    | zero => intro _; exact h2
    | succ i ih =>
      intro hi
      have h := ih (by omega)
      rw [seen_down p n i (by omega)] at h
      have := h1 i (by omega) _ h
      rw [show (((i + 1 : Nat) : Int) - 1) = (i : Int) by omega]
      exact this
  have h := key n (Nat.le_refl _)
  rw [seen_top] at h
  exact h

/-! Lists without doubles. -/
theorem nodup_len {n : Nat} {l : List Nat} (hd : l.Nodup) (h : ∀ x ∈ l, x < n) : l.length ≤ n := by
  induction n generalizing l with
  | zero =>
    cases l with
    | nil => simp
    | cons a l => exact absurd (h a (by simp)) (by omega)
  | succ n ih =>
    have h1 := ih (l := l.erase n) (hd.erase n) (fun x hx => by
      have hm := (List.Nodup.mem_erase_iff hd).1 hx
      have := h x hm.2
      omega)
    have h2 : l.length ≤ (l.erase n).length + 1 := by
      rw [List.length_erase]
      split <;> omega
    omega
theorem nodup_full {n : Nat} {l : List Nat} (hd : l.Nodup) (h : ∀ x ∈ l, x < n) (hl : l.length = n) {x : Nat} (hx : x < n) : x ∈ l := by
  apply Classical.byContradiction
  intro hn
  have := nodup_len (n := n) (l := x :: l) (List.nodup_cons.2 ⟨hn, hd⟩) (fun y hy => by
    rcases List.mem_cons.1 hy with rfl | hy
    · exact hx
    · exact h y hy)
  simp at this
  omega

end Go.Proofs.Ytgilggacmklijaa.Own
