/- Plain lemmas on rounds and loops over lists: no program in sight. -/
import Derived.Test.YtiiakeakfllpjaaWWords
import Derived.Test.YtiiakeakfllpjaaWLast
import Derived.RowKit
namespace Go.Proofs.Ytiiakeakfllpjaa.Own
open Go.RowKit Go.Proofs.YtiiakeakfllpjaaW.PrintWords

theorem w64 {x : Int} (h : -9223372036854775808 ≤ x) (h' : x ≤ 9223372036854775807) : wrap64 x = x := by
  unfold wrap64
  omega

theorem w64_succ {i n : Nat} (h : i < n) (hn : n ≤ 9223372036854775807) : wrap64 ((i : Int) + 1) = ((i + 1 : Nat) : Int) := by
  rw [w64 (by omega) (by omega)]
  omega

theorem w64_nat (i : Nat) (h : i ≤ 9223372036854775806) : wrap64 ((i : Int) + 1) = ((i + 1 : Nat) : Int) := by
  rw [w64 (by omega) (by omega)]
  omega

theorem Ev.some {α : Type} (r : α) : Ev (fun _ => Option.some r) r := Ev.now r

theorem Ev.of_eq {α : Type} {g : Nat → Option α} {r : α} (h : ∀ k, g k = Option.some r) : Ev g r := ⟨0, fun k _ => h k⟩

theorem Ev.succ {α : Type} {g : Nat → Option α} {r : α} (h : ∀ k, g (k + 1) = Option.some r) : Ev g r :=
  ⟨1, fun n hn => by
    obtain ⟨m, rfl⟩ : ∃ m, n = m + 1 := ⟨n - 1, by omega⟩
    exact h m⟩

theorem Ev.bindc {α β : Type} {g : Option α} {f : Nat → α → Option β} {a : α} {r : β} (h : g = Option.some a) (k : Ev (fun n => f n a) r) : Ev (fun n => g.bind (f n)) r := by
  subst h
  exact k

theorem down_ev {ρ : Type} (F : Nat → Int → Option ρ) (n : Nat) (r : ρ) (h1 : ∀ i : Nat, i < n → Ev (fun k => F k ((i + 1 : Nat) : Int)) r → Ev (fun k => F k (i : Int)) r) (h2 : Ev (fun k => F k (n : Int)) r) :
    ∀ i : Nat, i ≤ n → Ev (fun k => F k (i : Int)) r := by
  intro i hi
  obtain ⟨d, hd⟩ : ∃ d, n - i = d := ⟨_, rfl⟩
  induction d generalizing i with
  | zero => obtain rfl : i = n := by omega
            exact h2
  | succ d ih => exact h1 i (by omega) (ih (i + 1) (by omega) (by omega))

theorem fill_ev {α β : Type} (xs : List α) (f : α → β) (F : Nat → List β → Int → Option (List β))
    (h1 : ∀ (i : Nat) (h : i < xs.length) (ys : List β), ys.length = xs.length → ∀ r, Ev (fun k => F k (ys.set i (f xs[i])) ((i + 1 : Nat) : Int)) r → Ev (fun k => F k ys (i : Int)) r)
    (h2 : ∀ ys : List β, Ev (fun k => F k ys (xs.length : Int)) ys) : ∀ ys : List β, ys.length = xs.length → Ev (fun k => F k ys 0) (xs.map f) := by
  have key : ∀ (d i : Nat) (ys : List β), ys.length = xs.length → i + d = xs.length → (∀ j (hj : j < i) (hx : j < xs.length), ys[j]? = Option.some (f xs[j])) → Ev (fun k => F k ys (i : Int)) (xs.map f) := by
    intro d
    induction d with
    | zero =>
      intro i ys hy hi hj
      obtain rfl : i = xs.length := by omega
      have : xs.map f = ys := by
        apply List.ext_getElem?
        intro j
        by_cases hjj : j < xs.length
        · rw [hj j hjj hjj, List.getElem?_map, List.getElem?_eq_getElem hjj]; rfl
        · rw [List.getElem?_eq_none (by simpa using hjj), List.getElem?_eq_none (by omega)]
      rw [this]
      exact h2 ys
    | succ d ih =>
      intro i ys hy hi hj
      refine h1 i (by omega) ys hy _ (ih (i + 1) _ (by simpa using hy) (by omega) fun j hj1 hx => ?_)
      by_cases e : j = i
      · subst e
        rw [List.getElem?_set_self (by omega)]
      · rw [List.getElem?_set_ne (by omega)]
        exact hj j (by omega) hx
  intro ys hy
  exact key xs.length 0 ys hy (by omega) (fun j hj => by omega)

theorem getD_lt {α : Type} (xs : List α) (d : α) {i : Nat} (h : i < xs.length) : xs.getD i d = xs[i] := by
  rw [List.getD_eq_getElem?_getD, List.getElem?_eq_getElem h]; rfl

theorem rdOf_lt {α : Type} (xs : List α) (d : α) {i : Nat} (h : i < xs.length) : rdOf d xs (i : Int) = xs[i] := by
  unfold rdOf; rw [Int.toNat_natCast]; exact getD_lt xs d h

theorem rd_lt (xs : List Int) {i : Nat} (h : i < xs.length) : rd xs (i : Int) = xs[i] := by
  unfold rd; rw [Int.toNat_natCast]; exact getD_lt xs 0 h

def least (p : Nat → Bool) (n : Nat) : Option Nat := (List.range n).find? p
def seen (p : Nat → Bool) (n i : Nat) : Int := match ((List.range n).drop i).find? p with
  | some k => (k : Int)
  | none => -1
end Go.Proofs.Ytiiakeakfllpjaa.Own
