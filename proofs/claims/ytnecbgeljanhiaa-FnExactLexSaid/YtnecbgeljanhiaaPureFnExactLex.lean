/- The law FnExactLex holds of the program's own functions, told over lists and numbers: for every argument it returns true. Conditions: none beyond the given row's own. -/
import Derived.Test.YtnecbgeljanhiaaSaysFnExactLex
import Derived.Test.YtnecbgeljanhiaaKit
namespace Go.Proofs.Ytnecbgeljanhiaa.fnExactLex
open Go.RowKit Go.Proofs.Ytnecbgeljanhiaa.PFnExactLex Go.Proofs.YtnecbgeljanhiaaW.PrintWords Go.Proofs.YtnecbgeljanhiaaW.PrintLast Go.Proofs.Ytnecbgeljanhiaa.Own
set_option linter.unusedVariables false
set_option linter.unusedSimpArgs false
-- chunk floats: what a float reads as; a float is the same as itself
theorem fl_word {f : Ieee.Format} {neg : Bool} {rung : Nat} (h : rung ≤ f.infRung) : (f.read (f.word neg rung)).isNaN = false := by
 have hlt := f.infRung_lt
 have hm : f.word neg rung % f.signWeight = rung := by
  unfold Ieee.Format.word
  split
  ·rw [Nat.add_mod_left, Nat.mod_eq_of_lt (by omega)]
  ·rw [Nat.mod_eq_of_lt (by omega)]
 unfold Ieee.Format.read
 simp only [hm]
 split
 ·rfl
 ·split
  ·rfl
  ·split
   ·rfl
   ·omega
theorem fl_near (n : Int) : (FloatKind.f64.format.read (floatOfInt .f64 n)).isNaN = false := by
 unfold floatOfInt FloatKind.nearest FloatKind.encode Ieee.Format.write
 simp only []
 unfold Ieee.Format.nearest
 split
 ·exact fl_word (Nat.zero_le _)
 ·exact fl_word (Nat.min_le_right _ _)
theorem fl_quo {x c : Nat} (hx : (FloatKind.f64.format.read x).isNaN = false) {s : Bool} {m : Nat} {e : Int} (hc : FloatKind.f64.format.read c = .number s m e) (hm : m ≠ 0) : (floatBits .quo .f64 x c).isSome = true := by
 unfold floatBits
 simp only [Ieee.Format.div, hc]
 cases hd : FloatKind.f64.format.read x with
 | nan _ _ => rw [hd] at hx; cases hx
 | infinity s' => simp [Ieee.Datum.quotient]
 | number s' m' e' => simp [Ieee.Datum.quotient, hm]
theorem fl_inv {x : Nat} (hx : (FloatKind.f64.format.read x).isNaN = false) : (floatBits .quo .f64 4607182418800017408 x).isSome = true := by
 have h1 : FloatKind.f64.format.read 4607182418800017408 = .number false 4503599627370496 (-52) := by kernel_rfl
 unfold floatBits
 simp only [Ieee.Format.div, h1]
 cases hd : FloatKind.f64.format.read x with
 | nan _ _ => rw [hd] at hx; cases hx
 | infinity s' => simp [Ieee.Datum.quotient]
 | number s' m' e' =>
  simp only [Ieee.Datum.quotient]
  split <;> simp
theorem fl_order (x : Nat) : (FloatKind.f64.format.order x x == some Ordering.eq) = !(FloatKind.f64.format.read x).isNaN := by
 unfold Ieee.Format.order
 cases FloatKind.f64.format.read x with
 | nan _ _ => rfl
 | infinity s => cases s <;> rfl
 | number s m e => simp [Ieee.Datum.order, Ieee.Datum.isNaN]
theorem sameFloat_refl (x : Nat) : Ev (fun k => laws_sameFloat.f k x x) true := by
 have hbne : (FloatKind.f64.format.order x x != some Ordering.eq) = (FloatKind.f64.format.read x).isNaN := by
  rw [bne, fl_order, Bool.not_not]
 have key : ∀ b : Bool, b = (FloatKind.f64.format.read x).isNaN → Ev (fun k => laws_sameFloat.j0 k x x b) true := by
  intro b hb
  refine Ev.succ (fun k => ?_)
  simp only [laws_sameFloat.j0, hbne]
  cases hn : (FloatKind.f64.format.read x).isNaN with
  | true => rw [hn] at hb; subst hb; simp
  | false =>
   rw [hn] at hb; subst hb
   rw [if_neg (by simp)]
   split
   ·obtain ⟨r, hr⟩ := Option.isSome_iff_exists.1 (fl_inv hn)
    simp [hr]
   ·rw [fl_order, hn]; rfl
 refine Ev.congr (g := fun k => laws_sameFloat.f k x x) (f := fun k => laws_sameFloat.j0 k x x (FloatKind.f64.format.read x).isNaN) (fun k => ?_) (key _ rfl)
 unfold laws_sameFloat.f
 rw [hbne]
 cases (FloatKind.f64.format.read x).isNaN <;> simp

-- chunk spans: runs of bytes of a kind; numbers by their digits
def spanEnd (p : Int → Bool) (s : ByteArray) (i : Nat) : Nat :=
 if i < s.size then (if p (bt s i) then spanEnd p s (i + 1) else i) else i
termination_by s.size - i
theorem spanEnd_ge (p : Int → Bool) (s : ByteArray) (i : Nat) : i ≤ spanEnd p s i := by
 fun_induction spanEnd p s i <;> omega
theorem spanEnd_le (p : Int → Bool) (s : ByteArray) (i : Nat) (h : i ≤ s.size) : spanEnd p s i ≤ s.size := by
 fun_induction spanEnd p s i <;> omega
theorem spanEnd_in (p : Int → Bool) (s : ByteArray) (i : Nat) : ∀ j, i ≤ j → j < spanEnd p s i → p (bt s j) = true := by
 fun_induction spanEnd p s i with
 | case1 i h hp ih =>
  intro j h1 h2
  by_cases e : j = i
  ·subst e; exact hp
  ·exact ih j (by omega) h2
 | case2 i h hp => intro j h1 h2; omega
 | case3 i h => intro j h1 h2; omega
theorem spanEnd_at (p : Int → Bool) (s : ByteArray) (i : Nat) (h : spanEnd p s i < s.size) : p (bt s (spanEnd p s i)) = false := by
 fun_induction spanEnd p s i with
 | case1 i h hp ih => exact ih ‹_›
 | case2 i h hp => simpa using hp
 | case3 i h => omega
theorem spanEnd_eq (p : Int → Bool) (s : ByteArray) (i e : Nat) (h0 : i ≤ e) (h1 : e ≤ s.size) (h2 : ∀ j, i ≤ j → j < e → p (bt s j) = true) (h3 : e < s.size → p (bt s e) = false) : spanEnd p s i = e := by
 have a1 := spanEnd_ge p s i
 have a2 := spanEnd_in p s i
 have a3 := spanEnd_at p s i
 have a4 := spanEnd_le p s i (by omega)
 rcases Nat.lt_trichotomy (spanEnd p s i) e with h | h | h
 ·have b1 := a3 (by omega)
  rw [h2 _ a1 h] at b1
  cases b1
 ·exact h
 ·have b1 := a2 e h0 h
  rw [h3 (by omega)] at b1
  cases b1
theorem span_ev (p : Int → Bool) (s : ByteArray) (F : Nat → Int → Option Int)
  (h1 : ∀ k (i : Nat), i < s.size → p (bt s i) = true → F (k + 1) i = F k ((i + 1 : Nat) : Int))
  (h0 : ∀ k (i : Nat), i < s.size → p (bt s i) = false → F (k + 1) i = some (i : Int))
  (h2 : ∀ k, F (k + 1) (s.size : Int) = some (s.size : Int)) (i : Nat) (hi : i ≤ s.size) : Ev (fun k => F k i) (spanEnd p s i : Int) := by
 fun_induction spanEnd p s i with
 | case1 i h hp ih => exact Ev.step (fun k => h1 k i h hp) (ih (by omega))
 | case2 i h hp => exact Ev.succ (fun k => h0 k i h (by simpa using hp))
 | case3 i h =>
  obtain rfl : i = s.size := by omega
  exact Ev.succ (fun k => h2 k)
theorem bt_ext {s : ByteArray} {a b i : Nat} (hb : b ≤ s.size) (h : a + i < b) : bt (s.extract a b) (i : Int) = bt s ((a + i : Nat) : Int) := by
 have h1 : (s.extract a b).size = b - a := by rw [ByteArray.size_extract]; omega
 unfold bt
 rw [dif_pos (by rw [Int.toNat_natCast, h1]; omega), dif_pos (by rw [Int.toNat_natCast]; omega)]
 simp only [Int.toNat_natCast]
 rw [ByteArray.getElem_extract]
theorem spanEnd_ext (p : Int → Bool) (s : ByteArray) (a b i : Nat) (hb : b ≤ s.size) (h : a + i ≤ b) (he : b = s.size ∨ spanEnd p s (a + i) ≤ b) : spanEnd p (s.extract a b) i = min (spanEnd p s (a + i)) b - a := by
 have h1 : (s.extract a b).size = b - a := by rw [ByteArray.size_extract]; omega
 have a1 := spanEnd_ge p s (a + i)
 have a4 := spanEnd_le p s (a + i) (by omega)
 refine spanEnd_eq p _ i _ (by omega) (by omega) (fun j h2 h3 => ?_) (fun h2 => ?_)
 ·rw [bt_ext hb (by omega)]
  exact spanEnd_in p s (a + i) _ (by omega) (by omega)
 ·rw [h1] at h2
  have h4 : min (spanEnd p s (a + i)) b = spanEnd p s (a + i) := by omega
  rw [h4] at h2 ⊢
  rw [bt_ext hb (by omega), show a + (spanEnd p s (a + i) - a) = spanEnd p s (a + i) by omega]
  exact spanEnd_at p s (a + i) (by omega)
def dig (c : Int) : Bool := decide (48 ≤ c ∧ c ≤ 57)
def letr (c : Int) : Bool := decide (97 ≤ c ∧ c ≤ 122 ∨ 65 ≤ c ∧ c ≤ 90)
def numF (g : Nat → Nat) : Nat → Nat → Nat → Nat
 | 0, _, acc => acc
 | c + 1, i, acc => numF g c (i + 1) (10 * acc + g i)
theorem numF_lt (g : Nat → Nat) (c : Nat) : ∀ i acc, (∀ j, i ≤ j → j < i + c → g j ≤ 9) → numF g c i acc < (acc + 1) * 10 ^ c := by
 induction c with
 | zero => intro i acc _; simp [numF]
 | succ c ih =>
  intro i acc h
  have h1 := ih (i + 1) (10 * acc + g i) (fun j h1 h2 => h j (by omega) (by omega))
  have h2 := h i (by omega) (by omega)
  simp only [numF]
  refine Nat.lt_of_lt_of_le h1 ?_
  rw [Nat.pow_succ, Nat.mul_comm (10 ^ c) 10, ← Nat.mul_assoc]
  exact Nat.mul_le_mul_right _ (by omega)
theorem numF_add (g : Nat → Nat) (c d : Nat) : ∀ i acc, numF g (c + d) i acc = numF g d (i + c) (numF g c i acc) := by
 induction c with
 | zero => intro i acc; simp [numF]
 | succ c ih =>
  intro i acc
  rw [show c + 1 + d = (c + d) + 1 by omega]
  simp only [numF]
  rw [ih, show i + 1 + c = i + (c + 1) by omega]
theorem numF_lin (g : Nat → Nat) (c : Nat) : ∀ i acc, numF g c i acc = acc * 10 ^ c + numF g c i 0 := by
 induction c with
 | zero => intro i acc; simp [numF]
 | succ c ih =>
  intro i acc
  simp only [numF]
  rw [ih (i + 1) (10 * acc + g i), ih (i + 1) (10 * 0 + g i), Nat.pow_succ, Nat.add_mul, Nat.add_mul, ← Nat.add_assoc, Nat.mul_comm (10 ^ c) 10, ← Nat.mul_assoc, Nat.mul_comm acc 10]
  omega
theorem numF_congr (g g' : Nat → Nat) (c : Nat) : ∀ i i' acc, (∀ j, j < c → g (i + j) = g' (i' + j)) → numF g c i acc = numF g' c i' acc := by
 induction c with
 | zero => intro i i' acc _; rfl
 | succ c ih =>
  intro i i' acc h
  have h0 := h 0 (by omega)
  simp only [Nat.add_zero] at h0
  simp only [numF]
  rw [h0]
  exact ih _ _ _ (fun j hj => by rw [show i + 1 + j = i + (j + 1) by omega, show i' + 1 + j = i' + (j + 1) by omega]; exact h (j + 1) (by omega))
def digAt (s : ByteArray) (i : Nat) : Nat := (bt s (i : Int) - 48).toNat
theorem digAt_le {s : ByteArray} {i : Nat} (h : dig (bt s (i : Int)) = true) : digAt s i ≤ 9 ∧ ((digAt s i : Nat) : Int) = (bt s (i : Int) - 48) % 256 := by
 have h := of_decide_eq_true h
 unfold digAt
 omega
/-- A number of at most 15 digits. -/
theorem num_ev (s : ByteArray) (F : Nat → Int → Int → Option Int) (hs : s.size ≤ 15) (hd : ∀ j, j < s.size → dig (bt s (j : Int)) = true)
  (h1 : ∀ k (x : Int) (i : Nat), i < s.size → 0 ≤ x → x < 100000000000000 → F (k + 1) x (i : Int) = F k (10 * x + (bt s (i : Int) - 48) % 256) ((i + 1 : Nat) : Int))
  (h2 : ∀ k x, F (k + 1) x (s.size : Int) = some x) : Ev (fun k => F k 0 0) (numF (digAt s) s.size 0 0 : Nat) := by
 have key : ∀ (c i acc : Nat), i + c = s.size → acc < 10 ^ i → Ev (fun k => F k (acc : Int) (i : Int)) (numF (digAt s) c i acc : Nat) := by
  intro c
  induction c with
  | zero =>
   intro i acc h _
   obtain rfl : i = s.size := by omega
   exact Ev.succ (fun k => h2 k _)
  | succ c ih =>
   intro i acc h ha
   have hp : 10 ^ i ≤ 10 ^ 14 := Nat.pow_le_pow_right (by omega) (by omega)
   have hg := digAt_le (hd i (by omega))
   have h3 := ih (i + 1) (10 * acc + digAt s i) (by omega) (by rw [Nat.pow_succ]; omega)
   refine Ev.step (fun k => h1 k _ i (by omega) (by omega) (by omega)) ?_
   have e : 10 * (acc : Int) + (bt s (i : Int) - 48) % 256 = ((10 * acc + digAt s i : Nat) : Int) := by rw [← hg.2]; omega
   rw [e]
   exact h3
 exact key s.size 0 0 (by omega) (by simp)
theorem dig_f {c : Int} (f : Int → Option Bool) (hf : ∀ a0, f a0 = if a0 ≥ 48 then (some (decide (a0 ≤ 57))) else (some false)) : f c = some (dig c) := by
 rw [hf]
 unfold dig
 split
 ·congr 1; rw [decide_eq_decide]; omega
 ·rw [decide_eq_false (by omega)]
theorem impl_isDigit_eq (c : Int) : impl_isDigit.f c = some (dig c) := dig_f _ (fun _ => rfl)
theorem spec_l7Digit_eq (c : Int) : spec_l7Digit.f c = some (dig c) := dig_f _ (fun _ => rfl)
theorem impl_runDigit_ev {s : ByteArray} (hs : s.size ≤ maxLen) {i : Nat} (hi : i ≤ s.size) : Ev (fun k => impl_run__impl_isDigit.f k s (i : Int)) (spanEnd dig s i : Int) := by
 unfold maxLen at hs
 refine span_ev dig s (fun k i => impl_run__impl_isDigit.l0 k s i) (fun k i h hp => ?_) (fun k i h hp => ?_) (fun k => ?_) i hi
 ·simp only [impl_run__impl_isDigit.l0]
  rw [if_pos (by omega), if_pos (by omega), impl_isDigit_eq, hp, w64_succ h (by omega)]
  rfl
 ·simp only [impl_run__impl_isDigit.l0]
  rw [if_pos (by omega), if_pos (by omega), impl_isDigit_eq, hp]
  rfl
 ·simp only [impl_run__impl_isDigit.l0]
  rw [if_neg (by omega)]
theorem spec_l7Run_ev {s : ByteArray} (hs : s.size ≤ maxLen) {i : Nat} (hi : i ≤ s.size) : Ev (fun k => spec_l7Run.f k s (i : Int)) (spanEnd dig s i : Int) := by
 unfold maxLen at hs
 refine span_ev dig s (fun k i => spec_l7Run.l0 k s i) (fun k i h hp => ?_) (fun k i h hp => ?_) (fun k => ?_) i hi
 ·simp only [spec_l7Run.l0]
  rw [if_pos (by omega), if_pos (by omega), spec_l7Digit_eq, hp, w64_succ h (by omega)]
  rfl
 ·simp only [spec_l7Run.l0]
  rw [if_pos (by omega), if_pos (by omega), spec_l7Digit_eq, hp]
  rfl
 ·simp only [spec_l7Run.l0]
  rw [if_neg (by omega)]
theorem impl_number_ev {s : ByteArray} (hs : s.size ≤ 15) (hd : ∀ j, j < s.size → dig (bt s (j : Int)) = true) : Ev (fun k => impl_number.f k s) (numF (digAt s) s.size 0 0 : Nat) := by
 refine num_ev s (fun k x i => impl_number.l0 k s x i) hs hd (fun k x i h h0 h1 => ?_) (fun k x => ?_)
 ·simp only [impl_number.l0]
  have hb := bt_range s (i : Int)
  rw [if_pos (by omega), if_pos (by omega), w64_succ h (by omega), w64 (x := 10 * x) (by omega) (by omega), w64 (by omega) (by omega)]
 ·simp only [impl_number.l0]
  rw [if_neg (by omega)]
theorem spec_l7Number_ev {s : ByteArray} (hs : s.size ≤ 15) (hd : ∀ j, j < s.size → dig (bt s (j : Int)) = true) : Ev (fun k => spec_l7Number.f k s) (numF (digAt s) s.size 0 0 : Nat) := by
 refine num_ev s (fun k x i => spec_l7Number.l0 k s x i) hs hd (fun k x i h h0 h1 => ?_) (fun k x => ?_)
 ·simp only [spec_l7Number.l0]
  have hb := bt_range s (i : Int)
  rw [if_pos (by omega), if_pos (by omega), w64_succ h (by omega), w64 (x := x * 10) (by omega) (by omega), w64 (by omega) (by omega), Int.mul_comm x 10]
 ·simp only [spec_l7Number.l0]
  rw [if_neg (by omega)]
theorem within_f {a b c : Int} (f : Int → Int → Int → Option Bool) (hf : ∀ a0 a1 a2, f a0 a1 a2 = if a0 ≥ a1 then (some (decide (a0 ≤ a2))) else (some false)) : f a b c = some (decide (b ≤ a ∧ a ≤ c)) := by
 rw [hf]
 split
 ·congr 1; rw [decide_eq_decide]; omega
 ·rw [decide_eq_false (by omega)]
theorem impl_within_eq (a b c : Int) : impl_within.f a b c = some (decide (b ≤ a ∧ a ≤ c)) := within_f _ (fun _ _ _ => rfl)
theorem spec_l1In_eq (a b c : Int) : spec_l1In.f a b c = some (decide (b ≤ a ∧ a ≤ c)) := within_f _ (fun _ _ _ => rfl)
def plainOk (s : ByteArray) (most : Nat) : Bool := decide (1 ≤ s.size ∧ s.size ≤ most) && decide (spanEnd dig s 0 = s.size) && (decide (s.size = 1) || bt s 0 != 48)
theorem impl_plain_ev {s : ByteArray} (hs : s.size ≤ maxLen) (most : Nat) : Ev (fun k => impl_plain.f k s (most : Int)) (plainOk s most) := by
 unfold impl_plain.f
 refine Ev.bindc (impl_within_eq _ _ _) ?_
 by_cases h1 : 1 ≤ s.size ∧ s.size ≤ most
 ·rw [decide_eq_true (by omega)]
  refine Ev.congr (fun k => if_pos rfl) (Ev.bind (impl_runDigit_ev hs (i := 0) (by omega)) ?_)
  by_cases h2 : spanEnd dig s 0 = s.size
  ·refine Ev.congr (fun k => if_pos (by omega)) ?_
   by_cases h3 : s.size = 1
   ·refine Ev.congr (fun k => if_pos (by omega)) ?_
    have e : plainOk s most = true := by
     have h4 : 1 ≤ s.size ∧ s.size ≤ most := h1
     unfold plainOk
     rw [decide_eq_true h4, decide_eq_true h2, decide_eq_true h3]; rfl
    rw [e]; exact Ev.now _
   ·refine Ev.congr (fun k => if_neg (by omega)) (Ev.congr (fun k => if_pos (by omega)) ?_)
    have e : plainOk s most = (bt s 0 != 48) := by simp [plainOk, h1, h2, h3]
    rw [e]; exact Ev.now _
  ·refine Ev.congr (fun k => if_neg (by omega)) ?_
   have e : plainOk s most = false := by simp [plainOk, h2]
   rw [e]; exact Ev.now _
 ·rw [decide_eq_false (by omega)]
  refine Ev.congr (fun k => if_neg (by simp)) ?_
  have e : plainOk s most = false := by unfold plainOk; rw [decide_eq_false h1]; rfl
  rw [e]; exact Ev.now _

-- chunk realof: RealOf
def realOk (s : ByteArray) : Bool :=
 let a := spanEnd dig s 0
 decide (1 ≤ a ∧ a ≤ 9) && (decide (a = 1) || bt s 0 != 48) && decide (a < s.size) && (bt s (a : Int) == 46) && decide (spanEnd dig s (a + 1) = s.size) && decide (1 ≤ s.size - (a + 1) ∧ s.size - (a + 1) ≤ 6)
def realNum (s : ByteArray) : Nat :=
 let a := spanEnd dig s 0
 let c := s.size - (a + 1)
 numF (digAt s) a 0 0 * 10 ^ c + numF (digAt s) c (a + 1) 0
def realVal (s : ByteArray) : Nat := (floatBits .quo .f64 (floatOfInt .f64 (realNum s : Int)) (floatOfInt .f64 ((10 ^ (s.size - (spanEnd dig s 0 + 1)) : Nat) : Int))).getD 0
def realOf (s : ByteArray) : Nat × Bool := if realOk s then (realVal s, true) else (0, false)
theorem fl_ten (c : Nat) (h1 : 1 ≤ c) (h2 : c ≤ 6) (x : Int) : (floatBits .quo .f64 (floatOfInt .f64 x) (floatOfInt .f64 ((10 ^ c : Nat) : Int))).isSome = true := by
 rcases (by omega : c = 1 ∨ c = 2 ∨ c = 3 ∨ c = 4 ∨ c = 5 ∨ c = 6) with rfl | rfl | rfl | rfl | rfl | rfl
 ·exact fl_quo (fl_near x) (s := false) (m := 5629499534213120) (e := -49) (by kernel_rfl) (by decide)
 ·exact fl_quo (fl_near x) (s := false) (m := 7036874417766400) (e := -46) (by kernel_rfl) (by decide)
 ·exact fl_quo (fl_near x) (s := false) (m := 8796093022208000) (e := -43) (by kernel_rfl) (by decide)
 ·exact fl_quo (fl_near x) (s := false) (m := 5497558138880000) (e := -39) (by kernel_rfl) (by decide)
 ·exact fl_quo (fl_near x) (s := false) (m := 6871947673600000) (e := -36) (by kernel_rfl) (by decide)
 ·exact fl_quo (fl_near x) (s := false) (m := 8589934592000000) (e := -33) (by kernel_rfl) (by decide)
theorem fl_step (c : Nat) (h2 : c < 6) : floatBits .mul .f64 4621819117588971520 (floatOfInt .f64 ((10 ^ c : Nat) : Int)) = some (floatOfInt .f64 ((10 ^ (c + 1) : Nat) : Int)) := by
 rcases (by omega : c = 0 ∨ c = 1 ∨ c = 2 ∨ c = 3 ∨ c = 4 ∨ c = 5) with rfl | rfl | rfl | rfl | rfl | rfl <;> kernel_rfl
theorem fl_one : (4607182418800017408 : Nat) = floatOfInt .f64 ((10 ^ 0 : Nat) : Int) := by kernel_rfl
theorem spec_RealOf_ev {s : ByteArray} (hs : s.size ≤ maxLen) : Ev (fun k => spec_RealOf.f k s) (realOf s) := by
 have hs' := hs
 unfold maxLen at hs'
 have a1 := spanEnd_le dig s 0 (by omega)
 obtain ⟨a, ha⟩ : ∃ a, a = spanEnd dig s 0 := ⟨_, rfl⟩
 have no : ∀ c : Bool, c = true → realOk s = false → Ev (fun k => spec_RealOf.j0 k s (a : Int) c) (realOf s) := by
  rintro c rfl h
  refine Ev.succ (fun k => ?_)
  simp only [spec_RealOf.j0, if_true]
  rw [realOf, h]; rfl
 have yes : 1 ≤ a → a ≤ 9 → (a = 1 ∨ bt s 0 ≠ 48) → ∀ c : Bool, a < s.size → c = (bt s (a : Int) != 46) → Ev (fun k => spec_RealOf.j0 k s (a : Int) c) (realOf s) := by
  intro h1 h2 h0 c h3 hc
  cases c with
  | true =>
   refine no _ rfl ?_
   have : bt s (a : Int) ≠ 46 := by simpa using hc.symm
   unfold realOk
   simp [← ha, this]
  | false =>
   have h4 : bt s (a : Int) = 46 := by simpa using hc.symm
   have b1 := spanEnd_ge dig s (a + 1)
   have b2 := spanEnd_le dig s (a + 1) (by omega)
   have b3 := spanEnd_in dig s (a + 1)
   have hrun := spec_l7Run_ev hs (i := a + 1) (by omega)
   obtain ⟨b, hb⟩ : ∃ b, b = spanEnd dig s (a + 1) := ⟨_, rfl⟩
   rw [← hb] at b1 b2 b3 hrun
   have w1 : wrap64 ((a : Int) + 1) = ((a + 1 : Nat) : Int) := by rw [w64 (by omega) (by omega)]; omega
   have w2 : wrap64 (wrap64 ((b : Int) - (a : Int)) - 1) = ((b - (a + 1) : Nat) : Int) := by rw [w64 (x := (b : Int) - a) (by omega) (by omega), w64 (by omega) (by omega)]; omega
   have j1t : realOk s = false → Ev (fun k => spec_RealOf.j1 k s (a : Int) ((b - (a + 1) : Nat) : Int) true) (realOf s) := by
    intro h
    refine Ev.succ (fun k => ?_)
    simp only [spec_RealOf.j1, if_true]
    rw [realOf, h]; rfl
   refine Ev.step (f := fun k => (spec_l7Run.f k s ((a + 1 : Nat) : Int)).bind fun t104 => (if t104 = (s.size : Int) then ((spec_l1In.f (wrap64 ((wrap64 (t104 - (a : Int))) - 1)) 1 6).bind fun t105 => (spec_RealOf.j1 k s (a : Int) (wrap64 ((wrap64 (t104 - (a : Int))) - 1)) (!t105))) else (spec_RealOf.j1 k s (a : Int) (wrap64 ((wrap64 (t104 - (a : Int))) - 1)) true))) (fun k => ?_) ?_
   ·simp only [spec_RealOf.j0]
    rw [if_neg (by simp), w1]
   refine Ev.bind hrun ?_
   rw [w2]
   by_cases hbs : b = s.size
   ·refine Ev.congr (fun k => if_pos (by omega)) (Ev.bindc (spec_l1In_eq _ _ _) ?_)
    by_cases hk : 1 ≤ b - (a + 1) ∧ b - (a + 1) ≤ 6
    ·rw [decide_eq_true (by omega)]
     have hok : realOk s = true := by
      have q0 : (decide (a = 1) || bt s 0 != 48) = true := by rcases h0 with h | h <;> simp [h]
      have q1 : 1 ≤ s.size - (a + 1) ∧ s.size - (a + 1) ≤ 6 := by omega
      unfold realOk
      simp only [← ha, ← hb]
      rw [decide_eq_true (show 1 ≤ a ∧ a ≤ 9 from ⟨h1, h2⟩), q0, decide_eq_true h3, decide_eq_true hbs, decide_eq_true q1, h4]
      rfl
     subst hbs
     obtain ⟨c, hc⟩ : ∃ c, c = s.size - (a + 1) := ⟨_, rfl⟩
     rw [← hc] at hk ⊢
     refine Ev.step (f := fun k => spec_RealOf.l0 k s (a : Int) (c : Int) 1 0) (fun k => ?_) ?_
     ·simp only [spec_RealOf.j1]
      rw [if_neg (by simp)]
     have loop : ∀ d i : Nat, i + d = c → Ev (fun k => spec_RealOf.l0 k s (a : Int) (c : Int) ((10 ^ i : Nat) : Int) (i : Int)) (realOf s) := by
      intro d
      induction d with
      | zero =>
       intro i hi
       obtain rfl : i = c := by omega
       have e1 : (s.extract 0 a).size = a := by rw [ByteArray.size_extract]; omega
       have e2 : (s.extract (a + 1) s.size).size = i := by rw [ByteArray.size_extract]; omega
       have n1 := spec_l7Number_ev (s := s.extract 0 a) (by omega) (fun j hj => by rw [e1] at hj; rw [bt_ext (by omega) (by omega), Nat.zero_add]; exact spanEnd_in dig s 0 j (by omega) (by omega))
       have n2 := spec_l7Number_ev (s := s.extract (a + 1) s.size) (by omega) (fun j hj => by rw [e2] at hj; rw [bt_ext (by omega) (by omega)]; exact b3 _ (by omega) (by omega))
       rw [e1, numF_congr _ (digAt s) a 0 0 0 (fun j hj => by unfold digAt; rw [Nat.zero_add, bt_ext (by omega) (by omega), Nat.zero_add])] at n1
       rw [e2, numF_congr _ (digAt s) i 0 (a + 1) 0 (fun j hj => by unfold digAt; rw [Nat.zero_add, bt_ext (by omega) (by omega)])] at n2
       have m1 := numF_lt (digAt s) a 0 0 (fun j _ hj => (digAt_le (spanEnd_in dig s 0 j (by omega) (by omega))).1)
       have m2 := numF_lt (digAt s) i (a + 1) 0 (fun j hj1 hj => (digAt_le (b3 j (by omega) (by omega))).1)
       have p1 : 10 ^ a ≤ 10 ^ 9 := Nat.pow_le_pow_right (by omega) (by omega)
       have p2 : 10 ^ i ≤ 10 ^ 6 := Nat.pow_le_pow_right (by omega) (by omega)
       have p3 : numF (digAt s) a 0 0 * 10 ^ i ≤ 10 ^ 9 * 10 ^ 6 := Nat.mul_le_mul (by omega) p2
       refine Ev.step (f := fun k => (spec_l7Number.f k (s.extract 0 a)).bind fun t106 => ((spec_l7Number.f k (s.extract (a + 1) s.size)).bind fun t107 => (if (floatBits .quo .f64 (floatOfInt .f64 (wrap64 ((wrap64 (t106 * ((10 ^ i : Nat) : Int))) + t107))) (floatOfInt .f64 ((10 ^ i : Nat) : Int))).isSome = true then (some ((floatBits .quo .f64 (floatOfInt .f64 (wrap64 ((wrap64 (t106 * ((10 ^ i : Nat) : Int))) + t107))) (floatOfInt .f64 ((10 ^ i : Nat) : Int))).getD 0, true)) else (none)))) (fun k => ?_) ?_
       ·simp only [spec_RealOf.l0]
        rw [if_neg (by omega), if_pos (by omega), if_pos (by omega)]
        simp only [w1, Int.toNat_natCast]
        refine congrArg (Option.bind _) (funext fun t => ?_)
        rw [if_pos (by omega), if_pos (by omega)]
       refine Ev.bind n1 (Ev.bind n2 ?_)
       have wv : wrap64 (wrap64 (((numF (digAt s) a 0 0 : Nat) : Int) * ((10 ^ i : Nat) : Int)) + ((numF (digAt s) i (a + 1) 0 : Nat) : Int)) = ((realNum s : Nat) : Int) := by
        rw [← Int.natCast_mul, w64 (x := ((numF (digAt s) a 0 0 * 10 ^ i : Nat) : Int)) (by omega) (by omega), w64 (by omega) (by omega)]
        unfold realNum
        simp only [← ha, ← hc]
        omega
       rw [wv]
       refine Ev.congr (fun k => if_pos (fl_ten i hk.1 hk.2 _)) ?_
       have e : realOf s = ((floatBits .quo .f64 (floatOfInt .f64 ((realNum s : Nat) : Int)) (floatOfInt .f64 ((10 ^ i : Nat) : Int))).getD 0, true) := by
        unfold realOf realVal
        rw [if_pos hok, ← ha, ← hc]
       rw [e]
       exact Ev.now _
      | succ d ih =>
       intro i hi
       have p2 : 10 ^ i ≤ 10 ^ 5 := Nat.pow_le_pow_right (by omega) (by omega)
       have h5 := ih (i + 1) (by omega)
       rw [Nat.pow_succ] at h5
       obtain ⟨P, hP⟩ : ∃ P, P = 10 ^ i := ⟨_, rfl⟩
       rw [← hP] at p2 h5 ⊢
       refine Ev.step (fun k => ?_) h5
       simp only [spec_RealOf.l0]
       rw [if_pos (by omega), w64_succ (n := c) (by omega) (by omega), w64 (by omega) (by omega)]
       rfl
     exact loop c 0 (by omega)
    ·rw [decide_eq_false (by omega)]
     refine j1t ?_
     unfold realOk
     simp only [← ha]
     subst hbs
     rw [decide_eq_false (p := 1 ≤ s.size - (a + 1) ∧ s.size - (a + 1) ≤ 6) hk, Bool.and_false]
   ·refine Ev.congr (fun k => if_neg (by omega)) (j1t ?_)
    unfold realOk
    simp only [← ha, ← hb]
    rw [decide_eq_false hbs, Bool.and_false, Bool.false_and]
 unfold spec_RealOf.f
 have hrun := spec_l7Run_ev hs (i := 0) (by omega)
 rw [← ha] at hrun a1
 refine Ev.bind hrun (Ev.bindc (spec_l1In_eq _ _ _) ?_)
 have tail : 1 ≤ a → a ≤ 9 → (a = 1 ∨ bt s 0 ≠ 48) → Ev (fun k => if (a : Int) ≥ (s.size : Int) then (spec_RealOf.j0 k s (a : Int) true) else (if 0 ≤ (a : Int) then (if (a : Int) < (s.size : Int) then (spec_RealOf.j0 k s (a : Int) ((bt s (a : Int)) != 46)) else (none)) else (none))) (realOf s) := by
  intro h1 h2 h0
  by_cases h3 : a < s.size
  ·exact Ev.congr (fun k => by rw [if_neg (by omega), if_pos (by omega), if_pos (by omega)]) (yes h1 h2 h0 _ h3 rfl)
  ·refine Ev.congr (fun k => if_pos (by omega)) (no _ rfl ?_)
   unfold realOk
   simp only [← ha]
   rw [decide_eq_false h3]
   simp
 by_cases h1 : 1 ≤ a ∧ a ≤ 9
 ·rw [decide_eq_true (by omega)]
  refine Ev.congr (fun k => if_pos rfl) ?_
  by_cases h2 : a = 1
  ·exact Ev.congr (fun k => if_neg (by omega)) (tail h1.1 h1.2 (.inl h2))
  ·refine Ev.congr (fun k => by rw [if_pos (by omega), if_pos (by omega)]) ?_
   by_cases h5 : bt s 0 = 48
   ·refine Ev.congr (fun k => if_pos h5) (no _ rfl ?_)
    unfold realOk
    simp only [← ha]
    simp [h2, h5]
   ·exact Ev.congr (fun k => if_neg h5) (tail h1.1 h1.2 (.inr h5))
 ·rw [decide_eq_false (by omega)]
  refine Ev.congr (fun k => if_neg (by simp)) (no _ rfl ?_)
  unfold realOk
  simp only [← ha]
  rw [decide_eq_false h1]
  simp
theorem impl_RealOf_ev {s : ByteArray} (hs : s.size ≤ maxLen) : Ev (fun k => impl_RealOf.f k s) (realOf s) := by
 have hs' := hs
 unfold maxLen at hs'
 have a1 := spanEnd_le dig s 0 (by omega)
 obtain ⟨a, ha⟩ : ∃ a, a = spanEnd dig s 0 := ⟨_, rfl⟩
 have no : ∀ c : Bool, c = true → realOk s = false → Ev (fun k => impl_RealOf.j0 k s (a : Int) c) (realOf s) := by
  rintro c rfl h
  refine Ev.succ (fun k => ?_)
  simp only [impl_RealOf.j0, if_true]
  rw [realOf, h]; rfl
 unfold impl_RealOf.f
 have hrun := impl_runDigit_ev hs (i := 0) (by omega)
 rw [← ha] at hrun a1
 refine Ev.bind hrun ?_
 by_cases h3 : a < s.size
 ·refine Ev.congr (fun k => by rw [if_neg (by omega), if_pos (by omega), if_pos (by omega)]) ?_
  by_cases h4 : bt s (a : Int) = 46
  ·have hc : (bt s (a : Int) != 46) = false := by simp [h4]
   rw [hc]
   have e1 : (s.extract 0 a).size = a := by rw [ByteArray.size_extract]; omega
   obtain ⟨c, hcc⟩ : ∃ c, c = s.size - (a + 1) := ⟨_, rfl⟩
   have e2 : (s.extract (a + 1) s.size).size = c := by rw [ByteArray.size_extract]; omega
   have w1 : wrap64 ((a : Int) + 1) = ((a + 1 : Nat) : Int) := by rw [w64 (by omega) (by omega)]; omega
   have b1 := spanEnd_ge dig s (a + 1)
   have b2 := spanEnd_le dig s (a + 1) (by omega)
   have b3 := spanEnd_in dig s (a + 1)
   obtain ⟨b, hb⟩ : ∃ b, b = spanEnd dig s (a + 1) := ⟨_, rfl⟩
   rw [← hb] at b1 b2 b3
   obtain ⟨W, hW⟩ : ∃ W, W = s.extract 0 a := ⟨_, rfl⟩
   obtain ⟨Q, hQ⟩ : ∃ Q, Q = s.extract (a + 1) s.size := ⟨_, rfl⟩
   have j1t : realOk s = false → Ev (fun k => impl_RealOf.j1 k W Q true) (realOf s) := by
    intro h
    refine Ev.succ (fun k => ?_)
    simp only [impl_RealOf.j1, if_true]
    rw [realOf, h]; rfl
   have sW : spanEnd dig W 0 = a := by
    rw [hW]
    refine spanEnd_eq dig _ 0 a (by omega) (by omega) (fun j _ hj => ?_) (fun h => by omega)
    rw [bt_ext (by omega) (by omega), Nat.zero_add]
    exact spanEnd_in dig s 0 j (by omega) (by omega)
   have sQ : spanEnd dig Q 0 = b - (a + 1) := by
    rw [hQ, spanEnd_ext dig s (a + 1) s.size 0 (by omega) (by omega) (.inl rfl), Nat.add_zero, ← hb]
    omega
   have bW : 1 ≤ a → bt W 0 = bt s 0 := by
    intro h
    have := bt_ext (s := s) (a := 0) (b := a) (i := 0) (by omega) (by omega)
    rw [hW]
    simpa using this
   refine Ev.step (f := fun k => (impl_plain.f k W 9).bind fun t112 => (if t112 = true then ((impl_within.f (Q.size : Int) 1 6).bind fun t113 => (if t113 = true then ((impl_run__impl_isDigit.f k Q 0).bind fun t114 => (impl_RealOf.j1 k W Q (t114 != (Q.size : Int)))) else (impl_RealOf.j1 k W Q true))) else (impl_RealOf.j1 k W Q true))) (fun k => ?_) ?_
   ·simp only [impl_RealOf.j0, w1, Int.toNat_natCast, ← hW, ← hQ]
    rw [if_neg (by simp), if_pos (by omega), if_pos (by omega), if_pos (by omega), if_pos (by omega)]
   rw [← hW] at e1
   rw [← hQ] at e2
   refine Ev.bind (impl_plain_ev (s := W) (by unfold maxLen; omega) 9) ?_
   by_cases h1 : plainOk W 9 = true
   ·rw [h1]
    refine Ev.congr (fun k => if_pos rfl) (Ev.bindc (impl_within_eq _ _ _) ?_)
    unfold plainOk at h1
    simp only [Bool.and_eq_true, Bool.or_eq_true, decide_eq_true_eq, e1] at h1
    obtain ⟨⟨⟨g1, g2⟩, _⟩, g3⟩ := h1
    have q0 : (decide (a = 1) || bt s 0 != 48) = true := by
     rw [← bW g1]
     rcases g3 with h | h
     ·simp [h]
     ·rw [h]; simp
    by_cases hk : 1 ≤ c ∧ c ≤ 6
    ·rw [decide_eq_true (by omega)]
     refine Ev.congr (fun k => if_pos rfl) (Ev.bind (impl_runDigit_ev (s := Q) (by unfold maxLen; omega) (i := 0) (by omega)) ?_)
     rw [sQ, e2]
     by_cases hbs : b = s.size
     ·have hok : realOk s = true := by
       unfold realOk
       simp only [← ha, ← hb, ← hcc]
       rw [decide_eq_true (show 1 ≤ a ∧ a ≤ 9 from ⟨g1, g2⟩), q0, decide_eq_true h3, decide_eq_true hbs, decide_eq_true hk, h4]
       rfl
      have e3 : (((b - (a + 1) : Nat) : Int) != (c : Int)) = false := by rw [bne_eq_false_iff_eq]; omega
      rw [e3]
      refine Ev.step (f := fun k => impl_RealOf.l0 k W Q (floatOfInt .f64 ((10 ^ 0 : Nat) : Int)) (c : Int) 0) (fun k => ?_) ?_
      ·simp only [impl_RealOf.j1]
       rw [if_neg (by simp), e2, ← fl_one]
      have loop : ∀ d i : Nat, i + d = c → Ev (fun k => impl_RealOf.l0 k W Q (floatOfInt .f64 ((10 ^ i : Nat) : Int)) (c : Int) (i : Int)) (realOf s) := by
       intro d
       induction d with
       | zero =>
        intro i hi
        obtain rfl : i = c := by omega
        have e4 : (W ++ Q).size = a + i := by rw [ByteArray.size_append, e1, e2]
        have bcat : ∀ j, j < a + i → bt (W ++ Q) (j : Int) = bt s ((if j < a then j else j + 1 : Nat) : Int) := by
         intro j hj
         unfold bt
         rw [dif_pos (by rw [Int.toNat_natCast, e4]; exact hj), dif_pos (by rw [Int.toNat_natCast]; split <;> omega)]
         simp only [Int.toNat_natCast]
         by_cases hja : j < a
         ·rw [ByteArray.getElem_append_left (by rw [e1]; exact hja)]
          simp only [hW, ByteArray.getElem_extract, if_pos hja, Nat.zero_add]
         ·rw [ByteArray.getElem_append_right (by rw [e1]; omega)]
          simp only [hQ, ByteArray.getElem_extract, if_neg hja, e1]
          have : a + 1 + (j - a) = j + 1 := by omega
          simp only [this]
        have n1 := impl_number_ev (s := W ++ Q) (by omega) (fun j hj => by
         rw [e4] at hj
         rw [bcat j hj]
         split
         ·exact spanEnd_in dig s 0 j (by omega) (by omega)
         ·exact b3 _ (by omega) (by omega))
        have ev : numF (digAt (W ++ Q)) (W ++ Q).size 0 0 = realNum s := by
         rw [e4, numF_add, numF_lin, Nat.zero_add, numF_congr _ (digAt s) a 0 0 0 (fun j hj => by unfold digAt; rw [Nat.zero_add, bcat j (by omega), if_pos hj]), numF_congr _ (digAt s) i a (a + 1) 0 (fun j hj => by unfold digAt; rw [bcat _ (by omega), if_neg (by omega)]; congr 3; omega)]
         unfold realNum
         simp only [← ha, ← hcc]
        rw [ev] at n1
        refine Ev.step (f := fun k => (impl_number.f k (W ++ Q)).bind fun t115 => (if (floatBits .quo .f64 (floatOfInt .f64 t115) (floatOfInt .f64 ((10 ^ i : Nat) : Int))).isSome = true then (some ((floatBits .quo .f64 (floatOfInt .f64 t115) (floatOfInt .f64 ((10 ^ i : Nat) : Int))).getD 0, true)) else (none))) (fun k => ?_) ?_
        ·simp only [impl_RealOf.l0]
         rw [if_neg (by omega), if_pos (by omega)]
        refine Ev.bind n1 ?_
        refine Ev.congr (fun k => if_pos (fl_ten i hk.1 hk.2 _)) ?_
        have e : realOf s = ((floatBits .quo .f64 (floatOfInt .f64 ((realNum s : Nat) : Int)) (floatOfInt .f64 ((10 ^ i : Nat) : Int))).getD 0, true) := by
         unfold realOf realVal
         rw [if_pos hok, ← ha, ← hcc]
        rw [e]
        exact Ev.now _
       | succ d ih =>
        intro i hi
        have h5 := ih (i + 1) (by omega)
        have h6 := fl_step i (by omega)
        refine Ev.step (fun k => ?_) h5
        simp only [impl_RealOf.l0, h6]
        rw [if_pos (by omega), if_pos (show (some _).isSome = true from rfl), w64_succ (n := c) (by omega) (by omega)]
        rfl
      exact loop c 0 (by omega)
     ·have e3 : (((b - (a + 1) : Nat) : Int) != (c : Int)) = true := by rw [bne_iff_ne]; omega
      rw [e3]
      refine j1t ?_
      unfold realOk
      simp only [← ha, ← hb]
      rw [decide_eq_false hbs, Bool.and_false, Bool.false_and]
    ·rw [decide_eq_false (by omega)]
     refine Ev.congr (fun k => if_neg (by simp)) (j1t ?_)
     unfold realOk
     simp only [← ha, ← hcc]
     rw [decide_eq_false hk, Bool.and_false]
   ·have h1' : plainOk W 9 = false := by simpa using h1
    rw [h1']
    refine Ev.congr (fun k => if_neg (by simp)) (j1t ?_)
    have q : (decide (1 ≤ a ∧ a ≤ 9) && (decide (a = 1) || bt s 0 != 48)) = false := by
     unfold plainOk at h1'
     rw [e1, sW, decide_eq_true (rfl : a = a), Bool.and_true] at h1'
     by_cases g : 1 ≤ a
     ·rw [bW g] at h1'; exact h1'
     ·rw [decide_eq_false (by omega)]; rfl
    unfold realOk
    simp only [← ha]
    rw [q]
    simp
  ·have hc : (bt s (a : Int) != 46) = true := by simp [h4]
   rw [hc]
   refine no _ rfl ?_
   unfold realOk
   simp only [← ha]
   simp [h4]
 ·refine Ev.congr (fun k => if_pos (by omega)) (no _ rfl ?_)
  unfold realOk
  simp only [← ha]
  rw [decide_eq_false h3]
  simp

-- chunk words: bytes as lists, words of the language, marks
theorem str_inj {a b : ByteArray} (h : a.toList = b.toList) : a = b := by
 rw [ByteArray.toList_eq, ByteArray.toList_eq] at h
 exact ByteArray.ext (Array.toList_inj.1 h)
theorem ext_data (s : ByteArray) (a b : Nat) : (s.extract a b).toList = (s.data.toList.drop a).take (b - a) := by
 rw [ByteArray.toList_eq, ByteArray.data_extract, Array.toList_extract]
theorem get_data (s : ByteArray) {i : Nat} (h : i < s.size) : s.data.toList[i]'(by rw [data_length]; exact h) = s[i] := rfl
theorem ext1 {s : ByteArray} {i : Nat} (h : i < s.size) : (s.extract i (i + 1)).toList = [s[i]] := by
 rw [ext_data, List.drop_eq_getElem_cons (by rw [data_length]; exact h), Nat.add_sub_cancel_left]
 simp only [List.take_succ_cons, List.take_zero]
 rfl
theorem ext2 {s : ByteArray} {i : Nat} (h : i + 1 < s.size) : (s.extract i (i + 2)).toList = [s[i], s[i + 1]] := by
 rw [ext_data, List.drop_eq_getElem_cons (by rw [data_length]; omega), List.drop_eq_getElem_cons (by rw [data_length]; omega), Nat.add_sub_cancel_left]
 simp only [List.take_succ_cons, List.take_zero]
 rfl
theorem bt_nat {s : ByteArray} {i : Nat} (h : i < s.size) : bt s (i : Int) = (s[i].toNat : Int) := by
 unfold bt
 rw [dif_pos (by rw [Int.toNat_natCast]; exact h)]
 simp only [Int.toNat_natCast]
theorem bt_eq {s : ByteArray} {i : Nat} (h : i < s.size) (c : UInt8) : bt s (i : Int) = (c.toNat : Int) ↔ s[i] = c := by
 rw [bt_nat h]
 constructor
 ·intro e; exact UInt8.toNat_inj.1 (by omega)
 ·intro e; rw [e]
def chain {ρ : Type} {α : Type} [DecidableEq α] : List α → α → ρ → ρ → ρ
 | [], _, _, b => b
 | c :: cs, x, a, b => if x = c then a else chain cs x a b
theorem chain_eq {ρ α : Type} [DecidableEq α] (cs : List α) (x : α) (a b : ρ) : chain cs x a b = if x ∈ cs then a else b := by
 induction cs with
 | nil => simp [chain]
 | cons c cs ih =>
  unfold chain
  by_cases h : x = c
  ·rw [if_pos h, if_pos (by simp [h])]
  ·rw [if_neg h, ih]
   by_cases h2 : x ∈ cs
   ·rw [if_pos h2, if_pos (by simp [h2])]
   ·rw [if_neg h2, if_neg (by simp [h, h2])]
theorem letr_f {c : Int} (f : Int → Option Bool) (hf : ∀ a0, f a0 = if a0 ≥ 97 then (if a0 ≤ 122 then (some true) else (if a0 ≥ 65 then (some (decide (a0 ≤ 90))) else (some false))) else (if a0 ≥ 65 then (some (decide (a0 ≤ 90))) else (some false))) : f c = some (letr c) := by
 rw [hf]
 unfold letr
 split
 ·split
  ·rw [decide_eq_true (by omega)]
  ·split
   ·rw [decide_eq_false (by omega), decide_eq_false (by omega)]
   ·omega
 ·split
  ·congr 1; rw [decide_eq_decide]; omega
  ·rw [decide_eq_false (by omega)]
theorem impl_isLetter_eq (c : Int) : impl_isLetter.f c = some (letr c) := letr_f _ (fun _ => rfl)
theorem spec_l3Letter_eq (c : Int) : spec_l3Letter.f c = some (letr c) := letr_f _ (fun _ => rfl)
def wordsB : List ByteArray := (spec_l3Words.f).getD []
def wordsL : List (List UInt8) := [[115, 121, 115, 116, 101, 109], [102, 110], [108, 101, 116], [105, 102], [101, 108, 115, 101], [108, 111, 111, 112], [101, 97, 99, 104], [119, 105, 116, 104], [119, 105, 116, 104, 111, 117, 116], [101, 109, 105, 116], [104, 101, 97, 114], [97, 115], [115, 112, 97, 119, 110], [107, 105, 108, 108], [112, 117, 116], [100, 114, 111, 112], [100, 111], [114, 101, 116, 117, 114, 110], [112, 105, 99, 107], [111, 102], [121, 101, 115], [110, 111], [97, 110, 100], [111, 114], [110, 111, 116], [105, 110, 116], [114, 101, 97, 108], [112, 97, 105, 114], [98, 111, 111, 108], [114, 101], [105, 109], [115, 105, 122, 101]]
theorem wordsB_L : wordsB.map ByteArray.toList = wordsL := by
 have h : wordsB.map (fun b => b.data.toList) = wordsL := by kernel_rfl
 rw [← h]
 exact List.map_congr_left (fun b _ => ByteArray.toList_eq b)
def isWd (s : ByteArray) : Bool := decide (s.toList ∈ wordsL)
theorem impl_IsWord_eq (s : ByteArray) : impl_IsWord.f s = some (isWd s) := by
 have h : impl_IsWord.f s = chain wordsL s.toList (some true) (some false) := rfl
 rw [h, chain_eq]
 unfold isWd
 split
 ·rw [decide_eq_true ‹_›]
 ·rw [decide_eq_false ‹_›]
theorem any_ev {α : Type} (xs : List α) (p : α → Bool) (F : Nat → Int → Option Bool)
  (h1 : ∀ k (i : Nat) (h : i < xs.length), p xs[i] = true → F (k + 1) (i : Int) = some true)
  (h0 : ∀ k (i : Nat) (h : i < xs.length), p xs[i] = false → F (k + 1) (i : Int) = F k ((i + 1 : Nat) : Int))
  (h2 : ∀ k, F (k + 1) (xs.length : Int) = some false) : Ev (fun k => F k 0) (xs.any p) := by
 have key : ∀ (d i : Nat), i + d = xs.length → Ev (fun k => F k (i : Int)) ((xs.drop i).any p) := by
  intro d
  induction d with
  | zero =>
   intro i hi
   obtain rfl : i = xs.length := by omega
   rw [List.drop_length]
   exact Ev.succ (fun k => h2 k)
  | succ d ih =>
   intro i hi
   have h : i < xs.length := by omega
   rw [List.drop_eq_getElem_cons h, List.any_cons]
   cases hp : p xs[i] with
   | true => exact Ev.succ (fun k => h1 k i h hp)
   | false => exact Ev.step (fun k => h0 k i h hp) (ih (i + 1) (by omega))
 exact key xs.length 0 (by omega)
theorem rdStr_lt (xs : List ByteArray) {i : Nat} (h : i < xs.length) : rdOf ByteArray.empty xs (i : Int) = xs[i] := rdOf_lt xs _ h
theorem spec_IsWord_ev (s : ByteArray) : Ev (fun k => spec_IsWord.f k s) (isWd s) := by
 have hw : spec_l3Words.f = some wordsB := rfl
 have hl : wordsB.length = 32 := by kernel_rfl
 unfold spec_IsWord.f
 refine Ev.bindc hw ?_
 have h := any_ev wordsB (fun w => decide (w.toList = s.toList)) (fun k i => spec_IsWord.l0 k s wordsB i) (fun k i h hp => ?_) (fun k i h hp => ?_) (fun k => ?_)
 ·have e : wordsB.any (fun w => decide (w.toList = s.toList)) = isWd s := by
   unfold isWd
   rw [← wordsB_L, Bool.eq_iff_iff, List.any_eq_true, decide_eq_true_eq, List.mem_map]
   simp only [decide_eq_true_eq]
  rw [e] at h
  exact h
 ·simp only [spec_IsWord.l0]
  rw [if_pos (by omega), if_pos (by omega), rdStr_lt _ h, if_pos (of_decide_eq_true hp)]
 ·simp only [spec_IsWord.l0]
  rw [if_pos (by omega), if_pos (by omega), rdStr_lt _ h, if_neg (of_decide_eq_false hp), w64_succ h (by omega)]
 ·simp only [spec_IsWord.l0]
  rw [if_neg (by omega)]

-- chunk lex: tokens
abbrev TK := S148
def singles : List Int := [123, 125, 40, 41, 59, 44, 46, 36, 61, 43, 45, 42, 47, 37, 60]
abbrev TR := Int × Int × ByteArray × Int × Nat
def noTok : TR := (0, 0, (⟨#[]⟩ : ByteArray), 0, 0)
/-- The token at a byte that is passed over by none: its cells, the code, its end. -/
def tokR (s : ByteArray) (i : Nat) : TR × Int × Nat :=
 let c := bt s (i : Int)
 if letr c then
  let e := spanEnd letr s i
  let t := s.extract i e
  if isWd t then ((2, (i : Int), t, 0, 0), 0, e) else if 12 < e - i then (noTok, 4, 0) else ((1, (i : Int), t, 0, 0), 0, e)
 else if dig c then
  let a := spanEnd dig s i
  if a + 1 < s.size ∧ bt s (a : Int) = 46 ∧ dig (bt s ((a + 1 : Nat) : Int)) = true then
   let e := spanEnd dig s (a + 1)
   let t := s.extract i e
   if (e < s.size ∧ letr (bt s (e : Int)) = true) ∨ (realOf t).2 = false then (noTok, 3, 0) else ((4, (i : Int), t, 0, (realOf t).1), 0, e)
  else
   let t := s.extract i a
   if (a < s.size ∧ letr (bt s (a : Int)) = true) ∨ plainOk t 15 = false then (noTok, 3, 0) else ((3, (i : Int), t, (numF (digAt t) t.size 0 0 : Nat), 0), 0, a)
 else if c = 61 ∧ i + 1 < s.size ∧ bt s ((i + 1 : Nat) : Int) = 61 then ((5, (i : Int), (⟨#[61, 61]⟩ : ByteArray), 0, 0), 0, i + 2)
 else if c ∈ singles then ((5, (i : Int), s.extract i (i + 1), 0, 0), 0, i + 1)
 else (noTok, 2, 0)
def flatI (x : TR × Int × Nat) : Int × Int × ByteArray × Int × Nat × Int := (x.1.1, x.1.2.1, x.1.2.2.1, x.1.2.2.2.1, x.1.2.2.2.2, x.2.1)
def flatS (x : TR × Int × Nat) : Int × Int × ByteArray × Int × Nat × Int × Int := (x.1.1, x.1.2.1, x.1.2.2.1, x.1.2.2.2.1, x.1.2.2.2.2, x.2.1, (x.2.2 : Int))
theorem impl_runLetter_ev {s : ByteArray} (hs : s.size ≤ maxLen) {i : Nat} (hi : i ≤ s.size) : Ev (fun k => impl_run__impl_isLetter.f k s (i : Int)) (spanEnd letr s i : Int) := by
 unfold maxLen at hs
 refine span_ev letr s (fun k i => impl_run__impl_isLetter.l0 k s i) (fun k i h hp => ?_) (fun k i h hp => ?_) (fun k => ?_) i hi
 ·simp only [impl_run__impl_isLetter.l0]
  rw [if_pos (by omega), if_pos (by omega), impl_isLetter_eq, hp, w64_succ h (by omega)]
  rfl
 ·simp only [impl_run__impl_isLetter.l0]
  rw [if_pos (by omega), if_pos (by omega), impl_isLetter_eq, hp]
  rfl
 ·simp only [impl_run__impl_isLetter.l0]
  rw [if_neg (by omega)]
def noNl (c : Int) : Bool := c != 10
theorem impl_runLine_ev {s : ByteArray} (hs : s.size ≤ maxLen) {i : Nat} (hi : i ≤ s.size) : Ev (fun k => impl_run__impl_Lex_1.f k s (i : Int)) (spanEnd noNl s i : Int) := by
 unfold maxLen at hs
 have hf : ∀ c, impl_Lex_1.f c = some (noNl c) := fun c => rfl
 refine span_ev noNl s (fun k i => impl_run__impl_Lex_1.l0 k s i) (fun k i h hp => ?_) (fun k i h hp => ?_) (fun k => ?_) i hi
 ·simp only [impl_run__impl_Lex_1.l0]
  rw [if_pos (by omega), if_pos (by omega), hf, hp, w64_succ h (by omega)]
  rfl
 ·simp only [impl_run__impl_Lex_1.l0]
  rw [if_pos (by omega), if_pos (by omega), hf, hp]
  rfl
 ·simp only [impl_run__impl_Lex_1.l0]
  rw [if_neg (by omega)]
theorem plain_dig {t : ByteArray} {n : Nat} (h : plainOk t n = true) : t.size ≤ n ∧ ∀ j, j < t.size → dig (bt t (j : Int)) = true := by
 unfold plainOk at h
 simp only [Bool.and_eq_true, decide_eq_true_eq] at h
 obtain ⟨⟨⟨_, h1⟩, h2⟩, _⟩ := h
 exact ⟨h1, fun j hj => spanEnd_in dig t 0 j (by omega) (by omega)⟩
theorem impl_num_j2 {s t : ByteArray} (ht : t.size ≤ maxLen) (i : Nat) (real letter : Bool) :
  Ev (fun k => impl_lexNumber.j2 k real letter 3 (i : Int) t 0 0) (if letter = true then (0, 0, (⟨#[]⟩ : ByteArray), 0, 0, 3) else if real = true then (if (realOf t).2 = true then (4, (i : Int), t, 0, (realOf t).1, 0) else (0, 0, (⟨#[]⟩ : ByteArray), 0, 0, 3)) else if plainOk t 15 = true then (3, (i : Int), t, ((numF (digAt t) t.size 0 0 : Nat) : Int), 0, 0) else (0, 0, (⟨#[]⟩ : ByteArray), 0, 0, 3)) := by
 cases letter with
 | true => exact Ev.succ (fun k => by simp [impl_lexNumber.j2])
 | false =>
  cases real with
  | true =>
   refine Ev.step (f := fun k => (impl_RealOf.f k t).bind fun b => if b.2 = true then (some (4, (i : Int), t, 0, b.1, 0)) else (some (0, 0, (⟨#[]⟩ : ByteArray), 0, 0, 3))) (fun k => ?_) (Ev.bind (impl_RealOf_ev ht) ?_)
   ·simp only [impl_lexNumber.j2]
    rw [if_neg (by simp), if_pos trivial]
   ·rw [if_neg (show ¬ (false = true) by simp), if_pos (show true = true from rfl)]
    obtain ⟨q1, q2⟩ := realOf t
    cases q2 with
    | true => exact Ev.of_eq (fun k => rfl)
    | false => exact Ev.of_eq (fun k => rfl)
  | false =>
   refine Ev.step (f := fun k => (impl_plain.f k t 15).bind fun b => if b = true then ((impl_number.f k t).bind fun t169 => (some (3, (i : Int), t, t169, 0, 0))) else (some (0, 0, (⟨#[]⟩ : ByteArray), 0, 0, 3))) (fun k => ?_) (Ev.bind (impl_plain_ev ht 15) ?_)
   ·simp only [impl_lexNumber.j2]
    rw [if_neg (by simp), if_neg (by simp)]
   ·rw [if_neg (by simp), if_neg (by simp)]
    cases hp : plainOk t 15 with
    | true =>
     obtain ⟨h1, h2⟩ := plain_dig hp
     exact Ev.congr (fun k => if_pos rfl) (Ev.bind (impl_number_ev h1 h2) (Ev.now _))
    | false => exact Ev.congr (fun k => if_neg (by simp)) (Ev.now _)
/-- A number's token, by its end and whether it is a real's. -/
def numR (s : ByteArray) (i e : Nat) (real : Bool) : TR × Int × Nat :=
 let t := s.extract i e
 if real = true then (if (e < s.size ∧ letr (bt s (e : Int)) = true) ∨ (realOf t).2 = false then (noTok, 3, 0) else ((4, (i : Int), t, 0, (realOf t).1), 0, e))
 else (if (e < s.size ∧ letr (bt s (e : Int)) = true) ∨ plainOk t 15 = false then (noTok, 3, 0) else ((3, (i : Int), t, (numF (digAt t) t.size 0 0 : Nat), 0), 0, e))
theorem impl_num_j1 {s : ByteArray} (hs : s.size ≤ maxLen) {i e : Nat} (hi : i ≤ e) (he : e ≤ s.size) (real : Bool) :
  Ev (fun k => impl_lexNumber.j1 k s (i : Int) (e : Int) real) (flatI (numR s i e real)) := by
 have ht : (s.extract i e).size ≤ maxLen := by rw [ByteArray.size_extract]; omega
 have key : ∀ letter : Bool, (letter = true ↔ e < s.size ∧ letr (bt s (e : Int)) = true) → Ev (fun k => impl_lexNumber.j2 k real letter 3 (i : Int) (s.extract i e) 0 0) (flatI (numR s i e real)) := by
  intro letter hl
  have h := impl_num_j2 (s := s) ht i real letter
  have e1 : (if letter = true then (0, 0, (⟨#[]⟩ : ByteArray), 0, 0, 3) else if real = true then (if (realOf (s.extract i e)).2 = true then (4, (i : Int), s.extract i e, 0, (realOf (s.extract i e)).1, 0) else (0, 0, (⟨#[]⟩ : ByteArray), 0, 0, 3)) else if plainOk (s.extract i e) 15 = true then (3, (i : Int), s.extract i e, ((numF (digAt (s.extract i e)) (s.extract i e).size 0 0 : Nat) : Int), 0, 0) else (0, 0, (⟨#[]⟩ : ByteArray), 0, 0, 3)) = flatI (numR s i e real) := by
   unfold numR
   simp only [← hl]
   cases letter <;> cases real <;> cases plainOk (s.extract i e) 15 <;> cases (realOf (s.extract i e)).2 <;> simp [flatI, noTok]
  rw [e1] at h
  exact h
 by_cases h : e < s.size
 ·refine Ev.step (f := fun k => (impl_isLetter.f (bt s (e : Int))).bind fun t => impl_lexNumber.j2 k real t 3 (i : Int) (s.extract i e) 0 0) (fun k => ?_) (Ev.bindc (impl_isLetter_eq _) (key _ ⟨fun hl => ⟨h, hl⟩, fun hl => hl.2⟩))
  simp only [impl_lexNumber.j1, Int.toNat_natCast]
  rw [if_pos (by omega), if_pos (by omega), if_pos (by omega), if_pos (by omega), if_pos (by omega)]
 ·refine Ev.step (fun k => ?_) (key false ⟨fun hl => (Bool.false_ne_true hl).elim, fun hl => (h hl.1).elim⟩)
  simp only [impl_lexNumber.j1, Int.toNat_natCast]
  rw [if_pos (by omega), if_pos (by omega), if_pos (by omega), if_neg (by omega)]
def isReal (s : ByteArray) (a : Nat) : Bool := decide (a + 1 < s.size ∧ bt s (a : Int) = 46 ∧ dig (bt s ((a + 1 : Nat) : Int)) = true)
theorem tokR_num {s : ByteArray} {i : Nat} (h1 : letr (bt s (i : Int)) = false) (h2 : dig (bt s (i : Int)) = true) :
  tokR s i = numR s i (if isReal s (spanEnd dig s i) = true then spanEnd dig s (spanEnd dig s i + 1) else spanEnd dig s i) (isReal s (spanEnd dig s i)) := by
 unfold tokR
 simp only [h1, h2, if_true, Bool.false_eq_true, if_false]
 cases hr : isReal s (spanEnd dig s i) with
 | true =>
  have := of_decide_eq_true hr
  rw [if_pos this]
  unfold numR
  simp
 | false =>
  have := of_decide_eq_false hr
  rw [if_neg this]
  unfold numR
  simp
theorem impl_lexNumber_ev {s : ByteArray} (hb : s.size ≤ 1048576) {i : Nat} (hi : i < s.size) (h1 : letr (bt s (i : Int)) = false) (h2 : dig (bt s (i : Int)) = true) : Ev (fun k => impl_lexNumber.f k s (i : Int)) (flatI (tokR s i)) := by
 have hs : s.size ≤ maxLen := by unfold maxLen; omega
 rw [tokR_num h1 h2]
 have a1 := spanEnd_le dig s i (by omega)
 have a2 := spanEnd_ge dig s i
 unfold impl_lexNumber.f
 have hrun := impl_runDigit_ev hs (i := i) (by omega)
 obtain ⟨a, ha⟩ : ∃ a, a = spanEnd dig s i := ⟨_, rfl⟩
 rw [← ha] at a1 a2 hrun ⊢
 have w1 : wrap64 ((a : Int) + 1) = ((a + 1 : Nat) : Int) := by rw [w64 (by omega) (by omega)]; omega
 have j0f : isReal s a = false → Ev (fun k => impl_lexNumber.j0 k s (i : Int) (a : Int) false) (flatI (numR s i (if isReal s a = true then spanEnd dig s (a + 1) else a) (isReal s a))) := by
  intro hr
  rw [hr]
  refine Ev.step (fun k => ?_) (impl_num_j1 hs a2 a1 false)
  simp only [impl_lexNumber.j0]
  rw [if_neg (by simp)]
 refine Ev.bind hrun ?_
 simp only [w1]
 by_cases c1 : a + 1 < s.size
 ·by_cases c2 : bt s (a : Int) = 46
  ·refine Ev.congr (fun k => by rw [if_pos (by omega), if_pos (by omega), if_pos (by omega), if_pos c2, if_pos (by omega)]) (Ev.bindc (impl_isDigit_eq _) ?_)
   cases hd : dig (bt s ((a + 1 : Nat) : Int)) with
   | true =>
    have hr : isReal s a = true := decide_eq_true ⟨c1, c2, hd⟩
    rw [hr, if_pos rfl]
    have b1 := spanEnd_ge dig s (a + 1)
    have b2 := spanEnd_le dig s (a + 1) (by omega)
    refine Ev.step (f := fun k => (impl_run__impl_isDigit.f k s ((a + 1 : Nat) : Int)).bind fun t => impl_lexNumber.j1 k s (i : Int) t true) (fun k => ?_) (Ev.bind (impl_runDigit_ev hs (by omega)) (impl_num_j1 hs (by omega) b2 true))
    simp only [impl_lexNumber.j0, w1]
    rw [if_pos trivial]
   | false => exact j0f (decide_eq_false (fun h => by rw [hd] at h; exact Bool.false_ne_true h.2.2))
  ·exact Ev.congr (fun k => by rw [if_pos (by omega), if_pos (by omega), if_pos (by omega), if_neg c2]) (j0f (decide_eq_false (fun h => c2 h.2.1)))
 ·exact Ev.congr (fun k => if_neg (by omega)) (j0f (decide_eq_false (fun h => c1 h.1)))
theorem single_byte {s : ByteArray} {i : Nat} (h : i < s.size) (c : UInt8) : (s.extract i (i + 1)).toList = [c] ↔ bt s (i : Int) = (c.toNat : Int) := by
 rw [ext1 h, bt_eq h]
 simp
theorem impl_marks (s : ByteArray) (hs : s.size ≤ maxLen) (i : Nat) (hi : i < s.size) (k : Nat) : impl_lexToken.j0 (k + 1) s (i : Int) (bt s (i : Int)) = some (if bt s (i : Int) ∈ singles then (5, (i : Int), s.extract i (i + 1), 0, 0, 0) else (0, 0, (⟨#[]⟩ : ByteArray), 0, 0, 2)) := by
 unfold maxLen at hs
 have w1 : wrap64 ((i : Int) + 1) = ((i + 1 : Nat) : Int) := by rw [w64 (by omega) (by omega)]; omega
 have hit : (if 0 ≤ (i : Int) then (if (i : Int) ≤ (wrap64 ((i : Int) + 1)) then (if (wrap64 ((i : Int) + 1)) ≤ (s.size : Int) then (some (5, (i : Int), s.extract (i : Int).toNat ((wrap64 ((i : Int) + 1)) : Int).toNat, 0, 0, 0)) else (none)) else (none)) else (none) : Option (Int × Int × ByteArray × Int × Nat × Int)) = some (5, (i : Int), s.extract i (i + 1), 0, 0, 0) := by
  rw [w1, if_pos (by omega), if_pos (by omega), if_pos (by omega)]
  rfl
 have h : impl_lexToken.j0 (k + 1) s (i : Int) (bt s (i : Int)) = chain singles (bt s (i : Int)) (if 0 ≤ (i : Int) then (if (i : Int) ≤ (wrap64 ((i : Int) + 1)) then (if (wrap64 ((i : Int) + 1)) ≤ (s.size : Int) then (some (5, (i : Int), s.extract (i : Int).toNat ((wrap64 ((i : Int) + 1)) : Int).toNat, 0, 0, 0)) else (none)) else (none)) else (none) : Option (Int × Int × ByteArray × Int × Nat × Int)) (some (0, 0, (⟨#[]⟩ : ByteArray), 0, 0, 2)) := rfl
 rw [h, hit, chain_eq]
 split <;> rfl
theorem impl_lexToken_ev {s : ByteArray} (hb : s.size ≤ 1048576) {i : Nat} (hi : i < s.size) : Ev (fun k => impl_lexToken.f k s (i : Int)) (flatI (tokR s i)) := by
 have hs : s.size ≤ maxLen := by unfold maxLen; omega
 have w1 : wrap64 ((i : Int) + 1) = ((i + 1 : Nat) : Int) := by rw [w64 (by omega) (by omega)]; omega
 unfold impl_lexToken.f
 refine Ev.congr (fun k => by rw [if_pos (by omega), if_pos (by omega)]) (Ev.bindc (impl_isLetter_eq _) ?_)
 cases h1 : letr (bt s (i : Int)) with
 | true =>
  have a1 := spanEnd_le letr s i (by omega)
  have a2 := spanEnd_ge letr s i
  refine Ev.congr (fun k => if_pos rfl) (Ev.bind (impl_runLetter_ev hs (by omega)) ?_)
  simp only [Int.toNat_natCast]
  refine Ev.congr (fun k => by rw [if_pos (by omega), if_pos (by omega)]) (Ev.bindc (impl_IsWord_eq _) ?_)
  have hsz : (s.extract i (spanEnd letr s i)).size = spanEnd letr s i - i := by rw [ByteArray.size_extract]; omega
  have e : tokR s i = if isWd (s.extract i (spanEnd letr s i)) then ((2, (i : Int), s.extract i (spanEnd letr s i), 0, 0), 0, spanEnd letr s i) else if 12 < spanEnd letr s i - i then (noTok, 4, 0) else ((1, (i : Int), s.extract i (spanEnd letr s i), 0, 0), 0, spanEnd letr s i) := by
   unfold tokR
   simp only [h1, if_true]
  rw [e]
  cases hw : isWd (s.extract i (spanEnd letr s i)) with
  | true => exact Ev.congr (fun k => if_pos rfl) (Ev.now _)
  | false =>
   refine Ev.congr (fun k => if_neg (by simp)) ?_
   rw [if_neg (show ¬ (false = true) by simp), hsz]
   by_cases h12 : 12 < spanEnd letr s i - i
   ·rw [if_pos h12]
    exact Ev.congr (fun k => if_pos (by omega)) (Ev.now _)
   ·rw [if_neg h12]
    exact Ev.congr (fun k => if_neg (by omega)) (Ev.now _)
 | false =>
  refine Ev.congr (fun k => if_neg (by simp)) (Ev.bindc (impl_isDigit_eq _) ?_)
  cases h2 : dig (bt s (i : Int)) with
  | true => exact Ev.congr (fun k => if_pos rfl) (Ev.bind (impl_lexNumber_ev hb hi h1 h2) (Ev.now _))
  | false =>
   refine Ev.congr (fun k => if_neg (by simp)) ?_
   have e : tokR s i = if bt s (i : Int) = 61 ∧ i + 1 < s.size ∧ bt s ((i + 1 : Nat) : Int) = 61 then ((5, (i : Int), (⟨#[61, 61]⟩ : ByteArray), 0, 0), 0, i + 2) else if bt s (i : Int) ∈ singles then ((5, (i : Int), s.extract i (i + 1), 0, 0), 0, i + 1) else (noTok, 2, 0) := by
    unfold tokR
    simp only [h1, h2, Bool.false_eq_true, if_false]
   have rest : ¬ (bt s (i : Int) = 61 ∧ i + 1 < s.size ∧ bt s ((i + 1 : Nat) : Int) = 61) → Ev (fun k => impl_lexToken.j0 k s (i : Int) (bt s (i : Int))) (flatI (tokR s i)) := by
    intro hn
    refine Ev.succ (fun k => ?_)
    rw [impl_marks s hs i hi, e, if_neg hn]
    split <;> rfl
   simp only [w1]
   by_cases c1 : bt s (i : Int) = 61
   ·by_cases c2 : i + 1 < s.size
    ·by_cases c3 : bt s ((i + 1 : Nat) : Int) = 61
     ·rw [e, if_pos ⟨c1, c2, c3⟩]
      exact Ev.congr (fun k => by rw [if_pos c1, if_pos (by omega), if_pos (by omega), if_pos c3]; rfl) (Ev.now _)
     ·exact Ev.congr (fun k => by rw [if_pos c1, if_pos (by omega), if_pos (by omega), if_neg c3]) (rest (fun h => c3 h.2.2))
    ·exact Ev.congr (fun k => by rw [if_pos c1, if_neg (by omega)]) (rest (fun h => c2 h.2.1))
   ·exact Ev.congr (fun k => by rw [if_neg c1]) (rest (fun h => c1 h.1))
theorem mkHit_end {s : ByteArray} {i n : Nat} : (s.extract i (i + n)).toList = (s.data.toList.drop i).take n := by
 rw [ext_data, Nat.add_sub_cancel_left]
def mkHit (s : ByteArray) (i : Nat) (m : ByteArray) : Bool := decide (i + m.size ≤ s.size) && decide ((s.extract i (i + m.size)).toList = m.toList)
def marksB : List ByteArray := (spec_l7Marks.f).getD []
theorem spec_marks_ev {s : ByteArray} (hb : s.size ≤ 1048576) {i : Nat} (hi : i < s.size) (M : List ByteArray) (hM : M.length ≤ 1000) (hS : ∀ m ∈ M, m.size ≤ 1000) : Ev (fun k => spec_l7Token.l1 k s (i : Int) M 0) (match M.find? (mkHit s i) with
  | some m => (5, (i : Int), m, 0, 0, 0, ((i + m.size : Nat) : Int))
  | none => (0, 0, (⟨#[]⟩ : ByteArray), 0, 0, 2, 0)) := by
 have key : ∀ (d j : Nat), j + d = M.length → Ev (fun k => spec_l7Token.l1 k s (i : Int) M (j : Int)) (match (M.drop j).find? (mkHit s i) with
  | some m => (5, (i : Int), m, 0, 0, 0, ((i + m.size : Nat) : Int))
  | none => (0, 0, (⟨#[]⟩ : ByteArray), 0, 0, 2, 0)) := by
  intro d
  induction d with
  | zero =>
   intro j hj
   obtain rfl : j = M.length := by omega
   rw [List.drop_length]
   refine Ev.succ (fun k => ?_)
   simp only [spec_l7Token.l1]
   rw [if_neg (by omega)]
   rfl
  | succ d ih =>
   intro j hj
   have h : j < M.length := by omega
   have hsz := hS M[j] (List.getElem_mem h)
   have w : wrap64 ((i : Int) + (M[j].size : Int)) = ((i + M[j].size : Nat) : Int) := by rw [w64 (by omega) (by omega)]; omega
   rw [List.drop_eq_getElem_cons h]
   cases hp : mkHit s i M[j] with
   | true =>
    rw [List.find?_cons_of_pos hp]
    unfold mkHit at hp
    rw [Bool.and_eq_true, decide_eq_true_eq, decide_eq_true_eq] at hp
    refine Ev.succ (fun k => ?_)
    simp only [spec_l7Token.l1, rdStr_lt M h, w, Int.toNat_natCast]
    rw [if_pos (by omega), if_pos (by omega), if_pos (by omega), if_pos (by omega), if_pos (by omega), if_pos hp.2]
   | false =>
    rw [List.find?_cons_of_neg (by rw [hp]; simp)]
    refine Ev.step (fun k => ?_) (ih (j + 1) (by omega))
    simp only [spec_l7Token.l1, rdStr_lt M h, w, Int.toNat_natCast]
    unfold mkHit at hp
    rw [if_pos (by omega), if_pos (by omega), w64_succ h (by omega)]
    by_cases q : i + M[j].size ≤ s.size
    ·rw [decide_eq_true q, Bool.true_and, decide_eq_false_iff_not] at hp
     rw [if_pos (by omega), if_pos (by omega), if_pos (by omega), if_neg hp]
    ·rw [if_neg (by omega)]
 exact key M.length 0 (by omega)
def one (c : UInt8) : ByteArray := ⟨#[c]⟩
theorem one_list (c : UInt8) : (one c).toList = [c] := by rw [ByteArray.toList_eq]; rfl
theorem hit_one {s : ByteArray} {i : Nat} (hi : i < s.size) (c : UInt8) : mkHit s i (one c) = decide (s[i] = c) := by
 unfold mkHit
 have e : (one c).size = 1 := rfl
 rw [e, decide_eq_true (by omega), Bool.true_and, ext1 hi, one_list]
 rw [decide_eq_decide]
 simp
theorem find_ones {s : ByteArray} {i : Nat} (hi : i < s.size) (cs : List UInt8) (rest : List ByteArray) : (cs.map one ++ rest).find? (mkHit s i) = if s[i] ∈ cs then some (one s[i]) else rest.find? (mkHit s i) := by
 induction cs with
 | nil => simp
 | cons c cs ih =>
  rw [List.map_cons, List.cons_append]
  by_cases h : s[i] = c
  ·rw [List.find?_cons_of_pos (by rw [hit_one hi, decide_eq_true h]), if_pos (by simp [h]), h]
  ·rw [List.find?_cons_of_neg (by rw [hit_one hi, decide_eq_false h]; simp), ih]
   by_cases h2 : s[i] ∈ cs
   ·rw [if_pos h2, if_pos (by simp [h2])]
   ·rw [if_neg h2, if_neg (by simp [h, h2])]
def two : ByteArray := ⟨#[61, 61]⟩
theorem hit_two {s : ByteArray} {i : Nat} (hi : i < s.size) : mkHit s i two = decide (bt s (i : Int) = 61 ∧ i + 1 < s.size ∧ bt s ((i + 1 : Nat) : Int) = 61) := by
 unfold mkHit
 have e : two.size = 2 := rfl
 have e2 : two.toList = [61, 61] := by rw [ByteArray.toList_eq]; rfl
 rw [e, e2]
 by_cases h : i + 1 < s.size
 ·rw [decide_eq_true (p := i + 2 ≤ s.size) (by omega), Bool.true_and, ext2 h, decide_eq_decide]
  have q1 := bt_eq hi 61
  have q2 := bt_eq h 61
  have n : ((61 : UInt8).toNat : Int) = 61 := rfl
  rw [n] at q1 q2
  rw [q1, q2]
  simp [h]
 ·rw [decide_eq_false (p := i + 2 ≤ s.size) (by omega), Bool.false_and, decide_eq_false (fun hh => h hh.2.1)]
def cs1 : List UInt8 := [123, 125, 40, 41, 59, 44, 46, 36]
def cs2 : List UInt8 := [61, 43, 45, 42, 47, 37, 60]
theorem marks_parts : marksB = cs1.map one ++ (two :: (cs2.map one ++ [])) := rfl
theorem singles_mem {s : ByteArray} {i : Nat} (hi : i < s.size) : bt s (i : Int) ∈ singles ↔ s[i] ∈ cs1 ∨ s[i] ∈ cs2 := by
 have h : singles = (cs1 ++ cs2).map (fun c : UInt8 => (c.toNat : Int)) := rfl
 rw [h, ← List.mem_append, List.mem_map]
 constructor
 ·rintro ⟨c, hc, e⟩
  rw [← (bt_eq hi c).1 e.symm] at hc
  exact hc
 ·intro hc
  exact ⟨s[i], hc, ((bt_eq hi s[i]).2 rfl).symm⟩
theorem one_ext {s : ByteArray} {i : Nat} (hi : i < s.size) : one s[i] = s.extract i (i + 1) := str_inj (by rw [one_list, ext1 hi])
theorem marks_find {s : ByteArray} {i : Nat} (hi : i < s.size) : marksB.find? (mkHit s i) = if bt s (i : Int) = 61 ∧ i + 1 < s.size ∧ bt s ((i + 1 : Nat) : Int) = 61 then some two else if bt s (i : Int) ∈ singles then some (s.extract i (i + 1)) else none := by
 rw [marks_parts, find_ones hi, List.find?_cons, hit_two hi, find_ones hi]
 have q1 := bt_eq hi 61
 have n : ((61 : UInt8).toNat : Int) = 61 := rfl
 rw [n] at q1
 by_cases d : bt s (i : Int) = 61 ∧ i + 1 < s.size ∧ bt s ((i + 1 : Nat) : Int) = 61
 ·have e : s[i] = 61 := q1.1 d.1
  rw [if_pos d, decide_eq_true d, if_neg (by rw [e]; decide)]
 ·rw [if_neg d, decide_eq_false d]
  by_cases h1 : s[i] ∈ cs1
  ·rw [if_pos h1, if_pos ((singles_mem hi).2 (.inl h1)), one_ext hi]
  ·rw [if_neg h1]
   by_cases h2 : s[i] ∈ cs2
   ·rw [if_pos ((singles_mem hi).2 (.inr h2))]
    simp only [if_pos h2, one_ext hi]
   ·rw [if_neg (fun h => ((singles_mem hi).1 h).elim h1 h2)]
    simp only [if_neg h2, List.find?_nil]
theorem spec_num_j5 {s : ByteArray} (hb : s.size ≤ 1048576) {i e : Nat} (hi : i ≤ e) (he : e ≤ s.size) (bad : Bool) (kd : Int) (x : Nat) (hkd : kd = 3 ∨ kd = 4) (hd : bad = false → kd = 3 → (s.extract i e).size ≤ 15 ∧ ∀ j, j < (s.extract i e).size → dig (bt (s.extract i e) (j : Int)) = true) :
  Ev (fun k => spec_l7Token.j5 k s (i : Int) (e : Int) bad kd (i : Int) (⟨#[]⟩ : ByteArray) 0 x) (if bad = true then (0, 0, (⟨#[]⟩ : ByteArray), 0, 0, 3, 0) else (kd, (i : Int), s.extract i e, (if kd = 3 then ((numF (digAt (s.extract i e)) (s.extract i e).size 0 0 : Nat) : Int) else 0), x, 0, (e : Int))) := by
 cases bad with
 | true => exact Ev.succ (fun k => by simp [spec_l7Token.j5])
 | false =>
  rcases hkd with rfl | rfl
  ·obtain ⟨h1, h2⟩ := hd rfl rfl
   refine Ev.step (f := fun k => (spec_l7Number.f k (s.extract i e)).bind fun t131 => (some (3, (i : Int), s.extract i e, t131, x, 0, (e : Int)))) (fun k => ?_) (Ev.bind (spec_l7Number_ev h1 h2) (Ev.now _))
   simp only [spec_l7Token.j5, Int.toNat_natCast]
   rw [if_neg (by simp), if_pos (by omega), if_pos (by omega), if_pos (by omega), if_pos trivial]
  ·refine Ev.succ (fun k => ?_)
   simp only [spec_l7Token.j5, Int.toNat_natCast]
   rw [if_neg (by simp), if_pos (by omega), if_pos (by omega), if_pos (by omega), if_neg (by omega)]
   rfl
theorem spec_num_j4 {s : ByteArray} (hb : s.size ≤ 1048576) {i e : Nat} (hi : i ≤ e) (he : e ≤ s.size) (bad : Bool) (kd : Int) (x : Nat) (hkd : kd = 3 ∨ kd = 4) (hd : bad = false → kd = 3 → (s.extract i e).size ≤ 15 ∧ ∀ j, j < (s.extract i e).size → dig (bt (s.extract i e) (j : Int)) = true) :
  Ev (fun k => spec_l7Token.j4 k s (i : Int) (e : Int) bad kd (i : Int) (⟨#[]⟩ : ByteArray) 0 x) (if bad = true ∨ (e < s.size ∧ letr (bt s (e : Int)) = true) then (0, 0, (⟨#[]⟩ : ByteArray), 0, 0, 3, 0) else (kd, (i : Int), s.extract i e, (if kd = 3 then ((numF (digAt (s.extract i e)) (s.extract i e).size 0 0 : Nat) : Int) else 0), x, 0, (e : Int))) := by
 cases hb' : bad with
 | true =>
  refine Ev.step (fun k => ?_) (spec_num_j5 hb hi he true kd x hkd (fun h => by cases h))
  simp only [spec_l7Token.j4]
  rw [if_pos trivial]
 | false =>
  subst hb'
  by_cases h : e < s.size
  ·refine Ev.step (f := fun k => (spec_l3Letter.f (bt s (e : Int))).bind fun t => spec_l7Token.j5 k s (i : Int) (e : Int) t kd (i : Int) (⟨#[]⟩ : ByteArray) 0 x) (fun k => ?_) (Ev.bindc (spec_l3Letter_eq _) ?_)
   ·simp only [spec_l7Token.j4]
    rw [if_neg (by simp), if_pos (by omega), if_pos (by omega)]
   ·have h5 := spec_num_j5 hb hi he (letr (bt s (e : Int))) kd x hkd (fun _ => hd rfl)
    have h6 : ∀ A B : Int × Int × ByteArray × Int × Nat × Int × Int, (if letr (bt s (e : Int)) = true then A else B) = (if false = true ∨ (e < s.size ∧ letr (bt s (e : Int)) = true) then A else B) := by
     intro A B
     by_cases hq : letr (bt s (e : Int)) = true
     ·rw [if_pos hq, if_pos (.inr ⟨h, hq⟩)]
     ·rw [if_neg hq, if_neg (by simp [hq])]
    rw [h6] at h5
    exact h5
  ·refine Ev.step (fun k => ?_) (f := fun k => spec_l7Token.j5 k s (i : Int) (e : Int) false kd (i : Int) (⟨#[]⟩ : ByteArray) 0 x) ?_
   ·simp only [spec_l7Token.j4]
    rw [if_neg (by simp), if_neg (by omega)]
   ·have h5 := spec_num_j5 hb hi he false kd x hkd hd
    have e1 : (false = true) = (false = true ∨ (e < s.size ∧ letr (bt s (e : Int)) = true)) := by simp [h]
    rw [if_neg (by simp)] at h5
    rw [if_neg (by rw [← e1]; simp)]
    exact h5
theorem plain_run {s : ByteArray} {i a : Nat} (ha : a = spanEnd dig s i) (hi : i ≤ a) (h : a ≤ s.size) (hd : i < a) : plainOk (s.extract i a) 15 = !(decide (15 < a - i) || (decide (1 < a - i) && (bt s (i : Int) == 48))) := by
 have hsz : (s.extract i a).size = a - i := by rw [ByteArray.size_extract]; omega
 have hsp : spanEnd dig (s.extract i a) 0 = a - i := by
  rw [spanEnd_ext dig s i a 0 h (by omega) (.inr (by rw [Nat.add_zero, ← ha]; exact Nat.le_refl _)), Nat.add_zero, ← ha]
  omega
 have hb : bt (s.extract i a) 0 = bt s (i : Int) := by
  have := bt_ext (s := s) (a := i) (b := a) (i := 0) h (by omega)
  simpa using this
 unfold plainOk
 rw [hsz, hsp, hb, decide_eq_true (rfl : a - i = a - i), Bool.and_true]
 by_cases h15 : 15 < a - i
 ·rw [decide_eq_true h15, decide_eq_false (by omega)]; rfl
 ·rw [decide_eq_false h15, decide_eq_true (by omega), Bool.false_or, Bool.true_and]
  by_cases h1 : 1 < a - i
  ·rw [decide_eq_true h1, decide_eq_false (by omega), Bool.false_or, Bool.true_and]
   rfl
  ·rw [decide_eq_false h1, decide_eq_true (by omega)]; rfl
theorem spec_num_ev {s : ByteArray} (hb : s.size ≤ 1048576) {i : Nat} (hi : i < s.size) (h1 : letr (bt s (i : Int)) = false) (h2 : dig (bt s (i : Int)) = true) :
  Ev (fun k => spec_l7Token.j2 k s (i : Int) (spanEnd dig s i : Int) (decide (15 < spanEnd dig s i - i) || (decide (1 < spanEnd dig s i - i) && (bt s (i : Int) == 48))) 3 (i : Int) (⟨#[]⟩ : ByteArray) 0 0) (flatS (tokR s i)) := by
 have hs : s.size ≤ maxLen := by unfold maxLen; omega
 rw [tokR_num h1 h2]
 have a1 := spanEnd_le dig s i (by omega)
 have a2 := spanEnd_ge dig s i
 have a3 : i < spanEnd dig s i := by
  rcases Nat.lt_or_ge i (spanEnd dig s i) with h | h
  ·exact h
  ·have e : spanEnd dig s i = i := by omega
   have := spanEnd_at dig s i (by omega)
   rw [e, h2] at this
   cases this
 have hin := spanEnd_in dig s i
 obtain ⟨a, ha⟩ : ∃ a, a = spanEnd dig s i := ⟨_, rfl⟩
 rw [← ha] at a1 a2 a3 hin ⊢
 have hpl := plain_run ha (by omega) a1 a3
 obtain ⟨bad, hbad⟩ : ∃ bad, bad = (decide (15 < a - i) || (decide (1 < a - i) && (bt s (i : Int) == 48))) := ⟨_, rfl⟩
 rw [← hbad] at hpl ⊢
 have w1 : wrap64 ((a : Int) + 1) = ((a + 1 : Nat) : Int) := by rw [w64 (by omega) (by omega)]; omega
 have j3f : isReal s a = false → Ev (fun k => spec_l7Token.j3 k s (i : Int) (a : Int) bad false 3 (i : Int) (⟨#[]⟩ : ByteArray) 0 0) (flatS (numR s i (if isReal s a = true then spanEnd dig s (a + 1) else a) (isReal s a))) := by
  intro hr
  rw [hr, if_neg (by simp)]
  have h4 := spec_num_j4 hb a2 a1 bad 3 0 (.inl rfl) (fun hbf _ => by
   have := plain_dig (t := s.extract i a) (n := 15) (by rw [hpl, hbf]; rfl)
   exact this)
  have e1 : (if bad = true ∨ (a < s.size ∧ letr (bt s (a : Int)) = true) then (0, 0, (⟨#[]⟩ : ByteArray), 0, 0, 3, 0) else ((3 : Int), (i : Int), s.extract i a, (if (3 : Int) = 3 then ((numF (digAt (s.extract i a)) (s.extract i a).size 0 0 : Nat) : Int) else 0), 0, 0, (a : Int))) = flatS (numR s i a false) := by
   unfold numR
   dsimp only
   rw [hpl]
   by_cases hl : a < s.size ∧ letr (bt s (a : Int)) = true
   ·rw [if_pos (.inr hl), if_neg (show ¬ (false = true) by simp), if_pos (.inl hl)]; rfl
   ·cases bad with
    | true => rw [if_pos (.inl rfl), if_neg (show ¬ (false = true) by simp), if_pos (.inr rfl)]; rfl
    | false => rw [if_neg (by simp [hl]), if_neg (show ¬ (false = true) by simp), if_neg (show ¬ ((a < s.size ∧ letr (bt s (a : Int)) = true) ∨ (!false) = false) by simp [hl])]; rfl
  rw [e1] at h4
  refine Ev.step (fun k => ?_) h4
  simp only [spec_l7Token.j3]
  rw [if_neg (by simp)]
 by_cases c1 : a + 1 < s.size
 ·by_cases c2 : bt s (a : Int) = 46
  ·refine Ev.step (f := fun k => (spec_l7Digit.f (bt s ((a + 1 : Nat) : Int))).bind fun t126 => (spec_l7Token.j3 k s (i : Int) (a : Int) bad t126 3 (i : Int) (⟨#[]⟩ : ByteArray) 0 0)) (fun k => ?_) (Ev.bindc (spec_l7Digit_eq _) ?_)
   ·simp only [spec_l7Token.j2, w1]
    rw [if_pos (by omega), if_pos (by omega), if_pos (by omega), if_pos c2, if_pos (by omega)]
   cases hd : dig (bt s ((a + 1 : Nat) : Int)) with
   | true =>
    have hr : isReal s a = true := decide_eq_true ⟨c1, c2, hd⟩
    rw [hr, if_pos rfl]
    have b1 := spanEnd_ge dig s (a + 1)
    have b2 := spanEnd_le dig s (a + 1) (by omega)
    obtain ⟨e, he⟩ : ∃ e, e = spanEnd dig s (a + 1) := ⟨_, rfl⟩
    have hrun := spec_l7Run_ev hs (i := a + 1) (by omega)
    rw [← he] at b1 b2 hrun ⊢
    have h4 := spec_num_j4 hb (i := i) (e := e) (by omega) b2 (!(realOf (s.extract i e)).2) 4 (realOf (s.extract i e)).1 (.inr rfl) (fun _ h => by omega)
    have e1 : (if (!(realOf (s.extract i e)).2) = true ∨ (e < s.size ∧ letr (bt s (e : Int)) = true) then (0, 0, (⟨#[]⟩ : ByteArray), 0, 0, 3, 0) else ((4 : Int), (i : Int), s.extract i e, (if (4 : Int) = 3 then ((numF (digAt (s.extract i e)) (s.extract i e).size 0 0 : Nat) : Int) else 0), (realOf (s.extract i e)).1, 0, (e : Int))) = flatS (numR s i e true) := by
     unfold numR
     dsimp only
     by_cases hl : e < s.size ∧ letr (bt s (e : Int)) = true
     ·rw [if_pos (.inr hl), if_pos rfl, if_pos (.inl hl)]; rfl
     ·cases hq : (realOf (s.extract i e)).2 with
      | true => rw [if_neg (by simp [hl]), if_pos rfl, if_neg (show ¬ ((e < s.size ∧ letr (bt s (e : Int)) = true) ∨ true = false) by simp [hl])]; rfl
      | false => rw [if_pos (.inl rfl), if_pos rfl, if_pos (.inr rfl)]; rfl
    rw [e1] at h4
    refine Ev.step (f := fun k => (spec_l7Run.f k s ((a + 1 : Nat) : Int)).bind fun t127 => (if 0 ≤ (i : Int) then (if (i : Int) ≤ t127 then (if t127 ≤ (s.size : Int) then ((spec_RealOf.f k (s.extract (i : Int).toNat (t127 : Int).toNat)).bind fun bt128 => (spec_l7Token.j4 k s (i : Int) t127 (!bt128.2) 4 (i : Int) (⟨#[]⟩ : ByteArray) 0 bt128.1)) else (none)) else (none)) else (none))) (fun k => ?_) (Ev.bind hrun ?_)
    ·simp only [spec_l7Token.j3, w1]
     rw [if_pos trivial]
    ·refine Ev.congr (fun k => by rw [if_pos (by omega), if_pos (by omega), if_pos (by omega)]) ?_
     simp only [Int.toNat_natCast]
     exact Ev.bind (spec_RealOf_ev (by rw [ByteArray.size_extract]; omega)) h4
   | false => exact j3f (decide_eq_false (fun h => by rw [hd] at h; exact Bool.false_ne_true h.2.2))
  ·refine Ev.step (fun k => ?_) (j3f (decide_eq_false (fun h => c2 h.2.1)))
   simp only [spec_l7Token.j2, w1]
   rw [if_pos (by omega), if_pos (by omega), if_pos (by omega), if_neg c2]
 ·refine Ev.step (fun k => ?_) (j3f (decide_eq_false (fun h => c1 h.1)))
  simp only [spec_l7Token.j2, w1]
  rw [if_neg (by omega)]
theorem spanK_ev {ρ : Type} (p : Int → Bool) (s : ByteArray) (F G : Nat → Int → Option ρ) (r : ρ)
  (h1 : ∀ k (i : Nat), i < s.size → p (bt s i) = true → F (k + 1) i = F k ((i + 1 : Nat) : Int))
  (h0 : ∀ k (i : Nat), i < s.size → p (bt s i) = false → F (k + 1) i = G k i)
  (h2 : ∀ k, F (k + 1) (s.size : Int) = G k (s.size : Int)) (i : Nat) (hi : i ≤ s.size) (hg : Ev (fun k => G k (spanEnd p s i : Int)) r) : Ev (fun k => F k i) r := by
 fun_induction spanEnd p s i with
 | case1 i h hp ih => exact Ev.step (fun k => h1 k i h hp) (ih (by omega) hg)
 | case2 i h hp => exact Ev.step (fun k => h0 k i h (by simpa using hp)) hg
 | case3 i h =>
  obtain rfl : i = s.size := by omega
  exact Ev.step (fun k => h2 k) hg
theorem spec_l7Token_ev {s : ByteArray} (hb : s.size ≤ 1048576) {i : Nat} (hi : i < s.size) : Ev (fun k => spec_l7Token.f k s (i : Int)) (flatS (tokR s i)) := by
 have hs : s.size ≤ maxLen := by unfold maxLen; omega
 unfold spec_l7Token.f
 refine Ev.congr (fun k => by rw [if_pos (by omega), if_pos (by omega)]) (Ev.bindc (spec_l3Letter_eq _) ?_)
 cases h1 : letr (bt s (i : Int)) with
 | true =>
  refine Ev.congr (fun k => if_pos rfl) ?_
  refine spanK_ev letr s (fun k j => spec_l7Token.l0 k s (i : Int) j) (fun k j => spec_l7Token.j1 k s (i : Int) j) _ (fun k j h hp => ?_) (fun k j h hp => ?_) (fun k => ?_) i (by omega) ?_
  ·simp only [spec_l7Token.l0]
   rw [if_pos (by omega), if_pos (by omega), spec_l3Letter_eq, hp, w64_succ h (by omega)]
   rfl
  ·simp only [spec_l7Token.l0]
   rw [if_pos (by omega), if_pos (by omega), spec_l3Letter_eq, hp]
   rfl
  ·simp only [spec_l7Token.l0]
   rw [if_neg (by omega)]
  have a1 := spanEnd_le letr s i (by omega)
  have a2 := spanEnd_ge letr s i
  have e : tokR s i = if isWd (s.extract i (spanEnd letr s i)) then ((2, (i : Int), s.extract i (spanEnd letr s i), 0, 0), 0, spanEnd letr s i) else if 12 < spanEnd letr s i - i then (noTok, 4, 0) else ((1, (i : Int), s.extract i (spanEnd letr s i), 0, 0), 0, spanEnd letr s i) := by
   unfold tokR
   simp only [h1, if_true]
  rw [e]
  obtain ⟨x, hx⟩ : ∃ x, x = spanEnd letr s i := ⟨_, rfl⟩
  rw [← hx] at a1 a2 ⊢
  have w : wrap64 ((x : Int) - (i : Int)) = ((x - i : Nat) : Int) := by rw [w64 (by omega) (by omega)]; omega
  refine Ev.step (f := fun k => (spec_IsWord.f k (s.extract i x)).bind fun t122 => (if t122 = true then (some (2, (i : Int), s.extract i x, 0, 0, 0, (x : Int))) else (if ((x - i : Nat) : Int) > 12 then (some (0, 0, (⟨#[]⟩ : ByteArray), 0, 0, 4, 0)) else (some (1, (i : Int), s.extract i x, 0, 0, 0, (x : Int)))))) (fun k => ?_) (Ev.bind (spec_IsWord_ev _) ?_)
  ·simp only [spec_l7Token.j1, w, Int.toNat_natCast]
   rw [if_pos (by omega), if_pos (by omega), if_pos (by omega)]
  cases hw : isWd (s.extract i x) with
  | true => exact Ev.congr (fun k => if_pos rfl) (Ev.now _)
  | false =>
   refine Ev.congr (fun k => if_neg (by simp)) ?_
   rw [if_neg (show ¬ (false = true) by simp)]
   by_cases h12 : 12 < x - i
   ·rw [if_pos h12]
    exact Ev.congr (fun k => if_pos (by omega)) (Ev.now _)
   ·rw [if_neg h12]
    exact Ev.congr (fun k => if_neg (by omega)) (Ev.now _)
 | false =>
  refine Ev.congr (fun k => if_neg (by simp)) (Ev.bindc (spec_l7Digit_eq _) ?_)
  cases h2 : dig (bt s (i : Int)) with
  | true =>
   refine Ev.congr (fun k => if_pos rfl) (Ev.bind (spec_l7Run_ev hs (by omega)) ?_)
   have a1 := spanEnd_le dig s i (by omega)
   have a2 := spanEnd_ge dig s i
   have w : wrap64 ((spanEnd dig s i : Int) - (i : Int)) = ((spanEnd dig s i - i : Nat) : Int) := by rw [w64 (by omega) (by omega)]; omega
   rw [w]
   have hn := spec_num_ev hb hi h1 h2
   by_cases c1 : 15 < spanEnd dig s i - i
   ·refine Ev.congr (fun k => if_pos (by omega)) ?_
    rw [decide_eq_true c1, Bool.true_or] at hn
    exact hn
   ·refine Ev.congr (fun k => if_neg (by omega)) ?_
    rw [decide_eq_false c1, Bool.false_or] at hn
    by_cases c2 : 1 < spanEnd dig s i - i
    ·refine Ev.congr (fun k => if_pos (by omega)) ?_
     rw [decide_eq_true c2, Bool.true_and] at hn
     exact hn
    ·refine Ev.congr (fun k => if_neg (by omega)) ?_
     rw [decide_eq_false c2, Bool.false_and] at hn
     exact hn
  | false =>
   have hm : spec_l7Marks.f = some marksB := rfl
   refine Ev.congr (fun k => if_neg (by simp)) (Ev.bindc hm ?_)
   have h := spec_marks_ev hb hi marksB (by rw [show marksB.length = 16 from rfl]; omega) (fun m hmm => by
    have q : (marksB.map fun m => m.size).all (fun n => decide (n ≤ 1000)) = true := by kernel_rfl
    exact of_decide_eq_true (List.all_eq_true.1 q _ (List.mem_map_of_mem hmm)))
   rw [marks_find hi] at h
   have e : tokR s i = if bt s (i : Int) = 61 ∧ i + 1 < s.size ∧ bt s ((i + 1 : Nat) : Int) = 61 then ((5, (i : Int), (⟨#[61, 61]⟩ : ByteArray), 0, 0), 0, i + 2) else if bt s (i : Int) ∈ singles then ((5, (i : Int), s.extract i (i + 1), 0, 0), 0, i + 1) else (noTok, 2, 0) := by
    unfold tokR
    simp only [h1, h2, Bool.false_eq_true, if_false]
   rw [e]
   by_cases d : bt s (i : Int) = 61 ∧ i + 1 < s.size ∧ bt s ((i + 1 : Nat) : Int) = 61
   ·rw [if_pos d] at h ⊢
    exact h
   ·rw [if_neg d] at h ⊢
    by_cases d2 : bt s (i : Int) ∈ singles
    ·rw [if_pos d2] at h ⊢
     have hsz : (s.extract i (i + 1)).size = 1 := by rw [ByteArray.size_extract]; omega
     simp only [hsz] at h
     exact h
    ·rw [if_neg d2] at h ⊢
     exact h
theorem tokR_end {s : ByteArray} {i : Nat} (hi : i < s.size) (h : (tokR s i).2.1 = 0) : i < (tokR s i).2.2 ∧ (tokR s i).2.2 ≤ s.size ∧ (tokR s i).1.2.2.1.size = (tokR s i).2.2 - i := by
 have ex : ∀ e, i < e → e ≤ s.size → i < e ∧ e ≤ s.size ∧ (s.extract i e).size = e - i := fun e h1 h2 => ⟨h1, h2, by rw [ByteArray.size_extract]; omega⟩
 have adv : ∀ p : Int → Bool, p (bt s (i : Int)) = true → i < spanEnd p s i := fun p hp => by
  have a2 := spanEnd_ge p s i
  rcases Nat.lt_or_ge i (spanEnd p s i) with h | h
  ·exact h
  ·have e : spanEnd p s i = i := by omega
   have := spanEnd_at p s i (by omega)
   rw [e, hp] at this
   cases this
 unfold tokR at h ⊢
 dsimp only at h ⊢
 split at h
 ·rename_i h1
  rw [if_pos h1]
  have a := adv letr h1
  have b := spanEnd_le letr s i (by omega)
  split at h
  ·rename_i h2; rw [if_pos h2]; exact ex _ a b
  ·rename_i h2
   rw [if_neg h2]
   split at h
   ·cases h
   ·rename_i h3; rw [if_neg h3]; exact ex _ a b
 ·rename_i h1
  rw [if_neg h1]
  split at h
  ·rename_i h2
   rw [if_pos h2]
   have a := adv dig h2
   have b := spanEnd_le dig s i (by omega)
   split at h
   ·rename_i h3
    rw [if_pos h3]
    have c := spanEnd_ge dig s (spanEnd dig s i + 1)
    have d := spanEnd_le dig s (spanEnd dig s i + 1) (by omega)
    split at h
    ·cases h
    ·rename_i h4; rw [if_neg h4]; exact ex (spanEnd dig s (spanEnd dig s i + 1)) (by omega) d
   ·rename_i h3
    rw [if_neg h3]
    split at h
    ·cases h
    ·rename_i h4; rw [if_neg h4]; exact ex _ a b
  ·rename_i h2
   rw [if_neg h2]
   split at h
   ·rename_i h3
    rw [if_pos h3]
    refine ⟨by show i < i + 2; omega, by show i + 2 ≤ s.size; omega, ?_⟩
    show (⟨#[61, 61]⟩ : ByteArray).size = i + 2 - i
    rw [show (⟨#[61, 61]⟩ : ByteArray).size = 2 from rfl]
    omega
   ·rename_i h3
    rw [if_neg h3]
    split at h
    ·rename_i h4; rw [if_pos h4]; exact ex (i + 1) (by omega) (by omega)
    ·cases h
def tokOf (x : TR) : TK := ⟨x.1, x.2.1, x.2.2.1, x.2.2.2.1, x.2.2.2.2⟩
/-- Both read the same tokens. -/
theorem lex_both {s : ByteArray} (hb : s.size ≤ 1048576) : ∀ (d i : Nat) (out : List TK), s.size - i = d → i ≤ s.size → out.length ≤ i → ∃ r : List TK × Int × Int, r.1.length ≤ s.size ∧ Ev (fun k => impl_Lex.l0 k s out (i : Int)) r ∧ Ev (fun k => spec_Lex.l0 k s out (i : Int)) r := by
 have hs : s.size ≤ maxLen := by unfold maxLen; omega
 intro d
 induction d using Nat.strongRecOn with
 | _ d ih =>
  intro i out hd hi hlen
  by_cases h : i < s.size
  ·-- a blank
   have blank : ∀ b : Bool, (b = true ↔ bt s (i : Int) = 9 ∨ bt s (i : Int) = 10 ∨ bt s (i : Int) = 32) → ∃ r : List TK × Int × Int, r.1.length ≤ s.size ∧ Ev (fun k => impl_Lex.j1 k s out (i : Int) (bt s (i : Int)) b) r ∧ Ev (fun k => spec_Lex.j1 k s out (i : Int) (bt s (i : Int)) b) r := by
    intro b hbb
    cases b with
    | true =>
     obtain ⟨r, h1, h2, h3⟩ := ih _ (by omega) (i + 1) out rfl (by omega) (by omega)
     refine ⟨r, h1, Ev.step (fun k => ?_) h2, Ev.step (fun k => ?_) h3⟩
     ·simp only [impl_Lex.j1]
      rw [if_pos trivial, w64_succ h (by omega)]
     ·simp only [spec_Lex.j1]
      rw [if_pos trivial, w64_succ h (by omega)]
    | false =>
     by_cases hc : bt s (i : Int) = 35
     ·have a1 := spanEnd_le noNl s i (by omega)
      have a2 : i < spanEnd noNl s i := by
       have a2 := spanEnd_ge noNl s i
       rcases Nat.lt_or_ge i (spanEnd noNl s i) with q | q
       ·exact q
       ·have e : spanEnd noNl s i = i := by omega
        have := spanEnd_at noNl s i (by omega)
        rw [e, hc] at this
        cases this
      obtain ⟨r, h1, h2, h3⟩ := ih _ (by omega) (spanEnd noNl s i) out rfl a1 (by omega)
      refine ⟨r, h1, Ev.step (f := fun k => (impl_run__impl_Lex_1.f k s (i : Int)).bind fun t => impl_Lex.l0 k s out t) (fun k => ?_) (Ev.bind (impl_runLine_ev hs (by omega)) h2), Ev.step (f := fun k => spec_Lex.l1 k s out (i : Int)) (fun k => ?_) (spanK_ev noNl s (fun k j => spec_Lex.l1 k s out j) (fun k j => spec_Lex.l0 k s out j) r (fun k j hj hp => ?_) (fun k j hj hp => ?_) (fun k => ?_) i (by omega) h3)⟩
      ·simp only [impl_Lex.j1]
       rw [if_neg (by simp), if_pos hc]
      ·simp only [spec_Lex.j1]
       rw [if_neg (by simp), if_pos hc]
      ·simp only [spec_Lex.l1]
       have : bt s (j : Int) ≠ 10 := by simpa [noNl] using hp
       rw [if_pos (by omega), if_pos (by omega), if_neg this, w64_succ hj (by omega)]
      ·simp only [spec_Lex.l1]
       have : bt s (j : Int) = 10 := by simpa [noNl] using hp
       rw [if_pos (by omega), if_pos (by omega), if_pos this]
      ·simp only [spec_Lex.l1]
       rw [if_neg (by omega)]
     ·have ti := impl_lexToken_ev hb h
      have ts := spec_l7Token_ev hb h
      have te := fun h0 => tokR_end (s := s) (i := i) h h0
      generalize tokR s i = t at ti ts te
      by_cases h0 : t.2.1 = 0
      ·obtain ⟨e1, e2, e3⟩ := te h0
       obtain ⟨r, h1, h2, h3⟩ := ih _ (by omega) t.2.2 (out ++ [tokOf t.1]) rfl e2 (by rw [List.length_append, List.length_singleton]; omega)
       have hl : out.length < 2932031007402 := by omega
       have w : wrap64 ((i : Int) + (t.1.2.2.1.size : Int)) = (t.2.2 : Int) := by rw [w64 (by omega) (by omega)]; omega
       refine ⟨r, h1, Ev.step (f := fun k => (impl_lexToken.f k s (i : Int)).bind fun bt188 => (if bt188.2.2.2.2.2 = 0 then (if out.length < 2932031007402 then (impl_Lex.l0 k s (out ++ [(⟨bt188.1, bt188.2.1, bt188.2.2.1, bt188.2.2.2.1, bt188.2.2.2.2.1⟩ : TK)]) (wrap64 ((i : Int) + (bt188.2.2.1.size : Int)))) else (none)) else (some (([] : List TK), bt188.2.2.2.2.2, (i : Int))))) (fun k => ?_) (Ev.bind ti ?_), Ev.step (f := fun k => (spec_l7Token.f k s (i : Int)).bind fun bt141 => (if bt141.2.2.2.2.2.1 = 0 then (if out.length < 2932031007402 then (spec_Lex.l0 k s (out ++ [(⟨bt141.1, bt141.2.1, bt141.2.2.1, bt141.2.2.2.1, bt141.2.2.2.2.1⟩ : TK)]) bt141.2.2.2.2.2.2) else (none)) else (some (([] : List TK), bt141.2.2.2.2.2.1, (i : Int))))) (fun k => ?_) (Ev.bind ts ?_)⟩
       ·simp only [impl_Lex.j1]
        rw [if_neg (by simp), if_neg hc]
       ·have h0i : (flatI t).2.2.2.2.2 = 0 := h0
        refine Ev.congr (fun k => by rw [if_pos h0i, if_pos hl]) ?_
        have e : (flatI t).2.2.1.size = t.1.2.2.1.size := rfl
        have e4 : (⟨(flatI t).1, (flatI t).2.1, (flatI t).2.2.1, (flatI t).2.2.2.1, (flatI t).2.2.2.2.1⟩ : TK) = tokOf t.1 := rfl
        rw [e, w, e4]
        exact h2
       ·simp only [spec_Lex.j1]
        rw [if_neg (by simp), if_neg hc]
       ·have h0s : (flatS t).2.2.2.2.2.1 = 0 := h0
        exact Ev.congr (fun k => by rw [if_pos h0s, if_pos hl]; rfl) h3
      ·refine ⟨([], t.2.1, (i : Int)), by simp, Ev.step (f := fun k => (impl_lexToken.f k s (i : Int)).bind fun bt188 => (if bt188.2.2.2.2.2 = 0 then (if out.length < 2932031007402 then (impl_Lex.l0 k s (out ++ [(⟨bt188.1, bt188.2.1, bt188.2.2.1, bt188.2.2.2.1, bt188.2.2.2.2.1⟩ : TK)]) (wrap64 ((i : Int) + (bt188.2.2.1.size : Int)))) else (none)) else (some (([] : List TK), bt188.2.2.2.2.2, (i : Int))))) (fun k => ?_) (Ev.bind ti ?_), Ev.step (f := fun k => (spec_l7Token.f k s (i : Int)).bind fun bt141 => (if bt141.2.2.2.2.2.1 = 0 then (if out.length < 2932031007402 then (spec_Lex.l0 k s (out ++ [(⟨bt141.1, bt141.2.1, bt141.2.2.1, bt141.2.2.2.1, bt141.2.2.2.2.1⟩ : TK)]) bt141.2.2.2.2.2.2) else (none)) else (some (([] : List TK), bt141.2.2.2.2.2.1, (i : Int))))) (fun k => ?_) (Ev.bind ts ?_)⟩
       ·simp only [impl_Lex.j1]
        rw [if_neg (by simp), if_neg hc]
       ·exact Ev.congr (fun k => if_neg h0) (Ev.now _)
       ·simp only [spec_Lex.j1]
        rw [if_neg (by simp), if_neg hc]
       ·exact Ev.congr (fun k => if_neg h0) (Ev.now _)
   by_cases c9 : bt s (i : Int) = 9
   ·obtain ⟨r, h1, h2, h3⟩ := blank true (by simp [c9])
    refine ⟨r, h1, Ev.step (fun k => ?_) h2, Ev.step (fun k => ?_) h3⟩
    ·simp only [impl_Lex.l0]
     rw [if_pos (by omega), if_pos (by omega), if_pos c9]
    ·simp only [spec_Lex.l0]
     rw [if_pos (by omega), if_pos (by omega), if_pos c9]
   ·by_cases c10 : bt s (i : Int) = 10
    ·obtain ⟨r, h1, h2, h3⟩ := blank true (by simp [c10])
     refine ⟨r, h1, Ev.step (fun k => ?_) h2, Ev.step (fun k => ?_) h3⟩
     ·simp only [impl_Lex.l0]
      rw [if_pos (by omega), if_pos (by omega), if_neg c9, if_pos c10]
     ·simp only [spec_Lex.l0]
      rw [if_pos (by omega), if_pos (by omega), if_neg c9, if_pos c10]
    ·obtain ⟨r, h1, h2, h3⟩ := blank (bt s (i : Int) == 32) (by simp [c9, c10])
     refine ⟨r, h1, Ev.step (fun k => ?_) h2, Ev.step (fun k => ?_) h3⟩
     ·simp only [impl_Lex.l0]
      rw [if_pos (by omega), if_pos (by omega), if_neg c9, if_neg c10]
     ·simp only [spec_Lex.l0]
      rw [if_pos (by omega), if_pos (by omega), if_neg c9, if_neg c10]
  ·obtain rfl : i = s.size := by omega
   refine ⟨(out, 0, 0), hlen, Ev.succ (fun k => ?_), Ev.succ (fun k => ?_)⟩
   ·simp only [impl_Lex.l0]
    rw [if_neg (by omega)]
   ·simp only [spec_Lex.l0]
    rw [if_neg (by omega)]
theorem Lex_both {s : ByteArray} (hb : s.size ≤ 1048576) : ∃ r : List TK × Int × Int, r.1.length ≤ 4000 ∧ Ev (fun k => impl_Lex.f k s) r ∧ Ev (fun k => spec_Lex.f k s) r := by
 unfold impl_Lex.f spec_Lex.f
 by_cases h : (s.size : Int) > 4000
 ·exact ⟨([], 1, 0), by simp, Ev.congr (fun k => if_pos h) (Ev.now _), Ev.congr (fun k => if_pos h) (Ev.now _)⟩
 ·obtain ⟨r, h1, h2, h3⟩ := lex_both hb s.size 0 [] rfl (by omega) (by simp)
  exact ⟨r, by omega, Ev.congr (fun k => if_neg h) h2, Ev.congr (fun k => if_neg h) h3⟩

def eqTK (k : Nat) (x y : TK) : Option Bool := laws_eqToken.f k x.f0 x.f1 x.f2 x.f3 x.f4 y.f0 y.f1 y.f2 y.f3 y.f4
abbrev rdTK (xs : List TK) (i : Int) : TK := rd_T148 xs i
theorem eqTokenS_refl {xs : List TK} (hl : xs.length ≤ 4000) : Ev (fun k => laws_eqTokenS.f k xs xs) true := by
 unfold laws_eqTokenS.f
 refine Ev.congr (fun k => if_pos rfl) ?_
 have key : ∀ d i : Nat, i + d = xs.length → Ev (fun k => laws_eqTokenS.l0 k xs xs (i : Int)) true := by
  intro d
  induction d with
  | zero =>
   intro i hi
   refine Ev.succ (fun k => ?_)
   simp only [laws_eqTokenS.l0]
   rw [if_neg (by omega)]
  | succ d ih =>
   intro i hi
   have h : i < xs.length := by omega
   have e1 : Ev (fun k => eqTK k (rdTK xs (i : Int)) (rdTK xs (i : Int))) true := by
    unfold eqTK laws_eqToken.f
    refine Ev.congr (fun k => by rw [if_pos rfl, if_pos rfl, if_pos rfl, if_pos rfl]) ?_
    exact Ev.bind (sameFloat_refl _) (Ev.now _)
   refine Ev.step (f := fun k => (eqTK k (rdTK xs (i : Int)) (rdTK xs (i : Int))).bind fun t => (if t = true then (laws_eqTokenS.l0 k xs xs ((i + 1 : Nat) : Int)) else none)) (fun k => ?_) (Ev.bind e1 (Ev.congr (fun k => if_pos rfl) (ih (i + 1) (by omega))))
   simp only [laws_eqTokenS.l0]
   rw [if_pos (by omega), if_pos (by omega), if_pos (by omega), w64_succ h (by omega)]
   rfl
 exact key xs.length 0 (by omega)
theorem strOfNums_size' (x : Int) : (strOfNums [x]).size = 1 := by simp [strOfNums, ByteArray.size]
theorem markText_ev {a : Nat} (ha : a ≤ 1000000) : ∃ t, Ev (fun k => laws_markText.f k (a : Int)) t := by
 unfold laws_markText.f
 by_cases h0 : (a : Int) ≤ 0
 ·exact ⟨_, Ev.congr (fun k => if_pos h0) (Ev.now _)⟩
 ·have key : ∀ d : Nat, ∀ x : Nat, x ≤ 1000000 → x < 10 ^ d → ∀ t : ByteArray, t.size + d ≤ 100 → ∃ r, Ev (fun k => laws_markText.l0 k (x : Int) t) r := by
   intro d
   induction d with
   | zero =>
    intro x hb hx t ht
    refine ⟨(⟨#[109]⟩ : ByteArray) ++ t, Ev.succ (fun k => ?_)⟩
    simp only [laws_markText.l0]
    rw [if_neg (by omega), if_pos (by omega)]
   | succ d ih =>
    intro x hb hx t ht
    by_cases h : x = 0
    ·refine ⟨(⟨#[109]⟩ : ByteArray) ++ t, Ev.succ (fun k => ?_)⟩
     simp only [laws_markText.l0]
     rw [if_neg (by omega), if_pos (by omega)]
    ·obtain ⟨r, hr⟩ := ih (x / 10) (by omega) (by rw [Nat.pow_succ] at hx; omega) (strOfNums [(wrap64 (48 + (Int.tmod (x : Int) 10))) % 256] ++ t) (by rw [ByteArray.size_append, strOfNums_size']; omega)
     refine ⟨r, Ev.step (fun k => ?_) hr⟩
     simp only [laws_markText.l0, Option.bind_some]
     have hq : wrap64 (Int.tdiv (x : Int) 10) = ((x / 10 : Nat) : Int) := by
      rw [show Int.tdiv (x : Int) 10 = ((x / 10 : Nat) : Int) from rfl]
      exact w64 (by omega) (by omega)
     rw [if_pos (by omega), if_pos (by rw [strOfNums_size']; omega), hq]
  obtain ⟨r, hr⟩ := key 7 a ha (by omega) (⟨#[]⟩ : ByteArray) (by decide)
  exact ⟨r, Ev.congr (fun k => if_neg h0) hr⟩
noncomputable def mtOf (a : Nat) : ByteArray := if h : a ≤ 1000000 then Classical.choose (markText_ev h) else ⟨#[]⟩
theorem mtOf_ev {a : Nat} (h : a ≤ 1000000) : Ev (fun k => laws_markText.f k (a : Int)) (mtOf a) := by
 unfold mtOf
 rw [dif_pos h]
 exact Classical.choose_spec (markText_ev h)
noncomputable def mkOf (i : Nat) : TK := ⟨((5 * i + 1 : Nat) : Int), ((5 * i + 2 : Nat) : Int), mtOf (5 * i + 3), ((5 * i + 4 : Nat) : Int), floatOfInt .f64 ((5 * i + 5 : Nat) : Int)⟩
theorem rdTK_set (xs : List TK) {i : Nat} (h : i < xs.length) (v : TK) : rdTK (xs.set i v) (i : Int) = v := by
 show (xs.set i v).getD (i : Int).toNat _ = v
 rw [Int.toNat_natCast, List.getD_eq_getElem?_getD, List.getElem?_set_self h]
 rfl
theorem rdTK_other (xs : List TK) {i j : Nat} (h : j ≠ i) (v : TK) : rdTK (xs.set i v) (j : Int) = rdTK xs (j : Int) := by
 show (xs.set i v).getD (j : Int).toNat _ = xs.getD (j : Int).toNat _
 rw [Int.toNat_natCast, List.getD_eq_getElem?_getD, List.getD_eq_getElem?_getD, List.getElem?_set_ne (by omega)]
theorem markTokenS_ev {xs : List TK} (hl : xs.length ≤ 4000) : ∃ ys : List TK, ys.length = xs.length ∧ (∀ j : Nat, j < ys.length → rdTK ys (j : Int) = mkOf j) ∧ Ev (fun k => laws_markTokenS.f k xs 1) (((5 * xs.length + 1 : Nat) : Int), ys) := by
 unfold laws_markTokenS.f
 have key : ∀ d i : Nat, ∀ zs : List TK, zs.length = xs.length → i + d = xs.length → (∀ j : Nat, j < i → rdTK zs (j : Int) = mkOf j) → ∃ ys : List TK, ys.length = xs.length ∧ (∀ j : Nat, j < ys.length → rdTK ys (j : Int) = mkOf j) ∧ Ev (fun k => laws_markTokenS.l0 k zs ((5 * i + 1 : Nat) : Int) (i : Int)) (((5 * xs.length + 1 : Nat) : Int), ys) := by
  intro d
  induction d with
  | zero =>
   intro i zs hz hi hj
   refine ⟨zs, hz, fun j h => hj j (by omega), Ev.succ (fun k => ?_)⟩
   simp only [laws_markTokenS.l0]
   rw [if_neg (by omega), show i = xs.length by omega]
  | succ d ih =>
   intro i zs hz hi hj
   have h : i < zs.length := by omega
   obtain ⟨ys, hy, hm, hr⟩ := ih (i + 1) (zs.set i (mkOf i)) (by rw [List.length_set, hz]) (by omega) (fun j h' => by
    by_cases e : j = i
    ·subst e; exact rdTK_set _ h _
    ·rw [rdTK_other _ e]; exact hj j (by omega))
   refine ⟨ys, hy, hm, ?_⟩
   have ev := mtOf_ev (a := 5 * i + 3) (by omega)
   refine Ev.step (f := fun k => (laws_markText.f k ((5 * i + 3 : Nat) : Int)).bind fun t => laws_markTokenS.l0 k (zs.set i ⟨((5 * i + 1 : Nat) : Int), ((5 * i + 2 : Nat) : Int), t, ((5 * i + 4 : Nat) : Int), floatOfInt .f64 ((5 * i + 5 : Nat) : Int)⟩) ((5 * (i + 1) + 1 : Nat) : Int) ((i + 1 : Nat) : Int)) (fun k => ?_) (Ev.bind ev hr)
   have n1 : wrap64 (((5 * i + 1 : Nat) : Int) + 1) = ((5 * i + 2 : Nat) : Int) := w64_nat _ (by omega)
   have n2 : wrap64 (((5 * i + 2 : Nat) : Int) + 1) = ((5 * i + 3 : Nat) : Int) := w64_nat _ (by omega)
   have n3 : wrap64 (((5 * i + 3 : Nat) : Int) + 1) = ((5 * i + 4 : Nat) : Int) := w64_nat _ (by omega)
   have n4 : wrap64 (((5 * i + 4 : Nat) : Int) + 1) = ((5 * i + 5 : Nat) : Int) := w64_nat _ (by omega)
   have n5 : wrap64 (((5 * i + 5 : Nat) : Int) + 1) = ((5 * (i + 1) + 1 : Nat) : Int) := w64_nat _ (by omega)
   have n6 : wrap64 ((i : Int) + 1) = ((i + 1 : Nat) : Int) := w64_nat _ (by omega)
   have c1 : (i : Int) < (zs.length : Int) := by exact_mod_cast h
   have c0 : (0 : Int) ≤ (i : Int) := Int.natCast_nonneg _
   simp only [laws_markTokenS.l0, n1, n2, n3, n4, n5, n6, Option.bind_some, Int.toNat_natCast]
   rw [if_pos c1, if_pos c0]
   congr 1
   funext t
   have r1 := fun v : TK => rdTK_set zs h v
   unfold rdTK at r1
   simp only [List.set_set, r1]
 exact key xs.length 0 xs rfl (by omega) (fun j hj => absurd hj (by omega))
theorem heldTokenS_ev {ys : List TK} (hl : ys.length ≤ 4000) (hm : ∀ j : Nat, j < ys.length → rdTK ys (j : Int) = mkOf j) : Ev (fun k => laws_heldTokenS.f k ys 1) ((5 * ys.length + 1 : Nat) : Int) := by
 unfold laws_heldTokenS.f
 have key : ∀ d i : Nat, i + d = ys.length → Ev (fun k => laws_heldTokenS.l0 k ys ((5 * i + 1 : Nat) : Int) (i : Int)) ((5 * ys.length + 1 : Nat) : Int) := by
  intro d
  induction d with
  | zero =>
   intro i hi
   refine Ev.succ (fun k => ?_)
   simp only [laws_heldTokenS.l0]
   rw [if_neg (by omega), show i = ys.length by omega]
  | succ d ih =>
   intro i hi
   have h : i < ys.length := by omega
   have ev := mtOf_ev (a := 5 * i + 3) (by omega)
   have fe : (FloatKind.f64.format.order (floatOfInt .f64 ((5 * i + 5 : Nat) : Int)) (floatOfInt .f64 ((5 * i + 5 : Nat) : Int)) != some Ordering.eq) = false := by
    rw [bne, fl_order, fl_near]; rfl
   have n1 : wrap64 (((5 * i + 1 : Nat) : Int) + 1) = ((5 * i + 2 : Nat) : Int) := w64_nat _ (by omega)
   have n2 : wrap64 (((5 * i + 2 : Nat) : Int) + 1) = ((5 * i + 3 : Nat) : Int) := w64_nat _ (by omega)
   have n3 : wrap64 (((5 * i + 3 : Nat) : Int) + 1) = ((5 * i + 4 : Nat) : Int) := w64_nat _ (by omega)
   have n4 : wrap64 (((5 * i + 4 : Nat) : Int) + 1) = ((5 * i + 5 : Nat) : Int) := w64_nat _ (by omega)
   have n5 : wrap64 (((5 * i + 5 : Nat) : Int) + 1) = ((5 * (i + 1) + 1 : Nat) : Int) := w64_nat _ (by omega)
   have n6 : wrap64 ((i : Int) + 1) = ((i + 1 : Nat) : Int) := w64_nat _ (by omega)
   have c1 : (i : Int) < (ys.length : Int) := by exact_mod_cast h
   have c0 : (0 : Int) ≤ (i : Int) := Int.natCast_nonneg _
   have hmi := hm i h
   unfold rdTK at hmi
   refine Ev.step (f := fun k => (laws_markText.f k ((5 * i + 3 : Nat) : Int)).bind fun t => (if (mtOf (5 * i + 3)).toList = t.toList then laws_heldTokenS.l0 k ys ((5 * (i + 1) + 1 : Nat) : Int) ((i + 1 : Nat) : Int) else none)) (fun k => ?_) (Ev.bind ev (Ev.congr (fun k => if_pos rfl) (ih (i + 1) (by omega))))
   simp only [laws_heldTokenS.l0, n1, n2, n3, n4, n5, n6, hmi]
   rw [if_pos c1, if_pos c0]
   have hfe : ¬ ((FloatKind.f64.format.order (mkOf i).f4 (floatOfInt .f64 ((5 * i + 5 : Nat) : Int)) != some Ordering.eq) = true) := by
    show ¬ ((FloatKind.f64.format.order (floatOfInt .f64 ((5 * i + 5 : Nat) : Int)) (floatOfInt .f64 ((5 * i + 5 : Nat) : Int)) != some Ordering.eq) = true)
    rw [fe]
    exact Bool.false_ne_true
   rw [if_pos (show (mkOf i).f0 = ((5 * i + 1 : Nat) : Int) from rfl), if_pos (show (mkOf i).f1 = ((5 * i + 2 : Nat) : Int) from rfl)]
   congr 1
   funext t
   rw [if_pos (show (mkOf i).f3 = ((5 * i + 4 : Nat) : Int) from rfl), if_neg hfe]
   rfl
 exact key ys.length 0 (by omega)
theorem proof : Pure := by
 intro s hs
 refine Ev.rounds ?_
 unfold laws_FnExactLex.f
 by_cases hb : (s.size : Int) > 1048576
 ·exact Ev.congr (fun k => if_pos hb) (Ev.now _)
 refine Ev.congr (fun k => if_neg hb) ?_
 obtain ⟨r, hr, h1, h2⟩ := Lex_both (s := s) (by omega)
 obtain ⟨ys, hy, hm, h3⟩ := markTokenS_ev hr
 have h4 := heldTokenS_ev (ys := ys) (by omega) hm
 rw [hy] at h4
 have h5 := eqTokenS_refl hr
 have ng : ¬ (((5 * r.1.length + 1 : Nat) : Int) < 0) := by omega
 refine Ev.bind h2 (Ev.bind h1 (Ev.bind h5 ?_))
 refine Ev.congr (fun k => by rw [if_pos rfl, if_pos rfl, if_pos rfl]) ?_
 refine Ev.bind h3 (Ev.bind h4 ?_)
 refine Ev.congr (fun k => by rw [if_neg ng, if_pos rfl]) ?_
 refine Ev.bind h1 (Ev.bind h5 ?_)
 refine Ev.congr (fun k => by rw [if_pos rfl, if_pos rfl, if_pos rfl]) ?_
 refine Ev.bind h4 ?_
 exact Ev.congr (fun k => by rw [if_neg ng, if_pos rfl]) (Ev.now _)


end Go.Proofs.Ytnecbgeljanhiaa.fnExactLex
