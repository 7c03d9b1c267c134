/- The law FnExactRealOf holds of the program's own functions, told over lists and numbers: for every argument it returns true. Conditions: none beyond the given row's own. -/
import Derived.Test.YtpdcgnfdffbolaaSaysFnExactRealOf
import Derived.Test.YtpdcgnfdffbolaaKit
namespace Go.Proofs.Ytpdcgnfdffbolaa.fnExactRealOf
open Go.RowKit Go.Proofs.Ytpdcgnfdffbolaa.PFnExactRealOf Go.Proofs.YtpdcgnfdffbolaaW.PrintWords Go.Proofs.YtpdcgnfdffbolaaW.PrintLast Go.Proofs.Ytpdcgnfdffbolaa.Own
set_option linter.unusedVariables false
set_option linter.unusedSimpArgs false
-- chunk floats: what a float reads as; a float is the same as itself
theorem fl_word {f : Ieee.Format} {neg : Bool} {rung : Nat} (h : rung ≤ f.infRung) : (f.read (f.word neg rung)).isNaN = false := by
  have hlt := f.infRung_lt
  have hm : f.word neg rung % f.signWeight = rung := by
    unfold Ieee.Format.word
    split
    · rw [Nat.add_mod_left, Nat.mod_eq_of_lt (by omega)]
    · rw [Nat.mod_eq_of_lt (by omega)]
  unfold Ieee.Format.read
  simp only [hm]
  split
  · rfl
  · split
    · rfl
    · split
      · rfl
      · omega
theorem fl_near (n : Int) : (FloatKind.f64.format.read (floatOfInt .f64 n)).isNaN = false := by
  unfold floatOfInt FloatKind.nearest FloatKind.encode Ieee.Format.write
  simp only []
  unfold Ieee.Format.nearest
  split
  · exact fl_word (Nat.zero_le _)
  · exact fl_word (Nat.min_le_right _ _)
theorem fl_quo {x c : Nat} (hx : (FloatKind.f64.format.read x).isNaN = false) {s : Bool} {m : Nat} {e : Int} (hc : FloatKind.f64.format.read c = .number s m e) (hm : m ≠ 0) : (floatBits .quo .f64 x c).isSome = true := by
  unfold floatBits
  simp only [Ieee.Format.div, hc]
  cases hd : FloatKind.f64.format.read x with
  | nan _ _ => rw [hd] at hx; cases hx
  | infinity s' => simp [Ieee.Datum.quotient]
  | number s' m' e' => simp [Ieee.Datum.quotient, hm]
theorem fl_inv {x : Nat} (hx : (FloatKind.f64.format.read x).isNaN = false) : (floatBits .quo .f64 4607182418800017408 x).isSome = true := by
  have h1 : FloatKind.f64.format.read 4607182418800017408 = .number false 4503599627370496 (-52) := by kernel_rfl
  unfold floatBits
  simp only [Ieee.Format.div, h1]
  cases hd : FloatKind.f64.format.read x with
  | nan _ _ => rw [hd] at hx; cases hx
  | infinity s' => simp [Ieee.Datum.quotient]
  | number s' m' e' =>
    simp only [Ieee.Datum.quotient]
    split <;> simp
theorem fl_order (x : Nat) : (FloatKind.f64.format.order x x == some Ordering.eq) = !(FloatKind.f64.format.read x).isNaN := by
  unfold Ieee.Format.order
  cases FloatKind.f64.format.read x with
  | nan _ _ => rfl
  | infinity s => cases s <;> rfl
  | number s m e => simp [Ieee.Datum.order, Ieee.Datum.isNaN]
theorem sameFloat_refl (x : Nat) : Ev (fun k => laws_sameFloat.f k x x) true := by
  have hbne : (FloatKind.f64.format.order x x != some Ordering.eq) = (FloatKind.f64.format.read x).isNaN := by
    rw [bne, fl_order, Bool.not_not]
  have key : ∀ b : Bool, b = (FloatKind.f64.format.read x).isNaN → Ev (fun k => laws_sameFloat.j0 k x x b) true := by
    intro b hb
    refine Ev.succ (fun k => ?_)
    simp only [laws_sameFloat.j0, hbne]
    cases hn : (FloatKind.f64.format.read x).isNaN with
    | true => rw [hn] at hb; subst hb; simp
    | false =>
      rw [hn] at hb; subst hb
      rw [if_neg (by simp)]
      split
      · obtain ⟨r, hr⟩ := Option.isSome_iff_exists.1 (fl_inv hn)
        simp [hr]
      · rw [fl_order, hn]; rfl
  refine Ev.congr (g := fun k => laws_sameFloat.f k x x) (f := fun k => laws_sameFloat.j0 k x x (FloatKind.f64.format.read x).isNaN) (fun k => ?_) (key _ rfl)
  unfold laws_sameFloat.f
  rw [hbne]
  cases (FloatKind.f64.format.read x).isNaN <;> simp

-- chunk spans: runs of bytes of a kind; numbers by their digits
def spanEnd (p : Int → Bool) (s : ByteArray) (i : Nat) : Nat :=
  if i < s.size then (if p (bt s i) then spanEnd p s (i + 1) else i) else i
termination_by s.size - i
theorem spanEnd_ge (p : Int → Bool) (s : ByteArray) (i : Nat) : i ≤ spanEnd p s i := by
  fun_induction spanEnd p s i <;> omega
theorem spanEnd_le (p : Int → Bool) (s : ByteArray) (i : Nat) (h : i ≤ s.size) : spanEnd p s i ≤ s.size := by
  fun_induction spanEnd p s i <;> omega
theorem spanEnd_in (p : Int → Bool) (s : ByteArray) (i : Nat) : ∀ j, i ≤ j → j < spanEnd p s i → p (bt s j) = true := by
  fun_induction spanEnd p s i with
  | case1 i h hp ih =>
    intro j h1 h2
    by_cases e : j = i
    · subst e; exact hp
    · exact ih j (by omega) h2
  | case2 i h hp => intro j h1 h2; omega
  | case3 i h => intro j h1 h2; omega
theorem spanEnd_at (p : Int → Bool) (s : ByteArray) (i : Nat) (h : spanEnd p s i < s.size) : p (bt s (spanEnd p s i)) = false := by
  fun_induction spanEnd p s i with
  | case1 i h hp ih => exact ih ‹_›
  | case2 i h hp => simpa using hp
  | case3 i h => omega
theorem spanEnd_eq (p : Int → Bool) (s : ByteArray) (i e : Nat) (h0 : i ≤ e) (h1 : e ≤ s.size) (h2 : ∀ j, i ≤ j → j < e → p (bt s j) = true) (h3 : e < s.size → p (bt s e) = false) : spanEnd p s i = e := by
  have a1 := spanEnd_ge p s i
  have a2 := spanEnd_in p s i
  have a3 := spanEnd_at p s i
  have a4 := spanEnd_le p s i (by omega)
  rcases Nat.lt_trichotomy (spanEnd p s i) e with h | h | h
  · have b1 := a3 (by omega)
    rw [h2 _ a1 h] at b1
    cases b1
  · exact h
  · have b1 := a2 e h0 h
    rw [h3 (by omega)] at b1
    cases b1
theorem span_ev (p : Int → Bool) (s : ByteArray) (F : Nat → Int → Option Int)
    (h1 : ∀ k (i : Nat), i < s.size → p (bt s i) = true → F (k + 1) i = F k ((i + 1 : Nat) : Int))
    (h0 : ∀ k (i : Nat), i < s.size → p (bt s i) = false → F (k + 1) i = some (i : Int))
    (h2 : ∀ k, F (k + 1) (s.size : Int) = some (s.size : Int)) (i : Nat) (hi : i ≤ s.size) : Ev (fun k => F k i) (spanEnd p s i : Int) := by
  fun_induction spanEnd p s i with
  | case1 i h hp ih => exact Ev.step (fun k => h1 k i h hp) (ih (by omega))
  | case2 i h hp => exact Ev.succ (fun k => h0 k i h (by simpa using hp))
  | case3 i h =>
    obtain rfl : i = s.size := by omega
    exact Ev.succ (fun k => h2 k)
theorem bt_ext {s : ByteArray} {a b i : Nat} (hb : b ≤ s.size) (h : a + i < b) : bt (s.extract a b) (i : Int) = bt s ((a + i : Nat) : Int) := by
  have h1 : (s.extract a b).size = b - a := by rw [ByteArray.size_extract]; omega
  unfold bt
  rw [dif_pos (by rw [Int.toNat_natCast, h1]; omega), dif_pos (by rw [Int.toNat_natCast]; omega)]
  simp only [Int.toNat_natCast]
  rw [ByteArray.getElem_extract]
theorem spanEnd_ext (p : Int → Bool) (s : ByteArray) (a b i : Nat) (hb : b ≤ s.size) (h : a + i ≤ b) (he : b = s.size ∨ spanEnd p s (a + i) ≤ b) : spanEnd p (s.extract a b) i = min (spanEnd p s (a + i)) b - a := by
  have h1 : (s.extract a b).size = b - a := by rw [ByteArray.size_extract]; omega
  have a1 := spanEnd_ge p s (a + i)
  have a4 := spanEnd_le p s (a + i) (by omega)
  refine spanEnd_eq p _ i _ (by omega) (by omega) (fun j h2 h3 => ?_) (fun h2 => ?_)
  · rw [bt_ext hb (by omega)]
    exact spanEnd_in p s (a + i) _ (by omega) (by omega)
  · rw [h1] at h2
    have h4 : min (spanEnd p s (a + i)) b = spanEnd p s (a + i) := by omega
    rw [h4] at h2 ⊢
    rw [bt_ext hb (by omega), show a + (spanEnd p s (a + i) - a) = spanEnd p s (a + i) by omega]
    exact spanEnd_at p s (a + i) (by omega)
def dig (c : Int) : Bool := decide (48 ≤ c ∧ c ≤ 57)
def letr (c : Int) : Bool := decide (97 ≤ c ∧ c ≤ 122 ∨ 65 ≤ c ∧ c ≤ 90)
def numF (g : Nat → Nat) : Nat → Nat → Nat → Nat
  | 0, _, acc => acc
  | c + 1, i, acc => numF g c (i + 1) (10 * acc + g i)
theorem numF_lt (g : Nat → Nat) (c : Nat) : ∀ i acc, (∀ j, i ≤ j → j < i + c → g j ≤ 9) → numF g c i acc < (acc + 1) * 10 ^ c := by
  induction c with
  | zero => intro i acc _; simp [numF]
  | succ c ih =>
    intro i acc h
    have h1 := ih (i + 1) (10 * acc + g i) (fun j h1 h2 => h j (by omega) (by omega))
    have h2 := h i (by omega) (by omega)
    simp only [numF]
    refine Nat.lt_of_lt_of_le h1 ?_
    rw [Nat.pow_succ, Nat.mul_comm (10 ^ c) 10, ← Nat.mul_assoc]
    exact Nat.mul_le_mul_right _ (by omega)
theorem numF_add (g : Nat → Nat) (c d : Nat) : ∀ i acc, numF g (c + d) i acc = numF g d (i + c) (numF g c i acc) := by
  induction c with
  | zero => intro i acc; simp [numF]
  | succ c ih =>
    intro i acc
    rw [show c + 1 + d = (c + d) + 1 by omega]
    simp only [numF]
    rw [ih, show i + 1 + c = i + (c + 1) by omega]
theorem numF_lin (g : Nat → Nat) (c : Nat) : ∀ i acc, numF g c i acc = acc * 10 ^ c + numF g c i 0 := by
  induction c with
  | zero => intro i acc; simp [numF]
  | succ c ih =>
    intro i acc
    simp only [numF]
    rw [ih (i + 1) (10 * acc + g i), ih (i + 1) (10 * 0 + g i), Nat.pow_succ, Nat.add_mul, Nat.add_mul, ← Nat.add_assoc, Nat.mul_comm (10 ^ c) 10, ← Nat.mul_assoc, Nat.mul_comm acc 10]
    omega
theorem numF_congr (g g' : Nat → Nat) (c : Nat) : ∀ i i' acc, (∀ j, j < c → g (i + j) = g' (i' + j)) → numF g c i acc = numF g' c i' acc := by
  induction c with
  | zero => intro i i' acc _; rfl
  | succ c ih =>
    intro i i' acc h
    have h0 := h 0 (by omega)
    simp only [Nat.add_zero] at h0
    simp only [numF]
    rw [h0]
    exact ih _ _ _ (fun j hj => by rw [show i + 1 + j = i + (j + 1) by omega, show i' + 1 + j = i' + (j + 1) by omega]; exact h (j + 1) (by omega))
def digAt (s : ByteArray) (i : Nat) : Nat := (bt s (i : Int) - 48).toNat
theorem digAt_le {s : ByteArray} {i : Nat} (h : dig (bt s (i : Int)) = true) : digAt s i ≤ 9 ∧ ((digAt s i : Nat) : Int) = (bt s (i : Int) - 48) % 256 := by
  have h := of_decide_eq_true h
  unfold digAt
  omega
/-- A number of at most 15 digits. -/
theorem num_ev (s : ByteArray) (F : Nat → Int → Int → Option Int) (hs : s.size ≤ 15) (hd : ∀ j, j < s.size → dig (bt s (j : Int)) = true)
    (h1 : ∀ k (x : Int) (i : Nat), i < s.size → 0 ≤ x → x < 100000000000000 → F (k + 1) x (i : Int) = F k (10 * x + (bt s (i : Int) - 48) % 256) ((i + 1 : Nat) : Int))
    (h2 : ∀ k x, F (k + 1) x (s.size : Int) = some x) : Ev (fun k => F k 0 0) (numF (digAt s) s.size 0 0 : Nat) := by
  have key : ∀ (c i acc : Nat), i + c = s.size → acc < 10 ^ i → Ev (fun k => F k (acc : Int) (i : Int)) (numF (digAt s) c i acc : Nat) := by
    intro c
    induction c with
    | zero =>
      intro i acc h _
      obtain rfl : i = s.size := by omega
      exact Ev.succ (fun k => h2 k _)
    | succ c ih =>
      intro i acc h ha
      have hp : 10 ^ i ≤ 10 ^ 14 := Nat.pow_le_pow_right (by omega) (by omega)
      have hg := digAt_le (hd i (by omega))
      have h3 := ih (i + 1) (10 * acc + digAt s i) (by omega) (by rw [Nat.pow_succ]; omega)
      refine Ev.step (fun k => h1 k _ i (by omega) (by omega) (by omega)) ?_
      have e : 10 * (acc : Int) + (bt s (i : Int) - 48) % 256 = ((10 * acc + digAt s i : Nat) : Int) := by rw [← hg.2]; omega
      rw [e]
      exact h3
  exact key s.size 0 0 (by omega) (by simp)
theorem dig_f {c : Int} (f : Int → Option Bool) (hf : ∀ a0, f a0 = if a0 ≥ 48 then (some (decide (a0 ≤ 57))) else (some false)) : f c = some (dig c) := by
  rw [hf]
  unfold dig
  split
  · congr 1; rw [decide_eq_decide]; omega
  · rw [decide_eq_false (by omega)]
theorem impl_isDigit_eq (c : Int) : impl_isDigit.f c = some (dig c) := dig_f _ (fun _ => rfl)
theorem spec_l7Digit_eq (c : Int) : spec_l7Digit.f c = some (dig c) := dig_f _ (fun _ => rfl)
theorem impl_runDigit_ev {s : ByteArray} (hs : s.size ≤ maxLen) {i : Nat} (hi : i ≤ s.size) : Ev (fun k => impl_run__impl_isDigit.f k s (i : Int)) (spanEnd dig s i : Int) := by
  unfold maxLen at hs
  refine span_ev dig s (fun k i => impl_run__impl_isDigit.l0 k s i) (fun k i h hp => ?_) (fun k i h hp => ?_) (fun k => ?_) i hi
  · simp only [impl_run__impl_isDigit.l0]
    rw [if_pos (by omega), if_pos (by omega), impl_isDigit_eq, hp, w64_succ h (by omega)]
    rfl
  · simp only [impl_run__impl_isDigit.l0]
    rw [if_pos (by omega), if_pos (by omega), impl_isDigit_eq, hp]
    rfl
  · simp only [impl_run__impl_isDigit.l0]
    rw [if_neg (by omega)]
theorem spec_l7Run_ev {s : ByteArray} (hs : s.size ≤ maxLen) {i : Nat} (hi : i ≤ s.size) : Ev (fun k => spec_l7Run.f k s (i : Int)) (spanEnd dig s i : Int) := by
  unfold maxLen at hs
  refine span_ev dig s (fun k i => spec_l7Run.l0 k s i) (fun k i h hp => ?_) (fun k i h hp => ?_) (fun k => ?_) i hi
  · simp only [spec_l7Run.l0]
    rw [if_pos (by omega), if_pos (by omega), spec_l7Digit_eq, hp, w64_succ h (by omega)]
    rfl
  · simp only [spec_l7Run.l0]
    rw [if_pos (by omega), if_pos (by omega), spec_l7Digit_eq, hp]
    rfl
  · simp only [spec_l7Run.l0]
    rw [if_neg (by omega)]
theorem impl_number_ev {s : ByteArray} (hs : s.size ≤ 15) (hd : ∀ j, j < s.size → dig (bt s (j : Int)) = true) : Ev (fun k => impl_number.f k s) (numF (digAt s) s.size 0 0 : Nat) := by
  refine num_ev s (fun k x i => impl_number.l0 k s x i) hs hd (fun k x i h h0 h1 => ?_) (fun k x => ?_)
  · simp only [impl_number.l0]
    have hb := bt_range s (i : Int)
    rw [if_pos (by omega), if_pos (by omega), w64_succ h (by omega), w64 (x := 10 * x) (by omega) (by omega), w64 (by omega) (by omega)]
  · simp only [impl_number.l0]
    rw [if_neg (by omega)]
theorem spec_l7Number_ev {s : ByteArray} (hs : s.size ≤ 15) (hd : ∀ j, j < s.size → dig (bt s (j : Int)) = true) : Ev (fun k => spec_l7Number.f k s) (numF (digAt s) s.size 0 0 : Nat) := by
  refine num_ev s (fun k x i => spec_l7Number.l0 k s x i) hs hd (fun k x i h h0 h1 => ?_) (fun k x => ?_)
  · simp only [spec_l7Number.l0]
    have hb := bt_range s (i : Int)
    rw [if_pos (by omega), if_pos (by omega), w64_succ h (by omega), w64 (x := x * 10) (by omega) (by omega), w64 (by omega) (by omega), Int.mul_comm x 10]
  · simp only [spec_l7Number.l0]
    rw [if_neg (by omega)]
theorem within_f {a b c : Int} (f : Int → Int → Int → Option Bool) (hf : ∀ a0 a1 a2, f a0 a1 a2 = if a0 ≥ a1 then (some (decide (a0 ≤ a2))) else (some false)) : f a b c = some (decide (b ≤ a ∧ a ≤ c)) := by
  rw [hf]
  split
  · congr 1; rw [decide_eq_decide]; omega
  · rw [decide_eq_false (by omega)]
theorem impl_within_eq (a b c : Int) : impl_within.f a b c = some (decide (b ≤ a ∧ a ≤ c)) := within_f _ (fun _ _ _ => rfl)
theorem spec_l1In_eq (a b c : Int) : spec_l1In.f a b c = some (decide (b ≤ a ∧ a ≤ c)) := within_f _ (fun _ _ _ => rfl)
def plainOk (s : ByteArray) (most : Nat) : Bool := decide (1 ≤ s.size ∧ s.size ≤ most) && decide (spanEnd dig s 0 = s.size) && (decide (s.size = 1) || bt s 0 != 48)
theorem impl_plain_ev {s : ByteArray} (hs : s.size ≤ maxLen) (most : Nat) : Ev (fun k => impl_plain.f k s (most : Int)) (plainOk s most) := by
  unfold impl_plain.f
  refine Ev.bindc (impl_within_eq _ _ _) ?_
  by_cases h1 : 1 ≤ s.size ∧ s.size ≤ most
  · rw [decide_eq_true (by omega)]
    refine Ev.congr (fun k => if_pos rfl) (Ev.bind (impl_runDigit_ev hs (i := 0) (by omega)) ?_)
    by_cases h2 : spanEnd dig s 0 = s.size
    · refine Ev.congr (fun k => if_pos (by omega)) ?_
      by_cases h3 : s.size = 1
      · refine Ev.congr (fun k => if_pos (by omega)) ?_
        have e : plainOk s most = true := by
          have h4 : 1 ≤ s.size ∧ s.size ≤ most := h1
          unfold plainOk
          rw [decide_eq_true h4, decide_eq_true h2, decide_eq_true h3]; rfl
        rw [e]; exact Ev.now _
      · refine Ev.congr (fun k => if_neg (by omega)) (Ev.congr (fun k => if_pos (by omega)) ?_)
        have e : plainOk s most = (bt s 0 != 48) := by simp [plainOk, h1, h2, h3]
        rw [e]; exact Ev.now _
    · refine Ev.congr (fun k => if_neg (by omega)) ?_
      have e : plainOk s most = false := by simp [plainOk, h2]
      rw [e]; exact Ev.now _
  · rw [decide_eq_false (by omega)]
    refine Ev.congr (fun k => if_neg (by simp)) ?_
    have e : plainOk s most = false := by unfold plainOk; rw [decide_eq_false h1]; rfl
    rw [e]; exact Ev.now _

-- chunk realof: RealOf
def realOk (s : ByteArray) : Bool :=
  let a := spanEnd dig s 0
  decide (1 ≤ a ∧ a ≤ 9) && (decide (a = 1) || bt s 0 != 48) && decide (a < s.size) && (bt s (a : Int) == 46) && decide (spanEnd dig s (a + 1) = s.size) && decide (1 ≤ s.size - (a + 1) ∧ s.size - (a + 1) ≤ 6)
def realNum (s : ByteArray) : Nat :=
  let a := spanEnd dig s 0
  let c := s.size - (a + 1)
  numF (digAt s) a 0 0 * 10 ^ c + numF (digAt s) c (a + 1) 0
def realVal (s : ByteArray) : Nat := (floatBits .quo .f64 (floatOfInt .f64 (realNum s : Int)) (floatOfInt .f64 ((10 ^ (s.size - (spanEnd dig s 0 + 1)) : Nat) : Int))).getD 0
def realOf (s : ByteArray) : Nat × Bool := if realOk s then (realVal s, true) else (0, false)
theorem fl_ten (c : Nat) (h1 : 1 ≤ c) (h2 : c ≤ 6) (x : Int) : (floatBits .quo .f64 (floatOfInt .f64 x) (floatOfInt .f64 ((10 ^ c : Nat) : Int))).isSome = true := by
  rcases (by omega : c = 1 ∨ c = 2 ∨ c = 3 ∨ c = 4 ∨ c = 5 ∨ c = 6) with rfl | rfl | rfl | rfl | rfl | rfl
  · exact fl_quo (fl_near x) (s := false) (m := 5629499534213120) (e := -49) (by kernel_rfl) (by decide)
  · exact fl_quo (fl_near x) (s := false) (m := 7036874417766400) (e := -46) (by kernel_rfl) (by decide)
  · exact fl_quo (fl_near x) (s := false) (m := 8796093022208000) (e := -43) (by kernel_rfl) (by decide)
  · exact fl_quo (fl_near x) (s := false) (m := 5497558138880000) (e := -39) (by kernel_rfl) (by decide)
  · exact fl_quo (fl_near x) (s := false) (m := 6871947673600000) (e := -36) (by kernel_rfl) (by decide)
  · exact fl_quo (fl_near x) (s := false) (m := 8589934592000000) (e := -33) (by kernel_rfl) (by decide)
theorem fl_step (c : Nat) (h2 : c < 6) : floatBits .mul .f64 4621819117588971520 (floatOfInt .f64 ((10 ^ c : Nat) : Int)) = some (floatOfInt .f64 ((10 ^ (c + 1) : Nat) : Int)) := by
  rcases (by omega : c = 0 ∨ c = 1 ∨ c = 2 ∨ c = 3 ∨ c = 4 ∨ c = 5) with rfl | rfl | rfl | rfl | rfl | rfl <;> kernel_rfl
theorem fl_one : (4607182418800017408 : Nat) = floatOfInt .f64 ((10 ^ 0 : Nat) : Int) := by kernel_rfl
theorem spec_RealOf_ev {s : ByteArray} (hs : s.size ≤ maxLen) : Ev (fun k => spec_RealOf.f k s) (realOf s) := by
  have hs' := hs
  unfold maxLen at hs'
  have a1 := spanEnd_le dig s 0 (by omega)
  obtain ⟨a, ha⟩ : ∃ a, a = spanEnd dig s 0 := ⟨_, rfl⟩
  have no : ∀ c : Bool, c = true → realOk s = false → Ev (fun k => spec_RealOf.j0 k s (a : Int) c) (realOf s) := by
    rintro c rfl h
    refine Ev.succ (fun k => ?_)
    simp only [spec_RealOf.j0, if_true]
    rw [realOf, h]; rfl
  have yes : 1 ≤ a → a ≤ 9 → (a = 1 ∨ bt s 0 ≠ 48) → ∀ c : Bool, a < s.size → c = (bt s (a : Int) != 46) → Ev (fun k => spec_RealOf.j0 k s (a : Int) c) (realOf s) := by
    intro h1 h2 h0 c h3 hc
    cases c with
    | true =>
      refine no _ rfl ?_
      have : bt s (a : Int) ≠ 46 := by simpa using hc.symm
      unfold realOk
      simp [← ha, this]
    | false =>
      have h4 : bt s (a : Int) = 46 := by simpa using hc.symm
      have b1 := spanEnd_ge dig s (a + 1)
      have b2 := spanEnd_le dig s (a + 1) (by omega)
      have b3 := spanEnd_in dig s (a + 1)
      have hrun := spec_l7Run_ev hs (i := a + 1) (by omega)
      obtain ⟨b, hb⟩ : ∃ b, b = spanEnd dig s (a + 1) := ⟨_, rfl⟩
      rw [← hb] at b1 b2 b3 hrun
      have w1 : wrap64 ((a : Int) + 1) = ((a + 1 : Nat) : Int) := by rw [w64 (by omega) (by omega)]; omega
      have w2 : wrap64 (wrap64 ((b : Int) - (a : Int)) - 1) = ((b - (a + 1) : Nat) : Int) := by rw [w64 (x := (b : Int) - a) (by omega) (by omega), w64 (by omega) (by omega)]; omega
      have j1t : realOk s = false → Ev (fun k => spec_RealOf.j1 k s (a : Int) ((b - (a + 1) : Nat) : Int) true) (realOf s) := by
        intro h
        refine Ev.succ (fun k => ?_)
        simp only [spec_RealOf.j1, if_true]
        rw [realOf, h]; rfl
      refine Ev.step (f := fun k => (spec_l7Run.f k s ((a + 1 : Nat) : Int)).bind fun t104 => (if t104 = (s.size : Int) then ((spec_l1In.f (wrap64 ((wrap64 (t104 - (a : Int))) - 1)) 1 6).bind fun t105 => (spec_RealOf.j1 k s (a : Int) (wrap64 ((wrap64 (t104 - (a : Int))) - 1)) (!t105))) else (spec_RealOf.j1 k s (a : Int) (wrap64 ((wrap64 (t104 - (a : Int))) - 1)) true))) (fun k => ?_) ?_
      · simp only [spec_RealOf.j0]
        rw [if_neg (by simp), w1]
      refine Ev.bind hrun ?_
      rw [w2]
      by_cases hbs : b = s.size
      · refine Ev.congr (fun k => if_pos (by omega)) (Ev.bindc (spec_l1In_eq _ _ _) ?_)
        by_cases hk : 1 ≤ b - (a + 1) ∧ b - (a + 1) ≤ 6
        · rw [decide_eq_true (by omega)]
          have hok : realOk s = true := by
            have q0 : (decide (a = 1) || bt s 0 != 48) = true := by rcases h0 with h | h <;> simp [h]
            have q1 : 1 ≤ s.size - (a + 1) ∧ s.size - (a + 1) ≤ 6 := by omega
            unfold realOk
            simp only [← ha, ← hb]
            rw [decide_eq_true (show 1 ≤ a ∧ a ≤ 9 from ⟨h1, h2⟩), q0, decide_eq_true h3, decide_eq_true hbs, decide_eq_true q1, h4]
            rfl
          subst hbs
          obtain ⟨c, hc⟩ : ∃ c, c = s.size - (a + 1) := ⟨_, rfl⟩
          rw [← hc] at hk ⊢
          refine Ev.step (f := fun k => spec_RealOf.l0 k s (a : Int) (c : Int) 1 0) (fun k => ?_) ?_
          · simp only [spec_RealOf.j1]
            rw [if_neg (by simp)]
          have loop : ∀ d i : Nat, i + d = c → Ev (fun k => spec_RealOf.l0 k s (a : Int) (c : Int) ((10 ^ i : Nat) : Int) (i : Int)) (realOf s) := by
            intro d
            induction d with
            | zero =>
              intro i hi
              obtain rfl : i = c := by omega
              have e1 : (s.extract 0 a).size = a := by rw [ByteArray.size_extract]; omega
              have e2 : (s.extract (a + 1) s.size).size = i := by rw [ByteArray.size_extract]; omega
              have n1 := spec_l7Number_ev (s := s.extract 0 a) (by omega) (fun j hj => by rw [e1] at hj; rw [bt_ext (by omega) (by omega), Nat.zero_add]; exact spanEnd_in dig s 0 j (by omega) (by omega))
              have n2 := spec_l7Number_ev (s := s.extract (a + 1) s.size) (by omega) (fun j hj => by rw [e2] at hj; rw [bt_ext (by omega) (by omega)]; exact b3 _ (by omega) (by omega))
              rw [e1, numF_congr _ (digAt s) a 0 0 0 (fun j hj => by unfold digAt; rw [Nat.zero_add, bt_ext (by omega) (by omega), Nat.zero_add])] at n1
              rw [e2, numF_congr _ (digAt s) i 0 (a + 1) 0 (fun j hj => by unfold digAt; rw [Nat.zero_add, bt_ext (by omega) (by omega)])] at n2
              have m1 := numF_lt (digAt s) a 0 0 (fun j _ hj => (digAt_le (spanEnd_in dig s 0 j (by omega) (by omega))).1)
              have m2 := numF_lt (digAt s) i (a + 1) 0 (fun j hj1 hj => (digAt_le (b3 j (by omega) (by omega))).1)
              have p1 : 10 ^ a ≤ 10 ^ 9 := Nat.pow_le_pow_right (by omega) (by omega)
              have p2 : 10 ^ i ≤ 10 ^ 6 := Nat.pow_le_pow_right (by omega) (by omega)
              have p3 : numF (digAt s) a 0 0 * 10 ^ i ≤ 10 ^ 9 * 10 ^ 6 := Nat.mul_le_mul (by omega) p2
              refine Ev.step (f := fun k => (spec_l7Number.f k (s.extract 0 a)).bind fun t106 => ((spec_l7Number.f k (s.extract (a + 1) s.size)).bind fun t107 => (if (floatBits .quo .f64 (floatOfInt .f64 (wrap64 ((wrap64 (t106 * ((10 ^ i : Nat) : Int))) + t107))) (floatOfInt .f64 ((10 ^ i : Nat) : Int))).isSome = true then (some ((floatBits .quo .f64 (floatOfInt .f64 (wrap64 ((wrap64 (t106 * ((10 ^ i : Nat) : Int))) + t107))) (floatOfInt .f64 ((10 ^ i : Nat) : Int))).getD 0, true)) else (none)))) (fun k => ?_) ?_
              · simp only [spec_RealOf.l0]
                rw [if_neg (by omega), if_pos (by omega), if_pos (by omega)]
                simp only [w1, Int.toNat_natCast]
                refine congrArg (Option.bind _) (funext fun t => ?_)
                rw [if_pos (by omega), if_pos (by omega)]
              refine Ev.bind n1 (Ev.bind n2 ?_)
              have wv : wrap64 (wrap64 (((numF (digAt s) a 0 0 : Nat) : Int) * ((10 ^ i : Nat) : Int)) + ((numF (digAt s) i (a + 1) 0 : Nat) : Int)) = ((realNum s : Nat) : Int) := by
                rw [← Int.natCast_mul, w64 (x := ((numF (digAt s) a 0 0 * 10 ^ i : Nat) : Int)) (by omega) (by omega), w64 (by omega) (by omega)]
                unfold realNum
                simp only [← ha, ← hc]
                omega
              rw [wv]
              refine Ev.congr (fun k => if_pos (fl_ten i hk.1 hk.2 _)) ?_
              have e : realOf s = ((floatBits .quo .f64 (floatOfInt .f64 ((realNum s : Nat) : Int)) (floatOfInt .f64 ((10 ^ i : Nat) : Int))).getD 0, true) := by
                unfold realOf realVal
                rw [if_pos hok, ← ha, ← hc]
              rw [e]
              exact Ev.now _
            | succ d ih =>
              intro i hi
              have p2 : 10 ^ i ≤ 10 ^ 5 := Nat.pow_le_pow_right (by omega) (by omega)
              have h5 := ih (i + 1) (by omega)
              rw [Nat.pow_succ] at h5
              obtain ⟨P, hP⟩ : ∃ P, P = 10 ^ i := ⟨_, rfl⟩
              rw [← hP] at p2 h5 ⊢
              refine Ev.step (fun k => ?_) h5
              simp only [spec_RealOf.l0]
              rw [if_pos (by omega), w64_succ (n := c) (by omega) (by omega), w64 (by omega) (by omega)]
              rfl
          exact loop c 0 (by omega)
        · rw [decide_eq_false (by omega)]
          refine j1t ?_
          unfold realOk
          simp only [← ha]
          subst hbs
          rw [decide_eq_false (p := 1 ≤ s.size - (a + 1) ∧ s.size - (a + 1) ≤ 6) hk, Bool.and_false]
      · refine Ev.congr (fun k => if_neg (by omega)) (j1t ?_)
        unfold realOk
        simp only [← ha, ← hb]
        rw [decide_eq_false hbs, Bool.and_false, Bool.false_and]
  unfold spec_RealOf.f
  have hrun := spec_l7Run_ev hs (i := 0) (by omega)
  rw [← ha] at hrun a1
  refine Ev.bind hrun (Ev.bindc (spec_l1In_eq _ _ _) ?_)
  have tail : 1 ≤ a → a ≤ 9 → (a = 1 ∨ bt s 0 ≠ 48) → Ev (fun k => if (a : Int) ≥ (s.size : Int) then (spec_RealOf.j0 k s (a : Int) true) else (if 0 ≤ (a : Int) then (if (a : Int) < (s.size : Int) then (spec_RealOf.j0 k s (a : Int) ((bt s (a : Int)) != 46)) else (none)) else (none))) (realOf s) := by
    intro h1 h2 h0
    by_cases h3 : a < s.size
    · exact Ev.congr (fun k => by rw [if_neg (by omega), if_pos (by omega), if_pos (by omega)]) (yes h1 h2 h0 _ h3 rfl)
    · refine Ev.congr (fun k => if_pos (by omega)) (no _ rfl ?_)
      unfold realOk
      simp only [← ha]
      rw [decide_eq_false h3]
      simp
  by_cases h1 : 1 ≤ a ∧ a ≤ 9
  · rw [decide_eq_true (by omega)]
    refine Ev.congr (fun k => if_pos rfl) ?_
    by_cases h2 : a = 1
    · exact Ev.congr (fun k => if_neg (by omega)) (tail h1.1 h1.2 (.inl h2))
    · refine Ev.congr (fun k => by rw [if_pos (by omega), if_pos (by omega)]) ?_
      by_cases h5 : bt s 0 = 48
      · refine Ev.congr (fun k => if_pos h5) (no _ rfl ?_)
        unfold realOk
        simp only [← ha]
        simp [h2, h5]
      · exact Ev.congr (fun k => if_neg h5) (tail h1.1 h1.2 (.inr h5))
  · rw [decide_eq_false (by omega)]
    refine Ev.congr (fun k => if_neg (by simp)) (no _ rfl ?_)
    unfold realOk
    simp only [← ha]
    rw [decide_eq_false h1]
    simp
theorem impl_RealOf_ev {s : ByteArray} (hs : s.size ≤ maxLen) : Ev (fun k => impl_RealOf.f k s) (realOf s) := by
  have hs' := hs
  unfold maxLen at hs'
  have a1 := spanEnd_le dig s 0 (by omega)
  obtain ⟨a, ha⟩ : ∃ a, a = spanEnd dig s 0 := ⟨_, rfl⟩
  have no : ∀ c : Bool, c = true → realOk s = false → Ev (fun k => impl_RealOf.j0 k s (a : Int) c) (realOf s) := by
    rintro c rfl h
    refine Ev.succ (fun k => ?_)
    simp only [impl_RealOf.j0, if_true]
    rw [realOf, h]; rfl
  unfold impl_RealOf.f
  have hrun := impl_runDigit_ev hs (i := 0) (by omega)
  rw [← ha] at hrun a1
  refine Ev.bind hrun ?_
  by_cases h3 : a < s.size
  · refine Ev.congr (fun k => by rw [if_neg (by omega), if_pos (by omega), if_pos (by omega)]) ?_
    by_cases h4 : bt s (a : Int) = 46
    · have hc : (bt s (a : Int) != 46) = false := by simp [h4]
      rw [hc]
      have e1 : (s.extract 0 a).size = a := by rw [ByteArray.size_extract]; omega
      obtain ⟨c, hcc⟩ : ∃ c, c = s.size - (a + 1) := ⟨_, rfl⟩
      have e2 : (s.extract (a + 1) s.size).size = c := by rw [ByteArray.size_extract]; omega
      have w1 : wrap64 ((a : Int) + 1) = ((a + 1 : Nat) : Int) := by rw [w64 (by omega) (by omega)]; omega
      have b1 := spanEnd_ge dig s (a + 1)
      have b2 := spanEnd_le dig s (a + 1) (by omega)
      have b3 := spanEnd_in dig s (a + 1)
      obtain ⟨b, hb⟩ : ∃ b, b = spanEnd dig s (a + 1) := ⟨_, rfl⟩
      rw [← hb] at b1 b2 b3
      obtain ⟨W, hW⟩ : ∃ W, W = s.extract 0 a := ⟨_, rfl⟩
      obtain ⟨Q, hQ⟩ : ∃ Q, Q = s.extract (a + 1) s.size := ⟨_, rfl⟩
      have j1t : realOk s = false → Ev (fun k => impl_RealOf.j1 k W Q true) (realOf s) := by
        intro h
        refine Ev.succ (fun k => ?_)
        simp only [impl_RealOf.j1, if_true]
        rw [realOf, h]; rfl
      have sW : spanEnd dig W 0 = a := by
        rw [hW]
        refine spanEnd_eq dig _ 0 a (by omega) (by omega) (fun j _ hj => ?_) (fun h => by omega)
        rw [bt_ext (by omega) (by omega), Nat.zero_add]
        exact spanEnd_in dig s 0 j (by omega) (by omega)
      have sQ : spanEnd dig Q 0 = b - (a + 1) := by
        rw [hQ, spanEnd_ext dig s (a + 1) s.size 0 (by omega) (by omega) (.inl rfl), Nat.add_zero, ← hb]
        omega
      have bW : 1 ≤ a → bt W 0 = bt s 0 := by
        intro h
        have := bt_ext (s := s) (a := 0) (b := a) (i := 0) (by omega) (by omega)
        rw [hW]
        simpa using this
      refine Ev.step (f := fun k => (impl_plain.f k W 9).bind fun t112 => (if t112 = true then ((impl_within.f (Q.size : Int) 1 6).bind fun t113 => (if t113 = true then ((impl_run__impl_isDigit.f k Q 0).bind fun t114 => (impl_RealOf.j1 k W Q (t114 != (Q.size : Int)))) else (impl_RealOf.j1 k W Q true))) else (impl_RealOf.j1 k W Q true))) (fun k => ?_) ?_
      · simp only [impl_RealOf.j0, w1, Int.toNat_natCast, ← hW, ← hQ]
        rw [if_neg (by simp), if_pos (by omega), if_pos (by omega), if_pos (by omega), if_pos (by omega)]
      rw [← hW] at e1
      rw [← hQ] at e2
      refine Ev.bind (impl_plain_ev (s := W) (by unfold maxLen; omega) 9) ?_
      by_cases h1 : plainOk W 9 = true
      · rw [h1]
        refine Ev.congr (fun k => if_pos rfl) (Ev.bindc (impl_within_eq _ _ _) ?_)
        unfold plainOk at h1
        simp only [Bool.and_eq_true, Bool.or_eq_true, decide_eq_true_eq, e1] at h1
        obtain ⟨⟨⟨g1, g2⟩, _⟩, g3⟩ := h1
        have q0 : (decide (a = 1) || bt s 0 != 48) = true := by
          rw [← bW g1]
          rcases g3 with h | h
          · simp [h]
          · rw [h]; simp
        by_cases hk : 1 ≤ c ∧ c ≤ 6
        · rw [decide_eq_true (by omega)]
          refine Ev.congr (fun k => if_pos rfl) (Ev.bind (impl_runDigit_ev (s := Q) (by unfold maxLen; omega) (i := 0) (by omega)) ?_)
          rw [sQ, e2]
          by_cases hbs : b = s.size
          · have hok : realOk s = true := by
              unfold realOk
              simp only [← ha, ← hb, ← hcc]
              rw [decide_eq_true (show 1 ≤ a ∧ a ≤ 9 from ⟨g1, g2⟩), q0, decide_eq_true h3, decide_eq_true hbs, decide_eq_true hk, h4]
              rfl
            have e3 : (((b - (a + 1) : Nat) : Int) != (c : Int)) = false := by rw [bne_eq_false_iff_eq]; omega
            rw [e3]
            refine Ev.step (f := fun k => impl_RealOf.l0 k W Q (floatOfInt .f64 ((10 ^ 0 : Nat) : Int)) (c : Int) 0) (fun k => ?_) ?_
            · simp only [impl_RealOf.j1]
              rw [if_neg (by simp), e2, ← fl_one]
            have loop : ∀ d i : Nat, i + d = c → Ev (fun k => impl_RealOf.l0 k W Q (floatOfInt .f64 ((10 ^ i : Nat) : Int)) (c : Int) (i : Int)) (realOf s) := by
              intro d
              induction d with
              | zero =>
                intro i hi
                obtain rfl : i = c := by omega
                have e4 : (W ++ Q).size = a + i := by rw [ByteArray.size_append, e1, e2]
                have bcat : ∀ j, j < a + i → bt (W ++ Q) (j : Int) = bt s ((if j < a then j else j + 1 : Nat) : Int) := by
                  intro j hj
                  unfold bt
                  rw [dif_pos (by rw [Int.toNat_natCast, e4]; exact hj), dif_pos (by rw [Int.toNat_natCast]; split <;> omega)]
                  simp only [Int.toNat_natCast]
                  by_cases hja : j < a
                  · rw [ByteArray.getElem_append_left (by rw [e1]; exact hja)]
                    simp only [hW, ByteArray.getElem_extract, if_pos hja, Nat.zero_add]
                  · rw [ByteArray.getElem_append_right (by rw [e1]; omega)]
                    simp only [hQ, ByteArray.getElem_extract, if_neg hja, e1]
                    have : a + 1 + (j - a) = j + 1 := by omega
                    simp only [this]
                have n1 := impl_number_ev (s := W ++ Q) (by omega) (fun j hj => by
                  rw [e4] at hj
                  rw [bcat j hj]
                  split
                  · exact spanEnd_in dig s 0 j (by omega) (by omega)
                  · exact b3 _ (by omega) (by omega))
                have ev : numF (digAt (W ++ Q)) (W ++ Q).size 0 0 = realNum s := by
                  rw [e4, numF_add, numF_lin, Nat.zero_add, numF_congr _ (digAt s) a 0 0 0 (fun j hj => by unfold digAt; rw [Nat.zero_add, bcat j (by omega), if_pos hj]), numF_congr _ (digAt s) i a (a + 1) 0 (fun j hj => by unfold digAt; rw [bcat _ (by omega), if_neg (by omega)]; congr 3; omega)]
                  unfold realNum
                  simp only [← ha, ← hcc]
                rw [ev] at n1
                refine Ev.step (f := fun k => (impl_number.f k (W ++ Q)).bind fun t115 => (if (floatBits .quo .f64 (floatOfInt .f64 t115) (floatOfInt .f64 ((10 ^ i : Nat) : Int))).isSome = true then (some ((floatBits .quo .f64 (floatOfInt .f64 t115) (floatOfInt .f64 ((10 ^ i : Nat) : Int))).getD 0, true)) else (none))) (fun k => ?_) ?_
                · simp only [impl_RealOf.l0]
                  rw [if_neg (by omega), if_pos (by omega)]
                refine Ev.bind n1 ?_
                refine Ev.congr (fun k => if_pos (fl_ten i hk.1 hk.2 _)) ?_
                have e : realOf s = ((floatBits .quo .f64 (floatOfInt .f64 ((realNum s : Nat) : Int)) (floatOfInt .f64 ((10 ^ i : Nat) : Int))).getD 0, true) := by
                  unfold realOf realVal
                  rw [if_pos hok, ← ha, ← hcc]
                rw [e]
                exact Ev.now _
              | succ d ih =>
                intro i hi
                have h5 := ih (i + 1) (by omega)
                have h6 := fl_step i (by omega)
                refine Ev.step (fun k => ?_) h5
                simp only [impl_RealOf.l0, h6]
                rw [if_pos (by omega), if_pos (show (some _).isSome = true from rfl), w64_succ (n := c) (by omega) (by omega)]
                rfl
            exact loop c 0 (by omega)
          · have e3 : (((b - (a + 1) : Nat) : Int) != (c : Int)) = true := by rw [bne_iff_ne]; omega
            rw [e3]
            refine j1t ?_
            unfold realOk
            simp only [← ha, ← hb]
            rw [decide_eq_false hbs, Bool.and_false, Bool.false_and]
        · rw [decide_eq_false (by omega)]
          refine Ev.congr (fun k => if_neg (by simp)) (j1t ?_)
          unfold realOk
          simp only [← ha, ← hcc]
          rw [decide_eq_false hk, Bool.and_false]
      · have h1' : plainOk W 9 = false := by simpa using h1
        rw [h1']
        refine Ev.congr (fun k => if_neg (by simp)) (j1t ?_)
        have q : (decide (1 ≤ a ∧ a ≤ 9) && (decide (a = 1) || bt s 0 != 48)) = false := by
          unfold plainOk at h1'
          rw [e1, sW, decide_eq_true (rfl : a = a), Bool.and_true] at h1'
          by_cases g : 1 ≤ a
          · rw [bW g] at h1'; exact h1'
          · rw [decide_eq_false (by omega)]; rfl
        unfold realOk
        simp only [← ha]
        rw [q]
        simp
    · have hc : (bt s (a : Int) != 46) = true := by simp [h4]
      rw [hc]
      refine no _ rfl ?_
      unfold realOk
      simp only [← ha]
      simp [h4]
  · refine Ev.congr (fun k => if_pos (by omega)) (no _ rfl ?_)
    unfold realOk
    simp only [← ha]
    rw [decide_eq_false h3]
    simp

theorem proof : Pure := by
  intro s hs
  refine Ev.rounds ?_
  unfold laws_FnExactRealOf.f
  by_cases hb : (s.size : Int) > 1048576
  · exact Ev.congr (fun k => if_pos hb) (Ev.now _)
  refine Ev.congr (fun k => if_neg hb) ?_
  refine Ev.bind (spec_RealOf_ev hs) (Ev.bind (impl_RealOf_ev hs) (Ev.bind (sameFloat_refl _) ?_))
  exact Ev.of_eq (fun k => by simp)


end Go.Proofs.Ytpdcgnfdffbolaa.fnExactRealOf
