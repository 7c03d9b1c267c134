/- The law FnExactFold holds of the program's own functions, told over lists and numbers: for every argument it returns true. Conditions: none beyond the given row's own. -/
import Derived.Test.YtiiakeakfllpjaaSaysFnExactFold
import Derived.Test.YtiiakeakfllpjaaKit
namespace Go.Proofs.Ytiiakeakfllpjaa.fnExactFold
open Go.RowKit Go.Proofs.Ytiiakeakfllpjaa.PFnExactFold Go.Proofs.YtiiakeakfllpjaaW.PrintWords Go.Proofs.YtiiakeakfllpjaaW.PrintLast Go.Proofs.Ytiiakeakfllpjaa.Own
set_option linter.unusedVariables false
set_option linter.unusedSimpArgs false
-- chunk ints: lists of numbers are copied, and the same as themselves
theorem toIntS_ev {l : List Int} (hl : l.length ≤ 35184372088832) : Ev (fun k => laws_toIntS.f k l) l := by
  unfold laws_toIntS.f
  simp only [Int.natCast_nonneg, if_true, Int.toNat_natCast, if_pos hl]
  have h := fill_ev l (fun x : Int => x) (fun k ys i => laws_toIntS.l0 k l ys i) (fun i h ys hy r hr => ?_) (fun ys => ?_) (List.replicate l.length 0) (by simp)
  · simpa using h
  · refine Ev.step (fun k => ?_) hr
    simp only [laws_toIntS.l0]
    rw [if_pos (by omega), if_pos (by omega), if_pos (by omega), rd_lt _ h, w64_succ h (by omega), Int.toNat_natCast]
  · refine Ev.succ (fun k => ?_)
    simp only [laws_toIntS.l0]
    rw [if_neg (by omega)]
theorem eqIntS_refl {l : List Int} (hl : l.length ≤ 35184372088832) : Ev (fun k => laws_eqIntS.f k l l) true := by
  unfold laws_eqIntS.f
  simp only [if_true]
  refine down_ev (fun k i => laws_eqIntS.l0 k l l i) l.length true (fun i h hr => ?_) ?_ 0 (by omega)
  · refine Ev.step (fun k => ?_) hr
    simp only [laws_eqIntS.l0]
    rw [if_pos (by omega), if_pos (by omega), if_pos (by omega), if_pos trivial, w64_succ h (by omega)]
  · refine Ev.succ (fun k => ?_)
    simp only [laws_eqIntS.l0]
    rw [if_neg (by omega)]

-- chunk floats: what a float reads as; a float is the same as itself
theorem fl_word {f : Ieee.Format} {neg : Bool} {rung : Nat} (h : rung ≤ f.infRung) : (f.read (f.word neg rung)).isNaN = false := by
  have hlt := f.infRung_lt
  have hm : f.word neg rung % f.signWeight = rung := by
    unfold Ieee.Format.word
    split
    · rw [Nat.add_mod_left, Nat.mod_eq_of_lt (by omega)]
    · rw [Nat.mod_eq_of_lt (by omega)]
  unfold Ieee.Format.read
  simp only [hm]
  split
  · rfl
  · split
    · rfl
    · split
      · rfl
      · omega
theorem fl_near (n : Int) : (FloatKind.f64.format.read (floatOfInt .f64 n)).isNaN = false := by
  unfold floatOfInt FloatKind.nearest FloatKind.encode Ieee.Format.write
  simp only []
  unfold Ieee.Format.nearest
  split
  · exact fl_word (Nat.zero_le _)
  · exact fl_word (Nat.min_le_right _ _)
theorem fl_quo {x c : Nat} (hx : (FloatKind.f64.format.read x).isNaN = false) {s : Bool} {m : Nat} {e : Int} (hc : FloatKind.f64.format.read c = .number s m e) (hm : m ≠ 0) : (floatBits .quo .f64 x c).isSome = true := by
  unfold floatBits
  simp only [Ieee.Format.div, hc]
  cases hd : FloatKind.f64.format.read x with
  | nan _ _ => rw [hd] at hx; cases hx
  | infinity s' => simp [Ieee.Datum.quotient]
  | number s' m' e' => simp [Ieee.Datum.quotient, hm]
def spanEnd (p : Int → Bool) (s : ByteArray) (i : Nat) : Nat :=
  if i < s.size then (if p (bt s i) then spanEnd p s (i + 1) else i) else i
termination_by s.size - i
theorem spanEnd_ge (p : Int → Bool) (s : ByteArray) (i : Nat) : i ≤ spanEnd p s i := by
  fun_induction spanEnd p s i <;> omega
theorem spanEnd_le (p : Int → Bool) (s : ByteArray) (i : Nat) (h : i ≤ s.size) : spanEnd p s i ≤ s.size := by
  fun_induction spanEnd p s i <;> omega
theorem spanEnd_in (p : Int → Bool) (s : ByteArray) (i : Nat) : ∀ j, i ≤ j → j < spanEnd p s i → p (bt s j) = true := by
  fun_induction spanEnd p s i with
  | case1 i h hp ih =>
    intro j h1 h2
    by_cases e : j = i
    · subst e; exact hp
    · exact ih j (by omega) h2
  | case2 i h hp => intro j h1 h2; omega
  | case3 i h => intro j h1 h2; omega
theorem spanEnd_at (p : Int → Bool) (s : ByteArray) (i : Nat) (h : spanEnd p s i < s.size) : p (bt s (spanEnd p s i)) = false := by
  fun_induction spanEnd p s i with
  | case1 i h hp ih => exact ih ‹_›
  | case2 i h hp => simpa using hp
  | case3 i h => omega
theorem spanEnd_eq (p : Int → Bool) (s : ByteArray) (i e : Nat) (h0 : i ≤ e) (h1 : e ≤ s.size) (h2 : ∀ j, i ≤ j → j < e → p (bt s j) = true) (h3 : e < s.size → p (bt s e) = false) : spanEnd p s i = e := by
  have a1 := spanEnd_ge p s i
  have a2 := spanEnd_in p s i
  have a3 := spanEnd_at p s i
  have a4 := spanEnd_le p s i (by omega)
  rcases Nat.lt_trichotomy (spanEnd p s i) e with h | h | h
  · have b1 := a3 (by omega)
    rw [h2 _ a1 h] at b1
    cases b1
  · exact h
  · have b1 := a2 e h0 h
    rw [h3 (by omega)] at b1
    cases b1
theorem span_ev (p : Int → Bool) (s : ByteArray) (F : Nat → Int → Option Int)
    (h1 : ∀ k (i : Nat), i < s.size → p (bt s i) = true → F (k + 1) i = F k ((i + 1 : Nat) : Int))
    (h0 : ∀ k (i : Nat), i < s.size → p (bt s i) = false → F (k + 1) i = some (i : Int))
    (h2 : ∀ k, F (k + 1) (s.size : Int) = some (s.size : Int)) (i : Nat) (hi : i ≤ s.size) : Ev (fun k => F k i) (spanEnd p s i : Int) := by
  fun_induction spanEnd p s i with
  | case1 i h hp ih => exact Ev.step (fun k => h1 k i h hp) (ih (by omega))
  | case2 i h hp => exact Ev.succ (fun k => h0 k i h (by simpa using hp))
  | case3 i h =>
    obtain rfl : i = s.size := by omega
    exact Ev.succ (fun k => h2 k)
theorem bt_ext {s : ByteArray} {a b i : Nat} (hb : b ≤ s.size) (h : a + i < b) : bt (s.extract a b) (i : Int) = bt s ((a + i : Nat) : Int) := by
  have h1 : (s.extract a b).size = b - a := by rw [ByteArray.size_extract]; omega
  unfold bt
  rw [dif_pos (by rw [Int.toNat_natCast, h1]; omega), dif_pos (by rw [Int.toNat_natCast]; omega)]
  simp only [Int.toNat_natCast]
  rw [ByteArray.getElem_extract]
theorem spanEnd_ext (p : Int → Bool) (s : ByteArray) (a b i : Nat) (hb : b ≤ s.size) (h : a + i ≤ b) (he : b = s.size ∨ spanEnd p s (a + i) ≤ b) : spanEnd p (s.extract a b) i = min (spanEnd p s (a + i)) b - a := by
  have h1 : (s.extract a b).size = b - a := by rw [ByteArray.size_extract]; omega
  have a1 := spanEnd_ge p s (a + i)
  have a4 := spanEnd_le p s (a + i) (by omega)
  refine spanEnd_eq p _ i _ (by omega) (by omega) (fun j h2 h3 => ?_) (fun h2 => ?_)
  · rw [bt_ext hb (by omega)]
    exact spanEnd_in p s (a + i) _ (by omega) (by omega)
  · rw [h1] at h2
    have h4 : min (spanEnd p s (a + i)) b = spanEnd p s (a + i) := by omega
    rw [h4] at h2 ⊢
    rw [bt_ext hb (by omega), show a + (spanEnd p s (a + i) - a) = spanEnd p s (a + i) by omega]
    exact spanEnd_at p s (a + i) (by omega)
def dig (c : Int) : Bool := decide (48 ≤ c ∧ c ≤ 57)
def letr (c : Int) : Bool := decide (97 ≤ c ∧ c ≤ 122 ∨ 65 ≤ c ∧ c ≤ 90)
def numF (g : Nat → Nat) : Nat → Nat → Nat → Nat
  | 0, _, acc => acc
  | c + 1, i, acc => numF g c (i + 1) (10 * acc + g i)
theorem numF_lt (g : Nat → Nat) (c : Nat) : ∀ i acc, (∀ j, i ≤ j → j < i + c → g j ≤ 9) → numF g c i acc < (acc + 1) * 10 ^ c := by
  induction c with
  | zero => intro i acc _; simp [numF]
  | succ c ih =>
    intro i acc h
    have h1 := ih (i + 1) (10 * acc + g i) (fun j h1 h2 => h j (by omega) (by omega))
    have h2 := h i (by omega) (by omega)
    simp only [numF]
    refine Nat.lt_of_lt_of_le h1 ?_
    rw [Nat.pow_succ, Nat.mul_comm (10 ^ c) 10, ← Nat.mul_assoc]
    exact Nat.mul_le_mul_right _ (by omega)
theorem numF_add (g : Nat → Nat) (c d : Nat) : ∀ i acc, numF g (c + d) i acc = numF g d (i + c) (numF g c i acc) := by
  induction c with
  | zero => intro i acc; simp [numF]
  | succ c ih =>
    intro i acc
    rw [show c + 1 + d = (c + d) + 1 by omega]
    simp only [numF]
    rw [ih, show i + 1 + c = i + (c + 1) by omega]
theorem numF_lin (g : Nat → Nat) (c : Nat) : ∀ i acc, numF g c i acc = acc * 10 ^ c + numF g c i 0 := by
  induction c with
  | zero => intro i acc; simp [numF]
  | succ c ih =>
    intro i acc
    simp only [numF]
    rw [ih (i + 1) (10 * acc + g i), ih (i + 1) (10 * 0 + g i), Nat.pow_succ, Nat.add_mul, Nat.add_mul, ← Nat.add_assoc, Nat.mul_comm (10 ^ c) 10, ← Nat.mul_assoc, Nat.mul_comm acc 10]
    omega
theorem numF_congr (g g' : Nat → Nat) (c : Nat) : ∀ i i' acc, (∀ j, j < c → g (i + j) = g' (i' + j)) → numF g c i acc = numF g' c i' acc := by
  induction c with
  | zero => intro i i' acc _; rfl
  | succ c ih =>
    intro i i' acc h
    have h0 := h 0 (by omega)
    simp only [Nat.add_zero] at h0
    simp only [numF]
    rw [h0]
    exact ih _ _ _ (fun j hj => by rw [show i + 1 + j = i + (j + 1) by omega, show i' + 1 + j = i' + (j + 1) by omega]; exact h (j + 1) (by omega))
def digAt (s : ByteArray) (i : Nat) : Nat := (bt s (i : Int) - 48).toNat
theorem digAt_le {s : ByteArray} {i : Nat} (h : dig (bt s (i : Int)) = true) : digAt s i ≤ 9 ∧ ((digAt s i : Nat) : Int) = (bt s (i : Int) - 48) % 256 := by
  have h := of_decide_eq_true h
  unfold digAt
  omega
/-- A number of at most 15 digits. -/
theorem num_ev (s : ByteArray) (F : Nat → Int → Int → Option Int) (hs : s.size ≤ 15) (hd : ∀ j, j < s.size → dig (bt s (j : Int)) = true)
    (h1 : ∀ k (x : Int) (i : Nat), i < s.size → 0 ≤ x → x < 100000000000000 → F (k + 1) x (i : Int) = F k (10 * x + (bt s (i : Int) - 48) % 256) ((i + 1 : Nat) : Int))
    (h2 : ∀ k x, F (k + 1) x (s.size : Int) = some x) : Ev (fun k => F k 0 0) (numF (digAt s) s.size 0 0 : Nat) := by
  have key : ∀ (c i acc : Nat), i + c = s.size → acc < 10 ^ i → Ev (fun k => F k (acc : Int) (i : Int)) (numF (digAt s) c i acc : Nat) := by
    intro c
    induction c with
    | zero =>
      intro i acc h _
      obtain rfl : i = s.size := by omega
      exact Ev.succ (fun k => h2 k _)
    | succ c ih =>
      intro i acc h ha
      have hp : 10 ^ i ≤ 10 ^ 14 := Nat.pow_le_pow_right (by omega) (by omega)
      have hg := digAt_le (hd i (by omega))
      have h3 := ih (i + 1) (10 * acc + digAt s i) (by omega) (by rw [Nat.pow_succ]; omega)
      refine Ev.step (fun k => h1 k _ i (by omega) (by omega) (by omega)) ?_
      have e : 10 * (acc : Int) + (bt s (i : Int) - 48) % 256 = ((10 * acc + digAt s i : Nat) : Int) := by rw [← hg.2]; omega
      rw [e]
      exact h3
  exact key s.size 0 0 (by omega) (by simp)
theorem dig_f {c : Int} (f : Int → Option Bool) (hf : ∀ a0, f a0 = if a0 ≥ 48 then (some (decide (a0 ≤ 57))) else (some false)) : f c = some (dig c) := by
  rw [hf]
  unfold dig
  split
  · congr 1; rw [decide_eq_decide]; omega
  · rw [decide_eq_false (by omega)]
theorem impl_isDigit_eq (c : Int) : impl_isDigit.f c = some (dig c) := dig_f _ (fun _ => rfl)
theorem spec_l7Digit_eq (c : Int) : spec_l7Digit.f c = some (dig c) := dig_f _ (fun _ => rfl)
theorem impl_runDigit_ev {s : ByteArray} (hs : s.size ≤ maxLen) {i : Nat} (hi : i ≤ s.size) : Ev (fun k => impl_run__impl_isDigit.f k s (i : Int)) (spanEnd dig s i : Int) := by
  unfold maxLen at hs
  refine span_ev dig s (fun k i => impl_run__impl_isDigit.l0 k s i) (fun k i h hp => ?_) (fun k i h hp => ?_) (fun k => ?_) i hi
  · simp only [impl_run__impl_isDigit.l0]
    rw [if_pos (by omega), if_pos (by omega), impl_isDigit_eq, hp, w64_succ h (by omega)]
    rfl
  · simp only [impl_run__impl_isDigit.l0]
    rw [if_pos (by omega), if_pos (by omega), impl_isDigit_eq, hp]
    rfl
  · simp only [impl_run__impl_isDigit.l0]
    rw [if_neg (by omega)]
theorem spec_l7Run_ev {s : ByteArray} (hs : s.size ≤ maxLen) {i : Nat} (hi : i ≤ s.size) : Ev (fun k => spec_l7Run.f k s (i : Int)) (spanEnd dig s i : Int) := by
  unfold maxLen at hs
  refine span_ev dig s (fun k i => spec_l7Run.l0 k s i) (fun k i h hp => ?_) (fun k i h hp => ?_) (fun k => ?_) i hi
  · simp only [spec_l7Run.l0]
    rw [if_pos (by omega), if_pos (by omega), spec_l7Digit_eq, hp, w64_succ h (by omega)]
    rfl
  · simp only [spec_l7Run.l0]
    rw [if_pos (by omega), if_pos (by omega), spec_l7Digit_eq, hp]
    rfl
  · simp only [spec_l7Run.l0]
    rw [if_neg (by omega)]
theorem impl_number_ev {s : ByteArray} (hs : s.size ≤ 15) (hd : ∀ j, j < s.size → dig (bt s (j : Int)) = true) : Ev (fun k => impl_number.f k s) (numF (digAt s) s.size 0 0 : Nat) := by
  refine num_ev s (fun k x i => impl_number.l0 k s x i) hs hd (fun k x i h h0 h1 => ?_) (fun k x => ?_)
  · simp only [impl_number.l0]
    have hb := bt_range s (i : Int)
    rw [if_pos (by omega), if_pos (by omega), w64_succ h (by omega), w64 (x := 10 * x) (by omega) (by omega), w64 (by omega) (by omega)]
  · simp only [impl_number.l0]
    rw [if_neg (by omega)]
theorem spec_l7Number_ev {s : ByteArray} (hs : s.size ≤ 15) (hd : ∀ j, j < s.size → dig (bt s (j : Int)) = true) : Ev (fun k => spec_l7Number.f k s) (numF (digAt s) s.size 0 0 : Nat) := by
  refine num_ev s (fun k x i => spec_l7Number.l0 k s x i) hs hd (fun k x i h h0 h1 => ?_) (fun k x => ?_)
  · simp only [spec_l7Number.l0]
    have hb := bt_range s (i : Int)
    rw [if_pos (by omega), if_pos (by omega), w64_succ h (by omega), w64 (x := x * 10) (by omega) (by omega), w64 (by omega) (by omega), Int.mul_comm x 10]
  · simp only [spec_l7Number.l0]
    rw [if_neg (by omega)]
theorem within_f {a b c : Int} (f : Int → Int → Int → Option Bool) (hf : ∀ a0 a1 a2, f a0 a1 a2 = if a0 ≥ a1 then (some (decide (a0 ≤ a2))) else (some false)) : f a b c = some (decide (b ≤ a ∧ a ≤ c)) := by
  rw [hf]
  split
  · congr 1; rw [decide_eq_decide]; omega
  · rw [decide_eq_false (by omega)]
theorem impl_within_eq (a b c : Int) : impl_within.f a b c = some (decide (b ≤ a ∧ a ≤ c)) := within_f _ (fun _ _ _ => rfl)
theorem spec_l1In_eq (a b c : Int) : spec_l1In.f a b c = some (decide (b ≤ a ∧ a ≤ c)) := within_f _ (fun _ _ _ => rfl)
def plainOk (s : ByteArray) (most : Nat) : Bool := decide (1 ≤ s.size ∧ s.size ≤ most) && decide (spanEnd dig s 0 = s.size) && (decide (s.size = 1) || bt s 0 != 48)
theorem impl_plain_ev {s : ByteArray} (hs : s.size ≤ maxLen) (most : Nat) : Ev (fun k => impl_plain.f k s (most : Int)) (plainOk s most) := by
  unfold impl_plain.f
  refine Ev.bindc (impl_within_eq _ _ _) ?_
  by_cases h1 : 1 ≤ s.size ∧ s.size ≤ most
  · rw [decide_eq_true (by omega)]
    refine Ev.congr (fun k => if_pos rfl) (Ev.bind (impl_runDigit_ev hs (i := 0) (by omega)) ?_)
    by_cases h2 : spanEnd dig s 0 = s.size
    · refine Ev.congr (fun k => if_pos (by omega)) ?_
      by_cases h3 : s.size = 1
      · refine Ev.congr (fun k => if_pos (by omega)) ?_
        have e : plainOk s most = true := by
          have h4 : 1 ≤ s.size ∧ s.size ≤ most := h1
          unfold plainOk
          rw [decide_eq_true h4, decide_eq_true h2, decide_eq_true h3]; rfl
        rw [e]; exact Ev.now _
      · refine Ev.congr (fun k => if_neg (by omega)) (Ev.congr (fun k => if_pos (by omega)) ?_)
        have e : plainOk s most = (bt s 0 != 48) := by simp [plainOk, h1, h2, h3]
        rw [e]; exact Ev.now _
    · refine Ev.congr (fun k => if_neg (by omega)) ?_
      have e : plainOk s most = false := by simp [plainOk, h2]
      rw [e]; exact Ev.now _
  · rw [decide_eq_false (by omega)]
    refine Ev.congr (fun k => if_neg (by simp)) ?_
    have e : plainOk s most = false := by unfold plainOk; rw [decide_eq_false h1]; rfl
    rw [e]; exact Ev.now _

-- chunk realof: RealOf
def realOk (s : ByteArray) : Bool :=
  let a := spanEnd dig s 0
  decide (1 ≤ a ∧ a ≤ 9) && (decide (a = 1) || bt s 0 != 48) && decide (a < s.size) && (bt s (a : Int) == 46) && decide (spanEnd dig s (a + 1) = s.size) && decide (1 ≤ s.size - (a + 1) ∧ s.size - (a + 1) ≤ 6)
def realNum (s : ByteArray) : Nat :=
  let a := spanEnd dig s 0
  let c := s.size - (a + 1)
  numF (digAt s) a 0 0 * 10 ^ c + numF (digAt s) c (a + 1) 0
def realVal (s : ByteArray) : Nat := (floatBits .quo .f64 (floatOfInt .f64 (realNum s : Int)) (floatOfInt .f64 ((10 ^ (s.size - (spanEnd dig s 0 + 1)) : Nat) : Int))).getD 0
def realOf (s : ByteArray) : Nat × Bool := if realOk s then (realVal s, true) else (0, false)
theorem fl_ten (c : Nat) (h1 : 1 ≤ c) (h2 : c ≤ 6) (x : Int) : (floatBits .quo .f64 (floatOfInt .f64 x) (floatOfInt .f64 ((10 ^ c : Nat) : Int))).isSome = true := by
  rcases (by omega : c = 1 ∨ c = 2 ∨ c = 3 ∨ c = 4 ∨ c = 5 ∨ c = 6) with rfl | rfl | rfl | rfl | rfl | rfl
  · exact fl_quo (fl_near x) (s := false) (m := 5629499534213120) (e := -49) (by kernel_rfl) (by decide)
  · exact fl_quo (fl_near x) (s := false) (m := 7036874417766400) (e := -46) (by kernel_rfl) (by decide)
  · exact fl_quo (fl_near x) (s := false) (m := 8796093022208000) (e := -43) (by kernel_rfl) (by decide)
  · exact fl_quo (fl_near x) (s := false) (m := 5497558138880000) (e := -39) (by kernel_rfl) (by decide)
  · exact fl_quo (fl_near x) (s := false) (m := 6871947673600000) (e := -36) (by kernel_rfl) (by decide)
  · exact fl_quo (fl_near x) (s := false) (m := 8589934592000000) (e := -33) (by kernel_rfl) (by decide)
theorem fl_step (c : Nat) (h2 : c < 6) : floatBits .mul .f64 4621819117588971520 (floatOfInt .f64 ((10 ^ c : Nat) : Int)) = some (floatOfInt .f64 ((10 ^ (c + 1) : Nat) : Int)) := by
  rcases (by omega : c = 0 ∨ c = 1 ∨ c = 2 ∨ c = 3 ∨ c = 4 ∨ c = 5) with rfl | rfl | rfl | rfl | rfl | rfl <;> kernel_rfl
theorem fl_one : (4607182418800017408 : Nat) = floatOfInt .f64 ((10 ^ 0 : Nat) : Int) := by kernel_rfl
theorem spec_RealOf_ev {s : ByteArray} (hs : s.size ≤ maxLen) : Ev (fun k => spec_RealOf.f k s) (realOf s) := by
  have hs' := hs
  unfold maxLen at hs'
  have a1 := spanEnd_le dig s 0 (by omega)
  obtain ⟨a, ha⟩ : ∃ a, a = spanEnd dig s 0 := ⟨_, rfl⟩
  have no : ∀ c : Bool, c = true → realOk s = false → Ev (fun k => spec_RealOf.j0 k s (a : Int) c) (realOf s) := by
    rintro c rfl h
    refine Ev.succ (fun k => ?_)
    simp only [spec_RealOf.j0, if_true]
    rw [realOf, h]; rfl
  have yes : 1 ≤ a → a ≤ 9 → (a = 1 ∨ bt s 0 ≠ 48) → ∀ c : Bool, a < s.size → c = (bt s (a : Int) != 46) → Ev (fun k => spec_RealOf.j0 k s (a : Int) c) (realOf s) := by
    intro h1 h2 h0 c h3 hc
    cases c with
    | true =>
      refine no _ rfl ?_
      have : bt s (a : Int) ≠ 46 := by simpa using hc.symm
      unfold realOk
      simp [← ha, this]
    | false =>
      have h4 : bt s (a : Int) = 46 := by simpa using hc.symm
      have b1 := spanEnd_ge dig s (a + 1)
      have b2 := spanEnd_le dig s (a + 1) (by omega)
      have b3 := spanEnd_in dig s (a + 1)
      have hrun := spec_l7Run_ev hs (i := a + 1) (by omega)
      obtain ⟨b, hb⟩ : ∃ b, b = spanEnd dig s (a + 1) := ⟨_, rfl⟩
      rw [← hb] at b1 b2 b3 hrun
      have w1 : wrap64 ((a : Int) + 1) = ((a + 1 : Nat) : Int) := by rw [w64 (by omega) (by omega)]; omega
      have w2 : wrap64 (wrap64 ((b : Int) - (a : Int)) - 1) = ((b - (a + 1) : Nat) : Int) := by rw [w64 (x := (b : Int) - a) (by omega) (by omega), w64 (by omega) (by omega)]; omega
      have j1t : realOk s = false → Ev (fun k => spec_RealOf.j1 k s (a : Int) ((b - (a + 1) : Nat) : Int) true) (realOf s) := by
        intro h
        refine Ev.succ (fun k => ?_)
        simp only [spec_RealOf.j1, if_true]
        rw [realOf, h]; rfl
      refine Ev.step (f := fun k => (spec_l7Run.f k s ((a + 1 : Nat) : Int)).bind fun t104 => (if t104 = (s.size : Int) then ((spec_l1In.f (wrap64 ((wrap64 (t104 - (a : Int))) - 1)) 1 6).bind fun t105 => (spec_RealOf.j1 k s (a : Int) (wrap64 ((wrap64 (t104 - (a : Int))) - 1)) (!t105))) else (spec_RealOf.j1 k s (a : Int) (wrap64 ((wrap64 (t104 - (a : Int))) - 1)) true))) (fun k => ?_) ?_
      · simp only [spec_RealOf.j0]
        rw [if_neg (by simp), w1]
      refine Ev.bind hrun ?_
      rw [w2]
      by_cases hbs : b = s.size
      · refine Ev.congr (fun k => if_pos (by omega)) (Ev.bindc (spec_l1In_eq _ _ _) ?_)
        by_cases hk : 1 ≤ b - (a + 1) ∧ b - (a + 1) ≤ 6
        · rw [decide_eq_true (by omega)]
          have hok : realOk s = true := by
            have q0 : (decide (a = 1) || bt s 0 != 48) = true := by rcases h0 with h | h <;> simp [h]
            have q1 : 1 ≤ s.size - (a + 1) ∧ s.size - (a + 1) ≤ 6 := by omega
            unfold realOk
            simp only [← ha, ← hb]
            rw [decide_eq_true (show 1 ≤ a ∧ a ≤ 9 from ⟨h1, h2⟩), q0, decide_eq_true h3, decide_eq_true hbs, decide_eq_true q1, h4]
            rfl
          subst hbs
          obtain ⟨c, hc⟩ : ∃ c, c = s.size - (a + 1) := ⟨_, rfl⟩
          rw [← hc] at hk ⊢
          refine Ev.step (f := fun k => spec_RealOf.l0 k s (a : Int) (c : Int) 1 0) (fun k => ?_) ?_
          · simp only [spec_RealOf.j1]
            rw [if_neg (by simp)]
          have loop : ∀ d i : Nat, i + d = c → Ev (fun k => spec_RealOf.l0 k s (a : Int) (c : Int) ((10 ^ i : Nat) : Int) (i : Int)) (realOf s) := by
            intro d
            induction d with
            | zero =>
              intro i hi
              obtain rfl : i = c := by omega
              have e1 : (s.extract 0 a).size = a := by rw [ByteArray.size_extract]; omega
              have e2 : (s.extract (a + 1) s.size).size = i := by rw [ByteArray.size_extract]; omega
              have n1 := spec_l7Number_ev (s := s.extract 0 a) (by omega) (fun j hj => by rw [e1] at hj; rw [bt_ext (by omega) (by omega), Nat.zero_add]; exact spanEnd_in dig s 0 j (by omega) (by omega))
              have n2 := spec_l7Number_ev (s := s.extract (a + 1) s.size) (by omega) (fun j hj => by rw [e2] at hj; rw [bt_ext (by omega) (by omega)]; exact b3 _ (by omega) (by omega))
              rw [e1, numF_congr _ (digAt s) a 0 0 0 (fun j hj => by unfold digAt; rw [Nat.zero_add, bt_ext (by omega) (by omega), Nat.zero_add])] at n1
              rw [e2, numF_congr _ (digAt s) i 0 (a + 1) 0 (fun j hj => by unfold digAt; rw [Nat.zero_add, bt_ext (by omega) (by omega)])] at n2
              have m1 := numF_lt (digAt s) a 0 0 (fun j _ hj => (digAt_le (spanEnd_in dig s 0 j (by omega) (by omega))).1)
              have m2 := numF_lt (digAt s) i (a + 1) 0 (fun j hj1 hj => (digAt_le (b3 j (by omega) (by omega))).1)
              have p1 : 10 ^ a ≤ 10 ^ 9 := Nat.pow_le_pow_right (by omega) (by omega)
              have p2 : 10 ^ i ≤ 10 ^ 6 := Nat.pow_le_pow_right (by omega) (by omega)
              have p3 : numF (digAt s) a 0 0 * 10 ^ i ≤ 10 ^ 9 * 10 ^ 6 := Nat.mul_le_mul (by omega) p2
              refine Ev.step (f := fun k => (spec_l7Number.f k (s.extract 0 a)).bind fun t106 => ((spec_l7Number.f k (s.extract (a + 1) s.size)).bind fun t107 => (if (floatBits .quo .f64 (floatOfInt .f64 (wrap64 ((wrap64 (t106 * ((10 ^ i : Nat) : Int))) + t107))) (floatOfInt .f64 ((10 ^ i : Nat) : Int))).isSome = true then (some ((floatBits .quo .f64 (floatOfInt .f64 (wrap64 ((wrap64 (t106 * ((10 ^ i : Nat) : Int))) + t107))) (floatOfInt .f64 ((10 ^ i : Nat) : Int))).getD 0, true)) else (none)))) (fun k => ?_) ?_
              · simp only [spec_RealOf.l0]
                rw [if_neg (by omega), if_pos (by omega), if_pos (by omega)]
                simp only [w1, Int.toNat_natCast]
                refine congrArg (Option.bind _) (funext fun t => ?_)
                rw [if_pos (by omega), if_pos (by omega)]
              refine Ev.bind n1 (Ev.bind n2 ?_)
              have wv : wrap64 (wrap64 (((numF (digAt s) a 0 0 : Nat) : Int) * ((10 ^ i : Nat) : Int)) + ((numF (digAt s) i (a + 1) 0 : Nat) : Int)) = ((realNum s : Nat) : Int) := by
                rw [← Int.natCast_mul, w64 (x := ((numF (digAt s) a 0 0 * 10 ^ i : Nat) : Int)) (by omega) (by omega), w64 (by omega) (by omega)]
                unfold realNum
                simp only [← ha, ← hc]
                omega
              rw [wv]
              refine Ev.congr (fun k => if_pos (fl_ten i hk.1 hk.2 _)) ?_
              have e : realOf s = ((floatBits .quo .f64 (floatOfInt .f64 ((realNum s : Nat) : Int)) (floatOfInt .f64 ((10 ^ i : Nat) : Int))).getD 0, true) := by
                unfold realOf realVal
                rw [if_pos hok, ← ha, ← hc]
              rw [e]
              exact Ev.now _
            | succ d ih =>
              intro i hi
              have p2 : 10 ^ i ≤ 10 ^ 5 := Nat.pow_le_pow_right (by omega) (by omega)
              have h5 := ih (i + 1) (by omega)
              rw [Nat.pow_succ] at h5
              obtain ⟨P, hP⟩ : ∃ P, P = 10 ^ i := ⟨_, rfl⟩
              rw [← hP] at p2 h5 ⊢
              refine Ev.step (fun k => ?_) h5
              simp only [spec_RealOf.l0]
              rw [if_pos (by omega), w64_succ (n := c) (by omega) (by omega), w64 (by omega) (by omega)]
              rfl
          exact loop c 0 (by omega)
        · rw [decide_eq_false (by omega)]
          refine j1t ?_
          unfold realOk
          simp only [← ha]
          subst hbs
          rw [decide_eq_false (p := 1 ≤ s.size - (a + 1) ∧ s.size - (a + 1) ≤ 6) hk, Bool.and_false]
      · refine Ev.congr (fun k => if_neg (by omega)) (j1t ?_)
        unfold realOk
        simp only [← ha, ← hb]
        rw [decide_eq_false hbs, Bool.and_false, Bool.false_and]
  unfold spec_RealOf.f
  have hrun := spec_l7Run_ev hs (i := 0) (by omega)
  rw [← ha] at hrun a1
  refine Ev.bind hrun (Ev.bindc (spec_l1In_eq _ _ _) ?_)
  have tail : 1 ≤ a → a ≤ 9 → (a = 1 ∨ bt s 0 ≠ 48) → Ev (fun k => if (a : Int) ≥ (s.size : Int) then (spec_RealOf.j0 k s (a : Int) true) else (if 0 ≤ (a : Int) then (if (a : Int) < (s.size : Int) then (spec_RealOf.j0 k s (a : Int) ((bt s (a : Int)) != 46)) else (none)) else (none))) (realOf s) := by
    intro h1 h2 h0
    by_cases h3 : a < s.size
    · exact Ev.congr (fun k => by rw [if_neg (by omega), if_pos (by omega), if_pos (by omega)]) (yes h1 h2 h0 _ h3 rfl)
    · refine Ev.congr (fun k => if_pos (by omega)) (no _ rfl ?_)
      unfold realOk
      simp only [← ha]
      rw [decide_eq_false h3]
      simp
  by_cases h1 : 1 ≤ a ∧ a ≤ 9
  · rw [decide_eq_true (by omega)]
    refine Ev.congr (fun k => if_pos rfl) ?_
    by_cases h2 : a = 1
    · exact Ev.congr (fun k => if_neg (by omega)) (tail h1.1 h1.2 (.inl h2))
    · refine Ev.congr (fun k => by rw [if_pos (by omega), if_pos (by omega)]) ?_
      by_cases h5 : bt s 0 = 48
      · refine Ev.congr (fun k => if_pos h5) (no _ rfl ?_)
        unfold realOk
        simp only [← ha]
        simp [h2, h5]
      · exact Ev.congr (fun k => if_neg h5) (tail h1.1 h1.2 (.inr h5))
  · rw [decide_eq_false (by omega)]
    refine Ev.congr (fun k => if_neg (by simp)) (no _ rfl ?_)
    unfold realOk
    simp only [← ha]
    rw [decide_eq_false h1]
    simp
theorem impl_RealOf_ev {s : ByteArray} (hs : s.size ≤ maxLen) : Ev (fun k => impl_RealOf.f k s) (realOf s) := by
  have hs' := hs
  unfold maxLen at hs'
  have a1 := spanEnd_le dig s 0 (by omega)
  obtain ⟨a, ha⟩ : ∃ a, a = spanEnd dig s 0 := ⟨_, rfl⟩
  have no : ∀ c : Bool, c = true → realOk s = false → Ev (fun k => impl_RealOf.j0 k s (a : Int) c) (realOf s) := by
    rintro c rfl h
    refine Ev.succ (fun k => ?_)
    simp only [impl_RealOf.j0, if_true]
    rw [realOf, h]; rfl
  unfold impl_RealOf.f
  have hrun := impl_runDigit_ev hs (i := 0) (by omega)
  rw [← ha] at hrun a1
  refine Ev.bind hrun ?_
  by_cases h3 : a < s.size
  · refine Ev.congr (fun k => by rw [if_neg (by omega), if_pos (by omega), if_pos (by omega)]) ?_
    by_cases h4 : bt s (a : Int) = 46
    · have hc : (bt s (a : Int) != 46) = false := by simp [h4]
      rw [hc]
      have e1 : (s.extract 0 a).size = a := by rw [ByteArray.size_extract]; omega
      obtain ⟨c, hcc⟩ : ∃ c, c = s.size - (a + 1) := ⟨_, rfl⟩
      have e2 : (s.extract (a + 1) s.size).size = c := by rw [ByteArray.size_extract]; omega
      have w1 : wrap64 ((a : Int) + 1) = ((a + 1 : Nat) : Int) := by rw [w64 (by omega) (by omega)]; omega
      have b1 := spanEnd_ge dig s (a + 1)
      have b2 := spanEnd_le dig s (a + 1) (by omega)
      have b3 := spanEnd_in dig s (a + 1)
      obtain ⟨b, hb⟩ : ∃ b, b = spanEnd dig s (a + 1) := ⟨_, rfl⟩
      rw [← hb] at b1 b2 b3
      obtain ⟨W, hW⟩ : ∃ W, W = s.extract 0 a := ⟨_, rfl⟩
      obtain ⟨Q, hQ⟩ : ∃ Q, Q = s.extract (a + 1) s.size := ⟨_, rfl⟩
      have j1t : realOk s = false → Ev (fun k => impl_RealOf.j1 k W Q true) (realOf s) := by
        intro h
        refine Ev.succ (fun k => ?_)
        simp only [impl_RealOf.j1, if_true]
        rw [realOf, h]; rfl
      have sW : spanEnd dig W 0 = a := by
        rw [hW]
        refine spanEnd_eq dig _ 0 a (by omega) (by omega) (fun j _ hj => ?_) (fun h => by omega)
        rw [bt_ext (by omega) (by omega), Nat.zero_add]
        exact spanEnd_in dig s 0 j (by omega) (by omega)
      have sQ : spanEnd dig Q 0 = b - (a + 1) := by
        rw [hQ, spanEnd_ext dig s (a + 1) s.size 0 (by omega) (by omega) (.inl rfl), Nat.add_zero, ← hb]
        omega
      have bW : 1 ≤ a → bt W 0 = bt s 0 := by
        intro h
        have := bt_ext (s := s) (a := 0) (b := a) (i := 0) (by omega) (by omega)
        rw [hW]
        simpa using this
      refine Ev.step (f := fun k => (impl_plain.f k W 9).bind fun t112 => (if t112 = true then ((impl_within.f (Q.size : Int) 1 6).bind fun t113 => (if t113 = true then ((impl_run__impl_isDigit.f k Q 0).bind fun t114 => (impl_RealOf.j1 k W Q (t114 != (Q.size : Int)))) else (impl_RealOf.j1 k W Q true))) else (impl_RealOf.j1 k W Q true))) (fun k => ?_) ?_
      · simp only [impl_RealOf.j0, w1, Int.toNat_natCast, ← hW, ← hQ]
        rw [if_neg (by simp), if_pos (by omega), if_pos (by omega), if_pos (by omega), if_pos (by omega)]
      rw [← hW] at e1
      rw [← hQ] at e2
      refine Ev.bind (impl_plain_ev (s := W) (by unfold maxLen; omega) 9) ?_
      by_cases h1 : plainOk W 9 = true
      · rw [h1]
        refine Ev.congr (fun k => if_pos rfl) (Ev.bindc (impl_within_eq _ _ _) ?_)
        unfold plainOk at h1
        simp only [Bool.and_eq_true, Bool.or_eq_true, decide_eq_true_eq, e1] at h1
        obtain ⟨⟨⟨g1, g2⟩, _⟩, g3⟩ := h1
        have q0 : (decide (a = 1) || bt s 0 != 48) = true := by
          rw [← bW g1]
          rcases g3 with h | h
          · simp [h]
          · rw [h]; simp
        by_cases hk : 1 ≤ c ∧ c ≤ 6
        · rw [decide_eq_true (by omega)]
          refine Ev.congr (fun k => if_pos rfl) (Ev.bind (impl_runDigit_ev (s := Q) (by unfold maxLen; omega) (i := 0) (by omega)) ?_)
          rw [sQ, e2]
          by_cases hbs : b = s.size
          · have hok : realOk s = true := by
              unfold realOk
              simp only [← ha, ← hb, ← hcc]
              rw [decide_eq_true (show 1 ≤ a ∧ a ≤ 9 from ⟨g1, g2⟩), q0, decide_eq_true h3, decide_eq_true hbs, decide_eq_true hk, h4]
              rfl
            have e3 : (((b - (a + 1) : Nat) : Int) != (c : Int)) = false := by rw [bne_eq_false_iff_eq]; omega
            rw [e3]
            refine Ev.step (f := fun k => impl_RealOf.l0 k W Q (floatOfInt .f64 ((10 ^ 0 : Nat) : Int)) (c : Int) 0) (fun k => ?_) ?_
            · simp only [impl_RealOf.j1]
              rw [if_neg (by simp), e2, ← fl_one]
            have loop : ∀ d i : Nat, i + d = c → Ev (fun k => impl_RealOf.l0 k W Q (floatOfInt .f64 ((10 ^ i : Nat) : Int)) (c : Int) (i : Int)) (realOf s) := by
              intro d
              induction d with
              | zero =>
                intro i hi
                obtain rfl : i = c := by omega
                have e4 : (W ++ Q).size = a + i := by rw [ByteArray.size_append, e1, e2]
                have bcat : ∀ j, j < a + i → bt (W ++ Q) (j : Int) = bt s ((if j < a then j else j + 1 : Nat) : Int) := by
                  intro j hj
                  unfold bt
                  rw [dif_pos (by rw [Int.toNat_natCast, e4]; exact hj), dif_pos (by rw [Int.toNat_natCast]; split <;> omega)]
                  simp only [Int.toNat_natCast]
                  by_cases hja : j < a
                  · rw [ByteArray.getElem_append_left (by rw [e1]; exact hja)]
                    simp only [hW, ByteArray.getElem_extract, if_pos hja, Nat.zero_add]
                  · rw [ByteArray.getElem_append_right (by rw [e1]; omega)]
                    simp only [hQ, ByteArray.getElem_extract, if_neg hja, e1]
                    have : a + 1 + (j - a) = j + 1 := by omega
                    simp only [this]
                have n1 := impl_number_ev (s := W ++ Q) (by omega) (fun j hj => by
                  rw [e4] at hj
                  rw [bcat j hj]
                  split
                  · exact spanEnd_in dig s 0 j (by omega) (by omega)
                  · exact b3 _ (by omega) (by omega))
                have ev : numF (digAt (W ++ Q)) (W ++ Q).size 0 0 = realNum s := by
                  rw [e4, numF_add, numF_lin, Nat.zero_add, numF_congr _ (digAt s) a 0 0 0 (fun j hj => by unfold digAt; rw [Nat.zero_add, bcat j (by omega), if_pos hj]), numF_congr _ (digAt s) i a (a + 1) 0 (fun j hj => by unfold digAt; rw [bcat _ (by omega), if_neg (by omega)]; congr 3; omega)]
                  unfold realNum
                  simp only [← ha, ← hcc]
                rw [ev] at n1
                refine Ev.step (f := fun k => (impl_number.f k (W ++ Q)).bind fun t115 => (if (floatBits .quo .f64 (floatOfInt .f64 t115) (floatOfInt .f64 ((10 ^ i : Nat) : Int))).isSome = true then (some ((floatBits .quo .f64 (floatOfInt .f64 t115) (floatOfInt .f64 ((10 ^ i : Nat) : Int))).getD 0, true)) else (none))) (fun k => ?_) ?_
                · simp only [impl_RealOf.l0]
                  rw [if_neg (by omega), if_pos (by omega)]
                refine Ev.bind n1 ?_
                refine Ev.congr (fun k => if_pos (fl_ten i hk.1 hk.2 _)) ?_
                have e : realOf s = ((floatBits .quo .f64 (floatOfInt .f64 ((realNum s : Nat) : Int)) (floatOfInt .f64 ((10 ^ i : Nat) : Int))).getD 0, true) := by
                  unfold realOf realVal
                  rw [if_pos hok, ← ha, ← hcc]
                rw [e]
                exact Ev.now _
              | succ d ih =>
                intro i hi
                have h5 := ih (i + 1) (by omega)
                have h6 := fl_step i (by omega)
                refine Ev.step (fun k => ?_) h5
                simp only [impl_RealOf.l0, h6]
                rw [if_pos (by omega), if_pos (show (some _).isSome = true from rfl), w64_succ (n := c) (by omega) (by omega)]
                rfl
            exact loop c 0 (by omega)
          · have e3 : (((b - (a + 1) : Nat) : Int) != (c : Int)) = true := by rw [bne_iff_ne]; omega
            rw [e3]
            refine j1t ?_
            unfold realOk
            simp only [← ha, ← hb]
            rw [decide_eq_false hbs, Bool.and_false, Bool.false_and]
        · rw [decide_eq_false (by omega)]
          refine Ev.congr (fun k => if_neg (by simp)) (j1t ?_)
          unfold realOk
          simp only [← ha, ← hcc]
          rw [decide_eq_false hk, Bool.and_false]
      · have h1' : plainOk W 9 = false := by simpa using h1
        rw [h1']
        refine Ev.congr (fun k => if_neg (by simp)) (j1t ?_)
        have q : (decide (1 ≤ a ∧ a ≤ 9) && (decide (a = 1) || bt s 0 != 48)) = false := by
          unfold plainOk at h1'
          rw [e1, sW, decide_eq_true (rfl : a = a), Bool.and_true] at h1'
          by_cases g : 1 ≤ a
          · rw [bW g] at h1'; exact h1'
          · rw [decide_eq_false (by omega)]; rfl
        unfold realOk
        simp only [← ha]
        rw [q]
        simp
    · have hc : (bt s (a : Int) != 46) = true := by simp [h4]
      rw [hc]
      refine no _ rfl ?_
      unfold realOk
      simp only [← ha]
      simp [h4]
  · refine Ev.congr (fun k => if_pos (by omega)) (no _ rfl ?_)
    unfold realOk
    simp only [← ha]
    rw [decide_eq_false h3]
    simp

-- chunk words: bytes as lists, words of the language, marks
def chain {ρ : Type} {α : Type} [DecidableEq α] : List α → α → ρ → ρ → ρ
  | [], _, _, b => b
  | c :: cs, x, a, b => if x = c then a else chain cs x a b
theorem chain_eq {ρ α : Type} [DecidableEq α] (cs : List α) (x : α) (a b : ρ) : chain cs x a b = if x ∈ cs then a else b := by
  induction cs with
  | nil => simp [chain]
  | cons c cs ih =>
    unfold chain
    by_cases h : x = c
    · rw [if_pos h, if_pos (by simp [h])]
    · rw [if_neg h, ih]
      by_cases h2 : x ∈ cs
      · rw [if_pos h2, if_pos (by simp [h2])]
      · rw [if_neg h2, if_neg (by simp [h, h2])]
theorem letr_f {c : Int} (f : Int → Option Bool) (hf : ∀ a0, f a0 = if a0 ≥ 97 then (if a0 ≤ 122 then (some true) else (if a0 ≥ 65 then (some (decide (a0 ≤ 90))) else (some false))) else (if a0 ≥ 65 then (some (decide (a0 ≤ 90))) else (some false))) : f c = some (letr c) := by
  rw [hf]
  unfold letr
  split
  · split
    · rw [decide_eq_true (by omega)]
    · split
      · rw [decide_eq_false (by omega), decide_eq_false (by omega)]
      · omega
  · split
    · congr 1; rw [decide_eq_decide]; omega
    · rw [decide_eq_false (by omega)]
theorem impl_isLetter_eq (c : Int) : impl_isLetter.f c = some (letr c) := letr_f _ (fun _ => rfl)
theorem spec_l3Letter_eq (c : Int) : spec_l3Letter.f c = some (letr c) := letr_f _ (fun _ => rfl)
def wordsB : List ByteArray := (spec_l3Words.f).getD []
def wordsL : List (List UInt8) := [[115, 121, 115, 116, 101, 109], [102, 110], [108, 101, 116], [105, 102], [101, 108, 115, 101], [108, 111, 111, 112], [101, 97, 99, 104], [119, 105, 116, 104], [119, 105, 116, 104, 111, 117, 116], [101, 109, 105, 116], [104, 101, 97, 114], [97, 115], [115, 112, 97, 119, 110], [107, 105, 108, 108], [112, 117, 116], [100, 114, 111, 112], [100, 111], [114, 101, 116, 117, 114, 110], [112, 105, 99, 107], [111, 102], [121, 101, 115], [110, 111], [97, 110, 100], [111, 114], [110, 111, 116], [105, 110, 116], [114, 101, 97, 108], [112, 97, 105, 114], [98, 111, 111, 108], [114, 101], [105, 109], [115, 105, 122, 101]]
theorem wordsB_L : wordsB.map ByteArray.toList = wordsL := by
  have h : wordsB.map (fun b => b.data.toList) = wordsL := by kernel_rfl
  rw [← h]
  exact List.map_congr_left (fun b _ => ByteArray.toList_eq b)
def isWd (s : ByteArray) : Bool := decide (s.toList ∈ wordsL)
theorem impl_IsWord_eq (s : ByteArray) : impl_IsWord.f s = some (isWd s) := by
  have h : impl_IsWord.f s = chain wordsL s.toList (some true) (some false) := rfl
  rw [h, chain_eq]
  unfold isWd
  split
  · rw [decide_eq_true ‹_›]
  · rw [decide_eq_false ‹_›]
theorem any_ev {α : Type} (xs : List α) (p : α → Bool) (F : Nat → Int → Option Bool)
    (h1 : ∀ k (i : Nat) (h : i < xs.length), p xs[i] = true → F (k + 1) (i : Int) = some true)
    (h0 : ∀ k (i : Nat) (h : i < xs.length), p xs[i] = false → F (k + 1) (i : Int) = F k ((i + 1 : Nat) : Int))
    (h2 : ∀ k, F (k + 1) (xs.length : Int) = some false) : Ev (fun k => F k 0) (xs.any p) := by
  have key : ∀ (d i : Nat), i + d = xs.length → Ev (fun k => F k (i : Int)) ((xs.drop i).any p) := by
    intro d
    induction d with
    | zero =>
      intro i hi
      obtain rfl : i = xs.length := by omega
      rw [List.drop_length]
      exact Ev.succ (fun k => h2 k)
    | succ d ih =>
      intro i hi
      have h : i < xs.length := by omega
      rw [List.drop_eq_getElem_cons h, List.any_cons]
      cases hp : p xs[i] with
      | true => exact Ev.succ (fun k => h1 k i h hp)
      | false => exact Ev.step (fun k => h0 k i h hp) (ih (i + 1) (by omega))
  exact key xs.length 0 (by omega)
theorem rdStr_lt (xs : List ByteArray) {i : Nat} (h : i < xs.length) : rdOf ByteArray.empty xs (i : Int) = xs[i] := rdOf_lt xs _ h
theorem spec_IsWord_ev (s : ByteArray) : Ev (fun k => spec_IsWord.f k s) (isWd s) := by
  have hw : spec_l3Words.f = some wordsB := rfl
  have hl : wordsB.length = 32 := by kernel_rfl
  unfold spec_IsWord.f
  refine Ev.bindc hw ?_
  have h := any_ev wordsB (fun w => decide (w.toList = s.toList)) (fun k i => spec_IsWord.l0 k s wordsB i) (fun k i h hp => ?_) (fun k i h hp => ?_) (fun k => ?_)
  · have e : wordsB.any (fun w => decide (w.toList = s.toList)) = isWd s := by
      unfold isWd
      rw [← wordsB_L, Bool.eq_iff_iff, List.any_eq_true, decide_eq_true_eq, List.mem_map]
      simp only [decide_eq_true_eq]
    rw [e] at h
    exact h
  · simp only [spec_IsWord.l0]
    rw [if_pos (by omega), if_pos (by omega), rdStr_lt _ h, if_pos (of_decide_eq_true hp)]
  · simp only [spec_IsWord.l0]
    rw [if_pos (by omega), if_pos (by omega), rdStr_lt _ h, if_neg (of_decide_eq_false hp), w64_succ h (by omega)]
  · simp only [spec_IsWord.l0]
    rw [if_neg (by omega)]

-- chunk treetext: what a node says, and what kids it must have
theorem Ev.shift {α : Type} {g h : Nat → Option α} {r : α} (j : Nat) (e : ∀ m, g (m + j) = h m) (hh : Ev h r) : Ev g r := by
  obtain ⟨K, hK⟩ := hh
  exact ⟨K + j, fun n hn => by
    obtain ⟨m, rfl⟩ : ∃ m, n = m + j := ⟨n - j, by omega⟩
    rw [e]
    exact hK m (by omega)⟩
theorem Ev.all {α β : Type} {F : Nat → α → Option β} {r : α → β} : ∀ {l : List α}, (∀ x ∈ l, Ev (fun k => F k x) (r x)) → ∃ K, ∀ k, K ≤ k → ∀ x ∈ l, F k x = some (r x)
  | [], _ => ⟨0, fun _ _ x hx => nomatch hx⟩
  | y :: l, h => by
    obtain ⟨K1, h1⟩ := h y (List.mem_cons_self ..)
    obtain ⟨K2, h2⟩ := Ev.all (l := l) (fun x hx => h x (List.mem_cons_of_mem _ hx))
    refine ⟨max K1 K2, fun k hk x hx => ?_⟩
    rcases List.mem_cons.1 hx with rfl | hx
    · exact h1 k (by omega)
    · exact h2 k (by omega) x hx
def nameOk (s : ByteArray) : Bool := decide (spanEnd letr s 0 = s.size) && decide (1 ≤ s.size ∧ s.size ≤ 12) && !isWd s
theorem impl_NameOk_ev {s : ByteArray} (hs : s.size ≤ maxLen) : Ev (fun k => impl_NameOk.f k s) (nameOk s) := by
  unfold maxLen at hs
  unfold impl_NameOk.f
  have e1 := spanEnd_le letr s 0 (by omega)
  have key : ∀ d i : Nat, i + d = spanEnd letr s 0 → Ev (fun k => impl_NameOk.l0 k s (i : Int)) (nameOk s) := by
    intro d
    induction d with
    | zero =>
      intro i hi
      refine Ev.succ (fun k => ?_)
      simp only [impl_NameOk.l0]
      by_cases h : i < s.size
      · have hp : letr (bt s (i : Int)) = false := by
          have := spanEnd_at letr s 0 (by omega)
          rw [show i = spanEnd letr s 0 by omega]
          exact this
        rw [if_pos (by omega), if_pos (by omega), impl_isLetter_eq, hp]
        simp only [Option.bind_some, Bool.false_eq_true, if_false]
        unfold nameOk
        rw [decide_eq_false (by omega : ¬ spanEnd letr s 0 = s.size)]
        rfl
      · rw [if_neg (by omega)]
        unfold impl_within.f nameOk
        rw [impl_IsWord_eq, decide_eq_true (by omega : spanEnd letr s 0 = s.size)]
        by_cases c1 : 1 ≤ s.size ∧ s.size ≤ 12
        · rw [if_pos (by omega), decide_eq_true (by omega : (s.size : Int) ≤ 12), decide_eq_true c1]
          simp
        · rw [decide_eq_false c1]
          by_cases c2 : (s.size : Int) ≥ 1
          · rw [if_pos c2, decide_eq_false (by omega : ¬ (s.size : Int) ≤ 12)]
            simp
          · rw [if_neg c2]
            simp
    | succ d ih =>
      intro i hi
      have h : i < s.size := by omega
      refine Ev.step (fun k => ?_) (ih (i + 1) (by omega))
      show impl_NameOk.l0 (k + 1) s (i : Int) = _
      simp only [impl_NameOk.l0]
      have hp := spanEnd_in letr s 0 i (by omega) (by omega)
      rw [if_pos (by omega), if_pos (by omega), impl_isLetter_eq, hp, w64_succ h (by omega)]
      rfl
  exact key _ 0 (Nat.zero_add _)
theorem spec_NameOk_ev {s : ByteArray} (hs : s.size ≤ maxLen) : Ev (fun k => spec_NameOk.f k s) (nameOk s) := by
  unfold maxLen at hs
  unfold spec_NameOk.f
  have e1 := spanEnd_le letr s 0 (by omega)
  by_cases c1 : 1 ≤ s.size ∧ s.size ≤ 12
  rotate_left
  · refine Ev.of_eq (fun k => ?_)
    have hf : spec_l1In.f (s.size : Int) 1 12 = some false := by
      unfold spec_l1In.f
      by_cases c2 : (s.size : Int) ≥ 1
      · rw [if_pos c2, decide_eq_false (by omega : ¬ (s.size : Int) ≤ 12)]
      · rw [if_neg c2]
    rw [hf]
    unfold nameOk
    rw [decide_eq_false c1, Bool.and_false]
    rfl
  have hf : spec_l1In.f (s.size : Int) 1 12 = some true := by
    unfold spec_l1In.f
    rw [if_pos (by omega), decide_eq_true (by omega : (s.size : Int) ≤ 12)]
  refine Ev.bindc hf (Ev.congr (fun k => if_pos rfl) ?_)
  have key : ∀ d i : Nat, i + d = spanEnd letr s 0 → Ev (fun k => spec_NameOk.l0 k s (i : Int)) (nameOk s) := by
    intro d
    induction d with
    | zero =>
      intro i hi
      by_cases h : i < s.size
      · refine Ev.succ (fun k => ?_)
        have hp : letr (bt s (i : Int)) = false := by
          have := spanEnd_at letr s 0 (by omega)
          rw [show i = spanEnd letr s 0 by omega]
          exact this
        simp only [spec_NameOk.l0]
        rw [if_pos (by omega), if_pos (by omega), spec_l3Letter_eq, hp]
        simp only [Option.bind_some, Bool.false_eq_true, if_false]
        unfold nameOk
        rw [decide_eq_false (by omega : ¬ spanEnd letr s 0 = s.size)]
        rfl
      · refine Ev.step (f := fun k => (spec_IsWord.f k s).bind fun t => some (!t)) (fun k => ?_) (Ev.bind (spec_IsWord_ev s) ?_)
        · simp only [spec_NameOk.l0]
          rw [if_neg (by omega)]
        · refine Ev.of_eq (fun k => ?_)
          unfold nameOk
          rw [decide_eq_true (by omega : spanEnd letr s 0 = s.size), decide_eq_true c1]
          rfl
    | succ d ih =>
      intro i hi
      have h : i < s.size := by omega
      refine Ev.step (fun k => ?_) (ih (i + 1) (by omega))
      show spec_NameOk.l0 (k + 1) s (i : Int) = _
      simp only [spec_NameOk.l0]
      have hp := spanEnd_in letr s 0 i (by omega) (by omega)
      rw [if_pos (by omega), if_pos (by omega), spec_l3Letter_eq, hp, w64_succ h (by omega)]
      rfl
  exact key _ 0 (Nat.zero_add _)
def named (k : Int) : Bool := decide (k = 4 ∨ k = 5 ∨ k = 6 ∨ k = 7 ∨ k = 12 ∨ k = 13 ∨ k = 14 ∨ k = 15 ∨ k = 19 ∨ k = 20 ∨ k = 23 ∨ k = 24 ∨ k = 28 ∨ k = 31 ∨ k = 32 ∨ k = 33 ∨ k = 34)
def textB (k : Int) (s : ByteArray) : Bool := if k = 2 then (realOf s).2 else if named k then nameOk s else s.toList == ([] : List UInt8)
def numOkB (k v : Int) : Bool :=
  if k = 1 then decide (0 ≤ v ∧ v ≤ 999999999999999) else if k = 3 then decide (0 ≤ v ∧ v ≤ 1) else if k = 8 then decide (1 ≤ v ∧ v ≤ 9) else if k = 9 then decide (1 ≤ v ∧ v ≤ 6) else if k = 32 then decide (1 ≤ v ∧ v ≤ 4) else if k = 33 then decide (1 ≤ v ∧ v ≤ 4) else v == 0
theorem within_b (x a b : Int) : impl_within.f x a b = some (decide (a ≤ x ∧ x ≤ b)) := by
  unfold impl_within.f
  split <;> simp [*]
theorem l1In_b (x a b : Int) : spec_l1In.f x a b = some (decide (a ≤ x ∧ x ≤ b)) := by
  unfold spec_l1In.f
  split <;> simp [*]
theorem impl_textOk_ev (k v : Int) {s : ByteArray} (l : List Int) (hs : s.size ≤ maxLen) : Ev (fun n => impl_textOk.f n k s v l) (textB k s) := by
  by_cases h2 : k = 2
  · subst h2
    show Ev (fun n => (impl_RealOf.f n s).bind fun t => some t.2) _
    exact Ev.bind (impl_RealOf_ev hs) (Ev.of_eq fun _ => rfl)
  · by_cases hn : named k = true
    · have e : textB k s = nameOk s := by unfold textB; rw [if_neg h2, if_pos hn]
      rw [e]
      have main : Ev (fun n => (impl_NameOk.f n s).bind fun t => some t) (nameOk s) := Ev.bind (impl_NameOk_ev hs) (Ev.of_eq fun _ => rfl)
      rcases of_decide_eq_true hn with rfl | rfl | rfl | rfl | rfl | rfl | rfl | rfl | rfl | rfl | rfl | rfl | rfl | rfl | rfl | rfl | rfl
      all_goals exact main
    · have e : textB k s = (s.toList == ([] : List UInt8)) := by unfold textB; rw [if_neg h2, if_neg hn]
      rw [e]
      have hn' := of_decide_eq_false (Bool.eq_false_iff.2 hn)
      refine Ev.of_eq (fun n => ?_)
      unfold impl_textOk.f
      repeat rw [if_neg (by omega)]
theorem impl_numberOk_eq (k v : Int) (s : ByteArray) (l : List Int) : impl_numberOk.f k s v l = some (numOkB k v) := by
  unfold impl_numberOk.f numOkB impl_isKind.f
  simp only [within_b, Option.bind_some]
  repeat' split
  all_goals rfl
theorem spec_l8Has_ev (k v : Int) {s : ByteArray} (l : List Int) (hs : s.size ≤ maxLen) : Ev (fun n => spec_l8Has.f n k s v l) (textB k s && numOkB k v) := by
  have j2t : ∀ m, spec_l8Has.j2 (m + 1) true k s v l = some false := fun m => by simp only [spec_l8Has.j2]; rfl
  have j2f : ∀ m, spec_l8Has.j2 (m + 1) false k s v l = some (numOkB k v) := fun m => by
    simp only [spec_l8Has.j2, l1In_b, Option.bind_some]
    unfold numOkB
    by_cases h3 : k = 3
    · subst h3
      show (if v = 0 then some true else some (v == 1)) = some (decide (0 ≤ v ∧ v ≤ 1))
      by_cases h0 : v = 0
      · subst h0; rfl
      · rw [if_neg h0]
        congr 1
        rw [Bool.eq_iff_iff, beq_iff_eq, decide_eq_true_eq]
        omega
    · rw [if_neg h3]
      simp only [Bool.false_eq_true, if_false]
      repeat' split
      all_goals first | rfl | omega
  by_cases hn : named k = true
  · have h2 : ¬ k = 2 := by
      intro h
      subst h
      exact absurd hn (by decide)
    have e : textB k s = nameOk s := by unfold textB; rw [if_neg h2, if_pos hn]
    rw [e]
    have main : Ev (fun n => spec_l8Has.j0 n true k s v l) (nameOk s && numOkB k v) := by
      refine Ev.step (f := fun n => (spec_NameOk.f n s).bind fun t => spec_l8Has.j1 n true (!t) k s v l) (fun n => by simp only [spec_l8Has.j0, if_true]) (Ev.bind (spec_NameOk_ev hs) ?_)
      cases hk : nameOk s with
      | false =>
        refine Ev.succ (fun n => ?_)
        simp only [spec_l8Has.j1]
        rfl
      | true =>
        refine Ev.shift 2 (h := fun m => some (numOkB k v)) (fun m => ?_) (Ev.of_eq fun _ => by rw [Bool.true_and])
        show spec_l8Has.j1 (m + 1 + 1) true (!true) k s v l = _
        simp only [spec_l8Has.j1, Bool.not_true, Bool.false_eq_true, if_false, if_neg h2, if_true]
        exact j2f m
    have hn' := of_decide_eq_true hn
    have e2 : ∀ n, spec_l8Has.f n k s v l = spec_l8Has.j0 n true k s v l := fun n => by
      rcases hn' with rfl | rfl | rfl | rfl | rfl | rfl | rfl | rfl | rfl | rfl | rfl | rfl | rfl | rfl | rfl | rfl | rfl
      all_goals rfl
    exact Ev.congr e2 main
  · have hn' := of_decide_eq_false (Bool.eq_false_iff.2 hn)
    have e2 : ∀ n, spec_l8Has.f n k s v l = spec_l8Has.j0 n false k s v l := fun n => by
      unfold spec_l8Has.f
      repeat rw [if_neg (by omega)]
    refine Ev.congr e2 (Ev.step (f := fun n => spec_l8Has.j1 n false false k s v l) (fun n => by simp only [spec_l8Has.j0, Bool.false_eq_true, if_false]) ?_)
    by_cases h2 : k = 2
    · subst h2
      have e : textB 2 s = (realOf s).2 := rfl
      have e3 : numOkB 2 v = (v == 0) := rfl
      rw [e, e3]
      refine Ev.step (f := fun n => (spec_RealOf.f n s).bind fun t => if t.2 = true then some (v == 0) else some false) (fun n => by simp only [spec_l8Has.j1, Bool.false_eq_true, if_false, if_true]) (Ev.bind (spec_RealOf_ev hs) ?_)
      cases (realOf s).2 with
      | false => exact Ev.of_eq fun _ => rfl
      | true => exact Ev.of_eq fun _ => rfl
    · have e : textB k s = (s.toList == ([] : List UInt8)) := by unfold textB; rw [if_neg h2, if_neg hn]
      rw [e]
      refine Ev.shift 2 (h := fun m => some ((s.toList == ([] : List UInt8)) && numOkB k v)) (fun m => ?_) (Ev.of_eq fun _ => rfl)
      show spec_l8Has.j1 (m + 1 + 1) false false k s v l = _
      simp only [spec_l8Has.j1, Bool.false_eq_true, if_false, if_neg h2]
      cases ht : s.toList with
      | nil =>
        have : (([] : List UInt8) != []) = false := rfl
        rw [this, j2f]
        rfl
      | cons a b =>
        have : ((a :: b : List UInt8) != []) = true := rfl
        rw [this, j2t]
        rfl

-- chunk treeok: the tree's two checks, told over lists, are the same
def classB (k : Int) : Int :=
  if 1 ≤ k ∧ k ≤ 11 then 1 else if 12 ≤ k ∧ k ≤ 26 then 2 else if k = 27 then 3 else if k = 29 then 4 else if k = 30 then 5 else if k = 31 then 6 else if k = 32 then 7 else if k = 28 then 8 else if k = 33 ∨ k = 34 then 9 else 0
def right (k c : Int) : Bool := if c = 10 then decide (k = 7) else decide (classB k = c ∧ c ≠ 0)
/-- The kids are of the classes of a shape. -/
def fitAll (nodes : List S56) : List Int → List Int → Bool
  | [], [] => true
  | x :: xs, c :: cs => right (rd_T56 nodes x).f0 c && fitAll nodes xs cs
  | _, _ => false
theorem fitAll_rep (nodes : List S56) (c : Int) : ∀ xs : List Int, fitAll nodes xs (List.replicate xs.length c) = xs.all fun x => right (rd_T56 nodes x).f0 c
  | [] => rfl
  | x :: xs => by
    show (right (rd_T56 nodes x).f0 c && fitAll nodes xs (List.replicate xs.length c)) = _
    rw [fitAll_rep nodes c xs]
    rfl
theorem fitAll_len (nodes : List S56) : ∀ (xs cs : List Int), fitAll nodes xs cs = true → xs.length = cs.length
  | [], [], _ => rfl
  | x :: xs, c :: cs, h => by
    unfold fitAll at h
    rw [Bool.and_eq_true] at h
    have := fitAll_len nodes xs cs h.2
    simp [this]
  | [], _ :: _, h => by simp [fitAll] at h
  | _ :: _, [], h => by simp [fitAll] at h
theorem right1 (k : Int) : right k 1 = isExprV k := by
  unfold right classB isExprV
  repeat' split
  all_goals simp
  all_goals omega
theorem right2 (k : Int) : right k 2 = isStatV k := by
  unfold right classB isStatV
  repeat' split
  all_goals simp
  all_goals omega
theorem rightK (k c m : Int) (h : (c = 3 ∧ m = 27) ∨ (c = 4 ∧ m = 29) ∨ (c = 5 ∧ m = 30) ∨ (c = 6 ∧ m = 31) ∨ (c = 7 ∧ m = 32) ∨ (c = 8 ∧ m = 28) ∨ (c = 10 ∧ m = 7)) : right k c = isK m k := by
  have e : isK m k = decide (k = m) := by unfold isK; rw [Bool.eq_iff_iff]; simp
  rw [e]
  by_cases h10 : c = 10
  · obtain ⟨rfl, rfl⟩ : c = 10 ∧ m = 7 := by omega
    rfl
  · unfold right
    rw [if_neg h10]
    refine decide_eq_decide.2 ⟨fun hc => ?_, fun hk => ?_⟩
    · obtain ⟨hc, _⟩ := hc
      unfold classB at hc
      repeat' split at hc
      all_goals omega
    · subst hk
      rcases h with ⟨rfl, rfl⟩ | ⟨rfl, rfl⟩ | ⟨rfl, rfl⟩ | ⟨rfl, rfl⟩ | ⟨rfl, rfl⟩ | ⟨rfl, rfl⟩ | ⟨rfl, rfl⟩
      all_goals first | decide | exact absurd rfl h10
/-- The classes that a node's kids must have, by its kind and their number. -/
def shapeB (k : Int) (n : Nat) : List Int :=
  if k = 7 then List.replicate n 1
  else if k = 8 ∨ k = 10 then [1, 1]
  else if k = 9 ∨ k = 12 ∨ k = 13 ∨ k = 14 ∨ k = 15 ∨ k = 19 ∨ k = 23 ∨ k = 26 ∨ k = 28 then [1]
  else if k = 11 then 1 :: 6 :: List.replicate (n - 2) 6
  else if k = 16 then (if n = 3 then [1, 3, 3] else [1, 3])
  else if k = 17 then [1, 3]
  else if k = 18 then [4, 5, 3]
  else if k = 20 then [6, 3]
  else if k = 21 then List.replicate n 8
  else if k = 25 then [10]
  else if k = 27 then List.replicate n 2
  else if k = 29 then 6 :: List.replicate (n - 1) 6
  else if k = 30 then List.replicate n 6
  else if k = 33 then List.replicate (n - 1) 7 ++ [3]
  else if k = 34 then [3]
  else []
theorem all_congr' {α : Type} {p q : α → Bool} (l : List α) (h : ∀ x, p x = q x) : l.all p = l.all q := by
  have : p = q := funext h
  rw [this]
theorem fit1 (nodes : List S56) (kids : List Int) (c1 : Int) (p1 : Int → Bool) (h1 : ∀ k, right k c1 = p1 k) : (decide (kids.length = 1) && fitAll nodes kids [c1]) = kidsP nodes kids [p1] := by
  match kids with
  | [] => simp [kidsP]
  | [x] => simp [kidsP, fitAll, kidP, List.range_succ, h1]
  | x :: y :: zs => simp [kidsP]
theorem fit2 (nodes : List S56) (kids : List Int) (c1 c2 : Int) (p1 p2 : Int → Bool) (h1 : ∀ k, right k c1 = p1 k) (h2 : ∀ k, right k c2 = p2 k) : (decide (kids.length = 2) && fitAll nodes kids [c1, c2]) = kidsP nodes kids [p1, p2] := by
  match kids with
  | [] => simp [kidsP]
  | [x] => simp [kidsP]
  | [x, y] => simp [kidsP, fitAll, kidP, List.range_succ, h1, h2]
  | x :: y :: z :: zs => simp [kidsP]
theorem fit3 (nodes : List S56) (kids : List Int) (c1 c2 c3 : Int) (p1 p2 p3 : Int → Bool) (h1 : ∀ k, right k c1 = p1 k) (h2 : ∀ k, right k c2 = p2 k) (h3 : ∀ k, right k c3 = p3 k) : (decide (kids.length = 3) && fitAll nodes kids [c1, c2, c3]) = kidsP nodes kids [p1, p2, p3] := by
  match kids with
  | [] => simp [kidsP]
  | [x] => simp [kidsP]
  | [x, y] => simp [kidsP]
  | [x, y, z] => simp [kidsP, fitAll, kidP, List.range_succ, h1, h2, h3]
  | x :: y :: z :: u :: zs => simp [kidsP]
theorem fitLen (nodes : List S56) (kids cs : List Int) : (decide (kids.length = cs.length) && fitAll nodes kids cs) = fitAll nodes kids cs := by
  cases h : fitAll nodes kids cs with
  | false => simp
  | true => simp [fitAll_len nodes kids cs h]
theorem fitRep (nodes : List S56) (kids : List Int) (c : Int) (p : Int → Bool) (h : ∀ k, right k c = p k) : fitAll nodes kids (List.replicate kids.length c) = kids.all fun x => p (rd_T56 nodes x).f0 := by
  rw [fitAll_rep]
  exact all_congr' _ fun x => h _
theorem fitSnoc (nodes : List S56) (c d : Int) : ∀ (xs : List Int) (y : Int), fitAll nodes (xs ++ [y]) (List.replicate xs.length c ++ [d]) = (fitAll nodes xs (List.replicate xs.length c) && right (rd_T56 nodes y).f0 d)
  | [], y => by simp [fitAll]
  | x :: xs, y => by
    show (right (rd_T56 nodes x).f0 c && fitAll nodes (xs ++ [y]) (List.replicate xs.length c ++ [d])) = ((right (rd_T56 nodes x).f0 c && fitAll nodes xs (List.replicate xs.length c)) && right (rd_T56 nodes y).f0 d)
    rw [fitSnoc nodes c d xs y, Bool.and_assoc]
theorem shape_good (nodes : List S56) (k : Int) (kids : List Int) (hk : classB k ≠ 0) : fitAll nodes kids (shapeB k kids.length) = kidsGood nodes k kids := by
  have hr : 1 ≤ k ∧ k ≤ 34 := by
    unfold classB at hk
    repeat' split at hk
    all_goals first | omega | (exact absurd rfl hk)
  have e1 := right1
  have e2 := right2
  have e3 := fun k => rightK k 3 27 (by decide)
  have e4 := fun k => rightK k 4 29 (by decide)
  have e5 := fun k => rightK k 5 30 (by decide)
  have e6 := fun k => rightK k 6 31 (by decide)
  have e7 := fun k => rightK k 7 32 (by decide)
  have e8 := fun k => rightK k 8 28 (by decide)
  have e10 := fun k => rightK k 10 7 (by decide)
  have hd : ∀ k : Int, isExprV k = decide (1 ≤ k ∧ k ≤ 11) := fun _ => rfl
  rw [← fitLen]
  have hk' : k = 1 ∨ k = 2 ∨ k = 3 ∨ k = 4 ∨ k = 5 ∨ k = 6 ∨ k = 7 ∨ k = 8 ∨ k = 9 ∨ k = 10 ∨ k = 11 ∨ k = 12 ∨ k = 13 ∨ k = 14 ∨ k = 15 ∨ k = 16 ∨ k = 17 ∨ k = 18 ∨ k = 19 ∨ k = 20 ∨ k = 21 ∨ k = 22 ∨ k = 23 ∨ k = 24 ∨ k = 25 ∨ k = 26 ∨ k = 27 ∨ k = 28 ∨ k = 29 ∨ k = 30 ∨ k = 31 ∨ k = 32 ∨ k = 33 ∨ k = 34 := by omega
  clear hr hk
  have nil : (decide (kids.length = ([] : List Int).length) && fitAll nodes kids []) = decide (kids.length = 0) := by cases kids <;> simp [fitAll]
  rcases hk' with rfl | rfl | rfl | rfl | rfl | rfl | rfl | rfl | rfl | rfl | rfl | rfl | rfl | rfl | rfl | rfl | rfl | rfl | rfl | rfl | rfl | rfl | rfl | rfl | rfl | rfl | rfl | rfl | rfl | rfl | rfl | rfl | rfl | rfl
  case _ => exact nil
  iterate 5 (case _ => exact nil)
  case _ => -- 7
    rw [fitLen]
    exact fitRep nodes kids 1 isExprV e1
  case _ => exact fit2 nodes kids 1 1 _ _ e1 e1
  case _ => exact fit1 nodes kids 1 _ e1
  case _ => exact fit2 nodes kids 1 1 _ _ e1 e1
  case _ => -- 11
    show (decide (kids.length = (1 :: 6 :: List.replicate (kids.length - 2) 6).length) && fitAll nodes kids (1 :: 6 :: List.replicate (kids.length - 2) 6)) = (decide (kids.length > 1) && isExprV (rd_T56 nodes (rd kids 0)).f0 && (kids.drop 1).all fun x => (rd_T56 nodes x).f0 == 31)
    rw [fitLen]
    match kids with
    | [] => rfl
    | [x] => simp [fitAll]
    | x :: y :: zs =>
      have := fitRep nodes zs 6 _ e6
      have hl : (x :: y :: zs).length - 2 = zs.length := by simp
      have hr : rd (x :: y :: zs) 0 = x := rfl
      rw [hl, hr]
      show (right (rd_T56 nodes x).f0 1 && (right (rd_T56 nodes y).f0 6 && fitAll nodes zs (List.replicate zs.length 6))) = _
      rw [this, e1, e6]
      simp [isK]
  iterate 4 (case _ => exact fit1 nodes kids 1 _ e1)
  case _ => -- 16
    show (decide (kids.length = (if kids.length = 3 then [1, 3, 3] else [1, 3] : List Int).length) && fitAll nodes kids (if kids.length = 3 then [1, 3, 3] else [1, 3])) = (kidsP nodes kids [isExprV, isK 27] || kidsP nodes kids [isExprV, isK 27, isK 27])
    rw [← fit2 nodes kids 1 3 _ _ e1 e3, ← fit3 nodes kids 1 3 3 _ _ _ e1 e3 e3]
    by_cases h : kids.length = 3
    · rw [if_pos h]
      simp [h]
    · rw [if_neg h]
      simp [h]
  case _ => exact fit2 nodes kids 1 3 _ _ e1 e3
  case _ => exact fit3 nodes kids 4 5 3 _ _ _ e4 e5 e3
  case _ => exact fit1 nodes kids 1 _ e1
  case _ => exact fit2 nodes kids 6 3 _ _ e6 e3
  case _ =>
    rw [fitLen]
    exact fitRep nodes kids 8 _ e8
  case _ => exact nil
  case _ => exact fit1 nodes kids 1 _ e1
  case _ => exact nil
  case _ => exact fit1 nodes kids 10 _ e10
  case _ => exact fit1 nodes kids 1 _ e1
  case _ =>
    rw [fitLen]
    exact fitRep nodes kids 2 _ e2
  case _ => exact fit1 nodes kids 1 _ e1
  case _ => -- 29
    show (decide (kids.length = (6 :: List.replicate (kids.length - 1) 6).length) && fitAll nodes kids (6 :: List.replicate (kids.length - 1) 6)) = (decide (kids.length > 0) && kids.all fun x => isK 31 (rd_T56 nodes x).f0)
    rw [fitLen]
    match kids with
    | [] => rfl
    | x :: zs =>
      have := fitRep nodes zs 6 _ e6
      have hl : (x :: zs).length - 1 = zs.length := by simp
      rw [hl]
      show (right (rd_T56 nodes x).f0 6 && fitAll nodes zs (List.replicate zs.length 6)) = _
      rw [this, e6]
      simp
  case _ =>
    rw [fitLen]
    exact fitRep nodes kids 6 _ e6
  case _ => exact nil
  case _ => exact nil
  case _ => -- 33
    show (decide (kids.length = (List.replicate (kids.length - 1) 7 ++ [3] : List Int).length) && fitAll nodes kids (List.replicate (kids.length - 1) 7 ++ [3])) = (decide (kids.length > 0) && (kids.dropLast.all fun x => isK 32 (rd_T56 nodes x).f0) && isK 27 (rd_T56 nodes (kids.getLastD 0)).f0)
    rw [fitLen]
    clear nil
    rcases List.eq_nil_or_concat kids with rfl | ⟨xs, y, e⟩
    · rfl
    · rw [List.concat_eq_append] at e
      subst e
      have hl : (xs ++ [y]).length - 1 = xs.length := by simp
      rw [hl, fitSnoc, fitRep nodes xs 7 _ e7, e3]
      simp
  case _ => exact fit1 nodes kids 3 _ e3
section
variable (nodes : List S56) (hasT : S56 → Bool)
def fitsB : Nat → Int → Int → Int → List Bool → Option (Int × List Bool)
  | 0, _, _, _, _ => none
  | d + 1, i, c, a, s =>
    if ¬ (0 ≤ i ∧ i < nodes.length) then none
    else if s.getD i.toNat false = true then none
    else if right (rd_T56 nodes i).f0 c = true ∧ (rd_T56 nodes i).f3.length = (shapeB (rd_T56 nodes i).f0 (rd_T56 nodes i).f3.length).length ∧ hasT (rd_T56 nodes i) = true then
      match fitsKids (fitsB d) i (rd_T56 nodes i).f3 (shapeB (rd_T56 nodes i).f0 (rd_T56 nodes i).f3.length) a (s.set i.toNat true) with
      | none => none
      | some (b, s') => if b = i then some (b + 1, s') else none
    else none
def topsS : List Int → Int → List Bool → Option (Int × List Bool)
  | [], a, s => some (a, s)
  | i :: is, a, s => match fitsB nodes hasT (i.toNat + 1) i 9 a s with
    | none => none
    | some (b, s') => topsS is b s'
def treeOkS (tops : List Int) : Bool :=
  decide (nodes.length ≤ 4000) && decide (tops.length ≤ 4000) && match topsS nodes hasT tops 0 (List.replicate nodes.length false) with
    | none => false
    | some (a, _) => decide (a = nodes.length)
end
theorem right_class {k c : Int} (h : right k c = true) : classB k ≠ 0 := by
  unfold right at h
  split at h
  · have := of_decide_eq_true h
    subst this
    decide
  · have := of_decide_eq_true h
    omega
theorem numKids_ge {rec : Int → Int → Int} (hr : ∀ k b, 0 ≤ rec k b → rec k b = k + 1 ∧ b ≤ k) : ∀ (ks : List Int) (a : Int), 0 ≤ numKids rec ks a → a ≤ numKids rec ks a
  | [], a, _ => Int.le_refl a
  | k :: ks, a, h => by
    by_cases h1 : rec k a < 0
    · have : numKids rec (k :: ks) a = -1 := if_pos h1
      omega
    · have e : numKids rec (k :: ks) a = numKids rec ks (rec k a) := if_neg h1
      rw [e] at h ⊢
      obtain ⟨e1, e2⟩ := hr k a (by omega)
      have := numKids_ge hr ks _ h
      omega
theorem num_range (nodes : List S56) : ∀ (d : Nat) (i a : Int), 0 ≤ numB nodes d i a → numB nodes d i a = i + 1 ∧ a ≤ i
  | 0, i, a, h => by
    have : numB nodes 0 i a = -1 := rfl
    omega
  | d + 1, i, a, h => by
    have e : numB nodes (d + 1) i a = if numKids (numB nodes d) (rd_T56 nodes i).f3 a < 0 then -1 else if i = numKids (numB nodes d) (rd_T56 nodes i).f3 a then numKids (numB nodes d) (rd_T56 nodes i).f3 a + 1 else -1 := rfl
    rw [e] at h ⊢
    split at h
    · omega
    · next h1 =>
      split at h
      · next h2 =>
        have := numKids_ge (num_range nodes d) _ _ (Int.not_lt.1 h1)
        rw [if_neg h1, if_pos h2]
        omega
      · omega
theorem getD_set_ne {s : List Bool} {i j : Nat} (h : i ≠ j) (b : Bool) : (s.set i b).getD j false = s.getD j false := by
  rw [List.getD_eq_getElem?_getD, List.getD_eq_getElem?_getD, List.getElem?_set_ne h]
section
variable {nodes : List S56} {hasT : S56 → Bool}
theorem num_fits (hok : ∀ i : Nat, i < nodes.length → nodeOkB nodes hasT i = true) : ∀ (d : Nat) (i a c : Int) (s : List Bool), 0 ≤ i → i < nodes.length → i.toNat < d → 0 ≤ a → 0 ≤ numB nodes d i a → right (rd_T56 nodes i).f0 c = true → (∀ j : Nat, a ≤ j → (j : Int) ≤ i → s.getD j false = false) → s.length = nodes.length →
    numB nodes d i a = i + 1 ∧ a ≤ i ∧ ∃ s', fitsB nodes hasT d i c a s = some (i + 1, s') ∧ s'.length = nodes.length ∧ ∀ j : Nat, i < j → s'.getD j false = s.getD j false := by
  intro d
  induction d with
  | zero => intro i a c s _ _ h; omega
  | succ d ih =>
    intro i a c s h0 h1 hd ha hn hr hs hl
    have ho := hok i.toNat (by omega)
    rw [show ((i.toNat : Nat) : Int) = i by omega] at ho
    unfold nodeOkB at ho
    rw [Bool.and_eq_true, Bool.and_eq_true] at ho
    obtain ⟨⟨hkids, hT⟩, hgood⟩ := ho
    rw [List.all_eq_true] at hkids
    rw [← shape_good nodes _ _ (right_class hr)] at hgood
    have hlen := fitAll_len _ _ _ hgood
    -- the chain of the kids
    have key : ∀ (ks cs : List Int) (b : Int) (s : List Bool), (∀ k ∈ ks, 0 ≤ k ∧ k ≤ i - 1) → fitAll nodes ks cs = true → 0 ≤ b → b ≤ i → 0 ≤ numKids (numB nodes d) ks b → numKids (numB nodes d) ks b ≤ i → (∀ j : Nat, b ≤ j → (j : Int) < i → s.getD j false = false) → s.length = nodes.length →
        b ≤ numKids (numB nodes d) ks b ∧ ∃ s', fitsKids (fitsB nodes hasT d) i ks cs b s = some (numKids (numB nodes d) ks b, s') ∧ s'.length = nodes.length ∧ ∀ j : Nat, i < j → s'.getD j false = s.getD j false := by
      intro ks
      induction ks with
      | nil =>
        intro cs b s _ hf hb hbi h2 h3 h4 h5
        cases cs with
        | nil => exact ⟨Int.le_refl _, s, rfl, h5, fun _ _ => rfl⟩
        | cons _ _ => simp [fitAll] at hf
      | cons k ks ihk =>
        intro cs b s hk hf hb hbi h2 h3 h4 h5
        cases cs with
        | nil => simp [fitAll] at hf
        | cons c cs =>
          unfold fitAll at hf
          rw [Bool.and_eq_true] at hf
          obtain ⟨k0, k1⟩ := hk k (List.mem_cons_self ..)
          have hn : 0 ≤ numB nodes d k b := by
            unfold numKids at h2
            split at h2 <;> omega
          obtain ⟨f1, f2, s', f3, f4, f5⟩ := ih k b c s k0 (by omega) (by omega) hb hn hf.1 (fun j hj1 hj2 => h4 j hj1 (by omega)) h5
          have e : numKids (numB nodes d) (k :: ks) b = numKids (numB nodes d) ks (k + 1) := by
            show (if numB nodes d k b < 0 then -1 else numKids (numB nodes d) ks (numB nodes d k b)) = _
            rw [f1, if_neg (by omega)]
          rw [e] at h2 h3 ⊢
          obtain ⟨g1, s2, g2, g3, g4⟩ := ihk cs (k + 1) s' (fun x hx => hk x (List.mem_cons_of_mem _ hx)) hf.2 (by omega) (by omega) h2 h3 (fun j hj1 hj2 => by rw [f5 j (by omega)]; exact h4 j (by omega) hj2) f4
          refine ⟨by omega, s2, ?_, g3, fun j hj => by rw [g4 j hj, f5 j (by omega)]⟩
          show (if k ≥ i then none else match fitsB nodes hasT d k c b s with
            | none => none
            | some (b, s') => fitsKids (fitsB nodes hasT d) i ks cs b s') = _
          rw [if_neg (by omega), f3]
          exact g2
    have hns : ¬ numKids (numB nodes d) (rd_T56 nodes i).f3 a < 0 := by
      intro h
      unfold numB at hn
      rw [if_pos h] at hn
      omega
    have hne : i = numKids (numB nodes d) (rd_T56 nodes i).f3 a := by
      by_cases h : i = numKids (numB nodes d) (rd_T56 nodes i).f3 a
      · exact h
      · unfold numB at hn
        rw [if_neg hns, if_neg h] at hn
        omega
    obtain ⟨hnum, hai⟩ := num_range nodes _ _ _ hn
    refine ⟨hnum, hai, ?_⟩
    have hset : ∀ j : Nat, (j : Int) ≠ i → (s.set i.toNat true).getD j false = s.getD j false := fun j hj => getD_set_ne (by omega) _
    obtain ⟨_, s', g2, g3, g4⟩ := key (rd_T56 nodes i).f3 _ a (s.set i.toNat true) (fun k hk => of_decide_eq_true (hkids k hk)) hgood ha hai (Int.not_lt.1 hns) (by omega) (fun j hj1 hj2 => by rw [hset j (by omega)]; exact hs j hj1 (by omega)) (by rw [List.length_set]; exact hl)
    refine ⟨s', ?_, g3, fun j hj => by rw [g4 j hj, hset j (by omega)]⟩
    unfold fitsB
    rw [if_neg (by simp only [Classical.not_not]; exact ⟨h0, h1⟩), if_neg (by rw [hs i.toNat (by omega) (by omega)]; exact Bool.false_ne_true), if_pos ⟨hr, hlen, hT⟩, g2]
    simp only []
    rw [if_pos hne.symm, ← hne]
/-- What fits is numbered, and all that it holds is right. -/
theorem fits_num : ∀ (d : Nat) (i c a : Int) (s : List Bool) (r : Int) (s' : List Bool), fitsB nodes hasT d i c a s = some (r, s') → 0 ≤ a →
    0 ≤ i ∧ i < nodes.length ∧ r = i + 1 ∧ a ≤ i ∧ numB nodes d i a = i + 1 ∧ right (rd_T56 nodes i).f0 c = true ∧ ∀ j : Nat, a ≤ j → (j : Int) ≤ i → nodeOkB nodes hasT j = true := by
  intro d
  induction d with
  | zero => intro i c a s r s' h; cases h
  | succ d ih =>
    intro i c a s r s' h ha
    unfold fitsB at h
    split at h
    · cases h
    next h1 =>
    simp only [Classical.not_not] at h1
    split at h
    · cases h
    split at h
    rotate_left
    · cases h
    next h2 =>
    obtain ⟨hr, hlen, hT⟩ := h2
    have key : ∀ (ks cs : List Int) (b : Int) (s : List Bool) (r : Int) (s' : List Bool), fitsKids (fitsB nodes hasT d) i ks cs b s = some (r, s') → ks.length = cs.length → 0 ≤ b →
        numKids (numB nodes d) ks b = r ∧ b ≤ r ∧ fitAll nodes ks cs = true ∧ (∀ k ∈ ks, 0 ≤ k ∧ k ≤ i - 1) ∧ ∀ j : Nat, b ≤ j → (j : Int) < r → nodeOkB nodes hasT j = true := by
      intro ks
      induction ks with
      | nil =>
        intro cs b s r s' hf hl hb
        cases cs with
        | nil =>
          cases hf
          exact ⟨rfl, Int.le_refl _, rfl, fun k hk => (nomatch hk), fun j h1 h2 => by omega⟩
        | cons _ _ => simp at hl
      | cons k ks ihk =>
        intro cs b s r s' hf hl hb
        cases cs with
        | nil => simp at hl
        | cons c cs =>
          unfold fitsKids at hf
          split at hf
          · cases hf
          next hki =>
          split at hf
          · cases hf
          next b2 s2 hrec =>
          obtain ⟨f0, f1, rfl, f3, f4, f5, f6⟩ := ih k c b s b2 s2 hrec hb
          obtain ⟨g1, g2, g3, g4, g5⟩ := ihk cs (k + 1) s2 r s' hf (by simpa using hl) (by omega)
          refine ⟨?_, by omega, ?_, ?_, ?_⟩
          · show (if numB nodes d k b < 0 then -1 else numKids (numB nodes d) ks (numB nodes d k b)) = _
            rw [f4, if_neg (by omega)]
            exact g1
          · unfold fitAll
            rw [f5, g3]
            rfl
          · intro x hx
            rcases List.mem_cons.1 hx with rfl | hx
            · omega
            · exact g4 x hx
          · intro j hj1 hj2
            by_cases hj : (j : Int) ≤ k
            · exact f6 j hj1 hj
            · exact g5 j (by omega) hj2
    split at h
    · cases h
    next b s2 hf =>
    split at h
    rotate_left
    · cases h
    next hbi =>
    subst hbi
    cases h
    obtain ⟨g1, g2, g3, g4, g5⟩ := key _ _ _ _ _ _ hf hlen ha
    refine ⟨h1.1, h1.2, rfl, g2, ?_, hr, ?_⟩
    · show (if numKids (numB nodes d) (rd_T56 nodes b).f3 a < 0 then -1 else if b = numKids (numB nodes d) (rd_T56 nodes b).f3 a then numKids (numB nodes d) (rd_T56 nodes b).f3 a + 1 else -1) = _
      rw [g1, if_neg (by omega), if_pos rfl]
    · intro j hj1 hj2
      by_cases hj : (j : Int) < b
      · exact g5 j hj1 hj
      · obtain rfl : (j : Int) = b := by omega
        unfold nodeOkB
        rw [Bool.and_eq_true, Bool.and_eq_true]
        refine ⟨⟨List.all_eq_true.2 fun k hk => decide_eq_true (g4 k hk), hT⟩, ?_⟩
        rw [← shape_good nodes _ _ (right_class hr)]
        exact g3
theorem class9 (k : Int) : right k 9 = decide (k = 33 ∨ k = 34) := by
  unfold right classB
  repeat' split
  all_goals simp
  all_goals omega
theorem tops_len : ∀ (tops : List Int) (a r : Int), topsI nodes tops a = r → 0 ≤ r → 0 ≤ a → a + tops.length ≤ r
  | [], a, r, h, _, _ => by
    have e : topsI nodes [] a = a := rfl
    rw [e] at h
    simp only [List.length_nil]
    omega
  | i :: is, a, r, h, hr, ha => by
    unfold topsI at h
    split at h
    · omega
    split at h
    · omega
    next h1 =>
    obtain ⟨e1, e2⟩ := num_range nodes _ _ _ (Int.not_lt.1 h1)
    have := tops_len is _ r h hr (by omega)
    rw [List.length_cons]
    omega
theorem treeOk_same (tops : List Int) : treeOkI nodes hasT tops = treeOkS nodes hasT tops := by
  rw [Bool.eq_iff_iff]
  constructor
  · intro h
    unfold treeOkI at h
    rw [Bool.and_eq_true, Bool.and_eq_true] at h
    obtain ⟨⟨h1, h2⟩, h3⟩ := h
    replace h3 := of_decide_eq_true h3
    have hok : ∀ i : Nat, i < nodes.length → nodeOkB nodes hasT i = true := fun i hi => List.all_eq_true.1 h2 i (List.mem_range.2 hi)
    have htl := tops_len tops 0 _ h3 (by omega) (by omega)
    have key : ∀ (tops : List Int) (a : Int) (s : List Bool), 0 ≤ a → topsI nodes tops a = nodes.length → s.length = nodes.length → (∀ j : Nat, a ≤ j → s.getD j false = false) → ∃ s', topsS nodes hasT tops a s = some ((nodes.length : Int), s') := by
      intro tops
      induction tops with
      | nil =>
        intro a s _ ht _ _
        exact ⟨s, by rw [show a = nodes.length from ht]; rfl⟩
      | cons i is iht =>
        intro a s ha ht hl hs
        unfold topsI at ht
        split at ht
        · omega
        next g1 =>
        split at ht
        · omega
        next g2 =>
        have g3 : 0 ≤ i ∧ i < nodes.length := Classical.byContradiction fun hc => g1 (Or.inl hc)
        have g4 : ¬ (rd_T56 nodes i).f0 < 33 := fun hc => g1 (Or.inr hc)
        have ho := hok i.toNat (by omega)
        rw [show ((i.toNat : Nat) : Int) = i by omega] at ho
        have hr : right (rd_T56 nodes i).f0 9 = true := by
          unfold nodeOkB at ho
          rw [Bool.and_eq_true] at ho
          have hg := ho.2
          rw [class9]
          refine decide_eq_true ?_
          unfold kidsGood isExprV isStatV at hg
          rw [if_neg (by simp; omega), if_neg (by simp; omega)] at hg
          unfold otherOkB at hg
          repeat' split at hg
          all_goals first | omega | cases hg
        obtain ⟨e1, e2, s', e3, e4, e5⟩ := num_fits hok (i.toNat + 1) i a 9 s g3.1 g3.2 (by omega) ha (Int.not_lt.1 g2) hr (fun j hj1 _ => hs j hj1) hl
        rw [e1] at ht
        obtain ⟨s2, e6⟩ := iht (i + 1) s' (by omega) ht e4 (fun j hj => by rw [e5 j (by omega)]; exact hs j (by omega))
        refine ⟨s2, ?_⟩
        unfold topsS
        rw [e3]
        exact e6
    obtain ⟨s', hs'⟩ := key tops 0 (List.replicate nodes.length false) (by omega) h3 (by simp) (fun j _ => by
      rw [List.getD_eq_getElem?_getD, List.getElem?_replicate]
      split <;> rfl)
    unfold treeOkS
    rw [hs', h1, decide_eq_true (show tops.length ≤ 4000 by have := of_decide_eq_true h1; omega)]
    simp
  · intro h
    unfold treeOkS at h
    rw [Bool.and_eq_true, Bool.and_eq_true] at h
    obtain ⟨⟨h1, h2⟩, h3⟩ := h
    split at h3
    · cases h3
    next a s' hs' =>
    replace h3 := of_decide_eq_true h3
    have key : ∀ (tops : List Int) (a : Int) (s : List Bool) (r : Int) (s' : List Bool), 0 ≤ a → topsS nodes hasT tops a s = some (r, s') → topsI nodes tops a = r ∧ ∀ j : Nat, a ≤ j → (j : Int) < r → nodeOkB nodes hasT j = true := by
      intro tops
      induction tops with
      | nil =>
        intro a s r s' ha ht
        cases ht
        exact ⟨rfl, fun j _ _ => by omega⟩
      | cons i is iht =>
        intro a s r s' ha ht
        unfold topsS at ht
        split at ht
        · cases ht
        next b s2 hf =>
        obtain ⟨f0, f1, rfl, f3, f4, f5, f6⟩ := fits_num _ _ _ _ _ _ _ hf ha
        obtain ⟨g1, g2⟩ := iht _ _ _ _ (by omega) ht
        rw [class9] at f5
        have f5 := of_decide_eq_true f5
        refine ⟨?_, fun j hj1 hj2 => ?_⟩
        · unfold topsI
          rw [if_neg (by intro hc; rcases hc with hc | hc <;> omega), f4, if_neg (by omega)]
          exact g1
        · by_cases hj : (j : Int) ≤ i
          · exact f6 j hj1 hj
          · exact g2 j (by omega) hj2
    obtain ⟨g1, g2⟩ := key _ _ _ _ _ (by omega) hs'
    unfold treeOkI
    rw [h1, g1, h3, Bool.true_and, Bool.and_eq_true]
    refine ⟨List.all_eq_true.2 fun j hj => g2 j (by omega) (by have := List.mem_range.1 hj; omega), by simp⟩
end

-- chunk treelaws: TreeOk of both; trees are copied, measured, and the same as themselves
abbrev LN := S52
abbrev IN := S56
def hasTB (n : IN) : Bool := textB n.f0 n.f1 && numOkB n.f0 n.f2
theorem impl_TreeOk_ev {nodes : List IN} (tops : List Int) (hs : ∀ n ∈ nodes, n.f1.size ≤ maxLen) : Ev (fun k => impl_TreeOk.f k nodes tops) (treeOkI nodes hasTB tops) := by
  obtain ⟨K, hK⟩ := Ev.all (F := fun k (n : IN) => impl_textOk.f k n.f0 n.f1 n.f2 n.f3) (r := fun n => textB n.f0 n.f1) (l := nodes) (fun n hn => impl_textOk_ev n.f0 n.f2 n.f3 (hs n hn))
  refine ⟨K, fun k hk => ?_⟩
  have h1 : ∀ n ∈ nodes, impl_hasS k n = true := fun n hn => by
    unfold impl_hasS
    rw [hK k hk n hn, impl_numberOk_eq]
    rfl
  have h2 : ∀ n ∈ nodes, impl_hasT k n = hasTB n := fun n hn => by
    unfold impl_hasT hasTB
    rw [hK k hk n hn, impl_numberOk_eq]
    rfl
  show impl_TreeOk.f k nodes tops = _
  unfold impl_TreeOk.f
  by_cases c : nodes.length > 4000
  · rw [if_pos c]
    unfold treeOkI
    rw [decide_eq_false (by omega), Bool.false_and, Bool.false_and]
  · rw [if_neg c, if_pos (List.all_eq_true.2 h1), treeOkI_congr h2]
theorem rightC_eq (k c : Int) : rightC (classB k) k c = right k c := by
  unfold rightC right
  split
  · rw [Bool.eq_iff_iff]; simp
  · rw [Bool.eq_iff_iff]; simp
theorem fitsG_eq {nodes : List IN} {sp : Sp} {hasT : IN → Bool} (h : ∀ n ∈ nodes, sp.cls n = classB n.f0 ∧ sp.shape n = (shapeB n.f0 n.f3.length, decide ((shapeB n.f0 n.f3.length).length = n.f3.length)) ∧ sp.has n = hasT n) : ∀ (d : Nat) (i c a : Int) (s : List Bool), fitsG nodes sp d i c a s = fitsB nodes hasT d i c a s := by
  intro d
  induction d with
  | zero => intro i c a s; rfl
  | succ d ih =>
    intro i c a s
    unfold fitsG fitsB
    by_cases h1 : 0 ≤ i ∧ i < nodes.length
    · obtain ⟨e1, e2, e3⟩ := h _ (sRdMem h1.1 h1.2)
      rw [e1, e2, e3, fitsKids_congr ih, rightC_eq]
      dsimp only
      have hiff : (right (rd_T56 nodes i).f0 c = true ∧ decide ((shapeB (rd_T56 nodes i).f0 (rd_T56 nodes i).f3.length).length = (rd_T56 nodes i).f3.length) = true ∧ hasT (rd_T56 nodes i) = true) = (right (rd_T56 nodes i).f0 c = true ∧ (rd_T56 nodes i).f3.length = (shapeB (rd_T56 nodes i).f0 (rd_T56 nodes i).f3.length).length ∧ hasT (rd_T56 nodes i) = true) := by
        rw [decide_eq_true_eq, eq_comm (a := (shapeB _ _).length)]
      simp only [hiff]
      rfl
    · rw [if_pos h1, if_pos h1]
theorem topsG_eq {nodes : List IN} {sp : Sp} {hasT : IN → Bool} (h : ∀ n ∈ nodes, sp.cls n = classB n.f0 ∧ sp.shape n = (shapeB n.f0 n.f3.length, decide ((shapeB n.f0 n.f3.length).length = n.f3.length)) ∧ sp.has n = hasT n) : ∀ (is : List Int) (a : Int) (s : List Bool), topsG nodes sp is a s = topsS nodes hasT is a s
  | [], a, s => rfl
  | i :: is, a, s => by
    unfold topsG topsS
    rw [fitsG_eq h]
    cases fitsB nodes hasT (i.toNat + 1) i 9 a s with
    | none => rfl
    | some p =>
      obtain ⟨b, s'⟩ := p
      exact topsG_eq h is b s'
theorem spec_l8Class_ev (k : Int) : Ev (fun n => spec_l8Class.f n k) (classB k) := by
  refine Ev.shift 2 (h := fun _ => some (classB k)) (fun m => ?_) (Ev.of_eq fun _ => rfl)
  rcases (by omega : (1 ≤ k ∧ k ≤ 11) ∨ (12 ≤ k ∧ k ≤ 26) ∨ k = 27 ∨ k = 28 ∨ k = 29 ∨ k = 30 ∨ k = 31 ∨ k = 32 ∨ k = 33 ∨ k = 34 ∨ k < 1 ∨ 34 < k) with h | h | rfl | rfl | rfl | rfl | rfl | rfl | rfl | rfl | h | h
  · unfold spec_l8Class.f
    simp only [spec_l8Class.j0, spec_l8Class.j1]
    rw [if_pos (by omega : k ≥ 1), decide_eq_true h.2, if_pos rfl]
    unfold classB
    rw [if_pos h]
  · unfold spec_l8Class.f
    simp only [spec_l8Class.j0, spec_l8Class.j1]
    rw [if_pos (by omega : k ≥ 1), decide_eq_false (by omega : ¬ k ≤ 11), if_neg Bool.false_ne_true, if_pos h.1, decide_eq_true h.2, if_pos rfl]
    unfold classB
    rw [if_neg (by omega), if_pos h]
  iterate 8 (case _ => rfl)
  · unfold spec_l8Class.f
    simp only [spec_l8Class.j0, spec_l8Class.j1]
    rw [if_neg (by omega : ¬ k ≥ 1), if_neg Bool.false_ne_true, if_neg (by omega : ¬ k ≥ 12), if_neg Bool.false_ne_true]
    unfold classB
    repeat rw [if_neg (by omega)]
  · unfold spec_l8Class.f
    simp only [spec_l8Class.j0, spec_l8Class.j1]
    rw [if_pos (by omega : k ≥ 1), decide_eq_false (by omega : ¬ k ≤ 11), if_neg Bool.false_ne_true, if_pos (by omega : k ≥ 12), decide_eq_false (by omega : ¬ k ≤ 26), if_neg Bool.false_ne_true]
    unfold classB
    repeat rw [if_neg (by omega)]
section
variable {n : Nat}
theorem shape_j6 (x : List Int) (m : Nat) : spec_l8Shape.j6 (m + 1) (n : Int) x 0 = some (x, decide (x.length = n)) := by
  simp only [spec_l8Shape.j6, if_true]
  congr 2
  rw [Bool.eq_iff_iff, beq_iff_eq, decide_eq_true_eq]
  omega
theorem shape_l3 (c : Int) (hn : n ≤ 1048576) : Ev (fun k => spec_l8Shape.l3 k (n : Int) [] c 0) (List.replicate n c, decide ((List.replicate n c).length = n)) := by
  have key : ∀ d i : Nat, i + d = n → Ev (fun k => spec_l8Shape.l3 k (n : Int) (List.replicate i c) c (i : Int)) (List.replicate n c, decide ((List.replicate n c).length = n)) := by
    intro d
    induction d with
    | zero =>
      intro i hi
      obtain rfl : i = n := by omega
      refine Ev.succ (fun k => ?_)
      simp only [spec_l8Shape.l3]
      rw [if_neg (by omega), List.length_replicate, decide_eq_true rfl]
      simp
    | succ d ih =>
      intro i hi
      refine Ev.step (fun k => ?_) (ih (i + 1) (by omega))
      show spec_l8Shape.l3 (k + 1) (n : Int) (List.replicate i c) c (i : Int) = _
      simp only [spec_l8Shape.l3]
      rw [if_pos (by omega), List.length_replicate, if_pos (by omega), w64_succ (i := i) (n := n) (by omega) (by omega), ← List.replicate_succ']
  exact key n 0 (Nat.zero_add _)
theorem shape_j6c (c : Int) (hc : c ≠ 0) (hn : n ≤ 1048576) : Ev (fun k => spec_l8Shape.j6 k (n : Int) [] c) (List.replicate n c, decide ((List.replicate n c).length = n)) := by
  refine Ev.step (fun k => ?_) (shape_l3 c hn)
  show spec_l8Shape.j6 (k + 1) (n : Int) [] c = _
  simp only [spec_l8Shape.j6]
  rw [if_neg hc]
theorem shape_fill (F : Nat → Int → List Int → Int → Option (List Int × Bool)) (hF : ∀ k x, F (k + 1) (n : Int) x 0 = if (x.length : Int) < (n : Int) then (if x.length < 17592186044416 then F k (n : Int) (x ++ [6]) 0 else none) else spec_l8Shape.j6 k (n : Int) x 0) (hn : n ≤ 1048576) : ∀ (d : Nat) (x : List Int), n - x.length = d → Ev (fun k => F k (n : Int) x 0) (x ++ List.replicate (n - x.length) 6, decide ((x ++ List.replicate (n - x.length) 6).length = n)) := by
  intro d
  induction d with
  | zero =>
    intro x hx
    refine Ev.shift 2 (h := fun _ => some (x ++ List.replicate (n - x.length) 6, decide ((x ++ List.replicate (n - x.length) 6).length = n))) (fun m => ?_) (Ev.of_eq fun _ => rfl)
    show F (m + 1 + 1) (n : Int) x 0 = _
    rw [hF, if_neg (by omega), shape_j6, hx]
    simp
  | succ d ih =>
    intro x hx
    have h := ih (x ++ [6]) (by rw [List.length_append]; simp; omega)
    have e : x ++ [6] ++ List.replicate (n - (x ++ [6]).length) 6 = x ++ List.replicate (n - x.length) 6 := by
      rw [List.append_assoc, List.length_append]
      congr 1
      rw [hx, show n - (x.length + [(6 : Int)].length) = d by simp; omega, List.replicate_succ]
      rfl
    rw [e] at h
    refine Ev.step (fun k => ?_) h
    show F (k + 1) (n : Int) x 0 = _
    rw [hF, if_pos (by omega), if_pos (by omega)]
theorem shape_l2 (hn : n ≤ 1048576) : ∀ d i : Nat, n - 1 - i = d → i ≤ n - 1 → Ev (fun k => spec_l8Shape.l2 k (n : Int) (List.replicate i 7) 0) (List.replicate (n - 1) 7 ++ [3], decide ((List.replicate (n - 1) (7 : Int) ++ [3]).length = n)) := by
  intro d
  induction d with
  | zero =>
    intro i hd hi
    obtain rfl : i = n - 1 := by omega
    refine Ev.shift 2 (h := fun _ => some (List.replicate (n - 1) 7 ++ [3], decide ((List.replicate (n - 1) (7 : Int) ++ [3]).length = n))) (fun m => ?_) (Ev.of_eq fun _ => rfl)
    show spec_l8Shape.l2 (m + 1 + 1) (n : Int) (List.replicate (n - 1) 7) 0 = _
    simp only [spec_l8Shape.l2]
    rw [List.length_replicate, w64_nat _ (by omega), if_neg (by omega), if_pos (by omega), shape_j6]
  | succ d ih =>
    intro i hd hi
    refine Ev.step (fun k => ?_) (ih (i + 1) (by omega) (by omega))
    show spec_l8Shape.l2 (k + 1) (n : Int) (List.replicate i 7) 0 = _
    simp only [spec_l8Shape.l2]
    rw [List.length_replicate, w64_nat _ (by omega), if_pos (by omega), if_pos (by omega), ← List.replicate_succ']
end
theorem spec_l8Shape_ev (k v : Int) (s : ByteArray) (l : List Int) (hl : l.length ≤ 1048576) : Ev (fun n => spec_l8Shape.f n k s v l) (shapeB k l.length, decide ((shapeB k l.length).length = l.length)) := by
  have go : ∀ (j : Nat) (x : List Int), (∀ m, spec_l8Shape.f (m + j) k s v l = spec_l8Shape.j6 m (l.length : Int) x 0) → shapeB k l.length = x → Ev (fun n => spec_l8Shape.f n k s v l) (shapeB k l.length, decide ((shapeB k l.length).length = l.length)) := fun j x h e => by
    rw [e]
    exact Ev.shift j h (Ev.succ (fun m => shape_j6 x m))
  have goc : ∀ (j : Nat) (c : Int), c ≠ 0 → (∀ m, spec_l8Shape.f (m + j) k s v l = spec_l8Shape.j6 m (l.length : Int) [] c) → shapeB k l.length = List.replicate l.length c → Ev (fun n => spec_l8Shape.f n k s v l) (shapeB k l.length, decide ((shapeB k l.length).length = l.length)) := fun j c hc h e => by
    rw [e]
    exact Ev.shift j h (shape_j6c c hc hl)
  by_cases hr : k < 1 ∨ 34 < k
  · refine go 3 [] (fun m => ?_) ?_
    · have b : ∀ c : Int, 1 ≤ c → c ≤ 34 → (k == c) = false := fun c h1 h2 => beq_eq_false_iff_ne.2 (by omega)
      unfold spec_l8Shape.f
      simp only [Option.bind_some]
      repeat rw [if_neg (by omega)]
      rw [b 32 (by omega) (by omega)]
      simp only [spec_l8Shape.j0, Bool.false_eq_true, if_false]
      repeat rw [if_neg (by omega)]
      rw [b 10 (by omega) (by omega)]
      simp only [spec_l8Shape.j1, Bool.false_eq_true, if_false]
      repeat rw [if_neg (by omega)]
      rw [b 28 (by omega) (by omega)]
      simp only [spec_l8Shape.j2, Bool.false_eq_true, if_false]
      repeat rw [if_neg (by omega)]
    · unfold shapeB
      repeat rw [if_neg (by omega)]
  have hk' : k = 1 ∨ k = 2 ∨ k = 3 ∨ k = 4 ∨ k = 5 ∨ k = 6 ∨ k = 7 ∨ k = 8 ∨ k = 9 ∨ k = 10 ∨ k = 11 ∨ k = 12 ∨ k = 13 ∨ k = 14 ∨ k = 15 ∨ k = 16 ∨ k = 17 ∨ k = 18 ∨ k = 19 ∨ k = 20 ∨ k = 21 ∨ k = 22 ∨ k = 23 ∨ k = 24 ∨ k = 25 ∨ k = 26 ∨ k = 27 ∨ k = 28 ∨ k = 29 ∨ k = 30 ∨ k = 31 ∨ k = 32 ∨ k = 33 ∨ k = 34 := by omega
  clear hr
  rcases hk' with rfl | rfl | rfl | rfl | rfl | rfl | rfl | rfl | rfl | rfl | rfl | rfl | rfl | rfl | rfl | rfl | rfl | rfl | rfl | rfl | rfl | rfl | rfl | rfl | rfl | rfl | rfl | rfl | rfl | rfl | rfl | rfl | rfl | rfl
  iterate 6 (case _ => exact go 1 [] (fun m => rfl) rfl)
  case _ => exact goc 1 1 (by decide) (fun m => rfl) rfl
  case _ => exact go 2 [1, 1] (fun m => rfl) rfl
  case _ => exact go 3 [1] (fun m => rfl) rfl
  case _ => exact go 2 [1, 1] (fun m => rfl) rfl
  case _ =>
    have e : shapeB 11 l.length = [1, 6] ++ List.replicate (l.length - [(1 : Int), 6].length) 6 := rfl
    rw [e]
    exact Ev.shift 3 (h := fun m => spec_l8Shape.l0 m (l.length : Int) [1, 6] 0) (fun m => rfl) (shape_fill spec_l8Shape.l0 (fun k x => by simp only [spec_l8Shape.l0]) hl _ _ rfl)
  iterate 4 (case _ => exact go 3 [1] (fun m => rfl) rfl)
  case _ =>
    by_cases h3 : l.length = 3
    · refine go 3 [1, 3, 3] (fun m => ?_) (if_pos h3)
      show (if (l.length : Int) = 3 then spec_l8Shape.j6 m (l.length : Int) [1, 3, 3] 0 else spec_l8Shape.j6 m (l.length : Int) [1, 3] 0) = _
      rw [if_pos (by omega)]
    · refine go 3 [1, 3] (fun m => ?_) (if_neg h3)
      show (if (l.length : Int) = 3 then spec_l8Shape.j6 m (l.length : Int) [1, 3, 3] 0 else spec_l8Shape.j6 m (l.length : Int) [1, 3] 0) = _
      rw [if_neg (by omega)]
  case _ => exact go 3 [1, 3] (fun m => rfl) rfl
  case _ => exact go 3 [4, 5, 3] (fun m => rfl) rfl
  case _ => exact go 3 [1] (fun m => rfl) rfl
  case _ => exact go 3 [6, 3] (fun m => rfl) rfl
  case _ => exact goc 3 8 (by decide) (fun m => rfl) rfl
  case _ => exact go 1 [] (fun m => rfl) rfl
  case _ => exact go 3 [1] (fun m => rfl) rfl
  case _ => exact go 1 [] (fun m => rfl) rfl
  case _ => exact go 3 [10] (fun m => rfl) rfl
  case _ => exact go 3 [1] (fun m => rfl) rfl
  case _ => exact goc 3 2 (by decide) (fun m => rfl) rfl
  case _ => exact go 3 [1] (fun m => rfl) rfl
  case _ =>
    have e : shapeB 29 l.length = [6] ++ List.replicate (l.length - [(6 : Int)].length) 6 := rfl
    rw [e]
    exact Ev.shift 3 (h := fun m => spec_l8Shape.l1 m (l.length : Int) [6] 0) (fun m => rfl) (shape_fill spec_l8Shape.l1 (fun k x => by simp only [spec_l8Shape.l1]) hl _ _ rfl)
  case _ => exact goc 3 6 (by decide) (fun m => rfl) rfl
  case _ => exact go 1 [] (fun m => rfl) rfl
  case _ => exact go 1 [] (fun m => rfl) rfl
  case _ =>
    have e : shapeB 33 l.length = List.replicate (l.length - 1) 7 ++ [3] := rfl
    rw [e]
    exact Ev.shift 3 (h := fun m => spec_l8Shape.l2 m (l.length : Int) [] 0) (fun m => rfl) (shape_l2 hl _ 0 rfl (Nat.zero_le _))
  case _ => exact go 3 [3] (fun m => rfl) rfl
theorem spec_TreeOk_ev {nodes : List IN} (tops : List Int) (hs : ∀ n ∈ nodes, n.f1.size ≤ maxLen ∧ n.f3.length ≤ 1048576) : Ev (fun k => spec_TreeOk.f k nodes tops) (treeOkI nodes hasTB tops) := by
  rw [treeOk_same]
  obtain ⟨K1, h1⟩ := Ev.all (F := fun k (n : IN) => spec_l8Class.f k n.f0) (r := fun n => classB n.f0) (l := nodes) (fun n hn => spec_l8Class_ev n.f0)
  obtain ⟨K2, h2⟩ := Ev.all (F := fun k (n : IN) => spec_l8Has.f k n.f0 n.f1 n.f2 n.f3) (r := fun n => hasTB n) (l := nodes) (fun n hn => spec_l8Has_ev n.f0 n.f2 n.f3 (hs n hn).1)
  obtain ⟨K3, h3⟩ := Ev.all (F := fun k (n : IN) => spec_l8Shape.f k n.f0 n.f1 n.f2 n.f3) (r := fun n => (shapeB n.f0 n.f3.length, decide ((shapeB n.f0 n.f3.length).length = n.f3.length))) (l := nodes) (fun n hn => spec_l8Shape_ev n.f0 n.f2 n.f1 n.f3 (hs n hn).2)
  refine ⟨max K1 (max K2 K3), fun k hk => ?_⟩
  have e1 := h1 k (by omega)
  have e2 := h2 k (by omega)
  have e3 := h3 k (by omega)
  show spec_TreeOk.f k nodes tops = _
  unfold spec_TreeOk.f treeOkS
  by_cases c : nodes.length > 4000 ∨ tops.length > 4000
  · rw [if_pos c]
    rcases c with c | c
    · rw [decide_eq_false (by omega : ¬ nodes.length ≤ 4000), Bool.false_and, Bool.false_and]
    · rw [decide_eq_false (by omega : ¬ tops.length ≤ 4000), Bool.and_false, Bool.false_and]
  · rw [if_neg c, if_pos (List.all_eq_true.2 fun n hn => ?_), decide_eq_true (by omega : nodes.length ≤ 4000), decide_eq_true (by omega : tops.length ≤ 4000), Bool.true_and, Bool.true_and]
    · unfold treeOkG
      rw [topsG_eq (hasT := hasTB) (fun n hn => by
        unfold spOf
        simp only [e1 n hn, e2 n hn, e3 n hn, Option.getD_some]
        exact ⟨trivial, trivial, trivial⟩)]
      cases topsS nodes hasTB tops 0 (List.replicate nodes.length false) with
      | none => rfl
      | some p => rfl
    · unfold spS
      rw [e1 n hn, e2 n hn, e3 n hn]
      simp

-- chunk treecopy: trees are measured, copied, and the same as themselves
def toN (x : LN) : IN := ⟨x.f0, x.f1, x.f2, x.f3⟩
def smallN (x : LN) : Prop := x.f1.size ≤ 1048576 ∧ x.f3.length ≤ 1048576
theorem szI_cases {l : List Int} (hl : l.length ≤ maxLen) {a : Int} (h0 : 0 ≤ a) (h1 : a ≤ 1048576) :
    (laws_szIntS.f l a = some (-1)) ∨ (laws_szIntS.f l a = some (a - l.length) ∧ (l.length : Int) ≤ a) := by
  unfold maxLen at hl
  unfold laws_szIntS.f
  rw [w64 (by omega) (by omega)]
  by_cases h : a - (l.length : Int) < 0
  · left; rw [if_pos h]
  · right; rw [if_neg h]; exact ⟨rfl, by omega⟩
theorem szNode_cases {x : LN} (h1 : x.f1.size ≤ maxLen) (h3 : x.f3.length ≤ maxLen) {a : Int} (a0 : 0 ≤ a) (a1 : a ≤ 1048576) :
    laws_szNode.f x.f0 x.f1 x.f2 x.f3 a = some (-1) ∨ ∃ b, laws_szNode.f x.f0 x.f1 x.f2 x.f3 a = some b ∧ 0 ≤ b ∧ b ≤ 1048576 ∧ smallN x := by
  unfold laws_szNode.f
  have h1' := h1
  unfold maxLen at h1'
  rw [w64 (by omega) (by omega)]
  by_cases c : a - (x.f1.size : Int) < 0
  · left; rw [if_pos c]
  · rw [if_neg c]
    rcases szI_cases h3 (a := a - x.f1.size) (by omega) (by omega) with e | ⟨e, p⟩
    · left; rw [e]; rfl
    · right
      refine ⟨a - x.f1.size - x.f3.length, ?_, by omega, by omega, by omega, by omega⟩
      rw [e]
      show (if a - (x.f1.size : Int) - (x.f3.length : Int) < 0 then some (-1) else some (a - (x.f1.size : Int) - (x.f3.length : Int))) = _
      rw [if_neg (by omega)]
theorem rd_LN {l : List LN} {i : Nat} (h : i < l.length) : rd_T52 l (i : Int) = l[i] := by
  unfold rd_T52; rw [Int.toNat_natCast]; exact getD_lt l _ h
theorem rd_IN {l : List IN} {i : Nat} (h : i < l.length) : rd_T56 l (i : Int) = l[i] := by
  unfold rd_T56; rw [Int.toNat_natCast]; exact getD_lt l _ h
theorem szNodeS_ev {l : List LN} (hl : l.length ≤ maxLen) (h : ∀ x ∈ l, x.f1.size ≤ maxLen ∧ x.f3.length ≤ maxLen) :
    Ev (fun k => laws_szNodeS.f k l 1048576) (-1) ∨ ∃ b, Ev (fun k => laws_szNodeS.f k l 1048576) b ∧ 0 ≤ b ∧ b ≤ 1048576 ∧ l.length ≤ 1048576 ∧ ∀ x ∈ l, smallN x := by
  have hl' := hl
  unfold maxLen at hl'
  unfold laws_szNodeS.f
  simp only [w64 (x := 1048576 - (l.length : Int)) (by omega) (by omega)]
  by_cases c : 1048576 - (l.length : Int) < 0
  · left; exact Ev.congr (fun k => if_pos c) (Ev.now _)
  have key : ∀ (d i : Nat) (a : Int), i + d = l.length → 0 ≤ a → a ≤ 1048576 → Ev (fun k => laws_szNodeS.l0 k l a (i : Int)) (-1) ∨ ∃ b, Ev (fun k => laws_szNodeS.l0 k l a (i : Int)) b ∧ 0 ≤ b ∧ b ≤ 1048576 ∧ ∀ j, i ≤ j → (hj : j < l.length) → smallN l[j] := by
    intro d
    induction d with
    | zero =>
      intro i a hi a0 a1
      right
      refine ⟨a, Ev.succ (fun k => ?_), a0, a1, fun j hj hj2 => by omega⟩
      simp only [laws_szNodeS.l0]
      rw [if_neg (by omega)]
    | succ d ih =>
      intro i a hi a0 a1
      have hlt : i < l.length := by omega
      obtain ⟨g1, g3⟩ := h l[i] (List.getElem_mem hlt)
      rcases szNode_cases g1 g3 a0 a1 with e | ⟨b, e, b0, b1, hs⟩
      · left
        refine Ev.succ (fun k => ?_)
        simp only [laws_szNodeS.l0]
        rw [if_pos (by omega), if_pos (by omega), rd_LN hlt, e]
        rfl
      · have st : ∀ k, laws_szNodeS.l0 (k + 1) l a (i : Int) = laws_szNodeS.l0 k l b ((i + 1 : Nat) : Int) := fun k => by
          simp only [laws_szNodeS.l0]
          rw [if_pos (by omega), if_pos (by omega), rd_LN hlt, e, w64_succ hlt (by omega)]
          show (if b < 0 then _ else _) = _
          rw [if_neg (by omega)]
        rcases ih (i + 1) b (by omega) b0 b1 with h' | ⟨b', h', c0, c1, hs'⟩
        · left; exact Ev.step st h'
        · right
          refine ⟨b', Ev.step st h', c0, c1, fun j hj hj2 => ?_⟩
          by_cases ej : j = i
          · subst ej; exact hs
          · exact hs' j (by omega) hj2
  rcases key l.length 0 (1048576 - l.length) (by omega) (by omega) (by omega) with h' | ⟨b, h', b0, b1, hs⟩
  · left; exact Ev.congr (fun k => if_neg c) h'
  · right
    refine ⟨b, Ev.congr (fun k => if_neg c) h', b0, b1, by omega, fun x hx => ?_⟩
    obtain ⟨j, hj, rfl⟩ := List.getElem_of_mem hx
    exact hs j (by omega) hj
theorem szTree_ev {l : List LN} {tops : List Int} (hl : l.length ≤ maxLen) (h : ∀ x ∈ l, x.f1.size ≤ maxLen ∧ x.f3.length ≤ maxLen) (ht : tops.length ≤ maxLen) :
    Ev (fun k => laws_szTree.f k l tops 1048576) (-1) ∨ ∃ b, Ev (fun k => laws_szTree.f k l tops 1048576) b ∧ 0 ≤ b ∧ l.length ≤ 1048576 ∧ (∀ x ∈ l, smallN x) ∧ tops.length ≤ 1048576 := by
  unfold laws_szTree.f
  rcases szNodeS_ev hl h with e | ⟨b, e, b0, b1, l1, hs⟩
  · left; exact Ev.bind e (Ev.of_eq fun _ => rfl)
  · rcases szI_cases ht b0 b1 with e2 | ⟨e2, p⟩
    · left
      refine Ev.bind e (Ev.congr (fun k => if_neg (by omega)) (Ev.of_eq fun _ => ?_))
      rw [e2]
      rfl
    · right
      refine ⟨b - tops.length, Ev.bind e (Ev.congr (fun k => if_neg (by omega)) (Ev.of_eq fun _ => ?_)), by omega, l1, hs, by omega⟩
      rw [e2]
      show (if b - (tops.length : Int) < 0 then some (-1) else some (b - (tops.length : Int))) = _
      rw [if_neg (by omega)]
theorem toNode_ev {x : LN} (h : x.f3.length ≤ 1048576) : Ev (fun k => laws_toNode.f k x.f0 x.f1 x.f2 x.f3) (x.f0, x.f1, x.f2, x.f3) := by
  unfold laws_toNode.f
  exact Ev.bind (toIntS_ev (by omega)) (Ev.of_eq fun _ => rfl)
theorem toNodeS_ev {l : List LN} (hl : l.length ≤ 1048576) (hs : ∀ x ∈ l, smallN x) : Ev (fun k => laws_toNodeS.f k l) (l.map toN) := by
  unfold laws_toNodeS.f
  simp only [Int.natCast_nonneg, if_true, Int.toNat_natCast, if_pos (show l.length ≤ 5026338869833 by omega)]
  refine fill_ev l toN (fun k ys i => laws_toNodeS.l0 k l ys i) (fun i h ys hy r hr => ?_) (fun ys => ?_) _ (by simp)
  · refine Ev.step (f := fun k => (laws_toNode.f k l[i].f0 l[i].f1 l[i].f2 l[i].f3).bind fun bt => if (i : Int) < (ys.length : Int) then laws_toNodeS.l0 k l (ys.set (i : Int).toNat (⟨bt.1, bt.2.1, bt.2.2.1, bt.2.2.2⟩ : IN)) (wrap64 ((i : Int) + 1)) else none) (fun k => ?_) (Ev.bind (toNode_ev (hs _ (List.getElem_mem h)).2) (Ev.congr (fun k => if_pos (by omega)) ?_))
    · show laws_toNodeS.l0 (k + 1) l ys i = _
      simp only [laws_toNodeS.l0]
      rw [if_pos (by omega), if_pos (by omega), rd_LN h]
    · rw [w64_succ h (by omega), Int.toNat_natCast]
      exact hr
  · refine Ev.succ (fun k => ?_)
    simp only [laws_toNodeS.l0]
    rw [if_neg (by omega)]
theorem toTree_ev {l : List LN} {tops : List Int} (hl : l.length ≤ 1048576) (hs : ∀ x ∈ l, smallN x) (ht : tops.length ≤ 1048576) : Ev (fun k => laws_toTree.f k l tops) (l.map toN, tops) := by
  unfold laws_toTree.f
  exact Ev.bind (toNodeS_ev hl hs) (Ev.bind (toIntS_ev (by omega)) (Ev.of_eq fun _ => rfl))
theorem eqNode_refl {x : IN} (h : x.f3.length ≤ 1048576) : Ev (fun k => laws_eqNode.f k x.f0 x.f1 x.f2 x.f3 x.f0 x.f1 x.f2 x.f3) true := by
  unfold laws_eqNode.f
  refine Ev.congr (fun k => by rw [if_pos rfl, if_pos rfl, if_pos rfl]) ?_
  exact Ev.bind (eqIntS_refl (by omega)) (Ev.congr (fun k => if_pos rfl) (Ev.now _))
theorem eqNodeS_refl {l : List IN} (hl : l.length ≤ 1048576) (hs : ∀ x ∈ l, x.f3.length ≤ 1048576) : Ev (fun k => laws_eqNodeS.f k l l) true := by
  unfold laws_eqNodeS.f
  simp only [if_true]
  refine down_ev (fun k i => laws_eqNodeS.l0 k l l i) l.length true (fun i h hr => ?_) ?_ 0 (by omega)
  · refine Ev.step (f := fun k => (laws_eqNode.f k l[i].f0 l[i].f1 l[i].f2 l[i].f3 l[i].f0 l[i].f1 l[i].f2 l[i].f3).bind fun t => if t = true then laws_eqNodeS.l0 k l l ((i + 1 : Nat) : Int) else none) (fun k => ?_) (Ev.bind (eqNode_refl (hs _ (List.getElem_mem h))) (Ev.congr (fun k => if_pos rfl) hr))
    simp only [laws_eqNodeS.l0]
    rw [if_pos (by omega), if_pos (by omega), if_pos (by omega), rd_IN h, w64_succ h (by omega)]
  · refine Ev.succ (fun k => ?_)
    simp only [laws_eqNodeS.l0]
    rw [if_neg (by omega)]
theorem eqTree_refl {l : List IN} {tops : List Int} (hl : l.length ≤ 1048576) (hs : ∀ x ∈ l, x.f3.length ≤ 1048576) (ht : tops.length ≤ 1048576) : Ev (fun k => laws_eqTree.f k l tops l tops) true := by
  unfold laws_eqTree.f
  exact Ev.bind (eqNodeS_refl hl hs) (Ev.congr (fun k => if_pos rfl) (Ev.bind (eqIntS_refl (by omega)) (Ev.congr (fun k => if_pos rfl) (Ev.now _))))
theorem map_small {l : List LN} (hs : ∀ x ∈ l, smallN x) : ∀ n ∈ l.map toN, n.f1.size ≤ maxLen ∧ n.f3.length ≤ 1048576 := fun n hn => by
  obtain ⟨x, hx, rfl⟩ := List.mem_map.1 hn
  obtain ⟨h1, h3⟩ := hs x hx
  exact ⟨by unfold maxLen; show x.f1.size ≤ _; omega, h3⟩

-- chunk edges: lists of edges are copied, and the same as themselves
theorem markIntS_ev {l : List Int} (a : Int) (hl : l.length ≤ 4611686018427387904) (h0 : 0 ≤ a) (h1 : a ≤ 4611686018427387902) : Ev (fun k => laws_markIntS.f k l a) (a + l.length, (List.range l.length).map fun i : Nat => a + (i : Int)) := by
  unfold laws_markIntS.f
  have key : ∀ (d i : Nat) (ys : List Int), ys.length = l.length → i + d = l.length → (∀ j (hj : j < i), ys[j]? = some (a + (j : Int))) →
      Ev (fun k => laws_markIntS.l0 k ys (a + i) (i : Int)) (a + l.length, (List.range l.length).map fun i : Nat => a + (i : Int)) := by
    intro d
    induction d with
    | zero =>
      intro i ys hy hi hj
      obtain rfl : i = l.length := by omega
      refine Ev.succ (fun k => ?_)
      simp only [laws_markIntS.l0]
      rw [if_neg (by omega)]
      have : (List.range l.length).map (fun i : Nat => a + (i : Int)) = ys := by
        apply List.ext_getElem?
        intro j
        by_cases hjj : j < l.length
        · rw [hj j hjj, List.getElem?_map, List.getElem?_range hjj]; rfl
        · rw [List.getElem?_eq_none (by simpa using hjj), List.getElem?_eq_none (by omega)]
      rw [this]
    | succ d ih =>
      intro i ys hy hi hj
      have h := ih (i + 1) (ys.set i (a + i)) (by simpa using hy) (by omega) (fun j hj1 => by
        by_cases e : j = i
        · subst e
          rw [List.getElem?_set_self (by omega)]
        · rw [List.getElem?_set_ne (by omega)]
          exact hj j (by omega))
      refine Ev.step (fun k => ?_) h
      simp only [laws_markIntS.l0]
      rw [if_pos (by omega), if_pos (by omega), w64_succ (n := l.length) (by omega) (by omega), Int.toNat_natCast, w64 (by omega) (by omega)]
      rw [show a + (i : Int) + 1 = a + ((i + 1 : Nat) : Int) by omega]
  have h := key l.length 0 l rfl (by omega) (fun j hj => by omega)
  simpa using h
theorem heldIntS_ev {n : Nat} (a : Int) (hn : n ≤ 4611686018427387904) (h0 : 0 ≤ a) (h1 : a ≤ 4611686018427387902) : Ev (fun k => laws_heldIntS.f k ((List.range n).map fun i : Nat => a + (i : Int)) a) (a + n) := by
  unfold laws_heldIntS.f
  have key : ∀ (d i : Nat), i + d = n → Ev (fun k => laws_heldIntS.l0 k ((List.range n).map fun i : Nat => a + (i : Int)) (a + i) (i : Int)) (a + n) := by
    intro d
    induction d with
    | zero =>
      intro i hi
      obtain rfl : i = n := by omega
      refine Ev.succ (fun k => ?_)
      simp only [laws_heldIntS.l0, List.length_map, List.length_range]
      rw [if_neg (by omega)]
    | succ d ih =>
      intro i hi
      refine Ev.step (fun k => ?_) (ih (i + 1) (by omega))
      simp only [laws_heldIntS.l0, List.length_map, List.length_range]
      rw [if_pos (by omega), if_pos (by omega), rd_lt _ (by simp; omega), if_pos (by simp), w64_succ (n := n) (by omega) (by omega), w64 (by omega) (by omega)]
      rw [show a + (i : Int) + 1 = a + ((i + 1 : Nat) : Int) by omega]
  have h := key n 0 (by omega)
  simpa using h
theorem strOfNums_size1 (x : Int) : (strOfNums [x]).size = 1 := by simp [strOfNums, ByteArray.size]
theorem markTextB_ev {a : Nat} (ha : a ≤ 4000000000000000000) : ∃ t, Ev (fun k => laws_markText.f k (a : Int)) t := by
  unfold laws_markText.f
  by_cases h0 : (a : Int) ≤ 0
  · exact ⟨_, Ev.congr (fun k => if_pos h0) (Ev.now _)⟩
  · have key : ∀ d : Nat, ∀ x : Nat, x ≤ 4000000000000000000 → x < 10 ^ d → ∀ t : ByteArray, t.size + d ≤ 100 → ∃ r, Ev (fun k => laws_markText.l0 k (x : Int) t) r := by
      intro d
      induction d with
      | zero =>
        intro x hb hx t ht
        refine ⟨(⟨#[109]⟩ : ByteArray) ++ t, Ev.succ (fun k => ?_)⟩
        simp only [laws_markText.l0]
        rw [if_neg (by omega), if_pos (by omega)]
      | succ d ih =>
        intro x hb hx t ht
        by_cases h : x = 0
        · refine ⟨(⟨#[109]⟩ : ByteArray) ++ t, Ev.succ (fun k => ?_)⟩
          simp only [laws_markText.l0]
          rw [if_neg (by omega), if_pos (by omega)]
        · obtain ⟨r, hr⟩ := ih (x / 10) (by omega) (by rw [Nat.pow_succ] at hx; omega) (strOfNums [(wrap64 (48 + (Int.tmod (x : Int) 10))) % 256] ++ t) (by rw [ByteArray.size_append, strOfNums_size1]; omega)
          refine ⟨r, Ev.step (fun k => ?_) hr⟩
          simp only [laws_markText.l0, Option.bind_some]
          have hq : wrap64 (Int.tdiv (x : Int) 10) = ((x / 10 : Nat) : Int) := by
            rw [show Int.tdiv (x : Int) 10 = ((x / 10 : Nat) : Int) from rfl]
            exact w64 (by omega) (by omega)
          rw [if_pos (by omega), if_pos (by rw [strOfNums_size1]; omega), hq]
    obtain ⟨r, hr⟩ := key 19 a ha (by omega) (⟨#[]⟩ : ByteArray) (by decide)
    exact ⟨r, Ev.congr (fun k => if_neg h0) hr⟩

theorem leafB_in {v : Int × Int × Nat × Nat × Int} (h : v.1 = 4 → v.2.1 = 0 ∨ v.2.1 = 1) {p : Int × Int} (e : Own.leafB v = some p) : Own.litIn p.1 p.2 = true := by
  unfold Own.leafB at e
  split at e
  rotate_left
  · cases e
  split at e
  next h4 =>
    cases e
    show (!Own.isLit 3 || Own.litOk (Own.lk 3) v.2.1 0 0) = true
    have := h h4
    unfold Own.litOk Own.lk
    rw [Bool.or_eq_true]
    right
    exact decide_eq_true ⟨rfl, rfl, .inr ⟨rfl, this⟩⟩
  next h4 =>
  split at e
  next h1 =>
    cases e
    show (!Own.isLit 1 || Own.litOk (Own.lk 1) v.2.1 0 0) = true
    unfold Own.litOk Own.lk
    rw [Bool.or_eq_true]
    right
    exact decide_eq_true ⟨rfl, rfl, .inl ⟨rfl, h1.2⟩⟩
  · cases e
theorem yesB_in (b : Bool) : (Own.yesB b).2.1 = 0 ∨ (Own.yesB b).2.1 = 1 := by
  cases b
  · exact .inl rfl
  · exact .inr rfl
theorem opB_in (op k1 i1 k2 i2 : Int) : (Own.opB op k1 i1 k2 i2).1 = 4 → (Own.opB op k1 i1 k2 i2).2.1 = 0 ∨ (Own.opB op k1 i1 k2 i2).2.1 = 1 := by
  unfold Own.opB Own.intB Own.boolB
  repeat' split
  all_goals first | exact fun _ => yesB_in _ | exact fun h => absurd h (by simp)
theorem turnB_in (op kd iv : Int) : (Own.turnB op kd iv).1 = 4 → (Own.turnB op kd iv).2.1 = 0 ∨ (Own.turnB op kd iv).2.1 = 1 := by
  unfold Own.turnB
  repeat' split
  all_goals first | exact fun _ => yesB_in _ | exact fun h => absurd h (by simp)
theorem smallB_in {kd op k0 i0 k1 i1 : Int} {p : Int × Int} (e : Own.smallB kd op k0 i0 k1 i1 = some p) : Own.litIn p.1 p.2 = true := by
  unfold Own.smallB at e
  split at e
  · split at e
    · exact leafB_in (opB_in _ _ _ _ _) e
    · cases e
  · split at e
    · split at e
      · exact leafB_in (turnB_in _ _ _) e
      · cases e
    · cases e
theorem smallB_8 {op k0 i0 k1 i1 : Int} {p : Int × Int} (e : Own.smallB 8 op k0 i0 k1 i1 = some p) : Own.isLit k0 = true ∧ Own.isLit k1 = true := by
  unfold Own.smallB at e
  rw [if_pos rfl] at e
  split at e
  · assumption
  · cases e
theorem smallB_9 (op k0 i0 k1 i1 k2 i2 : Int) : Own.smallB 9 op k0 i0 k1 i1 = Own.smallB 9 op k0 i0 k2 i2 := by
  unfold Own.smallB
  simp
theorem smallB_9l {op k0 i0 k1 i1 : Int} {p : Int × Int} (e : Own.smallB 9 op k0 i0 k1 i1 = some p) : Own.isLit k0 = true := by
  unfold Own.smallB at e
  rw [if_neg (by decide), if_pos rfl] at e
  split at e
  · assumption
  · cases e
theorem smallB_n {kd : Int} (h8 : kd ≠ 8) (h9 : kd ≠ 9) (op k0 i0 k1 i1 : Int) : Own.smallB kd op k0 i0 k1 i1 = none := by
  unfold Own.smallB
  rw [if_neg h8, if_neg h9]
/-- What is known of the nodes that have come. -/
def FInv (xs : List IN) : Prop := ∀ x ∈ xs, Own.litIn x.f0 x.f2 = true ∧ x.f3.length ≤ 4000
theorem FInv.app {xs ys : List IN} (h : FInv xs) (g : FInv ys) : FInv (xs ++ ys) := fun x hx => (List.mem_append.1 hx).elim (h x) (g x)
theorem FInv.left {xs ys : List IN} (h : FInv (xs ++ ys)) : FInv xs := fun x hx => h x (List.mem_append_left _ hx)
theorem FInv.rd {xs : List IN} (h : FInv xs) (i : Int) : Own.litIn (rd_T56 xs i).f0 (rd_T56 xs i).f2 = true := by
  by_cases hi : i.toNat < xs.length
  · have : rd_T56 xs i = xs[i.toNat] := getD_lt xs _ hi
    rw [this]
    exact (h _ (List.getElem_mem hi)).1
  · have : rd_T56 xs i = z56 := by
      unfold rd_T56
      rw [List.getD_eq_getElem?_getD, List.getElem?_eq_none (by omega)]
      rfl
    rw [this]
    rfl
theorem rd_app {xs : List IN} (ys : List IN) {i : Int} (h : i.toNat < xs.length) : rd_T56 (xs ++ ys) i = rd_T56 xs i := by
  unfold rd_T56
  rw [List.getD_eq_getElem?_getD, List.getD_eq_getElem?_getD, List.getElem?_append_left h]
theorem rd_last (xs : List IN) (y : IN) : rd_T56 (xs ++ [y]) (((xs ++ [y]).length : Int) - 1) = y := by
  unfold rd_T56
  have : (((xs ++ [y]).length : Int) - 1).toNat = xs.length := by rw [List.length_append]; simp
  rw [this, List.getD_eq_getElem?_getD, List.getElem?_append_right (Nat.le_refl _)]
  simp
/-- The two folds give the same list for the kids of a node. -/
theorem fold_kids {rec : Int → Int → Int} {F G : Nat → Int → List IN → Option (List IN)} (hrec : ∀ x a, 0 ≤ rec x a → rec x a = x + 1 ∧ a ≤ x)
    (hF : ∀ (x a : Int) (xs : List IN), 0 ≤ rec x a → 0 ≤ a → (xs.length : Int) ≤ a → FInv xs → x < 4000 → ∃ ys y, Ev (fun k => F k x xs) (xs ++ ys ++ [y]) ∧ Ev (fun k => G k x xs) (xs ++ ys ++ [y]) ∧ FInv (xs ++ ys ++ [y]) ∧ ((xs ++ ys ++ [y]).length : Int) ≤ x + 1 ∧ (Own.isLit y.f0 = true → ys = [])) :
    ∀ (kids : List Int) (a : Int) (o : List IN) (ks : List Int) (ls : List IN), (∀ x ∈ kids, x < 4000) → 0 ≤ numKids rec kids a → 0 ≤ a → a ≤ 4000 → (o.length : Int) ≤ a → FInv o → ks.length ≤ o.length → ls.length ≤ o.length →
      ∃ (zs : List IN) (ks' : List Int), Ev (fun k => buildKids (F k) kids o ks) (o ++ zs, ks ++ ks') ∧ Ev (fun k => copyKids (G k) kids o ks ls) (o ++ zs, ks ++ ks', ls ++ ks'.map (rd_T56 (o ++ zs))) ∧ Ev (fun k => foldTops (F k) kids o ks) (o ++ zs, ks ++ ks') ∧ Ev (fun k => foldTopsS (G k) kids o ks) (o ++ zs, ks ++ ks') ∧ FInv (o ++ zs) ∧ ((o ++ zs).length : Int) ≤ numKids rec kids a ∧ ks'.length = kids.length ∧ ks'.length ≤ zs.length ∧ (∀ x ∈ ks', 0 ≤ x ∧ x < ((o ++ zs).length : Int)) ∧ ((∀ x ∈ ks', Own.isLit (rd_T56 (o ++ zs) x).f0 = true) → zs.length = ks'.length)
  | [], a, o, ks, ls, _, _, _, _, ho, hi, _, _ => ⟨[], [], by simp only [List.append_nil]; exact Ev.of_eq fun _ => rfl, by simp only [List.append_nil, List.map_nil]; exact Ev.of_eq fun _ => rfl, by simp only [List.append_nil]; exact Ev.of_eq fun _ => rfl, by simp only [List.append_nil]; exact Ev.of_eq fun _ => rfl, by rw [List.append_nil]; exact hi, by rw [List.append_nil]; exact ho, rfl, Nat.le_refl _, fun x hx => absurd hx (by simp), fun _ => rfl⟩
  | x :: r, a, o, ks, ls, hx4, hn, ha, ha4, ho, hi, hk, hl => by
    have hr0 : 0 ≤ rec x a := by
      unfold numKids at hn
      split at hn
      · omega
      · omega
    have hn' : 0 ≤ numKids rec r (rec x a) := by
      unfold numKids at hn
      rw [if_neg (by omega)] at hn
      exact hn
    have en : numKids rec (x :: r) a = numKids rec r (rec x a) := if_neg (by omega)
    obtain ⟨e1, e2⟩ := hrec x a hr0
    have hx := hx4 x (by simp)
    obtain ⟨ys, y, f1, g1, i1, l1, t1⟩ := hF x a o hr0 ha ho hi hx
    have L : (o ++ ys ++ [y]).length = o.length + ys.length + 1 := by simp [Nat.add_assoc]
    obtain ⟨zs, ks', f2, g2, f3, g3, i2, l2, n2, n3, b2, t2⟩ := fold_kids hrec hF r (rec x a) (o ++ ys ++ [y]) (ks ++ [((o ++ ys ++ [y]).length : Int) - 1]) (ls ++ [y]) (fun z hz => hx4 z (by simp [hz])) hn' (by omega) (by omega) (by omega) i1 (by rw [List.length_append, List.length_singleton]; omega) (by rw [List.length_append, List.length_singleton]; omega)
    have ea : o ++ (ys ++ [y] ++ zs) = o ++ ys ++ [y] ++ zs := by simp
    have hy : rd_T56 (o ++ ys ++ [y] ++ zs) (((o ++ ys ++ [y]).length : Int) - 1) = y := by
      rw [rd_app _ (by omega)]
      exact rd_last _ _
    refine ⟨ys ++ [y] ++ zs, (((o ++ ys ++ [y]).length : Int) - 1) :: ks', ?_, ?_, ?_, ?_, ?_, ?_, ?_, ?_, ?_, ?_⟩
    · rw [ea]
      refine Ev.bind f1 (Ev.congr (fun k => if_pos ⟨by omega, by omega, by omega⟩) ?_)
      simpa using f2
    · rw [ea]
      refine Ev.bind g1 (Ev.congr (fun k => if_pos ⟨by omega, by omega, by omega, by omega, by omega⟩) ?_)
      rw [List.map_cons, hy, rd_last]
      simpa using g2
    · rw [ea]
      refine Ev.bind f1 (Ev.congr (fun k => if_pos ⟨by omega, by omega, by omega⟩) ?_)
      simpa using f3
    · rw [ea]
      refine Ev.bind g1 (Ev.congr (fun k => if_pos ⟨by omega, by omega, by omega⟩) ?_)
      simpa using g3
    · rw [ea]; exact i2
    · rw [ea, en]; exact l2
    · simp [n2]
    · simp only [List.length_cons, List.length_append, List.length_nil]; omega
    · rw [ea]
      intro z hz
      rcases List.mem_cons.1 hz with e | hz
      · subst e
        rw [List.length_append (bs := zs)]
        omega
      · exact b2 z hz
    · rw [ea]
      intro h
      have h1 := h _ (List.mem_cons_self ..)
      rw [hy] at h1
      have h2 := t2 fun z hz => h z (List.mem_cons_of_mem _ hz)
      rw [t1 h1]
      simp [h2]
theorem numKids_congr {f g : Int → Int → Int} : ∀ (ks : List Int), (∀ x ∈ ks, ∀ b, f x b = g x b) → ∀ a, numKids f ks a = numKids g ks a
  | [], _, _ => rfl
  | k :: ks, h, a => by
    unfold numKids
    rw [h k (by simp) a, numKids_congr ks (fun x hx => h x (by simp [hx])) (g k a)]
theorem len2 {ks : List Int} (h : ks.length = 2) : ∃ u v, ks = [u, v] := by
  match ks, h with
  | [u, v], _ => exact ⟨u, v, rfl⟩
theorem len1 {ks : List Int} (h : ks.length = 1) : ∃ u, ks = [u] := by
  match ks, h with
  | [u], _ => exact ⟨u, rfl⟩
theorem kidsP_len {nodes : List IN} {kids : List Int} {ps : List (Int → Bool)} (h : kidsP nodes kids ps = true) : kids.length = ps.length := by
  unfold kidsP at h
  rw [Bool.and_eq_true] at h
  exact of_decide_eq_true h.1
theorem kids_of {nodes : List IN} {k : Int} {kids : List Int} (h : kidsGood nodes k kids = true) : (k = 8 → kids.length = 2) ∧ (k = 9 → kids.length = 1) ∧ (k = 1 ∨ k = 3 → kids = []) := by
  refine ⟨fun e => ?_, fun e => ?_, fun e => ?_⟩
  · subst e
    exact kidsP_len (ps := [isExprV, isExprV]) h
  · subst e
    exact kidsP_len (ps := [isExprV]) h
  · rcases e with e | e
    · subst e
      exact List.length_eq_zero_iff.1 (of_decide_eq_true h)
    · subst e
      exact List.length_eq_zero_iff.1 (of_decide_eq_true h)
theorem lit_of {k v : Int} (h : numOkB k v = true) : Own.litIn k v = true := by
  unfold Own.litIn Own.isLit
  by_cases h1 : k = 1
  · subst h1
    have : 0 ≤ v ∧ v ≤ 999999999999999 := of_decide_eq_true h
    rw [Bool.or_eq_true]
    exact .inr (decide_eq_true ⟨rfl, rfl, .inl ⟨rfl, this⟩⟩)
  · by_cases h3 : k = 3
    · subst h3
      have : 0 ≤ v ∧ v ≤ 1 := of_decide_eq_true h
      rw [Bool.or_eq_true]
      exact .inr (decide_eq_true ⟨rfl, rfl, .inr ⟨rfl, by omega⟩⟩)
    · rw [decide_eq_false (by omega)]
      rfl
theorem getD2 {ls : List IN} {ks : List Int} {o : List IN} (e : ls = ks.map (rd_T56 o)) {j : Nat} (h : j < ks.length) : rd_T56 ls (j : Int) = rd_T56 o (rd ks (j : Int)) := by
  rw [rd_lt _ h, rd_IN (by rw [e, List.length_map]; exact h)]
  subst e
  simp
def foldD (n : IN) (ks : List Int) : Option (Int × Int) → IN × Nat
  | none => (⟨n.f0, n.f1, n.f2, ks⟩, 0)
  | some p => (⟨p.1, ⟨#[]⟩, p.2, []⟩, ks.length)
def smallD : Option (Int × Int) → Int × ByteArray × Int × List Int × Bool
  | none => (0, ⟨#[]⟩, 0, [], false)
  | some p => (p.1, ⟨#[]⟩, p.2, [], true)
def copyD (n : IN) (o : List IN) (m : Nat) (ks : List Int) : Option (Int × Int) → Option (List IN)
  | none => some (o ++ [(⟨n.f0, n.f1, n.f2, ks⟩ : IN)])
  | some p => some (o.take m ++ [(⟨p.1, ⟨#[]⟩, p.2, []⟩ : IN)])
theorem smallR_D (S : Option (Int × Int)) {kd op k0 i0 k1 i1 : Int} (h : Own.smallB kd op k0 i0 k1 i1 = S) : ((smallR kd op k0 i0 k1 i1).1, (⟨#[]⟩ : ByteArray), (smallR kd op k0 i0 k1 i1).2.1, ([] : List Int), (smallR kd op k0 i0 k1 i1).2.2) = smallD S := by
  unfold smallR
  rw [h]
  cases S <;> rfl
theorem fold_node {nodes : List IN} (hn : nodes.length ≤ 4000) (hok : ∀ i : Nat, i < nodes.length → nodeOkB nodes hasTB (i : Int) = true) (tops : List Int) : ∀ (d : Nat) (i a : Int) (xs : List IN), 0 ≤ i → i < nodes.length → i.toNat < d → 0 ≤ numB nodes d i a → 0 ≤ a → (xs.length : Int) ≤ a → FInv xs →
    ∃ ys y, Ev (fun k => buildF k nodes i xs) (xs ++ ys ++ [y]) ∧ Ev (fun k => spec_l23Copy.f k nodes tops i xs true) (xs ++ ys ++ [y]) ∧ FInv (xs ++ ys ++ [y]) ∧ ((xs ++ ys ++ [y]).length : Int) ≤ i + 1 ∧ (Own.isLit y.f0 = true → ys = []) := by
  intro d
  induction d with
  | zero => intro i a xs h0 h1 h2; omega
  | succ d ih =>
    intro i a xs h0 h1 h2 hnum ha hxa hx
    obtain ⟨n, hn0⟩ : ∃ n, n = rd_T56 nodes i := ⟨_, rfl⟩
    have hg := hok i.toNat (by omega)
    rw [Int.toNat_of_nonneg h0] at hg
    unfold nodeOkB at hg
    rw [Bool.and_eq_true, Bool.and_eq_true, ← hn0] at hg
    obtain ⟨⟨hkids, htx⟩, hgood⟩ := hg
    have hkid : ∀ x ∈ n.f3, 0 ≤ x ∧ x ≤ i - 1 := fun x hx => of_decide_eq_true (List.all_eq_true.1 hkids x hx)
    obtain ⟨k8, k9, k0⟩ := kids_of hgood
    have hlit : Own.litIn n.f0 n.f2 = true := by
      unfold hasTB at htx
      rw [Bool.and_eq_true] at htx
      exact lit_of htx.2
    obtain ⟨eN, eA⟩ := num_range nodes _ _ _ hnum
    rw [numB_succ, ← hn0] at hnum
    have hK : 0 ≤ numKids (numB nodes d) n.f3 a ∧ i = numKids (numB nodes d) n.f3 a := by
      split at hnum
      · omega
      · split at hnum
        · omega
        · omega
    obtain ⟨zs, ks, f, g, -, -, hi, hl, n2, n3, hb, ht⟩ := fold_kids (rec := fun x a => if 0 ≤ x ∧ x ≤ i - 1 then numB nodes d x a else -1) (F := fun k x o => buildF k nodes x o) (G := fun k x o => spec_l23Copy.f k nodes tops x o true)
      (fun x a h => by
        try dsimp only at h ⊢
        split at h
        · next hc => rw [if_pos hc]; exact num_range nodes _ _ _ h
        · omega)
      (fun x a xs h h1 h2 h3 _ => by
        try dsimp only at h
        split at h
        · next hc => exact ih x a xs hc.1 (by omega) (by omega) h h1 h2 h3
        · omega)
      n.f3 a xs [] [] (fun x hx => by have := hkid x hx; omega)
      (by
        rw [numKids_congr (g := numB nodes d) n.f3 (fun x hx b => if_pos (hkid x hx)) a]
        exact hK.1) ha (by omega) hxa hx (Nat.zero_le _) (Nat.zero_le _)
    rw [numKids_congr (g := numB nodes d) n.f3 (fun x hx b => if_pos (hkid x hx)) a, ← hK.2] at hl
    rw [List.nil_append] at f g
    rw [List.nil_append] at g
    obtain ⟨o, ho⟩ : ∃ o, o = xs ++ zs := ⟨_, rfl⟩
    rw [← ho] at f g hi hl hb ht
    obtain ⟨ls, hls⟩ : ∃ ls, ls = ks.map (rd_T56 o) := ⟨_, rfl⟩
    rw [← hls] at g
    have hll : ls.length = ks.length := by rw [hls, List.length_map]
    have hol : o.length = xs.length + zs.length := by rw [ho, List.length_append]
    have hils : FInv ls := fun z hz => by
      rw [hls] at hz
      obtain ⟨x, hx, rfl⟩ := List.mem_map.1 hz
      have := hb x hx
      exact hi _ (by rw [show rd_T56 o x = o[x.toNat]'(by omega) from getD_lt o _ (by omega)]; exact List.getElem_mem _)
    obtain ⟨S, hS⟩ : ∃ S, S = Own.smallB n.f0 n.f2 (rd_T56 o (rd ks 0)).f0 (rd_T56 o (rd ks 0)).f2 (rd_T56 o (rd ks 1)).f0 (rd_T56 o (rd ks 1)).f2 := ⟨_, rfl⟩
    have hS2 : Own.smallB n.f0 n.f2 (rd_T56 ls 0).f0 (rd_T56 ls 0).f2 (rd_T56 ls 1).f0 (rd_T56 ls 1).f2 = S := by
      rw [hS]
      by_cases c8 : n.f0 = 8
      · have e0 := getD2 hls (j := 0) (by rw [n2, k8 c8]; decide)
        have e1 := getD2 hls (j := 1) (by rw [n2, k8 c8]; decide)
        rw [show rd_T56 ls 0 = rd_T56 o (rd ks 0) from e0, show rd_T56 ls 1 = rd_T56 o (rd ks 1) from e1]
      · by_cases c9 : n.f0 = 9
        · have e0 := getD2 hls (j := 0) (by rw [n2, k9 c9]; decide)
          rw [show rd_T56 ls 0 = rd_T56 o (rd ks 0) from e0, c9]
          exact smallB_9 _ _ _ _ _ _ _
        · rw [smallB_n c8 c9, smallB_n c8 c9]
    have hgone : S.isSome = true → zs.length = ks.length := fun hs => ht fun x hx => by
      obtain ⟨p, hp⟩ := Option.isSome_iff_exists.1 hs
      rw [hS] at hp
      by_cases c8 : n.f0 = 8
      · rw [c8] at hp
        obtain ⟨l0, l1⟩ := smallB_8 hp
        obtain ⟨u, v, e⟩ : ∃ u v, ks = [u, v] := len2 (n2.trans (k8 c8))
        subst e
        rcases List.mem_cons.1 hx with e | hx
        · subst e; exact l0
        · rcases List.mem_cons.1 hx with e | hx
          · subst e; exact l1
          · cases hx
      · by_cases c9 : n.f0 = 9
        · rw [c9] at hp
          have l0 := smallB_9l hp
          obtain ⟨u, e⟩ : ∃ u, ks = [u] := len1 (n2.trans (k9 c9))
          subst e
          rcases List.mem_cons.1 hx with e | hx
          · subst e; exact l0
          · cases hx
        · rw [smallB_n c8 c9] at hp
          cases hp
    have hFB : foldedB o n ks = foldD n ks S := by rw [hS]; rfl
    have hgo : (foldD n ks S).2 ≤ o.length := by
      clear hS hS2 hgone hFB
      cases S with
      | none => exact Nat.zero_le _
      | some p => show ks.length ≤ o.length; omega
    have hbok : buildOk n o ks = true := by
      unfold buildOk
      rw [hi.rd, hi.rd, hFB, decide_eq_true (show (foldD n ks S).2 ≤ o.length ∧ o.length ≤ 1000000 from ⟨hgo, by omega⟩), decide_eq_true (show n.f0 = 8 → 2 ≤ ks.length from fun e => by have := k8 e; omega), decide_eq_true (show n.f0 = 9 → 1 ≤ ks.length from fun e => by have := k9 e; omega)]
      rw [List.all_eq_true.2 (fun x hx => decide_eq_true (hb x hx))]
      simp
    have hsm : ∀ k, spec_l23Small.f k n.f0 n.f1 n.f2 n.f3 ls = some (smallD S) := fun k => by
      unfold spec_l23Small.f
      rw [if_pos ⟨fun e => by have := k8 e; omega, fun e => by have := k9 e; omega, hils.rd _, hils.rd _⟩, smallR_D S hS2]
    have fin : ∀ (ys : List IN) (y : IN), buildEnd n o ks = some (xs ++ ys ++ [y]) → (∀ k, copyEnd k n xs o ks ls true = some (xs ++ ys ++ [y])) → Ev (fun k => buildF k nodes i xs) (xs ++ ys ++ [y]) ∧ Ev (fun k => spec_l23Copy.f k nodes tops i xs true) (xs ++ ys ++ [y]) := fun ys y e1 e2 => by
      constructor
      · refine Ev.step (f := fun k => (buildKids (fun x o => buildF k nodes x o) n.f3 xs []).bind fun r => buildEnd n r.1 r.2) (fun k => ?_) (Ev.bind f (Ev.of_eq fun _ => e1))
        show (if 0 ≤ i ∧ i < (nodes.length : Int) then _ else none) = _
        rw [if_pos ⟨h0, h1⟩, ← hn0]
      · refine Ev.step (f := fun k => (copyKids (fun x o => spec_l23Copy.f k nodes tops x o true) n.f3 xs [] []).bind fun r => copyEnd k n xs r.1 r.2.1 r.2.2 true) (fun k => ?_) (Ev.bind g (Ev.of_eq fun k => e2 k))
        show (if 0 ≤ i ∧ i < (nodes.length : Int) then _ else none) = _
        rw [if_pos ⟨h0, h1⟩, ← hn0]
    have hce : ∀ k, copyEnd k n xs o ks ls true = copyD n o xs.length ks S := fun k => by
      unfold copyEnd
      rw [if_pos ⟨by omega, by omega⟩, if_pos rfl, hsm k]
      clear hS hS2 hgone hFB hgo hsm
      cases S <;> rfl
    have hbe : buildEnd n o ks = some (o.take (o.length - (foldD n ks S).2) ++ [(foldD n ks S).1]) := by
      unfold buildEnd
      rw [if_pos hbok, hFB]
    clear hFB hgo hsm
    cases hs : S with
    | none =>
      rw [hs] at hbe hce
      have hbe : buildEnd n o ks = some (o.take o.length ++ [(⟨n.f0, n.f1, n.f2, ks⟩ : IN)]) := hbe
      rw [List.take_length] at hbe
      obtain ⟨p, q⟩ := fin zs ⟨n.f0, n.f1, n.f2, ks⟩ (by rw [← ho]; exact hbe) (fun k => by rw [← ho]; exact hce k)
      refine ⟨zs, _, p, q, ?_, ?_, ?_⟩
      · rw [← ho]
        refine hi.app fun z hz => ?_
        rw [List.mem_singleton.1 hz]
        exact ⟨hlit, by show ks.length ≤ 4000; omega⟩
      · rw [← ho, List.length_append]
        show ((o.length + 1 : Nat) : Int) ≤ i + 1
        omega
      · intro h
        have : n.f3 = [] := k0 (of_decide_eq_true h)
        have h3 : ks.length = 0 := by rw [n2, this]; rfl
        have h4 := ht fun x hx => by rw [List.length_eq_zero_iff.1 h3] at hx; cases hx
        exact List.length_eq_zero_iff.1 (by omega)
    | some p =>
      rw [hs] at hbe hce hgone
      have hbe : buildEnd n o ks = some (o.take (o.length - ks.length) ++ [(⟨p.1, ⟨#[]⟩, p.2, []⟩ : IN)]) := hbe
      have hce : ∀ k, copyEnd k n xs o ks ls true = some (o.take xs.length ++ [(⟨p.1, ⟨#[]⟩, p.2, []⟩ : IN)]) := hce
      have hz := hgone rfl
      have ht : o.take xs.length = xs := by rw [ho]; exact List.take_left
      rw [show o.length - ks.length = xs.length by omega, ht] at hbe
      rw [ht] at hce
      obtain ⟨p1, q1⟩ := fin [] ⟨p.1, ⟨#[]⟩, p.2, []⟩ (by rw [List.append_nil]; exact hbe) (fun k => by rw [List.append_nil]; exact hce k)
      refine ⟨[], _, p1, q1, ?_, ?_, fun _ => rfl⟩
      · rw [List.append_nil]
        refine hx.app fun z hz => ?_
        rw [List.mem_singleton.1 hz]
        exact ⟨smallB_in (hS.symm.trans hs), Nat.zero_le _⟩
      · rw [List.append_nil, List.length_append]
        show ((xs.length + 1 : Nat) : Int) ≤ i + 1
        omega
theorem tops_kids {nodes : List IN} : ∀ (tops : List Int) (a : Int), 0 ≤ topsI nodes tops a → (numKids (fun x a => if 0 ≤ x ∧ x < (nodes.length : Int) then numB nodes (x.toNat + 1) x a else -1) tops a = topsI nodes tops a) ∧ ∀ x ∈ tops, x < (nodes.length : Int)
  | [], _, _ => ⟨rfl, fun x hx => absurd hx (by simp)⟩
  | i :: is, a, h => by
    unfold topsI at h ⊢
    split at h
    · omega
    next h0 =>
    split at h
    · omega
    next h1 =>
    rw [if_neg h0, if_neg h1]
    have hi : 0 ≤ i ∧ i < (nodes.length : Int) := Classical.byContradiction fun hc => h0 (Or.inl hc)
    obtain ⟨e, f⟩ := tops_kids is _ h
    refine ⟨?_, fun x hx => ?_⟩
    · unfold numKids
      try dsimp only
      rw [if_pos hi, if_neg h1]
      exact e
    · rcases List.mem_cons.1 hx with e | hx
      · subst e; exact hi.2
      · exact f x hx
def markL (t : Nat → ByteArray) : Nat → List IN → List IN
  | _, [] => []
  | a, x :: r => ⟨(a : Int), t (a + 1), ((a + 2 : Nat) : Int), (List.range x.f3.length).map fun j : Nat => ((a + 3 : Nat) : Int) + (j : Int)⟩ :: markL t (a + 3 + x.f3.length) r
def endL : Nat → List IN → Nat
  | a, [] => a
  | a, x :: r => endL (a + 3 + x.f3.length) r
theorem rd_mid (done : List IN) (x : IN) (r : List IN) : rd_T56 (done ++ x :: r) (done.length : Int) = x := by
  rw [rd_IN (by simp)]
  simp
theorem set_mid (done : List IN) (x y : IN) (r : List IN) : (done ++ x :: r).set done.length y = done ++ [y] ++ r := by
  induction done with
  | nil => rfl
  | cons z zs ih => exact congrArg (z :: ·) ih
theorem mark_ev {t : Nat → ByteArray} (ht : ∀ a : Nat, a ≤ 4000000000000000000 → Ev (fun k => laws_markText.f k (a : Int)) (t a)) : ∀ (l done : List IN) (a : Nat), (∀ x ∈ l, x.f3.length ≤ 1048576) → a + 1048579 * l.length ≤ 3000000000000000000 → done.length + l.length ≤ 1048576 →
    Ev (fun k => laws_markNodeS.l0 k (done ++ l) (a : Int) (done.length : Int)) ((endL a l : Int), done ++ markL t a l) ∧ Ev (fun k => laws_heldNodeS.l0 k (done ++ markL t a l) (a : Int) (done.length : Int)) (endL a l : Int) ∧ endL a l ≤ a + 1048579 * l.length
  | [], done, a, _, _, _ => by
    refine ⟨Ev.succ fun k => ?_, Ev.succ fun k => ?_, by simp [endL]⟩
    · simp only [laws_markNodeS.l0]
      rw [if_neg (by simp)]
      rfl
    · simp only [laws_heldNodeS.l0]
      rw [if_neg (by simp [markL])]
      rfl
  | x :: r, done, a, hs, hb, hd => by
    have hx := hs x (by simp)
    have hb' : a + 1048579 * (r.length + 1) ≤ 3000000000000000000 := hb
    have hd' : done.length + (r.length + 1) ≤ 1048576 := hd
    obtain ⟨y, hy⟩ : ∃ y : IN, y = ⟨(a : Int), t (a + 1), ((a + 2 : Nat) : Int), (List.range x.f3.length).map fun j : Nat => ((a + 3 : Nat) : Int) + (j : Int)⟩ := ⟨_, rfl⟩
    obtain ⟨h1, h2, h3⟩ := mark_ev ht r (done ++ [y]) (a + 3 + x.f3.length) (fun z hz => hs z (by simp [hz])) (by omega) (by rw [List.length_append, List.length_singleton]; omega)
    have em : markL t a (x :: r) = y :: markL t (a + 3 + x.f3.length) r := by rw [hy]; rfl
    have el : (done ++ [y]).length = done.length + 1 := by simp
    have ea : done ++ y :: markL t (a + 3 + x.f3.length) r = done ++ [y] ++ markL t (a + 3 + x.f3.length) r := by simp
    rw [el] at h1 h2
    have n1 : wrap64 ((a : Int) + 1) = ((a + 1 : Nat) : Int) := w64_nat _ (by omega)
    have n2 : wrap64 (((a + 1 : Nat) : Int) + 1) = ((a + 2 : Nat) : Int) := w64_nat _ (by omega)
    have n3 : wrap64 (((a + 2 : Nat) : Int) + 1) = ((a + 3 : Nat) : Int) := w64_nat _ (by omega)
    have n6 : wrap64 ((done.length : Int) + 1) = ((done.length + 1 : Nat) : Int) := w64_nat _ (by omega)
    have c0 : (0 : Int) ≤ (done.length : Int) := Int.natCast_nonneg _
    have e : ((a + 3 : Nat) : Int) + (x.f3.length : Int) = ((a + 3 + x.f3.length : Nat) : Int) := by omega
    have hm := markIntS_ev (l := x.f3) ((a + 3 : Nat) : Int) (by omega) (by omega) (by omega)
    have hh := heldIntS_ev (n := x.f3.length) ((a + 3 : Nat) : Int) (by omega) (by omega) (by omega)
    rw [e] at hm hh
    have htx := ht (a + 1) (by omega)
    refine ⟨?_, ?_, ?_⟩
    · rw [em, ea]
      refine Ev.step (f := fun k => (laws_markText.f k ((a + 1 : Nat) : Int)).bind fun t => (laws_markIntS.f k x.f3 ((a + 3 : Nat) : Int)).bind fun p => laws_markNodeS.l0 k (done ++ [(⟨(a : Int), t, ((a + 2 : Nat) : Int), p.2⟩ : IN)] ++ r) p.1 ((done.length + 1 : Nat) : Int)) (fun k => ?_) (Ev.bind htx (Ev.bind hm ?_))
      · simp only [laws_markNodeS.l0, n1, n2, n3, n6, rd_mid, Int.toNat_natCast, set_mid]
        rw [if_pos (by simp; omega), if_pos c0]
      · rw [← hy]
        exact h1
    · rw [em]
      refine Ev.step (f := fun k => (laws_markText.f k ((a + 1 : Nat) : Int)).bind fun t' => if (t (a + 1)).toList = t'.toList then ((laws_heldIntS.f k ((List.range x.f3.length).map fun j : Nat => ((a + 3 : Nat) : Int) + (j : Int)) ((a + 3 : Nat) : Int)).bind fun p => if p < 0 then none else laws_heldNodeS.l0 k (done ++ [y] ++ markL t (a + 3 + x.f3.length) r) p ((done.length + 1 : Nat) : Int)) else none) (fun k => ?_) (Ev.bind htx (Ev.congr (fun k => if_pos rfl) (Ev.bind hh (Ev.congr (fun k => if_neg (by omega)) h2))))
      simp only [laws_heldNodeS.l0, n1, n2, n3, n6, rd_mid]
      rw [if_pos (by simp; omega), if_pos c0, hy]
      simp only [if_true]
      simp
    · show endL (a + 3 + x.f3.length) r ≤ a + 1048579 * (r.length + 1)
      omega
theorem marked {l : List IN} {tops : List Int} (hl : l.length ≤ 1048576) (hs : ∀ x ∈ l, x.f3.length ≤ 1048576) (ht : tops.length ≤ 1048576) : ∃ (r : Nat) (p : List IN × List Int), Ev (fun k => laws_markTree.f k l tops 1) ((r : Int), p) ∧ Ev (fun k => laws_heldTree.f k p.1 p.2 1) (r : Int) := by
  obtain ⟨t, htx⟩ : ∃ t : Nat → ByteArray, ∀ a : Nat, a ≤ 4000000000000000000 → Ev (fun k => laws_markText.f k (a : Int)) (t a) := ⟨fun a => if h : a ≤ 4000000000000000000 then Classical.choose (markTextB_ev h) else ⟨#[]⟩, fun a h => by simp only [dif_pos h]; exact Classical.choose_spec (markTextB_ev h)⟩
  obtain ⟨h1, h2, h3⟩ := mark_ev htx l [] 1 hs (by omega) (by simpa using hl)
  have g1 := markIntS_ev (l := tops) (endL 1 l : Int) (by omega) (by omega) (by omega)
  have g2 := heldIntS_ev (n := tops.length) (endL 1 l : Int) (by omega) (by omega) (by omega)
  refine ⟨endL 1 l + tops.length, (markL t 1 l, (List.range tops.length).map fun j : Nat => (endL 1 l : Int) + (j : Int)), ?_, ?_⟩
  · unfold laws_markTree.f laws_markNodeS.f
    refine Ev.bind h1 (Ev.bind g1 (Ev.congr (fun k => ?_) (Ev.now _)))
    rw [show ((endL 1 l + tops.length : Nat) : Int) = (endL 1 l : Int) + (tops.length : Int) by omega]
    rfl
  · unfold laws_heldTree.f laws_heldNodeS.f
    refine Ev.bind h2 (Ev.congr (fun k => if_neg (by omega)) (Ev.bind g2 (Ev.congr (fun k => if_neg (by omega)) (Ev.congr (fun k => ?_) (Ev.now _)))))
    rw [show ((endL 1 l + tops.length : Nat) : Int) = (endL 1 l : Int) + (tops.length : Int) by omega]
theorem fold_tops {nodes : List IN} (tops : List Int) (hk : treeOkI nodes hasTB tops = true) : ∃ (o : List IN) (ts : List Int), Ev (fun k => foldTops (fun x o => buildF k nodes x o) tops [] []) (o, ts) ∧ Ev (fun k => foldTopsS (fun x o => spec_l23Copy.f k nodes tops x o true) tops [] []) (o, ts) ∧ o.length ≤ 4000 ∧ (∀ x ∈ o, x.f3.length ≤ 4000) ∧ ts.length ≤ 4000 := by
  unfold treeOkI at hk
  rw [Bool.and_eq_true, Bool.and_eq_true] at hk
  have hn := of_decide_eq_true hk.1.1
  have hok : ∀ i : Nat, i < nodes.length → nodeOkB nodes hasTB (i : Int) = true := fun i hi => List.all_eq_true.1 hk.1.2 i (List.mem_range.2 hi)
  have htp := of_decide_eq_true hk.2
  obtain ⟨e, hin⟩ := tops_kids (nodes := nodes) tops 0 (by omega)
  obtain ⟨zs, ks, -, -, f, g, hi, hl, n2, n3, -, -⟩ := fold_kids (rec := fun x a => if 0 ≤ x ∧ x < (nodes.length : Int) then numB nodes (x.toNat + 1) x a else -1) (F := fun k x o => buildF k nodes x o) (G := fun k x o => spec_l23Copy.f k nodes tops x o true)
    (fun x a h => by
      try dsimp only at h ⊢
      split at h
      · next hc => rw [if_pos hc]; exact num_range nodes _ _ _ h
      · omega)
    (fun x a xs h h1 h2 h3 _ => by
      try dsimp only at h
      split at h
      · next hc => exact fold_node hn hok tops (x.toNat + 1) x a xs hc.1 hc.2 (by omega) h h1 h2 h3
      · omega)
    tops 0 [] [] [] (fun x hx => by have := hin x hx; omega) (by omega) (by omega) (by omega) (Int.le_refl _) (fun x hx => absurd hx (by simp)) (Nat.le_refl _) (Nat.le_refl _)
  rw [e] at hl
  exact ⟨zs, ks, f, g, by rw [List.nil_append] at hl; omega, fun x hx => (hi x hx).2, by rw [List.nil_append] at hl; omega⟩
theorem proof : Pure := by
  intro l tops hN hT
  refine Ev.rounds ?_
  unfold laws_FnExactFold.f
  rcases szTree_ev hN.1 (fun x hx => ⟨(hN.2 x hx).2.1, (hN.2 x hx).2.2.2.1⟩) hT.1 with e | ⟨b, e, b0, l1, hsm, t1⟩
  · exact Ev.bind e (Ev.congr (fun k => if_pos (by decide)) (Ev.now _))
  refine Ev.bind e (Ev.congr (fun k => if_neg (by omega)) ?_)
  have ht := toTree_ev l1 hsm t1
  have hms := map_small hsm
  obtain ⟨V, hV1, hV2, v1, v2, v3⟩ : ∃ V : List IN × List Int × Bool, Ev (fun k => spec_Fold.f k (l.map toN) tops) V ∧ Ev (fun k => impl_Fold.f k (l.map toN) tops) V ∧ V.1.length ≤ 4000 ∧ (∀ x ∈ V.1, x.f3.length ≤ 4000) ∧ V.2.1.length ≤ 4000 := by
    have h1 := spec_TreeOk_ev tops hms
    have h2 := impl_TreeOk_ev tops fun n hn => (hms n hn).1
    cases hk : treeOkI (l.map toN) hasTB tops with
    | true =>
      rw [hk] at h1 h2
      obtain ⟨o, ts, f, g, p1, p2, p3⟩ := fold_tops tops hk
      refine ⟨(o, ts, true), ?_, ?_, p1, p2, p3⟩
      · unfold spec_Fold.f
        exact Ev.bind h1 (Ev.congr (fun k => if_pos rfl) (Ev.bind g (Ev.now _)))
      · unfold impl_Fold.f
        exact Ev.bind h2 (Ev.congr (fun k => if_pos rfl) (Ev.bind f (Ev.now _)))
    | false =>
      rw [hk] at h1 h2
      refine ⟨([], [], false), ?_, ?_, Nat.zero_le _, fun x hx => absurd hx (by simp), Nat.zero_le _⟩
      · unfold spec_Fold.f
        exact Ev.bind h1 (Ev.congr (fun k => if_neg Bool.false_ne_true) (Ev.now _))
      · unfold impl_Fold.f
        exact Ev.bind h2 (Ev.congr (fun k => if_neg Bool.false_ne_true) (Ev.now _))
  have hk3 : ∀ x ∈ l.map toN, x.f3.length ≤ 1048576 := fun x hx => (hms x hx).2
  have hl1 : (l.map toN).length ≤ 1048576 := by rw [List.length_map]; exact l1
  obtain ⟨m1, p1, hm1, -⟩ := marked hl1 hk3 t1
  have hv3 : ∀ x ∈ V.1, x.f3.length ≤ 1048576 := fun x hx => by have := v2 x hx; omega
  obtain ⟨m2, p2, hm2, hh2⟩ := marked (l := V.1) (tops := V.2.1) (by omega) hv3 (by omega)
  refine Ev.bind ht (Ev.bind hV1 (Ev.bind hV2 (Ev.bind (eqTree_refl (by omega) hv3 (by omega)) (Ev.congr (fun k => if_pos ⟨rfl, rfl⟩) ?_))))
  refine Ev.bind (eqTree_refl hl1 hk3 t1) (Ev.congr (fun k => if_pos rfl) (Ev.bind hm1 (Ev.congr (fun k => if_pos (by omega)) ?_)))
  exact Ev.bind hm2 (Ev.bind hh2 (Ev.congr (fun k => if_pos ⟨by omega, rfl⟩) (Ev.now _)))


end Go.Proofs.Ytiiakeakfllpjaa.fnExactFold
