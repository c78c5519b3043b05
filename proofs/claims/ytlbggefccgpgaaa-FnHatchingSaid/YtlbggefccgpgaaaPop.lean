/- Counting the bits of a row as math/bits does it. No program in sight. -/
import Derived.Test.YtlbggefccgpgaaaMem3
import Derived.Test.YtlbggefccgpgaaaBits
namespace Go.Proofs.Ytlbggefccgpgaaa
open Go.RowKit

/-- How many of the first n bits are set. -/
def popF (v : Nat) : Nat → Nat
  | 0 => 0
  | j + 1 => popF v j + (if v.testBit j then 1 else 0)
theorem popF_le (v n : Nat) : popF v n ≤ n := by
  induction n with
  | zero => exact Nat.le_refl _
  | succ n ih => rw [popF]; split <;> omega
theorem popF_congr {v u : Nat} (n : Nat) (h : ∀ i, i < n → v.testBit i = u.testBit i) : popF v n = popF u n := by
  induction n with
  | zero => rfl
  | succ n ih => rw [popF, popF, ih fun i hi => h i (by omega), h n (by omega)]
theorem popF_add (v u m n : Nat) (h : ∀ i, i < n → v.testBit (m + i) = u.testBit i) : popF v (m + n) = popF v m + popF u n := by
  induction n with
  | zero => rfl
  | succ n ih => rw [← Nat.add_assoc, popF, popF, ih fun i hi => h i (by omega), h n (by omega)]; omega
theorem and_split (a m b n : Nat) (ha : a < 2 ^ 8) (hm : m < 2 ^ 8) : (2 ^ 8 * b + a) &&& (2 ^ 8 * n + m) = 2 ^ 8 * (b &&& n) + (a &&& m) := by
  apply Nat.eq_of_testBit_eq
  intro i
  have h : a &&& m < 2 ^ 8 := Nat.lt_of_le_of_lt Nat.and_le_left ha
  rw [Nat.testBit_and, Nat.testBit_two_pow_mul_add _ ha, Nat.testBit_two_pow_mul_add _ hm, Nat.testBit_two_pow_mul_add _ h]
  split <;> rw [Nat.testBit_and]
def s1 (x : Nat) : Nat := (x / 2 &&& 6148914691236517205) + (x &&& 6148914691236517205)
def s2 (x : Nat) : Nat := (x / 4 &&& 3689348814741910323) + (x &&& 3689348814741910323)
def s3 (x : Nat) : Nat := (x / 16 + x) &&& 1085102592571150095
def s4 (x : Nat) : Nat := x + x / 256
def s5 (x : Nat) : Nat := x + x / 65536
def s6 (x : Nat) : Nat := x + x / 4294967296
def b1 (x : Nat) : Nat := (x / 2 &&& 85) + (x &&& 85)
def b2 (x : Nat) : Nat := (x / 4 &&& 51) + (x &&& 51)
def b3 (x : Nat) : Nat := (x / 16 + x) &&& 15
theorem byte1 : ∀ a < 256, b1 a < 256 ∧ b2 (b1 a) ≤ 68 ∧ b2 (b1 a) % 16 ≤ 4 ∧ b3 (b2 (b1 a)) = popF a 8 := by decide +kernel
theorem cross2 : ∀ a < 256, ∀ c < 2, (128 * c + a / 2) &&& 85 = a / 2 &&& 85 := by decide +kernel
theorem cross4 : ∀ a < 256, ∀ c < 4, (64 * c + a / 4) &&& 51 = a / 4 &&& 51 := by decide +kernel
theorem cross16 : ∀ a < 69, ∀ c < 5, (16 * c + a / 16 + a) &&& 15 = (a / 16 + a) &&& 15 := by decide +kernel
theorem step1 (n a b : Nat) (ha : a < 256) : ((256 * b + a) / 2 &&& (256 * n + 85)) + ((256 * b + a) &&& (256 * n + 85)) = 256 * ((b / 2 &&& n) + (b &&& n)) + b1 a := by
  have e : (256 * b + a) / 2 = 256 * (b / 2) + (128 * (b % 2) + a / 2) := by omega
  have h1 := and_split (128 * (b % 2) + a / 2) 85 (b / 2) n (by omega) (by decide)
  have h2 := and_split a 85 b n ha (by decide)
  have h3 := cross2 a ha (b % 2) (by omega)
  rw [show (2 : Nat) ^ 8 = 256 from rfl] at h1 h2
  rw [e, h1, h2, h3]
  unfold b1
  omega
theorem step2 (n a b : Nat) (ha : a < 256) : ((256 * b + a) / 4 &&& (256 * n + 51)) + ((256 * b + a) &&& (256 * n + 51)) = 256 * ((b / 4 &&& n) + (b &&& n)) + b2 a := by
  have e : (256 * b + a) / 4 = 256 * (b / 4) + (64 * (b % 4) + a / 4) := by omega
  have h1 := and_split (64 * (b % 4) + a / 4) 51 (b / 4) n (by omega) (by decide)
  have h2 := and_split a 51 b n ha (by decide)
  have h3 := cross4 a ha (b % 4) (by omega)
  rw [show (2 : Nat) ^ 8 = 256 from rfl] at h1 h2
  rw [e, h1, h2, h3]
  unfold b2
  omega
theorem step3 (n a b : Nat) (ha : a ≤ 68) (hb : b % 16 ≤ 4) : ((256 * b + a) / 16 + (256 * b + a)) &&& (256 * n + 15) = 256 * ((b / 16 + b) &&& n) + b3 a := by
  have e : (256 * b + a) / 16 + (256 * b + a) = 256 * (b / 16 + b) + (16 * (b % 16) + a / 16 + a) := by omega
  have h1 := and_split (16 * (b % 16) + a / 16 + a) 15 (b / 16 + b) n (by omega) (by decide)
  have h3 := cross16 a (by omega) (b % 16) (by omega)
  rw [show (2 : Nat) ^ 8 = 256 from rfl] at h1
  rw [e, h1, h3]
  rfl
def three (a b c : Nat) : Nat := 256 * (256 * c + b) + a
theorem s1_three (a b c : Nat) (ha : a < 256) (hb : b < 256) (hc : c < 256) : s1 (three a b c) = three (b1 a) (b1 b) (b1 c) := by
  have h1 := step1 24019198012642645 a (256 * c + b) ha
  have h2 := step1 93824992236885 b c hb
  have h3 := step1 366503875925 c 0 hc
  simp only [Nat.mul_zero, Nat.zero_add, Nat.zero_div, Nat.zero_and, Nat.add_zero] at h1 h2 h3
  unfold s1 three
  rw [h1, h2, h3]
theorem s2_three (a b c : Nat) (ha : a < 256) (hb : b < 256) (hc : c < 256) : s2 (three a b c) = three (b2 a) (b2 b) (b2 c) := by
  have h1 := step2 14411518807585587 a (256 * c + b) ha
  have h2 := step2 56294995342131 b c hb
  have h3 := step2 219902325555 c 0 hc
  simp only [Nat.mul_zero, Nat.zero_add, Nat.zero_div, Nat.zero_and, Nat.add_zero] at h1 h2 h3
  unfold s2 three
  rw [h1, h2, h3]
theorem s3_three (a b c : Nat) (ha : a ≤ 68) (hb : b ≤ 68) (hc : c ≤ 68) (kb : b % 16 ≤ 4) (kc : c % 16 ≤ 4) : s3 (three a b c) = three (b3 a) (b3 b) (b3 c) := by
  have h1 := step3 4238682002231055 a (256 * c + b) ha (by omega)
  have h2 := step3 16557351571215 b c hb kc
  have h3 := step3 64677154575 c 0 hc (by omega)
  simp only [Nat.mul_zero, Nat.zero_add, Nat.zero_div, Nat.zero_and, Nat.add_zero] at h1 h2 h3
  unfold s3 three
  rw [h1, h2, h3]
theorem pop_three (a b c : Nat) (ha : a < 256) (hb : b < 256) : popF (three a b c) 20 = popF a 8 + popF b 8 + popF c 4 := by
  have bit : ∀ i, (three a b c).testBit i = if i < 8 then a.testBit i else if i - 8 < 8 then b.testBit (i - 8) else c.testBit (i - 8 - 8) := by
    intro i
    unfold three
    rw [show (256 : Nat) = 2 ^ 8 from rfl, Nat.testBit_two_pow_mul_add _ ha, Nat.testBit_two_pow_mul_add _ hb]
  have h1 := popF_add (three a b c) b 8 8 fun i hi => by rw [bit, if_neg (by omega), if_pos (by omega)]; congr 1; omega
  have h2 := popF_add (three a b c) c 16 4 fun i hi => by rw [bit, if_neg (by omega), if_neg (by omega)]; congr 1; omega
  have h3 := popF_congr (v := three a b c) (u := a) 8 fun i hi => by rw [bit, if_pos hi]
  rw [show (20 : Nat) = 16 + 4 from rfl, h2, show (16 : Nat) = 8 + 8 from rfl, h1, h3]
/-- What math/bits computes of a row is the number of its bits. -/
theorem ones_eq (x : Nat) (hx : x < 2 ^ 20) : (s6 (s5 (s4 (s3 (s2 (s1 x)))))) &&& 127 = popF x 20 := by
  have hx' : x < 1048576 := hx
  obtain ⟨a, b, c, ha, hb, hc, rfl⟩ : ∃ a b c, a < 256 ∧ b < 256 ∧ c < 16 ∧ x = three a b c := ⟨x % 256, x / 256 % 256, x / 65536, by omega, by omega, by omega, by unfold three; omega⟩
  obtain ⟨a1, a2, a3, a4⟩ := byte1 a ha
  obtain ⟨c1, c2, c3, c4⟩ := byte1 b hb
  obtain ⟨d1, d2, d3, d4⟩ := byte1 c (by omega)
  rw [s1_three a b c ha hb (by omega), s2_three _ _ _ a1 c1 d1, s3_three _ _ _ a2 c2 d2 c3 d3, a4, c4, d4, pop_three a b c ha hb]
  have k1 := popF_le a 8
  have k2 := popF_le b 8
  have k3 := popF_le c 4
  have k4 : popF c 8 = popF c 4 := by
    have := popF_add c 0 4 4 fun i hi => by
      rw [Nat.zero_testBit]
      exact Nat.testBit_lt_two_pow (Nat.lt_of_lt_of_le hc (Nat.pow_le_pow_right (n := 2) (i := 4) (by decide) (by omega)))
    rw [show (8 : Nat) = 4 + 4 from rfl, this]
    simp [popF]
  rw [k4]
  generalize popF a 8 = p at *
  generalize popF b 8 = q at *
  generalize popF c 4 = r at *
  have e1 : three p q r / 256 = 256 * r + q := by unfold three; omega
  have e2 : s4 (three p q r) = 65536 * r + 256 * (q + r) + (p + q) := by unfold s4; rw [e1]; unfold three; omega
  have e3 : s5 (65536 * r + 256 * (q + r) + (p + q)) = 65536 * r + 256 * (q + r) + (p + q + r) := by
    have : (65536 * r + 256 * (q + r) + (p + q)) / 65536 = r := by omega
    unfold s5
    rw [this]
    omega
  have e4 : s6 (65536 * r + 256 * (q + r) + (p + q + r)) = 65536 * r + 256 * (q + r) + (p + q + r) := by
    have : (65536 * r + 256 * (q + r) + (p + q + r)) / 4294967296 = 0 := by omega
    unfold s6
    rw [this]
    rfl
  rw [e2, e3, e4, show (127 : Nat) = 2 ^ 7 - 1 from rfl, Nat.and_two_pow_sub_one_eq_mod]
  omega
end Go.Proofs.Ytlbggefccgpgaaa
