/- Bits of rows as natural numbers. No program in sight. -/
import Derived.Test.YtenaadmifppphaaGreatDoorPlain
import Derived.Laws.BitsLemmas
namespace Go.Proofs.YtenaadmifppphaaGreatDoor
open Go.RowKit

theorem wraps_i64 (n : Int) (h0 : 0 ≤ n) (h1 : n < 2 ^ 63) : IntKind.i64.wrap n = n := by
  rw [IntKind.wrap_i64]
  have : (2 : Int) ^ 63 = 9223372036854775808 := by decide
  omega
def hasB (v : Int) (j : Nat) : Bool := bits BinOp.and IntKind.i64 (v / 2 ^ j) 1 == 1
theorem hasB_nat (n j : Nat) (h : n < 2 ^ 63) : hasB (n : Int) j = n.testBit j := by
  unfold hasB
  have e : ((n : Int) / 2 ^ j) = ((n / 2 ^ j : Nat) : Int) := by simp
  have hlt : n / 2 ^ j < 2 ^ 63 := Nat.lt_of_le_of_lt (Nat.div_le_self _ _) h
  have h1 := (bits_nat .i64 63 (by decide) wraps_i64 (n / 2 ^ j) 1 hlt (by decide)).1
  rw [e, show (1 : Int) = ((1 : Nat) : Int) from rfl, h1, Nat.and_one_is_mod, Nat.testBit_eq_decide_div_mod_eq]
  by_cases hm : n / 2 ^ j % 2 = 1
  · simp [hm]
  · simp [hm]
    omega
def rowN (p : Nat → Bool) : Nat → Nat
  | 0 => 0
  | j + 1 => if p j then rowN p j ||| 2 ^ j else rowN p j
theorem rowN_lt (p : Nat → Bool) (j : Nat) : rowN p j < 2 ^ j := by
  induction j with
  | zero => simp [rowN]
  | succ j ih =>
    have h2 : 2 ^ j < 2 ^ (j + 1) := Nat.pow_lt_pow_right (by decide) (by omega)
    rw [rowN]
    split
    · exact Nat.or_lt_two_pow (Nat.lt_trans ih h2) h2
    · exact Nat.lt_trans ih h2
theorem rowN_bit (p : Nat → Bool) (n i : Nat) : (rowN p n).testBit i = (decide (i < n) && p i) := by
  induction n with
  | zero => simp [rowN]
  | succ n ih =>
    rw [rowN]
    by_cases hp : p n = true
    · rw [if_pos hp, Nat.testBit_or, ih, Nat.testBit_two_pow]
      by_cases e : n = i
      · subst e; simp [hp]
      · simp only [e, decide_false, Bool.or_false]
        rw [show decide (i < n + 1) = decide (i < n) from decide_eq_decide.2 (by omega)]
    · rw [if_neg hp, ih]
      by_cases e : n = i
      · subst e; simp [hp]
      · congr 1
        apply decide_eq_decide.2
        omega
theorem rowV_nat (p : Nat → Bool) (n : Nat) (hn : n ≤ 60) : rowV p n = ((rowN p n : Nat) : Int) := by
  induction n with
  | zero => rfl
  | succ n ih =>
    have ih := ih (by omega)
    rw [rowV, rowN]
    split
    · have h1 : rowN p n < 2 ^ 63 := Nat.lt_trans (rowN_lt p n) (Nat.pow_lt_pow_right (by decide) (by omega))
      have h2 : (2 : Nat) ^ n < 2 ^ 63 := Nat.pow_lt_pow_right (by decide) (by omega)
      have h3 : wrap64 (2 ^ n) = ((2 ^ n : Nat) : Int) := by
        have e : ((2 : Int) ^ n) = ((2 ^ n : Nat) : Int) := by simp
        rw [e]
        have h4 : ((2 ^ n : Nat) : Int) < ((2 ^ 63 : Nat) : Int) := Int.ofNat_lt.2 h2
        rw [show ((2 ^ 63 : Nat) : Int) = 9223372036854775808 from rfl] at h4
        have h5 := Int.natCast_nonneg (2 ^ n)
        generalize ((2 ^ n : Nat) : Int) = m at h4 h5 ⊢
        exact IntWalk.wrap64_in _ ⟨by omega, by omega⟩
      rw [ih, h3, (bits_nat .i64 63 (by decide) wraps_i64 _ _ h1 h2).2]
    · exact ih
theorem andNot_nat (a b : Nat) (ha : a < 2 ^ 63) : ∃ c : Nat, bits BinOp.andNot IntKind.i64 (a : Int) (b : Int) = (c : Int) ∧ c < 2 ^ 63 ∧ ∀ i, c.testBit i = (a.testBit i && !b.testBit i) := by
  refine ⟨(BitVec.ofNat 64 a &&& ~~~ BitVec.ofNat 64 b).toNat, ?_, ?_, ?_⟩
  · have h1 : (BitVec.ofNat 64 a &&& ~~~ BitVec.ofNat 64 b).toNat < 2 ^ 63 := by
      rw [BitVec.toNat_and]
      exact Nat.lt_of_le_of_lt Nat.and_le_left (by rw [BitVec.toNat_ofNat]; omega)
    simp only [bits]
    rw [show IntKind.i64.bits = 64 from rfl, BitVec.ofInt_natCast, BitVec.ofInt_natCast]
    exact wraps_i64 _ (by omega) (by exact_mod_cast h1)
  · rw [BitVec.toNat_and]
    exact Nat.lt_of_le_of_lt Nat.and_le_left (by rw [BitVec.toNat_ofNat]; omega)
  · intro i
    rw [BitVec.testBit_toNat, BitVec.getLsbD_and, BitVec.getLsbD_not, BitVec.getLsbD_ofNat, BitVec.getLsbD_ofNat]
    by_cases hi : i < 64
    · simp [hi]
    · have : a.testBit i = false := Nat.testBit_lt_two_pow (Nat.lt_of_lt_of_le ha (Nat.pow_le_pow_right (by decide) (by omega)))
      simp [hi, this]
/-- What the program asks of a row, and what the reference asks. -/
def rowI (v : Int) (p : Nat → Bool) : Bool := decide (0 ≤ v) && (bits BinOp.andNot IntKind.i64 v (rowV p 20) == 0)
def rowS (v : Int) (p : Nat → Bool) : Bool := decide (0 ≤ v ∧ v ≤ 1048575) && (List.range 20).all fun x => !hasB v x || p x
theorem rowI_eq (v : Int) (p : Nat → Bool) (hv : v < 2 ^ 63) : rowI v p = rowS v p := by
  by_cases h0 : 0 ≤ v
  · obtain ⟨n, rfl⟩ := Int.eq_ofNat_of_zero_le h0
    have hn : n < 2 ^ 63 := by exact_mod_cast hv
    obtain ⟨c, hc, hc2, hcb⟩ := andNot_nat n (rowN p 20) hn
    unfold rowI rowS
    rw [rowV_nat p 20 (by omega), hc, Bool.eq_iff_iff]
    simp only [h0, decide_true, Bool.true_and, Bool.and_eq_true, beq_iff_eq, true_and, decide_eq_true_eq, List.all_eq_true, List.mem_range, Bool.or_eq_true, Bool.not_eq_true']
    constructor
    · intro h
      have hz : c = 0 := by omega
      have hsub : ∀ i, n.testBit i = true → (i < 20 ∧ p i = true) := by
        intro i hi
        have := hcb i
        rw [hz, Nat.zero_testBit, hi, rowN_bit] at this
        simp at this
        exact this
      refine ⟨?_, fun x hx => ?_⟩
      · have hlt : n < 2 ^ 20 := Nat.lt_pow_two_of_testBit n fun i hi => by
          cases hb : n.testBit i
          · rfl
          · have := hsub i hb
            omega
        have : (2 : Nat) ^ 20 = 1048576 := by decide
        omega
      · rw [hasB_nat n x hn]
        cases hb : n.testBit x
        · exact .inl rfl
        · exact .inr (hsub x hb).2
    · rintro ⟨hlt, hall⟩
      have h20 : n < 2 ^ 20 := by
        rw [show (2 : Nat) ^ 20 = 1048576 from rfl]
        omega
      have hz : c = 0 := by
        apply Nat.eq_of_testBit_eq
        intro i
        rw [hcb, Nat.zero_testBit, rowN_bit]
        cases hb : n.testBit i
        · rfl
        · have hi : i < 20 := by
            rcases Nat.lt_or_ge i 20 with h | h
            · exact h
            · have := Nat.testBit_lt_two_pow (i := i) (x := n) (Nat.lt_of_lt_of_le h20 (Nat.pow_le_pow_right (by decide) h))
              rw [this] at hb
              cases hb
          have := hall i hi
          rw [hasB_nat n i hn, hb] at this
          simp at this
          simp [hi, this]
      omega
  · simp [rowI, rowS, h0]
end Go.Proofs.YtenaadmifppphaaGreatDoor
