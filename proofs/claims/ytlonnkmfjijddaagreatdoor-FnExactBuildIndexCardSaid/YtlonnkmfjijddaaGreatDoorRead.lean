/- Contracts: the number of a text, of the reference. -/
import Derived.Test.YtlonnkmfjijddaaGreatDoorNum
import Derived.Test.YtlonnkmfjijddaaGreatDoorFeatP
namespace Go.Proofs.YtlonnkmfjijddaaGreatDoor
open Go.ChangeShapes Go.WideShapes Go.ChangeAt Go.RowKit
set_option linter.unusedVariables false
set_option linter.unusedSimpArgs false
def digB (b : UInt8) : Bool := decide (48 ≤ b.toNat ∧ b.toNat ≤ 57)
def digs (l : List UInt8) : Bool := l.all digB
def valD (l : List UInt8) : Nat := l.foldl (fun a b => 10 * a + (b.toNat - 48)) 0
theorem valD_snoc (l : List UInt8) (b : UInt8) : valD (l ++ [b]) = 10 * valD l + (b.toNat - 48) := by simp [valD]
theorem digs_cons (b : UInt8) (l : List UInt8) : digs (b :: l) = (digB b && digs l) := rfl
theorem valD_acc : ∀ (l : List UInt8) (a : Nat), digs l = true → l.foldl (fun a b => 10 * a + (b.toNat - 48)) a < (a + 1) * 10 ^ l.length
  | [], a, _ => by simp
  | b :: l, a, h => by
    rw [digs_cons, Bool.and_eq_true] at h
    have hb : 48 ≤ b.toNat ∧ b.toNat ≤ 57 := of_decide_eq_true h.1
    have := valD_acc l (10 * a + (b.toNat - 48)) h.2
    rw [List.foldl_cons, List.length_cons, Nat.pow_succ]
    refine Nat.lt_of_lt_of_le this ?_
    rw [show (a + 1) * (10 ^ l.length * 10) = (10 * a + 10) * 10 ^ l.length by rw [Nat.mul_comm (10 ^ l.length) 10, ← Nat.mul_assoc]; congr 1; omega]
    exact Nat.mul_le_mul_right _ (by omega)
theorem valD_lt (l : List UInt8) (h : digs l = true) : valD l < 10 ^ l.length := by
  have := valD_acc l 0 h
  simpa [valD] using this
theorem pow_le6 {n : Nat} (h : n ≤ 6) : 10 ^ n ≤ 1000000 := Nat.le_trans (Nat.pow_le_pow_right (by decide) h) (by decide)
/-- What the reference reads: whether all is well. -/
def readOk (t : ByteArray) : Bool := digs t.data.toList && ((nText (valD t.data.toList)).toList == t.toList)
def readN (t : ByteArray) : Nat := bif readOk t then valD t.data.toList else 0
theorem byte_take {t : ByteArray} {k : Nat} (hk : k < t.size) : t.data.toList.take (k + 1) = t.data.toList.take k ++ [t[k]'hk] := by
  have h1 : k < t.data.toList.length := by rw [Array.length_toList]; exact hk
  rw [List.take_succ_eq_append_getElem h1]
  rfl
theorem digs_take {l : List UInt8} (k : Nat) (h : digs l = true) : digs (l.take k) = true := by
  simp only [digs, List.all_eq_true] at *
  exact fun x hx => h x (List.mem_of_mem_take hx)
theorem digs_bad {t : ByteArray} {k : Nat} (hk : k < t.size) (h : digB (t[k]'hk) = false) : digs t.data.toList = false := by
  rw [Bool.eq_false_iff]
  intro h2
  have := List.all_eq_true.1 h2 (t[k]'hk) (by
    have : t[k]'hk = t.data.toList[k]'(by rw [Array.length_toList]; exact hk) := rfl
    rw [this]
    exact List.getElem_mem _)
  rw [h] at this
  cases this
end Go.Proofs.YtlonnkmfjijddaaGreatDoor
