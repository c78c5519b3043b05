/- Contracts of the laws' own helpers on slices of texts: equality, marks, what is held, copies, sizes. -/
import Derived.Test.YtlonnkmfjijddaaGreatDoorStrs
import Derived.Test.YtlonnkmfjijddaaGreatDoorFeatP
import Derived.Test.YtlonnkmfjijddaaGreatDoorMark
import Derived.Test.YtlonnkmfjijddaaGreatDoorInts
import Derived.Deep.RegionHeld3
namespace Go.Proofs.YtlonnkmfjijddaaGreatDoor
open Go.ChangeShapes Go.WideShapes Go.ChangeAt Go.RowKit
set_option linter.unusedVariables false
set_option linter.unusedSimpArgs false
/-- The texts that mark: of k, k + 1 .. -/
def mtS (k : Int) : Nat → List ByteArray
  | 0 => []
  | n + 1 => mtX k :: mtS (k + 1) n
theorem mtS_len (n : Nat) : ∀ k, (mtS k n).length = n := by
  induction n with
  | zero => intro k; rfl
  | succ n ih => intro k; simp [mtS, ih]
theorem mtS_get (n : Nat) : ∀ (k : Int) (i : Nat) (h : i < (mtS k n).length), (mtS k n)[i] = mtX (k + i) := by
  induction n with
  | zero => intro k i h; simp [mtS] at h
  | succ n ih =>
    intro k i h
    cases i with
    | zero => simp [mtS]
    | succ i =>
      simp only [mtS, List.getElem_cons_succ]
      rw [ih, show k + 1 + (i : Int) = k + ((i + 1 : Nat) : Int) from by omega]
def mtL (k0 : Int) (zs : List ByteArray) (k : Nat) : List ByteArray := mtS k0 k ++ zs.drop k
theorem mtS_snoc (n : Nat) : ∀ k, mtS k (n + 1) = mtS k n ++ [mtX (k + (n : Int))] := by
  induction n with
  | zero => intro k; simp [mtS]
  | succ n ih =>
    intro k
    rw [mtS, ih (k + 1)]
    simp only [mtS, List.cons_append]
    congr 4
    omega
theorem mtL_len (k0 : Int) (zs : List ByteArray) (k : Nat) (h : k ≤ zs.length) : (mtL k0 zs k).length = zs.length := by simp [mtL, mtS_len]; omega
theorem mtL_all (k0 : Int) (zs : List ByteArray) : mtL k0 zs zs.length = mtS k0 zs.length := by simp [mtL]
theorem mtL_set (k0 : Int) (zs : List ByteArray) (k : Nat) (h : k < zs.length) : (mtL k0 zs k).set k (mtX (k0 + k)) = mtL k0 zs (k + 1) := by
  unfold mtL
  rw [List.set_append_right _ _ (by rw [mtS_len]; omega), mtS_len, Nat.sub_self, List.drop_eq_getElem_cons h, List.set_cons_zero, mtS_snoc]
  simp
def copyS (zs : List ByteArray) (k : Nat) : List ByteArray := zs.take k ++ List.replicate (zs.length - k) ⟨#[]⟩
theorem copyS_len (zs : List ByteArray) (k : Nat) (h : k ≤ zs.length) : (copyS zs k).length = zs.length := by simp [copyS]; omega
theorem copyS_zero (zs : List ByteArray) : copyS zs 0 = List.replicate zs.length ⟨#[]⟩ := by simp [copyS]
theorem copyS_all (zs : List ByteArray) : copyS zs zs.length = zs := by simp [copyS]
theorem copyS_set (zs : List ByteArray) (k : Nat) (h : k < zs.length) : (copyS zs k).set k (zs[k]) = copyS zs (k + 1) := by
  unfold copyS
  have hl : (zs.take k).length = k := by simp; omega
  rw [List.set_append_right _ _ (by omega), hl, Nat.sub_self, show zs.length - k = (zs.length - (k + 1)) + 1 from by omega, List.replicate_succ, List.set_cons_zero, List.take_succ_eq_append_getElem h, List.append_assoc]
  rfl
theorem made_strs (n : Nat) : (madeCells #[Value.string ⟨#[]⟩] n).toList = sv (List.replicate n ⟨#[]⟩) := by
  rw [show sv (List.replicate n ⟨#[]⟩) = List.replicate n (Value.string ⟨#[]⟩) from by simp [sv]]
  exact toList_madeCells_one _ _
/-- How many bytes texts have. -/
def lens (zs : List ByteArray) : Nat := (zs.map ByteArray.size).sum
theorem lens_take {zs : List ByteArray} {k : Nat} (h : k < zs.length) : lens (zs.take (k + 1)) = lens (zs.take k) + zs[k].size := by
  unfold lens
  rw [List.take_add_one, List.getElem?_eq_getElem h, List.map_append, List.sum_append]
  simp
theorem lens_le (zs : List ByteArray) (k : Nat) : lens (zs.take k) ≤ lens zs := by
  unfold lens
  have : (zs.map ByteArray.size).sum = ((zs.take k).map ByteArray.size).sum + ((zs.drop k).map ByteArray.size).sum := by
    rw [← List.sum_append, ← List.map_append, List.take_append_drop]
  omega
end Go.Proofs.YtlonnkmfjijddaaGreatDoor
