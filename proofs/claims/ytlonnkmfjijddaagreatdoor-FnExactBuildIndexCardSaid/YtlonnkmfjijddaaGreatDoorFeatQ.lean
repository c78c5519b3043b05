/- Plain facts: all features, as they are collected and as they are sorted. No program in sight. -/
import Derived.Test.YtlonnkmfjijddaaGreatDoorFeatP
namespace Go.Proofs.YtlonnkmfjijddaaGreatDoor
set_option linter.unusedVariables false
/-- The text of a feature: a letter, a number. -/
def ftB (c : UInt8) (n : Nat) : ByteArray := toB (c :: Lib.decDigits n)
theorem ftB_app (c : UInt8) (n : Nat) : (⟨#[c]⟩ : ByteArray) ++ ⟨(Lib.decDigits n).toArray⟩ = ftB c n := by
  apply ByteArray.ext
  simp [ByteArray.data_append, ftB, toB]
def kinds : List (UInt8 × Nat × Nat) := [(116, 1, 9), (100, 0, 7), (108, 1, 4), (111, 0, 7), (107, 1, 8), (110, 0, 12)]
def rowK (k : UInt8 × Nat × Nat) (j : Nat) : List ByteArray := (List.range j).map fun i => ftB k.1 (k.2.1 + i)
def rawK (k : Nat) : List ByteArray := (kinds.take k).flatMap fun x => rowK x (x.2.2 + 1 - x.2.1)
theorem rowK_snoc (k : UInt8 × Nat × Nat) (j : Nat) : rowK k (j + 1) = rowK k j ++ [ftB k.1 (k.2.1 + j)] := by simp [rowK, List.range_succ]
theorem rawK_snoc {k : Nat} {x : UInt8 × Nat × Nat} (h : kinds[k]? = some x) : rawK (k + 1) = rawK k ++ rowK x (x.2.2 + 1 - x.2.1) := by
  unfold rawK
  rw [List.take_add_one, h]
  simp
/-- All features, ascending. -/
def FEATS : List ByteArray := [(100, 0), (100, 1), (100, 2), (100, 3), (100, 4), (100, 5), (100, 6), (100, 7), (107, 1), (107, 2), (107, 3), (107, 4), (107, 5), (107, 6), (107, 7), (107, 8), (108, 1), (108, 2), (108, 3), (108, 4),
  (110, 0), (110, 1), (110, 10), (110, 11), (110, 12), (110, 2), (110, 3), (110, 4), (110, 5), (110, 6), (110, 7), (110, 8), (110, 9), (111, 0), (111, 1), (111, 2), (111, 3), (111, 4), (111, 5), (111, 6), (111, 7),
  (116, 1), (116, 2), (116, 3), (116, 4), (116, 5), (116, 6), (116, 7), (116, 8), (116, 9)].map fun x => ftB x.1 x.2

def featK : List (UInt8 × Nat) := [(100, 0), (100, 1), (100, 2), (100, 3), (100, 4), (100, 5), (100, 6), (100, 7), (107, 1), (107, 2), (107, 3), (107, 4), (107, 5), (107, 6), (107, 7), (107, 8), (108, 1), (108, 2), (108, 3), (108, 4),
  (110, 0), (110, 1), (110, 10), (110, 11), (110, 12), (110, 2), (110, 3), (110, 4), (110, 5), (110, 6), (110, 7), (110, 8), (110, 9), (111, 0), (111, 1), (111, 2), (111, 3), (111, 4), (111, 5), (111, 6), (111, 7),
  (116, 1), (116, 2), (116, 3), (116, 4), (116, 5), (116, 6), (116, 7), (116, 8), (116, 9)]
theorem FEATS_eq : FEATS = featK.map fun x => ftB x.1 x.2 := rfl
theorem raw_eq : rawK 6 = ((kinds.flatMap fun k => (List.range (k.2.2 + 1 - k.2.1)).map fun i => (k.1, k.2.1 + i)) : List (UInt8 × Nat)).map fun x => ftB x.1 x.2 := rfl
theorem raw_perm : (rawK 6).Perm FEATS := by
  rw [raw_eq, FEATS_eq]
  exact List.Perm.map _ (by decide)
/-- The digits, as they are for two places. -/
def dg2 (n : Nat) : List UInt8 := if n < 10 then [UInt8.ofNat (48 + n)] else [UInt8.ofNat (48 + n / 10), UInt8.ofNat (48 + n % 10)]
theorem dg2_eq {n : Nat} (h : n < 100) : Lib.decDigits n = dg2 n := by
  unfold dg2
  by_cases h1 : n < 10
  · rw [if_pos h1, Lib.decDigits_one h1]
  · rw [if_neg h1, Lib.decDigits_two h1 h]
theorem FEATS_dg : FEATS = (featK.map fun x => x.1 :: dg2 x.2).map toB := by
  rw [FEATS_eq, List.map_map]
  apply List.map_congr_left
  intro x hx
  have h : ∀ x ∈ featK, x.2 < 100 := by decide
  simp only [Function.comp, ftB, dg2_eq (h x hx)]
theorem FEATS_asc : ascS FEATS := by
  rw [FEATS_dg]
  unfold ascS
  rw [List.pairwise_map]
  have h : (featK.map fun x => x.1 :: dg2 x.2).Pairwise (· < ·) := by decide +kernel
  exact h.imp fun h => ltS_toB.2 h
theorem FEATS_nodup : FEATS.Nodup := FEATS_asc.imp fun {a b} h e => by
  subst e
  rw [ltS_irrefl] at h
  cases h
theorem raw_mem : ∀ x, x ∈ FEATS ↔ x ∈ rawK 6 := fun x => raw_perm.mem_iff.symm
theorem raw_nodup : (rawK 6).Nodup := raw_perm.nodup_iff.2 FEATS_nodup
end Go.Proofs.YtlonnkmfjijddaaGreatDoor
