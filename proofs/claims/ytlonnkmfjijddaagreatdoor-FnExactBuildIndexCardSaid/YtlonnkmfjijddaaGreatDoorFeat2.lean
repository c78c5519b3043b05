/- Contracts: IsFeature of both sides. -/
import Derived.Test.YtlonnkmfjijddaaGreatDoorFeat1
import Derived.Test.YtlonnkmfjijddaaGreatDoorRead
import Derived.Test.YtlonnkmfjijddaaGreatDoorInts
namespace Go.Proofs.YtlonnkmfjijddaaGreatDoor
open Go.ChangeShapes Go.WideShapes Go.ChangeAt Go.RowKit
set_option linter.unusedVariables false
set_option linter.unusedSimpArgs false
/-- May the number stand behind the letter? -/
def featN (c v : Int) : Bool :=
  if c = 116 then decide (1 ≤ v ∧ v ≤ 9) else if c = 100 then decide (0 ≤ v ∧ v ≤ 7) else if c = 111 then decide (0 ≤ v ∧ v ≤ 7) else if c = 108 then decide (1 ≤ v ∧ v ≤ 4) else if c = 107 then decide (1 ≤ v ∧ v ≤ 8) else if c = 110 then decide (0 ≤ v ∧ v ≤ 12) else false
theorem featK_facts : ∀ x ∈ featK, digs (dg2 x.2) = true ∧ valD (dg2 x.2) = x.2 ∧ featN x.1.toNat x.2 = true ∧ x.2 < 100 ∧ (dg2 x.2).length ≤ 2 ∧ 1 ≤ (dg2 x.2).length ∧ (dg2 x.2).head? ≠ some 45 := by decide
theorem featN_mem {c : UInt8} {v : Nat} (h : featN c.toNat v = true) : (c, v) ∈ featK := by
  have key : ∀ (k : UInt8) (lo hi : Nat), (∀ n, n < hi + 1 → lo ≤ n → (k, n) ∈ featK) → ∀ v : Nat, decide ((lo : Int) ≤ (v : Int) ∧ (v : Int) ≤ (hi : Int)) = true → (k, v) ∈ featK := fun k lo hi hh v hv => by
    rw [decide_eq_true_iff] at hv
    exact hh v (by omega) (by omega)
  have hc : ∀ (k : UInt8) , (c.toNat : Int) = (k.toNat : Int) → c = k := fun k e => UInt8.toNat_inj.1 (by omega)
  unfold featN at h
  split at h
  · obtain rfl := hc 116 (by assumption)
    exact key 116 1 9 (by decide) v h
  · split at h
    · obtain rfl := hc 100 (by assumption)
      exact key 100 0 7 (by decide) v h
    · split at h
      · obtain rfl := hc 111 (by assumption)
        exact key 111 0 7 (by decide) v h
      · split at h
        · obtain rfl := hc 108 (by assumption)
          exact key 108 1 4 (by decide) v h
        · split at h
          · obtain rfl := hc 107 (by assumption)
            exact key 107 1 8 (by decide) v h
          · split at h
            · obtain rfl := hc 110 (by assumption)
              exact key 110 0 12 (by decide) v h
            · cases h
theorem feat_mem {s : ByteArray} : hasB FEATS s = true ↔ ∃ x ∈ featK, s.data.toList = x.1 :: dg2 x.2 := by
  rw [hasB_iff, FEATS_dg, List.map_map, List.mem_map]
  constructor
  · rintro ⟨x, hx, rfl⟩
    exact ⟨x, hx, data_toB _⟩
  · rintro ⟨x, hx, e⟩
    refine ⟨x, hx, bytes_eq ?_⟩
    simp only [Function.comp]
    rw [data_toB, e]
theorem feat_size {s : ByteArray} (h : hasB FEATS s = true) : 2 ≤ s.size ∧ s.size ≤ 3 := by
  obtain ⟨x, hx, e⟩ := feat_mem.1 h
  obtain ⟨-, -, -, -, h1, h2, -⟩ := featK_facts x hx
  have := congrArg List.length e
  rw [Array.length_toList, List.length_cons] at this
  have e2 : s.size = s.data.size := rfl
  omega
theorem feat_pos {s t : ByteArray} {c : UInt8} (hs : s.data.toList = c :: t.data.toList) : hasB FEATS s = (readOk t && featN c.toNat (valD t.data.toList : Nat)) := by
  rw [Bool.eq_iff_iff, Bool.and_eq_true]
  constructor
  · intro h
    obtain ⟨x, hx, e⟩ := feat_mem.1 h
    obtain ⟨h1, h2, h3, h4, -, -, -⟩ := featK_facts x hx
    rw [hs] at e
    injection e with e1 e2
    subst e1
    refine ⟨?_, by rw [e2, h2]; exact h3⟩
    unfold readOk
    rw [e2, h1, h2, Bool.true_and, eqS_iff]
    apply bytes_eq
    rw [e2, ← dg2_eq h4]
    rfl
  · rintro ⟨h1, h2⟩
    rw [feat_mem]
    refine ⟨_, featN_mem h2, ?_⟩
    unfold readOk at h1
    rw [Bool.and_eq_true, eqS_iff] at h1
    have h4 := (featK_facts _ (featN_mem h2)).2.2.2.1
    have e := congrArg (fun b : ByteArray => b.data.toList) h1.2
    rw [hs]
    congr 1
    rw [← dg2_eq h4]
    exact e.symm
theorem feat_neg {s t : ByteArray} {c : UInt8} (hs : s.data.toList = c :: t.data.toList) (hn : t.data.toList.head? = some 45) : hasB FEATS s = false := by
  rw [Bool.eq_false_iff]
  intro h
  obtain ⟨x, hx, e⟩ := feat_mem.1 h
  obtain ⟨-, -, -, -, -, -, h1⟩ := featK_facts x hx
  rw [hs] at e
  injection e with e1 e2
  exact h1 (by rw [← e2]; exact hn)
end Go.Proofs.YtlonnkmfjijddaaGreatDoor
