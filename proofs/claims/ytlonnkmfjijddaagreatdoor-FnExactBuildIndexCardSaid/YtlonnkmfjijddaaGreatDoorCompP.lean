/- Plain: sorting and compacting give what insertion gives. -/
import Derived.Test.YtlonnkmfjijddaaGreatDoorSlib
namespace Go.Proofs.YtlonnkmfjijddaaGreatDoor
set_option linter.unusedVariables false
theorem ltL_of {a b : List UInt8} (h : a ≤ b) (hne : a ≠ b) : a < b := by
  rcases ltL_total a b with h1 | h1 | h1
  · exact h1
  · exact absurd h1 hne
  · exact absurd h1 (List.not_lt.2 h)
theorem keeps_iff (d : Array (List UInt8)) (m : Nat) : Lib.keeps d m = true ↔ m = 0 ∨ d[m]! ≠ d[m - 1]! := by
  by_cases h0 : m = 0
  · subst h0; simp [Lib.keeps]
  · by_cases h1 : d[m]! = d[m - 1]!
    · rw [Lib.keeps_neg (by omega) h1]; simp [h0, h1]
    · rw [Lib.keeps_pos h1]; simp [h1]
theorem compact_upto (d : Array (List UInt8)) (hs : ∀ i j, i ≤ j → j < d.size → d[i]! ≤ d[j]!) : ∀ m, m ≤ d.size → (∀ x, x ∈ Lib.compactUpTo d m ↔ ∃ i, i < m ∧ d[i]! = x) ∧ (Lib.compactUpTo d m).Pairwise (· < ·)
  | 0, _ => ⟨fun x => by simp [Lib.compactUpTo], by simp [Lib.compactUpTo]⟩
  | m + 1, hm => by
    obtain ⟨h1, h2⟩ := compact_upto d hs m (by omega)
    rw [Lib.compactUpTo_succ]
    by_cases hk : Lib.keeps d m = true
    · rw [if_pos hk]
      refine ⟨fun x => ?_, ?_⟩
      · rw [List.mem_append, h1, List.mem_singleton]
        constructor
        · rintro (⟨i, hi, e⟩ | e)
          · exact ⟨i, by omega, e⟩
          · exact ⟨m, by omega, e.symm⟩
        · rintro ⟨i, hi, e⟩
          by_cases e2 : i = m
          · subst e2; exact .inr e.symm
          · exact .inl ⟨i, by omega, e⟩
      · rw [List.pairwise_append]
        refine ⟨h2, List.pairwise_singleton _ _, fun x hx y hy => ?_⟩
        rw [List.mem_singleton] at hy
        subst hy
        obtain ⟨i, hi, rfl⟩ := (h1 x).1 hx
        rcases (keeps_iff d m).1 hk with e | e
        · omega
        · have a1 := hs i (m - 1) (by omega) (by omega)
          have a2 := ltL_of (hs (m - 1) m (by omega) (by omega)) (fun e2 => e e2.symm)
          exact List.lt_of_le_of_lt a1 a2
    · rw [if_neg hk, List.append_nil]
      refine ⟨fun x => ?_, h2⟩
      have e : m ≠ 0 ∧ d[m]! = d[m - 1]! := by
        have := mt (keeps_iff d m).2 hk
        constructor
        · exact fun e => this (.inl e)
        · exact Classical.byContradiction fun e => this (.inr e)
      rw [h1]
      constructor
      · rintro ⟨i, hi, e2⟩; exact ⟨i, by omega, e2⟩
      · rintro ⟨i, hi, e2⟩
        by_cases e3 : i = m
        · subst e3; exact ⟨i - 1, by omega, by rw [← e.2]; exact e2⟩
        · exact ⟨i, by omega, e2⟩
theorem compact_sorted {l : List (List UInt8)} (h : l.Pairwise (· ≤ ·)) : (∀ x, x ∈ Lib.compact l ↔ x ∈ l) ∧ (Lib.compact l).Pairwise (· < ·) := by
  have hs : ∀ i j, i ≤ j → j < l.toArray.size → l.toArray[i]! ≤ l.toArray[j]! := by
    intro i j hij hj
    have hj' : j < l.length := by simpa using hj
    rw [getElem!_pos l.toArray i (by simp; omega), getElem!_pos l.toArray j hj]
    simp only [List.getElem_toArray]
    by_cases e : i = j
    · subst e; exact List.le_refl _
    · exact List.pairwise_iff_getElem.1 h i j (by omega) hj' (by omega)
  obtain ⟨h1, h2⟩ := compact_upto l.toArray hs l.length (by simp)
  refine ⟨fun x => ?_, h2⟩
  unfold Lib.compact
  rw [h1]
  constructor
  · rintro ⟨i, hi, rfl⟩
    rw [getElem!_pos l.toArray i (by simpa using hi)]
    simp
  · intro hx
    obtain ⟨i, hi, rfl⟩ := List.getElem_of_mem hx
    exact ⟨i, hi, by rw [getElem!_pos l.toArray i (by simpa using hi)]; simp⟩
/-- Sorted, then compacted: what insertion of whatever has the same members gives. -/
theorem comp_sort {l r : List ByteArray} (h : ∀ x, x ∈ l ↔ x ∈ r) : compB (sortB l) = putAll r := by
  have hd : dl (sortB l) = (dl l).mergeSort fun x y => decide (x ≤ y) := by
    unfold sortB
    generalize (dl l).mergeSort (fun x y => decide (x ≤ y)) = m
    unfold dl
    rw [List.map_map]
    exact List.map_id'' (fun x => data_toB x) m
  obtain ⟨h1, h2⟩ := compact_sorted (sorted_merge (dl l))
  refine putAll_unique ?_ fun x => ?_
  · unfold compB ascS
    rw [hd, List.pairwise_map]
    exact h2.imp fun h => ltS_toB.2 h
  · rw [← h]
    unfold compB
    rw [hd, List.mem_map]
    constructor
    · rintro ⟨y, hy, rfl⟩
      rw [h1, List.mem_mergeSort] at hy
      obtain ⟨s, hs, rfl⟩ := List.mem_map.1 hy
      rw [toB_data]
      exact hs
    · exact fun hx => ⟨x.data.toList, by rw [h1, List.mem_mergeSort]; exact List.mem_map.2 ⟨x, hx, rfl⟩, toB_data x⟩
end Go.Proofs.YtlonnkmfjijddaaGreatDoor
