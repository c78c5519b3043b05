/- Marks, to the number, on slices of slices that are made by append; what is held. -/
import Derived.Test.YtenaadmifppphaaGreatDoorGG
import Derived.Test.YtenaadmifppphaaGreatDoorGMark
namespace Go.Proofs.YtenaadmifppphaaGreatDoor
open Go.ChangeShapes Go.WideShapes Go.ChangeAt Go.RowKit
set_option linter.unusedVariables false
set_option linter.unusedSimpArgs false
/-- Each row holds the numbers that mark, one row behind the other. -/
def markRows (k0 : Int) : List (List Int) → List (List Int)
  | [] => []
  | r :: rs => marks k0 r.length :: markRows (k0 + r.length) rs
theorem markRows_len : ∀ (rows : List (List Int)) (k0 : Int), (markRows k0 rows).length = rows.length
  | [], _ => rfl
  | r :: rs, k0 => by rw [markRows, List.length_cons, List.length_cons, markRows_len rs]
theorem markRows_at : ∀ (rows : List (List Int)) (k0 : Int) (k : Nat) (row : List Int), rows[k]? = some row → (markRows k0 rows)[k]? = some (marks (k0 + (totN rows k : Nat)) row.length)
  | [], _, k, row, h => by simp at h
  | r :: rs, k0, 0, row, h => by
    simp at h
    subst h
    simp [markRows, totN]
  | r :: rs, k0, k + 1, row, h => by
    have h' : rs[k]? = some row := by simpa using h
    have ih := markRows_at rs (k0 + r.length) k row h'
    have ht : ∀ k, totN (r :: rs) (k + 1) = r.length + totN rs k := by
      intro k
      induction k with
      | zero => simp [totN]
      | succ k ihk =>
        rw [totN, ihk]
        simp only [totN, List.getD_cons_succ]
        omega
    rw [markRows, List.getElem?_cons_succ, ih, ht]
    congr 2
    omega
theorem markRows_small {rows : List (List Int)} (h : Small rows) (k0 : Int) : Small (markRows k0 rows) := by
  refine ⟨by rw [markRows_len]; exact h.1, fun r hr => ?_⟩
  obtain ⟨i, hi, rfl⟩ := List.getElem_of_mem hr
  rw [markRows_len] at hi
  have h1 := markRows_at rows k0 i rows[i] (List.getElem?_eq_getElem hi)
  have h2 := List.getElem?_eq_getElem (l := markRows k0 rows) (i := i) (by rw [markRows_len]; exact hi)
  rw [h2] at h1
  injection h1 with h1
  rw [h1, marks_len]
  exact h.2 _ (List.getElem_mem _)
/-- The first k rows are marked. -/
def partM (k0 : Int) (rows : List (List Int)) (k : Nat) : List (List Int) := (markRows k0 rows).take k ++ rows.drop k
theorem partM_len (k0 : Int) (rows : List (List Int)) (k : Nat) (hk : k ≤ rows.length) : (partM k0 rows k).length = rows.length := by
  rw [partM, List.length_append, List.length_take, List.length_drop, markRows_len]
  omega
theorem partM_at (k0 : Int) (rows : List (List Int)) (k i : Nat) (hk : k ≤ rows.length) : (partM k0 rows k)[i]? = if i < k then (markRows k0 rows)[i]? else rows[i]? := by
  have hl : ((markRows k0 rows).take k).length = k := by rw [List.length_take, markRows_len]; omega
  unfold partM
  by_cases h : i < k
  · rw [if_pos h, List.getElem?_append_left (by omega), List.getElem?_take_of_lt h]
  · rw [if_neg h, List.getElem?_append_right (by omega), hl, List.getElem?_drop]
    congr 1
    omega
theorem partM_all (k0 : Int) (rows : List (List Int)) : partM k0 rows rows.length = markRows k0 rows := by
  rw [partM, List.drop_length, List.append_nil, List.take_of_length_le (by rw [markRows_len]; exact Nat.le_refl _)]
theorem GG.hi {w : World} {B : Nat} {v : Value} {rows : List (List Int)} {vs : List Value} (h : GG w B v rows vs) : ∀ (i : Nat) (u : Value), vs[i]? = some u → ∀ b, u.ownBlock = some b → B ≤ b ∧ b < w.heap.size := fun i u hu b hb => by
  have hi := (List.getElem?_eq_some_iff.1 hu).1
  exact (h.own i u _ hu (List.getElem?_eq_getElem (by rw [← h.len]; exact hi))).lt b hb
theorem GG.outer {w : World} {B : Nat} {v : Value} {rows : List (List Int)} {vs : List Value} (h : GG w B v rows vs) : ∀ b, v.ownBlock = some b → B ≤ b ∧ b < w.heap.size := World.ownsRow.lt h.out
/-- One row is marked. -/
theorem GG.mark {w w' : World} {B k : Nat} {v u : Value} {k0 : Int} {rows : List (List Int)} {vs : List Value} {row : List Int} (h : GG w B v (partM k0 rows k) vs) (hk : k < rows.length) (hu : vs[k]? = some u) (hr : rows[k]? = some row)
    (ho : OwnI w' B 3 u (marks (k0 + (totN rows k : Nat)) row.length)) (hg : w.grownBy w' u.ownBlock) : GG w' B v (partM k0 rows (k + 1)) vs := by
  have hl : (partM k0 rows k).length = (partM k0 rows (k + 1)).length := by rw [partM_len _ _ _ (by omega), partM_len _ _ _ (by omega)]
  refine ⟨?_, fun i x r h1 h2 => ?_, h.apart, h.sep⟩
  · rw [← hl]
    refine World.ownsRow.kept h.out hg ?_
    rcases h.sep k u hu with e | e
    · rw [e]
      cases v.ownBlock with
      | none => exact .inl rfl
      | some b => exact .inr (by simp)
    · exact .inr fun e2 => e e2.symm
  · rw [partM_at _ _ _ _ (by omega)] at h2
    by_cases e : i = k
    · subst e
      rw [if_pos (by omega), markRows_at rows k0 i row hr] at h2
      injection h2 with h2
      subst h2
      rw [hu] at h1
      injection h1 with h1
      subst h1
      exact ho
    · have h3 : (partM k0 rows k)[i]? = some r := by
        rw [partM_at _ _ _ _ (by omega), ← h2]
        by_cases hlt : i < k
        · rw [if_pos hlt, if_pos (by omega)]
        · rw [if_neg hlt, if_neg (by omega)]
      refine (h.own i x r h1 h3).other hg ?_
      rcases Nat.lt_or_ge i k with hik | hik
      · exact h.apart i k x u hik h1 hu
      · rcases h.apart k i u x (by omega) hu h1 with h0 | h0
        · rw [h0]
          cases x.ownBlock with
          | none => exact .inl rfl
          | some b => exact .inr (by simp)
        · exact .inr fun e2 => h0 e2.symm
theorem GG.at_ {w : World} {B k : Nat} {v : Value} {rows : List (List Int)} {vs : List Value} (h : GG w B v rows vs) (hk : k < rows.length) :
    ∃ g c A n c' row, v = .slice (some ⟨g, 0, none⟩) rows.length c ∧ w.cell? ⟨g, k, none⟩ = some (.slice A n c') ∧ rows[k]? = some row ∧ n = row.length ∧ vs[k]? = some (.slice A n c') ∧ OwnI w B 3 (.slice A n c') row := by
  obtain ⟨A, c, e, hs, hl, hr, hv⟩ := h.rd
  have hlv : k < vs.length := by rw [h.len]; exact hk
  obtain ⟨row, hrow⟩ := row_at hk
  obtain ⟨-, h0 | ⟨g, cap, cur, rfl, -, hh, hnc, -, hcs, ht⟩⟩ := h.out
  · omega
  · have hu : vs[k]? = some vs[k] := List.getElem?_eq_getElem hlv
    have ho := h.own k _ row hu hrow
    obtain ⟨A', c', e', -⟩ := ho.form
    refine ⟨g, cap, A', row.length, c', row, rfl, ?_, hrow, rfl, by rw [hu, e'], by rw [← e']; exact ho⟩
    rw [cell_of hh, ← Array.getElem?_toList]
    have : (cur.toList.take (rows.length * 1))[k]? = vs[k]? := by rw [ht]
    rw [List.getElem?_take_of_lt (by omega)] at this
    rw [this, hu, e']
end Go.Proofs.YtenaadmifppphaaGreatDoor
