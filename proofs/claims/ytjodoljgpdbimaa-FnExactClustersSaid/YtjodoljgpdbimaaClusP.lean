/- Groups of numbers that are near each other, and that what has been seen is closed. No program in sight. -/
import Derived.ProofKit
namespace Go.Proofs.Ytjodoljgpdbimaa
set_option linter.unusedVariables false
set_option linter.unusedSectionVars false
section
variable (n : Nat) (near : Nat → Nat → Bool)
/-- One sweep: the numbers below k that are near x and neither in S nor in the group join the group. -/
def sweep (S : List Nat) (x : Nat) : Nat → List Nat → List Nat
  | 0, g => g
  | k + 1, g => if (!decide (k ∈ S) && !decide (k ∈ sweep S x k g)) && near x k then sweep S x k g ++ [k] else sweep S x k g
def bfs (S : List Nat) : Nat → Nat → List Nat → List Nat
  | 0, _, g => g
  | f + 1, at_, g => match g[at_]? with
    | none => g
    | some x => bfs S f (at_ + 1) (sweep near S x n g)
theorem sweep_sub (S : List Nat) (x : Nat) : ∀ k (g : List Nat) y, y ∈ sweep near S x k g → y ∈ g ∨ (y < k ∧ y ∉ S ∧ near x y = true)
  | 0, g, y, h => .inl h
  | k + 1, g, y, h => by
    rw [sweep] at h
    split at h
    · rename_i hc
      simp only [Bool.and_eq_true, Bool.not_eq_true', decide_eq_false_iff_not] at hc
      rcases List.mem_append.1 h with h | h
      · rcases sweep_sub S x k g y h with h | h
        · exact .inl h
        · exact .inr ⟨by omega, h.2⟩
      · simp only [List.mem_singleton] at h
        subst h
        exact .inr ⟨by omega, hc.1.1, hc.2⟩
    · rcases sweep_sub S x k g y h with h | h
      · exact .inl h
      · exact .inr ⟨by omega, h.2⟩
theorem sweep_pre (S : List Nat) (x : Nat) : ∀ k (g : List Nat), ∃ t, sweep near S x k g = g ++ t
  | 0, g => ⟨[], by simp [sweep]⟩
  | k + 1, g => by
    obtain ⟨t, ht⟩ := sweep_pre S x k g
    rw [sweep]
    split
    · exact ⟨t ++ [k], by rw [ht, List.append_assoc]⟩
    · exact ⟨t, ht⟩
theorem sweep_nodup (S : List Nat) (x : Nat) : ∀ k (g : List Nat), g.Nodup → (sweep near S x k g).Nodup
  | 0, g, h => h
  | k + 1, g, h => by
    have ih := sweep_nodup S x k g h
    rw [sweep]
    split
    · rename_i hc
      simp only [Bool.and_eq_true, Bool.not_eq_true', decide_eq_false_iff_not] at hc
      rw [List.nodup_append]
      exact ⟨ih, by simp, by
        intro a ha b hb e
        simp only [List.mem_singleton] at hb
        subst hb e
        exact hc.1.2 ha⟩
    · exact ih
theorem sweep_all (S : List Nat) (x : Nat) : ∀ k (g : List Nat) y, y < k → y ∉ S → near x y = true → y ∈ sweep near S x k g
  | 0, g, y, h, _, _ => by omega
  | k + 1, g, y, h, hS, hn => by
    rw [sweep]
    by_cases e : y = k
    · subst e
      split
      · simp
      · rename_i hc
        simp only [Bool.and_eq_true, Bool.not_eq_true', decide_eq_false_iff_not, not_and, Bool.not_eq_true] at hc
        by_cases hm : y ∈ sweep near S x y g
        · exact hm
        · have := hc ⟨hS, hm⟩
          rw [hn] at this
          cases this
    · have := sweep_all S x k g y (by omega) hS hn
      split
      · exact List.mem_append_left _ this
      · exact this
theorem sweep_off {S : List Nat} {x : Nat} (h : ∀ k, near x k = true → k ∉ S) : ∀ k (g : List Nat), sweep near S x k g = sweep near [] x k g
  | 0, g => rfl
  | k + 1, g => by
    rw [sweep, sweep, sweep_off h k g]
    by_cases hn : near x k = true
    · simp [h k hn, hn]
    · simp [hn]
theorem bfs_off {S : List Nat} : ∀ f a g, (∀ x, x ∉ S → ∀ k, near x k = true → k ∉ S) → (∀ x ∈ g, x ∉ S) → bfs n near S f a g = bfs n near [] f a g
  | 0, a, g, _, _ => rfl
  | f + 1, a, g, h, hg => by
    rw [bfs, bfs]
    cases e : g[a]? with
    | none => rfl
    | some x =>
      have hx : x ∉ S := hg x (List.mem_of_getElem? e)
      simp only
      rw [sweep_off near (h x hx) n g]
      refine bfs_off f (a + 1) _ h fun y hy => ?_
      rcases sweep_sub near [] x n g y hy with q | q
      · exact hg y q
      · exact h x hx y q.2.2
/-- What a group that is whole is. -/
structure Grp (S g : List Nat) (a : Nat) : Prop where
  nd : g.Nodup
  lt : ∀ x ∈ g, x < n
  off : ∀ x ∈ g, x ∉ S
  done : ∀ j x, j < a → g[j]? = some x → ∀ k, k < n → k ∉ S → near x k = true → k ∈ g
theorem Grp.step {S g : List Nat} {a x : Nat} (h : Grp n near S g a) (hx : g[a]? = some x) : Grp n near S (sweep near S x n g) (a + 1) := by
  obtain ⟨t, ht⟩ := sweep_pre near S x n g
  have hl : a < g.length := (List.getElem?_eq_some_iff.1 hx).1
  refine ⟨sweep_nodup near S x n g h.nd, fun y hy => ?_, fun y hy => ?_, fun j y hj hy k hk hS hn => ?_⟩
  · rcases sweep_sub near S x n g y hy with q | q
    · exact h.lt y q
    · exact q.1
  · rcases sweep_sub near S x n g y hy with q | q
    · exact h.off y q
    · exact q.2.1
  · by_cases e : j = a
    · subst e
      rw [ht, List.getElem?_append_left hl, hx] at hy
      injection hy with hy
      subst hy
      exact sweep_all near S x n g k hk hS hn
    · rw [ht, List.getElem?_append_left (by omega)] at hy
      rw [ht]
      exact List.mem_append_left _ (h.done j y (by omega) hy k hk hS hn)
theorem nodup_le : ∀ (n : Nat) (g : List Nat), g.Nodup → (∀ x ∈ g, x < n) → g.length ≤ n
  | 0, g, _, hl => by
    cases g with
    | nil => simp
    | cons a t => have := hl a List.mem_cons_self; omega
  | n + 1, g, h, hl => by
    by_cases hm : n ∈ g
    · have h1 := nodup_le n (g.erase n) (h.erase n) (fun x hx => by
        have h2 := hl x (List.mem_of_mem_erase hx)
        have h3 : x ≠ n := fun e => by subst e; exact (List.Nodup.not_mem_erase h) hx
        omega)
      rw [List.length_erase_of_mem hm] at h1
      omega
    · have h1 := nodup_le n g h (fun x hx => by
        have h2 := hl x hx
        have h3 : x ≠ n := fun e => by subst e; exact hm hx
        omega)
      omega
theorem Grp.len {S g : List Nat} {a : Nat} (h : Grp n near S g a) : g.length ≤ n := nodup_le n g h.nd h.lt
theorem bfs_grp {S : List Nat} : ∀ f a g, Grp n near S g a → n ≤ f + a → a ≤ g.length → ∃ b, (bfs n near S f a g).length ≤ b ∧ Grp n near S (bfs n near S f a g) b ∧ ∀ y ∈ g, y ∈ bfs n near S f a g
  | 0, a, g, h, hf, ha => ⟨a, by have := h.len; simp [bfs]; omega, h, fun y hy => hy⟩
  | f + 1, a, g, h, hf, ha => by
    rw [bfs]
    cases e : g[a]? with
    | none => exact ⟨a, by rw [List.getElem?_eq_none_iff] at e; exact e, h, fun y hy => hy⟩
    | some x =>
      have hl : a < g.length := (List.getElem?_eq_some_iff.1 e).1
      obtain ⟨t, ht⟩ := sweep_pre near S x n g
      obtain ⟨b, h1, h2, h3⟩ := bfs_grp f (a + 1) _ (h.step n near e) (by omega) (by rw [ht, List.length_append]; omega)
      exact ⟨b, h1, h2, fun y hy => h3 y (by rw [ht]; exact List.mem_append_left _ hy)⟩
/-- What has been seen is closed. -/
def Closed (S : List Nat) : Prop := ∀ x ∈ S, ∀ k, k < n → near x k = true → k ∈ S
/-- The groups, one behind the other; behind them all that are in one. -/
def clus (ord : List Nat → List Nat) : Nat → List (List Nat) × List Nat
  | 0 => ([], [])
  | k + 1 => if k ∈ (clus ord k).2 then clus ord k else ((clus ord k).1 ++ [ord (bfs n near [] n 0 [k])], (clus ord k).2 ++ bfs n near [] n 0 [k])
variable (hs : ∀ x k, near x k = near k x) (hlt : ∀ x k, near x k = true → k < n)
include hs hlt
theorem bfs_same {S : List Nat} (hc : Closed n near S) {k : Nat} (hS : ∀ x ∈ S, x < n) (hk : k ∉ S) (f a : Nat) : bfs n near S f a [k] = bfs n near [] f a [k] := by
  refine bfs_off n near f a [k] (fun x hx y hn hy => hx (hc y hy x ?_ (by rw [hs]; exact hn))) (fun x hx => ?_)
  · exact hlt y x (by rw [hs]; exact hn)
  · simp only [List.mem_singleton] at hx
    subst hx
    exact hk
theorem grp_start (S : List Nat) {k : Nat} (hk : k < n) (hS : k ∉ S) : Grp n near S [k] 0 :=
  ⟨by simp, fun x hx => by simp only [List.mem_singleton] at hx; omega, fun x hx => by simp only [List.mem_singleton] at hx; subst hx; exact hS, fun j x hj => by omega⟩
theorem closed_step {S : List Nat} (hc : Closed n near S) {k : Nat} (hk : k < n) (hS : k ∉ S) : Closed n near (S ++ bfs n near [] n 0 [k]) := by
  obtain ⟨b, h1, h2, -⟩ := bfs_grp n near n 0 [k] (grp_start n near hs hlt [] hk (by simp)) (by omega) (by simp)
  intro x hx y hy hn
  rcases List.mem_append.1 hx with hx | hx
  · exact List.mem_append_left _ (hc x hx y hy hn)
  · refine List.mem_append_right _ ?_
    obtain ⟨j, hj⟩ := List.getElem?_of_mem hx
    have hl := (List.getElem?_eq_some_iff.1 hj).1
    exact h2.done j x (by omega) hj y hy (by simp) hn
/-- What stands of the groups behind k numbers. -/
structure Clus (ord : List Nat → List Nat) (k : Nat) : Prop where
  closed : Closed n near (clus n near ord k).2
  lt : ∀ x ∈ (clus n near ord k).2, x < n
  few : (clus n near ord k).1.length ≤ k
theorem clus_inv (ord : List Nat → List Nat) : ∀ k, k ≤ n → Clus n near ord k
  | 0, _ => ⟨fun x hx => by simp [clus] at hx, fun x hx => by simp [clus] at hx, by simp [clus]⟩
  | k + 1, hk => by
    have ih := clus_inv ord k (by omega)
    by_cases hm : k ∈ (clus n near ord k).2
    · have e : clus n near ord (k + 1) = clus n near ord k := by rw [clus, if_pos hm]
      exact ⟨by rw [e]; exact ih.closed, by rw [e]; exact ih.lt, by rw [e]; have := ih.few; omega⟩
    · have e : clus n near ord (k + 1) = ((clus n near ord k).1 ++ [ord (bfs n near [] n 0 [k])], (clus n near ord k).2 ++ bfs n near [] n 0 [k]) := by rw [clus, if_neg hm]
      obtain ⟨b, h1, h2, -⟩ := bfs_grp n near n 0 [k] (grp_start n near hs hlt [] (by omega) (by simp)) (by omega) (by simp)
      refine ⟨by rw [e]; exact closed_step n near hs hlt ih.closed (by omega) hm, ?_, by rw [e]; simp; exact ih.few⟩
      rw [e]
      intro x hx
      rcases List.mem_append.1 hx with hx | hx
      · exact ih.lt x hx
      · exact h2.lt x hx
end
end Go.Proofs.Ytjodoljgpdbimaa
