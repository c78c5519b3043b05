/- Insertion of numbers into ascending lists; sorting gives the same. No program in sight. -/
import Derived.Test.YtjodoljgpdbimaaMem2
namespace Go.Proofs.Ytjodoljgpdbimaa
set_option linter.unusedVariables false
theorem of_takeWhileI {p : Int → Bool} {l : List Int} {x : Int} (h : x ∈ l.takeWhile p) : p x = true := List.all_eq_true.1 List.all_takeWhile x h
def ascI (l : List Int) : Prop := l.Pairwise fun a b => a < b
theorem ascI_unique : ∀ (a b : List Int), ascI a → ascI b → (∀ x, x ∈ a ↔ x ∈ b) → a = b
  | [], [], _, _, _ => rfl
  | [], b :: bs, _, _, h => absurd ((h b).2 (List.mem_cons_self ..)) (by simp)
  | a :: aa, [], _, _, h => absurd ((h a).1 (List.mem_cons_self ..)) (by simp)
  | a :: aa, b :: bs, ha, hb, h => by
    have ha' := List.pairwise_cons.1 ha
    have hb' := List.pairwise_cons.1 hb
    have e : a = b := by
      rcases List.mem_cons.1 ((h a).1 (List.mem_cons_self ..)) with e | e
      · exact e
      · rcases List.mem_cons.1 ((h b).2 (List.mem_cons_self ..)) with e2 | e2
        · exact e2.symm
        · have h1 := hb'.1 a e
          have h2 := ha'.1 b e2
          omega
    subst e
    rw [ascI_unique aa bs ha'.2 hb'.2 fun x => ?_]
    constructor
    · intro hx
      rcases List.mem_cons.1 ((h x).1 (List.mem_cons_of_mem _ hx)) with e | e
      · subst e
        have := ha'.1 x hx
        omega
      · exact e
    · intro hx
      rcases List.mem_cons.1 ((h x).2 (List.mem_cons_of_mem _ hx)) with e | e
      · subst e
        have := hb'.1 x hx
        omega
      · exact e
/-- How many stand ahead of a number. -/
def idxPI (l : List Int) (s : Int) : Nat := (l.takeWhile fun x => decide (x < s)).length
def putI (l : List Int) (s : Int) : List Int := if l[idxPI l s]? = some s then l else l.take (idxPI l s) ++ [s] ++ l.drop (idxPI l s)
theorem idxPI_le (l : List Int) (s : Int) : idxPI l s ≤ l.length := by
  unfold idxPI
  exact (List.takeWhile_sublist _).length_le
theorem idxPI_take (l : List Int) (s : Int) : l.take (idxPI l s) = l.takeWhile fun x => decide (x < s) := by
  unfold idxPI
  exact (List.prefix_iff_eq_take.1 (List.takeWhile_prefix _)).symm
theorem idxPI_drop (l : List Int) (s : Int) : l.drop (idxPI l s) = l.dropWhile fun x => decide (x < s) := by
  have h := List.takeWhile_append_dropWhile (p := fun x => decide (x < s)) (l := l)
  have h2 := List.take_append_drop (idxPI l s) l
  rw [idxPI_take] at h2
  exact List.append_cancel_left (h2.trans h.symm)
theorem idxPI_lt {l : List Int} {s : Int} {j : Nat} {x : Int} (hj : j < idxPI l s) (hx : l[j]? = some x) : x < s := by
  have h1 : (l.take (idxPI l s))[j]? = some x := by rw [List.getElem?_take_of_lt hj, hx]
  rw [idxPI_take] at h1
  have := List.mem_of_getElem? h1
  exact of_decide_eq_true (of_takeWhileI (p := fun x => decide (x < s)) this)
theorem idxPI_at {l : List Int} {s : Int} {x : Int} (hx : l[idxPI l s]? = some x) : ¬ x < s := by
  have h1 : (l.drop (idxPI l s))[0]? = some x := by rw [List.getElem?_drop, Nat.add_zero, hx]
  rw [idxPI_drop] at h1
  cases hd : l.dropWhile (fun x => decide (x < s)) with
  | nil => rw [hd] at h1; simp at h1
  | cons y ys =>
    rw [hd] at h1
    simp at h1
    subst h1
    have := List.head_dropWhile_not (fun x => decide (x < s)) (l := l) (by rw [hd]; simp)
    simpa [hd] using this
theorem idxPI_eq {l : List Int} {s : Int} {k : Nat} (hk : k ≤ l.length) (h1 : ∀ j x, j < k → l[j]? = some x → x < s) (h2 : ∀ x, l[k]? = some x → ¬ x < s) : idxPI l s = k := by
  rcases Nat.lt_trichotomy (idxPI l s) k with h | h | h
  · have hlt : idxPI l s < l.length := by omega
    have := idxPI_at (List.getElem?_eq_getElem hlt)
    exact absurd (h1 _ _ h (List.getElem?_eq_getElem hlt)) this
  · exact h
  · have hlt : k < l.length := by have := idxPI_le l s; omega
    have := idxPI_lt h (List.getElem?_eq_getElem hlt)
    exact absurd this (h2 _ (List.getElem?_eq_getElem hlt))
theorem putI_mem {l : List Int} {s x : Int} : x ∈ putI l s ↔ x ∈ l ∨ x = s := by
  unfold putI
  by_cases h : l[idxPI l s]? = some s
  · rw [if_pos h]
    constructor
    · exact .inl
    · rintro (h1 | rfl)
      · exact h1
      · exact List.mem_of_getElem? h
  · rw [if_neg h]
    conv => rhs; rw [← List.take_append_drop (idxPI l s) l]
    simp only [List.mem_append, List.mem_singleton]
    constructor
    · rintro ((h | h) | h)
      · exact .inl (.inl h)
      · exact .inr h
      · exact .inl (.inr h)
    · rintro ((h | h) | h)
      · exact .inl (.inl h)
      · exact .inr h
      · exact .inl (.inr h)
theorem putI_asc {l : List Int} (s : Int) (h : ascI l) : ascI (putI l s) := by
  unfold putI
  by_cases he : l[idxPI l s]? = some s
  · rw [if_pos he]; exact h
  · rw [if_neg he]
    unfold ascI
    have h0 : ascI (l.take (idxPI l s) ++ l.drop (idxPI l s)) := by rw [List.take_append_drop]; exact h
    have h0 := List.pairwise_append.1 h0
    have hA : ∀ x ∈ l.take (idxPI l s), x < s := by
      intro x hx
      rw [idxPI_take] at hx
      exact of_decide_eq_true (of_takeWhileI (p := fun x => decide (x < s)) hx)
    have hB : ∀ x ∈ l.drop (idxPI l s), s < x := by
      intro x hx
      cases hd : l.drop (idxPI l s) with
      | nil => rw [hd] at hx; cases hx
      | cons y ys =>
        have hy : l[idxPI l s]? = some y := by
          have : (l.drop (idxPI l s))[0]? = some y := by rw [hd]; rfl
          rw [List.getElem?_drop, Nat.add_zero] at this
          exact this
        have h1 := idxPI_at hy
        have h3 : s ≠ y := fun e => he (by rw [hy, e])
        have h2 : s < y := by omega
        rw [hd] at hx
        rcases List.mem_cons.1 hx with rfl | hx
        · exact h2
        · have h3 := h0.2.1
          rw [hd] at h3
          have := (List.pairwise_cons.1 h3).1 x hx
          omega
    rw [List.append_assoc, List.pairwise_append]
    refine ⟨h0.1, List.pairwise_cons.2 ⟨hB, h0.2.1⟩, fun a ha b hb => ?_⟩
    rcases List.mem_cons.1 hb with rfl | hb
    · exact hA a ha
    · exact h0.2.2 a ha b hb
theorem putI_len (l : List Int) (s : Int) : (putI l s).length ≤ l.length + 1 := by
  unfold putI
  split
  · omega
  · simp
    omega
def putAllI (l : List Int) : List Int := l.foldl putI []
theorem putAllI_snoc (l : List Int) (s : Int) : putAllI (l ++ [s]) = putI (putAllI l) s := by simp [putAllI]
theorem putAllI_mem (l : List Int) : ∀ x, x ∈ putAllI l ↔ x ∈ l := by
  have : ∀ (l acc : List Int) (x : Int), x ∈ l.foldl putI acc ↔ x ∈ acc ∨ x ∈ l := by
    intro l
    induction l with
    | nil => intro acc x; simp
    | cons s l ih => intro acc x; rw [List.foldl_cons, ih, putI_mem, List.mem_cons]; simp only [or_assoc]
  intro x
  unfold putAllI
  rw [this]
  simp
theorem putAllI_asc (l : List Int) : ascI (putAllI l) := by
  have : ∀ (l acc : List Int), ascI acc → ascI (l.foldl putI acc) := by
    intro l
    induction l with
    | nil => intro acc h; exact h
    | cons s l ih => intro acc h; exact ih _ (putI_asc s h)
  exact this l [] List.Pairwise.nil
theorem putAllI_len (l : List Int) : (putAllI l).length ≤ l.length := by
  have : ∀ (l acc : List Int), (l.foldl putI acc).length ≤ acc.length + l.length := by
    intro l
    induction l with
    | nil => intro acc; simp
    | cons s l ih => intro acc; have := ih (putI acc s); have := putI_len acc s; simp only [List.foldl_cons, List.length_cons]; omega
  have := this l []
  simpa [putAllI] using this
theorem sortI_put {l : List Int} (h : l.Nodup) : l.mergeSort (fun a b => decide (a ≤ b)) = putAllI l := by
  have hp := List.mergeSort_perm l (fun a b : Int => decide (a ≤ b))
  have hs : (l.mergeSort (fun a b : Int => decide (a ≤ b))).Pairwise fun a b => decide (a ≤ b) = true :=
    List.pairwise_mergeSort (fun a b c h1 h2 => by simp at *; omega) (fun a b => by simp; omega) l
  have hn : (l.mergeSort (fun a b : Int => decide (a ≤ b))).Nodup := (hp.nodup_iff).2 h
  refine ascI_unique _ _ ?_ (putAllI_asc l) fun x => by rw [putAllI_mem, hp.mem_iff]
  refine (List.Pairwise.and hs hn).imp ?_
  rintro a b ⟨h1, h2⟩
  have := of_decide_eq_true h1
  omega
end Go.Proofs.Ytjodoljgpdbimaa
