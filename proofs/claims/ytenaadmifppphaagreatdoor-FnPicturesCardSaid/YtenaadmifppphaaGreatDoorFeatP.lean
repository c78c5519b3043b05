/- Plain facts on features: their texts, ascending lists, insertion, the features of arms. No program in sight. -/
import Derived.Test.YtenaadmifppphaaGreatDoorMem
import Derived.Lib.ItoaNum
import Derived.Lib.SlicesCompact
import Derived.Sort.Walk0
import Derived.Sort.EncStr
namespace Go.Proofs.YtenaadmifppphaaGreatDoor
set_option linter.unusedVariables false
/-! ### Order -/
def ltS (a b : ByteArray) : Bool := Op.bytesLess a.toList b.toList
theorem ltS_iff {a b : ByteArray} : ltS a b = true ↔ a.data.toList < b.data.toList := by
  unfold ltS
  rw [bytesLess_eq, ByteArray.toList_eq, ByteArray.toList_eq, decide_eq_true_iff]
theorem bytes_eq {a b : ByteArray} (h : a.data.toList = b.data.toList) : a = b := by
  cases a; cases b
  simp at h
  simp [h]
theorem eqS_iff {a b : ByteArray} : (a.toList == b.toList) = true ↔ a = b := by
  rw [beq_iff_eq, ByteArray.toList_eq, ByteArray.toList_eq]
  exact ⟨bytes_eq, fun h => by rw [h]⟩
theorem eqS_self (a : ByteArray) : (a.toList == a.toList) = true := eqS_iff.2 rfl
theorem eqS_ne {a b : ByteArray} (h : a ≠ b) : (a.toList == b.toList) = false := by
  rw [Bool.eq_false_iff]
  exact fun e => h (eqS_iff.1 e)
theorem ltS_irrefl (a : ByteArray) : ltS a a = false := by
  rw [Bool.eq_false_iff]
  intro h
  exact List.lt_irrefl _ (ltS_iff.1 h)
theorem ltS_trans {a b c : ByteArray} (h : ltS a b = true) (h2 : ltS b c = true) : ltS a c = true := ltS_iff.2 (List.lt_trans (ltS_iff.1 h) (ltS_iff.1 h2))
theorem ltS_asymm {a b : ByteArray} (h : ltS a b = true) : ltS b a = false := by
  rw [Bool.eq_false_iff]
  intro h2
  have := ltS_trans h h2
  rw [ltS_irrefl] at this
  cases this
theorem ltL_total : ∀ a b : List UInt8, a < b ∨ a = b ∨ b < a
  | [], [] => .inr (.inl rfl)
  | [], _ :: _ => .inl (List.nil_lt_cons _ _)
  | _ :: _, [] => .inr (.inr (List.nil_lt_cons _ _))
  | a :: xs, b :: ys => by
    rcases Nat.lt_trichotomy a.toNat b.toNat with h | h | h
    · exact .inl (List.cons_lt_cons_iff.2 (.inl (UInt8.lt_iff_toNat_lt.2 h)))
    · obtain rfl := UInt8.toNat_inj.1 h
      rcases ltL_total xs ys with h2 | h2 | h2
      · exact .inl (List.cons_lt_cons_iff.2 (.inr ⟨rfl, h2⟩))
      · exact .inr (.inl (by rw [h2]))
      · exact .inr (.inr (List.cons_lt_cons_iff.2 (.inr ⟨rfl, h2⟩)))
    · exact .inr (.inr (List.cons_lt_cons_iff.2 (.inl (UInt8.lt_iff_toNat_lt.2 h))))
theorem ltS_total {a b : ByteArray} (h : ltS a b = false) (hne : a ≠ b) : ltS b a = true := by
  rw [ltS_iff]
  rcases ltL_total a.data.toList b.data.toList with h1 | h1 | h1
  · rw [ltS_iff.2 h1] at h; cases h
  · exact absurd (bytes_eq h1) hne
  · exact h1
theorem of_takeWhile {p : ByteArray → Bool} {l : List ByteArray} {x : ByteArray} (h : x ∈ l.takeWhile p) : p x = true := List.all_eq_true.1 List.all_takeWhile x h
def ascS (l : List ByteArray) : Prop := l.Pairwise fun a b => ltS a b = true
theorem ascS_unique : ∀ (a b : List ByteArray), ascS a → ascS b → (∀ x, x ∈ a ↔ x ∈ b) → a = b
  | [], [], _, _, _ => rfl
  | [], b :: bs, _, _, h => absurd ((h b).2 (List.mem_cons_self ..)) (by simp)
  | a :: aa, [], _, _, h => absurd ((h a).1 (List.mem_cons_self ..)) (by simp)
  | a :: aa, b :: bs, ha, hb, h => by
    have ha' := List.pairwise_cons.1 ha
    have hb' := List.pairwise_cons.1 hb
    have e : a = b := by
      rcases List.mem_cons.1 ((h a).1 (List.mem_cons_self ..)) with e | e
      · exact e
      · rcases List.mem_cons.1 ((h b).2 (List.mem_cons_self ..)) with e2 | e2
        · exact e2.symm
        · have h1 := hb'.1 a e
          rw [ltS_asymm (ha'.1 b e2)] at h1
          cases h1
    subst e
    rw [ascS_unique aa bs ha'.2 hb'.2 fun x => ?_]
    constructor
    · intro hx
      rcases List.mem_cons.1 ((h x).1 (List.mem_cons_of_mem _ hx)) with e | e
      · subst e
        have := ha'.1 x hx
        rw [ltS_irrefl] at this
        cases this
      · exact e
    · intro hx
      rcases List.mem_cons.1 ((h x).2 (List.mem_cons_of_mem _ hx)) with e | e
      · subst e
        have := hb'.1 x hx
        rw [ltS_irrefl] at this
        cases this
      · exact e
/-! ### Insertion -/
/-- How many stand ahead of a text. -/
def idxP (l : List ByteArray) (s : ByteArray) : Nat := (l.takeWhile fun x => ltS x s).length
def putS (l : List ByteArray) (s : ByteArray) : List ByteArray := if l[idxP l s]? = some s then l else l.take (idxP l s) ++ [s] ++ l.drop (idxP l s)
theorem idxP_le (l : List ByteArray) (s : ByteArray) : idxP l s ≤ l.length := by
  unfold idxP
  exact (List.takeWhile_sublist _).length_le
theorem idxP_take (l : List ByteArray) (s : ByteArray) : l.take (idxP l s) = l.takeWhile fun x => ltS x s := by
  unfold idxP
  exact (List.prefix_iff_eq_take.1 (List.takeWhile_prefix _)).symm
theorem idxP_drop (l : List ByteArray) (s : ByteArray) : l.drop (idxP l s) = l.dropWhile fun x => ltS x s := by
  have h := List.takeWhile_append_dropWhile (p := fun x => ltS x s) (l := l)
  have h2 := List.take_append_drop (idxP l s) l
  rw [idxP_take] at h2
  exact List.append_cancel_left (h2.trans h.symm)
theorem idxP_lt {l : List ByteArray} {s : ByteArray} {j : Nat} {x : ByteArray} (hj : j < idxP l s) (hx : l[j]? = some x) : ltS x s = true := by
  have h1 : (l.take (idxP l s))[j]? = some x := by rw [List.getElem?_take_of_lt hj, hx]
  rw [idxP_take] at h1
  have := List.mem_of_getElem? h1
  exact of_takeWhile (p := fun x => ltS x s) this
theorem idxP_at {l : List ByteArray} {s : ByteArray} {x : ByteArray} (hx : l[idxP l s]? = some x) : ltS x s = false := by
  have h1 : (l.drop (idxP l s))[0]? = some x := by rw [List.getElem?_drop, Nat.add_zero, hx]
  rw [idxP_drop] at h1
  cases hd : l.dropWhile (fun x => ltS x s) with
  | nil => rw [hd] at h1; simp at h1
  | cons y ys =>
    rw [hd] at h1
    simp at h1
    subst h1
    have := List.head_dropWhile_not (fun x => ltS x s) (l := l) (by rw [hd]; simp)
    simpa [hd] using this
theorem idxP_eq {l : List ByteArray} {s : ByteArray} {k : Nat} (hk : k ≤ l.length) (h1 : ∀ j x, j < k → l[j]? = some x → ltS x s = true) (h2 : ∀ x, l[k]? = some x → ltS x s = false) : idxP l s = k := by
  rcases Nat.lt_trichotomy (idxP l s) k with h | h | h
  · have hlt : idxP l s < l.length := by omega
    have := idxP_at (List.getElem?_eq_getElem hlt)
    rw [h1 _ _ h (List.getElem?_eq_getElem hlt)] at this
    cases this
  · exact h
  · have hlt : k < l.length := by have := idxP_le l s; omega
    have := idxP_lt h (List.getElem?_eq_getElem hlt)
    rw [h2 _ (List.getElem?_eq_getElem hlt)] at this
    cases this
theorem putS_mem {l : List ByteArray} {s x : ByteArray} : x ∈ putS l s ↔ x ∈ l ∨ x = s := by
  unfold putS
  by_cases h : l[idxP l s]? = some s
  · rw [if_pos h]
    constructor
    · exact .inl
    · rintro (h1 | rfl)
      · exact h1
      · exact List.mem_of_getElem? h
  · rw [if_neg h]
    conv => rhs; rw [← List.take_append_drop (idxP l s) l]
    simp only [List.mem_append, List.mem_singleton]
    constructor
    · rintro ((h | h) | h)
      · exact .inl (.inl h)
      · exact .inr h
      · exact .inl (.inr h)
    · rintro ((h | h) | h)
      · exact .inl (.inl h)
      · exact .inr h
      · exact .inl (.inr h)
theorem putS_asc {l : List ByteArray} (s : ByteArray) (h : ascS l) : ascS (putS l s) := by
  unfold putS
  by_cases he : l[idxP l s]? = some s
  · rw [if_pos he]; exact h
  · rw [if_neg he]
    unfold ascS
    have h0 : ascS (l.take (idxP l s) ++ l.drop (idxP l s)) := by rw [List.take_append_drop]; exact h
    have h0 := List.pairwise_append.1 h0
    have hA : ∀ x ∈ l.take (idxP l s), ltS x s = true := by
      intro x hx
      rw [idxP_take] at hx
      exact of_takeWhile (p := fun x => ltS x s) hx
    have hB : ∀ x ∈ l.drop (idxP l s), ltS s x = true := by
      intro x hx
      cases hd : l.drop (idxP l s) with
      | nil => rw [hd] at hx; cases hx
      | cons y ys =>
        have hy : l[idxP l s]? = some y := by
          have : (l.drop (idxP l s))[0]? = some y := by rw [hd]; rfl
          rw [List.getElem?_drop, Nat.add_zero] at this
          exact this
        have h1 := idxP_at hy
        have h2 : ltS s y = true := ltS_total h1 fun e => he (by rw [hy, e])
        rw [hd] at hx
        rcases List.mem_cons.1 hx with rfl | hx
        · exact h2
        · have h3 := h0.2.1
          rw [hd] at h3
          exact ltS_trans h2 ((List.pairwise_cons.1 h3).1 x hx)
    rw [List.append_assoc, List.pairwise_append]
    refine ⟨h0.1, List.pairwise_cons.2 ⟨hB, h0.2.1⟩, fun a ha b hb => ?_⟩
    rcases List.mem_cons.1 hb with rfl | hb
    · exact hA a ha
    · exact h0.2.2 a ha b hb
theorem putS_len (l : List ByteArray) (s : ByteArray) : (putS l s).length ≤ l.length + 1 := by
  unfold putS
  split
  · omega
  · simp
    omega
def putAll (l : List ByteArray) : List ByteArray := l.foldl putS []
theorem putAll_snoc (l : List ByteArray) (s : ByteArray) : putAll (l ++ [s]) = putS (putAll l) s := by simp [putAll]
theorem putAll_mem (l : List ByteArray) : ∀ x, x ∈ putAll l ↔ x ∈ l := by
  have : ∀ (l acc : List ByteArray) (x : ByteArray), x ∈ l.foldl putS acc ↔ x ∈ acc ∨ x ∈ l := by
    intro l
    induction l with
    | nil => intro acc x; simp
    | cons s l ih => intro acc x; rw [List.foldl_cons, ih, putS_mem, List.mem_cons]; simp only [or_assoc]
  intro x
  unfold putAll
  rw [this]
  simp
theorem putAll_asc (l : List ByteArray) : ascS (putAll l) := by
  have : ∀ (l acc : List ByteArray), ascS acc → ascS (l.foldl putS acc) := by
    intro l
    induction l with
    | nil => intro acc h; exact h
    | cons s l ih => intro acc h; exact ih _ (putS_asc s h)
  exact this l [] List.Pairwise.nil
theorem putAll_len (l : List ByteArray) : (putAll l).length ≤ l.length := by
  have : ∀ (l acc : List ByteArray), (l.foldl putS acc).length ≤ acc.length + l.length := by
    intro l
    induction l with
    | nil => intro acc; simp
    | cons s l ih => intro acc; have := ih (putS acc s); have := putS_len acc s; simp only [List.foldl_cons, List.length_cons]; omega
  have := this l []
  simpa [putAll] using this
/-- Whatever is ascending and has the same members is the same list. -/
theorem putAll_unique {l r : List ByteArray} (hr : ascS r) (h : ∀ x, x ∈ r ↔ x ∈ l) : r = putAll l := ascS_unique _ _ hr (putAll_asc l) fun x => by rw [putAll_mem, h]
/-! ### What sorting and compacting give -/
def toB (l : List UInt8) : ByteArray := ⟨l.toArray⟩
theorem toB_data (s : ByteArray) : toB s.data.toList = s := by cases s; simp [toB]
theorem data_toB (l : List UInt8) : (toB l).data.toList = l := by simp [toB]
theorem toB_inj {a b : List UInt8} (h : toB a = toB b) : a = b := by rw [← data_toB a, h, data_toB]
theorem ltS_toB {a b : List UInt8} : ltS (toB a) (toB b) = true ↔ a < b := by rw [ltS_iff, data_toB, data_toB]
theorem sorted_merge (l : List (List UInt8)) : (l.mergeSort fun x y => decide (x ≤ y)).Pairwise (· ≤ ·) := by
  have := List.pairwise_mergeSort (le := fun (x y : List UInt8) => decide (x ≤ y)) (fun a b c h1 h2 => by
    simp only [decide_eq_true_eq] at *
    exact List.le_trans h1 h2) (fun a b => by
    simp only [Bool.or_eq_true, decide_eq_true_eq]
    exact List.le_total a b) l
  exact this.imp fun h => by simpa using h
theorem merge_unique {l r : List ByteArray} (hr : ascS r) (hnd : l.Nodup) (h : ∀ x, x ∈ r ↔ x ∈ l) : ((l.map fun s => s.data.toList).mergeSort fun x y => decide (x ≤ y)).map toB = r := by
  refine ascS_unique _ _ ?_ hr fun x => ?_
  · have hs := sorted_merge (l.map fun s => s.data.toList)
    have hp := List.mergeSort_perm (l.map fun s => s.data.toList) (fun x y => decide (x ≤ y))
    have hn : ((l.map fun s => s.data.toList).mergeSort fun x y => decide (x ≤ y)).Nodup := by
      refine hp.nodup_iff.2 ?_
      exact List.Pairwise.map _ (fun a b hab e => hab (bytes_eq e)) hnd
    have := List.Pairwise.and hs hn
    unfold ascS
    rw [List.pairwise_map]
    refine this.imp fun ⟨h1, h2⟩ => ?_
    rw [ltS_toB]
    rcases ltL_total _ _ with h3 | h3 | h3
    · exact h3
    · exact absurd h3 h2
    · exact absurd h3 (List.not_lt.2 h1)
  · rw [h]
    simp only [List.mem_map, List.mem_mergeSort]
    constructor
    · rintro ⟨y, ⟨s, hs, rfl⟩, rfl⟩
      rw [toB_data]
      exact hs
    · exact fun hx => ⟨_, ⟨x, hx, rfl⟩, toB_data x⟩
end Go.Proofs.YtenaadmifppphaaGreatDoor
