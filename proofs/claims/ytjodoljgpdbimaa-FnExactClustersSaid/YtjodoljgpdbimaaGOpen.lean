/- An argument that is a slice of slices of numbers, opened. -/
import Derived.Test.YtjodoljgpdbimaaOpen
import Derived.Test.YtjodoljgpdbimaaGMem
import Derived.Deep.Slices
namespace Go.Proofs.Ytjodoljgpdbimaa
open Go.ChangeShapes Go.WideShapes Go.ChangeAt Go.RowKit Go.Joins Go.Deep
set_option linter.unusedVariables false
set_option maxRecDepth 100000
section
variable {H : Type} {enc : TypeId × Value → H} {w : World} {base : Nat} {spare : Nat → Bool} {held : Bool} {r : Reach} {b0 : Nat} {v : Value} {d : DataW H} {p : List MemPlace}
theorem spot_none {w : World} {a : Addr} {u : Value} (h : w.cell? a = some u) : a.spot = none := by
  simp only [World.cell?] at h
  split at h
  · split at h
    · cases h
    · next hh => simpa using hh
  · cases h
theorem add_at (b off i : Nat) : (Addr.add ⟨b, off, none⟩ i : Addr) = ⟨b, off + i, none⟩ := by
  unfold Addr.add
  split
  · next h => subst h; rfl
  · rfl
theorem okWide_slice {P : Program} {t e : TypeId} (ht : P.underlying t = some (.slice e)) (hv : Value.okWide P w r b0 t v) : ∃ A n c, v = .slice A n c := by
  simp only [Value.okWide, ht] at hv
  cases v <;> simp_all [Cell.okWide, Cell.ok]
theorem rows_of (n : Nat) (f : Nat → List Int) (P : Nat → List Int → Prop) (h : ∀ i, i < n → P i (f i)) : ∀ (i : Nat) (row : List Int), ((List.range n).map f)[i]? = some row → P i row := by
  intro i row hi
  rw [List.getElem?_map] at hi
  cases e : (List.range n)[i]? with
  | none => rw [e] at hi; cases hi
  | some j =>
    rw [e] at hi
    obtain ⟨hlt, hj⟩ := List.getElem?_eq_some_iff.1 e
    simp at hj hlt hi
    subst hj hi
    exact h _ hlt
theorem openGrid (hv : Value.okWide Try.prog w r b0 39 v) (h : DataW.Trod enc Try.prog w base spare held 39 v d p) :
    ∃ (A : Option Addr) (c : Nat) (rows : List (List Int)), v = .slice A rows.length c ∧ RdG w A rows ∧ rows.length ≤ maxLen ∧ ∀ row ∈ rows, row.length ≤ maxLen ∧ ∀ z ∈ row, (Lit.int .i64 z).wf = true := by
  obtain ⟨fuel, hf⟩ := h
  obtain ⟨A0, n0, c0, rfl⟩ := okWide_slice Try.underlying39 hv
  rcases open_slice1 Try.underlying39 (by kernel_rfl) hf with ⟨hcs, -⟩ | ⟨a, len, cap, m, n, V, D, Pl, hcs, -, hl, hm, hmm, -, hx⟩
  · simp [Value.cells] at hcs
    obtain ⟨rfl, rfl, rfl⟩ := hcs
    exact ⟨none, 0, [], rfl, RdG.nil _ _, by simp [maxLen], by simp⟩
  · simp [Value.cells] at hcs
    obtain ⟨rfl, rfl, rfl⟩ := hcs
    have hge : n0 ≤ m := by rw [hmm]; split <;> omega
    have each : ∀ i, i < n0 → ∃ y : Option Addr × Nat × List Int, V i = .slice y.1 y.2.2.length y.2.1 ∧ RdI w y.1 y.2.2 ∧ y.2.2.length ≤ maxLen ∧ ∀ z ∈ y.2.2, (Lit.int .i64 z).wf = true := by
      intro i hi
      obtain ⟨A', c', zs, h1, h2, h3, h4⟩ := trodInts Try.underlying50 Try.underlying3 (by kernel_rfl) (hx i (by omega)).2
      exact ⟨(A', c', zs), h1, h2, h3, h4⟩
    let f : Nat → Option Addr × Nat × List Int := fun i => if h : i < n0 then (each i h).choose else (none, 0, [])
    have hf' : ∀ i, i < n0 → V i = .slice (f i).1 (f i).2.2.length (f i).2.1 ∧ RdI w (f i).1 (f i).2.2 ∧ (f i).2.2.length ≤ maxLen ∧ ∀ z ∈ (f i).2.2, (Lit.int .i64 z).wf = true := by
      intro i hi
      have := (each i hi).choose_spec
      simp only [f, dif_pos hi]
      exact this
    have hlen : ((List.range n0).map fun i => (f i).2.2).length = n0 := by simp
    refine ⟨some a, c0, (List.range n0).map fun i => (f i).2.2, by rw [hlen], ?_, by rw [hlen]; omega, fun row hrow => ?_⟩
    · refine ⟨(List.range n0).map V, by simp, ?_, fun i u row h1 h2 => ?_⟩
      · by_cases h0 : n0 = 0
        · subst h0
          exact .inl rfl
        · have hs : a.spot = none := by
            have h1 := (hx 0 (by omega)).1
            rw [Addr.add, if_pos rfl] at h1
            exact spot_none h1
          obtain ⟨b, off, sp⟩ := a
          simp at hs
          subst hs
          refine .inr ⟨b, off, rfl, fun i hi => ?_⟩
          simp at hi
          have h1 := (hx i (by omega)).1
          rw [add_at] at h1
          rw [h1]
          simp
      · have hi := (List.getElem?_eq_some_iff.1 h1).1
        simp at hi
        simp [hi] at h1 h2
        subst h1 h2
        obtain ⟨g1, g2, -, -⟩ := hf' i hi
        exact ⟨_, _, g1, g2⟩
    · simp at hrow
      obtain ⟨i, hi, rfl⟩ := hrow
      exact (hf' i hi).2.2
end
end Go.Proofs.Ytjodoljgpdbimaa
