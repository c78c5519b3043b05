/- An argument that is a register, opened. -/
import Derived.Test.YtlonnkmfjijddaaGreatDoorGr
namespace Go.Proofs.YtlonnkmfjijddaaGreatDoor
open Go.ChangeShapes Go.WideShapes Go.ChangeAt Go.RowKit Go.Joins Go.Deep
set_option linter.unusedVariables false
set_option maxRecDepth 100000
section
variable {H : Type} {enc : TypeId × Value → H} {w : World} {base : Nat} {spare : Nat → Bool} {held : Bool} {r : Reach} {b0 : Nat} {v : Value} {d : DataW H} {p : List MemPlace}
theorem cellsGrant : Tryz.prog.cellsOf 71 = 18 := by kernel_rfl
theorem flatGrant {fuel : Nat} {cs : List Value} {x : DataW H × List MemPlace} (h : DataW.trod enc Tryz.prog w base spare held fuel 71 cs = some x) : ∃ g : GrantD, cs = gc g ∧ g.s.size ≤ maxLen := by
  have ht := Tryz.underlying71
  have hl : cs.length = 18 := by
    obtain ⟨xs, n, -, -, hl, -, -⟩ := DataW.trod_struct ht h
    rw [hl]
    exact cellsGrant
  have ci : Tryz.prog.cellsOf 3 = 1 := by kernel_rfl
  have ui := Tryz.underlying3
  obtain ⟨z0, e0⟩ := leafI ht h 0 (by kernel_rfl : _ = some (3, 0)) ci ui
  obtain ⟨n1, y1, hS⟩ := leafS ht h 1 (by kernel_rfl : _ = some (9, 1)) (by kernel_rfl : _ = 1)
  obtain ⟨z2, e2⟩ := leafI ht h 2 (by kernel_rfl : _ = some (3, 2)) ci ui
  obtain ⟨n3, y3, hA⟩ := leafS ht h 3 (by kernel_rfl : _ = some (69, 3)) cellsArms
  obtain ⟨s, e1, -, hs⟩ := DataW.trod_string Tryz.underlying9 hS
  obtain ⟨a, e3⟩ := flatArms hA
  refine ⟨⟨z0, s, z2, a⟩, ?_, hs⟩
  match cs, hl with
  | [x0, x1, x2, x3, x4, x5, x6, x7, x8, x9, x10, x11, x12, x13, x14, x15, x16, x17], _ =>
    simp only [List.drop_zero, List.drop_succ_cons, List.take_succ_cons, List.take_zero, List.cons.injEq, and_true] at e0 e1 e2 e3
    subst e0 e1 e2
    show _ = [_, _, _] ++ ac a
    rw [← e3]
    rfl
theorem openRegister (hv : Value.okWide Tryz.prog w r b0 24 v) (h : DataW.Trod enc Tryz.prog w base spare held 24 v d p) :
    ∃ (A : Option Addr) (c : Nat) (rows : List GrantD), v = .agg #[.slice A rows.length c] ∧ RdR 18 w A (gcs rows) ∧ rows.length ≤ maxLen ∧ ∀ g ∈ rows, g.s.size ≤ maxLen := by
  obtain ⟨v0, y0, fuel, rfl, hf⟩ := open_agg1 Tryz.underlying24 (by kernel_rfl) (by kernel_rfl) hv h
  rcases open_slice Tryz.underlying22 hf with ⟨hcs, -⟩ | ⟨a, len, cap, m, n, D, Pl, hcs, -, hl, hm, hmm, -, hx⟩
  · simp at hcs
    subst hcs
    exact ⟨none, 0, [], rfl, RdR.nil _ _ _, by simp [maxLen], by simp⟩
  · simp at hcs
    subst hcs
    have hge : len ≤ m := by rw [hmm]; split <;> omega
    rw [cellsGrant] at hx
    have each : ∀ i, i < len → ∃ y : GrantD, w.cells? base (a.add (i * 18)) 18 = some (gc y) ∧ y.s.size ≤ maxLen := by
      intro i hi
      obtain ⟨cs', h1, h2⟩ := hx i (by omega)
      obtain ⟨y, rfl, hy⟩ := flatGrant h2
      exact ⟨y, h1, hy⟩
    by_cases h0 : len = 0
    · subst h0
      exact ⟨some a, cap, [], rfl, RdR.nil _ _ _, by simp [maxLen], by simp⟩
    · have : Nonempty GrantD := ⟨(each 0 (by omega)).choose⟩
      obtain ⟨f, hf'⟩ : ∃ f : Nat → GrantD, ∀ i, i < len → w.cells? base (a.add (i * 18)) 18 = some (gc (f i)) ∧ (f i).s.size ≤ maxLen :=
        ⟨fun i => if h : i < len then (each i h).choose else Classical.choice this, fun i hi => by simp only [dif_pos hi]; exact (each i hi).choose_spec⟩
      have hlen : ((List.range len).map f).length = len := by simp
      have hsp : a.spot = none := by
        obtain ⟨_, _, hc⟩ := World.cells?_some (hf' 0 (by omega)).1
        have h1 := hc 0 (by omega)
        rw [Nat.zero_mul, Addr.add, if_pos rfl, Addr.add, if_pos rfl] at h1
        exact spot_none (h1.trans (rfl : (gc (f 0))[0]? = some _))
      obtain ⟨b, off, sp⟩ := a
      simp at hsp
      subst hsp
      refine ⟨some ⟨b, off, none⟩, cap, (List.range len).map f, by rw [hlen], ?_, by rw [hlen]; omega, ?_⟩
      · intro i row hrow
        have hi : i < len := by
          have := (List.getElem?_eq_some_iff.1 hrow).1
          simpa [gcs] using this
        have hr : row = gc (f i) := by
          simp [gcs, hi] at hrow
          exact hrow.symm
        subst hr
        have h1 := (hf' i hi).1
        rw [add_at] at h1
        have h2 := range_of_cells h1
        exact ⟨b, off, rfl, h2, World.block_lt_of_cell? w _ (h2 0 _ rfl)⟩
      · intro g hg
        simp at hg
        obtain ⟨i, hi, rfl⟩ := hg
        exact (hf' i hi).2
end
end Go.Proofs.YtlonnkmfjijddaaGreatDoor
