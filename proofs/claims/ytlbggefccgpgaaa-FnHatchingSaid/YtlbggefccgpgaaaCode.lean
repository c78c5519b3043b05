/- An argument that is a slice of bytes, opened. -/
import Derived.Test.YtlbggefccgpgaaaCur3
import Derived.Lib.SmallJoins
import Derived.Test.YtlbggefccgpgaaaRows
namespace Go.Proofs.Ytlbggefccgpgaaa
open Go.ChangeShapes Go.WideShapes Go.ChangeAt Go.RowKit Go.Joins Go.Deep
set_option linter.unusedVariables false
set_option linter.unusedSimpArgs false
set_option maxRecDepth 100000
section
variable {H : Type} {enc : TypeId × Value → H} {w : World} {base : Nat} {spare : Nat → Bool} {held : Bool} {r : Reach} {b0 : Nat} {v : Value} {d : DataW H} {p : List MemPlace}
theorem openCode (hv : Value.okWide Try.prog w r b0 22 v) (h : DataW.Trod enc Try.prog w base spare held 22 v d p) :
    ∃ A n c, v = .slice A n c ∧ RdU w A n := by
  obtain ⟨fuel, h⟩ := h
  have hv1 : ∃ A n c, v = .slice A n c := by
    simp only [Value.okWide, Try.underlying22] at hv
    cases v <;> simp_all [Cell.okWide, Cell.ok]
  obtain ⟨A, n, c, rfl⟩ := hv1
  refine ⟨A, n, c, rfl, ?_⟩
  rcases open_ints Try.underlying22 (by kernel_rfl : Try.prog.underlying 5 = some (.int .u8)) (by kernel_rfl) h with ⟨hcs, -⟩ | ⟨a, len, cap, zs, hcs, -, hl, hm, hz, -, hcell, hw⟩
  · simp [Value.cells] at hcs
    obtain ⟨rfl, rfl, rfl⟩ := hcs
    exact .inl rfl
  · simp [Value.cells] at hcs
    obtain ⟨rfl, rfl, rfl⟩ := hcs
    have hge : n ≤ zs.length := by rw [hz]; split <;> omega
    by_cases h0 : n = 0
    · exact .inl h0
    · have hs : a.spot = none := by
        have h1 := hcell 0 (by omega)
        rw [Addr.add, if_pos rfl] at h1
        simp only [World.cell?] at h1
        split at h1
        · split at h1
          · cases h1
          · next hh => simpa using hh
        · cases h1
      obtain ⟨b, off, sp⟩ := a
      simp at hs
      subst hs
      refine .inr ⟨b, off, rfl, fun i hi => ?_⟩
      have h1 := hcell i (by omega)
      have e1 : (Addr.add ⟨b, off, none⟩ i : Addr) = ⟨b, off + i, none⟩ := by
        unfold Addr.add
        split
        · next h => subst h; rfl
        · rfl
      rw [e1] at h1
      have h2 := hw (zs.getD i 0) (by rw [List.getD_eq_getElem?_getD, List.getElem?_eq_getElem (by omega)]; exact List.getElem_mem _)
      refine ⟨_, h1, ?_⟩
      clear hcell hw
      generalize zs.getD i 0 = z at *
      simp [Lit.wf, IntKind.has, IntKind.min, IntKind.max, IntKind.bits, IntKind.signed] at h2
      omega
end
end Go.Proofs.Ytlbggefccgpgaaa
