/- An argument that is arms, opened. -/
import Derived.Test.YtlonnkmfjijddaaGreatDoorOpen
import Derived.Test.YtlonnkmfjijddaaGreatDoorArms
namespace Go.Proofs.YtlonnkmfjijddaaGreatDoor
open Go.ChangeShapes Go.WideShapes Go.ChangeAt Go.RowKit Go.Joins Go.Deep
set_option linter.unusedVariables false
set_option maxRecDepth 100000
section
variable {H : Type} {enc : TypeId × Value → H} {w : World} {base : Nat} {spare : Nat → Bool} {held : Bool} {r : Reach} {b0 : Nat} {v : Value} {d : DataW H} {p : List MemPlace}
theorem openArms (hv : Value.okWide Tryz.prog w r b0 69 v) (_h : DataW.Trod enc Tryz.prog w base spare held 69 v d p) :
    ∃ a : ArmsD, v = .agg #[.int .i64 a.d, .int .i64 a.l, .int .i64 a.p, .int .i64 a.q, .int .i64 a.o, .int .i64 a.li, .int .i64 a.t, .int .i64 a.c1, .int .i64 a.k1, .int .i64 a.a1, .int .i64 a.t1, .int .i64 a.c2, .int .i64 a.k2, .int .i64 a.a2, .int .i64 a.t2] ∧ ∀ z ∈ [a.d, a.l, a.p, a.q, a.o, a.li, a.t, a.c1, a.k1, a.a1, a.t1, a.c2, a.k2, a.a2, a.t2], (Lit.int .i64 z).wf = true := by
  obtain ⟨zs, rfl, hl, hw⟩ := openFlat Tryz.underlying69 (by kernel_rfl : Tryz.prog.cellsOf 69 = 15) (by decide) (by kernel_rfl) Tryz.underlying3 hv
  match zs, hl, hw with
  | [x0, x1, x2, x3, x4, x5, x6, x7, x8, x9, x10, x11, x12, x13, x14], _, hw => exact ⟨⟨x0, x1, x2, x3, x4, x5, x6, x7, x8, x9, x10, x11, x12, x13, x14⟩, rfl, hw⟩
end
end Go.Proofs.YtlonnkmfjijddaaGreatDoor
