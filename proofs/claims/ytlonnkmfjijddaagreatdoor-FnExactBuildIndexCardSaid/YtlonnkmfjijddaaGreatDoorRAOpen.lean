/- An argument that is a slice of arms, opened. -/
import Derived.Test.YtlonnkmfjijddaaGreatDoorAOpen
import Derived.Test.YtlonnkmfjijddaaGreatDoorGOpen
import Derived.Test.YtlonnkmfjijddaaGreatDoorRArms
namespace Go.Proofs.YtlonnkmfjijddaaGreatDoor
open Go.ChangeShapes Go.WideShapes Go.ChangeAt Go.RowKit Go.Joins Go.Deep
set_option linter.unusedVariables false
set_option maxRecDepth 100000
section
variable {H : Type} {enc : TypeId × Value → H} {w : World} {base : Nat} {spare : Nat → Bool} {held : Bool} {r : Reach} {b0 : Nat} {v : Value} {d : DataW H} {p : List MemPlace}
/-- A field of a struct, by its number: its own reading. -/
theorem leafS {P : Program} {t e : TypeId} {fs : Array Field} {fuel K o : Nat} {cs : List Value} {x : DataW H × List MemPlace} (ht : P.underlying t = some (.struct fs)) (h : DataW.trod enc P w base spare held fuel t cs = some x)
    (i : Nat) (hf : (fs[i]?).map (fun f => (f.type, f.offset)) = some (e, o)) (hc : P.cellsOf e = K) : ∃ n y, DataW.trod enc P w base spare held n e ((cs.drop o).take K) = some y := by
  obtain ⟨xs, n, -, -, -, hlen, hg⟩ := DataW.trod_struct ht h
  cases hq : fs[i]? with
  | none => rw [hq] at hf; cases hf
  | some f =>
    rw [hq] at hf
    simp only [Option.map_some, Option.some.injEq, Prod.mk.injEq] at hf
    obtain ⟨rfl, rfl⟩ := hf
    have h1 := hg i f hq
    have hi : i < xs.length := by rw [hlen]; exact (Array.getElem?_eq_some_iff.1 hq).1
    rw [List.getElem?_eq_getElem hi, hc] at h1
    exact ⟨n, _, h1⟩
theorem leafI {P : Program} {t e : TypeId} {fs : Array Field} {fuel o : Nat} {cs : List Value} {x : DataW H × List MemPlace} (ht : P.underlying t = some (.struct fs)) (h : DataW.trod enc P w base spare held fuel t cs = some x)
    (i : Nat) (hf : (fs[i]?).map (fun f => (f.type, f.offset)) = some (e, o)) (hc : P.cellsOf e = 1) (he : P.underlying e = some (.int .i64)) : ∃ z, (cs.drop o).take 1 = [.int .i64 z] := by
  obtain ⟨n, y, h1⟩ := leafS ht h i hf hc
  obtain ⟨z, e1, -⟩ := DataW.trod_int he h1
  exact ⟨z, e1⟩
theorem four {cs : List Value} {P : Program} {t e : TypeId} {fs : Array Field} {fuel : Nat} {x : DataW H × List MemPlace} (ht : P.underlying t = some (.struct fs)) (h : DataW.trod enc P w base spare held fuel t cs = some x)
    (h0 : (fs[0]?).map (fun f => (f.type, f.offset)) = some (e, 0)) (h1 : (fs[1]?).map (fun f => (f.type, f.offset)) = some (e, 1)) (h2 : (fs[2]?).map (fun f => (f.type, f.offset)) = some (e, 2)) (h3 : (fs[3]?).map (fun f => (f.type, f.offset)) = some (e, 3))
    (hc : P.cellsOf e = 1) (he : P.underlying e = some (.int .i64)) (hl : cs.length = 4) : ∃ a b c d : Int, cs = [.int .i64 a, .int .i64 b, .int .i64 c, .int .i64 d] := by
  obtain ⟨a, ea⟩ := leafI ht h 0 h0 hc he
  obtain ⟨b, eb⟩ := leafI ht h 1 h1 hc he
  obtain ⟨c, ec⟩ := leafI ht h 2 h2 hc he
  obtain ⟨d, ed⟩ := leafI ht h 3 h3 hc he
  match cs, hl with
  | [x0, x1, x2, x3], _ =>
    simp at ea eb ec ed
    subst ea eb ec ed
    exact ⟨a, b, c, d, rfl⟩
theorem cellsArms : Tryz.prog.cellsOf 69 = 15 := by kernel_rfl
theorem flatArms {fuel : Nat} {cs : List Value} {x : DataW H × List MemPlace} (h : DataW.trod enc Tryz.prog w base spare held fuel 69 cs = some x) : ∃ a : ArmsD, cs = ac a := by
  have ht := Tryz.underlying69
  have hl : cs.length = 15 := by
    obtain ⟨xs, n, -, -, hl, -, -⟩ := DataW.trod_struct ht h
    rw [hl]
    exact cellsArms
  have ci : Tryz.prog.cellsOf 3 = 1 := by kernel_rfl
  have ui := Tryz.underlying3
  obtain ⟨n0, y0, hF⟩ := leafS ht h 0 (by kernel_rfl : _ = some (66, 0)) (by kernel_rfl : _ = 4)
  obtain ⟨z4, e4⟩ := leafI ht h 1 (by kernel_rfl : _ = some (3, 4)) ci ui
  obtain ⟨z5, e5⟩ := leafI ht h 2 (by kernel_rfl : _ = some (3, 5)) ci ui
  obtain ⟨z6, e6⟩ := leafI ht h 3 (by kernel_rfl : _ = some (3, 6)) ci ui
  obtain ⟨n1, y1, hG⟩ := leafS ht h 4 (by kernel_rfl : _ = some (67, 7)) (by kernel_rfl : _ = 4)
  obtain ⟨n2, y2, hG2⟩ := leafS ht h 5 (by kernel_rfl : _ = some (67, 11)) (by kernel_rfl : _ = 4)
  match cs, hl with
  | [x0, x1, x2, x3, x4, x5, x6, x7, x8, x9, x10, x11, x12, x13, x14], _ =>
    obtain ⟨a, b, c, d, e0⟩ := four Tryz.underlying66 hF (by kernel_rfl : _ = some (3, 0)) (by kernel_rfl : _ = some (3, 1)) (by kernel_rfl : _ = some (3, 2)) (by kernel_rfl : _ = some (3, 3)) ci ui rfl
    obtain ⟨a1, b1, c1, d1, e1⟩ := four Tryz.underlying67 hG (by kernel_rfl : _ = some (3, 0)) (by kernel_rfl : _ = some (3, 1)) (by kernel_rfl : _ = some (3, 2)) (by kernel_rfl : _ = some (3, 3)) ci ui rfl
    obtain ⟨a2, b2, c2, d2, e2⟩ := four Tryz.underlying67 hG2 (by kernel_rfl : _ = some (3, 0)) (by kernel_rfl : _ = some (3, 1)) (by kernel_rfl : _ = some (3, 2)) (by kernel_rfl : _ = some (3, 3)) ci ui rfl
    simp at e0 e1 e2 e4 e5 e6
    obtain ⟨rfl, rfl, rfl, rfl⟩ := e0
    obtain ⟨rfl, rfl, rfl, rfl⟩ := e1
    obtain ⟨rfl, rfl, rfl, rfl⟩ := e2
    subst e4 e5 e6
    exact ⟨⟨a, b, c, d, z4, z5, z6, a1, b1, c1, d1, a2, b2, c2, d2⟩, rfl⟩
theorem range_of_cells {b o K : Nat} {cs : List Value} (h : w.cells? base ⟨b, o, none⟩ K = some cs) : w.rangeAt b o cs := fun j v hv => by
  obtain ⟨_, hl, hc⟩ := World.cells?_some h
  have hj : j < K := by rw [← hl]; exact (List.getElem?_eq_some_iff.1 hv).1
  rw [← add_at, hc j hj, hv]
end
end Go.Proofs.YtlonnkmfjijddaaGreatDoor
