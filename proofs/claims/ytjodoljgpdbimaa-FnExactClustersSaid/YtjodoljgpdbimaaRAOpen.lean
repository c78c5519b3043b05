/- An argument that is a slice of arms, opened. -/
import Derived.Test.YtjodoljgpdbimaaAOpen
import Derived.Test.YtjodoljgpdbimaaGOpen
import Derived.Test.YtjodoljgpdbimaaRArms
namespace Go.Proofs.Ytjodoljgpdbimaa
open Go.ChangeShapes Go.WideShapes Go.ChangeAt Go.RowKit Go.Joins Go.Deep
set_option linter.unusedVariables false
set_option maxRecDepth 100000
section
variable {H : Type} {enc : TypeId × Value → H} {w : World} {base : Nat} {spare : Nat → Bool} {held : Bool} {r : Reach} {b0 : Nat} {v : Value} {d : DataW H} {p : List MemPlace}
/-- A field of a struct, by its number: its own reading. -/
theorem leafS {P : Program} {t e : TypeId} {fs : Array Field} {fuel K o : Nat} {cs : List Value} {x : DataW H × List MemPlace} (ht : P.underlying t = some (.struct fs)) (h : DataW.trod enc P w base spare held fuel t cs = some x)
    (i : Nat) (hf : (fs[i]?).map (fun f => (f.type, f.offset)) = some (e, o)) (hc : P.cellsOf e = K) : ∃ n y, DataW.trod enc P w base spare held n e ((cs.drop o).take K) = some y := by
  obtain ⟨xs, n, -, -, -, hlen, hg⟩ := DataW.trod_struct ht h
  cases hq : fs[i]? with
  | none => rw [hq] at hf; cases hf
  | some f =>
    rw [hq] at hf
    simp only [Option.map_some, Option.some.injEq, Prod.mk.injEq] at hf
    obtain ⟨rfl, rfl⟩ := hf
    have h1 := hg i f hq
    have hi : i < xs.length := by rw [hlen]; exact (Array.getElem?_eq_some_iff.1 hq).1
    rw [List.getElem?_eq_getElem hi, hc] at h1
    exact ⟨n, _, h1⟩
theorem leafI {P : Program} {t e : TypeId} {fs : Array Field} {fuel o : Nat} {cs : List Value} {x : DataW H × List MemPlace} (ht : P.underlying t = some (.struct fs)) (h : DataW.trod enc P w base spare held fuel t cs = some x)
    (i : Nat) (hf : (fs[i]?).map (fun f => (f.type, f.offset)) = some (e, o)) (hc : P.cellsOf e = 1) (he : P.underlying e = some (.int .i64)) : ∃ z, (cs.drop o).take 1 = [.int .i64 z] := by
  obtain ⟨n, y, h1⟩ := leafS ht h i hf hc
  obtain ⟨z, e1, -⟩ := DataW.trod_int he h1
  exact ⟨z, e1⟩
theorem four {cs : List Value} {P : Program} {t e : TypeId} {fs : Array Field} {fuel : Nat} {x : DataW H × List MemPlace} (ht : P.underlying t = some (.struct fs)) (h : DataW.trod enc P w base spare held fuel t cs = some x)
    (h0 : (fs[0]?).map (fun f => (f.type, f.offset)) = some (e, 0)) (h1 : (fs[1]?).map (fun f => (f.type, f.offset)) = some (e, 1)) (h2 : (fs[2]?).map (fun f => (f.type, f.offset)) = some (e, 2)) (h3 : (fs[3]?).map (fun f => (f.type, f.offset)) = some (e, 3))
    (hc : P.cellsOf e = 1) (he : P.underlying e = some (.int .i64)) (hl : cs.length = 4) : ∃ a b c d : Int, cs = [.int .i64 a, .int .i64 b, .int .i64 c, .int .i64 d] := by
  obtain ⟨a, ea⟩ := leafI ht h 0 h0 hc he
  obtain ⟨b, eb⟩ := leafI ht h 1 h1 hc he
  obtain ⟨c, ec⟩ := leafI ht h 2 h2 hc he
  obtain ⟨d, ed⟩ := leafI ht h 3 h3 hc he
  match cs, hl with
  | [x0, x1, x2, x3], _ =>
    simp at ea eb ec ed
    subst ea eb ec ed
    exact ⟨a, b, c, d, rfl⟩
theorem cellsArms : Try.prog.cellsOf 27 = 15 := by kernel_rfl
theorem flatArms {fuel : Nat} {cs : List Value} {x : DataW H × List MemPlace} (h : DataW.trod enc Try.prog w base spare held fuel 27 cs = some x) : ∃ a : ArmsD, cs = ac a := by
  have ht := Try.underlying27
  have hl : cs.length = 15 := by
    obtain ⟨xs, n, -, -, hl, -, -⟩ := DataW.trod_struct ht h
    rw [hl]
    exact cellsArms
  have ci : Try.prog.cellsOf 3 = 1 := by kernel_rfl
  have ui := Try.underlying3
  obtain ⟨n0, y0, hF⟩ := leafS ht h 0 (by kernel_rfl : _ = some (23, 0)) (by kernel_rfl : _ = 4)
  obtain ⟨z4, e4⟩ := leafI ht h 1 (by kernel_rfl : _ = some (3, 4)) ci ui
  obtain ⟨z5, e5⟩ := leafI ht h 2 (by kernel_rfl : _ = some (3, 5)) ci ui
  obtain ⟨z6, e6⟩ := leafI ht h 3 (by kernel_rfl : _ = some (3, 6)) ci ui
  obtain ⟨n1, y1, hG⟩ := leafS ht h 4 (by kernel_rfl : _ = some (25, 7)) (by kernel_rfl : _ = 4)
  obtain ⟨n2, y2, hG2⟩ := leafS ht h 5 (by kernel_rfl : _ = some (25, 11)) (by kernel_rfl : _ = 4)
  match cs, hl with
  | [x0, x1, x2, x3, x4, x5, x6, x7, x8, x9, x10, x11, x12, x13, x14], _ =>
    obtain ⟨a, b, c, d, e0⟩ := four Try.underlying23 hF (by kernel_rfl : _ = some (3, 0)) (by kernel_rfl : _ = some (3, 1)) (by kernel_rfl : _ = some (3, 2)) (by kernel_rfl : _ = some (3, 3)) ci ui rfl
    obtain ⟨a1, b1, c1, d1, e1⟩ := four Try.underlying25 hG (by kernel_rfl : _ = some (3, 0)) (by kernel_rfl : _ = some (3, 1)) (by kernel_rfl : _ = some (3, 2)) (by kernel_rfl : _ = some (3, 3)) ci ui rfl
    obtain ⟨a2, b2, c2, d2, e2⟩ := four Try.underlying25 hG2 (by kernel_rfl : _ = some (3, 0)) (by kernel_rfl : _ = some (3, 1)) (by kernel_rfl : _ = some (3, 2)) (by kernel_rfl : _ = some (3, 3)) ci ui rfl
    simp at e0 e1 e2 e4 e5 e6
    obtain ⟨rfl, rfl, rfl, rfl⟩ := e0
    obtain ⟨rfl, rfl, rfl, rfl⟩ := e1
    obtain ⟨rfl, rfl, rfl, rfl⟩ := e2
    subst e4 e5 e6
    exact ⟨⟨a, b, c, d, z4, z5, z6, a1, b1, c1, d1, a2, b2, c2, d2⟩, rfl⟩
theorem range_of_cells {b o K : Nat} {cs : List Value} (h : w.cells? base ⟨b, o, none⟩ K = some cs) : w.rangeAt b o cs := fun j v hv => by
  obtain ⟨_, hl, hc⟩ := World.cells?_some h
  have hj : j < K := by rw [← hl]; exact (List.getElem?_eq_some_iff.1 hv).1
  rw [← add_at, hc j hj, hv]
theorem openArmsS (hv : Value.okWide Try.prog w r b0 37 v) (h : DataW.Trod enc Try.prog w base spare held 37 v d p) :
    ∃ (A : Option Addr) (c : Nat) (rows : List ArmsD), v = .slice A rows.length c ∧ RdR 15 w A (acs rows) ∧ rows.length ≤ maxLen := by
  obtain ⟨fuel, hf⟩ := h
  obtain ⟨A0, n0, c0, rfl⟩ := okWide_slice Try.underlying37 hv
  rcases open_slice Try.underlying37 hf with ⟨hcs, -⟩ | ⟨a, len, cap, m, n, D, Pl, hcs, -, hl, hm, hmm, -, hx⟩
  · simp [Value.cells] at hcs
    obtain ⟨rfl, rfl, rfl⟩ := hcs
    exact ⟨none, 0, [], rfl, RdR.nil _ _ _, by simp [maxLen]⟩
  · simp [Value.cells] at hcs
    obtain ⟨rfl, rfl, rfl⟩ := hcs
    have hge : n0 ≤ m := by rw [hmm]; split <;> omega
    rw [cellsArms] at hx
    have each : ∀ i, i < n0 → ∃ y : ArmsD, w.cells? base (a.add (i * 15)) 15 = some (ac y) := by
      intro i hi
      obtain ⟨cs', h1, h2⟩ := hx i (by omega)
      obtain ⟨y, rfl⟩ := flatArms h2
      exact ⟨y, h1⟩
    by_cases h0 : n0 = 0
    · subst h0
      exact ⟨some a, c0, [], rfl, RdR.nil _ _ _, by simp [maxLen]⟩
    · have : Nonempty ArmsD := ⟨(each 0 (by omega)).choose⟩
      obtain ⟨f, hf'⟩ : ∃ f : Nat → ArmsD, ∀ i, i < n0 → w.cells? base (a.add (i * 15)) 15 = some (ac (f i)) :=
        ⟨fun i => if h : i < n0 then (each i h).choose else Classical.choice this, fun i hi => by simp only [dif_pos hi]; exact (each i hi).choose_spec⟩
      have hlen : ((List.range n0).map f).length = n0 := by simp
      have hsp : a.spot = none := by
        obtain ⟨_, _, hc⟩ := World.cells?_some (hf' 0 (by omega))
        have h1 := hc 0 (by omega)
        rw [Nat.zero_mul, Addr.add, if_pos rfl, Addr.add, if_pos rfl] at h1
        exact spot_none (h1.trans (rfl : (ac (f 0))[0]? = some _))
      obtain ⟨b, off, sp⟩ := a
      simp at hsp
      subst hsp
      refine ⟨some ⟨b, off, none⟩, c0, (List.range n0).map f, by rw [hlen], ?_, by rw [hlen]; omega⟩
      intro i row hrow
      have hi : i < n0 := by
        have := (List.getElem?_eq_some_iff.1 hrow).1
        simpa [acs] using this
      have hr : row = ac (f i) := by
        simp [acs, hi] at hrow
        exact hrow.symm
      subst hr
      have h1 := hf' i hi
      rw [add_at] at h1
      have h2 := range_of_cells h1
      exact ⟨b, off, rfl, h2, World.block_lt_of_cell? w _ (h2 0 _ rfl)⟩
end
end Go.Proofs.Ytjodoljgpdbimaa
