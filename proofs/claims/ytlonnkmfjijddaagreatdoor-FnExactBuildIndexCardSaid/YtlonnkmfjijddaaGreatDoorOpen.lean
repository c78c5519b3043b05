/- Arguments opened: what a value of a given type is, out of its reading. -/
import Derived.Test.YtlonnkmfjijddaaGreatDoorRows
import Derived.Test.YtlonnkmfjijddaaGreatDoorMem2
import Derived.Lib.SmallJoins
namespace Go.Proofs.YtlonnkmfjijddaaGreatDoor
open Go.ChangeShapes Go.WideShapes Go.ChangeAt Go.RowKit Go.Joins Go.Deep
set_option linter.unusedVariables false
set_option maxRecDepth 100000
section
variable {H : Type} {enc : TypeId × Value → H} {w : World} {base : Nat} {spare : Nat → Bool} {held : Bool} {r : Reach} {b0 : Nat} {v : Value} {d : DataW H} {p : List MemPlace}
theorem cells_Field : Tryz.prog.cellsOf 66 = 4 := by kernel_rfl
theorem openField (hv : Value.okWide Tryz.prog w r b0 66 v) (h : DataW.Trod enc Tryz.prog w base spare held 66 v d p) :
    ∃ a b c e : Int, v = .agg #[.int .i64 a, .int .i64 b, .int .i64 c, .int .i64 e] ∧ (Lit.int .i64 a).wf = true ∧ (Lit.int .i64 b).wf = true ∧ (Lit.int .i64 c).wf = true ∧ (Lit.int .i64 e).wf = true := by
  obtain ⟨c0, c1, c2, c3, y0, y1, y2, y3, m, rfl, -, -, h0, h1, h2, h3⟩ := open_agg4 Tryz.underlying66 (by kernel_rfl) cells_Field hv h
  obtain ⟨a, e0, -, wa⟩ := DataW.trod_int Tryz.underlying3 h0
  obtain ⟨b, e1, -, wb⟩ := DataW.trod_int Tryz.underlying3 h1
  obtain ⟨c, e2, -, wc⟩ := DataW.trod_int Tryz.underlying3 h2
  obtain ⟨e, e3, -, we⟩ := DataW.trod_int Tryz.underlying3 h3
  simp at e0 e1 e2 e3
  subst e0 e1 e2 e3
  exact ⟨a, b, c, e, rfl, wa, wb, wc, we⟩
theorem open_agg1 {P : Program} {t : TypeId} {f0 : Field} (hs : P.underlying t = some (.struct #[f0])) (hone : oneCellFields P #[f0] = true) (hC : P.cellsOf t = 1)
    (hv : Value.okWide P w r b0 t v) (h : DataW.Trod enc P w base spare held t v d p) :
    ∃ (v0 : Value) (y0 : DataW H × List MemPlace) (n : Nat), v = .agg #[v0] ∧ DataW.trod enc P w base spare held n f0.type [v0] = some y0 := by
  obtain ⟨cs, rfl, hsz⟩ := okWide_struct hs hv
  obtain ⟨l⟩ := cs
  match l, hsz.trans hC with
  | [c0], _ =>
    obtain ⟨fuel, hf⟩ := h
    obtain ⟨xs, n, _, hx, _, hlen, hg⟩ := DataW.trod_struct hs hf
    obtain ⟨o0, k0⟩ := hone_of hone 0 f0 rfl
    match xs, hlen with
    | [y0], _ => exact ⟨c0, y0, n, rfl, by simpa [Value.cells, o0, k0] using hg 0 f0 rfl⟩
theorem trodInts {P : Program} {t e : TypeId} {n : Nat} {x : DataW H × List MemPlace} (ht : P.underlying t = some (.slice e)) (he : P.underlying e = some (.int .i64)) (hc : P.cellsOf e = 1)
    (h : DataW.trod enc P w base spare held n t [v] = some x) : ∃ A c zs, v = .slice A zs.length c ∧ RdI w A zs ∧ zs.length ≤ maxLen ∧ ∀ z ∈ zs, (Lit.int .i64 z).wf = true := by
  rcases open_ints ht he hc h with ⟨hcs, -⟩ | ⟨a, len, cap, zs, hcs, -, hl, hm, hz, -, hcell, hw⟩
  · simp at hcs
    subst hcs
    exact ⟨none, 0, [], rfl, RdI.nil _ _, by simp [maxLen], by simp⟩
  · simp at hcs
    subst hcs
    have hge : len ≤ zs.length := by rw [hz]; split <;> omega
    have hlen : (zs.take len).length = len := by rw [List.length_take]; omega
    refine ⟨some a, cap, zs.take len, by rw [hlen], ?_, by omega, fun z hz => hw z (List.mem_of_mem_take hz)⟩
    by_cases h0 : len = 0
    · subst h0
      exact .inl (by simp [iv])
    · have hs : a.spot = none := by
        have h1 := hcell 0 (by omega)
        rw [Addr.add, if_pos rfl] at h1
        simp only [World.cell?] at h1
        split at h1
        · split at h1
          · cases h1
          · next hh => simpa using hh
        · cases h1
      obtain ⟨b, off, sp⟩ := a
      simp at hs
      subst hs
      refine .inr ⟨b, off, rfl, fun i hi => ?_⟩
      have hi' : i < len := by rw [iv_len, hlen] at hi; exact hi
      have h1 := hcell i (by omega)
      have e1 : (Addr.add ⟨b, off, none⟩ i : Addr) = ⟨b, off + i, none⟩ := by
        unfold Addr.add
        split
        · next h => subst h; rfl
        · rfl
      rw [e1] at h1
      rw [h1, iv_get]
      simp only [List.getElem_take]
      rw [List.getD_eq_getElem?_getD, List.getElem?_eq_getElem (by omega)]
      rfl
/-- A struct whose cells are integers, all of them. -/
theorem openFlat {P : Program} {t e : TypeId} {fs : Array Field} {k : Nat} (ht : P.underlying t = some (.struct fs)) (hC : P.cellsOf t = k) (hk : 0 < k) (hct : P.cellTypes P.depth t = some (List.replicate k e)) (he : P.underlying e = some (.int .i64))
    (hv : Value.okWide P w r b0 t v) : ∃ zs : List Int, v = .agg (ints zs) ∧ zs.length = k ∧ ∀ z ∈ zs, (Lit.int .i64 z).wf = true := by
  simp only [Value.okWide, ht] at hv
  obtain ⟨cs, rfl, hsz, ts, hts, -, hcell⟩ := hv
  rw [hct] at hts
  injection hts with hts
  subst hts
  rw [hC] at hsz
  have each : ∀ i, i < k → ∃ z, cs[i]? = some (.int .i64 z) ∧ (Lit.int .i64 z).wf = true := by
    intro i hi
    have hh : cs[i]? = some (cs[i]'(by omega)) := Array.getElem?_eq_getElem _
    obtain ⟨u, hu, hok⟩ := hcell i _ hh
    rw [List.length_replicate, Nat.mod_eq_of_lt hi, List.getElem?_replicate, if_pos hi] at hu
    injection hu with hu
    subst hu
    rw [hh]
    generalize cs[i]'(by omega) = y at hok
    cases y <;> simp [Cell.okWide, Cell.ok, he] at hok
    obtain ⟨rfl, h2⟩ := hok
    exact ⟨_, rfl, by simpa [Lit.wf, IntKind.has] using h2⟩
  let f : Nat → Int := fun i => if h : i < k then (each i h).choose else 0
  have hf : ∀ i, i < k → cs[i]? = some (.int .i64 (f i)) ∧ (Lit.int .i64 (f i)).wf = true := by
    intro i hi
    have := (each i hi).choose_spec
    simp only [f, dif_pos hi]
    exact this
  refine ⟨(List.range k).map f, ?_, by simp, ?_⟩
  · congr 1
    apply Array.ext_getElem?
    intro i
    rw [get_ints]
    by_cases hi : i < k
    · rw [(hf i hi).1]
      simp [hi]
    · rw [Array.getElem?_eq_none (by omega), List.getElem?_eq_none (by simp; omega)]
      rfl
  · intro z hz
    simp at hz
    obtain ⟨i, hi, rfl⟩ := hz
    exact (hf i hi).2
end
end Go.Proofs.YtlonnkmfjijddaaGreatDoor
