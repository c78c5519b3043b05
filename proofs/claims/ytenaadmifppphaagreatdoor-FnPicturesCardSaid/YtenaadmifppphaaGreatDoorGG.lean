/- Slices of slices of numbers that are made by append: the outer row, the inner rows, no two in one block. -/
import Derived.Test.YtenaadmifppphaaGreatDoorGrids
import Derived.Test.YtenaadmifppphaaGreatDoorApp
import Derived.Maps.AppendAt
namespace Go.Proofs.YtenaadmifppphaaGreatDoor
open Go.ChangeShapes Go.WideShapes Go.ChangeAt Go.RowKit
set_option linter.unusedVariables false
structure GG (w : World) (B : Nat) (v : Value) (rows : List (List Int)) (vs : List Value) : Prop where
  out : w.ownsRow B 36 1 v rows.length vs
  own : ∀ (i : Nat) (u : Value) (row : List Int), vs[i]? = some u → rows[i]? = some row → OwnI w B 3 u row
  apart : ∀ (i j : Nat) (u u' : Value), i < j → vs[i]? = some u → vs[j]? = some u' → u.ownBlock = none ∨ u.ownBlock ≠ u'.ownBlock
  sep : ∀ (i : Nat) (u : Value), vs[i]? = some u → u.ownBlock = none ∨ u.ownBlock ≠ v.ownBlock
theorem GG.len {w : World} {B : Nat} {v : Value} {rows : List (List Int)} {vs : List Value} (h : GG w B v rows vs) : vs.length = rows.length := by simpa using h.out.1
theorem GG.below {w w' : World} {B : Nat} {v : Value} {rows : List (List Int)} {vs : List Value} (h : GG w B v rows vs) (hb : Below w.heap.size w w') : GG w' B v rows vs :=
  ⟨ownsRow_below h.out hb, fun i u row h1 h2 => (h.own i u row h1 h2).below hb, h.apart, h.sep⟩
theorem GG.base {w : World} {B B' : Nat} {v : Value} {rows : List (List Int)} {vs : List Value} (h : GG w B v rows vs) (hB : B' ≤ B) : GG w B' v rows vs :=
  ⟨ownsRow_base h.out hB, fun i u row h1 h2 => OwnI.base (h.own i u row h1 h2) hB, h.apart, h.sep⟩
/-- It reads as its rows. -/
theorem GG.rd {w : World} {B : Nat} {v : Value} {rows : List (List Int)} {vs : List Value} (h : GG w B v rows vs) : ∃ A c, v = .slice A rows.length c ∧ RdG w A rows := by
  obtain ⟨A, c, hv, hr, -⟩ := ownsRow_form h.out
  refine ⟨A, c, hv, vs, h.len, hr, fun i u row h1 h2 => ?_⟩
  obtain ⟨A', c', e, hr'⟩ := (h.own i u row h1 h2).form
  exact ⟨A', c', e, hr'⟩
/-- Behind an append of one row. -/
theorem GG.snoc {w w' : World} {B : Nat} {v v' u : Value} {rows : List (List Int)} {vs : List Value} {row : List Int} (h : GG w B v rows vs) (hu : OwnI w B 3 u row)
    (ha : ∀ (i : Nat) (u' : Value), vs[i]? = some u' → u'.ownBlock = none ∨ u'.ownBlock ≠ u.ownBlock) (huv : u.ownBlock = none ∨ u.ownBlock ≠ v.ownBlock)
    (ho : w'.ownsRow B 36 1 v' (rows.length + 1) (vs ++ [u])) (hg : w.grownBy w' v.ownBlock) (hat : v'.ownBlock = v.ownBlock ∨ v'.ownBlock = some w.heap.size) : GG w' B v' (rows ++ [row]) (vs ++ [u]) := by
  have sep' : ∀ (x : Value) (r : List Int), OwnI w B 3 x r → (x.ownBlock = none ∨ x.ownBlock ≠ v.ownBlock) → x.ownBlock = none ∨ x.ownBlock ≠ v'.ownBlock := by
    intro x r hx hs
    rcases hs with hs | hs
    · exact .inl hs
    · rcases hat with e | e
      · rw [e]; exact .inr hs
      · cases hb : x.ownBlock with
        | none => exact .inl rfl
        | some b =>
          refine .inr fun e2 => ?_
          rw [e] at e2
          injection e2 with e2
          have := (hx.lt b hb).2
          omega
  have at' : ∀ (i : Nat) (x : Value), (vs ++ [u])[i]? = some x → (i < vs.length ∧ vs[i]? = some x) ∨ (i = vs.length ∧ x = u) := by
    intro i x hx
    by_cases hi : i < vs.length
    · rw [List.getElem?_append_left hi] at hx
      exact .inl ⟨hi, hx⟩
    · have hl := (List.getElem?_eq_some_iff.1 hx).1
      simp at hl
      obtain rfl : i = vs.length := by omega
      rw [List.getElem?_append_right (Nat.le_refl _), Nat.sub_self] at hx
      simp at hx
      exact .inr ⟨rfl, hx.symm⟩
  have hl := h.len
  refine ⟨by rw [List.length_append]; exact ho, fun i x r h1 h2 => ?_, fun i j x y hij h1 h2 => ?_, fun i x h1 => ?_⟩
  · rcases at' i x h1 with ⟨hi, hx⟩ | ⟨rfl, rfl⟩
    · rw [List.getElem?_append_left (by omega)] at h2
      exact (h.own i x r hx h2).other hg (h.sep i x hx)
    · rw [hl, List.getElem?_append_right (Nat.le_refl _), Nat.sub_self] at h2
      simp at h2
      subst h2
      exact hu.other hg huv
  · rcases at' i x h1 with ⟨hi, hx⟩ | ⟨rfl, rfl⟩
    · rcases at' j y h2 with ⟨hj, hy⟩ | ⟨rfl, rfl⟩
      · exact h.apart i j x y hij hx hy
      · exact ha i x hx
    · rcases at' j y h2 with ⟨hj, hy⟩ | ⟨e, -⟩
      · omega
      · omega
  · rcases at' i x h1 with ⟨hi, hx⟩ | ⟨rfl, rfl⟩
    · exact sep' x _ (h.own i x _ hx (List.getElem?_eq_getElem (by omega))) (h.sep i x hx)
    · exact sep' _ _ hu huv
section
variable {w : World} {ops : Array Oper} {rest : List Oper} {o : Oper} {a : Act} {Q : Exit → Act → World → Prop}
theorem wp_appG (hgd : o.guard = none) (s x : Operand) (ho : o.op = .call { callee := .builtin .append, args := #[s, x], argTypes := #[24, 24] })
    (B : Nat) (v : Value) (rows : List (List Int)) (vs : List Value) (hs : a.eval s = v) (h : GG w B v rows vs) (b : Nat) (u : Value) (row : List Int) (hx : a.eval x = .slice (some ⟨b, 0, none⟩) 1 1) (hc : w.cell? ⟨b, 0, none⟩ = some u)
    (hu : OwnI w B 3 u row) (ha : ∀ (i : Nat) (u' : Value), vs[i]? = some u' → u'.ownBlock = none ∨ u'.ownBlock ≠ u.ownBlock) (huv : u.ownBlock = none ∨ u.ownBlock ≠ v.ownBlock)
    (hl : rows.length ≤ 1048576) (hB : B ≤ w.heap.size)
    (hK : ∀ v' w', GG w' B v' (rows ++ [row]) (vs ++ [u]) → w.grownBy w' v.ownBlock → Below B w w' → wpList Tryz.prog ops Q rest (a.put o.dst v') w') : wpList Tryz.prog ops Q (o :: rest) a w := by
  obtain ⟨i0, hi, hz0, hz1, hz2⟩ := info_parts (show (Tryz.prog.info? 36).map (fun i => (i.zero, i.size, i.bytes)) = some (some (.slice none 0 0), 1, 24) by kernel_rfl)
  have h1 : u.oneCell' = true := by
    obtain ⟨A, c, rfl, -⟩ := hu.form
    rfl
  refine wpList_append_own_at w hgd s x 24 ho B 36 i0 (.slice none 0 0) 1 24 Tryz.underlying24 hi hz0 hz1 hz2 rfl (by decide) v rows.length vs hs h.out ⟨b, 0, none⟩ 1 1 [u] hx rfl ?_ (fun y hy => by simp at hy; subst hy; exact h1) (by unfold maxLen; omega) (by omega) hB fun v' w' h2 h3 _ h4 => hK v' w' (h.snoc hu ha huv h2 h3 h4) h3 (grown_below h.out hB h3)
  intro j y hj
  match j, hj with
  | 0, hj => simp at hj; subst hj; simpa [Addr.add] using hc
  | j + 1, hj => simp at hj
/-- The beginning: an empty slice of slices. -/
theorem GG.none0 (w : World) (B g : Nat) (hg : g = w.heap.size) (hB : B ≤ g) : GG (w.alloc (.cells #[] 36)) B (.slice (some ⟨g, 0, none⟩) 0 0) [] [] :=
  ⟨⟨rfl, .inr ⟨g, 0, #[], rfl, hB, heap_hit _ _ _ hg, Nat.le_refl _, by simp [maxLen], rfl, rfl⟩⟩, fun i u row h => by simp at h, fun i j u u' _ h => by simp at h, fun i u h => by simp at h⟩
theorem GG.nil (w : World) (B : Nat) : GG w B (.slice none 0 0) [] [] := ⟨World.ownsRow_nil _ _ _ _, fun i u row h => by simp at h, fun i j u u' _ h => by simp at h, fun i u h => by simp at h⟩
end
end Go.Proofs.YtenaadmifppphaaGreatDoor
