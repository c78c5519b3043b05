/- Registers in memory of the call's own: rows of grants that grow by append. -/
import Derived.Test.YtnpehlghbfmbaaaGrMark
import Derived.Test.YtnpehlghbfmbaaaReg3
import Derived.Test.YtnpehlghbfmbaaaReg4
import Derived.Maps.AppendAt
import Derived.Test.YtnpehlghbfmbaaaApp
namespace Go.Proofs.Ytnpehlghbfmbaaa
open Go.ChangeShapes Go.WideShapes Go.ChangeAt Go.RowKit
set_option linter.unusedVariables false
set_option linter.unusedSimpArgs false
theorem RdR_of_flat {K : Nat} {w : World} {A : Option Addr} {rows : List (List Value)} (h : Rd w A rows.flatten) (hw : ∀ row ∈ rows, row.length = K) (hK : 0 < K) : RdR K w A rows := fun i row hr => by
  have hl : row.length = K := hw row (List.mem_of_getElem? hr)
  rcases h with h | ⟨b, off, hA, hc⟩
  · have := flat_at hw hr 0 row[0] (List.getElem?_eq_getElem (by omega))
    rw [h] at this
    simp at this
  · have at_ : ∀ (j : Nat) (v : Value), row[j]? = some v → w.cell? ⟨b, off + i * K + j, none⟩ = some v := fun j v hj => by
      have h1 := flat_at hw hr j v hj
      obtain ⟨h2, h3⟩ := List.getElem?_eq_some_iff.1 h1
      have := hc _ h2
      rw [h3] at this
      rw [Nat.add_assoc]
      exact this
    exact ⟨b, off, hA, fun j v hj => at_ j v hj, World.block_lt_of_cell? w _ (at_ 0 row[0] (List.getElem?_eq_getElem (by omega)))⟩
def OwnGr (w : World) (B : Nat) (v : Value) (rows : List GrantD) : Prop := w.ownsRow B 54 18 v rows.length (gcs rows).flatten
theorem OwnGr.form {w : World} {B : Nat} {v : Value} {rows : List GrantD} (h : OwnGr w B v rows) : ∃ A c, v = .slice A rows.length c ∧ RdR 18 w A (gcs rows) ∧ rows.length ≤ c ∧ c ≤ maxLen := by
  obtain ⟨A, c, hv, hr, hf⟩ := ownsRow_form h
  refine ⟨A, c, hv, RdR_of_flat hr (gcs_wid rows) (by decide), ?_⟩
  by_cases hp : 0 < rows.length
  · obtain ⟨g, -, -, -, h1, h2, -⟩ := hf hp
    exact ⟨h1, h2⟩
  · obtain ⟨-, ⟨e, -⟩ | ⟨g, cap, cur, e, -, -, h1, h2, -⟩⟩ := h
    · rw [e] at hv
      injection hv with _ e2 e3
      subst e3
      exact ⟨by omega, Nat.zero_le _⟩
    · rw [e] at hv
      injection hv with _ e2 e3
      subst e3
      exact ⟨h1, h2⟩
theorem OwnGr.below {w w' : World} {B : Nat} {v : Value} {rows : List GrantD} (h : OwnGr w B v rows) (hb : Below w.heap.size w w') : OwnGr w' B v rows := ownsRow_below h hb
theorem OwnGr.base {w : World} {B B' : Nat} {v : Value} {rows : List GrantD} (h : OwnGr w B v rows) (hB : B' ≤ B) : OwnGr w B' v rows := ownsRow_base h hB
theorem OwnGr.other {w w' : World} {B : Nat} {v : Value} {rows : List GrantD} {row : Option Nat} (h : OwnGr w B v rows) (hg : w.grownBy w' row) (hne : v.ownBlock = none ∨ v.ownBlock ≠ row) : OwnGr w' B v rows := World.ownsRow.kept h hg hne
theorem OwnGr.lt {w : World} {B : Nat} {v : Value} {rows : List GrantD} (h : OwnGr w B v rows) : ∀ k, v.ownBlock = some k → B ≤ k ∧ k < w.heap.size := World.ownsRow.lt h
theorem OwnGr.nil (w : World) (B : Nat) : OwnGr w B (.slice none 0 0) [] := World.ownsRow_nil _ _ _ _
theorem OwnGr.none0 (w : World) (B g : Nat) (hg : g = w.heap.size) (hB : B ≤ g) : OwnGr (w.alloc (.cells #[] 54)) B (.slice (some ⟨g, 0, none⟩) 0 0) [] :=
  ⟨rfl, .inr ⟨g, 0, #[], rfl, hB, heap_hit _ _ _ hg, Nat.le_refl _, by simp [maxLen], rfl, rfl⟩⟩
theorem OwnGr.ofR {w : World} {B g : Nat} {rows : List GrantD} (h : OwnR 18 w B g 54 (gcs rows) []) (hl : rows.length ≤ 1048576) : OwnGr w B (.slice (some ⟨g, 0, none⟩) rows.length rows.length) rows := by
  have hf : (gcs rows).flatten.length = rows.length * 18 := by rw [flat_len (gcs_wid rows), gcs_len]
  refine ⟨hf, .inr ⟨g, rows.length, _, rfl, h.low, h.blk, Nat.le_refl _, by unfold maxLen; omega, by simp [-List.length_flatten, hf], ?_⟩⟩
  rw [List.toList_toArray, List.append_nil]
  exact List.take_of_length_le (by omega)
theorem OwnGr.apart {w w' : World} {B B' : Nat} {v v' : Value} {rows rows' : List GrantD} (h : OwnGr w B v rows) (h' : OwnGr w' B' v' rows') (hs : w.heap.size ≤ B') : v.ownBlock = none ∨ v.ownBlock ≠ v'.ownBlock := by
  cases e : v.ownBlock with
  | none => exact .inl rfl
  | some k =>
    refine .inr fun e' => ?_
    have h1 := World.ownsRow.lt h k e
    have h2 := World.ownsRow.lt h' k e'.symm
    omega
theorem gcs_append (a b : List GrantD) : gcs (a ++ b) = gcs a ++ gcs b := by simp [gcs]
section
variable {w : World} {ops : Array Oper} {rest : List Oper} {o : Oper} {a : Act} {Q : Exit → Act → World → Prop}
/-- Grants appended to a row of the call's own. -/
theorem wp_appGr (hgd : o.guard = none) (s x : Operand) (ho : o.op = .call { callee := .builtin .append, args := #[s, x], argTypes := #[32, 32] })
    (B : Nat) (v : Value) (rows : List GrantD) (hs : a.eval s = v) (h : OwnGr w B v rows) (ad : Addr) (m c : Nat) (rows2 : List GrantD) (hx : a.eval x = .slice (some ad) m c) (h2 : RdR 18 w (some ad) (gcs rows2)) (hm : m = rows2.length)
    (hl : rows.length ≤ 1048576) (hl2 : rows2.length ≤ 1048576) (hB : B ≤ w.heap.size)
    (hK : ∀ v' w', OwnGr w' B v' (rows ++ rows2) → w.grownBy w' v.ownBlock → Below B w w' → (v'.ownBlock = v.ownBlock ∨ v'.ownBlock = some w.heap.size) → wpList Try.prog ops Q rest (a.put o.dst v') w') : wpList Try.prog ops Q (o :: rest) a w := by
  subst hm
  obtain ⟨i0, hi, hz0, hz1, hz2⟩ := info_parts info_gcz
  have hnews : ∀ (j : Nat) (u : Value), (gcs rows2).flatten[j]? = some u → w.cell? (ad.add j) = some u := by
    intro j u hj
    have hjl := (List.getElem?_eq_some_iff.1 hj).1
    rw [flat_len (gcs_wid rows2), gcs_len] at hjl
    have hdiv : j / 18 < rows2.length := by omega
    obtain ⟨g, hg⟩ := grant_at hdiv
    obtain ⟨b, off, e, hr, -⟩ := h2.grants hg
    injection e with e
    subst e
    have hmod : j % 18 < (gc g).length := by rw [gc_len]; omega
    have h3 := flat_at (gcs_wid rows2) (gcs_at hg) (j % 18) (gc g)[j % 18] (List.getElem?_eq_getElem hmod)
    have ej : j / 18 * 18 + j % 18 = j := by omega
    rw [ej, hj] at h3
    injection h3 with h3
    rw [h3]
    have h4 := hr (j % 18) _ (List.getElem?_eq_getElem hmod)
    rw [Nat.add_assoc, ej] at h4
    have : (Addr.add ⟨b, off, none⟩ j : Addr) = ⟨b, off + j, none⟩ := by
      unfold Addr.add
      split
      · next h => subst h; rfl
      · rfl
    rw [this]
    exact h4
  have hone : ∀ u ∈ (gcs rows2).flatten, u.oneCell' = true := by
    intro u hu
    obtain ⟨r, hr, hu⟩ := List.mem_flatten.1 hu
    simp only [gcs, List.mem_map] at hr
    obtain ⟨g, -, rfl⟩ := hr
    exact gc_one g u hu
  refine wpList_append_own_at w hgd s x 32 ho B 54 i0 _ 18 152 Try.underlying32 hi hz0 hz1 hz2 rfl (by decide) v rows.length _ hs h ad rows2.length c (gcs rows2).flatten hx (by rw [flat_len (gcs_wid rows2), gcs_len]) hnews hone (by unfold maxLen; omega) (by omega) hB fun v' w' h3 h4 _ h5 => hK v' w' ?_ h4 (grown_below h hB h4) h5
  unfold OwnGr
  rw [List.length_append, gcs_append, List.flatten_append]
  exact h3
end
end Go.Proofs.Ytnpehlghbfmbaaa
