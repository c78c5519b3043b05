/- append of a slice of numbers to a row of the call's own. -/
import Derived.Test.YtdjddhdplknalaaApp
namespace Go.Proofs.Ytdjddhdplknalaa
open Go.ChangeShapes Go.WideShapes Go.ChangeAt Go.RowKit
section
variable {w : World} {ops : Array Oper} {rest : List Oper} {o : Oper} {a : Act} {Q : Exit → Act → World → Prop}
theorem wp_appIs (hgd : o.guard = none) (s x : Operand) (ho : o.op = .call { callee := .builtin .append, args := #[s, x], argTypes := #[39, 39] })
    (B : Nat) (v : Value) (zs : List Int) (hs : a.eval s = v) (hown : OwnI w B 3 v zs) (ad : Addr) (m c : Nat) (ys : List Int) (hx : a.eval x = .slice (some ad) m c) (h2 : RdI w (some ad) ys) (hm : m = ys.length)
    (hl : zs.length ≤ 1099511627776) (hl2 : ys.length ≤ 1099511627776) (hB : B ≤ w.heap.size)
    (h : ∀ v' w', OwnI w' B 3 v' (zs ++ ys) → w.grownBy w' v.ownBlock → Below B w w' → wpList Try.prog ops Q rest (a.put o.dst v') w') : wpList Try.prog ops Q (o :: rest) a w := by
  subst hm
  obtain ⟨i0, hi, hz0, hz1, hz2⟩ := info_parts info_int
  have hnews : ∀ (j : Nat) (u : Value), (iv ys)[j]? = some u → w.cell? (ad.add j) = some u := by
    intro j u hj
    have hjl := (List.getElem?_eq_some_iff.1 hj).1
    rcases h2 with h2 | ⟨b, off, e, hc⟩
    · rw [h2] at hjl
      exact absurd hjl (by simp)
    · obtain rfl := Option.some.inj e
      have h3 := hc j hjl
      rw [← (List.getElem?_eq_some_iff.1 hj).2]
      have : (Addr.add ⟨b, off, none⟩ j : Addr) = ⟨b, off + j, none⟩ := by
        unfold Addr.add
        split
        · next h => subst h; rfl
        · rfl
      rw [this]
      exact h3
  refine wpList_append_own w hgd s x 39 ho B 3 i0 (.int .i64 0) 1 8 Try.underlying39 hi hz0 hz1 hz2 rfl (by decide) v zs.length (iv zs) hs hown ad ys.length c (iv ys) hx (by rw [iv_len, Nat.mul_one]) hnews (fun u hu => by
    simp only [iv, List.mem_map] at hu
    obtain ⟨z, -, rfl⟩ := hu
    rfl) (by unfold maxLen; omega) (by omega) hB fun v' w' h1 h2 _ => h v' w' ?_ h2 (grown_below hown hB h2)
  unfold OwnI
  rw [iv_append, List.length_append]
  exact h1
end
end Go.Proofs.Ytdjddhdplknalaa
