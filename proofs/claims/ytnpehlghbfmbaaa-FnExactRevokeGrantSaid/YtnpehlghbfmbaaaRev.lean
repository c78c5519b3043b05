/- Contracts: RevokeGrant. -/
import Derived.Test.YtnpehlghbfmbaaaTrf2
import Derived.Deep.RegionLaw
namespace Go.Proofs.Ytnpehlghbfmbaaa
open Go.ChangeShapes Go.WideShapes Go.ChangeAt Go.RowKit
set_option linter.unusedVariables false
set_option linter.unusedSimpArgs false
def rvOk (rows : List GrantD) (n : Int) : Bool := regOk rows && decide (0 ≤ findI rows n)
def rvRows (rows : List GrantD) (n : Int) : List GrantD := bif rvOk rows n then rows.eraseIdx (findI rows n).toNat else []
theorem rvRows_len (rows : List GrantD) (n : Int) : (rvRows rows n).length ≤ rows.length := by
  unfold rvRows
  cases rvOk rows n
  · simp
  · simp only [cond_true]
    exact List.length_eraseIdx_le _ _
theorem erase_eq (rows : List GrantD) (k : Nat) : rows.eraseIdx k = rows.take k ++ rows.drop (k + 1) := List.eraseIdx_eq_take_drop_succ _ _
theorem wraps_i64r (n : Int) (h0 : 0 ≤ n) (h1 : n < 2 ^ 63) : IntKind.i64.wrap n = n := by
  rw [IntKind.wrap_i64]
  have : (2 : Int) ^ 63 = 9223372036854775808 := by decide
  omega
/-- A part of what is read. -/
theorem RdR.dropR {w : World} {b off k : Nat} {rows : List GrantD} (h : RdR 18 w (some ⟨b, off, none⟩) (gcs rows)) : RdR 18 w (some ⟨b, off + k * 18, none⟩) (gcs (rows.drop k)) := fun i row hr => by
  have hr' : (gcs rows)[k + i]? = some row := by
    rw [← hr]
    simp [gcs, List.getElem?_drop]
  obtain ⟨b', off', e, h1, h2⟩ := h (k + i) row hr'
  injection e with e
  injection e with e1 e2
  subst e1 e2
  exact ⟨_, _, rfl, by rw [show off + k * 18 + i * 18 = off + (k + i) * 18 from by omega]; exact h1, h2⟩
theorem RdR.takeR {w : World} {A : Option Addr} {k : Nat} {rows : List GrantD} (h : RdR 18 w A (gcs rows)) : RdR 18 w A (gcs (rows.take k)) := fun i row hr => by
  refine h i row ?_
  have hi := (List.getElem?_eq_some_iff.1 hr).1
  rw [gcs_len, List.length_take] at hi
  rw [← hr]
  simp only [gcs, List.map_take]
  rw [List.getElem?_take_of_lt (by omega)]
/-- append, as one step of a region that draws. -/
theorem step_appGr {ops : Array Oper} {o : Oper} {a : Act} {w : World} {K : Act → World → Prop} {Q : Exit → Act → World → Prop} {E : Prop} (hgd : o.guard = none) (s x : Operand) (ho : o.op = .call { callee := .builtin .append, args := #[s, x], argTypes := #[32, 32] })
    (B : Nat) (v : Value) (rows : List GrantD) (hs : a.eval s = v) (h : OwnGr w B v rows) (ad : Addr) (m c : Nat) (rows2 : List GrantD) (hx : a.eval x = .slice (some ad) m c) (h2 : RdR 18 w (some ad) (gcs rows2)) (hm : m = rows2.length)
    (hl : rows.length ≤ 1048576) (hl2 : rows2.length ≤ 1048576) (hB : B ≤ w.heap.size)
    (hK : ∀ v' w', OwnGr w' B v' (rows ++ rows2) → w.grownBy w' v.ownBlock → Below B w w' → (v'.ownBlock = v.ownBlock ∨ v'.ownBlock = some w.heap.size) → K (a.put o.dst v') w') :
    if Region.wanted o (yielded ops a.tmps) = true then Oper.wp Try.prog o a w K Q else E := by
  have hw : Region.wanted o (yielded ops a.tmps) = true := by simp [Region.wanted, hgd]
  rw [if_pos hw]
  subst hm
  obtain ⟨i0, hi, hz0, hz1, hz2⟩ := info_parts info_gcz
  have hnews : ∀ (j : Nat) (u : Value), (gcs rows2).flatten[j]? = some u → w.cell? (ad.add j) = some u := by
    intro j u hj
    have hjl := (List.getElem?_eq_some_iff.1 hj).1
    rw [flat_len (gcs_wid rows2), gcs_len] at hjl
    have hdiv : j / 18 < rows2.length := by omega
    obtain ⟨g, hg⟩ := grant_at hdiv
    obtain ⟨b, off, e, hr, -⟩ := h2.grants hg
    injection e with e
    subst e
    have hmod : j % 18 < (gc g).length := by rw [gc_len]; omega
    have h3 := flat_at (gcs_wid rows2) (gcs_at hg) (j % 18) (gc g)[j % 18] (List.getElem?_eq_getElem hmod)
    have ej : j / 18 * 18 + j % 18 = j := by omega
    rw [ej, hj] at h3
    injection h3 with h3
    rw [h3]
    have h4 := hr (j % 18) _ (List.getElem?_eq_getElem hmod)
    rw [Nat.add_assoc, ej] at h4
    rw [add_at]
    exact h4
  have hone : ∀ u ∈ (gcs rows2).flatten, u.oneCell' = true := by
    intro u hu
    obtain ⟨r, hr, hu⟩ := List.mem_flatten.1 hu
    simp only [gcs, List.mem_map] at hr
    obtain ⟨g, -, rfl⟩ := hr
    exact gc_one g u hu
  obtain ⟨v', w', hr, h3, h4, h5, h6⟩ := run_append_own_at (P := Try.prog) w B 32 o.type 54 i0 _ 18 152 Try.underlying32 hi hz0 hz1 hz2 rfl (by decide) v rows.length _ h ad rows2.length c (gcs rows2).flatten (by rw [flat_len (gcs_wid rows2), gcs_len]) hnews hone (by unfold maxLen; omega) (by omega) hB
  unfold Oper.wp execOp
  simp only [ho, resolve, invoke, builtin, Sem.run_bind, Sem.run_pure, Result.andThen_ok, List.map_toArray, List.map_cons, List.map_nil, hs, hx, hr]
  refine hK v' w' ?_ h4 (grown_below h hB h4) h6
  unfold OwnGr
  rw [List.length_append, gcs_append, List.flatten_append]
  exact h3
end Go.Proofs.Ytnpehlghbfmbaaa
