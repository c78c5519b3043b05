/- Contracts: TransferGrant. -/
import Derived.Test.YtnpehlghbfmbaaaFnd
namespace Go.Proofs.Ytnpehlghbfmbaaa
open Go.ChangeShapes Go.WideShapes Go.ChangeAt Go.RowKit
set_option linter.unusedVariables false
set_option linter.unusedSimpArgs false
/-- A register in new memory, and whether all is well. -/
def RgOk (w : World) (rows : List GrantD) (ok : Bool) (e : Ending) (w' : World) : Prop := ∃ v, e = .returned (.tuple #[.agg #[v], .bool ok]) ∧ OwnGr w' w.heap.size v rows ∧ Below w.heap.size w w'
def renamed (s : ByteArray) (g : GrantD) : GrantD := ⟨g.n, s, g.y, g.a⟩
def trfAll (rows : List GrantD) (n : Int) (s : ByteArray) : List GrantD := match rows[(findI rows n).toNat]? with | some g => rows.set (findI rows n).toNat (renamed s g) | none => rows
def trfOk (rows : List GrantD) (n : Int) (s : ByteArray) : Bool := regOk rows && decide (0 ≤ findI rows n) && nameOk s
def trfRows (rows : List GrantD) (n : Int) (s : ByteArray) : List GrantD := bif trfOk rows n s then trfAll rows n s else []
theorem set_at {rows : List GrantD} {k j : Nat} {g : GrantD} (hk : k < rows.length) : (rows.set k g)[j]? = if j = k then some g else rows[j]? := by
  rw [List.getElem?_set]
  by_cases e : k = j
  · subst e; simp [hk]
  · rw [if_neg e, if_neg (fun h => e h.symm)]
theorem regOk_renamed {rows : List GrantD} {k : Nat} {g : GrantD} (s : ByteArray) (h : regOk rows = true) (hk : k < rows.length) (hg : rows[k]? = some g) : regOk (rows.set k (renamed s g)) = nameOk s := by
  have hgo : ∀ i (x : GrantD), rows[i]? = some x → grantOk x = true ∧ prevOk rows i x = true ∧ anyN (confAt rows x) i = false := by
    intro i x hx
    have h2 := h
    rw [regOk, Bool.and_eq_true] at h2
    have h3 := List.all_eq_true.1 h2.2 i (by simpa using (List.getElem?_eq_some_iff.1 hx).1)
    rw [goodAt_at hx, Bool.and_eq_true, Bool.and_eq_true] at h3
    exact ⟨h3.1.1, h3.1.2, by simpa using h3.2⟩
  have hprev : ∀ i (x y : GrantD), x.n = y.n → x.y = y.y → prevOk (rows.set k (renamed s g)) i x = prevOk rows i y := by
    intro i x y e1 e2
    cases i with
    | zero => rfl
    | succ j =>
      simp only [prevOk]
      rw [set_at hk, e1, e2]
      by_cases e : j = k
      · subst e
        rw [if_pos rfl, hg]
        rfl
      · rw [if_neg e]
  have hconf : ∀ i (x y : GrantD), x.a = y.a → anyN (confAt (rows.set k (renamed s g)) x) i = anyN (confAt rows y) i := by
    intro i x y e1
    have : confAt (rows.set k (renamed s g)) x = confAt rows y := by
      funext j
      simp only [confAt]
      rw [set_at hk, e1]
      by_cases e : j = k
      · subst e
        rw [if_pos rfl, hg]
        rfl
      · rw [if_neg e]
    rw [this]
  have hgr : grantOk (renamed s g) = nameOk s := by
    have := (hgo k g hg).1
    simp only [grantOk, Bool.and_eq_true, decide_eq_true_eq] at this
    obtain ⟨⟨⟨h1, h2⟩, h3⟩, h4⟩ := this
    simp [grantOk, renamed, h1, h3, h4]
  have hgood : ∀ i, i < (rows.set k (renamed s g)).length → goodAt (rows.set k (renamed s g)) i = if i = k then nameOk s else true := by
    intro i hi
    rw [List.length_set] at hi
    obtain ⟨x, hx⟩ := grant_at hi
    by_cases e : i = k
    · subst e
      rw [hg] at hx
      injection hx with hx
      subst hx
      have hs : (rows.set i (renamed s g))[i]? = some (renamed s g) := by rw [set_at hk, if_pos rfl]
      rw [goodAt_at hs, if_pos rfl, hgr, hprev i (renamed s g) g rfl rfl, hconf i (renamed s g) g rfl, (hgo i g hg).2.1, (hgo i g hg).2.2]
      simp
    · have hs : (rows.set k (renamed s g))[i]? = some x := by rw [set_at hk, if_neg e]; exact hx
      rw [goodAt_at hs, if_neg e, hprev i x x rfl rfl, hconf i x x rfl, (hgo i x hx).1, (hgo i x hx).2.1, (hgo i x hx).2.2]
      rfl
  have hl12 := regOk_len h
  cases hn : nameOk s
  · refine regOk_bad (i := k) (by rw [List.length_set]; exact hk) ?_
    rw [hgood k (by rw [List.length_set]; exact hk), if_pos rfl, hn]
  · rw [regOk_good (fun i hi => by rw [hgood i hi, hn]; split <;> rfl)]
    rw [List.length_set]
    exact decide_eq_true (by omega)
theorem flat_name {rows : List GrantD} {k : Nat} {g : GrantD} (s : ByteArray) (hk : k < rows.length) (hg : rows[k]? = some g) : (gcs rows).flatten.set (k * 18 + 1) (.string s) = (gcs (rows.set k (renamed s g))).flatten := by
  have h1 := flat_split (gcs_at hg)
  have hw := gcs_wid rows
  have h2 := flat_set hw (k := k) (by rw [gcs_len]; exact hk) (gc (renamed s g))
  have h3 : gcs (rows.set k (renamed s g)) = (gcs rows).set k (gc (renamed s g)) := by simp [gcs, List.map_set]
  rw [h3, h2, h1]
  have hp := flat_pre hw (k := k) (by rw [gcs_len]; omega)
  rw [List.set_append_right _ _ (by omega), hp, show k * 18 + 1 - k * 18 = 1 from by omega, List.set_append_left _ _ (by rw [gc_len]; omega)]
  rfl
theorem OwnGr.name {w : World} {B g c k : Nat} {rows : List GrantD} {x : GrantD} (h : OwnGr w B (.slice (some ⟨g, 0, none⟩) rows.length c) rows) (s : ByteArray) (hk : k < rows.length) (hx : rows[k]? = some x) :
    OwnGr (w.setCell ⟨g, k * 18 + 1, none⟩ (.string s)) B (.slice (some ⟨g, 0, none⟩) rows.length c) (rows.set k (renamed s x)) := by
  have h1 := (World.ownsRow.stored h (k * 18 + 1) (.string s)).1
  rw [flat_name s hk hx] at h1
  unfold OwnGr
  rw [List.length_set]
  exact h1
theorem OwnGr.posG {w : World} {B : Nat} {v : Value} {rows : List GrantD} (h : OwnGr w B v rows) (hp : 0 < rows.length) : ∃ g c cur, v = .slice (some ⟨g, 0, none⟩) rows.length c ∧ B ≤ g ∧ g < w.heap.size ∧ w.heap[g]? = some (.cells cur 54 (0, 0)) ∧ rows.length * 18 ≤ cur.size := by
  obtain ⟨hl, ⟨rfl, h0⟩ | ⟨g, c, cur, rfl, hB, hh, hnc, hcm, hcs, htk⟩⟩ := h
  · omega
  · exact ⟨g, c, cur, rfl, hB, heap_lt hh, hh, by rw [hcs]; exact Nat.mul_le_mul_right _ hnc⟩
theorem validRegister_any (A : Option Addr) (c : Nat) (rows : List GrantD) (w : World) (hr : RdR 18 w A (gcs rows)) (hl : rows.length ≤ 1048576) (hs : ∀ g ∈ rows, g.s.size ≤ maxLen) (hcap : rows.length ≤ c) (hcm : c ≤ maxLen) :
    Calls Try.prog 33 #[.agg #[.slice A rows.length c]] w fun e w' => e = .returned (.tuple #[.agg #[bif regOk rows then .slice A rows.length c else .slice none 0 0], .bool (regOk rows)]) ∧ Below w.heap.size w w' := by
  have K := fun (w' : World) (hb : Below w.heap.size w w') => IsValidRegister_any A c rows w' (hr.below hb) hl hs hcap hcm
  generalize regOk rows = x at *
  have K' := Lib.hid K
  clear K hr hs
  cases x
  all_goals
    go_enter Try.func33, Try.ntmps33
    go_wp2_with fail
    refine (K'.out _ (by (repeat (first | exact Below.refl _ _ | assumption | refine Below_al ?_ _ | refine Below.drew ?_ | refine Below_then ?_ (by assumption) | refine Below.setCell ?_ (by first | omega | (simp; done) | (simp; omega)) _)))).mono ?_
    rintro e w1 ⟨rfl, hb1⟩
    obtain ⟨hc1, hf1⟩ := bcell hb1
    have hz : w.heap.size + 1 < w1.heap.size := Nat.lt_of_lt_of_le (by first | omega | (simp; done) | (simp; omega)) hb1.size
    go_wp2
  · exact bodyPost_ret (v := .tuple #[.agg #[.slice none 0 0], .bool false]) (by simp [results, Try.results33, go_sem, hc1]) rfl ⟨rfl, by (repeat (first | exact Below.refl _ _ | assumption | refine Below_al ?_ _ | refine Below.drew ?_ | refine Below_then ?_ (by assumption) | refine Below.setCell ?_ (by first | omega | (simp; done) | (simp; omega)) _))⟩
  · exact bodyPost_ret (v := .tuple #[.agg #[.slice A rows.length c], .bool true]) (by simp [results, Try.results33, go_sem, hc1]) rfl ⟨rfl, by (repeat (first | exact Below.refl _ _ | assumption | refine Below_al ?_ _ | refine Below.drew ?_ | refine Below_then ?_ (by assumption) | refine Below.setCell ?_ (by first | omega | (simp; done) | (simp; omega)) _))⟩
end Go.Proofs.Ytnpehlghbfmbaaa
