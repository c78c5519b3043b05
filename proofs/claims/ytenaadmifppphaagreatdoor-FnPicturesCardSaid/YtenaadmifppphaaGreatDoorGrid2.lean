/- Pictures made cell by cell in memory of the call's own. -/
import Derived.Test.YtenaadmifppphaaGreatDoorGG
import Derived.Test.YtenaadmifppphaaGreatDoorGGMark
import Derived.Test.YtenaadmifppphaaGreatDoorPicR
import Derived.OwnWalk
namespace Go.Proofs.YtenaadmifppphaaGreatDoor
open Go.ChangeShapes Go.WideShapes Go.ChangeAt Go.RowKit
set_option linter.unusedVariables false
set_option linter.unusedSimpArgs false
theorem ob_symm {a b : Option Nat} (h : a = none ∨ a ≠ b) : b = none ∨ b ≠ a := by
  rcases h with h | h
  · subst h
    cases b
    · exact .inl rfl
    · exact .inr (by simp)
  · exact .inr fun e => h e.symm
theorem GG.upd {w w' : World} {B k : Nat} {v u : Value} {rows : List (List Int)} {vs : List Value} {row' : List Int} (h : GG w B v rows vs) (hk : k < rows.length) (hu : vs[k]? = some u)
    (ho : OwnI w' B 3 u row') (hg : w.grownBy w' u.ownBlock) : GG w' B v (rows.set k row') vs := by
  refine ⟨?_, fun i x r h1 h2 => ?_, h.apart, h.sep⟩
  · rw [List.length_set]
    exact World.ownsRow.kept h.out hg (ob_symm (h.sep k u hu))
  · rw [List.getElem?_set] at h2
    by_cases e : k = i
    · subst e
      rw [if_pos rfl, if_pos hk] at h2
      injection h2 with h2
      subst h2
      rw [hu] at h1
      injection h1 with h1
      subst h1
      exact ho
    · rw [if_neg e] at h2
      refine (h.own i x r h1 h2).other hg ?_
      rcases Nat.lt_or_ge i k with hik | hik
      · exact h.apart i k x u hik h1 hu
      · exact ob_symm (h.apart k i u x (by omega) hu h1)
/-- A row of the call's own is put into the outer one. -/
theorem GG.putRow {w : World} {B g n c k : Nat} {u : Value} {rows : List (List Int)} {vs : List Value} {row : List Int} (h : GG w B (.slice (some ⟨g, 0, none⟩) n c) rows vs) (hn : rows.length = n) (hk : k < rows.length) (ho : OwnI w B 3 u row)
    (hx : ∀ (i : Nat) (x : Value), i ≠ k → vs[i]? = some x → x.ownBlock = none ∨ x.ownBlock ≠ u.ownBlock) (hug : u.ownBlock ≠ some g) :
    GG (w.setCell ⟨g, k, none⟩ u) B (.slice (some ⟨g, 0, none⟩) n c) (rows.set k row) (vs.set k u) := by
  subst hn
  obtain ⟨h1, h2⟩ := World.ownsRow.stored h.out k u
  have hlv : k < vs.length := by rw [h.len]; exact hk
  refine ⟨by rw [List.length_set]; exact h1, fun i x r e1 e2 => ?_, fun i j x y hij e1 e2 => ?_, fun i x e1 => ?_⟩
  · rw [List.getElem?_set] at e1 e2
    by_cases e : k = i
    · subst e
      rw [if_pos rfl, if_pos hlv] at e1
      rw [if_pos rfl, if_pos hk] at e2
      injection e1 with e1
      injection e2 with e2
      subst e1 e2
      exact ho.other h2 (.inr hug)
    · rw [if_neg e] at e1 e2
      exact (h.own i x r e1 e2).other h2 (h.sep i x e1)
  · rw [List.getElem?_set] at e1 e2
    by_cases e : k = i
    · subst e
      rw [if_pos rfl, if_pos hlv] at e1
      rw [if_neg (by omega)] at e2
      injection e1 with e1
      subst e1
      exact ob_symm (hx j y (by omega) e2)
    · rw [if_neg e] at e1
      by_cases e' : k = j
      · subst e'
        rw [if_pos rfl, if_pos hlv] at e2
        injection e2 with e2
        subst e2
        exact hx i x (by omega) e1
      · rw [if_neg e'] at e2
        exact h.apart i j x y hij e1 e2
  · rw [List.getElem?_set] at e1
    by_cases e : k = i
    · subst e
      rw [if_pos rfl, if_pos hlv] at e1
      injection e1 with e1
      subst e1
      exact .inr hug
    · rw [if_neg e] at e1
      exact h.sep i x e1
/-! ### A picture of letters that is being filled -/
def rowJ (s : List UInt8) (i y : Nat) : List Int := (List.range 20).map fun x => if 20 * y + x < i then letNo (s.getD (20 * y + x) 0) else 0
def gridI (s : List UInt8) (i : Nat) : List (List Int) := (List.range 24).map (rowJ s i)
theorem rowJ_len (s : List UInt8) (i y : Nat) : (rowJ s i y).length = 20 := by simp [rowJ]
theorem gridI_len (s : List UInt8) (i : Nat) : (gridI s i).length = 24 := by simp [gridI]
theorem gridI_at (s : List UInt8) (i : Nat) {y : Nat} (hy : y < 24) : (gridI s i)[y]? = some (rowJ s i y) := by simp [gridI, hy]
theorem gridI_set {s : List UInt8} {i : Nat} {b : UInt8} (hi : i < 480) (hb : s[i]? = some b) : (gridI s i).set (i / 20) ((rowJ s i (i / 20)).set (i % 20) (letNo b)) = gridI s (i + 1) := by
  apply List.ext_getElem?
  intro y
  rw [List.getElem?_set, gridI_len]
  by_cases hy : y < 24
  · rw [gridI_at s _ hy, gridI_at s _ hy]
    by_cases e : i / 20 = y
    · rw [if_pos e, if_pos (by omega)]
      congr 1
      apply List.ext_getElem?
      intro x
      rw [List.getElem?_set, rowJ_len, e]
      by_cases hx : x < 20
      · simp only [rowJ, List.getElem?_map, List.getElem?_range hx, Option.map_some]
        by_cases e2 : i % 20 = x
        · rw [if_pos e2, if_pos (by omega), if_pos (by omega)]
          have : 20 * y + x = i := by omega
          rw [this, List.getD_eq_getElem?_getD, hb]
          rfl
        · rw [if_neg e2]
          congr 1
          by_cases q : 20 * y + x < i
          · rw [if_pos q, if_pos (by omega)]
          · rw [if_neg q, if_neg (by omega)]
      · rw [if_neg (by omega), List.getElem?_eq_none (by rw [rowJ_len]; omega), List.getElem?_eq_none (by rw [rowJ_len]; omega)]
    · rw [if_neg e]
      congr 1
      apply List.ext_getElem?
      intro x
      by_cases hx : x < 20
      · simp only [rowJ, List.getElem?_map, List.getElem?_range hx, Option.map_some]
        congr 1
        by_cases q : 20 * y + x < i
        · rw [if_pos q, if_pos (by omega)]
        · rw [if_neg q, if_neg (by omega)]
      · rw [List.getElem?_eq_none (by rw [rowJ_len]; omega), List.getElem?_eq_none (by rw [rowJ_len]; omega)]
  · rw [if_neg (by omega), List.getElem?_eq_none (by rw [gridI_len]; omega), List.getElem?_eq_none (by rw [gridI_len]; omega)]
theorem gridI_all {s : List UInt8} (hs : s.length = 480) : gridI s 480 = picP s 24 := by
  unfold gridI picP
  refine List.map_congr_left fun y hy => ?_
  have hy' := List.mem_range.1 hy
  apply List.ext_getElem?
  intro x
  by_cases hx : x < 20
  · have hb : s[20 * y + x]? = some (s[20 * y + x]'(by omega)) := List.getElem?_eq_getElem _
    rw [rowP_at s hx hb]
    simp only [rowJ, List.getElem?_map, List.getElem?_range hx, Option.map_some]
    rw [if_pos (by omega), List.getD_eq_getElem?_getD, hb]
    rfl
  · rw [List.getElem?_eq_none (by rw [rowJ_len]; omega), List.getElem?_eq_none (by rw [rowP_len s hs hy']; omega)]
theorem rowJ_zero (s : List UInt8) (y : Nat) : rowJ s 0 y = List.replicate 20 0 := by
  apply List.ext_getElem?
  intro x
  by_cases hx : x < 20
  · rw [List.getElem?_replicate, if_pos hx]
    simp only [rowJ, List.getElem?_map, List.getElem?_range hx, Option.map_some]
    rfl
  · rw [List.getElem?_eq_none (by rw [rowJ_len]; omega), List.getElem?_eq_none (by simp; omega)]
/-- The rows that are there. -/
def gridK (k : Nat) : List (List Int) := (List.range 24).map fun y => if y < k then List.replicate 20 0 else []
theorem gridK_len (k : Nat) : (gridK k).length = 24 := by simp [gridK]
theorem gridK_set {k : Nat} (hk : k < 24) : (gridK k).set k (List.replicate 20 0) = gridK (k + 1) := by
  apply List.ext_getElem?
  intro y
  rw [List.getElem?_set, gridK_len]
  by_cases hy : y < 24
  · simp only [gridK, List.getElem?_map, List.getElem?_range hy, Option.map_some]
    by_cases e : k = y
    · rw [if_pos e, if_pos hk, if_pos (by omega)]
    · rw [if_neg e]
      congr 1
      by_cases q : y < k
      · rw [if_pos q, if_pos (by omega)]
      · rw [if_neg q, if_neg (by omega)]
  · rw [if_neg (by omega), List.getElem?_eq_none (by rw [gridK_len]; omega), List.getElem?_eq_none (by rw [gridK_len]; omega)]
theorem gridK_all (s : List UInt8) : gridK 24 = gridI s 0 := by
  unfold gridK gridI
  refine List.map_congr_left fun y hy => ?_
  rw [if_pos (List.mem_range.1 hy), rowJ_zero]
def GridIs (w : World) (e : Ending) (w' : World) : Prop := ∃ g vs, e = .returned (.slice (some ⟨g, 0, none⟩) 24 24) ∧ GG w' w.heap.size (.slice (some ⟨g, 0, none⟩) 24 24) (gridK 24) vs ∧ Below w.heap.size w w'
set_option maxHeartbeats 2000000 in
set_option maxRecDepth 100000 in
theorem grid_any (w : World) : Calls Tryz.prog 43 #[] w (GridIs w) := by
  obtain ⟨i0, hi, hz0, hz1, hz2⟩ := info_parts (show (Tryz.prog.info? 36).map (fun i => (i.zero, i.size, i.bytes)) = some (some (.slice none 0 0), 1, 24) by kernel_rfl)
  obtain ⟨j0, gi, gz0, gz1, gz2⟩ := info_parts info_int
  go_enter Tryz.func43, Tryz.ntmps43
  go_wp2_with (first | (at_make; refine wpList_make_full _ rfl _ _ 24 rfl w.heap.size 36 i0 _ 1 Tryz.underlying24 hi hz0 hz1 .i64 .i64 _ _ 24 rfl rfl rfl rfl ?c1 ?c2 (Nat.le_refl _) ?_) | fail)
  case c1 => rw [hz2]; omega
  case c2 => unfold maxLen; omega
  intro w1 hown hgr
  have hb1 := below_of_none hgr
  have hst : GG w1 w.heap.size (.slice (some ⟨w.heap.size, 0, none⟩) 24 24) (gridK 0) (List.replicate 24 (.slice none 0 0)) := by
    refine ⟨?_, fun i u row h1 h2 => ?_, fun i j u u' _ h1 _ => ?_, fun i u h1 => ?_⟩
    · rw [gridK_len]
      rw [toList_madeCells_one] at hown
      exact hown
    · have hiu : i < 24 := by have := (List.getElem?_eq_some_iff.1 h1).1; simpa using this
      rw [List.getElem?_replicate, if_pos hiu] at h1
      injection h1 with h1
      subst h1
      have : row = [] := by simpa [gridK, hiu] using h2.symm
      subst this
      exact OwnI.nil _ _ _
    · have hiu : i < 24 := by have := (List.getElem?_eq_some_iff.1 h1).1; simpa using this
      rw [List.getElem?_replicate, if_pos hiu] at h1
      injection h1 with h1
      subst h1
      exact .inl rfl
    · have hiu : i < 24 := by have := (List.getElem?_eq_some_iff.1 h1).1; simpa using this
      rw [List.getElem?_replicate, if_pos hiu] at h1
      injection h1 with h1
      subst h1
      exact .inl rfl
  have HST := Lib.hid hst
  have HB := Lib.hid hb1
  clear hown hgr hst hb1
  go_wp2_with fail
  go_loopw [6] (fun i wr => ∃ (k : Nat) (vs : List Value), k ≤ 24 ∧ i = .int .i64 k ∧ GG wr w.heap.size (.slice (some ⟨w.heap.size, 0, none⟩) 24 24) (gridK k) vs ∧ Below w.heap.size w wr) (fun i _ => 24 - (intOf i).toNat)
  case atStart => exact ⟨0, _, Nat.zero_le _, rfl, HST.out, HB.out⟩
  case round =>
    obtain ⟨k, vs, hk, rfl, hG, hb⟩ := hrel
    by_cases hlt : k < 24
    · have i1 : (k : Int) < 24 := by omega
      have d1 : decide (k < 24) = true := by simpa using hlt
      have HG := Lib.hid hG
      have HBB := Lib.hid hb
      have hsz := hb.size
      clear hG hb
      go_wp2_with (first | (at_make; refine wpList_make_full _ rfl _ _ 36 rfl wr.heap.size 3 j0 _ 1 Tryz.underlying36 gi gz0 gz1 .i64 .i64 _ _ 20 rfl rfl rfl rfl ?c1 ?c2 (Nat.le_refl _) ?_) | fail)
      case c1 => rw [gz2]; omega
      case c2 => unfold maxLen; omega
      intro w2 hown hgr
      rw [made_ints] at hown
      have ho : OwnI w2 wr.heap.size 3 (.slice (some ⟨wr.heap.size, 0, none⟩) 20 20) (List.replicate 20 0) := by
        unfold OwnI
        rw [List.length_replicate]
        exact hown
      have hb2 := below_of_none hgr
      have hG2 := HG.out.below hb2
      have hgl := (HG.out.outer w.heap.size rfl).2
      have hlen := HG.out.len
      rw [gridK_len] at hlen
      have hP := hG2.putRow (gridK_len k) (by rw [gridK_len]; exact hlt) (OwnI.base ho hsz) (fun i x _ hx => by
        cases e : x.ownBlock with
        | none => exact .inl rfl
        | some b =>
          refine .inr fun e2 => ?_
          have h3 := (HG.out.hi i x hx b e).2
          have e3 : some b = some wr.heap.size := e2
          injection e3 with e3
          omega) (by intro e; have e3 : some wr.heap.size = some w.heap.size := e; injection e3 with e3; omega)
      rw [gridK_set hlt] at hP
      obtain ⟨g', c', A', n', c2, row', ev, hc, -⟩ := hG2.at_ (k := k) (by rw [gridK_len]; exact hlt)
      injection ev with ev evn evc
      injection ev with ev
      injection ev with ev
      subst ev
      clear evn evc
      have hf := World.ownsRow.frozenAt hG2.out k
      have hT := (Below_then HBB.out hb2).setCell (Nat.le_refl w.heap.size) (p := ⟨w.heap.size, k, none⟩) (.slice (some ⟨wr.heap.size, 0, none⟩) 20 20)
      have HP := Lib.hid hP
      have HT := Lib.hid hT
      clear hP hT hown ho hb2 hG2 hgr
      go_wp2
      go_roundw
      case rel => exact ⟨k + 1, _, by omega, by go_num, HP.out, HT.out⟩
      case measure => simp [intOf]; omega
    · obtain rfl : k = 24 := by omega
      have d1 : decide (24 < 24) = false := by simp
      have HG := Lib.hid hG
      have HBB := Lib.hid hb
      clear hG hb
      go_wp2
      go_ret
      exact ⟨_, vs, rfl, HG.out, HBB.out⟩
end Go.Proofs.YtenaadmifppphaaGreatDoor
