/- Contracts of the laws' own helpers on slices of slices of numbers. -/
import Derived.Test.YtedfopebkgbbnaaDoorInts
import Derived.Test.YtedfopebkgbbnaaDoorGMem
namespace Go.Proofs.YtedfopebkgbbnaaDoor
open Go.ChangeShapes Go.WideShapes Go.ChangeAt Go.RowKit
set_option linter.unusedVariables false

theorem Small.len40 {rows : List (List Int)} (h : Small rows) : rows.length ≤ 1099511627776 := by have := h.1; omega
theorem Small.row40 {rows : List (List Int)} (h : Small rows) {k : Nat} {row : List Int} (hk : rows[k]? = some row) : row.length ≤ 1099511627776 := by have := h.row hk; omega
theorem row_at {rows : List (List Int)} {k : Nat} (h : k < rows.length) : ∃ row, rows[k]? = some row := ⟨_, List.getElem?_eq_getElem h⟩
def SzG (w : World) (rows : List (List Int)) (left : Int) (e : Ending) (w' : World) : Prop :=
  ∃ z : Int, e = .returned (.int .i64 z) ∧ (z = -1 ∨ (0 ≤ z ∧ z ≤ left ∧ rows.length ≤ 1048576 ∧ ∀ row ∈ rows, row.length ≤ 1048576)) ∧ w = w'
set_option maxHeartbeats 1000000 in
theorem szIntSS_any (A : Option Addr) (c : Nat) (rows : List (List Int)) (left : Int) (w : World) (h : RdG w A rows) (h0 : 0 ≤ left) (h1 : left ≤ 1048576) (hm : rows.length ≤ maxLen) (hr : ∀ row ∈ rows, row.length ≤ maxLen) :
    Calls Tryd.prog 6 #[.slice A rows.length c, .int .i64 left] w (SzG w rows left) := by
  unfold maxLen at hm
  have HR := Lib.hid hr
  clear hr
  by_cases hl : (rows.length : Int) ≤ left
  · go_enter Tryd.func6, Tryd.ntmps6
    go_wp2_with fail
    go_loop [1, 5] (fun s i => ∃ (k : Nat) (z : Int), k ≤ rows.length ∧ i = .int .i64 k ∧ s = .int .i64 z ∧ 0 ≤ z ∧ z ≤ left ∧ ∀ (j : Nat) (row : List Int), j < k → rows[j]? = some row → row.length ≤ 1048576) (fun _ i => rows.length - (intOf i).toNat)
    case atStart => exact ⟨0, left - rows.length, by omega, rfl, rfl, by omega, by omega, fun j row hj => absurd hj (by omega)⟩
    case round =>
      obtain ⟨k, z, hk, rfl, rfl, hz0, hz1, hall⟩ := hrel
      have HA := Lib.hid hall
      clear hall
      by_cases hlt : k < rows.length
      · obtain ⟨row, hrow⟩ := row_at hlt
        obtain ⟨b, off, A', c', rfl, hc, -, -⟩ := h.atv hrow
        have hrm := HR.out row (List.mem_of_getElem? hrow)
        have HW := Lib.hid hrow
        have d1 : decide (k < rows.length) = true := by simpa using hlt
        have i1 : (k : Int) < (rows.length : Int) := by omega
        have K := fun w => szIntS_any A' row.length c' z w ⟨hz0, by omega⟩ hrm
        obtain ⟨y, hy⟩ : ∃ y : Int, y = if (row.length : Int) ≤ z then z - row.length else -1 := ⟨_, rfl⟩
        rw [← hy] at K
        have K' := Lib.hid K
        clear K hrow h
        by_cases hn : (row.length : Int) ≤ z
        · rw [if_pos hn] at hy
          have y0 : 0 ≤ y := by omega
          have y1 : y ≤ left := by omega
          have HN := Lib.hid (show row.length ≤ 1048576 by omega)
          clear hn hy
          go_wp2_with (first | (go_at_call 17; refine (K'.out _).mono ?_; rintro e w' ⟨rfl, rfl⟩) | fail)
          go_round
          case rel =>
            refine ⟨k + 1, y, by omega, by go_num, rfl, y0, y1, fun j r hj hr => ?_⟩
            by_cases e : j = k
            · subst e
              rw [HW.out] at hr
              injection hr with hr
              subst hr
              exact HN.out
            · exact HA.out j r (by omega) hr
          case measure => simp [intOf]; omega
        · rw [if_neg hn] at hy
          subst hy
          clear hn
          go_wp2_with (first | (go_at_call 17; refine (K'.out _).mono ?_; rintro e w' ⟨rfl, rfl⟩) | fail)
          go_ret
          exact ⟨_, rfl, .inl rfl, rfl⟩
      · obtain rfl : k = rows.length := by omega
        have d1 : decide (rows.length < rows.length) = false := by simp
        go_wp2
        go_ret
        refine ⟨z, rfl, .inr ⟨hz0, hz1, by omega, fun row hrow => ?_⟩, rfl⟩
        obtain ⟨j, hj⟩ := List.getElem?_of_mem hrow
        exact HA.out j row (List.getElem?_eq_some_iff.1 hj).1 hj
  · have hn : left - (rows.length : Int) < 0 := by omega
    go_enter Tryd.func6, Tryd.ntmps6
    go_wp2
    go_ret
    exact ⟨_, rfl, .inl rfl, rfl⟩
theorem eqIntS_same (A A' : Option Addr) (c c' : Nat) (xs : List Int) (w : World) (h1 : RdI w A xs) (h2 : RdI w A' xs) (hx : xs.length ≤ 1099511627776) :
    Calls Tryd.prog 25 #[.slice A xs.length c, .slice A' xs.length c'] w fun e w' => e = .returned (.bool true) ∧ Below w.heap.size w w' :=
  (eqIntS_any A A' c c' xs xs w h1 h2 hx hx).mono fun _ _ ⟨he, hw⟩ => ⟨by rw [he]; simp, hw⟩
theorem keep2 {a w w' : World} {p q : Addr} {u v : Value} (h : w.cell? p = some u ∧ w.cell? q = some v ∧ Below a.heap.size a w) (hb : Below w.heap.size w w') : w'.cell? p = some u ∧ w'.cell? q = some v ∧ Below a.heap.size a w' :=
  ⟨keep_cell h.1 hb, keep_cell h.2.1 hb, Below_then h.2.2 hb⟩
set_option maxHeartbeats 1000000 in
theorem eqIntSS_same (A A' : Option Addr) (c c' : Nat) (rows : List (List Int)) (w : World) (h1 : RdG w A rows) (h2 : RdG w A' rows) (hs : Small rows) :
    Calls Tryd.prog 10 #[.slice A rows.length c, .slice A' rows.length c'] w fun e w' => e = .returned (.bool true) ∧ Below w.heap.size w w' := by
  have hl := hs.len
  have hd : ((rows.length : Int) != (rows.length : Int)) = false := by simp
  go_enter Tryd.func10, Tryd.ntmps10
  go_wp2_with fail
  clear hd
  go_loopw [5] (fun i wr => ∃ k : Nat, k ≤ rows.length ∧ i = .int .i64 k ∧ Below w.heap.size w wr) (fun i _ => rows.length - (intOf i).toNat)
  case atStart => exact ⟨0, by omega, rfl, Below.refl _ _⟩
  case round =>
    obtain ⟨k, hk, rfl, hb⟩ := hrel
    by_cases hlt : k < rows.length
    · obtain ⟨row, hrow⟩ := row_at hlt
      obtain ⟨b, off, B, d, rfl, hc1, hr1, -⟩ := (h1.below hb).atv hrow
      obtain ⟨b', off', B', d', rfl, hc2, hr2, -⟩ := (h2.below hb).atv hrow
      have hx := hs.row40 hrow
      have i1 : (k : Int) < (rows.length : Int) := by omega
      have d1 : decide (k < rows.length) = true := by simpa using hlt
      have K := fun w' (hb' : Below wr.heap.size wr w') => eqIntS_same B B' d d' row w' (hr1.below hb') (hr2.below hb') hx
      have K' := Lib.hid K
      clear K hr1 hr2 hrow
      go_wp2_with fail
      go_region_held3 (fun w' => w'.cell? ⟨b, off + k, none⟩ = some (.slice B row.length d : Value) ∧ w'.cell? ⟨b', off' + k, none⟩ = some (.slice B' row.length d' : Value) ∧ Below wr.heap.size wr w') (first | assumption | exact keep2 (by assumption) (by assumption) | exact ⟨hc1, hc2, Below.refl _ _⟩ | exact ⟨hc1, hc2, (Below.refl _ _).drew⟩) (first | (go_at_call 25; obtain ⟨-, -, sb⟩ : _ ∧ _ ∧ Below wr.heap.size wr _ := (by assumption); refine (K'.out _ sb).mono ?_; rintro e w1 ⟨rfl, hb1⟩))
      go_wp2
      go_roundw
      case rel =>
        obtain ⟨-, -, sb⟩ : _ ∧ _ ∧ Below wr.heap.size wr _ := (by assumption)
        exact ⟨k + 1, by omega, by go_num, Below_then hb sb⟩
      case measure => simp [intOf]; omega
    · obtain rfl : k = rows.length := by omega
      have d1 : decide (rows.length < rows.length) = false := by simp
      go_wp2
      go_ret
      exact ⟨rfl, hb⟩
/-- A slice of slices of the call's own: the outer block g, the rows' values vs; no two rows in one block. -/
structure OwnG (w : World) (B g : Nat) (rows : List (List Int)) (vs : List Value) (rest : List Value) : Prop where
  blk : w.heap[g]? = some (.cells (vs ++ rest).toArray 33 (0, 0))
  low : B ≤ g
  len : vs.length = rows.length
  own : ∀ (i : Nat) (v : Value) (row : List Int), vs[i]? = some v → rows[i]? = some row → OwnI w (g + 1) 3 v row
  apart : ∀ (i j : Nat) (u v : Value), i < j → vs[i]? = some u → vs[j]? = some v → u.ownBlock = none ∨ u.ownBlock ≠ v.ownBlock
theorem OwnG.rd {w : World} {B g : Nat} {rows : List (List Int)} {vs rest : List Value} (h : OwnG w B g rows vs rest) : RdG w (some ⟨g, 0, none⟩) rows := by
  refine ⟨vs, h.len, .inr ⟨g, 0, rfl, fun i hi => ?_⟩, fun i v row h1 h2 => ?_⟩
  · rw [Nat.zero_add, cell_of h.blk]
    simp [List.getElem?_append_left hi]
  · obtain ⟨A, c, e, hr⟩ := (h.own i v row h1 h2).form
    exact ⟨A, c, e, hr⟩
theorem OwnG.below {w w' : World} {B g : Nat} {rows : List (List Int)} {vs rest : List Value} (h : OwnG w B g rows vs rest) (hb : Below w.heap.size w w') : OwnG w' B g rows vs rest :=
  ⟨heap_keepB h.blk hb, h.low, h.len, fun i v row h1 h2 => (h.own i v row h1 h2).below hb, h.apart⟩
theorem OwnG.snoc {w : World} {B g : Nat} {rows : List (List Int)} {vs rest : List Value} {z v : Value} {row : List Int} (h : OwnG w B g rows vs (z :: rest)) (hv : OwnI w (g + 1) 3 v row)
    (ha : ∀ (i : Nat) (u : Value), vs[i]? = some u → u.ownBlock = none ∨ u.ownBlock ≠ v.ownBlock) : OwnG (w.setCell ⟨g, vs.length, none⟩ v) B g (rows ++ [row]) (vs ++ [v]) rest where
  blk := by
    rw [heap_set _ _ _ _ _ _ h.blk]
    simp
  low := h.low
  len := by simp [h.len]
  own := by
    intro i u r h1 h2
    by_cases e : i < vs.length
    · rw [List.getElem?_append_left e] at h1
      rw [List.getElem?_append_left (by rw [← h.len]; exact e)] at h2
      exact ownsRow_setCell_below (h.own i u r h1 h2) (by simp) _
    · have : i = vs.length := by
        have := (List.getElem?_eq_some_iff.1 h1).1
        simp at this
        omega
      subst this
      have e2 : vs.length = rows.length := h.len
      rw [List.getElem?_append_right (Nat.le_refl _), Nat.sub_self] at h1
      rw [e2, List.getElem?_append_right (Nat.le_refl _), Nat.sub_self] at h2
      simp at h1 h2
      subst h1 h2
      exact ownsRow_setCell_below hv (by simp) _
  apart := by
    intro i j u r hij h1 h2
    have hj := (List.getElem?_eq_some_iff.1 h2).1
    simp at hj
    rw [List.getElem?_append_left (by omega)] at h1
    by_cases e : j < vs.length
    · rw [List.getElem?_append_left e] at h2
      exact h.apart i j u r hij h1 h2
    · have : j = vs.length := by omega
      subst this
      rw [List.getElem?_append_right (Nat.le_refl _), Nat.sub_self] at h2
      simp at h2
      subst h2
      exact ha i u h1
theorem blk_of_owns {w : World} {B g n : Nat} {T : TypeId} {xs : List Value} (h : w.ownsRow B T 1 (.slice (some ⟨g, 0, none⟩) n n) n xs) : w.heap[g]? = some (.cells xs.toArray T (0, 0)) := by
  obtain ⟨hl, h | ⟨g', cap, cur, e, hB, hh, hn, hm, hs, ht⟩⟩ := h
  · cases h.1
  · injection e with e1 e2 e3
    injection e1 with e1
    injection e1 with e1
    subst e1 e3
    rw [hh]
    rw [List.take_of_length_le (by simp [hs])] at ht
    rw [← ht]
theorem info_ints : (Tryd.prog.info? 33).map (fun i => (i.zero, i.size, i.bytes)) = some (some (.slice none 0 0), 1, 24) := by kernel_rfl
def ToG (w : World) (rows : List (List Int)) (e : Ending) (w' : World) : Prop :=
  ∃ g vs, e = .returned (.slice (some ⟨g, 0, none⟩) rows.length rows.length) ∧ OwnG w' w.heap.size g rows vs [] ∧ Below w.heap.size w w'
set_option maxHeartbeats 1000000 in
theorem toIntSS_any (A : Option Addr) (c : Nat) (rows : List (List Int)) (w : World) (h : RdG w A rows) (hs : Small rows) :
    Calls Tryd.prog 8 #[.slice A rows.length c] w (ToG w rows) := by
  obtain ⟨i0, hi, hz0, hz1, hz2⟩ := info_parts info_ints
  have hl := hs.len
  go_enter Tryd.func8, Tryd.ntmps8
  go_wp2_with (first | (at_make; refine wpList_make_full _ rfl _ _ 22 rfl w.heap.size 33 i0 _ 1 Tryd.underlying22 hi hz0 hz1 .i64 .i64 _ _ rows.length rfl rfl rfl rfl ?c1 ?c2 (Nat.le_refl _) ?_) | fail)
  case c1 => rw [hz2]; omega
  case c2 => unfold maxLen; omega
  intro w1 hown hgr
  have hblk := blk_of_owns hown
  rw [toList_madeCells_one] at hblk
  have hst : OwnG w1 w.heap.size w.heap.size [] [] (List.replicate rows.length (.slice none 0 0)) := ⟨by simpa using hblk, Nat.le_refl _, rfl, fun i v row h => by simp at h, fun i j u v _ h => by simp at h⟩
  have hb1 := below_of_none hgr
  clear hown hgr hblk
  go_wp2_with fail
  go_loopw [4] (fun i wr => ∃ (k : Nat) (vs : List Value), k ≤ rows.length ∧ i = .int .i64 k ∧ OwnG wr w.heap.size w.heap.size (rows.take k) vs (List.replicate (rows.length - k) (.slice none 0 0)) ∧ Below w.heap.size w wr) (fun i _ => rows.length - (intOf i).toNat)
  case atStart => exact ⟨0, [], Nat.zero_le _, rfl, by simpa using hst, hb1⟩
  case round =>
    clear hst hb1
    obtain ⟨k, vs, hk, rfl, hst, hb⟩ := hrel
    have hvl : vs.length = k := by rw [hst.len]; simp; omega
    by_cases hlt : k < rows.length
    · obtain ⟨row, hrow⟩ := row_at hlt
      obtain ⟨b, off, A', c', rfl, hc, hr, -⟩ := (h.below hb).atv hrow
      have hx := hs.row40 hrow
      have i1 : (k : Int) < (rows.length : Int) := by omega
      have d1 : decide (k < rows.length) = true := by simpa using hlt
      have K := fun w' (hb' : Below wr.heap.size wr w') => toIntS_any A' c' row w' (hr.below hb') hx
      have K' := Lib.hid K
      have HST := Lib.hid hst
      have HRow := Lib.hid hrow
      have HVL := Lib.hid hvl
      clear K hr hst hrow hvl
      go_wp2_with fail
      refine (K'.out _ (Below.refl _ _)).mono ?_
      rintro e w2 ⟨v, rfl, ho, hb2⟩
      have hst := HST.out.below hb2
      have hbk := hst.blk
      have hvl := HVL.out
      rw [show rows.length - k = (rows.length - (k + 1)) + 1 from by omega, List.replicate_succ] at hst hbk
      have hlo : w.heap.size + 1 ≤ wr.heap.size := heap_lt HST.out.blk
      have hsn := hst.snoc (OwnI.base ho hlo) fun i u hu => by
        have hi := (List.getElem?_eq_some_iff.1 hu).1
        have hkl : k ≤ rows.length := hk
        have := (HST.out.own i u ((rows.take k)[i]'(by simp; omega)) hu (List.getElem?_eq_getElem _)).apart ho (Nat.le_refl _)
        exact this
      rw [hvl] at hsn
      have c2 : w2.cell? ⟨w.heap.size, k, none⟩ = some (.slice none 0 0) := by
        rw [cell_of hbk]
        simp [← hvl]
      have f2 := frozen_of hbk k
      obtain ⟨A2, c2', rfl, -⟩ := ho.form
      have HSN := Lib.hid hsn
      have hb3 := Below_then hb hb2
      clear hst hbk hvl hsn ho hb2
      go_wp2
      go_roundw
      case rel =>
        refine ⟨k + 1, vs ++ [.slice A2 row.length c2'], by omega, by go_num, ?_, hb3.setCell (Nat.le_refl _) _⟩
        have := HSN.out
        rw [List.take_add_one, HRow.out]
        exact this
      case measure => simp [intOf]; omega
    · obtain rfl : k = rows.length := by omega
      have d1 : decide (rows.length < rows.length) = false := by simp
      rw [Nat.sub_self, List.replicate_zero, List.take_length] at hst
      clear hvl
      go_wp2
      go_ret
      exact ⟨_, vs, rfl, hst, hb⟩
end Go.Proofs.YtedfopebkgbbnaaDoor
