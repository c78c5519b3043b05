/- What the draws of the geometry give. -/
import Derived.Test.YtfmigkiliggdhaaCur2
namespace Go.Proofs.Ytfmigkiliggdhaa
open Go.ChangeShapes Go.WideShapes Go.ChangeAt Go.RowKit
set_option linter.unusedVariables false
set_option linter.unusedSimpArgs false
/-- n bytes lie at A. -/
def RdU (w : World) (A : Option Addr) (n : Nat) : Prop :=
  n = 0 ∨ ∃ cb off, A = some ⟨cb, off, none⟩ ∧ ∀ i, i < n → ∃ z : Int, w.cell? ⟨cb, off + i, none⟩ = some (.int .u8 z) ∧ 0 ≤ z ∧ z ≤ 255
theorem RdU.below {w w' : World} {A : Option Addr} {n : Nat} (h : RdU w A n) (hb : Below w.heap.size w w') : RdU w' A n := by
  rcases h with h | ⟨cb, off, hA, h1⟩
  · exact .inl h
  · refine .inr ⟨cb, off, hA, fun i hi => ?_⟩
    obtain ⟨z, h2, h3⟩ := h1 i hi
    exact ⟨z, keep_cell h2 hb, h3⟩
theorem curStart {w w' : World} {A : Option Addr} {n c b : Nat} (h : RdU w A n) (hn : n ≤ 65536) (hb : w'.heap[b]? = some (.cells #[.slice A n c, .int .i64 0, .int .u64 0] 55 (0, 0))) (hB : Below w.heap.size w w') (hge : w.heap.size ≤ b) : Cur w' b 0 := by
  refine ⟨A, n, c, 0, 0, hb, Int.le_refl _, by simp, hn, ?_⟩
  rcases h with h | ⟨cb, off, hA, h1⟩
  · exact .inl h
  · by_cases h0 : n = 0
    · exact .inl h0
    · obtain ⟨z, h2, -⟩ := h1 0 (by omega)
      have hl := World.block_lt_of_cell? w _ h2
      refine .inr ⟨cb, off, hA, by dsimp only at hl; omega, fun i hi => ?_⟩
      obtain ⟨z, h3, h4⟩ := h1 i hi
      exact ⟨z, keep_cell h3 hB, h4⟩
theorem drawEnd {w w1 w2 : World} {b : Nat} (h : w1.grownBy w2 (some b)) (hb : Below w.heap.size w w1) (hge : w.heap.size ≤ b) : Below w.heap.size w w2 :=
  ⟨h.os.trans hb.os, h.tape.trans hb.tape, h.output.trans hb.output, Nat.le_trans hb.size h.size, fun k hk => (h.block k (by have := hb.size; omega) (fun e => by injection e with e; omega)).trans (hb.block k hk)⟩
def Draw1 (w : World) (ok : Int → Prop) (e : Ending) (w' : World) : Prop := ∃ x, e = .returned (.int .i64 x) ∧ ok x ∧ Below w.heap.size w w'
def Draw2 (w : World) (ok : Int → Int → Prop) (e : Ending) (w' : World) : Prop := ∃ x y, e = .returned (.tuple #[.int .i64 x, .int .i64 y]) ∧ ok x y ∧ Below w.heap.size w w'
def DrawF (w : World) (e : Ending) (w' : World) : Prop := ∃ d l p q : Int, e = .returned (.agg #[.int .i64 d, .int .i64 l, .int .i64 p, .int .i64 q]) ∧ Below w.heap.size w w'
def DrawF1 (w : World) (ok : Int → Prop) (e : Ending) (w' : World) : Prop := ∃ d l p q x : Int, e = .returned (.tuple #[.agg #[.int .i64 d, .int .i64 l, .int .i64 p, .int .i64 q], .int .i64 x]) ∧ ok x ∧ Below w.heap.size w w'
def DrawF2 (w : World) (ok : Int → Int → Prop) (e : Ending) (w' : World) : Prop := ∃ d l p q x y : Int, e = .returned (.tuple #[.agg #[.int .i64 d, .int .i64 l, .int .i64 p, .int .i64 q], .int .i64 x, .int .i64 y]) ∧ ok x y ∧ Below w.heap.size w w'

set_option maxHeartbeats 4000000 in
theorem DrawPartRegion_any (A : Option Addr) (n c : Nat) (w : World) (h : RdU w A n) (hn : n ≤ 65536) : Calls Try.prog 7 #[.slice A n c] w (Draw2 w fun x y => (-1 ≤ x ∧ x ≤ 8) ∧ (-1 ≤ y ∧ y ≤ 2)) := by
  go_enter Try.func7, Try.ntmps7
  have hB := Below.refl w.heap.size w
  replace hB := Below_al hB (.cells #[.slice A n c, .int .i64 0, .int .u64 0] 55)
  have hc : Cur (w.alloc (.cells #[.slice A n c, .int .i64 0, .int .u64 0] 55)) (w.heap.size) 0 := curStart h hn (heap_hit _ _ _ (by simp)) hB (by omega)
  have hG := World.grownBy.refl (w.alloc (.cells #[.slice A n c, .int .i64 0, .int .u64 0] 55)) (some (w.heap.size))
  go_wp2_with fail
  refine (pick_any (w.heap.size) 0 10 _ hc (by omega) (by omega) (by omega)).mono ?_
  rintro e v1 ⟨x, rfl, ⟨x0, x1⟩, hc2, hg⟩
  have hlt := hc.lt
  try simp only [World.size_alloc, World.size_setCell, World.size_drew] at hlt
  have hsv1 := hg.size
  try simp only [World.size_alloc, World.size_setCell, World.size_drew] at hsv1
  replace hG := grownBy_trans hG hg
  replace hc := hc2
  clear hg hc2 hlt
  go_wp2_with fail
  refine (pick_any (w.heap.size) (0 + 1) 4 _ hc (by omega) (by omega) (by omega)).mono ?_
  rintro e v2 ⟨y, rfl, ⟨y0, y1⟩, hc2, hg⟩
  have hlt := hc.lt
  try simp only [World.size_alloc, World.size_setCell, World.size_drew] at hlt
  have hsv2 := hg.size
  try simp only [World.size_alloc, World.size_setCell, World.size_drew] at hsv2
  replace hG := grownBy_trans hG hg
  replace hc := hc2
  clear hg hc2 hlt
  go_wp2
  go_ret2
  exact ⟨_, _, rfl, by omega, drawEnd hG hB (by omega)⟩

set_option maxHeartbeats 4000000 in
theorem DrawOrdinaryCells_any (A : Option Addr) (n c : Nat) (w : World) (h : RdU w A n) (hn : n ≤ 65536) : Calls Try.prog 14 #[.slice A n c] w (Draw1 w fun x => (-1 ≤ x ∧ x ≤ 8)) := by
  go_enter Try.func14, Try.ntmps14
  have hB := Below.refl w.heap.size w
  replace hB := Below_al hB (.cells #[.slice A n c, .int .i64 0, .int .u64 0] 55)
  have hc : Cur (w.alloc (.cells #[.slice A n c, .int .i64 0, .int .u64 0] 55)) (w.heap.size) 0 := curStart h hn (heap_hit _ _ _ (by simp)) hB (by omega)
  have hG := World.grownBy.refl (w.alloc (.cells #[.slice A n c, .int .i64 0, .int .u64 0] 55)) (some (w.heap.size))
  go_wp2_with fail
  refine (pick_any (w.heap.size) 0 10 _ hc (by omega) (by omega) (by omega)).mono ?_
  rintro e v1 ⟨x, rfl, ⟨x0, x1⟩, hc2, hg⟩
  have hlt := hc.lt
  try simp only [World.size_alloc, World.size_setCell, World.size_drew] at hlt
  have hsv1 := hg.size
  try simp only [World.size_alloc, World.size_setCell, World.size_drew] at hsv1
  replace hG := grownBy_trans hG hg
  replace hc := hc2
  clear hg hc2 hlt
  go_wp2
  go_ret
  exact ⟨_, rfl, by omega, drawEnd hG hB (by omega)⟩

set_option maxHeartbeats 4000000 in
theorem DrawInShield_any (A : Option Addr) (n c : Nat) (w : World) (h : RdU w A n) (hn : n ≤ 65536) : Calls Try.prog 18 #[.slice A n c] w (Draw2 w fun x y => (-1 ≤ x ∧ x ≤ 20) ∧ (-1 ≤ y ∧ y ≤ 24)) := by
  go_enter Try.func18, Try.ntmps18
  have hB := Below.refl w.heap.size w
  replace hB := Below_al hB (.cells #[.slice A n c, .int .i64 0, .int .u64 0] 55)
  have hc : Cur (w.alloc (.cells #[.slice A n c, .int .i64 0, .int .u64 0] 55)) (w.heap.size) 0 := curStart h hn (heap_hit _ _ _ (by simp)) hB (by omega)
  have hG := World.grownBy.refl (w.alloc (.cells #[.slice A n c, .int .i64 0, .int .u64 0] 55)) (some (w.heap.size))
  go_wp2_with fail
  refine (pick_any (w.heap.size) 0 22 _ hc (by omega) (by omega) (by omega)).mono ?_
  rintro e v1 ⟨x, rfl, ⟨x0, x1⟩, hc2, hg⟩
  have hlt := hc.lt
  try simp only [World.size_alloc, World.size_setCell, World.size_drew] at hlt
  have hsv1 := hg.size
  try simp only [World.size_alloc, World.size_setCell, World.size_drew] at hsv1
  replace hG := grownBy_trans hG hg
  replace hc := hc2
  clear hg hc2 hlt
  go_wp2_with fail
  refine (among_new (w.heap.size) (0 + 1) 11 11 _ [0, 11, 12, 15, 18, 20, 21, 22, 23, 24, -1] 3 _ hc (by omega) (by omega) (by simp) (by omega) (by simp)).mono ?_
  rintro e v2 ⟨y, rfl, ym, hc2, hg⟩
  have hlt := hc.lt
  try simp only [World.size_alloc, World.size_setCell, World.size_drew] at hlt
  have hsv2 := hg.size
  try simp only [World.size_alloc, World.size_setCell, World.size_drew] at hsv2
  replace hG := grownBy_trans hG hg
  replace hc := hc2
  clear hg hc2 hlt
  have yb : -1 ≤ y ∧ y ≤ 24 := by simp at ym; omega
  go_wp2
  go_ret2
  exact ⟨_, _, rfl, by omega, drawEnd hG hB (by omega)⟩

set_option maxHeartbeats 4000000 in
theorem DrawLineOffset_any (A : Option Addr) (n c : Nat) (w : World) (h : RdU w A n) (hn : n ≤ 65536) : Calls Try.prog 21 #[.slice A n c] w (Draw2 w fun x y => (-1 ≤ x ∧ x ≤ 5) ∧ (-1 ≤ y ∧ y ≤ 1001)) := by
  go_enter Try.func21, Try.ntmps21
  have hB := Below.refl w.heap.size w
  replace hB := Below_al hB (.cells #[.slice A n c, .int .i64 0, .int .u64 0] 55)
  have hc : Cur (w.alloc (.cells #[.slice A n c, .int .i64 0, .int .u64 0] 55)) (w.heap.size) 0 := curStart h hn (heap_hit _ _ _ (by simp)) hB (by omega)
  have hG := World.grownBy.refl (w.alloc (.cells #[.slice A n c, .int .i64 0, .int .u64 0] 55)) (some (w.heap.size))
  go_wp2_with fail
  refine (line10_any (w.heap.size) 0 _ hc (by omega)).mono ?_
  rintro e v1 ⟨x, rfl, xb, hc2, hg⟩
  have hlt := hc.lt
  try simp only [World.size_alloc, World.size_setCell, World.size_drew] at hlt
  have hsv1 := hg.size
  try simp only [World.size_alloc, World.size_setCell, World.size_drew] at hsv1
  replace hG := grownBy_trans hG hg
  replace hc := hc2
  clear hg hc2 hlt
  go_wp2_with fail
  have hr := RdI.blk (heap_hit v1 (.cells (ints [0, 1, 2, 3, 4, 5, 6, 7, 8, 1000, -1, 1001]) 3) _ rfl)
  replace hc := hc.alloc (.cells (ints [0, 1, 2, 3, 4, 5, 6, 7, 8, 1000, -1, 1001]) 3)
  replace hG := grownBy_below hG (Below_al (Below.refl _ _) (.cells (ints [0, 1, 2, 3, 4, 5, 6, 7, 8, 1000, -1, 1001]) 3))
  refine (pick_any (w.heap.size) (0 + 2) 24 _ hc (by omega) (by omega) (by omega)).mono ?_
  rintro e v2 ⟨jy, rfl, ⟨j0, j1⟩, hc2, hg⟩
  have hlt := hc.lt
  try simp only [World.size_alloc, World.size_setCell, World.size_drew] at hlt
  have hsv2 := hg.size
  try simp only [World.size_alloc, World.size_setCell, World.size_drew] at hsv2
  replace hG := grownBy_trans hG hg
  replace hr := hr.grown hg (fun cb off e => by injection e with e; injection e with e; intro e2; injection e2 with e2; omega)
  replace hc := hc2
  clear hg hc2
  obtain ⟨j, rfl⟩ : ∃ j : Nat, jy = (j : Int) := ⟨jy.toNat, by omega⟩
  have q0 : (0 : Int) ≤ 10 + (j : Int) / 11 := by omega
  have q1 : 10 + (j : Int) / 11 ≤ 12 := by omega
  have q2 : 10 + j / 11 ≤ 12 := by omega
  go_wp2_with fail
  refine (among_any (w.heap.size) (0 + 3) _ _ _ _ _ hc (by omega) hr (by omega) (by simp; omega) (by omega) (fun cb off e => by injection e with e; injection e with e; omega)).mono ?_
  rintro e v3 ⟨y, rfl, ym, hc2, hg⟩
  have hsv3 := hg.size
  try simp only [World.size_alloc, World.size_setCell, World.size_drew] at hsv3
  replace hG := grownBy_trans hG hg
  replace hc := hc2
  clear hg hc2 hlt hr
  have yb : -1 ≤ y ∧ y ≤ 1001 := by simp at ym; omega
  go_wp2
  go_ret2
  exact ⟨_, _, rfl, by omega, drawEnd hG hB (by omega)⟩

set_option maxHeartbeats 4000000 in
theorem DrawLineTurns_any (A : Option Addr) (n c : Nat) (w : World) (h : RdU w A n) (hn : n ≤ 65536) : Calls Try.prog 29 #[.slice A n c] w (Draw2 w fun x y => (-1 ≤ x ∧ x ≤ 5) ∧ (0 ≤ y ∧ y ≤ 1001)) := by
  go_enter Try.func29, Try.ntmps29
  have hB := Below.refl w.heap.size w
  replace hB := Below_al hB (.cells #[.slice A n c, .int .i64 0, .int .u64 0] 55)
  have hc : Cur (w.alloc (.cells #[.slice A n c, .int .i64 0, .int .u64 0] 55)) (w.heap.size) 0 := curStart h hn (heap_hit _ _ _ (by simp)) hB (by omega)
  have hG := World.grownBy.refl (w.alloc (.cells #[.slice A n c, .int .i64 0, .int .u64 0] 55)) (some (w.heap.size))
  go_wp2_with fail
  refine (line10_any (w.heap.size) 0 _ hc (by omega)).mono ?_
  rintro e v1 ⟨x, rfl, xb, hc2, hg⟩
  have hlt := hc.lt
  try simp only [World.size_alloc, World.size_setCell, World.size_drew] at hlt
  have hsv1 := hg.size
  try simp only [World.size_alloc, World.size_setCell, World.size_drew] at hsv1
  replace hG := grownBy_trans hG hg
  replace hc := hc2
  clear hg hc2 hlt
  go_wp2_with fail
  have hr := RdI.blk (heap_hit v1 (.cells (ints [1, 2, 5, 8, 20, 1000, 0, 1001]) 3) _ rfl)
  replace hc := hc.alloc (.cells (ints [1, 2, 5, 8, 20, 1000, 0, 1001]) 3)
  replace hG := grownBy_below hG (Below_al (Below.refl _ _) (.cells (ints [1, 2, 5, 8, 20, 1000, 0, 1001]) 3))
  refine (pick_any (w.heap.size) (0 + 2) 24 _ hc (by omega) (by omega) (by omega)).mono ?_
  rintro e v2 ⟨jy, rfl, ⟨j0, j1⟩, hc2, hg⟩
  have hlt := hc.lt
  try simp only [World.size_alloc, World.size_setCell, World.size_drew] at hlt
  have hsv2 := hg.size
  try simp only [World.size_alloc, World.size_setCell, World.size_drew] at hsv2
  replace hG := grownBy_trans hG hg
  replace hr := hr.grown hg (fun cb off e => by injection e with e; injection e with e; intro e2; injection e2 with e2; omega)
  replace hc := hc2
  clear hg hc2
  obtain ⟨j, rfl⟩ : ∃ j : Nat, jy = (j : Int) := ⟨jy.toNat, by omega⟩
  have q0 : (0 : Int) ≤ 6 + (j : Int) / 11 := by omega
  have q1 : 6 + (j : Int) / 11 ≤ 8 := by omega
  have q2 : 6 + j / 11 ≤ 8 := by omega
  go_wp2_with fail
  refine (among_any (w.heap.size) (0 + 3) _ _ _ _ _ hc (by omega) hr (by omega) (by simp; omega) (by omega) (fun cb off e => by injection e with e; injection e with e; omega)).mono ?_
  rintro e v3 ⟨y, rfl, ym, hc2, hg⟩
  have hsv3 := hg.size
  try simp only [World.size_alloc, World.size_setCell, World.size_drew] at hsv3
  replace hG := grownBy_trans hG hg
  replace hc := hc2
  clear hg hc2 hlt hr
  have yb : 0 ≤ y ∧ y ≤ 1001 := by simp at ym; omega
  go_wp2
  go_ret2
  exact ⟨_, _, rfl, by omega, drawEnd hG hB (by omega)⟩

set_option maxHeartbeats 4000000 in
theorem DrawLinedOrdinary_any (A : Option Addr) (n c : Nat) (w : World) (h : RdU w A n) (hn : n ≤ 65536) : Calls Try.prog 40 #[.slice A n c] w (Draw2 w fun x y => (-1 ≤ x ∧ x ≤ 8) ∧ (-1 ≤ y ∧ y ≤ 5)) := by
  go_enter Try.func40, Try.ntmps40
  have hB := Below.refl w.heap.size w
  replace hB := Below_al hB (.cells #[.slice A n c, .int .i64 0, .int .u64 0] 55)
  have hc : Cur (w.alloc (.cells #[.slice A n c, .int .i64 0, .int .u64 0] 55)) (w.heap.size) 0 := curStart h hn (heap_hit _ _ _ (by simp)) hB (by omega)
  have hG := World.grownBy.refl (w.alloc (.cells #[.slice A n c, .int .i64 0, .int .u64 0] 55)) (some (w.heap.size))
  go_wp2_with fail
  refine (pick_any (w.heap.size) 0 10 _ hc (by omega) (by omega) (by omega)).mono ?_
  rintro e v1 ⟨x, rfl, ⟨x0, x1⟩, hc2, hg⟩
  have hlt := hc.lt
  try simp only [World.size_alloc, World.size_setCell, World.size_drew] at hlt
  have hsv1 := hg.size
  try simp only [World.size_alloc, World.size_setCell, World.size_drew] at hsv1
  replace hG := grownBy_trans hG hg
  replace hc := hc2
  clear hg hc2 hlt
  go_wp2_with fail
  refine (line10_any (w.heap.size) (0 + 1) _ hc (by omega)).mono ?_
  rintro e v2 ⟨y, rfl, yb, hc2, hg⟩
  have hlt := hc.lt
  try simp only [World.size_alloc, World.size_setCell, World.size_drew] at hlt
  have hsv2 := hg.size
  try simp only [World.size_alloc, World.size_setCell, World.size_drew] at hsv2
  replace hG := grownBy_trans hG hg
  replace hc := hc2
  clear hg hc2 hlt
  go_wp2
  go_ret2
  exact ⟨_, _, rfl, by omega, drawEnd hG hB (by omega)⟩

set_option maxHeartbeats 4000000 in
theorem DrawSwungCells_any (A : Option Addr) (n c : Nat) (w : World) (h : RdU w A n) (hn : n ≤ 65536) : Calls Try.prog 37 #[.slice A n c] w (DrawF w) := by
  go_enter Try.func37, Try.ntmps37
  have hB := Below.refl w.heap.size w
  have hR : (w.alloc (.cells #[.int .i64 0, .int .i64 0, .int .i64 0, .int .i64 0] 43)).heap[w.heap.size]? = some (.cells #[.int .i64 0, .int .i64 0, .int .i64 0, .int .i64 0] 43 (0, 0)) := heap_hit _ _ _ rfl
  replace hB := Below_al hB (.cells #[.int .i64 0, .int .i64 0, .int .i64 0, .int .i64 0] 43)
  replace hR := heap_keepA hR (.cells #[.slice A n c, .int .i64 0, .int .u64 0] 55)
  replace hB := Below_al hB (.cells #[.slice A n c, .int .i64 0, .int .u64 0] 55)
  have hc : Cur ((w.alloc (.cells #[.int .i64 0, .int .i64 0, .int .i64 0, .int .i64 0] 43)).alloc (.cells #[.slice A n c, .int .i64 0, .int .u64 0] 55)) (w.heap.size + 1) 0 := curStart h hn (heap_hit _ _ _ (by simp)) hB (by omega)
  have hG := World.grownBy.refl ((w.alloc (.cells #[.int .i64 0, .int .i64 0, .int .i64 0, .int .i64 0] 43)).alloc (.cells #[.slice A n c, .int .i64 0, .int .u64 0] 55)) (some (w.heap.size + 1))
  have cR0 := cell_of hR 0
  have cR1 := cell_of hR 1
  have cR2 := cell_of hR 2
  have cR3 := cell_of hR 3
  have zR := frozen_of hR
  go_wp2_with fail
  clear cR0 cR1 cR2 cR3 zR
  refine (anyField_any (w.heap.size + 1) 0 _ hc (by omega)).mono ?_
  rintro e v1 ⟨d, l, p, q, rfl, -, hc2, hg⟩
  have hlt := hc.lt
  try simp only [World.size_alloc, World.size_setCell, World.size_drew] at hlt
  have hsv1 := hg.size
  try simp only [World.size_alloc, World.size_setCell, World.size_drew] at hsv1
  replace hR := heap_keepG hR hg (fun e => by injection e with e; omega)
  replace hG := grownBy_trans hG hg
  replace hc := hc2
  clear hg hc2 hlt
  have hlt := hc.lt
  go_wp2_with (first | (refine stF rfl _ _ rfl (w.heap.size) rfl _ _ _ _ _ hR rfl rfl ?_; intro w9 h9 g9) | fail)
  have hB9 := drawEnd g9 (drawEnd hG hB (by omega)) (Nat.le_refl _)
  exact bodyPost_ret (v := .agg #[.int .i64 d, .int .i64 l, .int .i64 p, .int .i64 q]) (results_cell_row Try.results37 _ _ (w.heap.size) 43 #[.int .i64 d, .int .i64 l, .int .i64 p, .int .i64 q] (0, 0) _ rfl h9 Try.underlying43 rfl info_fd) rfl ⟨_, _, _, _, rfl, hB9⟩

set_option maxHeartbeats 4000000 in
theorem DrawFieldRegion_any (A : Option Addr) (n c : Nat) (w : World) (h : RdU w A n) (hn : n ≤ 65536) : Calls Try.prog 26 #[.slice A n c] w (DrawF1 w fun y => -1 ≤ y ∧ y ≤ 2) := by
  go_enter Try.func26, Try.ntmps26
  have hB := Below.refl w.heap.size w
  have hR : (w.alloc (.cells #[.int .i64 0, .int .i64 0, .int .i64 0, .int .i64 0] 43)).heap[w.heap.size]? = some (.cells #[.int .i64 0, .int .i64 0, .int .i64 0, .int .i64 0] 43 (0, 0)) := heap_hit _ _ _ rfl
  replace hB := Below_al hB (.cells #[.int .i64 0, .int .i64 0, .int .i64 0, .int .i64 0] 43)
  replace hR := heap_keepA hR (.cells #[.slice A n c, .int .i64 0, .int .u64 0] 55)
  replace hB := Below_al hB (.cells #[.slice A n c, .int .i64 0, .int .u64 0] 55)
  have hc : Cur ((w.alloc (.cells #[.int .i64 0, .int .i64 0, .int .i64 0, .int .i64 0] 43)).alloc (.cells #[.slice A n c, .int .i64 0, .int .u64 0] 55)) (w.heap.size + 1) 0 := curStart h hn (heap_hit _ _ _ (by simp)) hB (by omega)
  have hG := World.grownBy.refl ((w.alloc (.cells #[.int .i64 0, .int .i64 0, .int .i64 0, .int .i64 0] 43)).alloc (.cells #[.slice A n c, .int .i64 0, .int .u64 0] 55)) (some (w.heap.size + 1))
  have cR0 := cell_of hR 0
  have cR1 := cell_of hR 1
  have cR2 := cell_of hR 2
  have cR3 := cell_of hR 3
  have zR := frozen_of hR
  go_wp2_with fail
  clear cR0 cR1 cR2 cR3 zR
  refine (anyField_any (w.heap.size + 1) 0 _ hc (by omega)).mono ?_
  rintro e v1 ⟨d, l, p, q, rfl, -, hc2, hg⟩
  have hlt := hc.lt
  try simp only [World.size_alloc, World.size_setCell, World.size_drew] at hlt
  have hsv1 := hg.size
  try simp only [World.size_alloc, World.size_setCell, World.size_drew] at hsv1
  replace hR := heap_keepG hR hg (fun e => by injection e with e; omega)
  replace hG := grownBy_trans hG hg
  replace hc := hc2
  clear hg hc2 hlt
  have cR0 := cell_of hR 0
  have cR1 := cell_of hR 1
  have cR2 := cell_of hR 2
  have cR3 := cell_of hR 3
  have zR := frozen_of hR
  go_wp2_with fail
  clear cR0 cR1 cR2 cR3 zR
  have hr := RdI.blk (heap_hit v1 (.cells (ints [0, 1, 0, 1, -1, 2]) 3) _ rfl)
  replace hR := heap_keepA hR (.cells (ints [0, 1, 0, 1, -1, 2]) 3)
  replace hc := hc.alloc (.cells (ints [0, 1, 0, 1, -1, 2]) 3)
  replace hG := grownBy_below hG (Below_al (Below.refl _ _) (.cells (ints [0, 1, 0, 1, -1, 2]) 3))
  refine (pick_any (w.heap.size + 1) (0 + 7) 24 _ hc (by omega) (by omega) (by omega)).mono ?_
  rintro e v2 ⟨jy, rfl, ⟨j0, j1⟩, hc2, hg⟩
  have hlt := hc.lt
  try simp only [World.size_alloc, World.size_setCell, World.size_drew] at hlt
  have hsv2 := hg.size
  try simp only [World.size_alloc, World.size_setCell, World.size_drew] at hsv2
  replace hR := heap_keepG hR hg (fun e => by injection e with e; omega)
  replace hG := grownBy_trans hG hg
  replace hr := hr.grown hg (fun cb off e => by injection e with e; injection e with e; intro e2; injection e2 with e2; omega)
  replace hc := hc2
  clear hg hc2
  obtain ⟨j, rfl⟩ : ∃ j : Nat, jy = (j : Int) := ⟨jy.toNat, by omega⟩
  have q0 : (0 : Int) ≤ 4 + (j : Int) / 11 := by omega
  have q1 : 4 + (j : Int) / 11 ≤ 6 := by omega
  have q2 : 4 + j / 11 ≤ 6 := by omega
  have cR0 := cell_of hR 0
  have cR1 := cell_of hR 1
  have cR2 := cell_of hR 2
  have cR3 := cell_of hR 3
  have zR := frozen_of hR
  go_wp2_with fail
  clear cR0 cR1 cR2 cR3 zR
  refine (among_any (w.heap.size + 1) (0 + 8) _ _ _ _ _ hc (by omega) hr (by omega) (by simp; omega) (by omega) (fun cb off e => by injection e with e; injection e with e; omega)).mono ?_
  rintro e v3 ⟨y, rfl, ym, hc2, hg⟩
  have hsv3 := hg.size
  try simp only [World.size_alloc, World.size_setCell, World.size_drew] at hsv3
  replace hR := heap_keepG hR hg (fun e => by injection e with e; omega)
  replace hG := grownBy_trans hG hg
  replace hc := hc2
  clear hg hc2 hlt hr
  have yb : -1 ≤ y ∧ y ≤ 2 := by simp at ym; omega
  have hlt := hc.lt
  go_wp2_with (first | (refine stF rfl _ _ rfl (w.heap.size) rfl _ _ _ _ _ hR rfl rfl ?_; intro w9 h9 g9) | fail)
  have hB9 := drawEnd g9 (drawEnd hG hB (by omega)) (Nat.le_refl _)
  have k0 := cell_of h9 0
  have k1 := cell_of h9 1
  have k2 := cell_of h9 2
  have k3 := cell_of h9 3
  exact bodyPost_ret (v := .tuple #[.agg #[.int .i64 d, .int .i64 l, .int .i64 p, .int .i64 q], .int .i64 y]) (by simp [results, Try.results26, go_sem, k0, k1, k2, k3]) rfl ⟨_, _, _, _, _, rfl, by omega, hB9⟩

set_option maxHeartbeats 4000000 in
theorem DrawFieldPart_any (A : Option Addr) (n c : Nat) (w : World) (h : RdU w A n) (hn : n ≤ 65536) : Calls Try.prog 70 #[.slice A n c] w (DrawF2 w fun x y => (-1 ≤ x ∧ x ≤ 20) ∧ (-1 ≤ y ∧ y ≤ 24)) := by
  go_enter Try.func70, Try.ntmps70
  have hB := Below.refl w.heap.size w
  have hR : (w.alloc (.cells #[.int .i64 0, .int .i64 0, .int .i64 0, .int .i64 0] 43)).heap[w.heap.size]? = some (.cells #[.int .i64 0, .int .i64 0, .int .i64 0, .int .i64 0] 43 (0, 0)) := heap_hit _ _ _ rfl
  replace hB := Below_al hB (.cells #[.int .i64 0, .int .i64 0, .int .i64 0, .int .i64 0] 43)
  replace hR := heap_keepA hR (.cells #[.slice A n c, .int .i64 0, .int .u64 0] 55)
  replace hB := Below_al hB (.cells #[.slice A n c, .int .i64 0, .int .u64 0] 55)
  have hc : Cur ((w.alloc (.cells #[.int .i64 0, .int .i64 0, .int .i64 0, .int .i64 0] 43)).alloc (.cells #[.slice A n c, .int .i64 0, .int .u64 0] 55)) (w.heap.size + 1) 0 := curStart h hn (heap_hit _ _ _ (by simp)) hB (by omega)
  have hG := World.grownBy.refl ((w.alloc (.cells #[.int .i64 0, .int .i64 0, .int .i64 0, .int .i64 0] 43)).alloc (.cells #[.slice A n c, .int .i64 0, .int .u64 0] 55)) (some (w.heap.size + 1))
  have cR0 := cell_of hR 0
  have cR1 := cell_of hR 1
  have cR2 := cell_of hR 2
  have cR3 := cell_of hR 3
  have zR := frozen_of hR
  go_wp2_with fail
  clear cR0 cR1 cR2 cR3 zR
  refine (anyField_any (w.heap.size + 1) 0 _ hc (by omega)).mono ?_
  rintro e v1 ⟨d, l, p, q, rfl, -, hc2, hg⟩
  have hlt := hc.lt
  try simp only [World.size_alloc, World.size_setCell, World.size_drew] at hlt
  have hsv1 := hg.size
  try simp only [World.size_alloc, World.size_setCell, World.size_drew] at hsv1
  replace hR := heap_keepG hR hg (fun e => by injection e with e; omega)
  replace hG := grownBy_trans hG hg
  replace hc := hc2
  clear hg hc2 hlt
  have cR0 := cell_of hR 0
  have cR1 := cell_of hR 1
  have cR2 := cell_of hR 2
  have cR3 := cell_of hR 3
  have zR := frozen_of hR
  go_wp2_with fail
  clear cR0 cR1 cR2 cR3 zR
  refine (pick_any (w.heap.size + 1) (0 + 7) 22 _ hc (by omega) (by omega) (by omega)).mono ?_
  rintro e v2 ⟨x, rfl, ⟨x0, x1⟩, hc2, hg⟩
  have hlt := hc.lt
  try simp only [World.size_alloc, World.size_setCell, World.size_drew] at hlt
  have hsv2 := hg.size
  try simp only [World.size_alloc, World.size_setCell, World.size_drew] at hsv2
  replace hR := heap_keepG hR hg (fun e => by injection e with e; omega)
  replace hG := grownBy_trans hG hg
  replace hc := hc2
  clear hg hc2 hlt
  have cR0 := cell_of hR 0
  have cR1 := cell_of hR 1
  have cR2 := cell_of hR 2
  have cR3 := cell_of hR 3
  have zR := frozen_of hR
  go_wp2_with fail
  clear cR0 cR1 cR2 cR3 zR
  refine (pick_any (w.heap.size + 1) (0 + 8) 26 _ hc (by omega) (by omega) (by omega)).mono ?_
  rintro e v3 ⟨y, rfl, ⟨y0, y1⟩, hc2, hg⟩
  have hlt := hc.lt
  try simp only [World.size_alloc, World.size_setCell, World.size_drew] at hlt
  have hsv3 := hg.size
  try simp only [World.size_alloc, World.size_setCell, World.size_drew] at hsv3
  replace hR := heap_keepG hR hg (fun e => by injection e with e; omega)
  replace hG := grownBy_trans hG hg
  replace hc := hc2
  clear hg hc2 hlt
  have hlt := hc.lt
  go_wp2_with (first | (refine stF rfl _ _ rfl (w.heap.size) rfl _ _ _ _ _ hR rfl rfl ?_; intro w9 h9 g9) | fail)
  have hB9 := drawEnd g9 (drawEnd hG hB (by omega)) (Nat.le_refl _)
  have k0 := cell_of h9 0
  have k1 := cell_of h9 1
  have k2 := cell_of h9 2
  have k3 := cell_of h9 3
  exact bodyPost_ret (v := .tuple #[.agg #[.int .i64 d, .int .i64 l, .int .i64 p, .int .i64 q], .int .i64 (x - 1), .int .i64 (y - 1)]) (by simp [results, Try.results70, go_sem, k0, k1, k2, k3]) rfl ⟨_, _, _, _, _, _, rfl, by omega, hB9⟩

set_option maxHeartbeats 4000000 in
theorem DrawFieldTincture_any (A : Option Addr) (n c : Nat) (w : World) (h : RdU w A n) (hn : n ≤ 65536) : Calls Try.prog 32 #[.slice A n c] w (DrawF2 w fun x y => (-1 ≤ x ∧ x ≤ 20) ∧ (-1 ≤ y ∧ y ≤ 24)) := by
  go_enter Try.func32, Try.ntmps32
  have hB := Below_al (Below.refl w.heap.size w) (.cells #[.int .i64 0, .int .i64 0, .int .i64 0, .int .i64 0] 43)
  have hR : (w.alloc (.cells #[.int .i64 0, .int .i64 0, .int .i64 0, .int .i64 0] 43)).heap[w.heap.size]? = some (.cells #[.int .i64 0, .int .i64 0, .int .i64 0, .int .i64 0] 43 (0, 0)) := heap_hit _ _ _ rfl
  go_wp2_with fail
  refine (DrawFieldPart_any A n c _ (h.below hB) hn).mono ?_
  rintro e w2 ⟨d, l, p, q, x, y, rfl, hxy, hb2⟩
  replace hB := Below_then hB hb2
  replace hR := heap_keepB hR hb2
  go_wp2_with (first | (refine stF rfl _ _ rfl (w.heap.size) rfl _ _ _ _ _ hR rfl rfl ?_; intro w9 h9 g9) | fail)
  have hB9 := drawEnd g9 hB (Nat.le_refl _)
  have k0 := cell_of h9 0
  have k1 := cell_of h9 1
  have k2 := cell_of h9 2
  have k3 := cell_of h9 3
  exact bodyPost_ret (v := .tuple #[.agg #[.int .i64 d, .int .i64 l, .int .i64 p, .int .i64 q], .int .i64 x, .int .i64 y]) (by simp [results, Try.results32, go_sem, k0, k1, k2, k3]) rfl ⟨_, _, _, _, _, _, rfl, hxy, hB9⟩

end Go.Proofs.Ytfmigkiliggdhaa
