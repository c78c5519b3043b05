/- What the draws of the laws on pictures give. -/
import Derived.Test.YtlbggefccgpgaaaPicD2
namespace Go.Proofs.Ytlbggefccgpgaaa
open Go.ChangeShapes Go.WideShapes Go.ChangeAt Go.RowKit
set_option linter.unusedVariables false
set_option linter.unusedSimpArgs false
def DrawPic (w : World) (e : Ending) (w' : World) : Prop := ∃ A c rows, e = .returned (.slice A rows.length c) ∧ RdG w' A rows ∧ Small rows ∧ Below w.heap.size w w'
set_option maxHeartbeats 4000000 in
theorem DrawIsValidPicture_any (A : Option Addr) (n c : Nat) (w : World) (h : RdU w A n) (hn : n ≤ 65536) : Calls Try.prog 17 #[.slice A n c] w (DrawPic w) := by
  go_enter Try.func17, Try.ntmps17
  have hB := Below.refl w.heap.size w
  replace hB := Below_al hB (.cells #[.slice A n c, .int .i64 0, .int .u64 0] 56)
  have hc : Cur (w.alloc (.cells #[.slice A n c, .int .i64 0, .int .u64 0] 56)) (w.heap.size) 0 := curStart h hn (heap_hit _ _ _ (by simp)) hB (by omega)
  go_wp2_with fail
  refine (anyPicture_any (w.heap.size) 0 _ hc (by omega)).mono ?_
  rintro e v1 ⟨A1, c1, rows, rfl, hk, hs, -, hg⟩
  have HK := Lib.hid (hk _ (World.grownBy.refl _ _))
  have HG := Lib.hid (drawEnd hg hB (by omega))
  clear hk hg hc hB
  go_wp2
  go_ret
  exact ⟨_, _, rows, rfl, HK.out, hs, HG.out⟩
theorem DrawHatchText_any (A : Option Addr) (n c : Nat) (w : World) (h : RdU w A n) (hn : n ≤ 65536) : Calls Try.prog 5 #[.slice A n c] w (DrawPic w) := by
  go_enter Try.func5, Try.ntmps5
  go_wp2_with fail
  refine (DrawIsValidPicture_any A n c _ h hn).mono ?_
  rintro e v1 ⟨A1, c1, rows, rfl, hr, hs, hb⟩
  go_wp2
  go_ret
  exact ⟨_, _, rows, rfl, hr, hs, hb⟩
def Draw3 (w : World) (e : Ending) (w' : World) : Prop := ∃ x y z, e = .returned (.tuple #[.int .i64 x, .int .i64 y, .int .i64 z]) ∧ Below w.heap.size w w'
set_option maxHeartbeats 4000000 in
theorem DrawHatchByte_any (A : Option Addr) (n c : Nat) (w : World) (h : RdU w A n) (hn : n ≤ 65536) : Calls Try.prog 12 #[.slice A n c] w (Draw3 w) := by
  go_enter Try.func12, Try.ntmps12
  have hB := Below.refl w.heap.size w
  replace hB := Below_al hB (.cells #[.slice A n c, .int .i64 0, .int .u64 0] 56)
  have hc : Cur (w.alloc (.cells #[.slice A n c, .int .i64 0, .int .u64 0] 56)) (w.heap.size) 0 := curStart h hn (heap_hit _ _ _ (by simp)) hB (by omega)
  go_wp2_with fail
  refine (anyTincture_any (w.heap.size) 0 _ hc (by omega)).mono ?_
  rintro e v1 ⟨z1, rfl, -, hc1, hg1⟩
  go_wp2_with fail
  refine (pick_any (w.heap.size) (0 + 2) 22 _ hc1 (by omega) (by omega) (by omega)).mono ?_
  rintro e v2 ⟨z2, rfl, ⟨a2, b2⟩, hc2, hg2⟩
  go_wp2_with fail
  refine (pick_any (w.heap.size) (0 + 2 + 1) 26 _ hc2 (by omega) (by omega) (by omega)).mono ?_
  rintro e v3 ⟨z3, rfl, ⟨a3, b3⟩, hc3, hg3⟩
  have HG := Lib.hid (drawEnd (grownBy_trans (grownBy_trans hg1 hg2) hg3) hB (by omega))
  clear hg1 hg2 hg3 hc hc1 hc2 hc3 hB
  go_wp2
  go_ret3
  exact ⟨_, _, _, rfl, HG.out⟩
def DrawPics (w : World) (e : Ending) (w' : World) : Prop := ∃ A c rows A2 c2 rows2, e = .returned (.tuple #[.slice A rows.length c, .slice A2 rows2.length c2]) ∧ RdG w' A rows ∧ Small rows ∧ RdG w' A2 rows2 ∧ Small rows2 ∧ Below w.heap.size w w'
set_option maxHeartbeats 4000000 in
theorem DrawChangedCells_any (A : Option Addr) (n c : Nat) (w : World) (h : RdU w A n) (hn : n ≤ 65536) : Calls Try.prog 14 #[.slice A n c] w (DrawPics w) := by
  go_enter Try.func14, Try.ntmps14
  have hB := Below.refl w.heap.size w
  replace hB := Below_al hB (.cells #[.slice A n c, .int .i64 0, .int .u64 0] 56)
  have hc : Cur (w.alloc (.cells #[.slice A n c, .int .i64 0, .int .u64 0] 56)) (w.heap.size) 0 := curStart h hn (heap_hit _ _ _ (by simp)) hB (by omega)
  go_wp2_with fail
  refine (anyPicture_any (w.heap.size) 0 _ hc (by omega)).mono ?_
  rintro e v1 ⟨A1, c1, rows, rfl, hk, hs, hc1, hg⟩
  have HK := Lib.hid hk
  clear hk
  go_wp2_with fail
  refine (anyPicture_any (w.heap.size) (0 + 15) _ hc1 (by omega)).mono ?_
  rintro e v2 ⟨A2, c2, rows2, rfl, hk2, hs2, -, hg2⟩
  have HR := Lib.hid (HK.out _ hg2)
  have HR2 := Lib.hid (hk2 _ (World.grownBy.refl _ _))
  have HG := Lib.hid (drawEnd (grownBy_trans hg hg2) hB (by omega))
  clear hg hg2 hc hc1 hB hk2
  go_wp2
  go_ret2
  exact ⟨_, _, rows, _, _, rows2, rfl, HR.out, hs, HR2.out, hs2, HG.out⟩
end Go.Proofs.Ytlbggefccgpgaaa
