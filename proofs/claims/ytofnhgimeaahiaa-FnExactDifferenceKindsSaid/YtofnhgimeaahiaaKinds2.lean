/- Contracts: DifferenceKinds: invalid arms. -/
import Derived.Test.YtofnhgimeaahiaaKinds
import Derived.Test.YtofnhgimeaahiaaTbl
namespace Go.Proofs.Ytofnhgimeaahiaa
open Go.ChangeShapes Go.WideShapes Go.ChangeAt Go.RowKit
set_option linter.unusedVariables false
set_option linter.unusedSimpArgs false

set_option maxHeartbeats 2000000 in
theorem implKinds_no (a b : ArmsD) (w : World) (hn : kindOk a b = false) : Calls Try.prog 10 #[.agg (ac a).toArray, .agg (ac b).toArray] w (IntsOk w [] false) := by
  have KA := fun w' => IsValidArmsC a w'
  have KB := fun w' => IsValidArmsC b w'
  unfold kindOk at hn
  cases q : armsOk a
  · rw [q] at KA
    have KA' := Lib.hid KA
    clear KA KB hn q
    go_enter Try.func10, Try.ntmps10
    go_wp2_with (first | (refine ldA rfl _ rfl w.heap.size _ rfl a (rangeAt_blk (heap_keepA (heap_hit _ _ _ rfl) _)) ?_) | (refine ldA rfl _ rfl w.heap.size _ rfl a (rangeAt_blk (heap_keepA (heap_keepA (heap_hit _ _ _ rfl) _) _)) ?_) | (go_at_call 33; refine (KA'.out _).mono ?_; rintro e w1 ⟨rfl, hb1⟩) | fail)
    go_ret2
    exact ⟨_, rfl, OwnI.nil _ _ _, by (repeat (first | exact Below.refl _ _ | assumption | refine Below_al ?_ _ | refine Below.drew ?_ | refine Below_then ?_ (by assumption) | refine Below.setCell ?_ (by first | omega | (simp; done) | (simp; omega)) _))⟩
  · rw [q, Bool.true_and] at hn
    rw [q] at KA
    rw [hn] at KB
    have KA' := Lib.hid KA
    have KB' := Lib.hid KB
    have HBOX := Lib.hid (boxes15 a b w)
    have HBH := Lib.hid (boxesH a b w)
    clear KA KB hn q
    go_enter Try.func10, Try.ntmps10
    go_wp2_with (first | (refine ldA rfl _ rfl w.heap.size _ rfl a (rangeAt_blk (heap_keepA (heap_hit _ _ _ rfl) _)) ?_) | (refine ldA rfl _ rfl w.heap.size _ rfl a (rangeAt_blk (heap_keepA (heap_keepA (heap_hit _ _ _ rfl) _) _)) ?_) | (go_at_call 33; first | ((with_reducible refine (KA'.out _).mono ?_); rintro e w1 ⟨rfl, hb1⟩; have hr2 := blk_cells (HBH.out w1 (by (repeat (first | exact Below.refl _ _ | assumption | refine Below_al ?_ _ | refine Below.drew ?_ | refine Below_then ?_ (by assumption) | refine Below.setCell ?_ (by first | omega | (simp; done) | (simp; omega)) _)))).2) | (refine (KB'.out _).mono ?_; rintro e w2 ⟨rfl, hb2⟩; clear hr2)) | fail)
    go_ret2
    exact ⟨_, rfl, OwnI.nil _ _ _, by (repeat (first | exact Below.refl _ _ | assumption | refine Below_al ?_ _ | refine Below.drew ?_ | refine Below_then ?_ (by assumption) | refine Below.setCell ?_ (by first | omega | (simp; done) | (simp; omega)) _))⟩

set_option maxHeartbeats 2000000 in
theorem specKinds_no (a b : ArmsD) (w : World) (hn : kindOk a b = false) : Calls Try.prog 8 #[.agg (ac a).toArray, .agg (ac b).toArray] w (IntsOk w [] false) := by
  have KA := fun w' => l5GoodC a w'
  have KB := fun w' => l5GoodC b w'
  unfold kindOk at hn
  cases q : armsOk a
  · rw [q] at KA
    have KA' := Lib.hid KA
    clear KA KB hn q
    go_enter Try.func8, Try.ntmps8
    go_wp2_with (first | (refine ldA rfl _ rfl w.heap.size _ rfl a (rangeAt_blk (heap_keepA (heap_hit _ _ _ rfl) _)) ?_) | (refine ldA rfl _ rfl w.heap.size _ rfl a (rangeAt_blk (heap_keepA (heap_keepA (heap_hit _ _ _ rfl) _) _)) ?_) | (go_at_call 30; refine (KA'.out _).mono ?_; rintro e w1 ⟨rfl, hb1⟩) | fail)
    go_ret2
    exact ⟨_, rfl, (OwnI.noneT ((w.alloc (.cells (ac a).toArray 34)).alloc (.cells (ac b).toArray 34)) w.heap.size (w.heap.size + 1 + 1) (by simp) (by omega)).below hb1, by (repeat (first | exact Below.refl _ _ | assumption | refine Below_al ?_ _ | refine Below.drew ?_ | refine Below_then ?_ (by assumption) | refine Below.setCell ?_ (by first | omega | (simp; done) | (simp; omega)) _))⟩
  · rw [q, Bool.true_and] at hn
    rw [q] at KA
    rw [hn] at KB
    have KA' := Lib.hid KA
    have KB' := Lib.hid KB
    have HBOX := Lib.hid (boxes15 a b w)
    have HBH := Lib.hid (boxesH a b w)
    clear KA KB hn q
    go_enter Try.func8, Try.ntmps8
    go_wp2_with (first | (refine ldA rfl _ rfl w.heap.size _ rfl a (rangeAt_blk (heap_keepA (heap_hit _ _ _ rfl) _)) ?_) | (refine ldA rfl _ rfl w.heap.size _ rfl a (rangeAt_blk (heap_keepA (heap_keepA (heap_hit _ _ _ rfl) _) _)) ?_) | (go_at_call 30; first | ((with_reducible refine (KA'.out _).mono ?_); rintro e w1 ⟨rfl, hb1⟩; have hr2 := blk_cells (HBH.out w1 (by (repeat (first | exact Below.refl _ _ | assumption | refine Below_al ?_ _ | refine Below.drew ?_ | refine Below_then ?_ (by assumption) | refine Below.setCell ?_ (by first | omega | (simp; done) | (simp; omega)) _)))).2) | (refine (KB'.out _).mono ?_; rintro e w2 ⟨rfl, hb2⟩; clear hr2)) | fail)
    go_ret2
    exact ⟨_, rfl, (OwnI.noneT ((w.alloc (.cells (ac a).toArray 34)).alloc (.cells (ac b).toArray 34)) w.heap.size (w.heap.size + 1 + 1) (by simp) (by omega)).below (Below_then hb1 hb2), by (repeat (first | exact Below.refl _ _ | assumption | refine Below_al ?_ _ | refine Below.drew ?_ | refine Below_then ?_ (by assumption) | refine Below.setCell ?_ (by first | omega | (simp; done) | (simp; omega)) _))⟩
end Go.Proofs.Ytofnhgimeaahiaa
