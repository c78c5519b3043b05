/- Contracts: FeaturesOf, both sides. -/
import Derived.Test.YthlemcoimoibmaaDoorFeat4
import Derived.Test.YthlemcoimoibmaaDoorFeat3
import Derived.Test.YthlemcoimoibmaaDoorStrs2
namespace Go.Proofs.YthlemcoimoibmaaDoor
open Go.ChangeShapes Go.WideShapes Go.ChangeAt Go.RowKit
set_option linter.unusedVariables false
set_option linter.unusedSimpArgs false
def StrsOk (w : World) (zs : List ByteArray) (ok : Bool) (e : Ending) (w' : World) : Prop := ∃ v, e = .returned (.tuple #[v, .bool ok]) ∧ OwnS w' w.heap.size 9 v zs ∧ Below w.heap.size w w'
/-- The features, and none of arms that are not valid. -/
def fOf (a : ArmsD) : List ByteArray := bif armsOk a then featL a else []
theorem featL_len (a : ArmsD) : (featL a).length ≤ 100 := by
  have h1 := putAll_len (raw2 a)
  have h2 := rawT_len a
  have h3 := bif_len (decide (0 < a.l)) (fi 108 a.l)
  have h4 := bif_len (decide (0 < a.li)) (fi 108 a.li)
  have h5 := bif_len (!groupNone a.c1 a.k1 a.a1 a.t1) (fi 107 a.k1)
  have h6 := bif_len (!groupNone a.c2 a.k2 a.a2 a.t2) (fi 107 a.k2)
  unfold featL
  refine Nat.le_trans h1 ?_
  unfold raw2
  simp only [List.length_append, List.length_singleton]
  omega
theorem fOf_len (a : ArmsD) : (fOf a).length ≤ 100 := by
  unfold fOf
  cases armsOk a
  · exact Nat.zero_le _
  · exact featL_len a
theorem okA (a : ArmsD) (w : World) : Calls Tryd.prog 26 #[.agg (ac a).toArray] w fun e w' => e = .returned (.bool (armsOk a)) ∧ Below w.heap.size w w' := IsValidArms_any a w
theorem okL (a : ArmsD) (w : World) : Calls Tryd.prog 22 #[.agg (ac a).toArray] w fun e w' => e = .returned (.bool (armsOk a)) ∧ Below w.heap.size w w' := l5Good_any a w
theorem boxR (a : ArmsD) {w w' : World} (hb : Below (w.alloc (.cells (ac a).toArray 35)).heap.size (w.alloc (.cells (ac a).toArray 35)) w') : w'.rangeAt w.heap.size 0 (ac a) := (box15 a w w' hb).all
set_option maxHeartbeats 2000000 in
theorem implFeaturesOf_any (a : ArmsD) (w : World) : Calls Tryd.prog 10 #[.agg (ac a).toArray] w (StrsOk w (fOf a) (armsOk a)) := by
  have KV := Lib.hid (fun w => okA a w)
  have HB := Lib.hid (fun w' hb => boxR a (w := w) (w' := w') hb)
  cases hq : armsOk a
  · have hf : fOf a = [] := by unfold fOf; rw [hq]; rfl
    rw [hf]
    rw [hq] at KV
    clear hq hf
    go_enter Tryd.func10, Tryd.ntmps10
    go_wp2_with (first | (refine ldA15 rfl _ rfl w.heap.size _ rfl a (HB.out _ (Below.refl _ _)) ?_) | fail)
    refine (KV.out _).mono ?_
    rintro e w1 ⟨rfl, hb1⟩
    go_wp2
    go_ret2
    exact ⟨_, rfl, OwnS.nil _ _ _, by (repeat (first | exact Below.refl _ _ | assumption | refine Below_al ?_ _ | refine Below.drew ?_ | refine Below_then ?_ (by assumption) | refine Below.setCell ?_ (by first | omega | (simp; done) | (simp; omega)) _))⟩
  · have KF := Lib.hid (fun w => features_any a hq w)
    have hf : fOf a = featL a := by unfold fOf; rw [hq]; rfl
    rw [hf]
    rw [hq] at KV
    clear hq hf
    go_enter Tryd.func10, Tryd.ntmps10
    go_wp2_with (first | (refine ldA15 rfl _ rfl w.heap.size _ rfl a (HB.out _ (Below.refl _ _)) ?_) | fail)
    refine (KV.out _).mono ?_
    rintro e w1 ⟨rfl, hb1⟩
    have hR := HB.out _ hb1
    go_wp2_with (first | (refine ldA15 rfl _ rfl w.heap.size _ rfl a hR ?_) | fail)
    refine (KF.out _).mono ?_
    rintro e w2 ⟨v, rfl, hO, hb2⟩
    have hs := hb1.size
    have hT : Below w.heap.size w w2 := by (repeat (first | exact Below.refl _ _ | assumption | refine Below_al ?_ _ | refine Below.drew ?_ | refine Below_then ?_ (by assumption) | refine Below.setCell ?_ (by first | omega | (simp; done) | (simp; omega)) _))
    have hO2 : OwnS w2 w.heap.size 9 v (featL a) := OwnS.base hO (by simp at hs; omega)
    clear hR hb1 hb2 hs hO
    go_wp2
    go_ret2
    exact ⟨_, rfl, hO2, hT⟩
set_option maxHeartbeats 2000000 in
theorem specFeaturesOf_any (a : ArmsD) (w : World) : Calls Tryd.prog 8 #[.agg (ac a).toArray] w (StrsOk w (fOf a) (armsOk a)) := by
  have KV := Lib.hid (fun w => okL a w)
  have HB := Lib.hid (fun w' hb => boxR a (w := w) (w' := w') hb)
  cases hq : armsOk a
  · have hf : fOf a = [] := by unfold fOf; rw [hq]; rfl
    rw [hf]
    rw [hq] at KV
    clear hq hf
    go_enter Tryd.func8, Tryd.ntmps8
    go_wp2_with (first | (refine ldA15 rfl _ rfl w.heap.size _ rfl a (HB.out _ (Below.refl _ _)) ?_) | fail)
    refine (KV.out _).mono ?_
    rintro e w1 ⟨rfl, hb1⟩
    have hs : w.heap.size ≤ w1.heap.size := by have := hb1.size; simp at this; omega
    have hT : Below w.heap.size w w1 := by (repeat (first | exact Below.refl _ _ | assumption | refine Below_al ?_ _ | refine Below.drew ?_ | refine Below_then ?_ (by assumption) | refine Below.setCell ?_ (by first | omega | (simp; done) | (simp; omega)) _))
    clear hb1
    go_wp2
    go_ret2
    exact ⟨_, rfl, OwnS.blk (zs := []) (heap_hit _ _ _ rfl) hs (by simp [maxLen]), Below_al hT _⟩
  · have KF := Lib.hid (fun w => l17Features_any a hq w)
    have hf : fOf a = featL a := by unfold fOf; rw [hq]; rfl
    rw [hf]
    rw [hq] at KV
    clear hq hf
    go_enter Tryd.func8, Tryd.ntmps8
    go_wp2_with (first | (refine ldA15 rfl _ rfl w.heap.size _ rfl a (HB.out _ (Below.refl _ _)) ?_) | fail)
    refine (KV.out _).mono ?_
    rintro e w1 ⟨rfl, hb1⟩
    have hR := HB.out _ hb1
    go_wp2_with (first | (refine ldA15 rfl _ rfl w.heap.size _ rfl a hR ?_) | fail)
    refine (KF.out _).mono ?_
    rintro e w2 ⟨v, rfl, hO, hb2⟩
    have hs := hb1.size
    have hT : Below w.heap.size w w2 := by (repeat (first | exact Below.refl _ _ | assumption | refine Below_al ?_ _ | refine Below.drew ?_ | refine Below_then ?_ (by assumption) | refine Below.setCell ?_ (by first | omega | (simp; done) | (simp; omega)) _))
    have hO2 : OwnS w2 w.heap.size 9 v (featL a) := OwnS.base hO (by simp at hs; omega)
    clear hR hb1 hb2 hs hO
    go_wp2
    go_ret2
    exact ⟨_, rfl, hO2, hT⟩
end Go.Proofs.YthlemcoimoibmaaDoor
