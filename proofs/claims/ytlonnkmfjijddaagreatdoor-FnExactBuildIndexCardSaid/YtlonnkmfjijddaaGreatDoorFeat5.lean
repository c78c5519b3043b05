/- Contracts: FeaturesOf, both sides. -/
import Derived.Test.YtlonnkmfjijddaaGreatDoorFeat4
import Derived.Test.YtlonnkmfjijddaaGreatDoorFeat3
import Derived.Test.YtlonnkmfjijddaaGreatDoorStrs2
namespace Go.Proofs.YtlonnkmfjijddaaGreatDoor
open Go.ChangeShapes Go.WideShapes Go.ChangeAt Go.RowKit
set_option linter.unusedVariables false
set_option linter.unusedSimpArgs false
def StrsOk (w : World) (zs : List ByteArray) (ok : Bool) (e : Ending) (w' : World) : Prop := ∃ v, e = .returned (.tuple #[v, .bool ok]) ∧ OwnS w' w.heap.size 9 v zs ∧ Below w.heap.size w w'
/-- The features, and none of arms that are not valid. -/
def fOf (a : ArmsD) : List ByteArray := bif armsOk a then featL a else []
theorem featL_len (a : ArmsD) : (featL a).length ≤ 100 := by
  have h1 := putAll_len (raw2 a)
  have h2 := rawT_len a
  have h3 := bif_len (decide (0 < a.l)) (fi 108 a.l)
  have h4 := bif_len (decide (0 < a.li)) (fi 108 a.li)
  have h5 := bif_len (!groupNone a.c1 a.k1 a.a1 a.t1) (fi 107 a.k1)
  have h6 := bif_len (!groupNone a.c2 a.k2 a.a2 a.t2) (fi 107 a.k2)
  unfold featL
  refine Nat.le_trans h1 ?_
  unfold raw2
  simp only [List.length_append, List.length_singleton]
  omega
theorem fOf_len (a : ArmsD) : (fOf a).length ≤ 100 := by
  unfold fOf
  cases armsOk a
  · exact Nat.zero_le _
  · exact featL_len a
theorem okA (a : ArmsD) (w : World) : Calls Tryz.prog 39 #[.agg (ac a).toArray] w fun e w' => e = .returned (.bool (armsOk a)) ∧ Below w.heap.size w w' := IsValidArms_any a w
theorem okL (a : ArmsD) (w : World) : Calls Tryz.prog 52 #[.agg (ac a).toArray] w fun e w' => e = .returned (.bool (armsOk a)) ∧ Below w.heap.size w w' := l5Good_any a w
theorem boxR (a : ArmsD) {w w' : World} (hb : Below (w.alloc (.cells (ac a).toArray 47)).heap.size (w.alloc (.cells (ac a).toArray 47)) w') : w'.rangeAt w.heap.size 0 (ac a) := (box15 a w w' hb).all
end Go.Proofs.YtlonnkmfjijddaaGreatDoor
