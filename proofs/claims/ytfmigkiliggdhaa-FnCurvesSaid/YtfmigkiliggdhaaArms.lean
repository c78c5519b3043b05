/- Contracts: which arms are valid. -/
import Derived.Test.YtfmigkiliggdhaaFields
namespace Go.Proofs.Ytfmigkiliggdhaa
open Go.ChangeShapes Go.WideShapes Go.ChangeAt Go.RowKit

/-- Arms as numbers: field, ordinary, line, tincture, the groups on and around. -/
structure ArmsD where
  d : Int
  l : Int
  p : Int
  q : Int
  o : Int
  li : Int
  t : Int
  c1 : Int
  k1 : Int
  a1 : Int
  t1 : Int
  c2 : Int
  k2 : Int
  a2 : Int
  t2 : Int
def groupAny (c k a t : Int) : Bool := groupNone c k a t || groupOk c k a t
def ordOk (o l t : Int) : Bool := decide ((1 ≤ o ∧ o ≤ 7) ∧ (0 ≤ l ∧ l ≤ 4) ∧ (1 ≤ t ∧ t ≤ 9))
def armsOk (a : ArmsD) : Bool := fieldOk a.d a.l a.p a.q && groupAny a.c2 a.k2 a.a2 a.t2 && (if a.o = 0 then decide (a.li = 0) && decide (a.t = 0) && groupNone a.c1 a.k1 a.a1 a.t1 else ordOk a.o a.li a.t && groupAny a.c1 a.k1 a.a1 a.t1)
theorem armsOk_1 {a : ArmsD} (h1 : fieldOk a.d a.l a.p a.q = false) : armsOk a = false := by simp [armsOk, h1]
theorem armsOk_2 {a : ArmsD} (h2 : groupAny a.c2 a.k2 a.a2 a.t2 = false) : armsOk a = false := by simp [armsOk, h2]
theorem armsOk_3 {a : ArmsD} (h1 : fieldOk a.d a.l a.p a.q = true) (h2 : groupAny a.c2 a.k2 a.a2 a.t2 = true) (h3 : a.o = 0) (h4 : a.li = 0 ∧ a.t = 0 ∧ a.c1 = 0 ∧ a.k1 = 0 ∧ a.a1 = 0 ∧ a.t1 = 0) : armsOk a = true := by
  obtain ⟨e1, e2, e3, e4, e5, e6⟩ := h4
  simp [armsOk, h1, h2, h3, e1, e2, e3, e4, e5, e6, groupNone]
theorem armsOk_4 {a : ArmsD} (h3 : a.o = 0) (h4 : ¬ (a.li = 0 ∧ a.t = 0 ∧ a.c1 = 0 ∧ a.k1 = 0 ∧ a.a1 = 0 ∧ a.t1 = 0)) : armsOk a = false := by
  simp [armsOk, h3, groupNone]
  intro _ _ _ _ _ _ _ _
  exact h4 ⟨by assumption, by assumption, by assumption, by assumption, by assumption, by assumption⟩
theorem armsOk_5 {a : ArmsD} (h3 : ¬ a.o = 0) (h5 : ordOk a.o a.li a.t = false) : armsOk a = false := by simp [armsOk, h3, h5]
theorem armsOk_6 {a : ArmsD} (h1 : fieldOk a.d a.l a.p a.q = true) (h2 : groupAny a.c2 a.k2 a.a2 a.t2 = true) (h3 : ¬ a.o = 0) (h5 : ordOk a.o a.li a.t = true) : armsOk a = groupAny a.c1 a.k1 a.a1 a.t1 := by simp [armsOk, h1, h2, h3, h5]
end Go.Proofs.Ytfmigkiliggdhaa
