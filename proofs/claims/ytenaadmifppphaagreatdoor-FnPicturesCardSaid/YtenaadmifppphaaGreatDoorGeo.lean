/- Plain geometry: parts of divisions and cells of ordinaries, as the program and as the reference reckon them. No program in sight. -/
import Derived.Test.YtenaadmifppphaaGreatDoorPlain
namespace Go.Proofs.YtenaadmifppphaaGreatDoor
open Go.RowKit

def downF (line x y : Int) : Int := 24 * (2 * x + 1) - 20 * (2 * y + 1) - 40 * offF line (x + y)
def partB (d line x y : Int) : Bool :=
  if d = 1 then decide (x - offF line y < 10)
  else if d = 2 then decide (y - offF line x < 12)
  else if d = 3 then decide (0 < downF line x y)
  else if d = 4 then decide (x - offF line y < 10) == decide (y - offF line x < 12)
  else if d = 5 then decide (0 < downF line x y) == decide (0 < downF line (19 - x) y)
  else if d = 6 then 6 * min (max (x - offF line y) 0) 19 / 20 % 2 == 0
  else if d = 7 then min (max (y - offF line x) 0) 23 / 4 % 2 == 0
  else true
def partF (d line x y : Int) : Int := numI (!partB d line x y)
def l9B (d x y : Int) : Bool :=
  if d = 1 then decide (x < 10)
  else if d = 2 then decide (y < 12)
  else if d = 3 then decide (0 < 24 * (2 * x + 1) - 20 * (2 * y + 1))
  else if d = 4 then decide (x < 10) == decide (y < 12)
  else if d = 5 then decide (0 < 24 * (2 * x + 1) - 20 * (2 * y + 1)) == decide (0 < 24 * (2 * (19 - x) + 1) - 20 * (2 * y + 1))
  else if d = 6 then 6 * x / 20 % 2 == 0
  else if d = 7 then y / 4 % 2 == 0
  else true
def covB (o line x y : Int) : Bool :=
  if o = 1 then decide (7 ≤ x - offF line y ∧ x - offF line y ≤ 12)
  else if o = 2 then decide (8 ≤ y - offF line x ∧ y - offF line x ≤ 15)
  else if o = 3 then decide (max (downF line x y) (-downF line x y) ≤ 160)
  else if o = 4 then decide (11 ≤ 2 * y + 1 - max (2 * x - 19) (-(2 * x - 19)) - 2 * offF line x ∧ 2 * y + 1 - max (2 * x - 19) (-(2 * x - 19)) - 2 * offF line x ≤ 22)
  else if o = 5 then decide (8 ≤ x - offF line y ∧ x - offF line y ≤ 11) || decide (10 ≤ y - offF line x ∧ y - offF line x ≤ 13)
  else if o = 6 then decide (max (downF line x y) (-downF line x y) ≤ 120) || decide (max (downF line (19 - x) y) (-downF line (19 - x) y) ≤ 120)
  else if o = 7 then decide (y - offF line x < 8)
  else false
def l9O (o x y : Int) : Bool :=
  if o = 1 then decide (7 ≤ x ∧ x ≤ 12)
  else if o = 2 then decide (8 ≤ y ∧ y ≤ 15)
  else if o = 3 then decide (max (24 * (2 * x + 1) - 20 * (2 * y + 1)) (-(24 * (2 * x + 1) - 20 * (2 * y + 1))) ≤ 160)
  else if o = 4 then decide (11 ≤ 2 * y + 1 - max (2 * x - 19) (-(2 * x - 19)) ∧ 2 * y + 1 - max (2 * x - 19) (-(2 * x - 19)) ≤ 22)
  else if o = 5 then decide (8 ≤ x ∧ x ≤ 11) || decide (10 ≤ y ∧ y ≤ 13)
  else if o = 6 then decide (max (24 * (2 * x + 1) - 20 * (2 * y + 1)) (-(24 * (2 * x + 1) - 20 * (2 * y + 1))) ≤ 120) || decide (max (24 * (2 * (19 - x) + 1) - 20 * (2 * y + 1)) (-(24 * (2 * (19 - x) + 1) - 20 * (2 * y + 1))) ≤ 120)
  else if o = 7 then decide (y < 8)
  else false
theorem offF_straight (t : Int) : offF 0 t = 0 := by
  unfold offF
  rw [offL_0]
  simp
theorem downF_straight (x y : Int) : downF 0 x y = 24 * (2 * x + 1) - 20 * (2 * y + 1) := by
  unfold downF
  rw [offF_straight]
  omega
/-- With a straight line the parts are those of the shield. -/
theorem partB_straight (d x y : Int) (hx : 0 ≤ x ∧ x ≤ 19) (hy : 0 ≤ y ∧ y ≤ 23) : partB d 0 x y = l9B d x y := by
  unfold partB l9B
  simp only [offF_straight, downF_straight, Int.sub_zero]
  rw [show min (max x 0) 19 = x from by omega, show min (max y 0) 23 = y from by omega]
theorem covB_straight (o x y : Int) : covB o 0 x y = l9O o x y := by
  unfold covB l9O
  simp only [offF_straight, downF_straight, Int.sub_zero, Int.mul_zero]
end Go.Proofs.YtenaadmifppphaaGreatDoor
