/- Contracts: differences of fields, groups and arms, both sides. -/
import Derived.Test.YtlonnkmfjijddaaGreatDoorArms
import Derived.Test.YtlonnkmfjijddaaGreatDoorInts
import Derived.Test.YtlonnkmfjijddaaGreatDoorMem3
import Derived.IntWalk
namespace Go.Proofs.YtlonnkmfjijddaaGreatDoor
open Go.ChangeShapes Go.WideShapes Go.ChangeAt Go.RowKit
set_option linter.unusedVariables false
theorem rd_blk {w : World} {g : Nat} {T : TypeId} {zs : List Int} (h : w.heap[g]? = some (.cells (ints zs) T (0, 0))) : RdI w (some ⟨g, 0, none⟩) zs :=
  .inr ⟨g, 0, rfl, fun i hi => by rw [Nat.zero_add, ints_cell h i (by simpa [iv_len] using hi), iv_get]⟩
theorem heldC8 {a w w' : World} {p0 p1 p2 p3 p4 p5 p6 p7 : Addr} {u0 u1 u2 u3 u4 u5 u6 u7 : Value} (h : w.cell? p0 = some u0 ∧ w.cell? p1 = some u1 ∧ w.cell? p2 = some u2 ∧ w.cell? p3 = some u3 ∧ w.cell? p4 = some u4 ∧ w.cell? p5 = some u5 ∧ w.cell? p6 = some u6 ∧ w.cell? p7 = some u7 ∧ Below a.heap.size a w) (hb : Below w.heap.size w w') : w'.cell? p0 = some u0 ∧ w'.cell? p1 = some u1 ∧ w'.cell? p2 = some u2 ∧ w'.cell? p3 = some u3 ∧ w'.cell? p4 = some u4 ∧ w'.cell? p5 = some u5 ∧ w'.cell? p6 = some u6 ∧ w'.cell? p7 = some u7 ∧ Below a.heap.size a w' := by
  obtain ⟨e0, e1, e2, e3, e4, e5, e6, e7, e⟩ := h
  exact ⟨keep_cell e0 hb, keep_cell e1 hb, keep_cell e2 hb, keep_cell e3 hb, keep_cell e4 hb, keep_cell e5 hb, keep_cell e6 hb, keep_cell e7 hb, Below_then e hb⟩

def nn (b : Bool) : Int := bif b then 0 else 1
theorem numI_ne (x y : Int) : numI (x != y) = nn (decide (x = y)) := by
  by_cases h : x = y <;> simp [numI, nn, h]
/-- Differences of groups. -/
def gd (c k a t c2 k2 a2 t2 : Int) : Int :=
  if groupNone c k a t != groupNone c2 k2 a2 t2 then 2 else numI (c != c2) + (if k = k2 then numI (a != a2) else 2) + numI (t != t2)
theorem gd_bd (c k a t c2 k2 a2 t2 : Int) : 0 ≤ gd c k a t c2 k2 a2 t2 ∧ gd c k a t c2 k2 a2 t2 ≤ 4 := by
  unfold gd
  have h1 := numI_bd (c != c2)
  have h2 := numI_bd (a != a2)
  have h3 := numI_bd (t != t2)
  split
  · omega
  · split <;> omega
def tinL (d p q : Int) : List Int := if d = 0 then [p] else [p, q]
theorem tinL_len (d p q : Int) : (tinL d p q).length ≤ 2 := by unfold tinL; split <;> simp
/-- Differences of fields. -/
def fd (d l p q d2 l2 p2 q2 : Int) : Int := numI (d != d2) + numI (l != l2) + numI (!decide (tinL d p q = tinL d2 p2 q2))
theorem fd_bd (d l p q d2 l2 p2 q2 : Int) : 0 ≤ fd d l p q d2 l2 p2 q2 ∧ fd d l p q d2 l2 p2 q2 ≤ 3 := by
  unfold fd
  have h1 := numI_bd (d != d2)
  have h2 := numI_bd (l != l2)
  have h3 := numI_bd (!decide (tinL d p q = tinL d2 p2 q2))
  omega
def FreshL (w : World) (xs : List Int) (e : Ending) (w' : World) : Prop := ∃ g, e = .returned (.slice (some ⟨g, 0, none⟩) xs.length xs.length) ∧ RdI w' (some ⟨g, 0, none⟩) xs ∧ Below w.heap.size w w'
theorem tinctures_any (d l p q : Int) (w : World) :
    Calls Tryz.prog 94 #[.agg #[.int .i64 d, .int .i64 l, .int .i64 p, .int .i64 q]] w (FreshL w (tinL d p q)) := by
  by_cases h : d = 0
  · subst h
    rw [show tinL 0 p q = [p] from rfl]
    go_enter Tryz.func94, Tryz.ntmps94
    go_wp2
    go_ret
    exact ⟨_, rfl, rd_blk (heap_hit _ _ _ (by simp)), by (repeat (first | exact Below.refl _ _ | assumption | refine Below_al ?_ _ | refine Below.drew ?_ | refine Below_then ?_ (by assumption) | refine Below.setCell ?_ (by first | omega | (simp; done) | (simp; omega)) _))⟩
  · have hd : (d == 0) = false := by simpa using h
    rw [show tinL d p q = [p, q] from by simp [tinL, h]]
    clear h
    go_enter Tryz.func94, Tryz.ntmps94
    go_wp2
    go_ret
    exact ⟨_, rfl, rd_blk (heap_hit _ _ _ (by simp)), by (repeat (first | exact Below.refl _ _ | assumption | refine Below_al ?_ _ | refine Below.drew ?_ | refine Below_then ?_ (by assumption) | refine Below.setCell ?_ (by first | omega | (simp; done) | (simp; omega)) _))⟩
theorem l3Tinctures_any (d l p q : Int) (w : World) :
    Calls Tryz.prog 54 #[.agg #[.int .i64 d, .int .i64 l, .int .i64 p, .int .i64 q]] w (FreshL w (tinL d p q)) := by
  by_cases h : d = 0
  · subst h
    rw [show tinL 0 p q = [p] from rfl]
    go_enter Tryz.func54, Tryz.ntmps54
    go_wp2
    go_ret
    exact ⟨_, rfl, rd_blk (heap_hit _ _ _ (by simp)), by (repeat (first | exact Below.refl _ _ | assumption | refine Below_al ?_ _ | refine Below.drew ?_ | refine Below_then ?_ (by assumption) | refine Below.setCell ?_ (by first | omega | (simp; done) | (simp; omega)) _))⟩
  · have hd : (d == 0) = false := by simpa using h
    rw [show tinL d p q = [p, q] from by simp [tinL, h]]
    clear h
    go_enter Tryz.func54, Tryz.ntmps54
    go_wp2
    go_ret
    exact ⟨_, rfl, rd_blk (heap_hit _ _ _ (by simp)), by (repeat (first | exact Below.refl _ _ | assumption | refine Below_al ?_ _ | refine Below.drew ?_ | refine Below_then ?_ (by assumption) | refine Below.setCell ?_ (by first | omega | (simp; done) | (simp; omega)) _))⟩
set_option maxHeartbeats 1000000 in
theorem slEqual_any (A A' : Option Addr) (c c' : Nat) (xs ys : List Int) (w : World) (h1 : RdI w A xs) (h2 : RdI w A' ys) (hx : xs.length ≤ 1099511627776) (hy : ys.length ≤ 1099511627776) :
    Calls Tryz.prog 102 #[.slice A xs.length c, .slice A' ys.length c'] w fun e w' => e = .returned (.bool (decide (xs = ys))) ∧ Below w.heap.size w w' := by
  by_cases hl : xs.length = ys.length
  · have hd : ((xs.length : Int) != (ys.length : Int)) = false := by simp [hl]
    have HL := Lib.hid hl
    clear hl
    go_enter Tryz.func102, Tryz.ntmps102
    go_wp2_with fail
    clear hd
    go_loopw [13] (fun i wr => ∃ k : Nat, k ≤ xs.length ∧ i = .int .i64 k ∧ (∀ j, j < k → xs[j]? = ys[j]?) ∧ Below w.heap.size w wr) (fun i _ => xs.length - (intOf i).toNat)
    case atStart => exact ⟨0, Nat.zero_le _, rfl, fun j hj => absurd hj (by omega), Below.refl _ _⟩
    case round =>
      obtain ⟨k, hk, rfl, hall, hb⟩ := hrel
      have HA := Lib.hid hall
      clear hall
      by_cases hlt : k < xs.length
      · have hl := HL.out
        obtain ⟨b, off, rfl, hc1, -⟩ := (h1.below hb).at_ hlt
        obtain ⟨b', off', rfl, hc2, -⟩ := (h2.below hb).at_ (by omega : k < ys.length)
        obtain ⟨x, ex⟩ : ∃ x, x = xs[k] := ⟨_, rfl⟩
        obtain ⟨y, ey⟩ : ∃ y, y = ys[k] := ⟨_, rfl⟩
        rw [← ex] at hc1
        rw [← ey] at hc2
        have i1 : (k : Int) < (xs.length : Int) := by omega
        have i2 : (k : Int) < (ys.length : Int) := by omega
        have d1 : decide (k < xs.length) = true := by simpa using hlt
        have EX := Lib.hid ex
        have EY := Lib.hid ey
        clear ex ey
        by_cases hxy : x = y
        · have hn : (x != y) = false := by simpa using hxy
          have HXY := Lib.hid hxy
          clear hxy
          go_wp2
          go_region
          go_wp2
          go_roundw
          case rel =>
            refine ⟨k + 1, by omega, by go_num, fun j hj => ?_, hb.drew⟩
            by_cases e : j = k
            · subst e
              rw [List.getElem?_eq_getElem hlt, List.getElem?_eq_getElem (by omega), ← EX.out, ← EY.out, HXY.out]
            · exact HA.out j (by omega)
          case measure => simp [intOf]; omega
        · have hn : (x != y) = true := by simpa using hxy
          go_wp2
          go_region
          go_wp2
          go_ret
          refine ⟨retB ?_, hb.drew⟩
          symm
          rw [decide_eq_false_iff_not]
          intro e
          subst e
          exact hxy (by rw [EX.out, EY.out])
      · have hk' : k = xs.length := by omega
        have d1 : decide (k < xs.length) = false := by simpa using hlt
        go_wp2
        go_ret
        refine ⟨retB ?_, hb⟩
        symm
        rw [decide_eq_true_iff]
        apply List.ext_getElem?
        intro j
        by_cases hj : j < k
        · exact HA.out j hj
        · have hl := HL.out
          rw [List.getElem?_eq_none (by omega), List.getElem?_eq_none (by omega)]
  · have hd : ((xs.length : Int) != (ys.length : Int)) = true := by simp; omega
    go_enter Tryz.func102, Tryz.ntmps102
    go_wp2
    go_ret
    refine ⟨retB ?_, Below.refl _ _⟩
    symm
    rw [decide_eq_false_iff_not]
    intro e
    exact hl (by rw [e])
set_option maxHeartbeats 1000000 in
theorem l1Same_any (A A' : Option Addr) (c c' : Nat) (xs ys : List Int) (w : World) (h1 : RdI w A xs) (h2 : RdI w A' ys) (hx : xs.length ≤ 1099511627776) (hy : ys.length ≤ 1099511627776) :
    Calls Tryz.prog 99 #[.slice A xs.length c, .slice A' ys.length c'] w fun e w' => e = .returned (.bool (decide (xs = ys))) ∧ Below w.heap.size w w' := by
  by_cases hl : xs.length = ys.length
  · have hd : ((xs.length : Int) != (ys.length : Int)) = false := by simp [hl]
    have HL := Lib.hid hl
    clear hl
    go_enter Tryz.func99, Tryz.ntmps99
    go_wp2_with fail
    clear hd
    go_loopw [5] (fun i wr => ∃ k : Nat, k ≤ xs.length ∧ i = .int .i64 k ∧ (∀ j, j < k → xs[j]? = ys[j]?) ∧ Below w.heap.size w wr) (fun i _ => xs.length - (intOf i).toNat)
    case atStart => exact ⟨0, Nat.zero_le _, rfl, fun j hj => absurd hj (by omega), Below.refl _ _⟩
    case round =>
      obtain ⟨k, hk, rfl, hall, hb⟩ := hrel
      have HA := Lib.hid hall
      clear hall
      by_cases hlt : k < xs.length
      · have hl := HL.out
        obtain ⟨b, off, rfl, hc1, -⟩ := (h1.below hb).at_ hlt
        obtain ⟨b', off', rfl, hc2, -⟩ := (h2.below hb).at_ (by omega : k < ys.length)
        obtain ⟨x, ex⟩ : ∃ x, x = xs[k] := ⟨_, rfl⟩
        obtain ⟨y, ey⟩ : ∃ y, y = ys[k] := ⟨_, rfl⟩
        rw [← ex] at hc1
        rw [← ey] at hc2
        have i1 : (k : Int) < (xs.length : Int) := by omega
        have i2 : (k : Int) < (ys.length : Int) := by omega
        have d1 : decide (k < xs.length) = true := by simpa using hlt
        have EX := Lib.hid ex
        have EY := Lib.hid ey
        clear ex ey
        by_cases hxy : x = y
        · have hn : (x != y) = false := by simpa using hxy
          have HXY := Lib.hid hxy
          clear hxy
          go_wp2
          go_region
          go_wp2
          go_roundw
          case rel =>
            refine ⟨k + 1, by omega, by go_num, fun j hj => ?_, hb.drew⟩
            by_cases e : j = k
            · subst e
              rw [List.getElem?_eq_getElem hlt, List.getElem?_eq_getElem (by omega), ← EX.out, ← EY.out, HXY.out]
            · exact HA.out j (by omega)
          case measure => simp [intOf]; omega
        · have hn : (x != y) = true := by simpa using hxy
          go_wp2
          go_region
          go_wp2
          go_ret
          refine ⟨retB ?_, hb.drew⟩
          symm
          rw [decide_eq_false_iff_not]
          intro e
          subst e
          exact hxy (by rw [EX.out, EY.out])
      · have hk' : k = xs.length := by omega
        have d1 : decide (k < xs.length) = false := by simpa using hlt
        go_wp2
        go_ret
        refine ⟨retB ?_, hb⟩
        symm
        rw [decide_eq_true_iff]
        apply List.ext_getElem?
        intro j
        by_cases hj : j < k
        · exact HA.out j hj
        · have hl := HL.out
          rw [List.getElem?_eq_none (by omega), List.getElem?_eq_none (by omega)]
  · have hd : ((xs.length : Int) != (ys.length : Int)) = true := by simp; omega
    go_enter Tryz.func99, Tryz.ntmps99
    go_wp2
    go_ret
    refine ⟨retB ?_, Below.refl _ _⟩
    symm
    rw [decide_eq_false_iff_not]
    intro e
    exact hl (by rw [e])

theorem gd_same (c k a t : Int) : gd c k a t c k a t = 0 := by simp [gd, numI]
theorem gd_n1 (c k a t : Int) (h : ¬ (c = 0 ∧ k = 0 ∧ a = 0 ∧ t = 0)) : gd 0 0 0 0 c k a t = 2 := by
  have : groupNone c k a t = false := by simp [groupNone]; omega
  simp [gd, this, show groupNone 0 0 0 0 = true from rfl]
theorem gd_n2 (c k a t : Int) (h : ¬ (c = 0 ∧ k = 0 ∧ a = 0 ∧ t = 0)) : gd c k a t 0 0 0 0 = 2 := by
  have : groupNone c k a t = false := by simp [groupNone]; omega
  simp [gd, this, show groupNone 0 0 0 0 = true from rfl]
theorem gd_not {c k a t c2 k2 a2 t2 : Int} (h1 : ¬ (c = 0 ∧ k = 0 ∧ a = 0 ∧ t = 0)) (h2 : ¬ (c2 = 0 ∧ k2 = 0 ∧ a2 = 0 ∧ t2 = 0)) : gd c k a t c2 k2 a2 t2 = numI (c != c2) + (if k = k2 then numI (a != a2) else 2) + numI (t != t2) := by
  have g1 : groupNone c k a t = false := by simp [groupNone]; omega
  have g2 : groupNone c2 k2 a2 t2 = false := by simp [groupNone]; omega
  simp [gd, g1, g2]
theorem number_any' (b : Bool) (w : World) : Calls Tryz.prog 46 #[.bool b] w fun e w' => e = .returned (.int .i64 (numI b)) ∧ w' = w := (number_any b w).mono fun _ _ ⟨h1, h2⟩ => ⟨h1, h2.symm⟩
theorem Below_drewD {B : Nat} {a w : World} (h : Below B a w) (n : Nat) : Below B a (w.drewN n) := ⟨h.os, h.tape, h.output, h.size, h.block⟩
set_option maxHeartbeats 2000000 in
theorem groupDifferences_any (c k a t c2 k2 a2 t2 : Int) (w : World) (g1 : (c = 0 ∧ k = 0 ∧ a = 0 ∧ t = 0) ∨ 1 ≤ c) (g2 : (c2 = 0 ∧ k2 = 0 ∧ a2 = 0 ∧ t2 = 0) ∨ 1 ≤ c2) :
    Calls Tryz.prog 81 #[.agg #[.int .i64 c, .int .i64 k, .int .i64 a, .int .i64 t], .agg #[.int .i64 c2, .int .i64 k2, .int .i64 a2, .int .i64 t2]] w fun e w' => e = .returned (.int .i64 (gd c k a t c2 k2 a2 t2)) ∧ Below w.heap.size w w' := by
  by_cases he : c = c2 ∧ k = k2 ∧ a = a2 ∧ t = t2
  · obtain ⟨rfl, rfl, rfl, rfl⟩ := he
    rw [gd_same]
    go_enter Tryz.func81, Tryz.ntmps81
    go_wp2
    go_ret
    exact ⟨rfl, by (repeat (first | exact Below.refl _ _ | assumption | refine Below_al ?_ _ | refine Below.drew ?_ | refine Below_then ?_ (by assumption) | refine Below.setCell ?_ (by first | omega | (simp; done) | (simp; omega)) _))⟩
  · rcases g1 with ⟨rfl, rfl, rfl, rfl⟩ | g1
    · rcases g2 with ⟨rfl, rfl, rfl, rfl⟩ | g2
      · exact absurd ⟨rfl, rfl, rfl, rfl⟩ he
      · rw [gd_n1 _ _ _ _ (by omega)]
        have f2 : (0 == c2) = false := by simp; omega
        clear he
        go_enter Tryz.func81, Tryz.ntmps81
        go_wp2
        go_ret
        exact ⟨rfl, by (repeat (first | exact Below.refl _ _ | assumption | refine Below_al ?_ _ | refine Below.drew ?_ | refine Below_then ?_ (by assumption) | refine Below.setCell ?_ (by first | omega | (simp; done) | (simp; omega)) _))⟩
    · have f1 : (c == 0) = false := by simp; omega
      rcases g2 with ⟨rfl, rfl, rfl, rfl⟩ | g2
      · rw [gd_n2 _ _ _ _ (by omega)]
        clear he
        go_enter Tryz.func81, Tryz.ntmps81
        go_wp2
        go_ret
        exact ⟨rfl, by (repeat (first | exact Below.refl _ _ | assumption | refine Below_al ?_ _ | refine Below.drew ?_ | refine Below_then ?_ (by assumption) | refine Below.setCell ?_ (by first | omega | (simp; done) | (simp; omega)) _))⟩
      · rw [gd_not (by omega) (by omega)]
        have f2 : (c2 == 0) = false := by simp; omega
        have n1 := numI_bd (c != c2)
        have n2 := numI_bd (t != t2)
        have n3 := numI_bd (a != a2)
        have z1 : IntKind.i64.wrap (numI (c != c2) + numI (t != t2)) = numI (c != c2) + numI (t != t2) := by rw [IntWalk.i64_in _ ⟨by omega, by omega⟩]
        have HE := Lib.hid he
        clear he
        by_cases hc : c = c2
        · by_cases hk : k = k2
          · rw [if_pos hk]
            by_cases ha : a = a2
            · have ht : ¬ t = t2 := fun ht => HE.out ⟨hc, hk, ha, ht⟩
              subst hc hk ha
              have f3 : (t == t2) = false := by simpa using ht
              clear HE ht
              go_enter Tryz.func81, Tryz.ntmps81
              go_wp2_with fail
              go_quiet ((go_at_call 46; exact Calls.quiet_of_same (number_any' _ _)))
              go_wp2_with (first | (go_at_call 46; refine (number_any _ _).mono ?_; rintro e w' ⟨rfl, rfl⟩) | fail)
              go_ret
              exact ⟨retI (by first | omega | (simp [numI]; done) | (simp [numI] <;> (repeat' split) <;> first | rfl | (simp only [wrap64]; omega) | omega)), Below_drewD (by (repeat (first | exact Below.refl _ _ | assumption | refine Below_al ?_ _ | refine Below.drew ?_ | refine Below_then ?_ (by assumption) | refine Below.setCell ?_ (by first | omega | (simp; done) | (simp; omega)) _))) _⟩
            · subst hc hk
              have f3 : (a == a2) = false := by simpa using ha
              clear HE ha
              go_enter Tryz.func81, Tryz.ntmps81
              go_wp2_with fail
              go_quiet ((go_at_call 46; exact Calls.quiet_of_same (number_any' _ _)))
              go_wp2_with (first | (go_at_call 46; refine (number_any _ _).mono ?_; rintro e w' ⟨rfl, rfl⟩) | fail)
              go_ret
              exact ⟨retI (by first | omega | (simp [numI]; done) | (simp [numI] <;> (repeat' split) <;> first | rfl | (simp only [wrap64]; omega) | omega)), Below_drewD (by (repeat (first | exact Below.refl _ _ | assumption | refine Below_al ?_ _ | refine Below.drew ?_ | refine Below_then ?_ (by assumption) | refine Below.setCell ?_ (by first | omega | (simp; done) | (simp; omega)) _))) _⟩
          · rw [if_neg hk]
            subst hc
            have f3 : (k == k2) = false := by simpa using hk
            clear HE hk
            go_enter Tryz.func81, Tryz.ntmps81
            go_wp2_with fail
            go_quiet ((go_at_call 46; exact Calls.quiet_of_same (number_any' _ _)))
            go_wp2_with (first | (go_at_call 46; refine (number_any _ _).mono ?_; rintro e w' ⟨rfl, rfl⟩) | fail)
            go_ret
            exact ⟨retI (by first | omega | (simp [numI]; done) | (simp [numI] <;> (repeat' split) <;> first | rfl | (simp only [wrap64]; omega) | omega)), Below_drewD (by (repeat (first | exact Below.refl _ _ | assumption | refine Below_al ?_ _ | refine Below.drew ?_ | refine Below_then ?_ (by assumption) | refine Below.setCell ?_ (by first | omega | (simp; done) | (simp; omega)) _))) _⟩
        · have f3 : (c == c2) = false := by simpa using hc
          clear HE hc
          by_cases hk : k = k2
          · rw [if_pos hk]
            subst hk
            go_enter Tryz.func81, Tryz.ntmps81
            go_wp2_with fail
            go_quiet ((go_at_call 46; exact Calls.quiet_of_same (number_any' _ _)))
            go_wp2_with (first | (go_at_call 46; refine (number_any _ _).mono ?_; rintro e w' ⟨rfl, rfl⟩) | fail)
            go_ret
            exact ⟨retI (by first | omega | (simp [numI]; done) | (simp [numI] <;> (repeat' split) <;> first | rfl | (simp only [wrap64]; omega) | omega)), Below_drewD (by (repeat (first | exact Below.refl _ _ | assumption | refine Below_al ?_ _ | refine Below.drew ?_ | refine Below_then ?_ (by assumption) | refine Below.setCell ?_ (by first | omega | (simp; done) | (simp; omega)) _))) _⟩
          · rw [if_neg hk]
            have f4 : (k == k2) = false := by simpa using hk
            clear hk
            go_enter Tryz.func81, Tryz.ntmps81
            go_wp2_with fail
            go_quiet ((go_at_call 46; exact Calls.quiet_of_same (number_any' _ _)))
            go_wp2_with (first | (go_at_call 46; refine (number_any _ _).mono ?_; rintro e w' ⟨rfl, rfl⟩) | fail)
            go_ret
            exact ⟨retI (by first | omega | (simp [numI]; done) | (simp [numI] <;> (repeat' split) <;> first | rfl | (simp only [wrap64]; omega) | omega)), Below_drewD (by (repeat (first | exact Below.refl _ _ | assumption | refine Below_al ?_ _ | refine Below.drew ?_ | refine Below_then ?_ (by assumption) | refine Below.setCell ?_ (by first | omega | (simp; done) | (simp; omega)) _))) _⟩

set_option maxHeartbeats 2000000 in
theorem FieldDifferences_yes (d l p q d2 l2 p2 q2 : Int) (w : World) (g1 : fieldOk d l p q = true) (g2 : fieldOk d2 l2 p2 q2 = true) :
    Calls Tryz.prog 80 #[.agg #[.int .i64 d, .int .i64 l, .int .i64 p, .int .i64 q], .agg #[.int .i64 d2, .int .i64 l2, .int .i64 p2, .int .i64 q2]] w fun e w' => e = .returned (.tuple #[.int .i64 (fd d l p q d2 l2 p2 q2), .bool true]) ∧ Below w.heap.size w w' := by
  have K1 := fun w => IsValidField_any d l p q w
  have K2 := fun w => IsValidField_any d2 l2 p2 q2 w
  rw [g1] at K1
  rw [g2] at K2
  have K1' := Lib.hid K1
  have K2' := Lib.hid K2
  clear K1 K2 g1 g2
  obtain ⟨eb, heb⟩ : ∃ b, b = decide (tinL d p q = tinL d2 p2 q2) := ⟨_, rfl⟩
  have tl1 := tinL_len d p q
  have tl2 := tinL_len d2 p2 q2
  have KE := fun A A' c c' w h1 h2 => slEqual_any A A' c c' (tinL d p q) (tinL d2 p2 q2) w h1 h2 (by omega) (by omega)
  have KA := fun w => tinctures_any d l p q w
  have KB := fun w => tinctures_any d2 l2 p2 q2 w
  unfold fd
  rw [← heb] at KE ⊢
  generalize tinL d p q = L1 at *
  generalize tinL d2 p2 q2 = L2 at *
  have KE' := Lib.hid KE
  have KA' := Lib.hid KA
  have KB' := Lib.hid KB
  have n1 := numI_bd (d != d2)
  have n2 := numI_bd (l != l2)
  have n3 := numI_bd (!eb)
  clear KE KA KB heb
  have z1 : IntKind.i64.wrap (numI (d != d2) + numI (l != l2)) = numI (d != d2) + numI (l != l2) := by rw [IntWalk.i64_in _ ⟨by omega, by omega⟩]
  have z2 : IntKind.i64.wrap (numI (d != d2) + numI (l != l2) + numI (!eb)) = numI (d != d2) + numI (l != l2) + numI (!eb) := by rw [IntWalk.i64_in _ ⟨by omega, by omega⟩]
  have Z1 := Lib.hid z1
  have Z2 := Lib.hid z2
  clear z1 z2
  go_enter Tryz.func80, Tryz.ntmps80
  go_wp2_with fail
  refine (K1'.out _).mono ?_
  rintro e w1 ⟨rfl, hb1⟩
  have hF1 : w1.heap[w.heap.size]? = some (.cells #[.int .i64 d, .int .i64 l, .int .i64 p, .int .i64 q] 43 (0, 0)) := heap_keepB (heap_keepA (heap_hit _ _ _ rfl) _) hb1
  have hF2 : w1.heap[w.heap.size + 1]? = some (.cells #[.int .i64 d2, .int .i64 l2, .int .i64 p2, .int .i64 q2] 43 (0, 0)) := heap_keepB (heap_hit _ _ _ (by simp)) hb1
  have HF1 := Lib.hid hF1
  have HF2 := Lib.hid hF2
  have e0 := cell_of hF2 0
  have e1 := cell_of hF2 1
  have e2 := cell_of hF2 2
  have e3 := cell_of hF2 3
  have hT := Below_then (show Below w.heap.size w _ by (repeat (first | exact Below.refl _ _ | assumption | refine Below_al ?_ _ | refine Below.drew ?_ | refine Below_then ?_ (by assumption) | refine Below.setCell ?_ (by first | omega | (simp; done) | (simp; omega)) _))) hb1
  clear hF1 hF2
  go_wp2_with fail
  refine (K2'.out _).mono ?_
  rintro e w2 ⟨rfl, hb2⟩
  clear e0 e1 e2 e3
  have hF1 := heap_keepB HF1.out hb2
  have hF2 := heap_keepB HF2.out hb2
  have c0 := cell_of hF1 0
  have c1 := cell_of hF1 1
  have c2 := cell_of hF1 2
  have c3 := cell_of hF1 3
  have e0 := cell_of hF2 0
  have e1 := cell_of hF2 1
  have e2 := cell_of hF2 2
  have e3 := cell_of hF2 3
  have hT := Below_then hT hb2
  clear hF1 hF2 hb1 hb2
  go_wp2_with fail
  have z1 := Z1.out
  have z2 := Z2.out
  go_region_held3 (fun w' => w'.cell? ⟨w.heap.size, 0, none⟩ = some (.int .i64 d) ∧ w'.cell? ⟨w.heap.size, 1, none⟩ = some (.int .i64 l) ∧ w'.cell? ⟨w.heap.size, 2, none⟩ = some (.int .i64 p) ∧ w'.cell? ⟨w.heap.size, 3, none⟩ = some (.int .i64 q) ∧ w'.cell? ⟨w.heap.size + 1, 0, none⟩ = some (.int .i64 d2) ∧ w'.cell? ⟨w.heap.size + 1, 1, none⟩ = some (.int .i64 l2) ∧ w'.cell? ⟨w.heap.size + 1, 2, none⟩ = some (.int .i64 p2) ∧ w'.cell? ⟨w.heap.size + 1, 3, none⟩ = some (.int .i64 q2) ∧ Below w2.heap.size w2 w') (first | assumption | exact heldC8 (by assumption) (by assumption) | exact ⟨c0, c1, c2, c3, e0, e1, e2, e3, Below.refl _ _⟩ | exact ⟨c0, c1, c2, c3, e0, e1, e2, e3, (Below.refl _ _).drew⟩) (first | (go_at_call 46; refine (number_any _ _).mono ?_; rintro e w' ⟨rfl, rfl⟩) | (go_at_call 94; first | ((with_reducible refine (KA'.out _).mono ?_); rintro e x1 ⟨gA, rfl, rA, bA⟩; obtain ⟨hcA, hfA⟩ := bcell bA) | ((with_reducible refine (KB'.out _).mono ?_); rintro e x2 ⟨gB, rfl, rB, bB⟩; obtain ⟨hcB, hfB⟩ := bcell bB; have rA' := rA.below bB)) | (go_at_call 102; refine (KE'.out _ _ _ _ _ (by first | exact rA' | assumption) rB).mono ?_; rintro e x3 ⟨rfl, bE⟩))
  go_wp2
  go_ret2
  obtain ⟨-, -, -, -, -, -, -, -, sb⟩ : _ ∧ _ ∧ _ ∧ _ ∧ _ ∧ _ ∧ _ ∧ _ ∧ Below w2.heap.size w2 _ := (by assumption)
  exact ⟨rfl, by first | exact Below_then hT sb | exact Below_then (Below_then hT sb) (by assumption)⟩
end Go.Proofs.YtlonnkmfjijddaaGreatDoor
