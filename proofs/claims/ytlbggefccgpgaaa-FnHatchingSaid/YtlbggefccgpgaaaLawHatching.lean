/- FnHatching: for every code hatching shows every cell by the sign of its tincture, shares add up to the shield, and a picture has no changed cells beside itself; the program's answers are the reference's. No condition. -/
import Derived.Test.YtlbggefccgpgaaaCur3
import Derived.Test.YtlbggefccgpgaaaInts
import Derived.Test.YtlbggefccgpgaaaArea
import Derived.Test.YtlbggefccgpgaaaFields
import Derived.IntWalk
import Derived.Test.YtlbggefccgpgaaaPics
import Derived.Test.YtlbggefccgpgaaaBytes
import Derived.Test.YtlbggefccgpgaaaText
import Derived.Test.YtlbggefccgpgaaaRows
import Derived.Test.YtlbggefccgpgaaaPicD3
import Derived.Test.YtlbggefccgpgaaaCode
import Derived.Test.YtlbggefccgpgaaaShare
import Derived.Test.YtlbggefccgpgaaaChg2
/-! ### KeyP -/
namespace Go.Proofs.Ytlbggefccgpgaaa
open Go.ChangeShapes Go.WideShapes Go.ChangeAt Go.RowKit
set_option linter.unusedVariables false
set_option linter.unusedSimpArgs false
set_option maxHeartbeats 1000000 in
theorem rInts_any (A A' : Option Addr) (c c' : Nat) (xs ys : List Int) (w : World) (h1 : RdI w A xs) (h2 : RdI w A' ys) (hx : xs.length ≤ 1099511627776) (hy : ys.length ≤ 1099511627776) :
    Calls Try.prog 16 #[.slice A xs.length c, .slice A' ys.length c'] w fun e w' => e = .returned (.bool (decide (xs = ys))) ∧ Below w.heap.size w w' := by
  by_cases hl : xs.length = ys.length
  · have hd : ((xs.length : Int) != (ys.length : Int)) = false := by simp [hl]
    have HL := Lib.hid hl
    clear hl
    go_enter Try.func16, Try.ntmps16
    go_wp2_with fail
    clear hd
    go_loopw [5] (fun i wr => ∃ k : Nat, k ≤ xs.length ∧ i = .int .i64 k ∧ (∀ j, j < k → xs[j]? = ys[j]?) ∧ Below w.heap.size w wr) (fun i _ => xs.length - (intOf i).toNat)
    case atStart => exact ⟨0, Nat.zero_le _, rfl, fun j hj => absurd hj (by omega), Below.refl _ _⟩
    case round =>
      obtain ⟨k, hk, rfl, hall, hb⟩ := hrel
      have HA := Lib.hid hall
      clear hall
      by_cases hlt : k < xs.length
      · have hl := HL.out
        obtain ⟨b, off, rfl, hc1, -⟩ := (h1.below hb).at_ hlt
        obtain ⟨b', off', rfl, hc2, -⟩ := (h2.below hb).at_ (by omega : k < ys.length)
        obtain ⟨x, ex⟩ : ∃ x, x = xs[k] := ⟨_, rfl⟩
        obtain ⟨y, ey⟩ : ∃ y, y = ys[k] := ⟨_, rfl⟩
        rw [← ex] at hc1
        rw [← ey] at hc2
        have i1 : (k : Int) < (xs.length : Int) := by omega
        have i2 : (k : Int) < (ys.length : Int) := by omega
        have d1 : decide (k < xs.length) = true := by simpa using hlt
        have EX := Lib.hid ex
        have EY := Lib.hid ey
        clear ex ey
        by_cases hxy : x = y
        · have hn : (x != y) = false := by simpa using hxy
          have HXY := Lib.hid hxy
          clear hxy
          go_wp2
          go_region
          go_wp2
          go_roundw
          case rel =>
            refine ⟨k + 1, by omega, by go_num, fun j hj => ?_, hb.drew⟩
            by_cases e : j = k
            · subst e
              rw [List.getElem?_eq_getElem hlt, List.getElem?_eq_getElem (by omega), ← EX.out, ← EY.out, HXY.out]
            · exact HA.out j (by omega)
          case measure => simp [intOf]; omega
        · have hn : (x != y) = true := by simpa using hxy
          go_wp2
          go_region
          go_wp2
          go_ret
          refine ⟨retB ?_, hb.drew⟩
          symm
          rw [decide_eq_false_iff_not]
          intro e
          subst e
          exact hxy (by rw [EX.out, EY.out])
      · have hk' : k = xs.length := by omega
        have d1 : decide (k < xs.length) = false := by simpa using hlt
        go_wp2
        go_ret
        refine ⟨retB ?_, hb⟩
        symm
        rw [decide_eq_true_iff]
        apply List.ext_getElem? 
        intro j
        by_cases hj : j < k
        · exact HA.out j hj
        · have hl := HL.out
          rw [List.getElem?_eq_none (by omega), List.getElem?_eq_none (by omega)]
  · have hd : ((xs.length : Int) != (ys.length : Int)) = true := by simp; omega
    go_enter Try.func16, Try.ntmps16
    go_wp2
    go_ret
    refine ⟨retB ?_, Below.refl _ _⟩
    symm
    rw [decide_eq_false_iff_not]
    intro e
    exact hl (by rw [e])
theorem rInts_same {B B' : Nat} {v v' : Value} (xs : List Int) (w : World) (h1 : OwnI w B 3 v xs) (h2 : OwnI w B' 3 v' xs) (hx : xs.length ≤ 1099511627776) :
    Calls Try.prog 16 #[v, v'] w fun e w' => e = .returned (.bool true) ∧ Below w.heap.size w w' := by
  obtain ⟨A, c, rfl, hr⟩ := h1.form
  obtain ⟨A', c', rfl, hr'⟩ := h2.form
  exact (rInts_any A A' c c' xs xs w hr hr' hx hx).mono fun _ _ ⟨he, hw⟩ => ⟨by rw [he]; simp, hw⟩
theorem rBig_any (A : Option Addr) (n c : Nat) (w : World) : Calls Try.prog 4 #[.slice A n c] w fun e w' => e = .returned (.bool (decide (65536 < n))) ∧ w = w' := by
  by_cases h : 65536 < n
  · have d : decide (65536 < n) = true := by simpa using h
    have d2 : (65536 : Int) < (n : Int) := by omega
    rw [d]
    go_enter Try.func4, Try.ntmps4
    go_wp2
    go_ret
    exact ⟨by simp [h], rfl⟩
  · have d : decide (65536 < n) = false := by simpa using h
    have d2 : ¬ (65536 : Int) < (n : Int) := by omega
    rw [d]
    go_enter Try.func4, Try.ntmps4
    go_wp2
    go_ret
    exact ⟨by simp [h], rfl⟩
theorem reads {w : World} {B n c : Nat} {T : TypeId} {A : Option Addr} {zs : List Int} (h : OwnI w B T (.slice A n c) zs) : RdI w A zs := by
  obtain ⟨A', c', e, hr⟩ := h.form
  injection e with e1 _ _
  subst e1
  exact hr
end Go.Proofs.Ytlbggefccgpgaaa
/-! ### CombP -/
namespace Go.Proofs.Ytlbggefccgpgaaa
open Go.RowKit
theorem rowN_or (p q : Nat → Bool) (n : Nat) : rowN p n ||| rowN q n = rowN (fun i => p i || q i) n := by
  apply Nat.eq_of_testBit_eq
  intro i
  rw [Nat.testBit_or, rowN_bit, rowN_bit, rowN_bit]
  cases decide (i < n) <;> rfl
theorem rowN_and (p q : Nat → Bool) (n : Nat) : rowN p n &&& rowN q n = rowN (fun i => p i && q i) n := by
  apply Nat.eq_of_testBit_eq
  intro i
  rw [Nat.testBit_and, rowN_bit, rowN_bit, rowN_bit]
  cases decide (i < n) <;> cases p i <;> rfl
theorem rowN_small (p : Nat → Bool) : rowN p 20 < 2 ^ 63 := Nat.lt_trans (rowN_lt p 20) (by decide)
theorem rowV_or (p q : Nat → Bool) : bits BinOp.or IntKind.i64 (rowV p 20) (rowV q 20) = rowV (fun i => p i || q i) 20 := by
  rw [rowV_nat p 20 (by omega), rowV_nat q 20 (by omega), rowV_nat _ 20 (by omega), (bits_nat .i64 63 (by decide) wraps_i64 _ _ (rowN_small p) (rowN_small q)).2, rowN_or]
theorem rowV_and (p q : Nat → Bool) : bits BinOp.and IntKind.i64 (rowV p 20) (rowV q 20) = rowV (fun i => p i && q i) 20 := by
  rw [rowV_nat p 20 (by omega), rowV_nat q 20 (by omega), rowV_nat _ 20 (by omega), (bits_nat .i64 63 (by decide) wraps_i64 _ _ (rowN_small p) (rowN_small q)).1, rowN_and]
theorem regRows_getD (h : Int → Int → Bool) (y : Nat) (hy : y < 24) : (regRows h).getD y 0 = rowV (cellP h y) 20 := by
  rw [List.getD_eq_getElem?_getD, List.getElem?_eq_getElem (by rw [regRows_len]; exact hy)]
  simp [regRows, cellF]
theorem combL_or (h g : Int → Int → Bool) : combL 1 (regRows h) (regRows g) = regRows fun x y => h x y || g x y := by
  unfold combL
  apply List.map_congr_left
  intro y hy
  have hy : y < 24 := List.mem_range.1 hy
  rw [regRows_getD h y hy, regRows_getD g y hy]
  show bits BinOp.or IntKind.i64 _ _ = rowV _ 20
  rw [rowV_or]
  congr 1
  funext x
  simp only [cellP]
  cases inSh x y <;> simp
theorem combL_and (h g : Int → Int → Bool) : combL 2 (regRows h) (regRows g) = regRows fun x y => h x y && g x y := by
  unfold combL
  apply List.map_congr_left
  intro y hy
  have hy : y < 24 := List.mem_range.1 hy
  rw [regRows_getD h y hy, regRows_getD g y hy]
  show bits BinOp.and IntKind.i64 _ _ = rowV _ 20
  rw [rowV_and]
  congr 1
  funext x
  simp only [cellP]
  cases inSh x y <;> simp
theorem regOk_rows (h : Int → Int → Bool) : regOk (regRows h) = true := by
  refine regOk_yes (regRows_len h) fun y v hy hv => ?_
  have e : v = rowV (cellP h y) 20 := by
    rw [← regRows_getD h y hy, List.getD_eq_getElem?_getD, hv]
    rfl
  subst e
  have hlt := rowN_lt (cellP h y) 20
  rw [show (2 : Nat) ^ 20 = 1048576 from rfl] at hlt
  rw [rowV_nat _ 20 (by omega)]
  simp only [rowS, Bool.and_eq_true, decide_eq_true_eq, List.all_eq_true, List.mem_range]
  refine ⟨by omega, fun x hx => ?_⟩
  rw [hasB_nat _ _ (rowN_small _), rowN_bit]
  have hd : decide (x < 20) = true := by simpa using hx
  rw [hd, Bool.true_and]
  simp only [cellP, shP]
  cases inSh x y <;> simp
theorem area_none : areaN (regRows fun _ _ => false) 24 = 0 := by decide +kernel
/-- The two parts of a division have no cell in common and make up the shield. -/
theorem parts_or (f : Int → Int → Int) (p : Int) (hp : p = 0 ∨ p = 1) (hf : ∀ x y, f x y = 0 ∨ f x y = 1) : (regRows fun x y => (f x y == p) || (f x y == 1 - p)) = regRows fun _ _ => true := by
  apply regRows_congr
  intro x y _
  rcases hp with rfl | rfl <;> rcases hf x y with h | h <;> rw [h] <;> rfl
theorem parts_and (f : Int → Int → Int) (p : Int) (hp : p = 0 ∨ p = 1) (hf : ∀ x y, f x y = 0 ∨ f x y = 1) : (regRows fun x y => (f x y == p) && (f x y == 1 - p)) = regRows fun _ _ => false := by
  apply regRows_congr
  intro x y _
  rcases hp with rfl | rfl <;> rcases hf x y with h | h <;> rw [h] <;> rfl
end Go.Proofs.Ytlbggefccgpgaaa
/-! ### Hatch -/
namespace Go.Proofs.Ytlbggefccgpgaaa
open Go.ChangeShapes Go.WideShapes Go.ChangeAt Go.RowKit
set_option linter.unusedVariables false
theorem bd (a b : Int) : (a == b) = decide (a = b) := rfl
def ei (b : Bool) (p q : Int) : Int := bif b then p else q
def hatchF (t x y : Int) : Int :=
  if t = 1 then ei (decide (x % 2 = 0) && decide (y % 2 = 0)) 46 32 else if t = 2 then 32 else if t = 3 then ei (decide (x % 2 = 0)) 124 32 else if t = 4 then ei (decide (y % 2 = 0)) 45 32
  else if t = 5 then ei (decide (x % 2 = 0) && decide (y % 2 = 0)) 43 (ei (decide (x % 2 = 0)) 124 (ei (decide (y % 2 = 0)) 45 32))
  else if t = 6 then ei (decide ((x - y).tmod 3 = 0)) 92 32 else if t = 7 then ei (decide ((x + y) % 3 = 0)) 47 32 else if t = 8 then ei (decide ((x + 2 * y) % 5 = 0)) 42 32 else ei (decide ((x + y) % 2 = 0)) 118 94
theorem either_any (b : Bool) (p q : Int) (w : World) :
    Calls Try.prog 37 #[.bool b, .int .u8 p, .int .u8 q] w fun e w' => e = .returned (.int .u8 (ei b p q)) ∧ w = w' := by
  cases b
  all_goals
    go_enter Try.func37, Try.ntmps37
    go_wp2
    go_ret
    exact ⟨rfl, rfl⟩
theorem hatch_any (t x y : Int) (w : World) (ht1 : 1 ≤ t) (ht9 : t ≤ 9) (hx0 : 0 ≤ x) (hx1 : x ≤ 19) (hy0 : 0 ≤ y) (hy1 : y ≤ 23) :
    Calls Try.prog 19 #[.int .i64 t, .int .i64 x, .int .i64 y] w fun e w' => e = .returned (.int .u8 (hatchF t x y)) ∧ w = w' := by
  obtain ⟨z, hz⟩ : ∃ z, z = hatchF t x y := ⟨_, rfl⟩
  rw [← hz]
  have hz := Lib.hid hz
  obtain rfl | rfl | rfl | rfl | rfl | rfl | rfl | rfl | rfl : t = 1 ∨ t = 2 ∨ t = 3 ∨ t = 4 ∨ t = 5 ∨ t = 6 ∨ t = 7 ∨ t = 8 ∨ t = 9 := by omega
  all_goals
    by_cases a : x % 2 = 0
    all_goals
      by_cases b : y % 2 = 0
      all_goals
        go_enter Try.func19, Try.ntmps19
        go_wp2_with (first | (go_at_call 37; refine (either_any _ _ _ _).mono ?_; rintro e w' ⟨rfl, rfl⟩) | fail)
        go_ret
        refine ⟨?_, rfl⟩
        rw [hz.out]
        simp [hatchF, bd, a, b]
theorem l13Sign_any (t x y : Int) (w : World) (ht1 : 1 ≤ t) (ht9 : t ≤ 9) (hx0 : 0 ≤ x) (hx1 : x ≤ 19) (hy0 : 0 ≤ y) (hy1 : y ≤ 23) :
    Calls Try.prog 21 #[.int .i64 t, .int .i64 x, .int .i64 y] w fun e w' => e = .returned (.int .u8 (hatchF t x y)) ∧ w = w' := by
  obtain ⟨z, hz⟩ : ∃ z, z = hatchF t x y := ⟨_, rfl⟩
  rw [← hz]
  have hz := Lib.hid hz
  obtain rfl | rfl | rfl | rfl | rfl | rfl | rfl | rfl | rfl : t = 1 ∨ t = 2 ∨ t = 3 ∨ t = 4 ∨ t = 5 ∨ t = 6 ∨ t = 7 ∨ t = 8 ∨ t = 9 := by omega
  all_goals
    by_cases a : x % 2 = 0
    all_goals
      by_cases b : y % 2 = 0
      all_goals
        go_enter Try.func21, Try.ntmps21
        go_wp2
        all_goals go_ret
        all_goals refine ⟨?_, rfl⟩
        all_goals rw [hz.out]
        all_goals simp_all [hatchF, ei, bd]
end Go.Proofs.Ytlbggefccgpgaaa
/-! ### Hatch2 -/
namespace Go.Proofs.Ytlbggefccgpgaaa
open Go.ChangeShapes Go.WideShapes Go.ChangeAt Go.RowKit
set_option linter.unusedVariables false
def hatchB (t x y : Int) : Bool := decide ((1 ≤ t ∧ t ≤ 9) ∧ (0 ≤ x ∧ x ≤ 19) ∧ (0 ≤ y ∧ y ≤ 23))
def hatchV (t x y : Int) : Int := bif hatchB t x y then hatchF t x y else 0
theorem HatchByte_any (t x y : Int) (w : World) :
    Calls Try.prog 11 #[.int .i64 t, .int .i64 x, .int .i64 y] w fun e w' => e = .returned (.tuple #[.int .u8 (hatchV t x y), .bool (hatchB t x y)]) ∧ Below w.heap.size w w' := by
  by_cases h1 : 1 ≤ t ∧ t ≤ 9
  · by_cases h2 : 0 ≤ x ∧ x ≤ 19
    · by_cases h3 : 0 ≤ y ∧ y ≤ 23
      · have hb : hatchB t x y = true := by simp only [hatchB, h1, h2, h3, and_self, decide_true]
        have hv : hatchV t x y = hatchF t x y := by simp only [hatchV, hb, cond_true]
        rw [hv, hb]
        clear hv hb
        obtain ⟨a1, a2⟩ := h1
        obtain ⟨a3, a4⟩ := h2
        obtain ⟨a5, a6⟩ := h3
        go_enter Try.func11, Try.ntmps11
        go_wp2_with (first | (go_at_call 28; refine (inside_any _ _ _ _).mono ?_; rintro e w' ⟨rfl, rfl⟩) | (go_at_call 22; refine (IsTincture_any _ _).mono ?_; rintro e w' ⟨rfl, rfl⟩) | (go_at_call 19; refine (hatch_any _ _ _ _ (by omega) (by omega) (by omega) (by omega) (by omega) (by omega)).mono ?_; rintro e w' ⟨rfl, rfl⟩) | fail)
        go_ret2
        exact ⟨rfl, by (repeat (first | exact Below.refl _ _ | assumption | refine Below_al ?_ _ | refine Below.drew ?_ | refine Below_then ?_ (by assumption) | refine Below.setCell ?_ (by first | omega | (simp; done) | (simp; omega)) _))⟩
      · have hb : hatchB t x y = false := by simp [hatchB]; omega
        have hv : hatchV t x y = 0 := by simp only [hatchV, hb, cond_false]
        rw [hv, hb]
        clear hv hb
        go_enter Try.func11, Try.ntmps11
        go_wp2_with (first | (go_at_call 28; refine (inside_any _ _ _ _).mono ?_; rintro e w' ⟨rfl, rfl⟩) | (go_at_call 22; refine (IsTincture_any _ _).mono ?_; rintro e w' ⟨rfl, rfl⟩) | (go_at_call 19; refine (hatch_any _ _ _ _ (by omega) (by omega) (by omega) (by omega) (by omega) (by omega)).mono ?_; rintro e w' ⟨rfl, rfl⟩) | fail)
        go_ret2
        exact ⟨rfl, by (repeat (first | exact Below.refl _ _ | assumption | refine Below_al ?_ _ | refine Below.drew ?_ | refine Below_then ?_ (by assumption) | refine Below.setCell ?_ (by first | omega | (simp; done) | (simp; omega)) _))⟩
    · have hb : hatchB t x y = false := by simp [hatchB]; omega
      have hv : hatchV t x y = 0 := by simp only [hatchV, hb, cond_false]
      rw [hv, hb]
      clear hv hb
      go_enter Try.func11, Try.ntmps11
      go_wp2_with (first | (go_at_call 28; refine (inside_any _ _ _ _).mono ?_; rintro e w' ⟨rfl, rfl⟩) | (go_at_call 22; refine (IsTincture_any _ _).mono ?_; rintro e w' ⟨rfl, rfl⟩) | (go_at_call 19; refine (hatch_any _ _ _ _ (by omega) (by omega) (by omega) (by omega) (by omega) (by omega)).mono ?_; rintro e w' ⟨rfl, rfl⟩) | fail)
      go_ret2
      exact ⟨rfl, by (repeat (first | exact Below.refl _ _ | assumption | refine Below_al ?_ _ | refine Below.drew ?_ | refine Below_then ?_ (by assumption) | refine Below.setCell ?_ (by first | omega | (simp; done) | (simp; omega)) _))⟩
  · have hb : hatchB t x y = false := by simp [hatchB]; omega
    have hv : hatchV t x y = 0 := by simp only [hatchV, hb, cond_false]
    rw [hv, hb]
    clear hv hb
    go_enter Try.func11, Try.ntmps11
    go_wp2_with (first | (go_at_call 28; refine (inside_any _ _ _ _).mono ?_; rintro e w' ⟨rfl, rfl⟩) | (go_at_call 22; refine (IsTincture_any _ _).mono ?_; rintro e w' ⟨rfl, rfl⟩) | (go_at_call 19; refine (hatch_any _ _ _ _ (by omega) (by omega) (by omega) (by omega) (by omega) (by omega)).mono ?_; rintro e w' ⟨rfl, rfl⟩) | fail)
    go_ret2
    exact ⟨rfl, by (repeat (first | exact Below.refl _ _ | assumption | refine Below_al ?_ _ | refine Below.drew ?_ | refine Below_then ?_ (by assumption) | refine Below.setCell ?_ (by first | omega | (simp; done) | (simp; omega)) _))⟩
theorem specHatchByte_any (t x y : Int) (w : World) :
    Calls Try.prog 13 #[.int .i64 t, .int .i64 x, .int .i64 y] w fun e w' => e = .returned (.tuple #[.int .u8 (hatchV t x y), .bool (hatchB t x y)]) ∧ Below w.heap.size w w' := by
  by_cases h1 : 1 ≤ t ∧ t ≤ 9
  · by_cases h2 : 0 ≤ x ∧ x ≤ 19
    · by_cases h3 : 0 ≤ y ∧ y ≤ 23
      · have hb : hatchB t x y = true := by simp only [hatchB, h1, h2, h3, and_self, decide_true]
        have hv : hatchV t x y = hatchF t x y := by simp only [hatchV, hb, cond_true]
        rw [hv, hb]
        clear hv hb
        obtain ⟨a1, a2⟩ := h1
        obtain ⟨a3, a4⟩ := h2
        obtain ⟨a5, a6⟩ := h3
        go_enter Try.func13, Try.ntmps13
        go_wp2_with (first | (go_at_call 32; refine (l1In_any _ _ _ _).mono ?_; rintro e w' ⟨rfl, rfl⟩) | (go_at_call 31; refine (l2Good_any _ _).mono ?_; rintro e w' ⟨rfl, rfl⟩) | (go_at_call 21; refine (l13Sign_any _ _ _ _ (by omega) (by omega) (by omega) (by omega) (by omega) (by omega)).mono ?_; rintro e w' ⟨rfl, rfl⟩) | fail)
        go_ret2
        exact ⟨rfl, by (repeat (first | exact Below.refl _ _ | assumption | refine Below_al ?_ _ | refine Below.drew ?_ | refine Below_then ?_ (by assumption) | refine Below.setCell ?_ (by first | omega | (simp; done) | (simp; omega)) _))⟩
      · have hb : hatchB t x y = false := by simp [hatchB]; omega
        have hv : hatchV t x y = 0 := by simp only [hatchV, hb, cond_false]
        rw [hv, hb]
        clear hv hb
        go_enter Try.func13, Try.ntmps13
        go_wp2_with (first | (go_at_call 32; refine (l1In_any _ _ _ _).mono ?_; rintro e w' ⟨rfl, rfl⟩) | (go_at_call 31; refine (l2Good_any _ _).mono ?_; rintro e w' ⟨rfl, rfl⟩) | (go_at_call 21; refine (l13Sign_any _ _ _ _ (by omega) (by omega) (by omega) (by omega) (by omega) (by omega)).mono ?_; rintro e w' ⟨rfl, rfl⟩) | fail)
        go_ret2
        exact ⟨rfl, by (repeat (first | exact Below.refl _ _ | assumption | refine Below_al ?_ _ | refine Below.drew ?_ | refine Below_then ?_ (by assumption) | refine Below.setCell ?_ (by first | omega | (simp; done) | (simp; omega)) _))⟩
    · have hb : hatchB t x y = false := by simp [hatchB]; omega
      have hv : hatchV t x y = 0 := by simp only [hatchV, hb, cond_false]
      rw [hv, hb]
      clear hv hb
      go_enter Try.func13, Try.ntmps13
      go_wp2_with (first | (go_at_call 32; refine (l1In_any _ _ _ _).mono ?_; rintro e w' ⟨rfl, rfl⟩) | (go_at_call 31; refine (l2Good_any _ _).mono ?_; rintro e w' ⟨rfl, rfl⟩) | (go_at_call 21; refine (l13Sign_any _ _ _ _ (by omega) (by omega) (by omega) (by omega) (by omega) (by omega)).mono ?_; rintro e w' ⟨rfl, rfl⟩) | fail)
      go_ret2
      exact ⟨rfl, by (repeat (first | exact Below.refl _ _ | assumption | refine Below_al ?_ _ | refine Below.drew ?_ | refine Below_then ?_ (by assumption) | refine Below.setCell ?_ (by first | omega | (simp; done) | (simp; omega)) _))⟩
  · have hb : hatchB t x y = false := by simp [hatchB]; omega
    have hv : hatchV t x y = 0 := by simp only [hatchV, hb, cond_false]
    rw [hv, hb]
    clear hv hb
    go_enter Try.func13, Try.ntmps13
    go_wp2_with (first | (go_at_call 32; refine (l1In_any _ _ _ _).mono ?_; rintro e w' ⟨rfl, rfl⟩) | (go_at_call 31; refine (l2Good_any _ _).mono ?_; rintro e w' ⟨rfl, rfl⟩) | (go_at_call 21; refine (l13Sign_any _ _ _ _ (by omega) (by omega) (by omega) (by omega) (by omega) (by omega)).mono ?_; rintro e w' ⟨rfl, rfl⟩) | fail)
    go_ret2
    exact ⟨rfl, by (repeat (first | exact Below.refl _ _ | assumption | refine Below_al ?_ _ | refine Below.drew ?_ | refine Below_then ?_ (by assumption) | refine Below.setCell ?_ (by first | omega | (simp; done) | (simp; omega)) _))⟩
end Go.Proofs.Ytlbggefccgpgaaa
/-! ### HText -/
namespace Go.Proofs.Ytlbggefccgpgaaa
open Go.ChangeShapes Go.WideShapes Go.ChangeAt Go.RowKit
set_option linter.unusedVariables false
def hatchC (y x : Nat) (v : Int) : UInt8 := if v = 0 then 35 else UInt8.ofNat (hatchF v x y).toNat
theorem ei_bd {b : Bool} {p q : Int} (hp : 0 ≤ p ∧ p < 256) (hq : 0 ≤ q ∧ q < 256) : 0 ≤ ei b p q ∧ ei b p q < 256 := by cases b <;> simpa [ei]
theorem hatchF_bd (t x y : Int) : 0 ≤ hatchF t x y ∧ hatchF t x y < 256 := by
  unfold hatchF
  repeat' (first | exact ei_bd (by decide) (by decide) | exact ei_bd (by decide) (ei_bd (by decide) (ei_bd (by decide) (by decide))) | (exact ⟨by decide, by decide⟩) | split)
theorem hatchC_eq {y x : Nat} {v : Int} (h : ¬ v = 0) : hatchF v x y = ((hatchC y x v).toNat : Int) := by
  have hb := hatchF_bd v x y
  unfold hatchC
  rw [if_neg h, UInt8.toNat_ofNat']
  omega
def hatchT (rows : List (List Int)) : List UInt8 := bif picOk rows then textT hatchC [10] rows 24 else []
set_option maxHeartbeats 2000000 in
theorem HatchText_any (A : Option Addr) (c : Nat) (rows : List (List Int)) (w : World) (h : RdG w A rows) (hs : Small rows) :
    Calls Try.prog 6 #[.slice A rows.length c] w fun e w' => e = .returned (.tuple #[.string ⟨(hatchT rows).toArray⟩, .bool (picOk rows)]) ∧ Below w.heap.size w w' := by
  have K := fun w' (hb : Below w.heap.size w w') => IsValidPicture_any A c rows w' (h.below hb) hs
  by_cases hok : picOk rows = true
  · have hl := picOk_24 hok
    have hz : hatchT rows = textT hatchC [10] rows 24 := by simp [hatchT, hok]
    rw [hok] at K
    rw [hok, hz]
    rw [hl] at K ⊢
    have K' := Lib.hid K
    have HL := Lib.hid hl
    have HOK := Lib.hid hok
    clear K hok hl hs hz
    go_enter Try.func6, Try.ntmps6
    go_wp2_with (first | (go_at_call 18; refine (K'.out _ (Below.refl _ _)).mono ?_; rintro e w1 ⟨rfl, hb1⟩) | fail)
    go_loopw [4, 15] (fun s i wr => ∃ k : Nat, k ≤ 24 ∧ i = .int .i64 k ∧ OwnB wr w.heap.size s (textT hatchC [10] rows k) ∧ Below w.heap.size w wr) (fun _ i _ => 24 - (intOf i).toNat)
    case atStart => exact ⟨0, by omega, rfl, OwnB.empty _ _ (by first | exact Nat.le_refl _ | exact hb1.size), by (repeat (first | exact Below.refl _ _ | assumption | refine Below_al ?_ _ | refine Below.drew ?_ | refine Below_then ?_ (by assumption) | refine Below.setCell ?_ (by first | omega | (simp; done) | (simp; omega)) _))⟩
    case round =>
      obtain ⟨k, hk, rfl, hown, hb⟩ := hrel
      by_cases hlt : k < 24
      · have hd : decide ((k : Int) < 24) = true := by simp; omega
        have i1 : (k : Int) < 24 := by omega
        have hsz := hb.size
        obtain ⟨row, hrow⟩ := row_at (rows := rows) (k := k) (by have := HL.out; omega)
        obtain ⟨b, off, A', c', rfl, hc0, hr, -⟩ := h.atv hrow
        have hrg := picOk_row HOK.out hrow
        have hr20 := rowG_20 hrg
        rw [hr20] at hc0
        have hc1 := keep_cell hc0 hb
        have HC0 := Lib.hid hc0
        have HR := Lib.hid hr
        have HR20 := Lib.hid hr20
        have HRG := Lib.hid hrg
        have HROW := Lib.hid hrow
        have TL := Lib.hid (textT_len hatchC [10] rows k)
        have TS := Lib.hid (textT_snoc (f := hatchC) (tl := [10]) hrow)
        clear hrow hrg hr20 hr hc0
        go_wp2_with fail
        clear hd hc1
        go_loopw [4, 22] (fun s i wr => ∃ j : Nat, j ≤ 20 ∧ i = .int .i64 j ∧ OwnB wr w.heap.size s (textT hatchC [10] rows k ++ rowT hatchC k row j) ∧ Below w.heap.size w wr) (fun _ i _ => 20 - (intOf i).toNat)
        case atStart => exact ⟨0, by omega, rfl, by simpa [rowT] using hown, hb⟩
        case round =>
          clear hown hb hsz
          obtain ⟨j, hj, rfl, hown, hb⟩ := hrel
          have hsz := hb.size
          have hll : (textT hatchC [10] rows k ++ rowT hatchC k row j).length ≤ 100000 := by
            rw [List.length_append, TL.out, rowT_len]
            simp
            omega
          have HLL := Lib.hid hll
          have HOWN := Lib.hid hown
          clear hll hown
          by_cases hlt2 : j < 20
          · have hd2 : decide ((j : Int) < 20) = true := by simp; omega
            have i2 : (j : Int) < 20 := by omega
            have hc1 := keep_cell HC0.out hb
            obtain ⟨v, hv⟩ : ∃ v, row[j]? = some v := ⟨row[j]'(by have := HR20.out; omega), List.getElem?_eq_getElem _⟩
            obtain ⟨v0, v9⟩ := cellG_bd (rowG_cell HRG.out hv)
            obtain ⟨b2, off2, rfl, hc2, -⟩ := (HR.out.below hb).atv hv
            have HST := Lib.hid (textT_step (f := hatchC) (tl := [10]) (rows := rows) (k := k) hv)
            clear hv
            by_cases h0 : v = 0
            · subst h0
              go_wp2_with (first | (at_builtin; refine wp_appB 35 rfl _ _ rfl w.heap.size _ _ rfl (HOWN.out.alloc _) _ _ rfl (cell_of (heap_hit _ _ _ rfl) 0) rfl (by have := HLL.out; omega) (by simp; omega) ?_; intro v' w3 hown3 hgr3 hbel3) | fail)
              go_roundw
              case rel =>
                refine ⟨j + 1, by omega, by go_num, ?_, (Below_al hb _).trans hbel3⟩
                rw [← HST.out]
                exact hown3
              case measure => simp [intOf]; omega
            · have n0 : (v == 0) = false := by simpa using h0
              have hce := hatchC_eq (y := k) (x := j) h0
              have KH : ∀ w, Calls Try.prog 19 #[.int .i64 v, .int .i64 j, .int .i64 k] w fun e w' => e = .returned (.int .u8 ((hatchC k j v).toNat : Int)) ∧ w = w' := fun w => by
                rw [← hce]
                exact hatch_any v j k w (by omega) (by omega) (by omega) (by omega) (by omega) (by omega)
              generalize hatchC k j v = cc at *
              have KH' := Lib.hid KH
              clear KH hce h0
              go_wp2_with (first | (at_builtin; refine wp_appB cc rfl _ _ rfl w.heap.size _ _ rfl (HOWN.out.alloc _) _ _ rfl (cell_of (heap_hit _ _ _ rfl) 0) rfl (by have := HLL.out; omega) (by simp; omega) ?_; intro v' w3 hown3 hgr3 hbel3) | (first | (go_at_call 19; refine (KH'.out _).mono ?_; rintro e w' ⟨rfl, rfl⟩) | fail))
              go_roundw
              case rel =>
                refine ⟨j + 1, by omega, by go_num, ?_, (Below_al hb _).trans hbel3⟩
                rw [← HST.out]
                exact hown3
              case measure => simp [intOf]; omega
          · obtain rfl : j = 20 := by omega
            go_wp2_with (first | (at_builtin; refine wp_appB 10 rfl _ _ rfl w.heap.size _ _ rfl (HOWN.out.alloc _) _ _ rfl (cell_of (heap_hit _ _ _ rfl) 0) rfl (by have := HLL.out; omega) (by simp; omega) ?_; intro v' w3 hown3 hgr3 hbel3) | fail)
            go_roundw
            case rel =>
              refine ⟨k + 1, by omega, by go_num, ?_, (Below_al hb _).trans hbel3⟩
              rw [TS.out, ← List.append_assoc]
              exact hown3
            case measure => simp [intOf]; omega
      · obtain rfl : k = 24 := by omega
        have hsz := hb.size
        have HOWN := Lib.hid hown
        have hcv := hown.conv
        clear hown
        go_wp2
        go_ret2
        exact ⟨rfl, hb⟩
  · have hok' : picOk rows = false := by simpa using hok
    have hz : hatchT rows = [] := by simp [hatchT, hok']
    rw [hok'] at K
    rw [hok', hz]
    have K' := Lib.hid K
    clear K hok hok' hs hz h
    go_enter Try.func6, Try.ntmps6
    go_wp2_with (first | (go_at_call 18; refine (K'.out _ (Below.refl _ _)).mono ?_; rintro e w1 ⟨rfl, hb1⟩) | fail)
    go_ret2
    exact ⟨rfl, by (repeat (first | exact Below.refl _ _ | assumption | refine Below_al ?_ _ | refine Below.drew ?_ | refine Below_then ?_ (by assumption) | refine Below.setCell ?_ (by first | omega | (simp; done) | (simp; omega)) _))⟩
set_option maxHeartbeats 2000000 in
theorem specHatchText_any (A : Option Addr) (c : Nat) (rows : List (List Int)) (w : World) (h : RdG w A rows) (hs : Small rows) :
    Calls Try.prog 7 #[.slice A rows.length c] w fun e w' => e = .returned (.tuple #[.string ⟨(hatchT rows).toArray⟩, .bool (picOk rows)]) ∧ Below w.heap.size w w' := by
  have K := fun w' (hb : Below w.heap.size w w') => l13Good_any A c rows w' (h.below hb) hs
  by_cases hok : picOk rows = true
  · have hl := picOk_24 hok
    have hz : hatchT rows = textT hatchC [10] rows 24 := by simp [hatchT, hok]
    rw [hok] at K
    rw [hok, hz]
    rw [hl] at K ⊢
    have K' := Lib.hid K
    have HL := Lib.hid hl
    have HOK := Lib.hid hok
    clear K hok hl hs hz
    go_enter Try.func7, Try.ntmps7
    go_wp2_with (first | (go_at_call 20; refine (K'.out _ (Below.refl _ _)).mono ?_; rintro e w1 ⟨rfl, hb1⟩) | fail)
    go_loopw [4, 5] (fun s i wr => ∃ k : Nat, k ≤ 24 ∧ i = .int .i64 k ∧ OwnB wr w.heap.size s (textT hatchC [10] rows k) ∧ Below w.heap.size w wr) (fun _ i _ => 24 - (intOf i).toNat)
    case atStart => exact ⟨0, by omega, rfl, OwnB.empty _ _ (by first | exact Nat.le_refl _ | exact hb1.size), by (repeat (first | exact Below.refl _ _ | assumption | refine Below_al ?_ _ | refine Below.drew ?_ | refine Below_then ?_ (by assumption) | refine Below.setCell ?_ (by first | omega | (simp; done) | (simp; omega)) _))⟩
    case round =>
      obtain ⟨k, hk, rfl, hown, hb⟩ := hrel
      by_cases hlt : k < 24
      · have hd : decide ((k : Int) < 24) = true := by simp; omega
        have i1 : (k : Int) < 24 := by omega
        have hsz := hb.size
        obtain ⟨row, hrow⟩ := row_at (rows := rows) (k := k) (by have := HL.out; omega)
        obtain ⟨b, off, A', c', rfl, hc0, hr, -⟩ := h.atv hrow
        have hrg := picOk_row HOK.out hrow
        have hr20 := rowG_20 hrg
        rw [hr20] at hc0
        have hc1 := keep_cell hc0 hb
        have HC0 := Lib.hid hc0
        have HR := Lib.hid hr
        have HR20 := Lib.hid hr20
        have HRG := Lib.hid hrg
        have HROW := Lib.hid hrow
        have TL := Lib.hid (textT_len hatchC [10] rows k)
        have TS := Lib.hid (textT_snoc (f := hatchC) (tl := [10]) hrow)
        clear hrow hrg hr20 hr hc0
        go_wp2_with fail
        clear hd hc1
        go_loopw [4, 6] (fun s i wr => ∃ j : Nat, j ≤ 20 ∧ i = .int .i64 j ∧ OwnB wr w.heap.size s (textT hatchC [10] rows k ++ rowT hatchC k row j) ∧ Below w.heap.size w wr) (fun _ i _ => 20 - (intOf i).toNat)
        case atStart => exact ⟨0, by omega, rfl, by simpa [rowT] using hown, hb⟩
        case round =>
          clear hown hb hsz
          obtain ⟨j, hj, rfl, hown, hb⟩ := hrel
          have hsz := hb.size
          have hll : (textT hatchC [10] rows k ++ rowT hatchC k row j).length ≤ 100000 := by
            rw [List.length_append, TL.out, rowT_len]
            simp
            omega
          have HLL := Lib.hid hll
          have HOWN := Lib.hid hown
          clear hll hown
          by_cases hlt2 : j < 20
          · have hd2 : decide ((j : Int) < 20) = true := by simp; omega
            have i2 : (j : Int) < 20 := by omega
            have hc1 := keep_cell HC0.out hb
            obtain ⟨v, hv⟩ : ∃ v, row[j]? = some v := ⟨row[j]'(by have := HR20.out; omega), List.getElem?_eq_getElem _⟩
            obtain ⟨v0, v9⟩ := cellG_bd (rowG_cell HRG.out hv)
            obtain ⟨b2, off2, rfl, hc2, -⟩ := (HR.out.below hb).atv hv
            have HST := Lib.hid (textT_step (f := hatchC) (tl := [10]) (rows := rows) (k := k) hv)
            clear hv
            by_cases h0 : v = 0
            · subst h0
              go_wp2_with (first | (at_builtin; refine wp_appB 35 rfl _ _ rfl w.heap.size _ _ rfl (HOWN.out.alloc _) _ _ rfl (cell_of (heap_hit _ _ _ rfl) 0) rfl (by have := HLL.out; omega) (by simp; omega) ?_; intro v' w3 hown3 hgr3 hbel3) | fail)
              go_roundw
              case rel =>
                refine ⟨j + 1, by omega, by go_num, ?_, (Below_al hb _).trans hbel3⟩
                rw [← HST.out]
                exact hown3
              case measure => simp [intOf]; omega
            · have n0 : (v == 0) = false := by simpa using h0
              have hce := hatchC_eq (y := k) (x := j) h0
              have KH : ∀ w, Calls Try.prog 21 #[.int .i64 v, .int .i64 j, .int .i64 k] w fun e w' => e = .returned (.int .u8 ((hatchC k j v).toNat : Int)) ∧ w = w' := fun w => by
                rw [← hce]
                exact l13Sign_any v j k w (by omega) (by omega) (by omega) (by omega) (by omega) (by omega)
              generalize hatchC k j v = cc at *
              have KH' := Lib.hid KH
              clear KH hce h0
              go_wp2_with (first | (at_builtin; refine wp_appB cc rfl _ _ rfl w.heap.size _ _ rfl (HOWN.out.alloc _) _ _ rfl (cell_of (heap_hit _ _ _ rfl) 0) rfl (by have := HLL.out; omega) (by simp; omega) ?_; intro v' w3 hown3 hgr3 hbel3) | (first | (go_at_call 21; refine (KH'.out _).mono ?_; rintro e w' ⟨rfl, rfl⟩) | fail))
              go_roundw
              case rel =>
                refine ⟨j + 1, by omega, by go_num, ?_, (Below_al hb _).trans hbel3⟩
                rw [← HST.out]
                exact hown3
              case measure => simp [intOf]; omega
          · obtain rfl : j = 20 := by omega
            go_wp2_with (first | (at_builtin; refine wp_appB 10 rfl _ _ rfl w.heap.size _ _ rfl (HOWN.out.alloc _) _ _ rfl (cell_of (heap_hit _ _ _ rfl) 0) rfl (by have := HLL.out; omega) (by simp; omega) ?_; intro v' w3 hown3 hgr3 hbel3) | fail)
            go_roundw
            case rel =>
              refine ⟨k + 1, by omega, by go_num, ?_, (Below_al hb _).trans hbel3⟩
              rw [TS.out, ← List.append_assoc]
              exact hown3
            case measure => simp [intOf]; omega
      · obtain rfl : k = 24 := by omega
        have hsz := hb.size
        have HOWN := Lib.hid hown
        have hcv := hown.conv
        clear hown
        go_wp2
        go_ret2
        exact ⟨rfl, hb⟩
  · have hok' : picOk rows = false := by simpa using hok
    have hz : hatchT rows = [] := by simp [hatchT, hok']
    rw [hok'] at K
    rw [hok', hz]
    have K' := Lib.hid K
    clear K hok hok' hs hz h
    go_enter Try.func7, Try.ntmps7
    go_wp2_with (first | (go_at_call 20; refine (K'.out _ (Below.refl _ _)).mono ?_; rintro e w1 ⟨rfl, hb1⟩) | fail)
    go_ret2
    exact ⟨rfl, by (repeat (first | exact Below.refl _ _ | assumption | refine Below_al ?_ _ | refine Below.drew ?_ | refine Below_then ?_ (by assumption) | refine Below.setCell ?_ (by first | omega | (simp; done) | (simp; omega)) _))⟩
end Go.Proofs.Ytlbggefccgpgaaa
namespace Go.Proofs.Ytlbggefccgpgaaa.fnHatching
open Go.ChangeShapes Go.WideShapes Go.ChangeAt Go.RowKit
set_option linter.unusedVariables false
set_option linter.unusedSimpArgs false
def sumK (f : Nat → Nat) : Nat → Nat
  | 0 => 0
  | k + 1 => sumK f k + f k
theorem sumK_le {f : Nat → Nat} {M : Nat} (h : ∀ u, f u ≤ M) : ∀ k, sumK f k ≤ k * M
  | 0 => by simp [sumK]
  | k + 1 => by rw [sumK, Nat.succ_mul]; have := sumK_le h k; have := h k; omega
theorem sumK_add (f g : Nat → Nat) : ∀ k, sumK (fun u => f u + g u) k = sumK f k + sumK g k
  | 0 => rfl
  | k + 1 => by rw [sumK, sumK, sumK, sumK_add f g k]; omega
theorem one_of (v : Int) (h0 : 0 ≤ v) (h9 : v ≤ 9) : sumK (fun u => if (v == (u : Int) + 1) = true then 1 else 0) 9 = if (v != 0) = true then 1 else 0 := by
  have h : v = 0 ∨ v = 1 ∨ v = 2 ∨ v = 3 ∨ v = 4 ∨ v = 5 ∨ v = 6 ∨ v = 7 ∨ v = 8 ∨ v = 9 := by omega
  rcases h with rfl | rfl | rfl | rfl | rfl | rfl | rfl | rfl | rfl | rfl <;> rfl
theorem sum_row (rows : List (List Int)) (y : Nat) (hv : ∀ x, x < 20 → 0 ≤ vAt rows y x ∧ vAt rows y x ≤ 9) : ∀ j, j ≤ 20 → sumK (fun u => cntR (fun x => vAt rows y x == (u : Int) + 1) j) 9 = cntR (fun x => vAt rows y x != 0) j
  | 0, _ => rfl
  | j + 1, hj => by
    have ih := sum_row rows y hv j (by omega)
    have hb := hv j (by omega)
    simp only [cntR] at ih ⊢
    rw [sumK_add, ih]
    congr 1
    exact one_of _ hb.1 hb.2
theorem sum_all (rows : List (List Int)) (hv : ∀ y x, y < 24 → x < 20 → 0 ≤ vAt rows y x ∧ vAt rows y x ≤ 9) : ∀ k, k ≤ 24 → sumK (fun u => cntG (fun y x => vAt rows y x == (u : Int) + 1) 20 k) 9 = cntG (fun y x => vAt rows y x != 0) 20 k
  | 0, _ => rfl
  | k + 1, hk => by
    have ih := sum_all rows hv k (by omega)
    simp only [cntG] at ih ⊢
    rw [sumK_add, ih, sum_row rows k (fun x hx => hv k x (by omega) hx) 20 (Nat.le_refl _)]
theorem cell_bd {rows : List (List Int)} (h : picOk rows = true) {y x : Nat} (hy : y < 24) (hx : x < 20) : ∃ row v, rows[y]? = some row ∧ row.length = 20 ∧ row[x]? = some v ∧ vAt rows y x = v ∧ 0 ≤ v ∧ v ≤ 9 := by
  obtain ⟨row, hrow⟩ : ∃ row, rows[y]? = some row := ⟨_, List.getElem?_eq_getElem (by rw [picOk_24 h]; exact hy)⟩
  have hg := picOk_row h hrow
  have h20 := rowG_20 hg
  obtain ⟨v, hv⟩ : ∃ v, row[x]? = some v := ⟨_, List.getElem?_eq_getElem (by omega)⟩
  have hb := cellG_bd (rowG_cell hg hv)
  exact ⟨row, v, hrow, h20, hv, vAt_eq hrow hv, hb.1, hb.2⟩
theorem shares {rows : List (List Int)} (h : picOk rows = true) : sumK (fun u => eqN rows ((u : Int) + 1) 24 0) 9 = 430 := by
  have h1 := sum_all rows (fun y x hy hx => by obtain ⟨row, v, -, -, -, e, h0, h9⟩ := cell_bd h hy hx; rw [e]; exact ⟨h0, h9⟩) 24 (Nat.le_refl _)
  have h2 := ne_shield h
  unfold neN at h2
  simp only [cntR, Nat.add_zero] at h2
  unfold eqN
  simp only [cntR, Nat.add_zero]
  rw [h1]
  exact h2
theorem text_at (f : Nat → Nat → Int → UInt8) (rows : List (List Int)) {y x : Nat} (hx : x < 20) : ∀ k, y < k → (textT f [10] rows k)[21 * y + x]? = some (f y x ((rows.getD y []).getD x 0))
  | 0, h => by omega
  | k + 1, h => by
    have hl := textT_len f [10] rows k
    simp only [List.length_singleton] at hl
    rw [textT]
    by_cases e : y = k
    · subst e
      rw [List.getElem?_append_right (by omega), show 21 * y + x - (textT f [10] rows y).length = x by omega, List.getElem?_append_left (by rw [rowT_len]; exact hx)]
      simp [rowT, hx]
    · rw [List.getElem?_append_left (by omega)]
      exact text_at f rows hx k (by omega)
theorem chg_same (rows : List (List Int)) : chgF rows rows = fun _ _ => false := by
  funext x y
  simp [chgF]
theorem chg_area {rows : List (List Int)} (h : picOk rows = true) : areaV (chgR rows rows) = 0 ∧ regOk (chgR rows rows) = true ∧ chgR rows rows = regRows fun _ _ => false := by
  have e : chgR rows rows = regRows fun _ _ => false := by
    unfold chgR chgOk
    rw [h, chg_same]
    rfl
  rw [e]
  refine ⟨?_, regOk_rows _, rfl⟩
  unfold areaV
  rw [regOk_rows, area_none]
  rfl
theorem strIdx {s : ByteArray} {n : Nat} (h : n < s.size) (w : World) : (Instr.index 9 (.string s) (.int .i64 (n : Int))).run Try.prog w = .ok (.int .u8 ((s[n]'h).toNat : Int)) w := by
  have i1 : (n : Int) < (s.size : Int) := by omega
  have d1 : decide (n < s.size) = true := by simpa using h
  go_simp
theorem byte_of {l : List UInt8} {s : ByteArray} (hs : s = ⟨l.toArray⟩) {k : Nat} {b : UInt8} (hb : l[k]? = some b) (h : k < s.size) : s[k]'h = b := by
  subst hs
  have h2 : (l.toArray)[k]? = some b := by simpa using hb
  have h3 := Array.getElem?_eq_getElem (xs := l.toArray) (i := k) h
  rw [h3] at h2
  injection h2
theorem chg_len (xs ys : List (List Int)) : (chgR xs ys).length ≤ 24 := by
  unfold chgR
  cases chgOk xs ys
  · simp
  · exact Nat.le_of_eq (regRows_len _)
set_option maxHeartbeats 16000000 in
set_option maxRecDepth 100000 in
theorem rest (w W : World) (A0 : Option Addr) (n0 c0 : Nat) : True := trivial
set_option maxHeartbeats 16000000 in
set_option maxRecDepth 100000 in
theorem walk (w : World) (A0 : Option Addr) (n0 c0 : Nat) (u0 : RdU w A0 n0) :
    Calls Try.prog 3 #[.slice A0 n0 c0] w fun e w' => e = .returned (.bool true) ∧ Below w.heap.size w w' := by
  by_cases hn : n0 ≤ 65536
  · have hn2 : decide (65536 < n0) = false := by simp; omega
    go_enter Try.func3, Try.ntmps3
    have hT := Below.refl w.heap.size w
    go_wp2_with fail
    refine (rBig_any A0 n0 c0 _).mono ?_
    rw [hn2]
    rintro e w1 ⟨rfl, rfl⟩
    clear hn2
    go_wp2_with fail
    refine (DrawHatchText_any A0 n0 c0 _ (u0.below hT) hn).mono ?_
    rintro e y1 ⟨A, c, rows, rfl, hr, hs, hx⟩
    replace hT := Below_then hT hx
    have HR := Lib.hid hr
    have HS := Lib.hid hs
    clear hx hr hs
    go_wp2_with fail
    refine (HatchText_any A c rows _ HR.out HS.out).mono ?_
    rintro e y2 ⟨rfl, hx⟩
    replace hT := Below_then hT hx
    have HR2 := Lib.hid (HR.out.below hx)
    clear hx
    obtain ⟨tx, htx⟩ : ∃ tx : ByteArray, tx = ⟨(hatchT rows).toArray⟩ := ⟨_, rfl⟩
    have KH : ∀ w, RdG w A rows → Calls Try.prog 7 #[.slice A rows.length c] w fun e w' => e = .returned (.tuple #[.string tx, .bool (picOk rows)]) ∧ Below w.heap.size w w' := fun w h => by rw [htx]; exact specHatchText_any A c rows w h HS.out
    rw [← htx]
    have KH' := Lib.hid KH
    have HTX := Lib.hid htx
    have heq : (tx.toList == tx.toList) = true := by simp
    clear KH htx
    cases hok : picOk rows
    · rw [hok] at KH'
      clear hok
      go_wp2_with fail
      refine (KH'.out _ HR2.out).mono ?_
      rintro e y3 ⟨rfl, hx⟩
      replace hT := Below_then hT hx
      clear hx
      go_wp2_with fail
      refine (DrawHatchByte_any A0 n0 c0 _ (u0.below hT) hn).mono ?_
      rintro e z1 ⟨t, x, y, rfl, hx⟩
      replace hT := Below_then hT hx
      clear hx
      go_wp2_with fail
      refine (HatchByte_any t x y _).mono ?_
      rintro e z2 ⟨rfl, hx⟩
      replace hT := Below_then hT hx
      clear hx
      obtain ⟨hv, hhv⟩ : ∃ v, v = hatchV t x y := ⟨_, rfl⟩
      obtain ⟨hb, hhb⟩ : ∃ v, v = hatchB t x y := ⟨_, rfl⟩
      rw [← hhv, ← hhb]
      have KSB : ∀ w, Calls Try.prog 13 #[.int .i64 t, .int .i64 x, .int .i64 y] w fun e w' => e = .returned (.tuple #[.int .u8 hv, .bool hb]) ∧ Below w.heap.size w w' := fun w => by rw [hhv, hhb]; exact specHatchByte_any t x y w
      have KSB' := Lib.hid KSB
      have hv1 : (hv != hv) = false := by simp
      clear KSB hhv hhb
      cases hb
      all_goals
        go_wp2_with fail
        refine (KSB'.out _).mono ?_
        rintro e z3 ⟨rfl, hx⟩
        replace hT := Below_then hT hx
        clear hx
        go_wp2_with fail
        refine (DrawChangedCells_any A0 n0 c0 _ (u0.below hT) hn).mono ?_
        rintro e z4 ⟨Aq, cq, q, Ar, cr, r, rfl, hq, sq, hr, sr, hx⟩
        replace hT := Below_then hT hx
        have HQ := Lib.hid hq
        have HR := Lib.hid hr
        clear hx hq hr
        go_wp2_with fail
        refine (ChangedCells_any Aq Ar cq cr q r _ HQ.out HR.out sq sr).mono ?_
        rintro e z5 ⟨v5, rfl, hO5, hx⟩
        have hq5 := HQ.out.below hx
        have hr5 := HR.out.below hx
        replace hT := Below_then hT hx
        have hzl := chg_len q r
        obtain ⟨zs, hzs⟩ : ∃ zs, zs = chgR q r := ⟨_, rfl⟩
        have KC : ∀ w, RdG w Aq q → RdG w Ar r → Calls Try.prog 15 #[.slice Aq q.length cq, .slice Ar r.length cr] w (RegOk w zs (chgOk q r)) := fun w h1 h2 => by rw [hzs]; exact specChangedCells_any Aq Ar cq cr q r w h1 h2 sq sr
        rw [← hzs] at hO5 hzl
        obtain ⟨ok, hok⟩ : ∃ ok, ok = chgOk q r := ⟨_, rfl⟩
        rw [← hok] at KC ⊢
        have KC' := Lib.hid KC
        obtain ⟨A5, c5, rfl, -⟩ := hO5.form
        have HO5 := Lib.hid hO5
        have HQ5 := Lib.hid hq5
        have HR5 := Lib.hid hr5
        clear hx hq5 hr5 hzs hok KC hO5 HQ HR
        cases ok
        all_goals
          go_wp2_with fail
          have HB5 := Lib.hid (heap_hit z5 (.cells #[.slice A5 zs.length c5] 32) z5.heap.size rfl)
          have hq6 := HQ5.out.below (Below_al (Below.refl _ _) (.cells #[.slice A5 zs.length c5] 32))
          have hr6 := HR5.out.below (Below_al (Below.refl _ _) (.cells #[.slice A5 zs.length c5] 32))
          have HO6 := Lib.hid (HO5.out.alloc (.cells #[.slice A5 zs.length c5] 32))
          replace hT := Below_al hT (.cells #[.slice A5 zs.length c5] 32)
          refine (KC'.out _ hq6 hr6).mono ?_
          rintro e z6 ⟨v6, rfl, hO7, hx⟩
          replace hT := Below_then hT hx
          obtain ⟨A7, c7, rfl, -⟩ := hO7.form
          have hb6 := heap_keepB HB5.out hx
          have ho6 := HO6.out.below hx
          have hb7 := heap_keepA hb6 (.cells #[.slice A7 zs.length c7] 32)
          have hb8 : (z6.alloc (.cells #[.slice A7 zs.length c7] 32)).heap[z6.heap.size]? = some (.cells #[.slice A7 zs.length c7] 32 (0, 0)) := heap_hit _ _ _ rfl
          have ho7 := ho6.alloc (.cells #[.slice A7 zs.length c7] 32)
          have ho8 := hO7.alloc (.cells #[.slice A7 zs.length c7] 32)
          replace hT := Below_al hT (.cells #[.slice A7 zs.length c7] 32)
          have cc1 := cell_of hb7 0
          have cc2 := cell_of hb8 0
          have HO7 := Lib.hid ho7
          have HO8 := Lib.hid ho8
          clear hx hq6 hr6 hO7 hb6 ho6 hb7 hb8 ho7 ho8
          go_wp2_with fail
          refine (rInts_same zs _ HO7.out HO8.out (by omega)).mono ?_
          rintro e z9 ⟨rfl, hx⟩
          replace hT := Below_then hT hx
          clear hx cc1 cc2
          go_wp2
          go_ret
          exact ⟨rfl, hT⟩
    · rw [hok] at KH'
      have HOK := Lib.hid hok
      have h24 := picOk_24 hok
      have HX := Lib.hid HTX.out
      have htl : tx.size = 504 := by
        have e : hatchT rows = textT hatchC [10] rows 24 := by unfold hatchT; rw [hok]; rfl
        rw [HX.out, e]
        show (textT hatchC [10] rows 24).toArray.size = _
        rw [List.size_toArray, textT_len]
        rfl
      have HTL := Lib.hid htl
      have H24 := Lib.hid h24
      clear hok h24 htl
      go_wp2_with fail
      refine (KH'.out _ HR2.out).mono ?_
      rintro e y3 ⟨rfl, hx⟩
      replace hT := Below_then hT hx
      have HR3 := Lib.hid (HR2.out.below hx)
      have HT3 := Lib.hid hT
      clear hx hT heq
      go_wp2_with fail
      go_loopw [8, 9, 10] (fun sv av tv wr => ∃ (k : Nat), k ≤ 9 ∧ tv = .int .i64 ((k : Int) + 1) ∧ sv = .int .i64 ((sumK (fun u => eqN rows ((u : Int) + 1) 24 0) k : Nat) : Int) ∧ (∃ aw : Int, av = .int .i64 aw ∧ (0 < k → aw = 430)) ∧ Below y3.heap.size y3 wr) (fun _ _ tv _ => 10 - (intOf tv).toNat)
      case atStart => exact ⟨0, by omega, rfl, rfl, ⟨0, rfl, fun h => by omega⟩, Below.refl _ _⟩
      case round =>
        obtain ⟨k, hk, rfl, rfl, ⟨aw, rfl, haw⟩, hb⟩ := hrel
        have HAW := Lib.hid haw
        clear haw
        have hle := sumK_le (f := fun u => eqN rows ((u : Int) + 1) 24 0) (M := 576) (fun u => eqN_le rows _ 24 0) k
        by_cases hlt : k < 9
        · have i1 : (k : Int) + 1 ≤ 9 := by omega
          obtain ⟨sm, hsm⟩ : ∃ sm, sm = sumK (fun u => eqN rows ((u : Int) + 1) 24 0) k := ⟨_, rfl⟩
          rw [← hsm] at hle ⊢
          obtain ⟨en, hen⟩ : ∃ en, en = eqN rows ((k : Int) + 1) 24 0 := ⟨_, rfl⟩
          have hen2 : en ≤ 576 := by rw [hen]; exact eqN_le rows _ 24 0
          have KS := fun w h => ShareOf_any A c rows ((k : Int) + 1) w h HS.out
          have e1 : shareN rows ((k : Int) + 1) = (en : Int) := by unfold shareN; rw [HOK.out, decide_eq_true (by omega), hen]; rfl
          have e2 : shareA rows ((k : Int) + 1) = 430 := by unfold shareA; rw [HOK.out, decide_eq_true (by omega)]; rfl
          have e3 : (picOk rows && decide (1 ≤ (k : Int) + 1 ∧ (k : Int) + 1 ≤ 9)) = true := by rw [HOK.out, decide_eq_true (by omega)]; rfl
          rw [e1, e2, e3] at KS
          have KS' := Lib.hid KS
          have HSM := Lib.hid hsm
          have HEN := Lib.hid hen
          have hr9 := HR3.out.below hb
          clear KS hsm hen e1 e2 e3
          go_wp2_with fail
          refine (KS'.out _ hr9).mono ?_
          rintro e x1 ⟨rfl, hx⟩
          replace hb := Below_then hb hx
          clear hx hr9
          go_wp2
          go_roundw
          case rel => exact ⟨k + 1, by omega, by go_num, by rw [sumK, ← HSM.out, ← HEN.out]; go_num, ⟨430, rfl, fun _ => rfl⟩, hb⟩
          case measure => simp [intOf]; omega
        · obtain rfl : k = 9 := by omega
          obtain rfl := HAW.out (by omega)
          have hs9 := shares HOK.out
          rw [hs9]
          have hT := Below_then HT3.out hb
          have hr9 := HR3.out.below hb
          have HCA := Lib.hid (chg_area HOK.out)
          have HR9 := Lib.hid hr9
          have HT9 := Lib.hid hT
          clear hle hs9 hb hr9 hT
          go_wp2_with fail
          refine (ChangedCells_any A A c c rows rows _ HR9.out HR9.out HS.out HS.out).mono ?_
          rw [HCA.out.2.2]
          rintro e x1 ⟨v1, rfl, hO1, hx⟩
          have hco : chgOk rows rows = true := by unfold chgOk; rw [HOK.out]; rfl
          rw [hco]
          have HT10 := Lib.hid (Below_then HT9.out hx)
          have HR10 := Lib.hid (HR9.out.below hx)
          obtain ⟨A1, c1, rfl, -⟩ := hO1.form
          have HO1 := Lib.hid hO1
          rw [regRows_len]
          clear hx hO1 hco
          have ho2 := HO1.out.alloc (.cells #[.slice A1 24 c1] 32)
          have KA0 := fun w h => AreaOf_any A1 c1 (regRows fun _ _ => false) w h (fun v hv => regOk_bd (regOk_rows _) v hv)
          have ha1 : areaV (regRows fun _ _ => false) = 0 := by rw [← (chg_area HOK.out).2.2]; exact (chg_area HOK.out).1
          simp only [regRows_len, ha1, regOk_rows] at KA0
          have KA := Lib.hid KA0
          have hb2 : (x1.alloc (.cells #[.slice A1 24 c1] 32)).heap[x1.heap.size]? = some (.cells #[.slice A1 24 c1] 32 (0, 0)) := heap_hit _ _ _ rfl
          have cc := cell_of hb2 0
          obtain ⟨A2, c2, e2, hrd2⟩ := ho2.form
          injection e2 with e21 e22 e23
          subst e21 e23
          have HRD2 := Lib.hid hrd2
          have HT11 := Lib.hid (Below_al HT10.out (.cells #[.slice A1 24 c1] 32))
          have HR11 := Lib.hid (HR10.out.alloc (.cells #[.slice A1 24 c1] 32))
          clear ho2 hb2 KA0 ha1 hrd2 e22
          go_wp2_with fail
          refine (KA.out _ HRD2.out).mono ?_
          rintro e x2 ⟨rfl, hx⟩
          have HT12 := Lib.hid (Below_then HT11.out hx)
          have HR12 := Lib.hid (HR11.out.below hx)
          clear hx cc
          go_wp2_with fail
          go_loopw [18] (fun yv wr => ∃ (y : Nat), y ≤ 24 ∧ yv = .int .i64 y ∧ RdG wr A rows ∧ Below w.heap.size w wr) (fun yv _ => 24 - (intOf yv).toNat)
          case atStart => exact ⟨0, by omega, rfl, HR12.out, HT12.out⟩
          case round =>
            obtain ⟨y, hy, rfl, hr9, hT⟩ := hrel
            by_cases hy2 : y < 24
            · have i2 : (y : Int) < 24 := by omega
              have d2 : decide (y < 24) = true := by simpa using hy2
              obtain ⟨x, hx⟩ : ∃ x, x = n0 % 20 := ⟨_, rfl⟩
              have er : Int.tmod (n0 : Int) 20 = (x : Int) := by rw [Int.tmod_eq_emod_of_nonneg (by omega)]; omega
              have hx2 : x < 20 := by omega
              have i3 : (x : Int) < 20 := by omega
              have d3 : decide (x < 20) = true := by simpa using hx2
              obtain ⟨row, v, hrow, h20, hv, -, v0, v9⟩ := cell_bd HOK.out hy2 hx2
              obtain ⟨b1, o1, A', c', rfl, hc1, hrr, -⟩ := hr9.atv hrow
              rw [h20] at hc1
              obtain ⟨b2, o2, rfl, hc2, -⟩ := hrr.atv hv
              have hbt := text_at hatchC rows hx2 24 hy2
              have hgd : (rows.getD y []).getD x 0 = v := by
                have e1 : rows.getD y [] = row := by rw [List.getD_eq_getElem?_getD, hrow]; rfl
                rw [e1, List.getD_eq_getElem?_getD, hv]; rfl
              rw [hgd] at hbt
              have e5 : hatchT rows = textT hatchC [10] rows 24 := by unfold hatchT; rw [HOK.out]; rfl
              rw [← e5] at hbt
              have hlt5 : 21 * y + x < tx.size := by have := HTL.out; omega
              have hbb := byte_of HTX.out hbt hlt5
              obtain ⟨zb, hzb⟩ : ∃ zb : Int, zb = ((hatchC y x v).toNat : Int) := ⟨_, rfl⟩
              have hix : ∀ w, (Instr.index 9 (.string tx) (.int .i64 (21 * (y : Int) + (x : Int)))).run Try.prog w = .ok (.int .u8 zb) w := fun w => by
                rw [show (21 * (y : Int) + (x : Int)) = ((21 * y + x : Nat) : Int) by omega, strIdx hlt5 w, hbb, hzb]
              have hyl : y < rows.length := by rw [picOk_24 HOK.out]; exact hy2
              have hyi : (y : Int) < (rows.length : Int) := by omega
              have HC1 := Lib.hid hc1
              have HC2 := Lib.hid hc2
              have HT20 := Lib.hid hT
              have HR20 := Lib.hid hr9
              by_cases hv0 : v = 0
              · subst hv0
                have hz35 : zb = 35 := by rw [hzb]; rfl
                subst hz35
                have KB := Lib.hid (fun w => HatchByte_any 0 x y w)
                clear hx hrow h20 hv hrr hbt hgd e5 hlt5 hbb hzb v0 v9 hT hr9
                go_wp2_with fail
                refine (KB.out _).mono ?_
                rintro e x3 ⟨rfl, hx3⟩
                have hc3 := keep_cell HC1.out hx3
                have hc4 := keep_cell HC2.out hx3
                have HT21 := Lib.hid (Below_then HT20.out hx3)
                have HR21 := Lib.hid (HR20.out.below hx3)
                clear hc1 hc2 hx3
                go_wp2
                go_roundw
                case rel => exact ⟨y + 1, by omega, by go_num, HR21.out, HT21.out⟩
                case measure => simp [intOf]; omega
              · have b0 : (v == 0) = false := by rw [beq_eq_false_iff_ne]; exact hv0
                have b1' : (v != 0) = true := by simpa using hv0
                have hhb : hatchB v x y = true := by unfold hatchB; rw [decide_eq_true]; omega
                have hhv : hatchV v x y = zb := by unfold hatchV; rw [hhb, hzb]; exact hatchC_eq hv0
                have KB0 := fun w => HatchByte_any v x y w
                rw [hhb, hhv] at KB0
                have KB := Lib.hid KB0
                have hzz : (zb != zb) = false := by simp
                clear hx hrow h20 hv hrr hbt hgd e5 hlt5 hbb hzb v0 v9 hT hr9 hhb hhv KB0 hv0
                go_wp2_with fail
                refine (KB.out _).mono ?_
                rintro e x3 ⟨rfl, hx3⟩
                have hc3 := keep_cell HC1.out hx3
                have hc4 := keep_cell HC2.out hx3
                have HT21 := Lib.hid (Below_then HT20.out hx3)
                have HR21 := Lib.hid (HR20.out.below hx3)
                clear hc1 hc2 hx3
                go_wp2
                go_roundw
                case rel => exact ⟨y + 1, by omega, by go_num, HR21.out, HT21.out⟩
                case measure => simp [intOf]; omega
            · obtain rfl : y = 24 := by omega
              have d2 : decide (24 < 24) = false := by simp
              clear hr9
              go_wp2_with fail
              refine (DrawHatchByte_any A0 n0 c0 _ (u0.below hT) hn).mono ?_
              rintro e z1 ⟨t, x, y, rfl, hx⟩
              replace hT := Below_then hT hx
              clear hx
              go_wp2_with fail
              refine (HatchByte_any t x y _).mono ?_
              rintro e z2 ⟨rfl, hx⟩
              replace hT := Below_then hT hx
              clear hx
              obtain ⟨hv, hhv⟩ : ∃ v, v = hatchV t x y := ⟨_, rfl⟩
              obtain ⟨hb, hhb⟩ : ∃ v, v = hatchB t x y := ⟨_, rfl⟩
              rw [← hhv, ← hhb]
              have KSB : ∀ w, Calls Try.prog 13 #[.int .i64 t, .int .i64 x, .int .i64 y] w fun e w' => e = .returned (.tuple #[.int .u8 hv, .bool hb]) ∧ Below w.heap.size w w' := fun w => by rw [hhv, hhb]; exact specHatchByte_any t x y w
              have KSB' := Lib.hid KSB
              have hv1 : (hv != hv) = false := by simp
              clear KSB hhv hhb
              cases hb
              all_goals
                go_wp2_with fail
                refine (KSB'.out _).mono ?_
                rintro e z3 ⟨rfl, hx⟩
                replace hT := Below_then hT hx
                clear hx
                go_wp2_with fail
                refine (DrawChangedCells_any A0 n0 c0 _ (u0.below hT) hn).mono ?_
                rintro e z4 ⟨Aq, cq, q, Ar, cr, r, rfl, hq, sq, hr, sr, hx⟩
                replace hT := Below_then hT hx
                have HQ := Lib.hid hq
                have HR := Lib.hid hr
                clear hx hq hr
                go_wp2_with fail
                refine (ChangedCells_any Aq Ar cq cr q r _ HQ.out HR.out sq sr).mono ?_
                rintro e z5 ⟨v5, rfl, hO5, hx⟩
                have hq5 := HQ.out.below hx
                have hr5 := HR.out.below hx
                replace hT := Below_then hT hx
                have hzl := chg_len q r
                obtain ⟨zs, hzs⟩ : ∃ zs, zs = chgR q r := ⟨_, rfl⟩
                have KC : ∀ w, RdG w Aq q → RdG w Ar r → Calls Try.prog 15 #[.slice Aq q.length cq, .slice Ar r.length cr] w (RegOk w zs (chgOk q r)) := fun w h1 h2 => by rw [hzs]; exact specChangedCells_any Aq Ar cq cr q r w h1 h2 sq sr
                rw [← hzs] at hO5 hzl
                obtain ⟨ok, hok⟩ : ∃ ok, ok = chgOk q r := ⟨_, rfl⟩
                rw [← hok] at KC ⊢
                have KC' := Lib.hid KC
                obtain ⟨A5, c5, rfl, -⟩ := hO5.form
                have HO5 := Lib.hid hO5
                have HQ5 := Lib.hid hq5
                have HR5 := Lib.hid hr5
                clear hx hq5 hr5 hzs hok KC hO5 HQ HR
                cases ok
                all_goals
                  go_wp2_with fail
                  have HB5 := Lib.hid (heap_hit z5 (.cells #[.slice A5 zs.length c5] 32) z5.heap.size rfl)
                  have hq6 := HQ5.out.below (Below_al (Below.refl _ _) (.cells #[.slice A5 zs.length c5] 32))
                  have hr6 := HR5.out.below (Below_al (Below.refl _ _) (.cells #[.slice A5 zs.length c5] 32))
                  have HO6 := Lib.hid (HO5.out.alloc (.cells #[.slice A5 zs.length c5] 32))
                  replace hT := Below_al hT (.cells #[.slice A5 zs.length c5] 32)
                  refine (KC'.out _ hq6 hr6).mono ?_
                  rintro e z6 ⟨v6, rfl, hO7, hx⟩
                  replace hT := Below_then hT hx
                  obtain ⟨A7, c7, rfl, -⟩ := hO7.form
                  have hb6 := heap_keepB HB5.out hx
                  have ho6 := HO6.out.below hx
                  have hb7 := heap_keepA hb6 (.cells #[.slice A7 zs.length c7] 32)
                  have hb8 : (z6.alloc (.cells #[.slice A7 zs.length c7] 32)).heap[z6.heap.size]? = some (.cells #[.slice A7 zs.length c7] 32 (0, 0)) := heap_hit _ _ _ rfl
                  have ho7 := ho6.alloc (.cells #[.slice A7 zs.length c7] 32)
                  have ho8 := hO7.alloc (.cells #[.slice A7 zs.length c7] 32)
                  replace hT := Below_al hT (.cells #[.slice A7 zs.length c7] 32)
                  have cc1 := cell_of hb7 0
                  have cc2 := cell_of hb8 0
                  have HO7 := Lib.hid ho7
                  have HO8 := Lib.hid ho8
                  clear hx hq6 hr6 hO7 hb6 ho6 hb7 hb8 ho7 ho8
                  go_wp2_with fail
                  refine (rInts_same zs _ HO7.out HO8.out (by omega)).mono ?_
                  rintro e z9 ⟨rfl, hx⟩
                  replace hT := Below_then hT hx
                  clear hx cc1 cc2
                  go_wp2
                  go_ret
                  exact ⟨rfl, hT⟩
  · have hn2 : decide (65536 < n0) = true := by simp; omega
    have hT := Below.refl w.heap.size w
    go_enter Try.func3, Try.ntmps3
    go_wp2_with fail
    refine (rBig_any A0 n0 c0 _).mono ?_
    rw [hn2]
    rintro e w1 ⟨rfl, rfl⟩
    go_wp2
    go_ret
    exact ⟨rfl, hT⟩

/-! ### The row's step: written by a program of mine (frame.py) after the kit's shell -/
theorem laidOut : laidOutB Try.prog = true := by kernel_rfl
set_option maxRecDepth 100000 in
theorem lifted (os : Os) (started : os.Started) (H : Type) (enc : TypeId × Value → H) :
    ReturnsInHanded {} Try.checked os 3 .any (Rows.fnHatchingSpec.pre6 enc Try.prog Try.f3 Rows.fnHatchingRow.domain false) (Rows.fnHatchingSpec.post enc Try.prog Try.f3 false true false false) := by
  refine returnsInHanded_of_change (C := Try.checked) own started (by kernel_rfl) Try.func3
    (ChangeSpec.witness6 (enc := enc) (C := Try.checked) false ⟨#[], #[.slice none 0 0], []⟩ 8 (by kernel_rfl) (by kernel_rfl) (by kernel_rfl) (by kernel_rfl)) ?_
  intro W base args ds gs before hval0 hW hcnd _
  have hval : ∀ (j : Nat) t v, Try.f3.params[j]? = some t → args[j]? = some v → Value.okWide Try.prog W .any base t v := hval0
  have hW' := hW
  obtain ⟨p, q, hA0, hV, rfl, hfz, hnd⟩ := hW
  have hA : DataW.TrodAll enc Try.prog W 0 (fun _ => true) true Try.f3.params.toList args.toList ds p := hA0
  rw [Try.params3] at hA hval
  obtain ⟨v0, vs0, d0, ds0, p0, q0, hargs, rfl, rfl, h0, r0⟩ := trodAll_cons hA
  obtain ⟨rfl, rfl, rfl⟩ := trodAll_nil r0
  obtain rfl : args = #[v0] := by cases args; simp_all
  obtain ⟨rfl, rfl⟩ := trodVars_none hV
  have k0 := h0
  have lt0 : ∀ x ∈ p0, x.block < W.heap.size := by obtain ⟨m, hm⟩ := k0; exact DataW.trod_lt m _ _ _ hm
  obtain ⟨A0, n0, c0, rfl, u0⟩ := openCode (hval 0 22 v0 rfl rfl) h0
  clear hA0 hval0
  refine (walk W A0 n0 c0 u0).mono fun e W' ⟨he, bel⟩ => ?_
  subst he
  exact ⟨_, rfl, _, _, _, [], _, [], hW', trodAll_mk1 (shut_bool Try.underlying4 _), (trodAll_cons_mk (Below.trod laidOut (by kernel_rfl) (of_decide_eq_true (by kernel_rfl)) k0 bel lt0) trodAll_mk0), rfl, bel.frame _, fun h => by cases h⟩

theorem over : Rows.fnHatchingRow.holds Try.pinned (OpenSpec.ofChange Rows.fnHatchingSpec) :=
  OpenClaim.holds_of_wide 3 Try.f3 rfl rfl rfl rfl rfl rfl rfl ⟨rfl, rfl, rfl, rfl, rfl⟩ rfl rfl rfl rfl rfl (by kernel_rfl) Try.func3 (by kernel_rfl)
    (of_decide_eq_true (by kernel_rfl)) (by unfold Func.isWrapper; first | (rw [if_pos (by decide +kernel)]; kernel_rfl) | (rw [if_neg (by decide +kernel)]; exact ⟨rfl, rfl⟩))
    (fun os started H enc _ => lifted os started H enc)

theorem proved : Rows.FnHatchingSaid := over
#print axioms proved

end Go.Proofs.Ytlbggefccgpgaaa.fnHatching
