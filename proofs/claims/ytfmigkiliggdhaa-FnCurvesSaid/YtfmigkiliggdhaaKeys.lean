/- What the laws of the geometry lean on: their own helpers; what the program computes, as lists. -/
import Derived.Test.YtfmigkiliggdhaaCombP
import Derived.Test.YtfmigkiliggdhaaRegion5
import Derived.Test.YtfmigkiliggdhaaFieldFns
import Derived.Test.YtfmigkiliggdhaaLines2
import Derived.Test.YtfmigkiliggdhaaCur3
namespace Go.Proofs.Ytfmigkiliggdhaa
open Go.ChangeShapes Go.WideShapes Go.ChangeAt Go.RowKit
set_option linter.unusedVariables false
set_option linter.unusedSimpArgs false
set_option maxHeartbeats 1000000 in
theorem rInts_any (A A' : Option Addr) (c c' : Nat) (xs ys : List Int) (w : World) (h1 : RdI w A xs) (h2 : RdI w A' ys) (hx : xs.length ≤ 1099511627776) (hy : ys.length ≤ 1099511627776) :
    Calls Try.prog 10 #[.slice A xs.length c, .slice A' ys.length c'] w fun e w' => e = .returned (.bool (decide (xs = ys))) ∧ Below w.heap.size w w' := by
  by_cases hl : xs.length = ys.length
  · have hd : ((xs.length : Int) != (ys.length : Int)) = false := by simp [hl]
    have HL := Lib.hid hl
    clear hl
    go_enter Try.func10, Try.ntmps10
    go_wp2_with fail
    clear hd
    go_loopw [5] (fun i wr => ∃ k : Nat, k ≤ xs.length ∧ i = .int .i64 k ∧ (∀ j, j < k → xs[j]? = ys[j]?) ∧ Below w.heap.size w wr) (fun i _ => xs.length - (intOf i).toNat)
    case atStart => exact ⟨0, Nat.zero_le _, rfl, fun j hj => absurd hj (by omega), Below.refl _ _⟩
    case round =>
      obtain ⟨k, hk, rfl, hall, hb⟩ := hrel
      have HA := Lib.hid hall
      clear hall
      by_cases hlt : k < xs.length
      · have hl := HL.out
        obtain ⟨b, off, rfl, hc1, -⟩ := (h1.below hb).at_ hlt
        obtain ⟨b', off', rfl, hc2, -⟩ := (h2.below hb).at_ (by omega : k < ys.length)
        obtain ⟨x, ex⟩ : ∃ x, x = xs[k] := ⟨_, rfl⟩
        obtain ⟨y, ey⟩ : ∃ y, y = ys[k] := ⟨_, rfl⟩
        rw [← ex] at hc1
        rw [← ey] at hc2
        have i1 : (k : Int) < (xs.length : Int) := by omega
        have i2 : (k : Int) < (ys.length : Int) := by omega
        have d1 : decide (k < xs.length) = true := by simpa using hlt
        have EX := Lib.hid ex
        have EY := Lib.hid ey
        clear ex ey
        by_cases hxy : x = y
        · have hn : (x != y) = false := by simpa using hxy
          have HXY := Lib.hid hxy
          clear hxy
          go_wp2
          go_region
          go_wp2
          go_roundw
          case rel =>
            refine ⟨k + 1, by omega, by go_num, fun j hj => ?_, hb.drew⟩
            by_cases e : j = k
            · subst e
              rw [List.getElem?_eq_getElem hlt, List.getElem?_eq_getElem (by omega), ← EX.out, ← EY.out, HXY.out]
            · exact HA.out j (by omega)
          case measure => simp [intOf]; omega
        · have hn : (x != y) = true := by simpa using hxy
          go_wp2
          go_region
          go_wp2
          go_ret
          refine ⟨retB ?_, hb.drew⟩
          symm
          rw [decide_eq_false_iff_not]
          intro e
          subst e
          exact hxy (by rw [EX.out, EY.out])
      · have hk' : k = xs.length := by omega
        have d1 : decide (k < xs.length) = false := by simpa using hlt
        go_wp2
        go_ret
        refine ⟨retB ?_, hb⟩
        symm
        rw [decide_eq_true_iff]
        apply List.ext_getElem? 
        intro j
        by_cases hj : j < k
        · exact HA.out j hj
        · have hl := HL.out
          rw [List.getElem?_eq_none (by omega), List.getElem?_eq_none (by omega)]
  · have hd : ((xs.length : Int) != (ys.length : Int)) = true := by simp; omega
    go_enter Try.func10, Try.ntmps10
    go_wp2
    go_ret
    refine ⟨retB ?_, Below.refl _ _⟩
    symm
    rw [decide_eq_false_iff_not]
    intro e
    exact hl (by rw [e])
theorem rInts_same {B B' : Nat} {v v' : Value} (xs : List Int) (w : World) (h1 : OwnI w B 3 v xs) (h2 : OwnI w B' 3 v' xs) (hx : xs.length ≤ 1099511627776) :
    Calls Try.prog 10 #[v, v'] w fun e w' => e = .returned (.bool true) ∧ Below w.heap.size w w' := by
  obtain ⟨A, c, rfl, hr⟩ := h1.form
  obtain ⟨A', c', rfl, hr'⟩ := h2.form
  exact (rInts_any A A' c c' xs xs w hr hr' hx hx).mono fun _ _ ⟨he, hw⟩ => ⟨by rw [he]; simp, hw⟩
theorem rBig_any (A : Option Addr) (n c : Nat) (w : World) : Calls Try.prog 6 #[.slice A n c] w fun e w' => e = .returned (.bool (decide (65536 < n))) ∧ w = w' := by
  by_cases h : 65536 < n
  · have d : decide (65536 < n) = true := by simpa using h
    have d2 : (65536 : Int) < (n : Int) := by omega
    rw [d]
    go_enter Try.func6, Try.ntmps6
    go_wp2
    go_ret
    exact ⟨by simp [h], rfl⟩
  · have d : decide (65536 < n) = false := by simpa using h
    have d2 : ¬ (65536 : Int) < (n : Int) := by omega
    rw [d]
    go_enter Try.func6, Try.ntmps6
    go_wp2
    go_ret
    exact ⟨by simp [h], rfl⟩
theorem reads {w : World} {B n c : Nat} {T : TypeId} {A : Option Addr} {zs : List Int} (h : OwnI w B T (.slice A n c) zs) : RdI w A zs := by
  obtain ⟨A', c', e, hr⟩ := h.form
  injection e with e1 _ _
  subst e1
  exact hr
theorem fieldReg (A : Option Addr) (n c : Nat) (w : World) : (Instr.field 28 (.agg #[.slice A n c]) 0).run Try.prog w = .ok (.slice A n c) w := by kernel_rfl
theorem specInShield_any (x y : Int) (w : World) :
    Calls Try.prog 20 #[.int .i64 x, .int .i64 y] w fun e w' => e = .returned (.bool (inSh x y)) ∧ w = w' := by
  go_enter Try.func20, Try.ntmps20
  go_wp2_with (go_at_call 56; refine (l9In_any _ _ _).mono ?_; rintro e w' ⟨rfl, rfl⟩)
  go_ret
  exact ⟨rfl, rfl⟩
theorem partF_01 (d l x y : Int) : partF d l x y = 0 ∨ partF d l x y = 1 := by
  unfold partF numI
  split
  · exact .inr rfl
  · exact .inl rfl
theorem popF_count (p : Nat → Bool) (n m : Nat) (h : m ≤ n) : popF (rowN p n) m + popF (rowN (fun i => !p i) n) m = m := by
  induction m with
  | zero => rfl
  | succ m ih =>
    have := ih (by omega)
    rw [popF, popF, rowN_bit, rowN_bit, decide_eq_true (by omega : m < n)]
    cases p m <;> simp <;> omega
theorem popF_or (p q : Nat → Bool) (hpq : ∀ i, (p i && q i) = false) (n m : Nat) (h : m ≤ n) : popF (rowN p n) m + popF (rowN q n) m = popF (rowN (fun i => p i || q i) n) m := by
  induction m with
  | zero => rfl
  | succ m ih =>
    have := ih (by omega)
    rw [popF, popF, popF, rowN_bit, rowN_bit, rowN_bit, decide_eq_true (by omega : m < n)]
    have h2 := hpq m
    cases hp : p m <;> cases hq : q m <;> simp_all <;> omega
theorem area_row (h : Int → Int → Bool) (y : Nat) (hy : y < 24) : popF ((regRows h).getD y 0).toNat 20 = popF (rowN (cellP h y) 20) 20 := by
  rw [regRows_getD h y hy, rowV_nat _ 20 (by omega)]
  rfl
theorem area_parts (h g : Int → Int → Bool) (hhg : ∀ x y, (h x y && g x y) = false) : ∀ k, k ≤ 24 → areaN (regRows h) k + areaN (regRows g) k = areaN (regRows fun x y => h x y || g x y) k
  | 0, _ => rfl
  | k + 1, hk => by
    have ih := area_parts h g hhg k (by omega)
    have e := popF_or (cellP h k) (cellP g k) (fun i => by
      have := hhg i k
      unfold cellP
      cases inSh i k <;> simp_all) 20 20 (by omega)
    have e2 : (fun i => cellP h k i || cellP g k i) = cellP (fun x y => h x y || g x y) k := by
      funext i
      unfold cellP
      cases inSh i k <;> simp
    rw [e2] at e
    simp only [areaN]
    rw [area_row h k (by omega), area_row g k (by omega), area_row _ k (by omega)]
    omega
theorem regOk_lt {zs : List Int} (h : regOk zs = true) : ∀ v ∈ zs, v < 2 ^ 63 := regOk_bd h
/-- Two regions that part the shield, and what the program makes of them. -/
structure Parts (xs ys aT aN : List Int) : Prop where
  lx : xs.length = 24
  ly : ys.length = 24
  lT : aT.length = 24
  lN : aN.length = 24
  union : ∀ (A B : Option Addr) (c d : Nat) (w : World), RdI w A xs → RdI w B ys → Calls Try.prog 11 #[.agg #[.slice A xs.length c], .agg #[.slice B ys.length d], .int .i64 1] w (RegOk w aT true)
  inter : ∀ (A B : Option Addr) (c d : Nat) (w : World), RdI w A xs → RdI w B ys → Calls Try.prog 11 #[.agg #[.slice A xs.length c], .agg #[.slice B ys.length d], .int .i64 2] w (RegOk w aN true)
  areaN : ∀ (A : Option Addr) (c : Nat) (w : World), RdI w A aN → Calls Try.prog 12 #[.agg #[.slice A aN.length c]] w fun e w' => e = .returned (.tuple #[.int .i64 0, .bool true]) ∧ Below w.heap.size w w'
  areas : ∃ n m : Nat, n ≤ 480 ∧ m ≤ 480 ∧ (∀ (A : Option Addr) (c : Nat) (w : World), RdI w A xs → Calls Try.prog 12 #[.agg #[.slice A xs.length c]] w fun e w' => e = .returned (.tuple #[.int .i64 n, .bool true]) ∧ Below w.heap.size w w') ∧
    (∀ (A : Option Addr) (c : Nat) (w : World), RdI w A ys → Calls Try.prog 12 #[.agg #[.slice A ys.length c]] w fun e w' => e = .returned (.tuple #[.int .i64 m, .bool true]) ∧ Below w.heap.size w w') ∧
    (∀ (A : Option Addr) (c : Nat) (w : World), RdI w A aT → Calls Try.prog 12 #[.agg #[.slice A aT.length c]] w fun e w' => e = .returned (.tuple #[.int .i64 ((n : Int) + (m : Int)), .bool true]) ∧ Below w.heap.size w w')
  shield : ∀ w, Calls Try.prog 13 #[] w (RegPost w aT)
theorem area_of (h : Int → Int → Bool) (A : Option Addr) (c : Nat) (w : World) (hr : RdI w A (regRows h)) : Calls Try.prog 12 #[.agg #[.slice A (regRows h).length c]] w fun e w' => e = .returned (.tuple #[.int .i64 ((areaN (regRows h) 24 : Nat) : Int), .bool true]) ∧ Below w.heap.size w w' := by
  have := AreaOf_any A c (regRows h) w hr (regOk_lt (regOk_rows h))
  rw [show areaV (regRows h) = ((areaN (regRows h) 24 : Nat) : Int) from by rw [areaV, regOk_rows]; rfl, regOk_rows] at this
  exact this
theorem parts_of (f : Int → Int → Int) (p : Int) (hp : p = 0 ∨ p = 1) (hf : ∀ x y, f x y = 0 ∨ f x y = 1) :
    ∃ aT aN, Parts (regRows fun x y => f x y == p) (regRows fun x y => f x y == 1 - p) aT aN := by
  refine ⟨_, _, regRows_len _, regRows_len _, regRows_len fun _ _ => true, regRows_len fun _ _ => false, fun A B c d w h1 h2 => ?_, fun A B c d w h1 h2 => ?_, fun A c w h => ?_, ?_, fun w => ShieldRegion_any w⟩
  · have := CombineRegions_yes A B c d _ _ 1 w h1 h2 (regOk_rows _) (regOk_rows _) (by omega)
    rw [combL_or, parts_or f p hp hf] at this
    rw [regRows_len, regRows_len]
    exact this
  · have := CombineRegions_yes A B c d _ _ 2 w h1 h2 (regOk_rows _) (regOk_rows _) (by omega)
    rw [combL_and, parts_and f p hp hf] at this
    rw [regRows_len, regRows_len]
    exact this
  · have := area_of _ A c w h
    rw [area_none] at this
    exact this
  · refine ⟨areaN (regRows fun x y => f x y == p) 24, areaN (regRows fun x y => f x y == 1 - p) 24, by have := areaN_le (regRows fun x y => f x y == p) 24; omega, by have := areaN_le (regRows fun x y => f x y == 1 - p) 24; omega, fun A c w h => area_of _ A c w h, fun A c w h => area_of _ A c w h, fun A c w h => ?_⟩
    have := area_of _ A c w h
    have e := area_parts (fun x y => f x y == p) (fun x y => f x y == 1 - p) (fun x y => by rcases hp with rfl | rfl <;> rcases hf x y with h | h <;> rw [h] <;> rfl) 24 (by omega)
    rw [parts_or f p hp hf] at e
    rw [← e] at this
    rw [Int.natCast_add] at this
    exact this
theorem keyPart (d p : Int) (hd : 0 ≤ d ∧ d ≤ 7) (hp : 0 ≤ p ∧ p ≤ 1) : ∃ xs ys aT aN, Parts xs ys aT aN ∧ (∀ w, Calls Try.prog 8 #[.int .i64 d, .int .i64 p] w (RegOk w xs true)) ∧ (∀ w, Calls Try.prog 9 #[.int .i64 d, .int .i64 p] w (RegOk w xs true)) ∧ (∀ w, Calls Try.prog 8 #[.int .i64 d, .int .i64 (1 - p)] w (RegOk w ys true)) := by
  obtain ⟨aT, aN, H⟩ : ∃ aT aN, Parts (regRows fun x y => partF d 0 x y == p) (regRows fun x y => partF d 0 x y == 1 - p) aT aN := parts_of (fun x y => partF d 0 x y) p (by omega) (fun x y => partF_01 d 0 x y)
  have e : (regRows fun x y => numI (!l9B d x y) == p) = regRows fun x y => partF d 0 x y == p := regRows_congr (fun x y hs => by
      obtain ⟨g1, g2, g3, g4⟩ := inSh_cell hs
      show (numI (!l9B d x y) == p) = (numI (!partB d 0 x y) == p)
      rw [partB_straight d x y ⟨g1, g2⟩ ⟨g3, g4⟩])
  exact ⟨_, _, aT, aN, H, fun w => PartRegion_yes d p w hd.1 hd.2 hp.1 hp.2, fun w => by rw [← e]; exact specPartRegion_yes d p w hd.1 hd.2 hp.1 hp.2, fun w => PartRegion_yes d (1 - p) w hd.1 hd.2 (by omega) (by omega)⟩
theorem keyField (d l p q s : Int) (hf : fieldOk d l p q = true) (hs : 0 ≤ s ∧ s ≤ 1) : ∃ xs ys aT aN, Parts xs ys aT aN ∧ (∀ w, Calls Try.prog 27 #[.agg #[.int .i64 d, .int .i64 l, .int .i64 p, .int .i64 q], .int .i64 s] w (RegOk w xs true)) ∧ (∀ w, Calls Try.prog 28 #[.agg #[.int .i64 d, .int .i64 l, .int .i64 p, .int .i64 q], .int .i64 s] w (RegOk w xs true)) ∧ (∀ w, Calls Try.prog 27 #[.agg #[.int .i64 d, .int .i64 l, .int .i64 p, .int .i64 q], .int .i64 (1 - s)] w (RegOk w ys true)) := by
  obtain ⟨aT, aN, H⟩ : ∃ aT aN, Parts (regRows fun x y => partF d l x y == s) (regRows fun x y => partF d l x y == 1 - s) aT aN := parts_of (fun x y => partF d l x y) s (by omega) (fun x y => partF_01 d l x y)
  exact ⟨_, _, aT, aN, H, fun w => FieldRegion_yes d l p q s w hf hs.1 hs.2, fun w => specFieldRegion_yes d l p q s w hf hs.1 hs.2, fun w => FieldRegion_yes d l p q (1 - s) w hf (by omega) (by omega)⟩
theorem keyOrd (o : Int) : ∃ (zs : List Int) (ok : Bool), zs.length ≤ 24 ∧ (∀ w, Calls Try.prog 16 #[.int .i64 o] w (RegOk w zs ok)) ∧ (∀ w, Calls Try.prog 15 #[.int .i64 o] w (RegOk w zs ok)) ∧ (ok = true → ∀ (A : Option Addr) (c : Nat) (w : World), RdI w A zs → Calls Try.prog 17 #[.agg #[.slice A zs.length c]] w fun e w' => e = .returned (.bool true) ∧ Below w.heap.size w w') := by
  by_cases h : 0 ≤ o ∧ o ≤ 7
  · obtain ⟨h1, h2⟩ := h
    refine ⟨_, _, by simp [regRows_len], fun w => specOrdinaryCells_yes o w h1 h2, fun w => ?_, fun _ A c w hr => ?_⟩
    · rw [regRows_congr (h := fun x y => l9O o x y) (g := fun x y => covB o 0 x y) (fun x y _ => (covB_straight o x y).symm)]
      exact OrdinaryCells_of o _ _ w fun w => LinedOrdinary_yes o 0 w h1 h2 (by omega) (by omega)
    · rw [regRows_len]
      exact IsValidRegion_24 A c _ w hr (regOk_rows _)
  · exact ⟨[], false, by simp, fun w => specOrdinaryCells_no o w h, fun w => OrdinaryCells_of o _ _ w fun w => LinedOrdinary_no o 0 w (fun hh => h hh.1), fun h => by cases h⟩
end Go.Proofs.Ytfmigkiliggdhaa
