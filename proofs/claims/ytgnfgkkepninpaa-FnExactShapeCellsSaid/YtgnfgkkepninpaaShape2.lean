/- Contracts: ShapeCell, ShapeCells, both sides. -/
import Derived.Test.YtgnfgkkepninpaaShape
namespace Go.Proofs.Ytgnfgkkepninpaa
open Go.ChangeShapes Go.WideShapes Go.ChangeAt Go.RowKit
set_option linter.unusedVariables false
def cellOk (k a n u v : Int) : Bool := kindAtt k a && decide (1 ≤ n ∧ n ≤ 8) && decide (0 ≤ u ∧ u ≤ n - 1) && decide (0 ≤ v ∧ v ≤ n - 1)
def cellV (k a n u v : Int) : Bool := cellOk k a n u v && shapeF k a n u v
theorem kindAtt_bd {k a : Int} (h : kindAtt k a = true) : 1 ≤ k ∧ k ≤ 8 := by
  simp [kindAtt] at h
  omega
theorem ShapeCell_any (k a n u v : Int) (hw : (Lit.int .i64 n).wf = true) (w : World) :
    Calls Try.prog 16 #[.int .i64 k, .int .i64 a, .int .i64 n, .int .i64 u, .int .i64 v] w fun e w' => e = .returned (.tuple #[.bool (cellV k a n u v), .bool (cellOk k a n u v)]) ∧ Below w.heap.size w w' := by
  have H1 := fun w => hasAttitude_any k a w
  by_cases h1 : kindAtt k a = true
  · obtain ⟨hk1, hk8⟩ := kindAtt_bd h1
    rw [h1] at H1
    by_cases h2 : 1 ≤ n ∧ n ≤ 8
    · obtain ⟨n1, n8⟩ := h2
      by_cases h3 : (0 ≤ u ∧ u ≤ n - 1) ∧ (0 ≤ v ∧ v ≤ n - 1)
      · have hb : cellOk k a n u v = true := by simp [cellOk, h1]; omega
        have hv : cellV k a n u v = shapeF k a n u v := by simp [cellV, hb]
        rw [hb, hv]
        obtain ⟨⟨a1, a2⟩, ⟨a3, a4⟩⟩ := h3
        have H1' := Lib.hid H1
        clear H1 h1 hb hv
        go_enter Try.func16, Try.ntmps16
        go_wp2_with (first | (go_at_call 51; refine (H1'.out _).mono ?_; rintro e w1 ⟨rfl, hb1⟩) | (go_at_call 45; refine (inside_any _ _ _ _).mono ?_; rintro e w' ⟨rfl, rfl⟩) | (go_at_call 52; refine (shape_any _ _ _ _ _ _ ⟨by omega, by omega⟩ ⟨by omega, by omega⟩ ⟨by omega, by omega⟩ ⟨by omega, by omega⟩).mono ?_; rintro e w' ⟨rfl, rfl⟩) | fail)
        go_ret2
        exact ⟨rfl, by (repeat (first | exact Below.refl _ _ | assumption | refine Below_al ?_ _ | refine Below.drew ?_ | refine Below_then ?_ (by assumption) | refine Below.setCell ?_ (by first | omega | (simp; done) | (simp; omega)) _))⟩
      · have hb : cellOk k a n u v = false := by simp [cellOk, h1]; omega
        have hv : cellV k a n u v = false := by simp [cellV, hb]
        rw [hb, hv]
        have H1' := Lib.hid H1
        clear H1 h1 hb hv
        by_cases hu : 0 ≤ u ∧ u ≤ n - 1
        · have d1 : decide (0 ≤ u ∧ u ≤ n - 1) = true := by simpa using hu
          have d2 : decide (0 ≤ v ∧ v ≤ n - 1) = false := by simp; omega
          clear h3 hu
          go_enter Try.func16, Try.ntmps16
          go_wp2_with (first | (go_at_call 51; refine (H1'.out _).mono ?_; rintro e w1 ⟨rfl, hb1⟩) | (go_at_call 45; refine (inside_any _ _ _ _).mono ?_; rintro e w' ⟨rfl, rfl⟩) | fail)
          go_ret2
          exact ⟨rfl, by (repeat (first | exact Below.refl _ _ | assumption | refine Below_al ?_ _ | refine Below.drew ?_ | refine Below_then ?_ (by assumption) | refine Below.setCell ?_ (by first | omega | (simp; done) | (simp; omega)) _))⟩
        · have d1 : decide (0 ≤ u ∧ u ≤ n - 1) = false := by simpa using hu
          clear h3 hu
          go_enter Try.func16, Try.ntmps16
          go_wp2_with (first | (go_at_call 51; refine (H1'.out _).mono ?_; rintro e w1 ⟨rfl, hb1⟩) | (go_at_call 45; refine (inside_any _ _ _ _).mono ?_; rintro e w' ⟨rfl, rfl⟩) | fail)
          go_ret2
          exact ⟨rfl, by (repeat (first | exact Below.refl _ _ | assumption | refine Below_al ?_ _ | refine Below.drew ?_ | refine Below_then ?_ (by assumption) | refine Below.setCell ?_ (by first | omega | (simp; done) | (simp; omega)) _))⟩
    · have hb : cellOk k a n u v = false := by simp [cellOk, h1, h2]
      have hv : cellV k a n u v = false := by simp [cellV, hb]
      rw [hb, hv]
      have H1' := Lib.hid H1
      clear H1 h1 hb hv
      go_enter Try.func16, Try.ntmps16
      go_wp2_with (first | (go_at_call 51; refine (H1'.out _).mono ?_; rintro e w1 ⟨rfl, hb1⟩) | (go_at_call 45; refine (inside_any _ _ _ _).mono ?_; rintro e w' ⟨rfl, rfl⟩) | fail)
      all_goals go_ret2
      all_goals exact ⟨rfl, by (repeat (first | exact Below.refl _ _ | assumption | refine Below_al ?_ _ | refine Below.drew ?_ | refine Below_then ?_ (by assumption) | refine Below.setCell ?_ (by first | omega | (simp; done) | (simp; omega)) _))⟩
  · have h1' : kindAtt k a = false := by simpa using h1
    have hb : cellOk k a n u v = false := by simp [cellOk, h1']
    have hv : cellV k a n u v = false := by simp [cellV, hb]
    rw [hb, hv]
    rw [h1'] at H1
    have H1' := Lib.hid H1
    clear H1 h1 h1' hb hv
    go_enter Try.func16, Try.ntmps16
    go_wp2_with (first | (go_at_call 51; refine (H1'.out _).mono ?_; rintro e w1 ⟨rfl, hb1⟩) | fail)
    go_ret2
    exact ⟨rfl, by (repeat (first | exact Below.refl _ _ | assumption | refine Below_al ?_ _ | refine Below.drew ?_ | refine Below_then ?_ (by assumption) | refine Below.setCell ?_ (by first | omega | (simp; done) | (simp; omega)) _))⟩
theorem specShapeCell_any (k a n u v : Int) (hw : (Lit.int .i64 n).wf = true) (w : World) :
    Calls Try.prog 15 #[.int .i64 k, .int .i64 a, .int .i64 n, .int .i64 u, .int .i64 v] w fun e w' => e = .returned (.tuple #[.bool (cellV k a n u v), .bool (cellOk k a n u v)]) ∧ Below w.heap.size w w' := by
  have H1 := fun w => l12Shape_any k a n w
  by_cases h1 : (kindAtt k a && decide (1 ≤ n ∧ n ≤ 8)) = true
  · rw [h1] at H1
    have h1c := h1
    rw [Bool.and_eq_true, decide_eq_true_iff] at h1c
    obtain ⟨hka, n1, n8⟩ := h1c
    obtain ⟨hk1, hk8⟩ := kindAtt_bd hka
    by_cases h3 : (0 ≤ u ∧ u ≤ n - 1) ∧ (0 ≤ v ∧ v ≤ n - 1)
    · have hb : cellOk k a n u v = true := by simp [cellOk, hka]; omega
      have hv : cellV k a n u v = shapeF k a n u v := by simp [cellV, hb]
      rw [hb, hv]
      obtain ⟨⟨a1, a2⟩, ⟨a3, a4⟩⟩ := h3
      have H1' := Lib.hid H1
      clear H1 h1 hb hv hka
      go_enter Try.func15, Try.ntmps15
      go_wp2_with (first | (go_at_call 48; refine (H1'.out _).mono ?_; rintro e w1 ⟨rfl, hb1⟩) | (go_at_call 49; refine (l1In_any _ _ _ _).mono ?_; rintro e w' ⟨rfl, rfl⟩) | (go_at_call 50; refine (l12Cell_any _ _ _ _ _ _ ⟨by omega, by omega⟩ ⟨by omega, by omega⟩ ⟨by omega, by omega⟩ ⟨by omega, by omega⟩).mono ?_; rintro e w' ⟨rfl, rfl⟩) | fail)
      go_ret2
      exact ⟨rfl, by (repeat (first | exact Below.refl _ _ | assumption | refine Below_al ?_ _ | refine Below.drew ?_ | refine Below_then ?_ (by assumption) | refine Below.setCell ?_ (by first | omega | (simp; done) | (simp; omega)) _))⟩
    · have hb : cellOk k a n u v = false := by simp [cellOk, hka]; omega
      have hv : cellV k a n u v = false := by simp [cellV, hb]
      rw [hb, hv]
      have H1' := Lib.hid H1
      clear H1 h1 hb hv hka
      by_cases hu : 0 ≤ u ∧ u ≤ n - 1
      · have d1 : decide (0 ≤ u ∧ u ≤ n - 1) = true := by simpa using hu
        have d2 : decide (0 ≤ v ∧ v ≤ n - 1) = false := by simp; omega
        clear h3 hu
        go_enter Try.func15, Try.ntmps15
        go_wp2_with (first | (go_at_call 48; refine (H1'.out _).mono ?_; rintro e w1 ⟨rfl, hb1⟩) | (go_at_call 49; refine (l1In_any _ _ _ _).mono ?_; rintro e w' ⟨rfl, rfl⟩) | fail)
        go_ret2
        exact ⟨rfl, by (repeat (first | exact Below.refl _ _ | assumption | refine Below_al ?_ _ | refine Below.drew ?_ | refine Below_then ?_ (by assumption) | refine Below.setCell ?_ (by first | omega | (simp; done) | (simp; omega)) _))⟩
      · have d1 : decide (0 ≤ u ∧ u ≤ n - 1) = false := by simpa using hu
        clear h3 hu
        go_enter Try.func15, Try.ntmps15
        go_wp2_with (first | (go_at_call 48; refine (H1'.out _).mono ?_; rintro e w1 ⟨rfl, hb1⟩) | (go_at_call 49; refine (l1In_any _ _ _ _).mono ?_; rintro e w' ⟨rfl, rfl⟩) | fail)
        go_ret2
        exact ⟨rfl, by (repeat (first | exact Below.refl _ _ | assumption | refine Below_al ?_ _ | refine Below.drew ?_ | refine Below_then ?_ (by assumption) | refine Below.setCell ?_ (by first | omega | (simp; done) | (simp; omega)) _))⟩
  · have h1' : (kindAtt k a && decide (1 ≤ n ∧ n ≤ 8)) = false := by simpa using h1
    have hb : cellOk k a n u v = false := by simp only [cellOk, h1', Bool.false_and]
    have hv : cellV k a n u v = false := by simp only [cellV, hb, Bool.false_and]
    rw [hb, hv]
    rw [h1'] at H1
    have H1' := Lib.hid H1
    clear H1 h1 h1' hb hv
    go_enter Try.func15, Try.ntmps15
    go_wp2_with (first | (go_at_call 48; refine (H1'.out _).mono ?_; rintro e w1 ⟨rfl, hb1⟩) | fail)
    go_ret2
    exact ⟨rfl, by (repeat (first | exact Below.refl _ _ | assumption | refine Below_al ?_ _ | refine Below.drew ?_ | refine Below_then ?_ (by assumption) | refine Below.setCell ?_ (by first | omega | (simp; done) | (simp; omega)) _))⟩

theorem number_t (w : World) : Calls Try.prog 53 #[.bool true] w fun e w' => e = .returned (.int .i64 1) ∧ w = w' := number_any true w
theorem number_f (w : World) : Calls Try.prog 53 #[.bool false] w fun e w' => e = .returned (.int .i64 0) ∧ w = w' := number_any false w
/-- How many numbers below n have a property, and how many pairs. -/
def cntR (p : Nat → Bool) : Nat → Nat
  | 0 => 0
  | j + 1 => cntR p j + (if p j then 1 else 0)
def cntG (p : Nat → Nat → Bool) (n : Nat) : Nat → Nat
  | 0 => 0
  | k + 1 => cntG p n k + cntR (p k) n
theorem cntR_le (p : Nat → Bool) (n : Nat) : cntR p n ≤ n := by
  induction n with
  | zero => exact Nat.le_refl _
  | succ n ih => rw [cntR]; split <;> omega
theorem cntG_le (p : Nat → Nat → Bool) (n k : Nat) (hn : n ≤ 24) : cntG p n k ≤ 24 * k := by
  induction k with
  | zero => exact Nat.le_refl _
  | succ k ih => rw [cntG]; have := cntR_le (p k) n; omega
def cellsOk (k a n : Int) : Bool := kindAtt k a && decide (1 ≤ n ∧ n ≤ 8)
def cellsV (k a n : Int) : Int := bif cellsOk k a n then (cntG (fun (u v : Nat) => shapeF k a n u v) n.toNat n.toNat : Nat) else 0
set_option maxHeartbeats 1000000 in
theorem ShapeCells_any (k a n : Int) (w : World) :
    Calls Try.prog 18 #[.int .i64 k, .int .i64 a, .int .i64 n] w fun e w' => e = .returned (.tuple #[.int .i64 (cellsV k a n), .bool (cellsOk k a n)]) ∧ Below w.heap.size w w' := by
  by_cases hok : cellsOk k a n = true
  · have hv : cellsV k a n = (cntG (fun (u v : Nat) => shapeF k a n u v) n.toNat n.toNat : Nat) := by simp [cellsV, hok]
    rw [hv, hok]
    have hok2 := hok
    unfold cellsOk at hok2
    rw [Bool.and_eq_true, decide_eq_true_iff] at hok2
    obtain ⟨hka, n1, n8⟩ := hok2
    obtain ⟨hk1, hk8⟩ := kindAtt_bd hka
    obtain ⟨m, rfl⟩ := Int.eq_ofNat_of_zero_le (show 0 ≤ n by omega)
    rw [Int.toNat_natCast]
    have H1 := fun w => hasAttitude_any k a w
    rw [hka] at H1
    have H1' := Lib.hid H1
    clear H1
    clear hok hv hka
    obtain ⟨f, hf⟩ : ∃ f : Nat → Nat → Bool, f = fun (u v : Nat) => shapeF k a m u v := ⟨_, rfl⟩
    have HS : ∀ (u v : Nat) (w : World), u < m → v < m → Calls Try.prog 52 #[.int .i64 k, .int .i64 a, .int .i64 m, .int .i64 u, .int .i64 v] w fun e w' => e = .returned (.bool (f u v)) ∧ w = w' := fun u v w hu hv => by
      rw [hf]
      exact shape_any k a m u v w ⟨hk1, hk8⟩ ⟨n1, n8⟩ ⟨by omega, by omega⟩ ⟨by omega, by omega⟩
    rw [← hf]
    have HS' := Lib.hid HS
    clear HS hf
    have hm8 : m ≤ 8 := by omega
    go_enter Try.func18, Try.ntmps18
    go_wp2_with (first | (first | (go_at_call 51; refine (H1'.out _).mono ?_; rintro e w1 ⟨rfl, hb1⟩) | (go_at_call 45; refine (inside_any _ _ _ _).mono ?_; rintro e w' ⟨rfl, rfl⟩) | fail) | fail)
    go_loop [8, 21] (fun c i => ∃ u : Nat, u ≤ m ∧ i = .int .i64 u ∧ c = .int .i64 (cntG f m u : Nat)) (fun _ i => m - (intOf i).toNat)
    case atStart => exact ⟨0, by omega, rfl, rfl⟩
    case round =>
      obtain ⟨u, hu, rfl, rfl⟩ := hrel
      have hb := cntG_le f m u (by omega)
      by_cases hlt : u < m
      · have HSu := Lib.hid (show cntG f m (u + 1) = cntG f m u + cntR (f u) m from rfl)
        generalize cntG f m u = p at *
        have d1 : decide (u < m) = true := by simpa using hlt
        go_wp2_with fail
        clear d1
        go_loop [8, 25] (fun c i => ∃ v : Nat, v ≤ m ∧ i = .int .i64 v ∧ c = .int .i64 ((p + cntR (f u) v : Nat) : Int)) (fun _ i => m - (intOf i).toNat)
        case atStart => exact ⟨0, by omega, rfl, rfl⟩
        case round =>
          obtain ⟨v, hv, rfl, rfl⟩ := hrel
          have hb2 := cntR_le (f u) v
          by_cases hlt2 : v < m
          · have d2 : decide (v < m) = true := by simpa using hlt2
            have HSv := Lib.hid (show cntR (f u) (v + 1) = cntR (f u) v + (if f u v then 1 else 0) from rfl)
            have K := fun w => HS'.out u v w hlt hlt2
            generalize cntR (f u) v = q at *
            generalize f u v = z at *
            have K' := Lib.hid K
            clear K
            cases z
            · go_wp2_with (first | (go_at_call 52; refine (K'.out _).mono ?_; rintro e w' ⟨rfl, rfl⟩) | (first | (go_at_call 53; refine (number_f _).mono ?_; rintro e w' ⟨rfl, rfl⟩) | fail) | fail)
              go_round
              case rel => exact ⟨v + 1, by omega, by go_num, by rw [HSv.out]; first | rfl | (simp; done) | (simp; omega)⟩
              case measure => simp [intOf]; omega
            · go_wp2_with (first | (go_at_call 52; refine (K'.out _).mono ?_; rintro e w' ⟨rfl, rfl⟩) | (first | (go_at_call 53; refine (number_t _).mono ?_; rintro e w' ⟨rfl, rfl⟩) | fail) | fail)
              go_round
              case rel => exact ⟨v + 1, by omega, by go_num, by rw [HSv.out]; first | rfl | (simp; done) | (simp; omega)⟩
              case measure => simp [intOf]; omega
          · obtain rfl : v = m := by omega
            have d2 : decide (v < v) = false := by simp
            go_wp2
            go_round
            case rel => exact ⟨u + 1, by omega, by go_num, by rw [HSu.out]⟩
            case measure => simp [intOf]; omega
      · obtain rfl : u = m := by omega
        have d1 : decide (u < u) = false := by simp
        go_wp2
        go_ret2
        exact ⟨rfl, by (repeat (first | exact Below.refl _ _ | assumption | refine Below_al ?_ _ | refine Below.drew ?_ | refine Below_then ?_ (by assumption) | refine Below.setCell ?_ (by first | omega | (simp; done) | (simp; omega)) _))⟩
  · have hok' : cellsOk k a n = false := by simpa using hok
    have hv : cellsV k a n = 0 := by simp [cellsV, hok']
    rw [hv, hok']
    have H1 := fun w => hasAttitude_any k a w
    by_cases h1 : kindAtt k a = true
    · have d1 : decide (1 ≤ n ∧ n ≤ 8) = false := by unfold cellsOk at hok'; rw [h1] at hok'; simpa using hok'
      rw [h1] at H1
      have H1' := Lib.hid H1
      clear H1 h1 hok hok' hv
      go_enter Try.func18, Try.ntmps18
      go_wp2_with (first | (go_at_call 51; refine (H1'.out _).mono ?_; rintro e w1 ⟨rfl, hb1⟩) | (go_at_call 45; refine (inside_any _ _ _ _).mono ?_; rintro e w' ⟨rfl, rfl⟩) | fail)
      go_ret2
      exact ⟨rfl, by (repeat (first | exact Below.refl _ _ | assumption | refine Below_al ?_ _ | refine Below.drew ?_ | refine Below_then ?_ (by assumption) | refine Below.setCell ?_ (by first | omega | (simp; done) | (simp; omega)) _))⟩
    · rw [show kindAtt k a = false from by simpa using h1] at H1
      have H1' := Lib.hid H1
      clear H1 h1 hok hok' hv
      go_enter Try.func18, Try.ntmps18
      go_wp2_with (first | (go_at_call 51; refine (H1'.out _).mono ?_; rintro e w1 ⟨rfl, hb1⟩) | fail)
      go_ret2
      exact ⟨rfl, by (repeat (first | exact Below.refl _ _ | assumption | refine Below_al ?_ _ | refine Below.drew ?_ | refine Below_then ?_ (by assumption) | refine Below.setCell ?_ (by first | omega | (simp; done) | (simp; omega)) _))⟩
set_option maxHeartbeats 1000000 in
theorem specShapeCells_any (k a n : Int) (w : World) :
    Calls Try.prog 17 #[.int .i64 k, .int .i64 a, .int .i64 n] w fun e w' => e = .returned (.tuple #[.int .i64 (cellsV k a n), .bool (cellsOk k a n)]) ∧ Below w.heap.size w w' := by
  by_cases hok : cellsOk k a n = true
  · have hv : cellsV k a n = (cntG (fun (u v : Nat) => shapeF k a n u v) n.toNat n.toNat : Nat) := by simp [cellsV, hok]
    rw [hv, hok]
    have hok2 := hok
    unfold cellsOk at hok2
    rw [Bool.and_eq_true, decide_eq_true_iff] at hok2
    obtain ⟨hka, n1, n8⟩ := hok2
    obtain ⟨hk1, hk8⟩ := kindAtt_bd hka
    obtain ⟨m, rfl⟩ := Int.eq_ofNat_of_zero_le (show 0 ≤ n by omega)
    rw [Int.toNat_natCast]
    have H1 := fun w => l12Shape_any k a m w
    rw [show (kindAtt k a && decide (1 ≤ (m : Int) ∧ (m : Int) ≤ 8)) = true from hok] at H1
    have H1' := Lib.hid H1
    clear H1
    clear hok hv hka
    obtain ⟨f, hf⟩ : ∃ f : Nat → Nat → Bool, f = fun (u v : Nat) => shapeF k a m u v := ⟨_, rfl⟩
    have HS : ∀ (u v : Nat) (w : World), u < m → v < m → Calls Try.prog 50 #[.int .i64 k, .int .i64 a, .int .i64 m, .int .i64 u, .int .i64 v] w fun e w' => e = .returned (.bool (f u v)) ∧ w = w' := fun u v w hu hv => by
      rw [hf]
      exact l12Cell_any k a m u v w ⟨hk1, hk8⟩ ⟨n1, n8⟩ ⟨by omega, by omega⟩ ⟨by omega, by omega⟩
    rw [← hf]
    have HS' := Lib.hid HS
    clear HS hf
    have hm8 : m ≤ 8 := by omega
    go_enter Try.func17, Try.ntmps17
    go_wp2_with (first | (go_at_call 48; refine (H1'.out _).mono ?_; rintro e w1 ⟨rfl, hb1⟩) | fail)
    go_loop [8, 9] (fun c i => ∃ u : Nat, u ≤ m ∧ i = .int .i64 u ∧ c = .int .i64 (cntG f m u : Nat)) (fun _ i => m - (intOf i).toNat)
    case atStart => exact ⟨0, by omega, rfl, rfl⟩
    case round =>
      obtain ⟨u, hu, rfl, rfl⟩ := hrel
      have hb := cntG_le f m u (by omega)
      by_cases hlt : u < m
      · have HSu := Lib.hid (show cntG f m (u + 1) = cntG f m u + cntR (f u) m from rfl)
        generalize cntG f m u = p at *
        have d1 : decide (u < m) = true := by simpa using hlt
        go_wp2_with fail
        clear d1
        go_loop [8, 10] (fun c i => ∃ v : Nat, v ≤ m ∧ i = .int .i64 v ∧ c = .int .i64 ((p + cntR (f u) v : Nat) : Int)) (fun _ i => m - (intOf i).toNat)
        case atStart => exact ⟨0, by omega, rfl, rfl⟩
        case round =>
          obtain ⟨v, hv, rfl, rfl⟩ := hrel
          have hb2 := cntR_le (f u) v
          by_cases hlt2 : v < m
          · have d2 : decide (v < m) = true := by simpa using hlt2
            have HSv := Lib.hid (show cntR (f u) (v + 1) = cntR (f u) v + (if f u v then 1 else 0) from rfl)
            have K := fun w => HS'.out u v w hlt hlt2
            generalize cntR (f u) v = q at *
            generalize f u v = z at *
            have K' := Lib.hid K
            clear K
            cases z
            all_goals
              go_wp2_with (first | (go_at_call 50; refine (K'.out _).mono ?_; rintro e w' ⟨rfl, rfl⟩) | (first | (go_at_call 53; refine (number_t _).mono ?_; rintro e w' ⟨rfl, rfl⟩) | (go_at_call 53; refine (number_f _).mono ?_; rintro e w' ⟨rfl, rfl⟩) | fail) | fail)
              go_round
              case rel => exact ⟨v + 1, by omega, by go_num, by rw [HSv.out]; first | rfl | (simp [numI]; done) | (simp [numI]; omega)⟩
              case measure => simp [intOf]; omega
          · obtain rfl : v = m := by omega
            have d2 : decide (v < v) = false := by simp
            go_wp2
            go_round
            case rel => exact ⟨u + 1, by omega, by go_num, by rw [HSu.out]⟩
            case measure => simp [intOf]; omega
      · obtain rfl : u = m := by omega
        have d1 : decide (u < u) = false := by simp
        go_wp2
        go_ret2
        exact ⟨rfl, by (repeat (first | exact Below.refl _ _ | assumption | refine Below_al ?_ _ | refine Below.drew ?_ | refine Below_then ?_ (by assumption) | refine Below.setCell ?_ (by first | omega | (simp; done) | (simp; omega)) _))⟩
  · have hok' : cellsOk k a n = false := by simpa using hok
    have hv : cellsV k a n = 0 := by simp [cellsV, hok']
    rw [hv, hok']
    have H1 := fun w => l12Shape_any k a n w
    rw [show (kindAtt k a && decide (1 ≤ n ∧ n ≤ 8)) = false from hok'] at H1
    have H1' := Lib.hid H1
    clear H1 hok hok' hv
    go_enter Try.func17, Try.ntmps17
    go_wp2_with (first | (go_at_call 48; refine (H1'.out _).mono ?_; rintro e w1 ⟨rfl, hb1⟩) | fail)
    go_ret2
    exact ⟨rfl, by (repeat (first | exact Below.refl _ _ | assumption | refine Below_al ?_ _ | refine Below.drew ?_ | refine Below_then ?_ (by assumption) | refine Below.setCell ?_ (by first | omega | (simp; done) | (simp; omega)) _))⟩
end Go.Proofs.Ytgnfgkkepninpaa
