/- Contracts: which boxes are valid, both sides. -/
import Derived.Test.YtgnfgkkepninpaaOpen
import Derived.Test.YtgnfgkkepninpaaParts
import Derived.Test.YtgnfgkkepninpaaApp
import Derived.Test.YtgnfgkkepninpaaBits
import Derived.Test.YtgnfgkkepninpaaMem3
namespace Go.Proofs.Ytgnfgkkepninpaa
open Go.ChangeShapes Go.WideShapes Go.ChangeAt Go.RowKit
set_option linter.unusedVariables false
def boxIn (x y : Int) (m : Nat) : Bool := (List.range m).all fun v => (List.range m).all fun u => inSh (x + u) (y + v)
def boxOk (x y s : Int) : Bool := decide ((1 ≤ s ∧ s ≤ 8) ∧ (0 ≤ x ∧ x ≤ 19) ∧ (0 ≤ y ∧ y ≤ 23)) && boxIn x y s.toNat
theorem boxIn_no {x y : Int} {m u v : Nat} (hu : u < m) (hv : v < m) (h : inSh (x + u) (y + v) = false) : boxIn x y m = false := by
  unfold boxIn
  rw [List.all_eq_false]
  refine ⟨v, List.mem_range.2 hv, ?_⟩
  have : (List.range m).all (fun u => inSh (x + u) (y + v)) = false := by
    rw [List.all_eq_false]
    exact ⟨u, List.mem_range.2 hu, by simp [h]⟩
  simp [this]
theorem boxIn_yes {x y : Int} {m : Nat} (h : ∀ u v : Nat, u < m → v < m → inSh (x + u) (y + v) = true) : boxIn x y m = true := by
  simp only [boxIn, List.all_eq_true, List.mem_range]
  exact fun v hv u hu => h u v hu hv
set_option maxHeartbeats 1000000 in
theorem all_InShield (x y : Int) (m : Nat) (w : World) (hx : 0 ≤ x ∧ x ≤ 19) (hy : 0 ≤ y ∧ y ≤ 23) (hm : m ≤ 8) :
    Calls Try.prog 46 #[.agg #[.int .i64 x, .int .i64 y, .int .i64 m], .func (.func 47) #[] #[]] w fun e w' => e = .returned (.bool (boxIn x y m)) ∧ Below w.heap.size w w' := by
  obtain ⟨x0, x1⟩ := hx
  obtain ⟨y0, y1⟩ := hy
  go_enter Try.func46, Try.ntmps46
  go_wp2_with fail
  go_loop [5] (fun i => ∃ v : Nat, v ≤ m ∧ i = .int .i64 (y + v) ∧ ∀ u' v' : Nat, u' < m → v' < v → inSh (x + u') (y + v') = true) (fun i => m - (intOf i - y).toNat)
  case atStart => exact ⟨0, by omega, by simp, fun u' v' _ h => absurd h (by omega)⟩
  case round =>
    obtain ⟨v, hv, rfl, hall⟩ := hrel
    have HA := Lib.hid hall
    clear hall
    by_cases hlt : v < m
    · have i1 : y + (v : Int) < y + (m : Int) := by omega
      go_wp2_with fail
      go_loop [6] (fun i => ∃ u : Nat, u ≤ m ∧ i = .int .i64 (x + u) ∧ ∀ u' : Nat, u' < u → inSh (x + u') (y + v) = true) (fun i => m - (intOf i - x).toNat)
      case atStart => exact ⟨0, by omega, by simp, fun u' h => absurd h (by omega)⟩
      case round =>
        obtain ⟨u, hu, rfl, hall⟩ := hrel
        have HB := Lib.hid hall
        clear hall
        by_cases hlt2 : u < m
        · have i2 : x + (u : Int) < x + (m : Int) := by omega
          obtain ⟨z, hz⟩ : ∃ z, z = inSh (x + u) (y + v) := ⟨_, rfl⟩
          have K := fun w => InShield_any (x + u) (y + v) w
          rw [← hz] at K
          have K' := Lib.hid K
          have HZ := Lib.hid hz
          clear K hz
          cases z
          · go_wp2_with (first | (go_at_call 47; refine (K'.out _).mono ?_; rintro e w' ⟨rfl, rfl⟩) | fail)
            go_ret
            exact ⟨ret_bool (boxIn_no hlt2 hlt HZ.out.symm).symm, by (repeat (first | exact Below.refl _ _ | assumption | refine Below_al ?_ _ | refine Below.drew ?_ | refine Below_then ?_ (by assumption) | refine Below.setCell ?_ (by first | omega | (simp; done) | (simp; omega)) _))⟩
          · go_wp2_with (first | (go_at_call 47; refine (K'.out _).mono ?_; rintro e w' ⟨rfl, rfl⟩) | fail)
            go_round
            case rel =>
              refine ⟨u + 1, by omega, by go_num, fun u' h => ?_⟩
              by_cases e : u' = u
              · subst e; exact HZ.out.symm
              · exact HB.out u' (by omega)
            case measure => simp [intOf]; omega
        · obtain rfl : u = m := by omega
          have i2 : ¬ x + (u : Int) < x + (u : Int) := by omega
          go_wp2
          go_round
          case rel =>
            refine ⟨v + 1, by omega, by go_num, fun u' v' hu' hv' => ?_⟩
            by_cases e : v' = v
            · subst e; exact HB.out u' hu'
            · exact HA.out u' v' hu' (by omega)
          case measure => simp [intOf]; omega
    · obtain rfl : v = m := by omega
      have i1 : ¬ y + (v : Int) < y + (v : Int) := by omega
      go_wp2
      go_ret
      exact ⟨ret_bool (boxIn_yes HA.out).symm, by (repeat (first | exact Below.refl _ _ | assumption | refine Below_al ?_ _ | refine Below.drew ?_ | refine Below_then ?_ (by assumption) | refine Below.setCell ?_ (by first | omega | (simp; done) | (simp; omega)) _))⟩
theorem boxOk_no {x y s : Int} (h : ¬ ((1 ≤ s ∧ s ≤ 8) ∧ (0 ≤ x ∧ x ≤ 19) ∧ (0 ≤ y ∧ y ≤ 23))) : boxOk x y s = false := by simp [boxOk, h]
theorem boxOk_yes {x y : Int} {m : Nat} (h : (1 ≤ (m : Int) ∧ (m : Int) ≤ 8) ∧ (0 ≤ x ∧ x ≤ 19) ∧ (0 ≤ y ∧ y ≤ 23)) : boxOk x y m = boxIn x y m := by simp only [boxOk, h, and_self, decide_true, Bool.true_and, Int.toNat_natCast]
theorem IsValidBox_any (x y s : Int) (w : World) :
    Calls Try.prog 14 #[.agg #[.int .i64 x, .int .i64 y, .int .i64 s]] w fun e w' => e = .returned (.bool (boxOk x y s)) ∧ Below w.heap.size w w' := by
  by_cases h1 : 1 ≤ s ∧ s ≤ 8
  · obtain ⟨m, rfl⟩ := Int.eq_ofNat_of_zero_le (show 0 ≤ s by omega)
    by_cases h2 : 0 ≤ x ∧ x ≤ 19
    · by_cases h3 : 0 ≤ y ∧ y ≤ 23
      · have K := fun w => all_InShield x y m w h2 h3 (by omega)
        rw [boxOk_yes ⟨h1, h2, h3⟩]
        generalize boxIn x y m = z at *
        have K' := Lib.hid K
        obtain ⟨a1, a2⟩ := h1
        obtain ⟨a3, a4⟩ := h2
        obtain ⟨a5, a6⟩ := h3
        clear K
        go_enter Try.func14, Try.ntmps14
        go_wp2_with (first | (go_at_call 45; refine (inside_any _ _ _ _).mono ?_; rintro e w' ⟨rfl, rfl⟩) | (go_at_call 46; refine (K'.out _).mono ?_; rintro e w1 ⟨rfl, hb1⟩) | fail)
        go_ret
        exact ⟨rfl, by (repeat (first | exact Below.refl _ _ | assumption | refine Below_al ?_ _ | refine Below.drew ?_ | refine Below_then ?_ (by assumption) | refine Below.setCell ?_ (by first | omega | (simp; done) | (simp; omega)) _))⟩
      · rw [boxOk_no (fun h => h3 h.2.2)]
        have d3 : decide (0 ≤ y ∧ y ≤ 23) = false := by simpa using h3
        obtain ⟨a1, a2⟩ := h1
        obtain ⟨a3, a4⟩ := h2
        clear h3
        go_enter Try.func14, Try.ntmps14
        go_wp2_with (first | (go_at_call 45; refine (inside_any _ _ _ _).mono ?_; rintro e w' ⟨rfl, rfl⟩) | fail)
        go_ret
        exact ⟨rfl, by (repeat (first | exact Below.refl _ _ | assumption | refine Below_al ?_ _ | refine Below.drew ?_ | refine Below_then ?_ (by assumption) | refine Below.setCell ?_ (by first | omega | (simp; done) | (simp; omega)) _))⟩
    · rw [boxOk_no (fun h => h2 h.2.1)]
      have d3 : decide (0 ≤ x ∧ x ≤ 19) = false := by simpa using h2
      obtain ⟨a1, a2⟩ := h1
      clear h2
      go_enter Try.func14, Try.ntmps14
      go_wp2_with (first | (go_at_call 45; refine (inside_any _ _ _ _).mono ?_; rintro e w' ⟨rfl, rfl⟩) | fail)
      go_ret
      exact ⟨rfl, by (repeat (first | exact Below.refl _ _ | assumption | refine Below_al ?_ _ | refine Below.drew ?_ | refine Below_then ?_ (by assumption) | refine Below.setCell ?_ (by first | omega | (simp; done) | (simp; omega)) _))⟩
  · rw [boxOk_no (fun h => h1 h.1)]
    have d3 : decide (1 ≤ s ∧ s ≤ 8) = false := by simpa using h1
    clear h1
    go_enter Try.func14, Try.ntmps14
    go_wp2_with (first | (go_at_call 45; refine (inside_any _ _ _ _).mono ?_; rintro e w' ⟨rfl, rfl⟩) | fail)
    go_ret
    exact ⟨rfl, by (repeat (first | exact Below.refl _ _ | assumption | refine Below_al ?_ _ | refine Below.drew ?_ | refine Below_then ?_ (by assumption) | refine Below.setCell ?_ (by first | omega | (simp; done) | (simp; omega)) _))⟩
theorem makeAll (w : World) : (Instr.makeSlice 39 (.int .i64 24) (.int .i64 24)).run Try.prog w = .ok (.slice (some ⟨w.heap.size, 0, none⟩) 24 24) (w.alloc (.cells (ints (List.replicate 24 0)) 3)) := by kernel_rfl
def onesL (k : Nat) : List Int := List.replicate k 1048575 ++ List.replicate (24 - k) 0
theorem onesL_len (k : Nat) (h : k ≤ 24) : (onesL k).length = 24 := by simp [onesL]; omega
theorem onesL_set (k : Nat) (h : k < 24) : (onesL k).set k 1048575 = onesL (k + 1) := by
  unfold onesL
  rw [List.set_append_right _ _ (by simp), List.length_replicate, Nat.sub_self, show 24 - k = (24 - (k + 1)) + 1 from by omega, List.replicate_succ, List.set_cons_zero, List.replicate_succ', List.append_assoc]
  rfl
def OnesPost (w : World) (e : Ending) (w' : World) : Prop := ∃ A, e = .returned (.slice A 24 24) ∧ RdI w' A (List.replicate 24 1048575) ∧ Below w.heap.size w w'
theorem RdI_blk {w : World} {g : Nat} {T : TypeId} {zs : List Int} (h : w.heap[g]? = some (.cells (ints zs) T (0, 0))) : RdI w (some ⟨g, 0, none⟩) zs :=
  .inr ⟨g, 0, rfl, fun i hi => by rw [Nat.zero_add, ints_cell h i (by simpa [iv_len] using hi), iv_get]⟩
theorem l11All_any (w : World) : Calls Try.prog 78 #[] w (OnesPost w) := by
  have hmk := makeAll
  go_enter Try.func78, Try.ntmps78
  go_wp2_with fail
  go_loopw [2] (fun i wr => ∃ k : Nat, k ≤ 24 ∧ i = .int .i64 k ∧ wr.heap[w.heap.size]? = some (.cells (ints (onesL k)) 3 (0, 0)) ∧ Below w.heap.size w wr) (fun i _ => 24 - (intOf i).toNat)
  case atStart => exact ⟨0, by omega, rfl, heap_hit _ _ _ rfl, by (repeat (first | exact Below.refl _ _ | assumption | refine Below_al ?_ _ | refine Below.drew ?_ | refine Below_then ?_ (by assumption) | refine Below.setCell ?_ (by first | omega | (simp; done) | (simp; omega)) _))⟩
  case round =>
    obtain ⟨k, hk, rfl, hr, hb⟩ := hrel
    have hlen := onesL_len k hk
    have HR := Lib.hid hr
    by_cases hlt : k < 24
    · have hd : decide ((k : Int) < 24) = true := by simp; omega
      have i1 : (k : Int) < 24 := by omega
      have c1 := ints_cell hr k (by omega)
      have f1 := frozen_of hr k
      clear hr
      generalize (onesL k)[k] = v at *
      clear hlen
      go_wp2
      go_roundw
      case rel => exact ⟨k + 1, by omega, by go_num, by rw [heap_set _ _ _ _ _ _ HR.out, set_ints, onesL_set k hlt], hb.setCell (Nat.le_refl _) _⟩
      case measure => simp [intOf]; omega
    · obtain rfl : k = 24 := by omega
      clear hr hlen
      go_wp2
      go_ret
      exact ⟨_, rfl, RdI_blk HR.out, hb⟩
theorem ones_bit : ∀ j < 20, (bits BinOp.and IntKind.i64 (1048575 / 2 ^ j) 1 == 0) = false := by decide +kernel
theorem boxIn_no' {X Y m j k : Nat} (hj : X ≤ j) (hj2 : j < X + m) (hk : Y ≤ k) (hk2 : k < Y + m) (h : inSh j k = false) : boxIn X Y m = false := by
  apply boxIn_no (u := j - X) (v := k - Y) (by omega) (by omega)
  rw [← h]
  congr 1 <;> omega
theorem boxIn_yes' {X Y m : Nat} (h : ∀ j k : Nat, X ≤ j → j < X + m → Y ≤ k → k < Y + m → inSh j k = true) : boxIn X Y m = true := by
  apply boxIn_yes
  intro u v hu hv
  rw [← h (X + u) (Y + v) (by omega) (by omega) (by omega) (by omega)]
  congr 1
set_option maxHeartbeats 1000000 in
theorem l11Whole_any (X Y m : Nat) (A : Option Addr) (w : World) (hx : X ≤ 19) (hy : Y ≤ 23) (hm : m ≤ 8) (h : RdI w A (List.replicate 24 1048575)) :
    Calls Try.prog 77 #[.agg #[.int .i64 X, .int .i64 Y, .int .i64 m], .slice A 24 24] w fun e w' => e = .returned (.bool (boxIn X Y m)) ∧ Below w.heap.size w w' := by
  obtain ⟨b, off, rfl, -, hbl⟩ := h.atv (k := 0) (v := 1048575) rfl
  have hc : ∀ k, k < 24 → w.cell? ⟨b, off + k, none⟩ = some (.int .i64 1048575) := fun k hk => by
    obtain ⟨b', off', e, hc, -⟩ := h.atv (k := k) (v := 1048575) (by rw [List.getElem?_replicate, if_pos hk])
    injection e with e
    injection e with e1 e2
    subst e1 e2
    exact hc
  have HC := Lib.hid hc
  clear hc h
  go_enter Try.func77, Try.ntmps77
  go_wp2_with fail
  go_loop [5] (fun i => ∃ k : Nat, Y ≤ k ∧ k ≤ Y + m ∧ i = .int .i64 k ∧ ∀ j' k' : Nat, X ≤ j' → j' < X + m → Y ≤ k' → k' < k → inSh j' k' = true) (fun i => Y + m - (intOf i).toNat)
  case atStart => exact ⟨Y, by omega, by omega, rfl, fun j' k' _ _ h h' => absurd h (by omega)⟩
  case round =>
    obtain ⟨k, hk0, hk, rfl, hall⟩ := hrel
    have HA := Lib.hid hall
    clear hall
    by_cases hlt : k < Y + m
    · have i1 : (k : Int) < (Y : Int) + (m : Int) := by omega
      have c1 : k < 24 → w.cell? ⟨b, off + k, none⟩ = some (.int .i64 1048575) := fun hk => HC.out k hk
      go_wp2_with fail
      go_loop [6] (fun i => ∃ j : Nat, X ≤ j ∧ j ≤ X + m ∧ i = .int .i64 j ∧ ∀ j' : Nat, X ≤ j' → j' < j → inSh j' k = true) (fun i => X + m - (intOf i).toNat)
      case atStart => exact ⟨X, by omega, by omega, rfl, fun j' h h' => absurd h (by omega)⟩
      case round =>
        obtain ⟨j, hj0, hj, rfl, hall⟩ := hrel
        have HB := Lib.hid hall
        clear hall
        by_cases hlt2 : j < X + m
        · have i2 : (j : Int) < (X : Int) + (m : Int) := by omega
          obtain ⟨z, hz⟩ : ∃ z, z = inSh j k := ⟨_, rfl⟩
          have K := fun w => l9In_any j k w
          rw [← hz] at K
          have K' := Lib.hid K
          have HZ := Lib.hid hz
          clear K hz
          cases z
          · clear c1
            go_wp2_with (first | (go_at_call 84; refine (K'.out _).mono ?_; rintro e w' ⟨rfl, rfl⟩) | fail)
            go_ret
            exact ⟨ret_bool (boxIn_no' hj0 hlt2 hk0 hlt HZ.out.symm).symm, by (repeat (first | exact Below.refl _ _ | assumption | refine Below_al ?_ _ | refine Below.drew ?_ | refine Below_then ?_ (by assumption) | refine Below.setCell ?_ (by first | omega | (simp; done) | (simp; omega)) _))⟩
          · have hin := inSh_cell HZ.out.symm
            obtain ⟨g1, g2, g3, g4⟩ := hin
            have c2 := c1 (by omega)
            have t1 := ones_bit j (by omega)
            have j1 : (k : Int) < 24 := by omega
            clear c1
            go_wp2_with (first | (go_at_call 84; refine (K'.out _).mono ?_; rintro e w' ⟨rfl, rfl⟩) | fail)
            go_round
            case rel =>
              refine ⟨j + 1, by omega, by omega, by go_num, fun j' h h' => ?_⟩
              by_cases e : j' = j
              · subst e; exact HZ.out.symm
              · exact HB.out j' h (by omega)
            case measure => simp [intOf]; omega
        · obtain rfl : j = X + m := by omega
          have i2 : ¬ ((X + m : Nat) : Int) < (X : Int) + (m : Int) := by omega
          go_wp2
          go_round
          case rel =>
            refine ⟨k + 1, by omega, by omega, by go_num, fun j' k' h1 h2 h3 h4 => ?_⟩
            by_cases e : k' = k
            · subst e; exact HB.out j' h1 h2
            · exact HA.out j' k' h1 h2 h3 (by omega)
          case measure => simp [intOf]; omega
    · obtain rfl : k = Y + m := by omega
      have i1 : ¬ ((Y + m : Nat) : Int) < (Y : Int) + (m : Int) := by omega
      go_wp2
      go_ret
      exact ⟨ret_bool (boxIn_yes' HA.out).symm, by (repeat (first | exact Below.refl _ _ | assumption | refine Below_al ?_ _ | refine Below.drew ?_ | refine Below_then ?_ (by assumption) | refine Below.setCell ?_ (by first | omega | (simp; done) | (simp; omega)) _))⟩
theorem Below_drewN {B : Nat} {a w : World} (h : Below B a w) (n : Nat) : Below B a (w.drewN n) := ⟨h.os, h.tape, h.output, h.size, h.block⟩
theorem l1In_any' (n low high : Int) (w : World) : Calls Try.prog 49 #[.int .i64 n, .int .i64 low, .int .i64 high] w fun e w' => e = .returned (.bool (decide (low ≤ n ∧ n ≤ high))) ∧ w' = w :=
  (l1In_any n low high w).mono fun _ _ ⟨h1, h2⟩ => ⟨h1, h2.symm⟩
theorem heldB {a w w' : World} {p0 p1 p2 : Addr} {u0 u1 u2 : Value} (h : w.cell? p0 = some u0 ∧ w.cell? p1 = some u1 ∧ w.cell? p2 = some u2 ∧ Below a.heap.size a w) (hb : Below w.heap.size w w') : w'.cell? p0 = some u0 ∧ w'.cell? p1 = some u1 ∧ w'.cell? p2 = some u2 ∧ Below a.heap.size a w' :=
  ⟨keep_cell h.1 hb, keep_cell h.2.1 hb, keep_cell h.2.2.1 hb, Below_then h.2.2.2 hb⟩
set_option maxHeartbeats 1000000 in
theorem l11Box_any (x y s : Int) (w : World) :
    Calls Try.prog 44 #[.agg #[.int .i64 x, .int .i64 y, .int .i64 s]] w fun e w' => e = .returned (.bool (boxOk x y s)) ∧ Below w.heap.size w w' := by
  by_cases h1 : 1 ≤ s ∧ s ≤ 8
  · obtain ⟨m, rfl⟩ := Int.eq_ofNat_of_zero_le (show 0 ≤ s by omega)
    by_cases h2 : 0 ≤ x ∧ x ≤ 19
    · by_cases h3 : 0 ≤ y ∧ y ≤ 23
      · obtain ⟨X, rfl⟩ := Int.eq_ofNat_of_zero_le h2.1
        obtain ⟨Y, rfl⟩ := Int.eq_ofNat_of_zero_le h3.1
        have K := fun A w h => l11Whole_any X Y m A w (by omega) (by omega) (by omega) h
        rw [boxOk_yes ⟨h1, h2, h3⟩]
        generalize boxIn X Y m = z at *
        have K' := Lib.hid K
        obtain ⟨a1, a2⟩ := h1
        obtain ⟨a3, a4⟩ := h2
        obtain ⟨a5, a6⟩ := h3
        clear K
        go_enter Try.func44, Try.ntmps44
        go_wp2_with fail
        have hF : (w.alloc (.cells #[.int .i64 X, .int .i64 Y, .int .i64 m] 25)).heap[w.heap.size]? = some (.cells #[.int .i64 X, .int .i64 Y, .int .i64 m] 25 (0, 0)) := heap_hit _ _ _ rfl
        have e0 := cell_of hF 0
        have e1 := cell_of hF 1
        have e2 := cell_of hF 2
        clear hF
        go_region_held3 (fun w' => w'.cell? ⟨w.heap.size, 0, none⟩ = some (.int .i64 X) ∧ w'.cell? ⟨w.heap.size, 1, none⟩ = some (.int .i64 Y) ∧ w'.cell? ⟨w.heap.size, 2, none⟩ = some (.int .i64 m) ∧ Below w.heap.size w w') (first | assumption | exact heldB (by assumption) (by assumption) | exact ⟨e0, e1, e2, by (repeat (first | exact Below.refl _ _ | assumption | refine Below_al ?_ _ | refine Below.drew ?_ | refine Below_then ?_ (by assumption) | refine Below.setCell ?_ (by first | omega | (simp; done) | (simp; omega)) _))⟩) (first | (go_at_call 49; refine (l1In_any _ _ _ _).mono ?_; rintro e w' ⟨rfl, rfl⟩) | (go_at_call 78; refine (l11All_any _).mono ?_; rintro e w1 ⟨A, rfl, hr, hb1⟩) | (go_at_call 77; refine (K'.out _ _ (by assumption)).mono ?_; rintro e w2 ⟨rfl, hb2⟩))
        go_wp2
        go_ret
        exact ⟨rfl, And.right (And.right (And.right (by assumption)))⟩
      · rw [boxOk_no (fun h => h3 h.2.2)]
        have d3 : decide (0 ≤ y ∧ y ≤ 23) = false := by simpa using h3
        have d1 : decide (1 ≤ (m : Int) ∧ (m : Int) ≤ 8) = true := by simpa using h1
        have d2 : decide (0 ≤ x ∧ x ≤ 19) = true := by simpa using h2
        clear h1 h2 h3
        go_enter Try.func44, Try.ntmps44
        go_wp2_with fail
        go_quiet ((go_at_call 49; exact Calls.quiet_of_same (l1In_any' _ _ _ _)))
        go_wp2
        go_ret
        exact ⟨rfl, Below_drewN (by (repeat (first | exact Below.refl _ _ | assumption | refine Below_al ?_ _ | refine Below.drew ?_ | refine Below_then ?_ (by assumption) | refine Below.setCell ?_ (by first | omega | (simp; done) | (simp; omega)) _))) _⟩
    · rw [boxOk_no (fun h => h2 h.2.1)]
      have d3 : decide (0 ≤ x ∧ x ≤ 19) = false := by simpa using h2
      have d1 : decide (1 ≤ (m : Int) ∧ (m : Int) ≤ 8) = true := by simpa using h1
      clear h1 h2
      go_enter Try.func44, Try.ntmps44
      go_wp2_with fail
      go_quiet ((go_at_call 49; exact Calls.quiet_of_same (l1In_any' _ _ _ _)))
      go_wp2
      go_ret
      exact ⟨rfl, Below_drewN (by (repeat (first | exact Below.refl _ _ | assumption | refine Below_al ?_ _ | refine Below.drew ?_ | refine Below_then ?_ (by assumption) | refine Below.setCell ?_ (by first | omega | (simp; done) | (simp; omega)) _))) _⟩
  · rw [boxOk_no (fun h => h1 h.1)]
    have d3 : decide (1 ≤ s ∧ s ≤ 8) = false := by simpa using h1
    clear h1
    go_enter Try.func44, Try.ntmps44
    go_wp2_with fail
    go_quiet ((go_at_call 49; exact Calls.quiet_of_same (l1In_any' _ _ _ _)))
    go_wp2
    go_ret
    exact ⟨rfl, Below_drewN (by (repeat (first | exact Below.refl _ _ | assumption | refine Below_al ?_ _ | refine Below.drew ?_ | refine Below_then ?_ (by assumption) | refine Below.setCell ?_ (by first | omega | (simp; done) | (simp; omega)) _))) _⟩
theorem specIsValidBox_any (x y s : Int) (w : World) :
    Calls Try.prog 12 #[.agg #[.int .i64 x, .int .i64 y, .int .i64 s]] w fun e w' => e = .returned (.bool (boxOk x y s)) ∧ Below w.heap.size w w' := by
  have K := fun w => l11Box_any x y s w
  generalize boxOk x y s = z at *
  have K' := Lib.hid K
  clear K
  go_enter Try.func12, Try.ntmps12
  go_wp2_with (first | (go_at_call 44; refine (K'.out _).mono ?_; rintro e w1 ⟨rfl, hb1⟩) | fail)
  go_ret
  exact ⟨rfl, by (repeat (first | exact Below.refl _ _ | assumption | refine Below_al ?_ _ | refine Below.drew ?_ | refine Below_then ?_ (by assumption) | refine Below.setCell ?_ (by first | omega | (simp; done) | (simp; omega)) _))⟩
end Go.Proofs.Ytgnfgkkepninpaa
