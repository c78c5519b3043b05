/- Contracts: names; texts that mark. -/
import Derived.Test.YtlonnkmfjijddaaGreatDoorGr
namespace Go.Proofs.YtlonnkmfjijddaaGreatDoor
open Go.ChangeShapes Go.WideShapes Go.ChangeAt Go.RowKit
set_option linter.unusedVariables false
set_option linter.unusedSimpArgs false
theorem conv1 (w : World) (b : Nat) (z : Int) (hc : w.cell? ⟨b, 0, none⟩ = some (.int .u8 z)) (hz : 0 ≤ z ∧ z ≤ 255) : (convert 86 9 (.slice (some ⟨b, 0, none⟩) 1 1)).run Tryz.prog w = .ok (.string ⟨[UInt8.ofNat z.toNat].toArray⟩) w := by
  have hu8 : Tryz.prog.underlying 5 = some (.int .u8) := by kernel_rfl
  have hst : Tryz.prog.underlying 9 = some .string := by kernel_rfl
  exact run_convert_bytes_back (P := Tryz.prog) w 86 9 5 ⟨b, 0, none⟩ 1 [UInt8.ofNat z.toNat] Tryz.underlying86 hu8 hst (fun j hj => by
    simp at hj
    subst hj
    rw [Addr.add, if_pos rfl, hc]
    simp
    omega)
def SomeText (w : World) (e : Ending) (w' : World) : Prop := ∃ s : ByteArray, e = .returned (.string s) ∧ Below w.heap.size w w'
set_option maxHeartbeats 1000000 in
set_option maxRecDepth 20000 in
theorem markText_any (k : Int) (w : World) (h0 : 1 ≤ k) (h1 : k ≤ 1099511627776) : Calls Tryz.prog 27 #[.int .i64 k] w (SomeText w) := by
  have hk : ¬ k ≤ 0 := by omega
  go_enter Tryz.func27, Tryz.ntmps27
  go_wp2_with fail
  clear hk
  go_loopw [0, 3] (fun z s wr => ∃ (q : Int) (t : ByteArray), z = .int .i64 q ∧ s = .string t ∧ 0 ≤ q ∧ (t.size : Int) + q ≤ k ∧ Below w.heap.size w wr) (fun z _ _ => (intOf z).toNat)
  case atStart => exact ⟨k, ⟨#[]⟩, rfl, rfl, by omega, by simp [ByteArray.size], Below.refl _ _⟩
  case round =>
    obtain ⟨q, t, rfl, rfl, hq, ht, hb⟩ := hrel
    by_cases hp : 0 < q
    · have hm0 := Int.emod_nonneg q (show (10 : Int) ≠ 0 by decide)
      have hm1 := Int.emod_lt_of_pos q (show (0 : Int) < 10 by decide)
      have d1 : decide (0 < q) = true := by simpa using hp
      obtain ⟨t1, ht1⟩ : ∃ t1 : ByteArray, t1 = ⟨[UInt8.ofNat (48 + q % 10).toNat].toArray⟩ := ⟨_, rfl⟩
      have hcv := conv1 (wr.alloc (.cells #[.int .u8 (48 + q % 10)] 5)) wr.heap.size (48 + q % 10) (cell_of (heap_hit _ _ _ rfl) 0) (by omega)
      rw [← ht1] at hcv
      have hs1 : t1.size = 1 := by rw [ht1]; rfl
      have hdv : q / 10 + 1 ≤ q := by omega
      have hd0 : 0 ≤ q / 10 := by omega
      clear ht1
      go_wp2
      go_roundw
      case rel => exact ⟨q / 10, t1 ++ t, rfl, rfl, hd0, by rw [ByteArray.size_append]; omega, Below_al hb _⟩
      case measure => simp [intOf]; omega
    · have d1 : decide (0 < q) = false := by simpa using hp
      go_wp2
      go_ret
      exact ⟨_, rfl, by (repeat (first | exact Below.refl _ _ | assumption | refine Below_al ?_ _ | refine Below.drew ?_ | refine Below_then ?_ (by assumption) | refine Below.setCell ?_ (by first | omega | (simp; done) | (simp; omega)) _))⟩
/-- Byte number i of a text, as a number. -/
def byteAt (s : ByteArray) (i : Nat) : Int := if h : i < s.size then ((s[i]'h).toNat : Int) else 0
theorem byteAt_get {s : ByteArray} {i : Nat} (h : i < s.size) : byteAt s i = ((s[i]'h).toNat : Int) := by rw [byteAt, dif_pos h]
/-- Is byte number i right: an upper letter first, lower letters behind it? -/
def letterOk (s : ByteArray) (i : Nat) : Bool := if i = 0 then decide (65 ≤ byteAt s i ∧ byteAt s i ≤ 90) else decide (97 ≤ byteAt s i ∧ byteAt s i ≤ 122)
def nameOk (s : ByteArray) : Bool := decide (1 ≤ s.size ∧ s.size ≤ 12) && (List.range s.size).all (letterOk s)
theorem nameOk_bad {s : ByteArray} {i : Nat} (hi : i < s.size) (h : letterOk s i = false) : nameOk s = false := by
  rw [nameOk, Bool.and_eq_false_iff]
  exact .inr (List.all_eq_false.2 ⟨i, by simpa using hi, by rw [h]; simp⟩)
theorem nameOk_good {s : ByteArray} (h : ∀ i, i < s.size → letterOk s i = true) : nameOk s = decide (1 ≤ s.size ∧ s.size ≤ 12) := by
  have : (List.range s.size).all (letterOk s) = true := List.all_eq_true.2 fun i hi => h i (by simpa using hi)
  rw [nameOk, this, Bool.and_true]
set_option maxHeartbeats 2000000 in
theorem isName_any (s : ByteArray) (w : World) (hm : s.size ≤ maxLen) : Calls Tryz.prog 38 #[.string s] w fun e w' => e = .returned (.bool (nameOk s)) ∧ Below w.heap.size w w' := by
  unfold maxLen at hm
  go_enter Tryz.func38, Tryz.ntmps38
  go_wp2_with fail
  go_loopw [6] (fun i wr => ∃ k : Nat, k ≤ s.size ∧ i = .int .i64 k ∧ (∀ j, j < k → letterOk s j = true) ∧ Below w.heap.size w wr) (fun i _ => s.size - (intOf i).toNat)
  case atStart => exact ⟨0, Nat.zero_le _, rfl, fun j hj => absurd hj (by omega), Below.refl _ _⟩
  case round =>
    obtain ⟨k, hk, rfl, hall, hb⟩ := hrel
    have HALL := Lib.hid hall
    clear hall
    by_cases hlt : k < s.size
    · have i1 : (k : Int) < (s.size : Int) := by omega
      have d1 : decide (k < s.size) = true := by simpa using hlt
      obtain ⟨z, hz⟩ : ∃ z : Int, ((s[k]'hlt).toNat : Int) = z := ⟨_, rfl⟩
      have hz1 := byteAt_get hlt
      rw [hz] at hz1
      have HZ := Lib.hid hz1
      clear hz1
      by_cases h0 : k = 0
      · subst h0
        by_cases hg : 65 ≤ z ∧ z ≤ 90
        · have hl : letterOk s 0 = true := by simp [letterOk, HZ.out, hg]
          have HL := Lib.hid hl
          have g1 : ¬ z < 65 := by omega
          have g2 : ¬ 90 < z := by omega
          clear hl hg
          go_wp2
          go_roundw
          case rel =>
            refine ⟨1, by omega, by go_num, fun j hj => ?_, hb⟩
            obtain rfl : j = 0 := by omega
            exact HL.out
          case measure => simp [intOf]; omega
        · have hl : letterOk s 0 = false := by simp [letterOk, HZ.out]; omega
          have hf := nameOk_bad hlt hl
          have g1 : z < 65 ∨ 90 < z := by omega
          clear hl hg
          rcases g1 with g1 | g1
          all_goals
            go_wp2
            go_ret
            exact ⟨retB hf.symm, hb⟩
      · have hk0 : ¬ (k : Int) = 0 := by omega
        have hk1 : (0 : Int) < (k : Int) := by omega
        by_cases hg : 97 ≤ z ∧ z ≤ 122
        · have hl : letterOk s k = true := by simp [letterOk, HZ.out, hg, h0]
          have HL := Lib.hid hl
          have g1 : ¬ z < 97 := by omega
          have g2 : ¬ 122 < z := by omega
          clear hl hg
          go_wp2
          go_roundw
          case rel =>
            refine ⟨k + 1, by omega, by go_num, fun j hj => ?_, hb⟩
            by_cases e : j = k
            · subst e; exact HL.out
            · exact HALL.out j (by omega)
          case measure => simp [intOf]; omega
        · have hl : letterOk s k = false := by simp [letterOk, HZ.out, h0]; omega
          have hf := nameOk_bad hlt hl
          have g1 : z < 97 ∨ 122 < z := by omega
          clear hl hg
          rcases g1 with g1 | g1
          all_goals
            go_wp2
            go_ret
            exact ⟨retB hf.symm, hb⟩
    · obtain rfl : k = s.size := by omega
      have d1 : decide (s.size < s.size) = false := by simp
      have hn := nameOk_good HALL.out
      have hn2 : nameOk s = decide ((1 : Int) ≤ (s.size : Int) ∧ (s.size : Int) ≤ 12) := by
        rw [hn]
        by_cases h : 1 ≤ s.size ∧ s.size ≤ 12
        · rw [decide_eq_true h, decide_eq_true (by omega)]
        · rw [decide_eq_false h, decide_eq_false (by omega)]
      have HN := Lib.hid hn2
      clear hn hn2
      go_wp2_with fail
      refine (inside_any _ _ _ _).mono ?_
      rw [← HN.out]
      rintro e w1 ⟨rfl, rfl⟩
      go_wp2
      go_ret
      exact ⟨rfl, hb⟩
set_option maxHeartbeats 2000000 in
theorem l16Name_any (s : ByteArray) (w : World) (hm : s.size ≤ maxLen) : Calls Tryz.prog 51 #[.string s] w fun e w' => e = .returned (.bool (nameOk s)) ∧ Below w.heap.size w w' := by
  unfold maxLen at hm
  by_cases hsz : 1 ≤ s.size ∧ s.size ≤ 12
  · have i0 : (0 : Int) < (s.size : Int) := by omega
    have hlt0 : 0 < s.size := by omega
    have hin : decide ((1 : Int) ≤ (s.size : Int) ∧ (s.size : Int) ≤ 12) = true := by rw [decide_eq_true_iff]; omega
    obtain ⟨z, hz⟩ : ∃ z : Int, ((s[0]'hlt0).toNat : Int) = z := ⟨_, rfl⟩
    have hz1 := byteAt_get hlt0
    rw [hz] at hz1
    have HZ := Lib.hid hz1
    have hA : (1 : Int) ≤ (s.size : Int) := by omega
    have hBd : (s.size : Int) ≤ 12 := by omega
    have HS := Lib.hid hsz
    clear hz1 hsz
    by_cases hg : 65 ≤ z ∧ z ≤ 90
    · have hl : letterOk s 0 = true := by simp [letterOk, HZ.out, hg]
      have HL := Lib.hid hl
      have g1 : ¬ z < 65 := by omega
      have g2 : ¬ 90 < z := by omega
      clear hl hg
      go_enter Tryz.func51, Tryz.ntmps51
      go_wp2_with (first | (go_at_call 50; refine (l1In_any _ _ _ _).mono ?_; rintro e w' ⟨rfl, rfl⟩) | fail)
      clear g1 g2 hin
      go_loopw [3] (fun i wr => ∃ k : Nat, 1 ≤ k ∧ k ≤ s.size ∧ i = .int .i64 k ∧ (∀ j, j < k → letterOk s j = true) ∧ Below w.heap.size w wr) (fun i _ => s.size - (intOf i).toNat)
      case atStart =>
        refine ⟨1, Nat.le_refl _, hlt0, rfl, fun j hj => ?_, by (repeat (first | exact Below.refl _ _ | assumption | refine Below_al ?_ _ | refine Below.drew ?_ | refine Below_then ?_ (by assumption) | refine Below.setCell ?_ (by first | omega | (simp; done) | (simp; omega)) _))⟩
        obtain rfl : j = 0 := by omega
        exact HL.out
      case round =>
        obtain ⟨k, hk1, hk, rfl, hall, hb⟩ := hrel
        have HALL := Lib.hid hall
        clear hall
        by_cases hlt : k < s.size
        · have i1 : (k : Int) < (s.size : Int) := by omega
          have d1 : decide (k < s.size) = true := by simpa using hlt
          have h0 : ¬ k = 0 := by omega
          obtain ⟨y, hy⟩ : ∃ y : Int, ((s[k]'hlt).toNat : Int) = y := ⟨_, rfl⟩
          have hy1 := byteAt_get hlt
          rw [hy] at hy1
          have HY := Lib.hid hy1
          clear hy1
          by_cases hg : 97 ≤ y ∧ y ≤ 122
          · have hl : letterOk s k = true := by simp [letterOk, HY.out, hg, h0]
            have HL2 := Lib.hid hl
            have g1 : ¬ y < 97 := by omega
            have g2 : ¬ 122 < y := by omega
            clear hl hg
            go_wp2
            go_roundw
            case rel =>
              refine ⟨k + 1, by omega, by omega, by go_num, fun j hj => ?_, hb⟩
              by_cases e : j = k
              · subst e; exact HL2.out
              · exact HALL.out j (by omega)
            case measure => simp [intOf]; omega
          · have hl : letterOk s k = false := by simp [letterOk, HY.out, h0]; omega
            have hf := nameOk_bad hlt hl
            have g1 : y < 97 ∨ 122 < y := by omega
            clear hl hg
            rcases g1 with g1 | g1
            all_goals
              go_wp2
              go_ret
              exact ⟨retB hf.symm, hb⟩
        · obtain rfl : k = s.size := by omega
          have d1 : decide (s.size < s.size) = false := by simp
          have hn := nameOk_good HALL.out
          rw [decide_eq_true HS.out] at hn
          have HN := Lib.hid hn
          clear hn
          go_wp2
          go_ret
          exact ⟨retB HN.out.symm, hb⟩
    · have hl : letterOk s 0 = false := by simp [letterOk, HZ.out]; omega
      have hf := nameOk_bad hlt0 hl
      have g1 : z < 65 ∨ 90 < z := by omega
      clear hl hg
      rw [hf]
      clear hf
      rcases g1 with g1 | g1
      all_goals
        go_enter Tryz.func51, Tryz.ntmps51
        go_wp2_with (first | (go_at_call 50; refine (l1In_any _ _ _ _).mono ?_; rintro e w' ⟨rfl, rfl⟩) | fail)
        go_ret
        exact ⟨rfl, by (repeat (first | exact Below.refl _ _ | assumption | refine Below_al ?_ _ | refine Below.drew ?_ | refine Below_then ?_ (by assumption) | refine Below.setCell ?_ (by first | omega | (simp; done) | (simp; omega)) _))⟩
  · have hf : nameOk s = false := by
      rw [nameOk, decide_eq_false hsz, Bool.false_and]
    have hin : decide ((1 : Int) ≤ (s.size : Int) ∧ (s.size : Int) ≤ 12) = false := by rw [decide_eq_false_iff_not]; omega
    rw [hf]
    clear hf hsz
    go_enter Tryz.func51, Tryz.ntmps51
    go_wp2_with fail
    refine (l1In_any _ _ _ _).mono ?_
    rw [hin]
    rintro e w1 ⟨rfl, rfl⟩
    go_wp2
    go_ret
    exact ⟨rfl, by (repeat (first | exact Below.refl _ _ | assumption | refine Below_al ?_ _ | refine Below.drew ?_ | refine Below_then ?_ (by assumption) | refine Below.setCell ?_ (by first | omega | (simp; done) | (simp; omega)) _))⟩
end Go.Proofs.YtlonnkmfjijddaaGreatDoor
