/- Contracts of LineOffset and LineTurns, of the program and of the reference. -/
import Derived.Test.YtfmigkiliggdhaaLines
namespace Go.Proofs.Ytfmigkiliggdhaa
open Go.ChangeShapes Go.WideShapes Go.ChangeAt Go.RowKit

def lineOffsetOk (line t : Int) : Bool := decide (0 ≤ line ∧ line ≤ 4) && decide (0 ≤ t ∧ t ≤ 1000)
theorem LineOffset_any (line t : Int) (w : World) :
    Calls Try.prog 22 #[.int .i64 line, .int .i64 t] w fun e w' => e = .returned (.tuple #[.int .i64 (if lineOffsetOk line t then offF line t else 0), .bool (lineOffsetOk line t)]) ∧ Below w.heap.size w w' := by
  by_cases h : 0 ≤ line ∧ line ≤ 4
  · by_cases h2 : 0 ≤ t ∧ t ≤ 1000
    · have hk : lineOffsetOk line t = true := by simp [lineOffsetOk, h, h2]
      rw [hk, if_pos rfl]
      clear hk
      obtain ⟨h0, h4⟩ := h
      obtain ⟨h5, h6⟩ := h2
      go_enter Try.func22, Try.ntmps22
      go_wp2_with (first | (go_at_call 58; refine (isLine_any _ _).mono ?_; rintro e w' ⟨rfl, rfl⟩) | (go_at_call 44; refine (inside_any _ _ _ _).mono ?_; rintro e w' ⟨rfl, rfl⟩) | (go_at_call 60; refine (l10Line_any _ _).mono ?_; rintro e w' ⟨rfl, rfl⟩) | (go_at_call 48; refine (l1In_any _ _ _ _).mono ?_; rintro e w' ⟨rfl, rfl⟩) | fail)
      refine (offset_any _ _ h0 h4 h5 _).mono ?_
      rintro e w1 ⟨rfl, hb⟩
      go_wp2
      go_ret2
      exact ⟨rfl, hb⟩
    · have hk : lineOffsetOk line t = false := by simp [lineOffsetOk]; omega
      rw [hk, if_neg (by simp)]
      clear hk
      go_enter Try.func22, Try.ntmps22
      go_wp2_with (first | (go_at_call 58; refine (isLine_any _ _).mono ?_; rintro e w' ⟨rfl, rfl⟩) | (go_at_call 44; refine (inside_any _ _ _ _).mono ?_; rintro e w' ⟨rfl, rfl⟩) | (go_at_call 60; refine (l10Line_any _ _).mono ?_; rintro e w' ⟨rfl, rfl⟩) | (go_at_call 48; refine (l1In_any _ _ _ _).mono ?_; rintro e w' ⟨rfl, rfl⟩) | fail)
      go_ret2
      exact ⟨rfl, Below.refl _ _⟩
  · have hk : lineOffsetOk line t = false := by simp [lineOffsetOk]; omega
    rw [hk, if_neg (by simp)]
    clear hk
    go_enter Try.func22, Try.ntmps22
    go_wp2_with (first | (go_at_call 58; refine (isLine_any _ _).mono ?_; rintro e w' ⟨rfl, rfl⟩) | (go_at_call 44; refine (inside_any _ _ _ _).mono ?_; rintro e w' ⟨rfl, rfl⟩) | (go_at_call 60; refine (l10Line_any _ _).mono ?_; rintro e w' ⟨rfl, rfl⟩) | (go_at_call 48; refine (l1In_any _ _ _ _).mono ?_; rintro e w' ⟨rfl, rfl⟩) | fail)
    go_ret2
    exact ⟨rfl, Below.refl _ _⟩
theorem specLineOffset_any (line t : Int) (w : World) :
    Calls Try.prog 23 #[.int .i64 line, .int .i64 t] w fun e w' => e = .returned (.tuple #[.int .i64 (if lineOffsetOk line t then offF line t else 0), .bool (lineOffsetOk line t)]) ∧ Below w.heap.size w w' := by
  by_cases h : 0 ≤ line ∧ line ≤ 4
  · by_cases h2 : 0 ≤ t ∧ t ≤ 1000
    · have hk : lineOffsetOk line t = true := by simp [lineOffsetOk, h, h2]
      rw [hk, if_pos rfl]
      clear hk
      obtain ⟨h0, h4⟩ := h
      obtain ⟨h5, h6⟩ := h2
      go_enter Try.func23, Try.ntmps23
      go_wp2_with (first | (go_at_call 58; refine (isLine_any _ _).mono ?_; rintro e w' ⟨rfl, rfl⟩) | (go_at_call 44; refine (inside_any _ _ _ _).mono ?_; rintro e w' ⟨rfl, rfl⟩) | (go_at_call 60; refine (l10Line_any _ _).mono ?_; rintro e w' ⟨rfl, rfl⟩) | (go_at_call 48; refine (l1In_any _ _ _ _).mono ?_; rintro e w' ⟨rfl, rfl⟩) | fail)
      refine (l10Offset_any _ _ h0 h4 h5 _).mono ?_
      rintro e w1 ⟨rfl, hb⟩
      go_wp2
      go_ret2
      exact ⟨rfl, hb⟩
    · have hk : lineOffsetOk line t = false := by simp [lineOffsetOk]; omega
      rw [hk, if_neg (by simp)]
      clear hk
      go_enter Try.func23, Try.ntmps23
      go_wp2_with (first | (go_at_call 58; refine (isLine_any _ _).mono ?_; rintro e w' ⟨rfl, rfl⟩) | (go_at_call 44; refine (inside_any _ _ _ _).mono ?_; rintro e w' ⟨rfl, rfl⟩) | (go_at_call 60; refine (l10Line_any _ _).mono ?_; rintro e w' ⟨rfl, rfl⟩) | (go_at_call 48; refine (l1In_any _ _ _ _).mono ?_; rintro e w' ⟨rfl, rfl⟩) | fail)
      go_ret2
      exact ⟨rfl, Below.refl _ _⟩
  · have hk : lineOffsetOk line t = false := by simp [lineOffsetOk]; omega
    rw [hk, if_neg (by simp)]
    clear hk
    go_enter Try.func23, Try.ntmps23
    go_wp2_with (first | (go_at_call 58; refine (isLine_any _ _).mono ?_; rintro e w' ⟨rfl, rfl⟩) | (go_at_call 44; refine (inside_any _ _ _ _).mono ?_; rintro e w' ⟨rfl, rfl⟩) | (go_at_call 60; refine (l10Line_any _ _).mono ?_; rintro e w' ⟨rfl, rfl⟩) | (go_at_call 48; refine (l1In_any _ _ _ _).mono ?_; rintro e w' ⟨rfl, rfl⟩) | fail)
    go_ret2
    exact ⟨rfl, Below.refl _ _⟩
def lineTurnsOk (line n : Int) : Bool := decide (0 ≤ line ∧ line ≤ 4) && decide (1 ≤ n ∧ n ≤ 1000)
theorem LineTurns_any (line n : Int) (w : World) :
    Calls Try.prog 30 #[.int .i64 line, .int .i64 n] w fun e w' => e = .returned (.tuple #[.int .i64 (if lineTurnsOk line n then turnsJ line (n - 1).toNat else 0), .bool (lineTurnsOk line n)]) ∧ Below w.heap.size w w' := by
  by_cases h : 0 ≤ line ∧ line ≤ 4
  · by_cases h2 : 1 ≤ n ∧ n ≤ 1000
    · have hk : lineTurnsOk line n = true := by simp [lineTurnsOk, h, h2]
      rw [hk, if_pos rfl]
      clear hk
      obtain ⟨h0, h4⟩ := h
      obtain ⟨h5, h6⟩ := h2
      go_enter Try.func30, Try.ntmps30
      go_wp2_with (first | (go_at_call 58; refine (isLine_any _ _).mono ?_; rintro e w' ⟨rfl, rfl⟩) | (go_at_call 44; refine (inside_any _ _ _ _).mono ?_; rintro e w' ⟨rfl, rfl⟩) | (go_at_call 60; refine (l10Line_any _ _).mono ?_; rintro e w' ⟨rfl, rfl⟩) | (go_at_call 48; refine (l1In_any _ _ _ _).mono ?_; rintro e w' ⟨rfl, rfl⟩) | fail)
      go_loopw [6, 7] (fun c i wr => ∃ j : Nat, (j : Int) + 1 ≤ n ∧ i = .int .i64 ((j : Int) + 1) ∧ c = .int .i64 (turnsJ line j) ∧ Below w.heap.size w wr) (fun _ i _ => (n - intOf i).toNat)
      case atStart => exact ⟨0, by omega, rfl, rfl, Below.refl _ _⟩
      case round =>
        obtain ⟨j, hj, rfl, rfl, hb⟩ := hrel
        have hbd := turnsJ_bd line j
        by_cases hlt : (j : Int) + 1 < n
        · have hd : decide ((j : Int) + 1 < n) = true := by simpa using hlt
          have hs : turnsJ line (j + 1) = turnsJ line j + numI (offF line ((j : Int) + 1) != offF line j) := rfl
          obtain ⟨x, hx⟩ : ∃ x, x = offF line ((j : Int) + 1) := ⟨_, rfl⟩
          obtain ⟨y, hy⟩ : ∃ y, y = offF line j := ⟨_, rfl⟩
          obtain ⟨z, hz⟩ : ∃ z, z = turnsJ line j := ⟨_, rfl⟩
          rw [← hz] at hbd hs ⊢
          rw [← hx, ← hy] at hs
          have hj1 : (j : Int) + 1 - 1 = j := by omega
          have HX := Lib.hid hx
          have HY := Lib.hid hy
          have HZ := Lib.hid hz
          have HS := Lib.hid hs
          clear hx hy hz hs
          go_wp2_with fail
          refine (offset_any _ _ h0 h4 (by omega) _).mono ?_
          rintro e w1 ⟨rfl, hb1⟩
          rw [← HX.out]
          go_wp2_with fail
          refine (offset_any _ _ h0 h4 (by omega) _).mono ?_
          rintro e w2 ⟨rfl, hb2⟩
          rw [← HY.out]
          have hnb := numI_bd (x != y)
          go_wp2_with (first | (go_at_call 69; refine (number_any _ _).mono ?_; rintro e w' ⟨rfl, rfl⟩) | fail)
          go_roundw
          case rel => exact ⟨j + 1, by omega, by go_num, by rw [HS.out], Below_step (Below_step hb hb1 hb.size) hb2 (Nat.le_trans hb.size hb1.size)⟩
          case measure => simp [intOf]; omega
        · have hn : n = (j : Int) + 1 := by omega
          subst hn
          go_wp2
          go_ret2
          exact ⟨by simp, hb⟩
    · have hk : lineTurnsOk line n = false := by simp [lineTurnsOk]; omega
      rw [hk, if_neg (by simp)]
      clear hk
      go_enter Try.func30, Try.ntmps30
      go_wp2_with (first | (go_at_call 58; refine (isLine_any _ _).mono ?_; rintro e w' ⟨rfl, rfl⟩) | (go_at_call 44; refine (inside_any _ _ _ _).mono ?_; rintro e w' ⟨rfl, rfl⟩) | (go_at_call 60; refine (l10Line_any _ _).mono ?_; rintro e w' ⟨rfl, rfl⟩) | (go_at_call 48; refine (l1In_any _ _ _ _).mono ?_; rintro e w' ⟨rfl, rfl⟩) | fail)
      go_ret2
      exact ⟨rfl, Below.refl _ _⟩
  · have hk : lineTurnsOk line n = false := by simp [lineTurnsOk]; omega
    rw [hk, if_neg (by simp)]
    clear hk
    go_enter Try.func30, Try.ntmps30
    go_wp2_with (first | (go_at_call 58; refine (isLine_any _ _).mono ?_; rintro e w' ⟨rfl, rfl⟩) | (go_at_call 44; refine (inside_any _ _ _ _).mono ?_; rintro e w' ⟨rfl, rfl⟩) | (go_at_call 60; refine (l10Line_any _ _).mono ?_; rintro e w' ⟨rfl, rfl⟩) | (go_at_call 48; refine (l1In_any _ _ _ _).mono ?_; rintro e w' ⟨rfl, rfl⟩) | fail)
    go_ret2
    exact ⟨rfl, Below.refl _ _⟩
theorem specLineTurns_any (line n : Int) (w : World) :
    Calls Try.prog 31 #[.int .i64 line, .int .i64 n] w fun e w' => e = .returned (.tuple #[.int .i64 (if lineTurnsOk line n then turnsJ line (n - 1).toNat else 0), .bool (lineTurnsOk line n)]) ∧ Below w.heap.size w w' := by
  by_cases h : 0 ≤ line ∧ line ≤ 4
  · by_cases h2 : 1 ≤ n ∧ n ≤ 1000
    · have hk : lineTurnsOk line n = true := by simp [lineTurnsOk, h, h2]
      rw [hk, if_pos rfl]
      clear hk
      obtain ⟨h0, h4⟩ := h
      obtain ⟨h5, h6⟩ := h2
      go_enter Try.func31, Try.ntmps31
      go_wp2_with (first | (go_at_call 58; refine (isLine_any _ _).mono ?_; rintro e w' ⟨rfl, rfl⟩) | (go_at_call 44; refine (inside_any _ _ _ _).mono ?_; rintro e w' ⟨rfl, rfl⟩) | (go_at_call 60; refine (l10Line_any _ _).mono ?_; rintro e w' ⟨rfl, rfl⟩) | (go_at_call 48; refine (l1In_any _ _ _ _).mono ?_; rintro e w' ⟨rfl, rfl⟩) | fail)
      go_loopw [6, 7] (fun c i wr => ∃ j : Nat, (j : Int) + 1 ≤ n ∧ i = .int .i64 ((j : Int) + 1) ∧ c = .int .i64 (turnsJ line j) ∧ Below w.heap.size w wr) (fun _ i _ => (n - intOf i).toNat)
      case atStart => exact ⟨0, by omega, rfl, rfl, Below.refl _ _⟩
      case round =>
        obtain ⟨j, hj, rfl, rfl, hb⟩ := hrel
        have hbd := turnsJ_bd line j
        by_cases hlt : (j : Int) + 1 < n
        · have hd : decide ((j : Int) + 1 < n) = true := by simpa using hlt
          have hs : turnsJ line (j + 1) = turnsJ line j + numI (offF line ((j : Int) + 1) != offF line j) := rfl
          obtain ⟨x, hx⟩ : ∃ x, x = offF line ((j : Int) + 1) := ⟨_, rfl⟩
          obtain ⟨y, hy⟩ : ∃ y, y = offF line j := ⟨_, rfl⟩
          obtain ⟨z, hz⟩ : ∃ z, z = turnsJ line j := ⟨_, rfl⟩
          rw [← hz] at hbd hs ⊢
          rw [← hx, ← hy] at hs
          have hj1 : (j : Int) + 1 - 1 = j := by omega
          have HX := Lib.hid hx
          have HY := Lib.hid hy
          have HZ := Lib.hid hz
          have HS := Lib.hid hs
          clear hx hy hz hs
          go_wp2_with fail
          refine (l10Offset_any _ _ h0 h4 (by omega) _).mono ?_
          rintro e w1 ⟨rfl, hb1⟩
          rw [← HX.out]
          go_wp2_with fail
          refine (l10Offset_any _ _ h0 h4 (by omega) _).mono ?_
          rintro e w2 ⟨rfl, hb2⟩
          rw [← HY.out]
          by_cases hxy : x = y
          · have h1 : (x != y) = false := by simp [hxy]
            have H1 := Lib.hid h1
            rw [H1.out] at HS
            go_wp2
            go_roundw
            case rel => exact ⟨j + 1, by omega, by go_num, by rw [HS.out]; simp [numI], Below_step (Below_step hb hb1 hb.size) hb2 (Nat.le_trans hb.size hb1.size)⟩
            case measure => simp [intOf]; omega
          · have h1 : (x != y) = true := by simp [hxy]
            go_wp2
            go_roundw
            case rel => exact ⟨j + 1, by omega, by go_num, by rw [HS.out, h1]; simp [numI], Below_step (Below_step hb hb1 hb.size) hb2 (Nat.le_trans hb.size hb1.size)⟩
            case measure => simp [intOf]; omega
        · have hn : n = (j : Int) + 1 := by omega
          subst hn
          go_wp2
          go_ret2
          exact ⟨by simp, hb⟩
    · have hk : lineTurnsOk line n = false := by simp [lineTurnsOk]; omega
      rw [hk, if_neg (by simp)]
      clear hk
      go_enter Try.func31, Try.ntmps31
      go_wp2_with (first | (go_at_call 58; refine (isLine_any _ _).mono ?_; rintro e w' ⟨rfl, rfl⟩) | (go_at_call 44; refine (inside_any _ _ _ _).mono ?_; rintro e w' ⟨rfl, rfl⟩) | (go_at_call 60; refine (l10Line_any _ _).mono ?_; rintro e w' ⟨rfl, rfl⟩) | (go_at_call 48; refine (l1In_any _ _ _ _).mono ?_; rintro e w' ⟨rfl, rfl⟩) | fail)
      go_ret2
      exact ⟨rfl, Below.refl _ _⟩
  · have hk : lineTurnsOk line n = false := by simp [lineTurnsOk]; omega
    rw [hk, if_neg (by simp)]
    clear hk
    go_enter Try.func31, Try.ntmps31
    go_wp2_with (first | (go_at_call 58; refine (isLine_any _ _).mono ?_; rintro e w' ⟨rfl, rfl⟩) | (go_at_call 44; refine (inside_any _ _ _ _).mono ?_; rintro e w' ⟨rfl, rfl⟩) | (go_at_call 60; refine (l10Line_any _ _).mono ?_; rintro e w' ⟨rfl, rfl⟩) | (go_at_call 48; refine (l1In_any _ _ _ _).mono ?_; rintro e w' ⟨rfl, rfl⟩) | fail)
    go_ret2
    exact ⟨rfl, Below.refl _ _⟩
end Go.Proofs.Ytfmigkiliggdhaa
