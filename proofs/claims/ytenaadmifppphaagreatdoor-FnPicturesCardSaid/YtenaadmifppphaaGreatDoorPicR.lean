/- What a text of letters says: rows of numbers. Both sides read the same. No program in sight. -/
import Derived.Test.YtenaadmifppphaaGreatDoorLetters
import Derived.Test.YtenaadmifppphaaGreatDoorRunP
namespace Go.Proofs.YtenaadmifppphaaGreatDoor
set_option linter.unusedVariables false
/-- The place of a letter among the letters; -1: none. -/
def letNo (b : UInt8) : Int := if b = 46 then 0 else if b = 103 then 1 else if b = 115 then 2 else if b = 114 then 3 else if b = 98 then 4 else if b = 107 then 5 else if b = 110 then 6 else if b = 112 then 7 else if b = 101 then 8 else if b = 118 then 9 else -1
def rowP (s : List UInt8) (y : Nat) : List Int := ((s.drop (20 * y)).take 20).map letNo
def picP (s : List UInt8) (k : Nat) : List (List Int) := (List.range k).map (rowP s)
def rdOk (s : List UInt8) : Bool := decide (s.length = 480) && picOk (picP s 24)
/-- Rows of letters, each with a line's end behind it. -/
def joinL (t : List UInt8) : Nat → List UInt8
  | 0 => []
  | k + 1 => joinL t k ++ ((t.drop (20 * k)).take 20 ++ [10])
/-- The letters without the lines' ends. -/
def allL (s : List UInt8) : Nat → List UInt8
  | 0 => []
  | k + 1 => allL s k ++ (s.drop (21 * k)).take 20
theorem letU_no (b : UInt8) (h : 0 ≤ letNo b) : letU (letNo b) = b ∧ digB b = false ∧ b ≠ 10 ∧ letNo b ≤ 9 := by
  unfold letNo at *
  repeat' split at h
  all_goals first | (exfalso; omega) | (subst_vars; decide)
theorem picP_at (s : List UInt8) {k y : Nat} (h : y < k) : (picP s k)[y]? = some (rowP s y) := by simp [picP, h]
theorem picP_len (s : List UInt8) (k : Nat) : (picP s k).length = k := by simp [picP]
theorem rowP_at (s : List UInt8) {y x : Nat} {b : UInt8} (hx : x < 20) (h : s[20 * y + x]? = some b) : (rowP s y)[x]? = some (letNo b) := by
  simp [rowP, List.getElem?_drop, hx, h]
theorem rowP_len (s : List UInt8) {y : Nat} (hs : s.length = 480) (hy : y < 24) : (rowP s y).length = 20 := by simp [rowP]; omega
/-- A text that is read well holds letters alone. -/
theorem rd_let {s : List UInt8} (h : rdOk s = true) : s.length = 480 ∧ ∀ b ∈ s, 0 ≤ letNo b := by
  simp only [rdOk, Bool.and_eq_true, decide_eq_true_eq] at h
  refine ⟨h.1, fun b hb => ?_⟩
  obtain ⟨i, hi, rfl⟩ := List.getElem_of_mem hb
  have h1 := picP_at s (show i / 20 < 24 by omega)
  have h2 := picOk_row h.2 h1
  have h3 := rowP_at s (y := i / 20) (x := i % 20) (b := s[i]) (by omega) (by rw [show 20 * (i / 20) + i % 20 = i by omega]; exact List.getElem?_eq_getElem hi)
  exact (cellG_bd (rowG_cell h2 h3)).1
theorem rd_no {s : List UInt8} {i : Nat} {b : UInt8} (hi : s[i]? = some b) (hb : letNo b < 0) : rdOk s = false := by
  cases h : rdOk s
  · rfl
  · have := (rd_let h).2 b (List.mem_of_getElem? hi)
    omega
theorem rd_len {s : List UInt8} (h : ¬ s.length = 480) : rdOk s = false := by simp [rdOk, h]
theorem rd_pic {s : List UInt8} (h : s.length = 480) : rdOk s = picOk (picP s 24) := by simp [rdOk, h]
theorem rd_plain {s : List UInt8} (h : rdOk s = true) : plainB s = true ∧ s.length = 480 := by
  obtain ⟨h1, h2⟩ := rd_let h
  refine ⟨List.all_eq_true.2 fun b hb => ?_, h1⟩
  rw [(letU_no b (h2 b hb)).2.1]; rfl
theorem rowT_P {s : List UInt8} (h : rdOk s = true) {y : Nat} (hy : y < 24) : rowT letC y (rowP s y) 20 = (s.drop (20 * y)).take 20 := by
  obtain ⟨hl, hb⟩ := rd_let h
  apply List.ext_getElem?
  intro x
  by_cases hx : x < 20
  · have hi : 20 * y + x < s.length := by omega
    have h1 := rowP_at s (y := y) hx (List.getElem?_eq_getElem hi)
    simp only [rowT, List.getElem?_map, List.getElem?_range hx, Option.map_some, List.getD_eq_getElem?_getD, h1, Option.getD_some, List.getElem?_take, hx, if_true, List.getElem?_drop, List.getElem?_eq_getElem hi, letC]
    rw [(letU_no _ (hb _ (List.getElem_mem hi))).1]
  · rw [List.getElem?_eq_none (by rw [rowT_len]; omega), List.getElem?_eq_none (by simp; omega)]
theorem textT_P {s : List UInt8} (h : rdOk s = true) : ∀ k, k ≤ 24 → textT letC [10] (picP s 24) k = joinL s k
  | 0, _ => rfl
  | k + 1, hk => by
    rw [textT_snoc (picP_at s (by omega)), rowT_P h (by omega), textT_P h k (by omega)]
    rfl
theorem joinL_len (t : List UInt8) (ht : t.length = 480) : ∀ k, k ≤ 24 → (joinL t k).length = 21 * k
  | 0, _ => rfl
  | k + 1, hk => by
    rw [joinL, List.length_append, joinL_len t ht k (by omega)]
    simp; omega
theorem filter_join {t : List UInt8} (ht : ∀ b ∈ t, b ≠ 10) (hl : t.length = 480) : ∀ k, k ≤ 24 → (joinL t k).filter (fun b => b != 10) = t.take (20 * k)
  | 0, _ => by simp [joinL]
  | k + 1, hk => by
    rw [joinL, List.filter_append, filter_join ht hl k (by omega), List.filter_append]
    have h1 : ((t.drop (20 * k)).take 20).filter (fun b => b != 10) = (t.drop (20 * k)).take 20 := by
      rw [List.filter_eq_self]
      intro b hb
      have := ht b (List.mem_of_mem_drop (List.mem_of_mem_take hb))
      simpa using this
    rw [h1, show List.filter (fun b : UInt8 => b != 10) [10] = [] from rfl, List.append_nil, show 20 * (k + 1) = 20 * k + 20 by omega, List.take_add]
/-- The rows of a text whose lines end well. -/
theorem join_all {s : List UInt8} (hs : s.length = 504) : ∀ k, k ≤ 24 → (∀ y, y < k → s[21 * y + 20]? = some 10) → ∀ t, allL s k <+: t → joinL t k = s.take (21 * k)
  | 0, _, _, t, _ => by simp [joinL]
  | k + 1, hk, h, t, ht => by
    have hla : ∀ m, m ≤ 24 → (allL s m).length = 20 * m := by
      intro m
      induction m with
      | zero => intro _; rfl
      | succ m ih => intro hm; rw [allL, List.length_append, ih (by omega)]; simp; omega
    obtain ⟨r, rfl⟩ := ht
    have e1 := join_all hs k (by omega) (fun y hy => h y (by omega)) (allL s (k + 1) ++ r) ⟨(s.drop (21 * k)).take 20 ++ r, by rw [allL, List.append_assoc]⟩
    rw [joinL, e1]
    have e2 : ((allL s (k + 1) ++ r).drop (20 * k)).take 20 = (s.drop (21 * k)).take 20 := by
      rw [allL, List.append_assoc, List.drop_left' (hla k (by omega)), List.take_left' (by simp; omega)]
    rw [e2]
    have e3 : s.take (21 * (k + 1)) = s.take (21 * k) ++ (s.drop (21 * k)).take 21 := by rw [show 21 * (k + 1) = 21 * k + 21 by omega, List.take_add]
    rw [e3]
    congr 1
    have e4 := h k (by omega)
    have e5 : ∀ l : List UInt8, l.take 21 = l.take 20 ++ l[20]?.toList := fun l => List.take_add_one
    rw [e5, List.getElem?_drop, e4]
    rfl
theorem all_join {t : List UInt8} (ht : t.length = 480) : ∀ k, k ≤ 24 → ∀ r, allL (joinL t k ++ r) k = t.take (20 * k) ∧ ∀ y, y < k → (joinL t k ++ r)[21 * y + 20]? = some 10
  | 0, _, r => ⟨by simp [allL], fun y hy => by omega⟩
  | k + 1, hk, r => by
    have hl := joinL_len t ht k (by omega)
    rw [joinL, List.append_assoc]
    obtain ⟨h1, h2⟩ := all_join ht k (by omega) (((t.drop (20 * k)).take 20 ++ [10]) ++ r)
    constructor
    · rw [allL, h1, List.drop_left' hl, List.append_assoc, List.take_left' (by simp; omega), show 20 * (k + 1) = 20 * k + 20 by omega, List.take_add]
    · intro y hy
      by_cases hy2 : y < k
      · exact h2 y hy2
      · obtain rfl : y = k := by omega
        rw [List.getElem?_append_right (by omega), hl, List.append_assoc, List.getElem?_append_right (by simp; omega)]
        have : 21 * y + 20 - 21 * y - ((t.drop (20 * y)).take 20).length = 0 := by simp; omega
        rw [this]; rfl
/-- What both sides read of lines of letters. -/
def linesOk (s : List UInt8) : Bool := decide (s.length = 504) && ((List.range 24).all fun y => s[21 * y + 20]? == some 10) && rdOk (allL s 24)
theorem lines_same {s : List UInt8} (hs : s.length = 504) :
    (rdOk (s.filter (fun b => b != 10)) = true ∧ textT letC [10] (picP (s.filter (fun b => b != 10)) 24) 24 = s) ↔ linesOk s = true := by
  unfold linesOk
  simp only [hs, decide_true, Bool.true_and, Bool.and_eq_true, List.all_eq_true, List.mem_range, beq_iff_eq]
  constructor
  · rintro ⟨h1, h2⟩
    rw [textT_P h1 24 (Nat.le_refl _)] at h2
    obtain ⟨hl, hb⟩ := rd_let h1
    obtain ⟨e1, e2⟩ := all_join hl 24 (Nat.le_refl _) []
    rw [List.append_nil, h2] at e1 e2
    rw [List.take_of_length_le (by omega)] at e1
    exact ⟨e2, by rw [e1]; exact h1⟩
  · rintro ⟨h1, h2⟩
    obtain ⟨hl, hb⟩ := rd_let h2
    have e := join_all hs 24 (Nat.le_refl _) (fun y hy => h1 y hy) (allL s 24) ⟨[], by simp⟩
    rw [List.take_of_length_le (by omega)] at e
    have e2 := filter_join (fun b hb' => (letU_no b (hb b hb')).2.2.1) hl 24 (Nat.le_refl _)
    rw [e, List.take_of_length_le (by omega)] at e2
    rw [e2]
    exact ⟨h2, by rw [textT_P h2 24 (Nat.le_refl _), e]⟩
theorem lines_filter {s : List UInt8} (h : linesOk s = true) : s.filter (fun b => b != 10) = allL s 24 := by
  unfold linesOk at h
  simp only [Bool.and_eq_true, decide_eq_true_eq, List.all_eq_true, List.mem_range, beq_iff_eq] at h
  obtain ⟨⟨hs, h1⟩, h2⟩ := h
  obtain ⟨hl, hb⟩ := rd_let h2
  have e := join_all hs 24 (Nat.le_refl _) (fun y hy => h1 y hy) (allL s 24) ⟨[], by simp⟩
  rw [List.take_of_length_le (by omega)] at e
  have e2 := filter_join (fun b hb' => (letU_no b (hb b hb')).2.2.1) hl 24 (Nat.le_refl _)
  rw [e, List.take_of_length_le (by omega)] at e2
  exact e2
end Go.Proofs.YtenaadmifppphaaGreatDoor
