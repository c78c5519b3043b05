/- Contracts: LetterText, both sides. -/
import Derived.Test.YtenaadmifppphaaGreatDoorLetters
namespace Go.Proofs.YtenaadmifppphaaGreatDoor
open Go.ChangeShapes Go.WideShapes Go.ChangeAt Go.RowKit
set_option linter.unusedVariables false
def letterT (rows : List (List Int)) : List UInt8 := bif picOk rows then textT letC [10] rows 24 else []
set_option maxHeartbeats 1000000 in
theorem LetterText_any (A : Option Addr) (c : Nat) (rows : List (List Int)) (w : World) (h : RdG w A rows) (hs : Small rows) :
    Calls Tryz.prog 6 #[.slice A rows.length c] w fun e w' => e = .returned (.tuple #[.string ⟨(letterT rows).toArray⟩, .bool (picOk rows)]) ∧ Below w.heap.size w w' := by
  have K := fun w' (hb : Below w.heap.size w w') => IsValidPicture_any A c rows w' (h.below hb) hs
  by_cases hok : picOk rows = true
  · have hl := picOk_24 hok
    have hz : letterT rows = textT letC [10] rows 24 := by simp [letterT, hok]
    have L := fun w' (hb : Below w.heap.size w w') => lettersOf_nl A c rows w' (h.below hb) hok
    rw [hok] at K
    rw [hok, hz]
    rw [hl] at K ⊢
    generalize textT letC [10] rows 24 = t at *
    have K' := Lib.hid K
    have L' := Lib.hid L
    clear K hok hl hs hz h L
    go_enter Tryz.func6, Tryz.ntmps6
    go_wp2_with (first | (go_at_call 10; refine (K'.out _ (Below.refl _ _)).mono ?_; rintro e w1 ⟨rfl, hb1⟩) | fail)
    refine (L'.out _ hb1).mono ?_
    rintro e w2 ⟨rfl, hb2⟩
    go_wp2
    go_ret2
    exact ⟨rfl, by (repeat (first | exact Below.refl _ _ | assumption | refine Below_al ?_ _ | refine Below.drew ?_ | refine Below_then ?_ (by assumption) | refine Below.setCell ?_ (by first | omega | (simp; done) | (simp; omega)) _))⟩
  · have hok' : picOk rows = false := by simpa using hok
    have hz : letterT rows = [] := by simp [letterT, hok']
    rw [hok'] at K
    rw [hok', hz]
    have K' := Lib.hid K
    clear K hok hok' hs hz h
    go_enter Tryz.func6, Tryz.ntmps6
    go_wp2_with (first | (go_at_call 10; refine (K'.out _ (Below.refl _ _)).mono ?_; rintro e w1 ⟨rfl, hb1⟩) | fail)
    go_ret2
    exact ⟨rfl, by (repeat (first | exact Below.refl _ _ | assumption | refine Below_al ?_ _ | refine Below.drew ?_ | refine Below_then ?_ (by assumption) | refine Below.setCell ?_ (by first | omega | (simp; done) | (simp; omega)) _))⟩
theorem str_cat (a t b : List UInt8) (i n : Nat) : ((⟨a.toArray⟩ : ByteArray) ++ (⟨t.toArray⟩ : ByteArray).extract i (i + n) ++ ⟨b.toArray⟩) = ⟨(a ++ ((t.drop i).take n) ++ b).toArray⟩ := by
  apply ByteArray.ext
  simp [ByteArray.data_append, ByteArray.data_extract, List.extract_eq_take_drop]
theorem textT_cut (f : Nat → Nat → Int → UInt8) (rows : List (List Int)) (k n : Nat) (h : k < n) (row : List Int) (hr : rows[k]? = some row) : ((textT f [] rows n).drop (20 * k)).take 20 = rowT f k row 20 := by
  induction n with
  | zero => omega
  | succ n ih =>
    have hl := textT_len f [] rows n
    simp at hl
    rw [textT, List.append_nil]
    by_cases e : k = n
    · subst e
      rw [List.drop_append_of_le_length (by omega), List.drop_of_length_le (by omega), List.nil_append, List.getD_eq_getElem?_getD, hr]
      rw [List.take_of_length_le (by simp [rowT_len])]
      rfl
    · rw [List.drop_append_of_le_length (by omega), List.take_append_of_le_length (by simp; omega)]
      exact ih (by omega)
set_option maxHeartbeats 1000000 in
theorem specLetterText_any (A : Option Addr) (c : Nat) (rows : List (List Int)) (w : World) (h : RdG w A rows) (hs : Small rows) :
    Calls Tryz.prog 8 #[.slice A rows.length c] w fun e w' => e = .returned (.tuple #[.string ⟨(letterT rows).toArray⟩, .bool (picOk rows)]) ∧ Below w.heap.size w w' := by
  have K := fun w' (hb : Below w.heap.size w w') => l13Good_any A c rows w' (h.below hb) hs
  by_cases hok : picOk rows = true
  · have hl := picOk_24 hok
    have hz : letterT rows = textT letC [10] rows 24 := by simp [letterT, hok]
    have L := fun w' (hb : Below w.heap.size w w') => l13Text_any A c rows w' (h.below hb) hok
    rw [hok] at K
    rw [hok, hz]
    rw [hl] at K ⊢
    obtain ⟨t, ht⟩ : ∃ t, t = textT letC [] rows 24 := ⟨_, rfl⟩
    have htl : t.length = 480 := by rw [ht, textT_len]; rfl
    rw [← ht] at L
    have HT := Lib.hid ht
    have K' := Lib.hid K
    have L' := Lib.hid L
    have HTL := Lib.hid htl
    clear K hok hs hz h L ht htl
    go_enter Tryz.func8, Tryz.ntmps8
    go_wp2_with (first | (go_at_call 21; refine (K'.out _ (Below.refl _ _)).mono ?_; rintro e w1 ⟨rfl, hb1⟩) | fail)
    refine (L'.out _ hb1).mono ?_
    rintro e w2 ⟨rfl, hb2⟩
    go_wp2_with fail
    go_loop [5, 6] (fun s i => ∃ k : Nat, k ≤ 24 ∧ i = .int .i64 k ∧ s = .string ⟨(textT letC [10] rows k).toArray⟩) (fun _ i => 24 - (intOf i).toNat)
    case atStart => exact ⟨0, by omega, rfl, rfl⟩
    case round =>
      obtain ⟨k, hk, rfl, rfl⟩ := hrel
      by_cases hlt : k < 24
      · have hd : decide ((k : Int) < 24) = true := by simp; omega
        have h480 := HTL.out
        have f0 : t.length ≤ 480 := by omega
        have f1 : 20 * (k : Int) + 20 ≤ (t.length : Int) := by omega
        have hln := textT_len letC [10] rows k
        have f2 : (textT letC [10] rows k).length ≤ 504 := by rw [hln]; simp; omega
        clear h480 hln
        go_wp2_with fail
        go_round
        case rel =>
          obtain ⟨row, hrow⟩ := row_at (rows := rows) (k := k) (by omega)
          refine ⟨k + 1, by omega, by go_num, ?_⟩
          have h1 := str_cat (textT letC [10] rows k) t [10] (20 * k) 20
          rw [HT.out, textT_cut letC rows k 24 hlt row hrow, ← HT.out] at h1
          rw [textT_snoc hrow, ← List.append_assoc, ← h1]
        case measure => simp [intOf]; omega
      · obtain rfl : k = 24 := by omega
        go_wp2
        go_ret2
        exact ⟨rfl, by (repeat (first | exact Below.refl _ _ | assumption | refine Below_al ?_ _ | refine Below.drew ?_ | refine Below_then ?_ (by assumption) | refine Below.setCell ?_ (by first | omega | (simp; done) | (simp; omega)) _))⟩
  · have hok' : picOk rows = false := by simpa using hok
    have hz : letterT rows = [] := by simp [letterT, hok']
    rw [hok'] at K
    rw [hok', hz]
    have K' := Lib.hid K
    clear K hok hok' hs hz h
    go_enter Tryz.func8, Tryz.ntmps8
    go_wp2_with (first | (go_at_call 21; refine (K'.out _ (Below.refl _ _)).mono ?_; rintro e w1 ⟨rfl, hb1⟩) | fail)
    go_ret2
    exact ⟨rfl, by (repeat (first | exact Below.refl _ _ | assumption | refine Below_al ?_ _ | refine Below.drew ?_ | refine Below_then ?_ (by assumption) | refine Below.setCell ?_ (by first | omega | (simp; done) | (simp; omega)) _))⟩
end Go.Proofs.YtenaadmifppphaaGreatDoor
