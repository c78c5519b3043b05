/- Contracts: the number of a text, of the reference. -/
import Derived.Test.YtenaadmifppphaaGreatDoorNum
import Derived.Test.YtenaadmifppphaaGreatDoorFeatP
namespace Go.Proofs.YtenaadmifppphaaGreatDoor
open Go.ChangeShapes Go.WideShapes Go.ChangeAt Go.RowKit
set_option linter.unusedVariables false
set_option linter.unusedSimpArgs false
def digB (b : UInt8) : Bool := decide (48 ≤ b.toNat ∧ b.toNat ≤ 57)
def digs (l : List UInt8) : Bool := l.all digB
def valD (l : List UInt8) : Nat := l.foldl (fun a b => 10 * a + (b.toNat - 48)) 0
theorem valD_snoc (l : List UInt8) (b : UInt8) : valD (l ++ [b]) = 10 * valD l + (b.toNat - 48) := by simp [valD]
theorem digs_cons (b : UInt8) (l : List UInt8) : digs (b :: l) = (digB b && digs l) := rfl
theorem valD_acc : ∀ (l : List UInt8) (a : Nat), digs l = true → l.foldl (fun a b => 10 * a + (b.toNat - 48)) a < (a + 1) * 10 ^ l.length
  | [], a, _ => by simp
  | b :: l, a, h => by
    rw [digs_cons, Bool.and_eq_true] at h
    have hb : 48 ≤ b.toNat ∧ b.toNat ≤ 57 := of_decide_eq_true h.1
    have := valD_acc l (10 * a + (b.toNat - 48)) h.2
    rw [List.foldl_cons, List.length_cons, Nat.pow_succ]
    refine Nat.lt_of_lt_of_le this ?_
    rw [show (a + 1) * (10 ^ l.length * 10) = (10 * a + 10) * 10 ^ l.length by rw [Nat.mul_comm (10 ^ l.length) 10, ← Nat.mul_assoc]; congr 1; omega]
    exact Nat.mul_le_mul_right _ (by omega)
theorem valD_lt (l : List UInt8) (h : digs l = true) : valD l < 10 ^ l.length := by
  have := valD_acc l 0 h
  simpa [valD] using this
theorem pow_le6 {n : Nat} (h : n ≤ 6) : 10 ^ n ≤ 1000000 := Nat.le_trans (Nat.pow_le_pow_right (by decide) h) (by decide)
/-- What the reference reads: whether all is well. -/
def readOk (t : ByteArray) : Bool := digs t.data.toList && ((nText (valD t.data.toList)).toList == t.toList)
def readN (t : ByteArray) : Nat := bif readOk t then valD t.data.toList else 0
theorem byte_take {t : ByteArray} {k : Nat} (hk : k < t.size) : t.data.toList.take (k + 1) = t.data.toList.take k ++ [t[k]'hk] := by
  have h1 : k < t.data.toList.length := by rw [Array.length_toList]; exact hk
  rw [List.take_succ_eq_append_getElem h1]
  rfl
theorem digs_take {l : List UInt8} (k : Nat) (h : digs l = true) : digs (l.take k) = true := by
  simp only [digs, List.all_eq_true] at *
  exact fun x hx => h x (List.mem_of_mem_take hx)
theorem digs_bad {t : ByteArray} {k : Nat} (hk : k < t.size) (h : digB (t[k]'hk) = false) : digs t.data.toList = false := by
  rw [Bool.eq_false_iff]
  intro h2
  have := List.all_eq_true.1 h2 (t[k]'hk) (by
    have : t[k]'hk = t.data.toList[k]'(by rw [Array.length_toList]; exact hk) := rfl
    rw [this]
    exact List.getElem_mem _)
  rw [h] at this
  cases this
set_option maxHeartbeats 4000000 in
theorem l1Read_pos (t : ByteArray) (h1 : 1 ≤ t.size) (h2 : t.size ≤ 6) (hneg : 1 < t.size → ((t[0]'(by omega)).toNat : Int) ≠ 45) (w : World) :
    Calls Tryz.prog 35 #[.string t] w fun e w' => e = .returned (.tuple #[.int .i64 (readN t : Nat), .bool (readOk t)]) ∧ Below w.heap.size w w' := by
  have hin : decide ((1 : Int) ≤ (t.size : Int) ∧ (t.size : Int) ≤ 6) = true := by rw [decide_eq_true_iff]; omega
  have HNEG := Lib.hid hneg
  have HIN := Lib.hid hin
  have i0 : (0 : Int) < (t.size : Int) := by omega
  have hlt0 : 0 < t.size := by omega
  clear hneg hin
  obtain ⟨z0, hz0⟩ : ∃ z : Int, ((t[0]'hlt0).toNat : Int) = z := ⟨_, rfl⟩
  have hgt : ((1 : Int) < (t.size : Int) ∧ ¬ z0 = 45) ∨ ¬ (1 : Int) < (t.size : Int) := by
    by_cases h : 1 < t.size
    · exact .inl ⟨by omega, by rw [← hz0]; exact HNEG.out h⟩
    · exact .inr (by omega)
  rcases hgt with ⟨g1, g2⟩ | g1
  all_goals
    go_enter Tryz.func35, Tryz.ntmps35
    go_wp2_with fail
    refine (l1In_any _ _ _ _).mono ?_
    rw [HIN.out]
    rintro e w1 ⟨rfl, rfl⟩
    go_wp2_with fail
    go_loopw [5, 6] (fun nn i wr => ∃ k : Nat, k ≤ t.size ∧ i = .int .i64 k ∧ nn = .int .i64 (valD (t.data.toList.take k) : Nat) ∧ digs (t.data.toList.take k) = true ∧ Below w.heap.size w wr) (fun _ i _ => t.size - (intOf i).toNat)
    case atStart => exact ⟨0, Nat.zero_le _, rfl, rfl, rfl, by (repeat (first | exact Below.refl _ _ | assumption | refine Below_al ?_ _ | refine Below.drew ?_ | refine Below_then ?_ (by assumption) | refine Below.setCell ?_ (by first | omega | (simp; done) | (simp; omega)) _))⟩
    case round =>
      obtain ⟨k, hk, rfl, rfl, hdg, hb⟩ := hrel
      have hv := valD_lt _ hdg
      have hl : (t.data.toList.take k).length = k := by rw [List.length_take, Array.length_toList]; exact Nat.min_eq_left hk
      rw [hl] at hv
      by_cases hlt : k < t.size
      · have i1 : (k : Int) < (t.size : Int) := by omega
        have d1 : decide (k < t.size) = true := by simpa using hlt
        have hbt := byte_take hlt
        obtain ⟨b, hb0⟩ : ∃ b, b = t[k]'hlt := ⟨_, rfl⟩
        have hv5 : valD (t.data.toList.take k) < 100000 := Nat.lt_of_lt_of_le hv (Nat.le_trans (Nat.pow_le_pow_right (by decide) (by omega : k ≤ 5)) (by decide))
        have hst := valD_snoc (t.data.toList.take k) b
        have hds : digs (t.data.toList.take k ++ [b]) = (digs (t.data.toList.take k) && digB b) := by simp [digs]
        rw [hb0, ← hbt, ← hb0] at hst hds
        rw [hdg, Bool.true_and] at hds
        obtain ⟨v, hvv⟩ : ∃ v, v = valD (t.data.toList.take k) := ⟨_, rfl⟩
        rw [← hvv] at hst hv5
        rw [← hvv]
        obtain ⟨z, hz⟩ : ∃ z : Int, ((t[k]'hlt).toNat : Int) = z := ⟨_, rfl⟩
        have hbz : (b.toNat : Int) = z := by rw [hb0]; exact hz
        have HST := Lib.hid hst
        have HDS := Lib.hid hds
        have HB := Lib.hid hb0
        have HBZ := Lib.hid hbz
        clear hst hds hbt hb0 hvv hdg hv hl hbz
        by_cases hd : 48 ≤ z ∧ z ≤ 57
        · have g1 : ¬ z < 48 := by omega
          have g2 : ¬ 57 < z := by omega
          have hu : IntKind.u8.wrap (z - 48) = z - 48 := by rw [IntKind.wrap_u8]; omega
          have hw1 : IntKind.i64.wrap (z - 48) = z - 48 := by rw [IntKind.wrap_i64]; omega
          have hw2 : IntKind.i64.wrap (10 * (v : Int)) = 10 * (v : Int) := by rw [IntKind.wrap_i64]; omega
          have hw3 : IntKind.i64.wrap (10 * (v : Int) + (z - 48)) = 10 * (v : Int) + (z - 48) := by rw [IntKind.wrap_i64]; omega
          have hE : 10 * (v : Int) + (z - 48) = ((valD (t.data.toList.take (k + 1)) : Nat) : Int) := by rw [HST.out]; have := HBZ.out; omega
          have hG : digs (t.data.toList.take (k + 1)) = true := by rw [HDS.out]; have := HBZ.out; simp [digB]; omega
          have HE := Lib.hid hE
          have HG := Lib.hid hG
          clear hE hG hd
          go_wp2
          go_roundw
          case rel => exact ⟨k + 1, by omega, by go_num, by rw [HE.out], HG.out, hb⟩
          case measure => simp [intOf]; omega
        · have hG : digs t.data.toList = false := digs_bad hlt (by rw [← HB.out]; have := HBZ.out; simp [digB]; omega)
          have hok : readOk t = false := by simp [readOk, hG]
          have hn : readN t = 0 := by simp [readN, hok]
          have HOK := Lib.hid hok
          have HNN := Lib.hid hn
          have g1 : z < 48 ∨ 57 < z := by omega
          clear hG hok hn hd
          rcases g1 with g1 | g1
          all_goals
            go_wp2
            go_ret2
            exact ⟨by rw [HOK.out, HNN.out]; rfl, hb⟩
      · obtain rfl : k = t.size := by omega
        have d1 : decide (t.size < t.size) = false := by simp
        rw [List.take_of_length_le (by rw [Array.length_toList]; exact Nat.le_refl _)] at hdg hv ⊢
        have hv6 : valD t.data.toList < 1000000 := Nat.lt_of_lt_of_le hv (pow_le6 h2)
        obtain ⟨v, hvv⟩ : ∃ v, v = valD t.data.toList := ⟨_, rfl⟩
        have hok : readOk t = ((nText v).toList == t.toList) := by rw [readOk, hdg, Bool.true_and, hvv]
        have hn : readN t = bif ((nText v).toList == t.toList) then v else 0 := by rw [readN, hok, hvv]
        rw [← hvv] at hv6 ⊢
        have HOK := Lib.hid hok
        have HNN := Lib.hid hn
        have KN := Lib.hid (l1Num_nat v hv6)
        clear hok hn hvv hdg hv hl
        cases hq : ((nText v).toList == t.toList)
        all_goals
          have HQ := Lib.hid hq
          clear hq
          go_wp2_with fail
          refine (KN.out _).mono ?_
          rintro e w2 ⟨rfl, hb2⟩
          have hq := HQ.out
          have hT := Below_then hb hb2
          clear hb2
          go_wp2
          go_ret2
          exact ⟨by rw [HOK.out, HNN.out, HQ.out]; rfl, hT⟩
theorem l1Num_neg (n : Nat) (h0 : 1 ≤ n) (hn : n ≤ 9) (w : World) : Calls Tryz.prog 41 #[.int .i64 (-(n : Int))] w fun e w' => ∃ u, e = .returned (.string u) ∧ Below w.heap.size w w' := by
  have K := Lib.hid (l1Num_small n (by omega))
  have g : -(n : Int) < 0 := by omega
  have hw : IntKind.i64.wrap (n : Int) = (n : Int) := by rw [IntKind.wrap_i64]; omega
  have hs := nText_size n
  go_enter Tryz.func41, Tryz.ntmps41
  go_wp2_with fail
  refine (K.out _).mono ?_
  rintro e w2 ⟨rfl, hb2⟩
  go_wp2
  go_ret
  exact ⟨_, rfl, by (repeat (first | exact Below.refl _ _ | assumption | refine Below_al ?_ _ | refine Below.drew ?_ | refine Below_then ?_ (by assumption) | refine Below.setCell ?_ (by first | omega | (simp; done) | (simp; omega)) _))⟩
set_option maxHeartbeats 4000000 in
theorem l1Read_neg (t : ByteArray) (h2 : t.size = 2) (hneg : ((t[0]'(by omega)).toNat : Int) = 45) (w : World) :
    Calls Tryz.prog 35 #[.string t] w fun e w' => ∃ (n : Int) (ok : Bool), e = .returned (.tuple #[.int .i64 n, .bool ok]) ∧ (ok = true → n < 0) ∧ Below w.heap.size w w' := by
  have hq0 : ((nText 0).toList == t.toList) = false := by
    rw [Bool.eq_false_iff]
    intro e
    have e := congrArg ByteArray.size (eqS_iff.1 e)
    rw [h2] at e
    have : (nText 0).size = 1 := by rw [nText, Lib.decDigits_one (by decide)]; rfl
    omega
  obtain ⟨t1, ht1⟩ : ∃ t1, t.extract 1 t.size = t1 := ⟨_, rfl⟩
  have hs1 : t1.size = 1 := by rw [← ht1, ByteArray.size_extract, h2]; rfl
  have i0 : (0 : Int) < (t.size : Int) := by omega
  have hlt0 : 0 < t.size := by omega
  have g1 : (1 : Int) < (t.size : Int) := by omega
  have g1' : (1 : Int) ≤ (t.size : Int) := by omega
  have hin : decide ((1 : Int) ≤ (t1.size : Int) ∧ (t1.size : Int) ≤ 6) = true := by rw [decide_eq_true_iff]; omega
  have HIN := Lib.hid hin
  have HQ0 := Lib.hid hq0
  have hz : ((t[0]'hlt0).toNat : Int) = 45 := hneg
  have l1 : (0 : Int) < (t1.size : Int) := by omega
  have l2 : 0 < t1.size := by omega
  have l3 : (t1.size : Int) < (t.size : Int) := by omega
  have HS := Lib.hid (show t1.size = 1 ∧ t.size = 2 from ⟨hs1, h2⟩)
  clear hs1 h2 hin hq0 hneg
  go_enter Tryz.func35, Tryz.ntmps35
  go_wp2_with fail
  refine (l1In_any _ _ _ _).mono ?_
  rw [HIN.out]
  rintro e w1 ⟨rfl, rfl⟩
  go_wp2_with fail
  go_loopw [5, 6] (fun nn i wr => ∃ k n : Nat, k ≤ t1.size ∧ i = .int .i64 k ∧ nn = .int .i64 n ∧ n ≤ 9 ∧ (k = 0 → n = 0) ∧ Below w.heap.size w wr) (fun _ i _ => t1.size - (intOf i).toNat)
  case atStart => exact ⟨0, 0, Nat.zero_le _, rfl, rfl, by omega, fun _ => rfl, by (repeat (first | exact Below.refl _ _ | assumption | refine Below_al ?_ _ | refine Below.drew ?_ | refine Below_then ?_ (by assumption) | refine Below.setCell ?_ (by first | omega | (simp; done) | (simp; omega)) _))⟩
  case round =>
    obtain ⟨k, n, hk, rfl, rfl, hn, hkn, hb⟩ := hrel
    by_cases hlt : k < t1.size
    · obtain rfl : k = 0 := by have := HS.out.1; omega
      obtain rfl := hkn rfl
      obtain ⟨z, hz⟩ : ∃ z : Int, ((t1[0]'l2).toNat : Int) = z := ⟨_, rfl⟩
      clear hkn hn hk hlt
      by_cases hd : 48 ≤ z ∧ z ≤ 57
      · have g1 : ¬ z < 48 := by omega
        have g2 : ¬ 57 < z := by omega
        have hu : IntKind.u8.wrap (z - 48) = z - 48 := by rw [IntKind.wrap_u8]; omega
        have hw1 : IntKind.i64.wrap (z - 48) = z - 48 := by rw [IntKind.wrap_i64]; omega
        have hE : z - 48 = ((z - 48).toNat : Int) := by omega
        have HE := Lib.hid hE
        have HL := Lib.hid (show (z - 48).toNat ≤ 9 by omega)
        clear hE hd
        go_wp2
        go_roundw
        case rel => exact ⟨1, (z - 48).toNat, by have := HS.out.1; omega, rfl, by first | rw [← HE.out] | (rw [← HE.out]; simp), HL.out, fun e => (by cases e), hb⟩
        case measure => have := HS.out.1; simp [intOf]; omega
      · have g1 : z < 48 ∨ 57 < z := by omega
        clear hd
        rcases g1 with g1 | g1
        all_goals
          go_wp2
          go_ret2
          exact ⟨0, false, rfl, fun e => (by cases e), hb⟩
    · obtain rfl : k = t1.size := by omega
      have d1 : decide (t1.size < t1.size) = false := by simp
      have hwn : IntKind.i64.wrap (-(n : Int)) = -(n : Int) := by rw [IntKind.wrap_i64]; omega
      clear hkn hk hlt
      by_cases h0 : n = 0
      · subst h0
        have K0 := Lib.hid (l1Num_small 0 (by decide))
        go_wp2_with fail
        refine (K0.out _).mono ?_
        rintro e w2 ⟨rfl, hb2⟩
        have hq := HQ0.out
        have hT := Below_then hb hb2
        clear hb2
        go_wp2
        go_ret2
        exact ⟨0, false, rfl, fun e => (by cases e), hT⟩
      · have KN := Lib.hid (l1Num_neg n (by omega) hn)
        have HN0 := Lib.hid h0
        clear h0
        go_wp2_with fail
        refine (KN.out _).mono ?_
        rintro e w2 ⟨u, rfl, hb2⟩
        have hT := Below_then hb hb2
        clear hb2
        cases hq : (u.toList == t.toList)
        all_goals
          go_wp2
          go_ret2
        · exact ⟨0, false, rfl, fun e => (by cases e), hT⟩
        · exact ⟨-(n : Int), true, rfl, fun _ => (by have := HN0.out; omega), hT⟩
end Go.Proofs.YtenaadmifppphaaGreatDoor
