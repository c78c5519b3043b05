/- Contracts: how many cells a region has. -/
import Derived.Test.YtlbggefccgpgaaaComb
import Derived.Test.YtlbggefccgpgaaaPop
import Derived.Test.YtlbggefccgpgaaaApp
namespace Go.Proofs.Ytlbggefccgpgaaa
open Go.ChangeShapes Go.WideShapes Go.ChangeAt Go.RowKit
set_option linter.unusedVariables false
/-- Cells in the first k rows. -/
def areaN (zs : List Int) : Nat → Nat
  | 0 => 0
  | k + 1 => areaN zs k + popF (zs.getD k 0).toNat 20
theorem areaN_le (zs : List Int) (k : Nat) : areaN zs k ≤ 20 * k := by
  induction k with
  | zero => exact Nat.le_refl _
  | succ k ih => rw [areaN]; have := popF_le (zs.getD k 0).toNat 20; omega
theorem areaN_step {zs : List Int} {k : Nat} {v : Int} (hv : zs[k]? = some v) : areaN zs (k + 1) = areaN zs k + popF v.toNat 20 := by
  rw [areaN, List.getD_eq_getElem?_getD, hv]; rfl
theorem hasB_bit {v : Int} (h0 : 0 ≤ v) (h1 : v ≤ 1048575) (j : Nat) : hasB v j = v.toNat.testBit j := by
  obtain ⟨n, rfl⟩ := Int.eq_ofNat_of_zero_le h0
  exact hasB_nat n j (by omega)
theorem wraps_u64 (n : Int) (h0 : 0 ≤ n) (h1 : n < 2 ^ 63) : IntKind.u64.wrap n = n := by
  have : (2 : Int) ^ 63 = 9223372036854775808 := by decide
  have e : IntKind.u64.wrap n = n % 18446744073709551616 := rfl
  rw [e]
  omega
theorem and_u64 (a b : Nat) (ha : a < 2 ^ 63) (hb : b < 2 ^ 63) : bits BinOp.and IntKind.u64 (a : Int) (b : Int) = ((a &&& b : Nat) : Int) :=
  (bits_nat .u64 63 (by decide) wraps_u64 a b ha hb).1
theorem wrapN_u64 (x : Nat) (h : x < 2 ^ 63) : IntKind.u64.wrap (x : Int) = (x : Int) := wraps_u64 _ (by omega) (by exact_mod_cast h)
theorem st1 (x : Nat) (h : x < 1048576) : IntKind.u64.wrap (bits BinOp.and IntKind.u64 ((x : Int) / 2) 6148914691236517205 + bits BinOp.and IntKind.u64 (x : Int) 6148914691236517205) = ((s1 x : Nat) : Int) ∧ s1 x < 2097152 := by
  have h1 := and_u64 (x / 2) 6148914691236517205 (by omega) (by decide)
  have h2 := and_u64 x 6148914691236517205 (by omega) (by decide)
  have b1 : x / 2 &&& 6148914691236517205 ≤ x / 2 := Nat.and_le_left
  have b2 : x &&& 6148914691236517205 ≤ x := Nat.and_le_left
  have h3 := wrapN_u64 (s1 x) (by unfold s1; omega)
  refine ⟨?_, by unfold s1; omega⟩
  unfold s1 at h3 ⊢
  rw [Int.natCast_add] at h3 ⊢
  rw [show ((x : Int) / 2) = ((x / 2 : Nat) : Int) from by simp]
  rw [show ((6148914691236517205 : Nat) : Int) = 6148914691236517205 from rfl] at h1 h2
  rw [h1, h2, h3]
theorem st2 (x : Nat) (h : x < 2097152) : IntKind.u64.wrap (bits BinOp.and IntKind.u64 ((x : Int) / 4) 3689348814741910323 + bits BinOp.and IntKind.u64 (x : Int) 3689348814741910323) = ((s2 x : Nat) : Int) ∧ s2 x < 4194304 := by
  have h1 := and_u64 (x / 4) 3689348814741910323 (by omega) (by decide)
  have h2 := and_u64 x 3689348814741910323 (by omega) (by decide)
  have b1 : x / 4 &&& 3689348814741910323 ≤ x / 4 := Nat.and_le_left
  have b2 : x &&& 3689348814741910323 ≤ x := Nat.and_le_left
  have h3 := wrapN_u64 (s2 x) (by unfold s2; omega)
  refine ⟨?_, by unfold s2; omega⟩
  unfold s2 at h3 ⊢
  rw [Int.natCast_add] at h3 ⊢
  rw [show ((x : Int) / 4) = ((x / 4 : Nat) : Int) from by simp]
  rw [show ((3689348814741910323 : Nat) : Int) = 3689348814741910323 from rfl] at h1 h2
  rw [h1, h2, h3]
theorem st3 (x : Nat) (h : x < 4194304) : bits BinOp.and IntKind.u64 (IntKind.u64.wrap ((x : Int) / 16 + (x : Int))) 1085102592571150095 = ((s3 x : Nat) : Int) ∧ s3 x < 8388608 := by
  have h1 := and_u64 (x / 16 + x) 1085102592571150095 (by omega) (by decide)
  have b1 : (x / 16 + x) &&& 1085102592571150095 ≤ x / 16 + x := Nat.and_le_left
  have h3 := wrapN_u64 (x / 16 + x) (by omega)
  refine ⟨?_, by unfold s3; omega⟩
  unfold s3
  rw [Int.natCast_add] at h3 h1
  rw [show ((x : Int) / 16) = ((x / 16 : Nat) : Int) from by simp, h3]
  rw [show ((1085102592571150095 : Nat) : Int) = 1085102592571150095 from rfl] at h1
  exact h1
theorem st4 (x : Nat) (h : x < 8388608) : IntKind.u64.wrap ((x : Int) + (x : Int) / 256) = ((s4 x : Nat) : Int) ∧ s4 x < 16777216 := by
  have h3 := wrapN_u64 (s4 x) (by unfold s4; omega)
  refine ⟨?_, by unfold s4; omega⟩
  rw [show ((x : Int) + (x : Int) / 256) = ((s4 x : Nat) : Int) from by unfold s4; simp, h3]
theorem st5 (x : Nat) (h : x < 16777216) : IntKind.u64.wrap ((x : Int) + (x : Int) / 65536) = ((s5 x : Nat) : Int) ∧ s5 x < 33554432 := by
  have h3 := wrapN_u64 (s5 x) (by unfold s5; omega)
  refine ⟨?_, by unfold s5; omega⟩
  rw [show ((x : Int) + (x : Int) / 65536) = ((s5 x : Nat) : Int) from by unfold s5; simp, h3]
theorem st6 (x : Nat) (h : x < 33554432) : IntKind.u64.wrap ((x : Int) + (x : Int) / 4294967296) = ((s6 x : Nat) : Int) ∧ s6 x < 67108864 := by
  have h3 := wrapN_u64 (s6 x) (by unfold s6; omega)
  refine ⟨?_, by unfold s6; omega⟩
  rw [show ((x : Int) + (x : Int) / 4294967296) = ((s6 x : Nat) : Int) from by unfold s6; simp, h3]
theorem st7 (x : Nat) (h : x < 67108864) : bits BinOp.and IntKind.i64 (wrap64 (x : Int)) 127 = ((x &&& 127 : Nat) : Int) := by
  have h2 : (2 : Int) ^ 63 = 9223372036854775808 := by decide
  rw [IntWalk.wrap64_in _ ⟨by omega, by omega⟩]
  exact (bits_nat .i64 63 (by decide) wraps_i64 x 127 (by omega) (by decide)).1
theorem OnesCount64_any (v : Nat) (h : v < 1048576) (w : World) :
    Calls Try.prog 49 #[.int .u64 (v : Int)] w fun e w' => e = .returned (.int .i64 (popF v 20 : Nat)) ∧ w = w' := by
  go_enter Try.func49, Try.ntmps49
  go_wp2
  go_ret
  refine ⟨?_, rfl⟩
  obtain ⟨e1, g1⟩ := st1 v h
  obtain ⟨e2, g2⟩ := st2 _ g1
  obtain ⟨e3, g3⟩ := st3 _ g2
  obtain ⟨e4, g4⟩ := st4 _ g3
  obtain ⟨e5, g5⟩ := st5 _ g4
  obtain ⟨e6, g6⟩ := st6 _ g5
  simp only [e1, e2, e3, e4, e5, e6]
  have e7 := st7 _ g6
  rw [ones_eq v h] at e7
  rw [← e7]
  rfl
theorem OnesCount_any (v : Nat) (h : v < 1048576) (w : World) :
    Calls Try.prog 41 #[.int .u64 (v : Int)] w fun e w' => e = .returned (.int .i64 (popF v 20 : Nat)) ∧ w = w' := by
  go_enter Try.func41, Try.ntmps41
  go_wp2_with (first | (go_at_call 49; refine (OnesCount64_any v h _).mono ?_; rintro e w' ⟨rfl, rfl⟩) | fail)
  go_ret
  exact ⟨rfl, rfl⟩
set_option maxHeartbeats 1000000 in
theorem area_any (A : Option Addr) (c : Nat) (zs : List Int) (w : World) (h : RdI w A zs) (hl : zs.length = 24) (hb : ∀ v ∈ zs, 0 ≤ v ∧ v ≤ 1048575) :
    Calls Try.prog 25 #[.agg #[.slice A 24 c]] w fun e w' => e = .returned (.int .i64 (areaN zs 24 : Nat)) ∧ Below w.heap.size w w' := by
  have HL := Lib.hid hl
  have HB := Lib.hid hb
  clear hl hb
  go_enter Try.func25, Try.ntmps25
  go_wp2_with fail
  go_loopw [3, 9] (fun s i wr => ∃ k : Nat, k ≤ 24 ∧ i = .int .i64 k ∧ s = .int .i64 (areaN zs k : Nat) ∧ Below w.heap.size w wr) (fun _ i _ => 24 - (intOf i).toNat)
  case atStart => exact ⟨0, by omega, rfl, rfl, by (repeat (first | exact Below.refl _ _ | assumption | refine Below_al ?_ _ | refine Below.drew ?_ | refine Below_then ?_ (by assumption) | refine Below.setCell ?_ (by first | omega | (simp; done) | (simp; omega)) _))⟩
  case round =>
    obtain ⟨k, hk, rfl, rfl, hr⟩ := hrel
    by_cases hlt : k < 24
    · have hd : decide ((k : Int) < 24) = true := by simp; omega
      have hd' : (k : Int) < 24 := by omega
      obtain ⟨v, hv⟩ : ∃ v, zs[k]? = some v := ⟨zs[k]'(by have := HL.out; omega), List.getElem?_eq_getElem _⟩
      obtain ⟨h0, h1⟩ := HB.out v (List.mem_of_getElem? hv)
      obtain ⟨n, rfl⟩ := Int.eq_ofNat_of_zero_le h0
      obtain ⟨b, off, rfl, hc1, -⟩ := (h.below hr).atv hv
      have ha := areaN_le zs k
      have hp := popF_le n 20
      have hs := areaN_step hv
      rw [Int.toNat_natCast] at hs
      have HS := Lib.hid hs
      have hn : n < 1048576 := by omega
      clear hv hs h1 h0
      generalize areaN zs k = p at *
      go_wp2_with (first | (go_at_call 41; refine (OnesCount_any n hn _).mono ?_; rintro e w' ⟨rfl, rfl⟩) | fail)
      go_roundw
      case rel => exact ⟨k + 1, by omega, by go_num, by rw [HS.out]; go_num, hr⟩
      case measure => simp [intOf]; omega
    · obtain rfl : k = 24 := by omega
      go_wp2
      go_ret
      exact ⟨rfl, hr⟩
def areaV (zs : List Int) : Int := bif regOk zs then ((areaN zs 24 : Nat) : Int) else 0
theorem regOk_bds {zs : List Int} (h : regOk zs = true) : ∀ v ∈ zs, 0 ≤ v ∧ v ≤ 1048575 := by
  intro v hv
  obtain ⟨i, hi⟩ := List.getElem?_of_mem hv
  exact rowS_bd (regOk_row h hi)
set_option maxHeartbeats 1000000 in
theorem AreaOf_any (A : Option Addr) (c : Nat) (zs : List Int) (w : World) (h : RdI w A zs) (hw : ∀ v ∈ zs, v < 2 ^ 63) :
    Calls Try.prog 10 #[.agg #[.slice A zs.length c]] w fun e w' => e = .returned (.tuple #[.int .i64 (areaV zs), .bool (regOk zs)]) ∧ Below w.heap.size w w' := by
  have H := fun w' (hr : Below w.heap.size w w') => IsValidRegion_any A c zs w' (h.below hr) hw
  by_cases hg : regOk zs = true
  · have hl := regOk_24 hg
    have H2 := fun w' (hr : Below w.heap.size w w') => area_any A c zs w' (h.below hr) hl (regOk_bds hg)
    have hv : areaV zs = ((areaN zs 24 : Nat) : Int) := by simp [areaV, hg]
    rw [hv, hg]
    rw [hg] at H
    rw [hl] at H ⊢
    have H' := Lib.hid H
    have H2' := Lib.hid H2
    clear H H2 hg hl hv hw h
    generalize areaN zs 24 = n at *
    go_enter Try.func10, Try.ntmps10
    go_wp2_with fail
    refine (H'.out _ (by (repeat (first | exact Below.refl _ _ | assumption | refine Below_al ?_ _ | refine Below.drew ?_ | refine Below_then ?_ (by assumption) | refine Below.setCell ?_ (by first | omega | (simp; done) | (simp; omega)) _)))).mono ?_
    rintro e w1 ⟨rfl, hb1⟩
    have c0 : w1.cell? ⟨w.heap.size, 0, none⟩ = some (.slice A 24 c) := cell_of (heap_keepB (heap_hit _ _ _ rfl) hb1) 0
    have hT : Below w.heap.size w w1 := Below_then (by (repeat (first | exact Below.refl _ _ | assumption | refine Below_al ?_ _ | refine Below.drew ?_ | refine Below_then ?_ (by assumption) | refine Below.setCell ?_ (by first | omega | (simp; done) | (simp; omega)) _))) hb1
    go_wp2_with fail
    refine (H2'.out _ hT).mono ?_
    rintro e w2 ⟨rfl, hb2⟩
    go_wp2
    go_ret2
    exact ⟨rfl, by (repeat (first | exact Below.refl _ _ | assumption | refine Below_al ?_ _ | refine Below.drew ?_ | refine Below_then ?_ (by assumption) | refine Below.setCell ?_ (by first | omega | (simp; done) | (simp; omega)) _))⟩
  · have hg' : regOk zs = false := by simpa using hg
    have hv : areaV zs = 0 := by simp [areaV, hg']
    rw [hv, hg']
    rw [hg'] at H
    have H' := Lib.hid H
    clear H hg hg' hv hw h
    go_enter Try.func10, Try.ntmps10
    go_wp2_with (first | (go_at_call 27; refine (H'.out _ (by (repeat (first | exact Below.refl _ _ | assumption | refine Below_al ?_ _ | refine Below.drew ?_ | refine Below_then ?_ (by assumption) | refine Below.setCell ?_ (by first | omega | (simp; done) | (simp; omega)) _)))).mono ?_; rintro e w1 ⟨rfl, hb1⟩) | fail)
    go_ret2
    exact ⟨rfl, by (repeat (first | exact Below.refl _ _ | assumption | refine Below_al ?_ _ | refine Below.drew ?_ | refine Below_then ?_ (by assumption) | refine Below.setCell ?_ (by first | omega | (simp; done) | (simp; omega)) _))⟩
end Go.Proofs.Ytlbggefccgpgaaa
