/- Texts that mark, to the letter. -/
import Derived.Test.YtlonnkmfjijddaaGreatDoorHead
import Derived.Test.YtlonnkmfjijddaaGreatDoorMem2
namespace Go.Proofs.YtlonnkmfjijddaaGreatDoor
open Go.ChangeShapes Go.WideShapes Go.ChangeAt Go.RowKit
set_option linter.unusedVariables false
set_option linter.unusedSimpArgs false
theorem conv1X (w : World) (b : Nat) (z : Int) (hc : w.cell? ⟨b, 0, none⟩ = some (.int .u8 z)) (hz : 0 ≤ z ∧ z ≤ 255) : (convert 86 9 (.slice (some ⟨b, 0, none⟩) 1 1)).run Tryz.prog w = .ok (.string ⟨[UInt8.ofNat z.toNat].toArray⟩) w := by
  have hu8 : Tryz.prog.underlying 5 = some (.int .u8) := by kernel_rfl
  have hst : Tryz.prog.underlying 9 = some .string := by kernel_rfl
  exact run_convert_bytes_back (P := Tryz.prog) w 86 9 5 ⟨b, 0, none⟩ 1 [UInt8.ofNat z.toNat] Tryz.underlying86 hu8 hst (fun j hj => by
    simp at hj
    subst hj
    rw [Addr.add, if_pos rfl, hc]
    simp
    omega)
/-- The digits of a number, as a text. -/
def dgX (n : Nat) : ByteArray := if h : n = 0 then ⟨#[]⟩ else dgX (n / 10) ++ ⟨[UInt8.ofNat (48 + (n : Int) % 10).toNat].toArray⟩
termination_by n
decreasing_by omega
theorem dgX_zero : dgX 0 = ⟨#[]⟩ := by rw [dgX]; rfl
theorem dgX_step {n : Nat} (h : n ≠ 0) : dgX n = dgX (n / 10) ++ ⟨[UInt8.ofNat (48 + (n : Int) % 10).toNat].toArray⟩ := by
  rw [dgX]
  simp [h]
theorem bytes_assocX (a b c : ByteArray) : a ++ b ++ c = a ++ (b ++ c) := by
  apply ByteArray.ext
  simp [ByteArray.data_append, Array.append_assoc]
theorem bytes_nilX (a : ByteArray) : (⟨#[]⟩ : ByteArray) ++ a = a := by
  apply ByteArray.ext
  simp [ByteArray.data_append]
theorem bytes_endX (a : ByteArray) : a ++ (⟨#[]⟩ : ByteArray) = a := by
  apply ByteArray.ext
  simp [ByteArray.data_append]
/-- The text that marks. -/
def mtX (k : Int) : ByteArray := (⟨#[109]⟩ : ByteArray) ++ dgX k.toNat
set_option maxHeartbeats 1000000 in
set_option maxRecDepth 20000 in
theorem markTextX (k : Int) (w : World) (h0 : 1 ≤ k) (h1 : k ≤ 1099511627776) : Calls Tryz.prog 27 #[.int .i64 k] w fun e w' => e = .returned (.string (mtX k)) ∧ Below w.heap.size w w' := by
  have hk : ¬ k ≤ 0 := by omega
  unfold mtX
  obtain ⟨D, hD⟩ : ∃ D, D = dgX k.toNat := ⟨_, rfl⟩
  rw [← hD]
  have hst : dgX k.toNat ++ (⟨#[]⟩ : ByteArray) = D := by rw [hD, bytes_endX]
  clear hD
  go_enter Tryz.func27, Tryz.ntmps27
  go_wp2_with fail
  clear hk
  go_loopw [0, 3] (fun z s wr => ∃ (q : Nat) (t : ByteArray), z = .int .i64 q ∧ s = .string t ∧ (t.size : Int) + q ≤ k ∧ dgX q ++ t = D ∧ Below w.heap.size w wr) (fun z _ _ => (intOf z).toNat)
  case atStart => exact ⟨k.toNat, ⟨#[]⟩, by rw [show ((k.toNat : Nat) : Int) = k from by omega], rfl, by simp [ByteArray.size]; omega, hst, Below.refl _ _⟩
  case round =>
    obtain ⟨q, t, rfl, rfl, ht, hdg, hb⟩ := hrel
    by_cases hp : 0 < q
    · have hm0 := Int.emod_nonneg (q : Int) (show (10 : Int) ≠ 0 by decide)
      have hm1 := Int.emod_lt_of_pos (q : Int) (show (0 : Int) < 10 by decide)
      have d0 : (0 : Int) < (q : Int) := by omega
      have d1 : decide (0 < (q : Int)) = true := by simpa using d0
      have d2 : decide (0 < q) = true := by simpa using hp
      rw [dgX_step (by omega)] at hdg
      obtain ⟨t1, ht1⟩ : ∃ t1 : ByteArray, t1 = ⟨[UInt8.ofNat (48 + (q : Int) % 10).toNat].toArray⟩ := ⟨_, rfl⟩
      rw [← ht1] at hdg
      have hcv := conv1X (wr.alloc (.cells #[.int .u8 (48 + (q : Int) % 10)] 5)) wr.heap.size (48 + (q : Int) % 10) (cell_of (heap_hit _ _ _ rfl) 0) (by omega)
      rw [← ht1] at hcv
      have hs1 : t1.size = 1 := by rw [ht1]; rfl
      have hdv : (q : Int) / 10 + 1 ≤ (q : Int) := by omega
      have hd0 : (0 : Int) ≤ (q : Int) / 10 := by omega
      rw [bytes_assocX] at hdg
      have HDG := Lib.hid hdg
      clear ht1 hdg
      go_wp2
      go_roundw
      case rel => exact ⟨q / 10, t1 ++ t, by rw [show ((q / 10 : Nat) : Int) = (q : Int) / 10 from by omega], rfl, by rw [ByteArray.size_append]; omega, HDG.out, Below_al hb _⟩
      case measure => simp [intOf]; omega
    · obtain rfl : q = 0 := by omega
      rw [dgX_zero, bytes_nilX] at hdg
      subst hdg
      go_wp2
      go_ret
      exact ⟨rfl, by (repeat (first | exact Below.refl _ _ | assumption | refine Below_al ?_ _ | refine Below.drew ?_ | refine Below_then ?_ (by assumption) | refine Below.setCell ?_ (by first | omega | (simp; done) | (simp; omega)) _))⟩
end Go.Proofs.YtlonnkmfjijddaaGreatDoor
