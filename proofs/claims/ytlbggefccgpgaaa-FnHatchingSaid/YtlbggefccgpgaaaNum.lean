/- Contracts: the text of a number, of the reference. -/
import Derived.Test.YtlbggefccgpgaaaHead
import Derived.Lib.ItoaNum
namespace Go.Proofs.Ytlbggefccgpgaaa
open Go.ChangeShapes Go.WideShapes Go.ChangeAt Go.RowKit
set_option linter.unusedVariables false
set_option linter.unusedSimpArgs false
theorem decD_le (n : Nat) : (Lib.decDigits n).length ≤ n + 1 := by
  induction n using Nat.strongRecOn with
  | _ n ih =>
    rw [Lib.decDigits]
    split
    · simp
    · have := ih (n / 10) (by omega)
      simp
      omega
theorem decD_step {n : Nat} (h : ¬ n < 10) : Lib.decDigits n = Lib.decDigits (n / 10) ++ [UInt8.ofNat (48 + n % 10)] := by
  rw [Lib.decDigits, dif_neg h]
def nText (n : Nat) : ByteArray := ⟨(Lib.decDigits n).toArray⟩
theorem nText_size (n : Nat) : (nText n).size ≤ n + 1 := by
  have := decD_le n
  simpa [nText, ByteArray.size] using this
theorem nText_step {n : Nat} (h : ¬ n < 10) (d : UInt8) (hd : d = UInt8.ofNat (48 + n % 10)) : nText n = nText (n / 10) ++ ⟨#[d]⟩ := by
  subst hd
  unfold nText
  rw [decD_step h]
  apply ByteArray.ext
  simp [ByteArray.data_append]
end Go.Proofs.Ytlbggefccgpgaaa
