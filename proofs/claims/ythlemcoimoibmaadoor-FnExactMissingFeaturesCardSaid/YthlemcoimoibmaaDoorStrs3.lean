/- Contracts of the laws' own helpers on slices of texts handed in: copies, sizes, opening. -/
import Derived.Test.YthlemcoimoibmaaDoorStrs2
import Derived.Deep.Strs
namespace Go.Proofs.YthlemcoimoibmaaDoor
open Go.ChangeShapes Go.WideShapes Go.ChangeAt Go.RowKit Go.Deep
set_option linter.unusedVariables false
set_option linter.unusedSimpArgs false
set_option maxHeartbeats 1000000 in
theorem toStringS_any (A : Option Addr) (c : Nat) (zs : List ByteArray) (w : World) (h : RdS w A zs) (hx : zs.length ≤ 1048576) :
    Calls Tryd.prog 16 #[.slice A zs.length c] w fun e w' => ∃ g, e = .returned (.slice (some ⟨g, 0, none⟩) zs.length zs.length) ∧ OwnS w' w.heap.size 9 (.slice (some ⟨g, 0, none⟩) zs.length zs.length) zs ∧ Below w.heap.size w w' := by
  obtain ⟨i0, hi, hz0, hz1, hz2⟩ := info_parts info_str
  go_enter Tryd.func16, Tryd.ntmps16
  go_wp2_with (first | (at_make; refine wpList_make_full _ rfl _ _ 29 rfl w.heap.size 9 i0 _ 1 Tryd.underlying29 hi hz0 hz1 .i64 .i64 _ _ zs.length rfl rfl rfl rfl ?c1 ?c2 (Nat.le_refl _) ?_) | fail)
  case c1 => rw [hz2]; omega
  case c2 => unfold maxLen; omega
  intro w1 hown hgr
  rw [made_strs, ← copyS_zero] at hown
  have hown' : OwnS w1 w.heap.size 9 (.slice (some ⟨w.heap.size, 0, none⟩) zs.length zs.length) (copyS zs 0) := by
    unfold OwnS
    rw [copyS_len zs 0 (by omega)]
    exact hown
  have hb1 := below_of_none hgr
  clear hown hgr
  go_wp2_with fail
  go_loopw [4] (fun i wr => ∃ k : Nat, k ≤ zs.length ∧ i = .int .i64 k ∧ OwnS wr w.heap.size 9 (.slice (some ⟨w.heap.size, 0, none⟩) zs.length zs.length) (copyS zs k) ∧ Below w.heap.size w wr) (fun i _ => zs.length - (intOf i).toNat)
  case atStart => exact ⟨0, Nat.zero_le _, rfl, hown', hb1⟩
  case round =>
    obtain ⟨k, hk, rfl, hown, hb⟩ := hrel
    have hlen := copyS_len zs k hk
    by_cases hlt : k < zs.length
    · obtain ⟨b, off, rfl, hc1, hbl⟩ := (h.below hb).at_ hlt
      rw [← hlen] at hown
      have hc := hown.cellAt k (by omega)
      have hf := hown.frozenAt k
      obtain ⟨x, ex⟩ : ∃ x, x = (copyS zs k)[k]'(by omega) := ⟨_, rfl⟩
      rw [← ex] at hc
      have hset := hown.set k (zs[k])
      rw [copyS_set zs k hlt, hlen] at hset
      obtain ⟨y, ey⟩ : ∃ y, y = zs[k] := ⟨_, rfl⟩
      rw [← ey] at hset hc1
      have i1 : (k : Int) < (zs.length : Int) := by omega
      have d1 : decide (k < zs.length) = true := by simpa using hlt
      clear ex ey hown hlen
      go_wp2
      go_roundw
      case rel => exact ⟨k + 1, by omega, by go_num, hset, hb.setCell (Nat.le_refl _) _⟩
      case measure => simp [intOf]; omega
    · have hk' : k = zs.length := by omega
      have d1 : decide (k < zs.length) = false := by simpa using hlt
      subst hk'
      rw [copyS_all] at hown
      go_wp2
      go_ret
      exact ⟨_, rfl, hown, hb⟩
/-- What is left of a size. -/
def szS (zs : List ByteArray) (left : Int) : Int := if (zs.length : Int) + lens zs ≤ left then left - zs.length - lens zs else -1
set_option maxHeartbeats 1000000 in
theorem szStringS_any (A : Option Addr) (c : Nat) (zs : List ByteArray) (left : Int) (w : World) (h : RdS w A zs) (hl : 0 ≤ left ∧ left ≤ 1099511627776) (hm : zs.length ≤ maxLen) (hs : ∀ s ∈ zs, s.size ≤ maxLen) :
    Calls Tryd.prog 14 #[.slice A zs.length c, .int .i64 left] w fun e w' => e = .returned (.int .i64 (szS zs left)) ∧ Below w.heap.size w w' := by
  unfold maxLen at hm
  by_cases hn : (zs.length : Int) ≤ left
  · go_enter Tryd.func14, Tryd.ntmps14
    go_wp2_with fail
    go_loopw [1, 5] (fun l i wr => ∃ k : Nat, k ≤ zs.length ∧ i = .int .i64 k ∧ (zs.length : Int) + lens (zs.take k) ≤ left ∧ l = .int .i64 (left - zs.length - lens (zs.take k)) ∧ Below w.heap.size w wr) (fun _ i _ => zs.length - (intOf i).toNat)
    case atStart => exact ⟨0, Nat.zero_le _, rfl, by simpa [lens] using hn, by simp [lens], Below.refl _ _⟩
    case round =>
      obtain ⟨k, hk, rfl, hle, rfl, hb⟩ := hrel
      by_cases hlt : k < zs.length
      · obtain ⟨b, off, rfl, hc1, hbl⟩ := (h.below hb).at_ hlt
        have hlt2 := lens_take hlt
        have hmem := hs _ (List.getElem_mem hlt)
        have hle2 := lens_le zs (k + 1)
        obtain ⟨y, ey⟩ : ∃ y, y = zs[k] := ⟨_, rfl⟩
        rw [← ey] at hc1 hlt2 hmem
        obtain ⟨t, ht⟩ : ∃ t : Nat, t = lens (zs.take k) := ⟨_, rfl⟩
        rw [← ht] at hle hlt2 ⊢
        unfold maxLen at hmem
        have HT := Lib.hid hlt2
        have HL := Lib.hid hle2
        clear ey ht hlt2 hle2
        by_cases hgo : (zs.length : Int) + t + y.size ≤ left
        · have g1 : ¬ (left - (zs.length : Int) - (t : Int) - (y.size : Int) < 0) := by omega
          go_wp2
          go_roundw
          case rel =>
            have h2 := HT.out
            exact ⟨k + 1, by omega, by go_num, by rw [h2]; push_cast; omega, by rw [h2]; congr 1; push_cast; omega, hb⟩
          case measure => simp [intOf]; omega
        · have g1 : left - (zs.length : Int) - (t : Int) - (y.size : Int) < 0 := by omega
          go_wp2
          go_ret
          refine ⟨retI ?_, hb⟩
          have h2 := HT.out
          have h3 := HL.out
          unfold szS
          rw [if_neg (by omega)]
      · obtain rfl : k = zs.length := by omega
        rw [List.take_length] at hle ⊢
        have d1 : decide (zs.length < zs.length) = false := by simp
        go_wp2
        go_ret
        refine ⟨retI ?_, hb⟩
        unfold szS
        rw [if_pos hle]
  · go_enter Tryd.func14, Tryd.ntmps14
    have g1 : left - (zs.length : Int) < 0 := by omega
    go_wp2
    go_ret
    refine ⟨retI ?_, Below.refl _ _⟩
    unfold szS
    rw [if_neg (by omega)]
section
variable {H : Type} {enc : TypeId × Value → H} {w : World} {base : Nat} {spare : Nat → Bool} {held : Bool} {r : Reach} {b0 : Nat} {v : Value} {d : DataW H} {p : List MemPlace}
theorem cells_str1 : Tryd.prog.cellsOf 9 = 1 := by kernel_rfl
set_option maxRecDepth 20000 in
theorem openStrings (hv : Value.okWide Tryd.prog w r b0 29 v) (h : DataW.Trod enc Tryd.prog w base spare held 29 v d p) :
    ∃ (A : Option Addr) (c : Nat) (zs : List ByteArray), v = .slice A zs.length c ∧ RdS w A zs ∧ zs.length ≤ maxLen ∧ ∀ s ∈ zs, s.size ≤ maxLen := by
  obtain ⟨fuel, hf⟩ := h
  obtain ⟨A0, n0, c0, rfl⟩ := okWide_slice Tryd.underlying29 hv
  rcases open_strs Tryd.underlying29 Tryd.underlying9 cells_str1 hf with ⟨hcs, -⟩ | ⟨a, len, cap, m, Sx, hcs, -, hl, hm, hmm, -, hx⟩
  · simp [Value.cells] at hcs
    obtain ⟨rfl, rfl, rfl⟩ := hcs
    exact ⟨none, 0, [], rfl, RdS.nil _ _, by simp [maxLen], by simp⟩
  · simp [Value.cells] at hcs
    obtain ⟨rfl, rfl, rfl⟩ := hcs
    have hge : n0 ≤ m := by rw [hmm]; split <;> omega
    refine ⟨some a, c0, (List.range n0).map Sx, by simp, ?_, by simp; omega, fun s hs => ?_⟩
    · by_cases h0 : n0 = 0
      · subst h0
        exact .inl rfl
      · have hsp : a.spot = none := by
          have h1 := (hx 0 (by omega)).1
          rw [Addr.add, if_pos rfl] at h1
          simp only [World.cell?] at h1
          split at h1
          · split at h1
            · cases h1
            · next hh => simpa using hh
          · cases h1
        obtain ⟨b, off, sp⟩ := a
        simp at hsp
        subst hsp
        refine .inr ⟨b, off, rfl, fun i hi => ?_⟩
        have hi' : i < n0 := by simpa [sv] using hi
        have h1 := (hx i (by omega)).1
        have e1 : (Addr.add ⟨b, off, none⟩ i : Addr) = ⟨b, off + i, none⟩ := by
          unfold Addr.add
          split
          · next h => subst h; rfl
          · rfl
        rw [e1] at h1
        rw [h1, sv_get]
        simp
    · obtain ⟨i, hi, rfl⟩ := List.mem_map.1 hs
      exact (hx i (by have := List.mem_range.1 hi; omega)).2
end
end Go.Proofs.YthlemcoimoibmaaDoor
