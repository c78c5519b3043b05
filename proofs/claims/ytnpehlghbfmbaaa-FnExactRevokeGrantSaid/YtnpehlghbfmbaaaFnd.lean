/- Contracts: the grant with a number; TransferGrant. -/
import Derived.Test.YtnpehlghbfmbaaaGra
namespace Go.Proofs.Ytnpehlghbfmbaaa
open Go.ChangeShapes Go.WideShapes Go.ChangeAt Go.RowKit
set_option linter.unusedVariables false
set_option linter.unusedSimpArgs false
def numAtP (rows : List GrantD) (n : Int) (k : Nat) : Bool := match rows[k]? with | some g => decide (g.n = n) | none => false
theorem numAtP_at {rows : List GrantD} {n : Int} {k : Nat} {g : GrantD} (h : rows[k]? = some g) : numAtP rows n k = decide (g.n = n) := by simp [numAtP, h]
/-- The place of the grant with a number, or -1. -/
def findI (rows : List GrantD) (n : Int) : Int := firstI (numAtP rows n) rows.length
theorem findI_cases (rows : List GrantD) (n : Int) : findI rows n = -1 ∨ ∃ (k : Nat) (g : GrantD), findI rows n = k ∧ k < rows.length ∧ rows[k]? = some g := by
  unfold findI firstI
  cases h : (List.range rows.length).find? (numAtP rows n) with
  | none => exact .inl rfl
  | some k =>
    have hk : k < rows.length := by simpa using List.mem_of_find?_eq_some h
    exact .inr ⟨k, rows[k], rfl, hk, List.getElem?_eq_getElem hk⟩
theorem cf_gin (args : Array Value) (w : World) : (callFunc 47 args).run Try.prog w = .ok (.enter 47 args) w := by kernel_rfl
theorem gin_cl (g : GrantD) (n : Int) (D : Nat) (w : World) (hB : w.cell? ⟨D, 0, none⟩ = some (.int .i64 n)) : Calls Try.prog 47 #[.agg (gc g).toArray, .pointer (some ⟨D, 0, none⟩)] w fun e w' => e = .returned (.bool (decide (g.n = n))) ∧ Below w.heap.size w w' := by
  have hc := (gblk_cells (heap_hit w (.cells (gc g).toArray 54) _ rfl)).1
  have hl := World.block_lt_of_cell? w _ hB
  have hB2 := keep_cell hB (Below_al (Below.refl _ _) (.cells (gc g).toArray 54))
  go_enter Try.func47, Try.ntmps47
  go_wp2
  go_ret
  exact ⟨retB (by rw [Bool.eq_iff_iff]; simp), by (repeat (first | exact Below.refl _ _ | assumption | refine Below_al ?_ _ | refine Below.drew ?_ | refine Below_then ?_ (by assumption) | refine Below.setCell ?_ (by first | omega | (simp; done) | (simp; omega)) _))⟩
theorem grantIn_any (A : Option Addr) (c : Nat) (rows : List GrantD) (n : Int) (w : World) (h : RdR 18 w A (gcs rows)) (hl : rows.length ≤ 1048576) :
    Calls Try.prog 30 #[.agg #[.slice A rows.length c], .int .i64 n] w fun e w' => e = .returned (.int .i64 (findI rows n)) ∧ Below w.heap.size w w' := by
  have K := fun (w' : World) (hb : Below ((w.alloc (.cells #[.slice A rows.length c] 34)).alloc (.cells #[.int .i64 n] 3)).heap.size ((w.alloc (.cells #[.slice A rows.length c] 34)).alloc (.cells #[.int .i64 n] 3)) w') (hb2 : Below w.heap.size w w') =>
    idxG_any 47 #[.pointer (some ⟨w.heap.size + 1, 0, none⟩)] A c rows.length rows (numAtP rows n) w' (h.below hb2) hl (Nat.le_refl _) cf_gin fun k g w'' hk hg hw => by
      rw [numAtP_at hg]
      exact gin_cl g n (w.heap.size + 1) w'' (keep_cell (keep_cell (cell_of (heap_hit _ _ _ (by simp)) 0) hb) hw)
  obtain ⟨z, hz⟩ : ∃ z, z = findI rows n := ⟨_, rfl⟩
  rw [show firstI (numAtP rows n) rows.length = findI rows n from rfl, ← hz] at K
  rw [← hz]
  have K' := Lib.hid K
  clear K h hz
  go_enter Try.func30, Try.ntmps30
  go_wp2_with fail
  refine (K'.out _ (Below.refl _ _) (by (repeat (first | exact Below.refl _ _ | assumption | refine Below_al ?_ _ | refine Below.drew ?_ | refine Below_then ?_ (by assumption) | refine Below.setCell ?_ (by first | omega | (simp; done) | (simp; omega)) _)))).mono ?_
  rintro e w1 ⟨rfl, hb1⟩
  go_wp2
  go_ret
  exact ⟨rfl, by (repeat (first | exact Below.refl _ _ | assumption | refine Below_al ?_ _ | refine Below.drew ?_ | refine Below_then ?_ (by assumption) | refine Below.setCell ?_ (by first | omega | (simp; done) | (simp; omega)) _))⟩
set_option maxHeartbeats 2000000 in
theorem l16Find_any (A : Option Addr) (c : Nat) (rows : List GrantD) (n : Int) (w : World) (h : RdR 18 w A (gcs rows)) (hl : rows.length ≤ 1048576) :
    Calls Try.prog 29 #[.agg #[.slice A rows.length c], .int .i64 n] w fun e w' => e = .returned (.int .i64 (findI rows n)) ∧ Below w.heap.size w w' := by
  go_enter Try.func29, Try.ntmps29
  go_wp2_with fail
  go_loopw [5] (fun i wr => ∃ k : Nat, k ≤ rows.length ∧ i = .int .i64 k ∧ (∀ j, j < k → numAtP rows n j = false) ∧ wr.cell? ⟨w.heap.size, 0, none⟩ = some (.slice A rows.length c : Value) ∧ Below w.heap.size w wr) (fun i _ => rows.length - (intOf i).toNat)
  case atStart => exact ⟨0, Nat.zero_le _, rfl, fun j hj => absurd hj (by omega), cell_of (heap_hit _ _ _ rfl) 0, by (repeat (first | exact Below.refl _ _ | assumption | refine Below_al ?_ _ | refine Below.drew ?_ | refine Below_then ?_ (by assumption) | refine Below.setCell ?_ (by first | omega | (simp; done) | (simp; omega)) _))⟩
  case round =>
    obtain ⟨k, hk, rfl, hall, hc0, hb⟩ := hrel
    have HALL := Lib.hid hall
    clear hall
    by_cases hlt : k < rows.length
    · obtain ⟨g, hg⟩ := grant_at hlt
      obtain ⟨b, off, rfl, hr1, -⟩ := (h.below hb).grants hg
      have c1 := (gc_cells hr1).1
      have i1 : (k : Int) < (rows.length : Int) := by omega
      have d1 : decide (k < rows.length) = true := by simpa using hlt
      have hp := numAtP_at (n := n) hg
      have HG := Lib.hid hg
      clear hg
      by_cases e : g.n = n
      · rw [decide_eq_true e] at hp
        have hf := firstI_yes hlt hp HALL.out
        have d2 : (g.n == n) = true := by simpa using e
        have HF := Lib.hid hf
        clear hf hp e
        go_wp2
        go_ret
        exact ⟨retI HF.out.symm, hb⟩
      · rw [decide_eq_false e] at hp
        have d2 : (g.n == n) = false := by simpa using e
        have HP := Lib.hid hp
        clear hp e
        go_wp2
        go_roundw
        case rel =>
          refine ⟨k + 1, by omega, by go_num, fun j hj => ?_, hc0, hb⟩
          by_cases e : j = k
          · subst e; exact HP.out
          · exact HALL.out j (by omega)
        case measure => simp [intOf]; omega
    · obtain rfl : k = rows.length := by omega
      have d1 : decide (rows.length < rows.length) = false := by simp
      have hf := firstI_no HALL.out
      have HF := Lib.hid hf
      clear hf
      go_wp2
      go_ret
      exact ⟨retI HF.out.symm, hb⟩
end Go.Proofs.Ytnpehlghbfmbaaa
