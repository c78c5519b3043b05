/- Contracts: marks on registers. -/
import Derived.Test.YtlonnkmfjijddaaGreatDoorNames
namespace Go.Proofs.YtlonnkmfjijddaaGreatDoor
open Go.ChangeShapes Go.WideShapes Go.ChangeAt Go.RowKit
set_option linter.unusedVariables false
set_option linter.unusedSimpArgs false
theorem info_i1 : (Tryz.prog.info? 3).map (·.size) = some 1 := by kernel_rfl
theorem info_s1 : (Tryz.prog.info? 9).map (·.size) = some 1 := by kernel_rfl
/-- Block g has N cells, and nothing but it has turned since w. -/
def BlkH (w : World) (g N : Nat) (wr : World) : Prop := Blk wr g N ∧ w.grownBy wr (some g)
theorem BlkH.below {w wr w' : World} {g N : Nat} (h : BlkH w g N wr) (hb : Below wr.heap.size wr w') : BlkH w g N w' := by
  obtain ⟨⟨cur, T, h1, h2⟩, h3⟩ := h
  exact ⟨⟨cur, T, heap_keepB h1 hb, h2⟩, grownBy_below h3 hb⟩
section
variable {P : Program} {ops : Array Oper} {rest : List Oper} {op : Oper} {a : Act} {w : World} {Q : Exit → Act → World → Prop}
theorem wpList_store_blkH (hgd : op.guard = none) (ty : TypeId) (x y : Operand) (ho : op.op = .store ty x y) (W : World) (g N i : Nat) (v : Value) (hb : BlkH W g N w) (hx : a.eval x = .pointer (some ⟨g, i, none⟩)) (hi : i < N) (hy : a.eval y = v)
    (hv : v.cells = #[v]) (hs : (P.info? ty).map (·.size) = some 1) (h1 : v.oneCell' = true)
    (h : ∀ w', BlkH W g N w' → wpList P ops Q rest (a.put op.dst undef) w') : wpList P ops Q (op :: rest) a w :=
  wpList_store_blk hgd ty x y ho g N i v hb.1 hi hx hy hv hs h1 fun w' h1 h2 => h w' ⟨h1, grownBy_trans hb.2 h2⟩
end
def MarkG18 (w : World) (g : Nat) (k0 : Int) (n : Nat) (e : Ending) (w' : World) : Prop := e = .returned (.int .i64 (k0 + 18 * n)) ∧ w.grownBy w' (some g)
set_option maxHeartbeats 8000000 in
set_option maxRecDepth 100000 in
theorem markGrantS_any (g n c : Nat) (k0 : Int) (w : World) (h : Blk w g (n * 18)) (hn : n ≤ 1048576) (hk0 : 0 ≤ k0) (hk1 : k0 ≤ 1048576) :
    Calls Tryz.prog 26 #[.slice (some ⟨g, 0, none⟩) n c, .int .i64 k0] w (MarkG18 w g k0 n) := by
  have hI := info_i1
  have hS := info_s1
  go_enter Tryz.func26, Tryz.ntmps26
  go_wp2_with fail
  go_loopw [1, 5] (fun kk i wr => ∃ k : Nat, k ≤ n ∧ i = .int .i64 k ∧ kk = .int .i64 (k0 + 18 * k) ∧ BlkH w g (n * 18) wr) (fun _ i _ => n - (intOf i).toNat)
  case atStart => exact ⟨0, Nat.zero_le _, rfl, by simp, h, World.grownBy.refl _ _⟩
  case round =>
    clear h
    obtain ⟨k, hk, rfl, rfl, hbk⟩ := hrel
    by_cases hlt : k < n
    · have i1 : (k : Int) < (n : Int) := by omega
      have d1 : decide (k < n) = true := by simpa using hlt
      go_wp2_with (first | (go_at_call 27; refine (markText_any _ _ (by omega) (by omega)).mono ?_; rintro e w2 ⟨t2, rfl, hb2⟩; replace hbk := hbk.below hb2; clear hb2) | (refine wpList_store_blkH rfl 3 _ _ rfl w g (n * 18) _ _ (by assumption) rfl ?hi rfl rfl hI rfl ?_; (case hi => omega); clear hbk; intro wn hbk) | (refine wpList_store_blkH rfl 9 _ _ rfl w g (n * 18) _ _ (by assumption) rfl ?hi rfl rfl hS rfl ?_; (case hi => omega); clear hbk; intro wn hbk) | fail)
      go_roundw
      case rel => exact ⟨k + 1, by omega, by go_num, by go_num, hbk⟩
      case measure => simp [intOf]; omega
    · obtain rfl : k = n := by omega
      have d1 : decide (k < k) = false := by simp
      go_wp2
      go_ret
      exact ⟨rfl, hbk.2⟩
theorem markRegister_any (g n c : Nat) (k0 : Int) (w : World) (h : Blk w g (n * 18)) (hn : n ≤ 1048576) (hk0 : 0 ≤ k0) (hk1 : k0 ≤ 1048576) :
    Calls Tryz.prog 10 #[.agg #[.slice (some ⟨g, 0, none⟩) n c], .int .i64 k0] w (MarkG18 w g k0 n) := by
  have K := fun (w' : World) (hb : Below w.heap.size w w') => markGrantS_any g n c k0 w' (by obtain ⟨cur, T, h1, h2⟩ := h; exact ⟨cur, T, heap_keepB h1 hb, h2⟩) hn hk0 hk1
  have K' := Lib.hid K
  clear K h
  go_enter Tryz.func10, Tryz.ntmps10
  go_wp2_with fail
  refine (K'.out _ (by (repeat (first | exact Below.refl _ _ | assumption | refine Below_al ?_ _ | refine Below.drew ?_ | refine Below_then ?_ (by assumption) | refine Below.setCell ?_ (by first | omega | (simp; done) | (simp; omega)) _)))).mono ?_
  rintro e w1 ⟨rfl, hg⟩
  go_wp2
  go_ret
  exact ⟨rfl, below_grownBy (by (repeat (first | exact Below.refl _ _ | assumption | refine Below_al ?_ _ | refine Below.drew ?_ | refine Below_then ?_ (by assumption) | refine Below.setCell ?_ (by first | omega | (simp; done) | (simp; omega)) _))) hg⟩
end Go.Proofs.YtlonnkmfjijddaaGreatDoor
