/- Contracts: the program's regions (the closures and their callers), and the reference's where they refuse. -/
import Derived.Test.YtlbggefccgpgaaaRegion3
import Derived.Test.YtlbggefccgpgaaaParts
namespace Go.Proofs.Ytlbggefccgpgaaa
open Go.ChangeShapes Go.WideShapes Go.ChangeAt Go.RowKit

theorem cfShield (args : Array Value) (w : World) : (callFunc 40 args).run Try.prog w = .ok (.enter 40 args) w := by kernel_rfl
theorem ShieldRegion_cl (x y : Int) (w : World) : Calls Try.prog 40 #[.int .i64 x, .int .i64 y] w fun e w' => e = .returned (.bool true) ∧ Below w.heap.size w w' := by
  go_enter Try.func40, Try.ntmps40
  go_wp2
  go_ret
  exact ⟨rfl, Below.refl _ _⟩
set_option maxHeartbeats 2000000 in
theorem ShieldRegion_any  (w : World) : Calls Try.prog 24 #[] w (RegPost w (regRows (fun _ _ => true))) := by
  have HC : ∀ (x y : Int) (w' : World), 0 ≤ x → x ≤ 19 → 0 ≤ y → y ≤ 23 → Below (w.alloc (Obj.cells #[.slice none 0 0] 32)).heap.size (w.alloc (Obj.cells #[.slice none 0 0] 32)) w' → Calls Try.prog 40 (#[.int .i64 x, .int .i64 y] ++ #[]) w' fun e w'' => e = .returned (.bool ((fun _ _ => true) x y)) ∧ Below w'.heap.size w' w'' := by
    intro x y w' a1 a2 a3 a4 hb
    show Calls Try.prog 40 #[.int .i64 x, .int .i64 y] w' _
    obtain ⟨hc1, hf1⟩ := bcell hb
    exact ShieldRegion_cl x y w'
  have HC' := Lib.hid HC
  clear HC
  go_enter Try.func24, Try.ntmps24
  go_wp2_with fail
  refine (regionOf_any 40 #[] (fun _ _ => true) (w.alloc (Obj.cells #[.slice none 0 0] 32)) cfShield HC'.out).mono ?_
  rintro e w1 ⟨v, rfl, ho, hb⟩
  obtain ⟨A, c, rfl, -⟩ := ho.form
  obtain ⟨hc1, hf1⟩ := bcell hb
  have hz : w.heap.size < w1.heap.size := by have := hb.size; simp at this; omega
  go_wp2
  exact bodyPost_ret (v := .agg #[.slice A (regRows (fun _ _ => true)).length c]) (by simp [results, Try.results24, go_sem, hc1]) rfl ⟨_, rfl, OwnI.base (ownsRow_setCell_below ho (by first | omega | (simp; done) | (simp; omega)) _) (by first | omega | (simp; done) | (simp; omega)), by (repeat (first | exact Below.refl _ _ | assumption | refine Below_al ?_ _ | refine Below.drew ?_ | refine Below_then ?_ (by assumption) | refine Below.setCell ?_ (by first | omega | (simp; done) | (simp; omega)) _))⟩
theorem specOrdinaryCells_no (o : Int) (w : World) (hn : ¬ ((0 ≤ o ∧ o ≤ 7))) : Calls Try.prog 52 #[.int .i64 o] w (RegOk w [] false) := by
  have g0 := hn
  clear hn
  go_enter Try.func52, Try.ntmps52
  go_wp2_with (first | (go_at_call 32; refine (l1In_any _ _ _ _).mono ?_; rintro e w' ⟨rfl, rfl⟩) | fail)
  all_goals exact bodyPost_ret (v := .tuple #[.agg #[.slice none 0 0], .bool false]) (by simp [results, Try.results52, go_sem]) rfl ⟨_, rfl, OwnI.nil _ _ _, by (repeat (first | exact Below.refl _ _ | assumption | refine Below_al ?_ _ | refine Below.drew ?_ | refine Below_then ?_ (by assumption) | refine Below.setCell ?_ (by first | omega | (simp; done) | (simp; omega)) _))⟩
end Go.Proofs.Ytlbggefccgpgaaa
