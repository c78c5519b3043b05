/- Contracts: the reference's region, made cell by cell. -/
import Derived.Test.YtenaadmifppphaaGreatDoorRegion
namespace Go.Proofs.YtenaadmifppphaaGreatDoor
open Go.ChangeShapes Go.WideShapes Go.ChangeAt Go.RowKit

/-- A region whose row is a block known whole. -/
def BlkReg (w : World) (zs : List Int) (e : Ending) (w' : World) : Prop :=
  ∃ g, e = .returned (.agg #[.slice (some ⟨g, 0, none⟩) 24 24]) ∧ w.heap.size ≤ g ∧ w'.heap[g]? = some (.cells (ints zs) 3 (0, 0)) ∧ Below w.heap.size w w'
theorem l9Empty_any (w : World) : Calls Tryz.prog 64 #[] w (BlkReg w (List.replicate 24 0)) := by
  have hmk := make24
  go_enter Tryz.func64, Tryz.ntmps64
  go_wp2
  refine bodyPost_ret (v := .agg #[.slice (some ⟨w.heap.size + 1, 0, none⟩) 24 24]) (by simp [results, Tryz.results64, go_sem]) rfl ⟨_, rfl, by omega, ?_, by (repeat (first | exact Below.refl _ _ | assumption | refine Below_al ?_ _ | refine Below.drew ?_ | refine Below_then ?_ (by assumption) | refine Below.setCell ?_ (by first | omega | (simp; done) | (simp; omega)) _))⟩
  (repeat (first | rw [heap_hit _ _ _ (by first | omega | (simp; done) | (simp; omega))] | rw [heap_miss _ _ _ (by first | omega | (simp; done) | (simp; omega))]))
  rfl
def NoEnd (w : World) (e : Ending) (w' : World) : Prop := e = .returned (.tuple #[]) ∧ Below w.heap.size w w'
theorem l9Add_no (R j k : Nat) (w : World) (hin : ¬ inSh j k = true) :
    Calls Tryz.prog 66 #[.agg #[.slice (some ⟨R, 0, none⟩) 24 24], .int .i64 j, .int .i64 k] w (NoEnd w) := by
  go_enter Tryz.func66, Tryz.ntmps66
  go_wp2_with (first | (go_at_call 39; refine (l9In_any _ _ _).mono ?_; rintro e w' ⟨rfl, rfl⟩) | fail)
  go_end0
  exact ⟨rfl, by (repeat (first | exact Below.refl _ _ | assumption | refine Below_al ?_ _ | refine Below.drew ?_ | refine Below_then ?_ (by assumption) | refine Below.setCell ?_ (by first | omega | (simp; done) | (simp; omega)) _))⟩
def AddPost (w : World) (R : Nat) (rows : List Int) (k : Nat) (v : Int) (e : Ending) (w' : World) : Prop :=
  e = .returned (.tuple #[]) ∧ w'.heap[R]? = some (.cells (ints (rows.set k v)) 3 (0, 0)) ∧ w.grownBy w' (some R)
set_option maxHeartbeats 1000000 in
theorem l9Add_yes (R j k : Nat) (rows : List Int) (v : Int) (w : World) (hin : inSh j k = true) (hj : j < 20) (hk : k < 24) (hr : w.heap[R]? = some (.cells (ints rows) 3 (0, 0))) (_hl : rows.length = 24) (hv : rows[k]? = some v) :
    Calls Tryz.prog 66 #[.agg #[.slice (some ⟨R, 0, none⟩) 24 24], .int .i64 j, .int .i64 k] w (AddPost w R rows k (bits BinOp.or IntKind.i64 v (wrap64 (2 ^ j)))) := by
  have hR := heap_lt hr
  have c1 : w.cell? ⟨R, k, none⟩ = some (.int .i64 v) := by rw [cell_of hr, get_ints, hv]; rfl
  have c2 := frozen_of hr k
  have hr' := Lib.hid hr
  have hv' := Lib.hid hv
  have hne : w.heap.size ≠ R := by omega
  clear hr hv
  have i1 : (j : Int) < 20 := by omega
  have i2 : (k : Int) < 24 := by omega
  have c3 : ∀ o, (w.alloc o).cell? ⟨R, k, none⟩ = some (.int .i64 v) := fun o => by rw [World.cell?_alloc_past o R k hR, c1]
  go_enter Tryz.func66, Tryz.ntmps66
  go_wp2_with (first | (go_at_call 39; refine (l9In_any _ _ _).mono ?_; rintro e w' ⟨rfl, rfl⟩) | fail)
  go_region
  go_end0
  have hr := hr'.out
  refine ⟨rfl, ?_, ?_⟩
  · show ((w.setCell ⟨R, k, none⟩ (.int .i64 (bits BinOp.or IntKind.i64 v (wrap64 (2 ^ j))))).alloc _).heap[R]? = _
    rw [heap_miss _ _ _ (by simp only [World.size_setCell]; omega), heap_set _ _ _ _ _ _ hr, set_ints]
  · exact grownBy_below (grownBy_set (World.grownBy.refl _ _) _ _) (Below_al (Below.refl _ _) _).drew
end Go.Proofs.YtenaadmifppphaaGreatDoor
