/- Contracts: Clusters, both sides, on all lists and limits. -/
import Derived.Test.YtjodoljgpdbimaaClusI
import Derived.Test.YtjodoljgpdbimaaClusS
namespace Go.Proofs.Ytjodoljgpdbimaa
open Go.ChangeShapes Go.WideShapes Go.ChangeAt Go.RowKit
set_option linter.unusedVariables false
set_option linter.unusedSimpArgs false
set_option maxHeartbeats 2000000 in
theorem implClusters_no1 (A : Option Addr) (c : Nat) (rows : List ArmsD) (lim : Int) (w : World) (h : RdR 15 w A (acs rows)) (hl : rows.length ≤ 1048576) (ho : listOk 16 rows = false) :
    Calls Try.prog 12 #[.slice A rows.length c, .int .i64 lim] w (GridOk w [] false) := by
  have KL := fun (w' : World) (hb : Below w.heap.size w w') => areArms_any A c 16 rows w' (h.below hb) hl (by omega)
  rw [ho] at KL
  have KL' := Lib.hid KL
  clear KL ho h
  go_enter Try.func12, Try.ntmps12
  go_wp2_with fail
  refine (KL'.out _ (by (repeat (first | exact Below.refl _ _ | assumption | refine Below_al ?_ _ | refine Below.drew ?_ | refine Below_then ?_ (by assumption) | refine Below.setCell ?_ (by first | omega | (simp; done) | (simp; omega)) _)))).mono ?_
  rintro e w1 ⟨rfl, hb1⟩
  go_wp2
  go_ret2
  exact ⟨_, [], rfl, GG.nil _ _, hb1⟩
set_option maxHeartbeats 2000000 in
theorem implClusters_no2 (A : Option Addr) (c : Nat) (rows : List ArmsD) (lim : Int) (w : World) (h : RdR 15 w A (acs rows)) (hl : rows.length ≤ 1048576) (ho : listOk 16 rows = true) (hlim : ¬ (0 ≤ lim ∧ lim ≤ 10)) :
    Calls Try.prog 12 #[.slice A rows.length c, .int .i64 lim] w (GridOk w [] false) := by
  have KL := fun (w' : World) (hb : Below w.heap.size w w') => areArms_any A c 16 rows w' (h.below hb) hl (by omega)
  rw [ho] at KL
  have KL' := Lib.hid KL
  have KI := fun w => inside_any lim 0 10 w
  rw [decide_eq_false hlim] at KI
  have KI' := Lib.hid KI
  clear KI hlim
  clear KL ho h
  go_enter Try.func12, Try.ntmps12
  go_wp2_with fail
  refine (KL'.out _ (by (repeat (first | exact Below.refl _ _ | assumption | refine Below_al ?_ _ | refine Below.drew ?_ | refine Below_then ?_ (by assumption) | refine Below.setCell ?_ (by first | omega | (simp; done) | (simp; omega)) _)))).mono ?_
  rintro e w1 ⟨rfl, hb1⟩
  go_wp2_with (go_at_call 36; refine (KI'.out _).mono ?_; rintro e wq ⟨rfl, rfl⟩)
  go_ret2
  exact ⟨_, [], rfl, GG.nil _ _, hb1⟩
theorem implClusters_any (A : Option Addr) (c : Nat) (rows : List ArmsD) (lim : Int) (w : World) (h : RdR 15 w A (acs rows)) (hl : rows.length ≤ 1048576) :
    Calls Try.prog 12 #[.slice A rows.length c, .int .i64 lim] w (GridOk w (clusG rows lim) (clusOk rows lim)) := by
  unfold clusG clusOk
  cases ho : listOk 16 rows
  · exact implClusters_no1 A c rows lim w h hl ho
  · by_cases hlim : 0 ≤ lim ∧ lim ≤ 10
    · rw [decide_eq_true hlim]
      exact implClusters_yes A c rows lim w h hl ho hlim
    · rw [decide_eq_false hlim]
      exact implClusters_no2 A c rows lim w h hl ho hlim
set_option maxHeartbeats 2000000 in
theorem specClusters_no1 (A : Option Addr) (c : Nat) (rows : List ArmsD) (lim : Int) (w : World) (h : RdR 15 w A (acs rows)) (hl : rows.length ≤ 1048576) (ho : listOk 16 rows = false) :
    Calls Try.prog 10 #[.slice A rows.length c, .int .i64 lim] w (GridOk w [] false) := by
  have KL := fun (w' : World) (hb : Below w.heap.size w w') => l15List_any A c rows w' (h.below hb) hl
  rw [ho] at KL
  have KL' := Lib.hid KL
  clear KL ho h
  go_enter Try.func10, Try.ntmps10
  go_wp2_with fail
  refine (KL'.out _ (by (repeat (first | exact Below.refl _ _ | assumption | refine Below_al ?_ _ | refine Below.drew ?_ | refine Below_then ?_ (by assumption) | refine Below.setCell ?_ (by first | omega | (simp; done) | (simp; omega)) _)))).mono ?_
  rintro e w1 ⟨rfl, hb1⟩
  go_wp2
  go_ret2
  exact ⟨_, [], rfl, (GG.none0 w w.heap.size w.heap.size rfl (Nat.le_refl _)).below hb1, by (repeat (first | exact Below.refl _ _ | assumption | refine Below_al ?_ _ | refine Below.drew ?_ | refine Below_then ?_ (by assumption) | refine Below.setCell ?_ (by first | omega | (simp; done) | (simp; omega)) _))⟩
set_option maxHeartbeats 2000000 in
theorem specClusters_no2 (A : Option Addr) (c : Nat) (rows : List ArmsD) (lim : Int) (w : World) (h : RdR 15 w A (acs rows)) (hl : rows.length ≤ 1048576) (ho : listOk 16 rows = true) (hlim : ¬ (0 ≤ lim ∧ lim ≤ 10)) :
    Calls Try.prog 10 #[.slice A rows.length c, .int .i64 lim] w (GridOk w [] false) := by
  have KL := fun (w' : World) (hb : Below w.heap.size w w') => l15List_any A c rows w' (h.below hb) hl
  rw [ho] at KL
  have KL' := Lib.hid KL
  have KI := fun w => l1In_any lim 0 10 w
  rw [decide_eq_false hlim] at KI
  have KI' := Lib.hid KI
  clear KI hlim
  clear KL ho h
  go_enter Try.func10, Try.ntmps10
  go_wp2_with fail
  refine (KL'.out _ (by (repeat (first | exact Below.refl _ _ | assumption | refine Below_al ?_ _ | refine Below.drew ?_ | refine Below_then ?_ (by assumption) | refine Below.setCell ?_ (by first | omega | (simp; done) | (simp; omega)) _)))).mono ?_
  rintro e w1 ⟨rfl, hb1⟩
  go_wp2_with (go_at_call 31; refine (KI'.out _).mono ?_; rintro e wq ⟨rfl, rfl⟩)
  go_ret2
  exact ⟨_, [], rfl, (GG.none0 w w.heap.size w.heap.size rfl (Nat.le_refl _)).below hb1, by (repeat (first | exact Below.refl _ _ | assumption | refine Below_al ?_ _ | refine Below.drew ?_ | refine Below_then ?_ (by assumption) | refine Below.setCell ?_ (by first | omega | (simp; done) | (simp; omega)) _))⟩
theorem specClusters_any (A : Option Addr) (c : Nat) (rows : List ArmsD) (lim : Int) (w : World) (h : RdR 15 w A (acs rows)) (hl : rows.length ≤ 1048576) :
    Calls Try.prog 10 #[.slice A rows.length c, .int .i64 lim] w (GridOk w (clusG rows lim) (clusOk rows lim)) := by
  unfold clusG clusOk
  cases ho : listOk 16 rows
  · exact specClusters_no1 A c rows lim w h hl ho
  · by_cases hlim : 0 ≤ lim ∧ lim ≤ 10
    · rw [decide_eq_true hlim]
      exact specClusters_yes A c rows lim w h hl ho hlim
    · rw [decide_eq_false hlim]
      exact specClusters_no2 A c rows lim w h hl ho hlim
end Go.Proofs.Ytjodoljgpdbimaa
