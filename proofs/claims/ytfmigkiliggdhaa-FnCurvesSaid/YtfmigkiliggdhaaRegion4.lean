/- Contracts: the program's regions (the closures and their callers), and the reference's where they refuse. -/
import Derived.Test.YtfmigkiliggdhaaRegion3
import Derived.Test.YtfmigkiliggdhaaParts
namespace Go.Proofs.Ytfmigkiliggdhaa
open Go.ChangeShapes Go.WideShapes Go.ChangeAt Go.RowKit

theorem cfShield (args : Array Value) (w : World) : (callFunc 53 args).run Try.prog w = .ok (.enter 53 args) w := by kernel_rfl
theorem ShieldRegion_cl (x y : Int) (w : World) : Calls Try.prog 53 #[.int .i64 x, .int .i64 y] w fun e w' => e = .returned (.bool true) ∧ Below w.heap.size w w' := by
  go_enter Try.func53, Try.ntmps53
  go_wp2
  go_ret
  exact ⟨rfl, Below.refl _ _⟩
set_option maxHeartbeats 2000000 in
theorem ShieldRegion_any  (w : World) : Calls Try.prog 13 #[] w (RegPost w (regRows (fun _ _ => true))) := by
  have HC : ∀ (x y : Int) (w' : World), 0 ≤ x → x ≤ 19 → 0 ≤ y → y ≤ 23 → Below (w.alloc (Obj.cells #[.slice none 0 0] 28)).heap.size (w.alloc (Obj.cells #[.slice none 0 0] 28)) w' → Calls Try.prog 53 (#[.int .i64 x, .int .i64 y] ++ #[]) w' fun e w'' => e = .returned (.bool ((fun _ _ => true) x y)) ∧ Below w'.heap.size w' w'' := by
    intro x y w' a1 a2 a3 a4 hb
    show Calls Try.prog 53 #[.int .i64 x, .int .i64 y] w' _
    obtain ⟨hc1, hf1⟩ := bcell hb
    exact ShieldRegion_cl x y w'
  have HC' := Lib.hid HC
  clear HC
  go_enter Try.func13, Try.ntmps13
  go_wp2_with fail
  refine (regionOf_any 53 #[] (fun _ _ => true) (w.alloc (Obj.cells #[.slice none 0 0] 28)) cfShield HC'.out).mono ?_
  rintro e w1 ⟨v, rfl, ho, hb⟩
  obtain ⟨A, c, rfl, -⟩ := ho.form
  obtain ⟨hc1, hf1⟩ := bcell hb
  have hz : w.heap.size < w1.heap.size := by have := hb.size; simp at this; omega
  go_wp2
  exact bodyPost_ret (v := .agg #[.slice A (regRows (fun _ _ => true)).length c]) (by simp [results, Try.results13, go_sem, hc1]) rfl ⟨_, rfl, OwnI.base (ownsRow_setCell_below ho (by first | omega | (simp; done) | (simp; omega)) _) (by first | omega | (simp; done) | (simp; omega)), by (repeat (first | exact Below.refl _ _ | assumption | refine Below_al ?_ _ | refine Below.drew ?_ | refine Below_then ?_ (by assumption) | refine Below.setCell ?_ (by first | omega | (simp; done) | (simp; omega)) _))⟩
theorem cfPart (args : Array Value) (w : World) : (callFunc 46 args).run Try.prog w = .ok (.enter 46 args) w := by kernel_rfl
set_option maxHeartbeats 1000000 in
theorem PartRegion_cl (D E : Nat) (d p x y : Int) (w : World) (hd0 : 0 ≤ d) (hd7 : d ≤ 7) (hx0 : 0 ≤ x) (hx1 : x ≤ 19) (hy0 : 0 ≤ y) (hy1 : y ≤ 23) (c1 : w.cell? ⟨D, 0, none⟩ = some (.int .i64 d)) (c2 : w.cell? ⟨E, 0, none⟩ = some (.int .i64 p)) :
    Calls Try.prog 46 #[.int .i64 x, .int .i64 y, .pointer (some ⟨D, 0, none⟩), .pointer (some ⟨E, 0, none⟩)] w fun e w' => e = .returned (.bool (partF d 0 x y == p)) ∧ Below w.heap.size w w' := by
  have K := fun w => partAt_any d 0 x y hd0 hd7 (by omega) (by omega) hx0 hx1 hy0 hy1 w
  generalize partF d 0 x y = z at *
  have K' := Lib.hid K
  clear K
  go_enter Try.func46, Try.ntmps46
  go_wp2
  go_region_held3 (fun w' => w'.cell? ⟨D, 0, none⟩ = some (.int .i64 d) ∧ w'.cell? ⟨E, 0, none⟩ = some (.int .i64 p) ∧ Below w.heap.size w w') (first | assumption | exact held2 (by assumption) (by assumption) | exact ⟨c1, c2, (Below.refl _ _).drew⟩) (first | (go_at_call 47; refine (K'.out _).mono ?_; rintro e w3 ⟨rfl, hb3⟩))
  go_wp2
  go_ret
  exact ⟨rfl, And.right (And.right (by assumption))⟩
set_option maxHeartbeats 2000000 in
theorem PartRegion_yes (d p : Int) (w : World) (hd0 : 0 ≤ d) (hd7 : d ≤ 7) (hp0 : 0 ≤ p) (hp1 : p ≤ 1) : Calls Try.prog 8 #[.int .i64 d, .int .i64 p] w (RegOk w (regRows (fun x y => partF d 0 x y == p)) true) := by
  have HC : ∀ (x y : Int) (w' : World), 0 ≤ x → x ≤ 19 → 0 ≤ y → y ≤ 23 → Below (((w.alloc (Obj.cells #[.int .i64 d] 3)).alloc (Obj.cells #[.int .i64 p] 3)).alloc (Obj.cells #[.slice none 0 0] 28)).heap.size (((w.alloc (Obj.cells #[.int .i64 d] 3)).alloc (Obj.cells #[.int .i64 p] 3)).alloc (Obj.cells #[.slice none 0 0] 28)) w' → Calls Try.prog 46 (#[.int .i64 x, .int .i64 y] ++ #[.pointer (some ⟨w.heap.size, 0, none⟩), .pointer (some ⟨w.heap.size + 1, 0, none⟩)]) w' fun e w'' => e = .returned (.bool ((fun x y => partF d 0 x y == p) x y)) ∧ Below w'.heap.size w' w'' := by
    intro x y w' a1 a2 a3 a4 hb
    show Calls Try.prog 46 #[.int .i64 x, .int .i64 y, .pointer (some ⟨w.heap.size, 0, none⟩), .pointer (some ⟨w.heap.size + 1, 0, none⟩)] w' _
    obtain ⟨hc1, hf1⟩ := bcell hb
    have e0 := hc1 (w.heap.size) 0 (by first | omega | (simp; done) | (simp; omega))
    rw [show (((w.alloc (Obj.cells #[.int .i64 d] 3)).alloc (Obj.cells #[.int .i64 p] 3)).alloc (Obj.cells #[.slice none 0 0] 28)).cell? ⟨w.heap.size, 0, none⟩ = (#[.int .i64 d])[0]? from by simp [go_sem]] at e0
    have e1 := hc1 (w.heap.size + 1) 0 (by first | omega | (simp; done) | (simp; omega))
    rw [show (((w.alloc (Obj.cells #[.int .i64 d] 3)).alloc (Obj.cells #[.int .i64 p] 3)).alloc (Obj.cells #[.slice none 0 0] 28)).cell? ⟨w.heap.size + 1, 0, none⟩ = (#[.int .i64 p])[0]? from by simp [go_sem]] at e1
    exact PartRegion_cl w.heap.size (w.heap.size + 1) d p x y w' hd0 hd7 a1 a2 a3 a4 e0 e1
  have HC' := Lib.hid HC
  clear HC
  go_enter Try.func8, Try.ntmps8
  go_wp2_with (first | (go_at_call 44; refine (inside_any _ _ _ _).mono ?_; rintro e w' ⟨rfl, rfl⟩) | fail)
  refine (regionOf_any 46 #[.pointer (some ⟨w.heap.size, 0, none⟩), .pointer (some ⟨w.heap.size + 1, 0, none⟩)] (fun x y => partF d 0 x y == p) (((w.alloc (Obj.cells #[.int .i64 d] 3)).alloc (Obj.cells #[.int .i64 p] 3)).alloc (Obj.cells #[.slice none 0 0] 28)) cfPart HC'.out).mono ?_
  rintro e w1 ⟨v, rfl, ho, hb⟩
  obtain ⟨A, c, rfl, -⟩ := ho.form
  obtain ⟨hc1, hf1⟩ := bcell hb
  have hz : w.heap.size + 1 + 1 < w1.heap.size := by have := hb.size; simp at this; omega
  go_wp2
  exact bodyPost_ret (v := .tuple #[.agg #[.slice A (regRows (fun x y => partF d 0 x y == p)).length c], .bool true]) (by simp [results, Try.results8, go_sem, hc1]) rfl ⟨_, rfl, OwnI.base (ownsRow_setCell_below ho (by first | omega | (simp; done) | (simp; omega)) _) (by first | omega | (simp; done) | (simp; omega)), by (repeat (first | exact Below.refl _ _ | assumption | refine Below_al ?_ _ | refine Below.drew ?_ | refine Below_then ?_ (by assumption) | refine Below.setCell ?_ (by first | omega | (simp; done) | (simp; omega)) _))⟩
theorem PartRegion_no (d p : Int) (w : World) (hn : ¬ ((0 ≤ d ∧ d ≤ 7) ∧ (0 ≤ p ∧ p ≤ 1))) : Calls Try.prog 8 #[.int .i64 d, .int .i64 p] w (RegOk w [] false) := by
  by_cases g0 : 0 ≤ d ∧ d ≤ 7
  · have g1 : ¬ (0 ≤ p ∧ p ≤ 1) := fun h => hn ⟨g0, h⟩
    clear hn
    go_enter Try.func8, Try.ntmps8
    go_wp2_with (first | (go_at_call 44; refine (inside_any _ _ _ _).mono ?_; rintro e w' ⟨rfl, rfl⟩) | fail)
    all_goals exact bodyPost_ret (v := .tuple #[.agg #[.slice none 0 0], .bool false]) (by simp [results, Try.results8, go_sem]) rfl ⟨_, rfl, OwnI.nil _ _ _, by (repeat (first | exact Below.refl _ _ | assumption | refine Below_al ?_ _ | refine Below.drew ?_ | refine Below_then ?_ (by assumption) | refine Below.setCell ?_ (by first | omega | (simp; done) | (simp; omega)) _))⟩
  · clear hn
    go_enter Try.func8, Try.ntmps8
    go_wp2_with (first | (go_at_call 44; refine (inside_any _ _ _ _).mono ?_; rintro e w' ⟨rfl, rfl⟩) | fail)
    all_goals exact bodyPost_ret (v := .tuple #[.agg #[.slice none 0 0], .bool false]) (by simp [results, Try.results8, go_sem]) rfl ⟨_, rfl, OwnI.nil _ _ _, by (repeat (first | exact Below.refl _ _ | assumption | refine Below_al ?_ _ | refine Below.drew ?_ | refine Below_then ?_ (by assumption) | refine Below.setCell ?_ (by first | omega | (simp; done) | (simp; omega)) _))⟩
theorem specPartRegion_no (d p : Int) (w : World) (hn : ¬ ((0 ≤ d ∧ d ≤ 7) ∧ (0 ≤ p ∧ p ≤ 1))) : Calls Try.prog 9 #[.int .i64 d, .int .i64 p] w (RegOk w [] false) := by
  by_cases g0 : 0 ≤ d ∧ d ≤ 7
  · have g1 : ¬ (0 ≤ p ∧ p ≤ 1) := fun h => hn ⟨g0, h⟩
    clear hn
    go_enter Try.func9, Try.ntmps9
    go_wp2_with (first | (go_at_call 48; refine (l1In_any _ _ _ _).mono ?_; rintro e w' ⟨rfl, rfl⟩) | fail)
    all_goals exact bodyPost_ret (v := .tuple #[.agg #[.slice none 0 0], .bool false]) (by simp [results, Try.results9, go_sem]) rfl ⟨_, rfl, OwnI.nil _ _ _, by (repeat (first | exact Below.refl _ _ | assumption | refine Below_al ?_ _ | refine Below.drew ?_ | refine Below_then ?_ (by assumption) | refine Below.setCell ?_ (by first | omega | (simp; done) | (simp; omega)) _))⟩
  · clear hn
    go_enter Try.func9, Try.ntmps9
    go_wp2_with (first | (go_at_call 48; refine (l1In_any _ _ _ _).mono ?_; rintro e w' ⟨rfl, rfl⟩) | fail)
    all_goals exact bodyPost_ret (v := .tuple #[.agg #[.slice none 0 0], .bool false]) (by simp [results, Try.results9, go_sem]) rfl ⟨_, rfl, OwnI.nil _ _ _, by (repeat (first | exact Below.refl _ _ | assumption | refine Below_al ?_ _ | refine Below.drew ?_ | refine Below_then ?_ (by assumption) | refine Below.setCell ?_ (by first | omega | (simp; done) | (simp; omega)) _))⟩
theorem cfLined (args : Array Value) (w : World) : (callFunc 73 args).run Try.prog w = .ok (.enter 73 args) w := by kernel_rfl
theorem LinedOrdinary_cl (D E : Nat) (o l x y : Int) (w : World) (hd0 : 0 ≤ o) (hd7 : o ≤ 7) (h0 : 0 ≤ l) (h4 : l ≤ 4) (hx0 : 0 ≤ x) (hx1 : x ≤ 19) (hy0 : 0 ≤ y) (hy1 : y ≤ 23) (c1 : w.cell? ⟨D, 0, none⟩ = some (.int .i64 o)) (c2 : w.cell? ⟨E, 0, none⟩ = some (.int .i64 l)) :
    Calls Try.prog 73 #[.int .i64 x, .int .i64 y, .pointer (some ⟨D, 0, none⟩), .pointer (some ⟨E, 0, none⟩)] w fun e w' => e = .returned (.bool (covB o l x y)) ∧ Below w.heap.size w w' := by
  have K := fun w => covers_any o l x y hd0 hd7 h0 h4 hx0 hx1 hy0 hy1 w
  generalize covB o l x y = z at *
  have K' := Lib.hid K
  clear K
  go_enter Try.func73, Try.ntmps73
  go_wp2_with (first | (go_at_call 74; refine (K'.out _).mono ?_; rintro e w1 ⟨rfl, hb1⟩) | fail)
  go_ret
  exact ⟨rfl, hb1⟩
set_option maxHeartbeats 2000000 in
theorem LinedOrdinary_yes (o l : Int) (w : World) (hd0 : 0 ≤ o) (hd7 : o ≤ 7) (h0 : 0 ≤ l) (h4 : l ≤ 4) : Calls Try.prog 41 #[.int .i64 o, .int .i64 l] w (RegOk w (regRows (fun x y => covB o l x y)) true) := by
  have HC : ∀ (x y : Int) (w' : World), 0 ≤ x → x ≤ 19 → 0 ≤ y → y ≤ 23 → Below (((w.alloc (Obj.cells #[.int .i64 o] 3)).alloc (Obj.cells #[.int .i64 l] 3)).alloc (Obj.cells #[.slice none 0 0] 28)).heap.size (((w.alloc (Obj.cells #[.int .i64 o] 3)).alloc (Obj.cells #[.int .i64 l] 3)).alloc (Obj.cells #[.slice none 0 0] 28)) w' → Calls Try.prog 73 (#[.int .i64 x, .int .i64 y] ++ #[.pointer (some ⟨w.heap.size, 0, none⟩), .pointer (some ⟨w.heap.size + 1, 0, none⟩)]) w' fun e w'' => e = .returned (.bool ((fun x y => covB o l x y) x y)) ∧ Below w'.heap.size w' w'' := by
    intro x y w' a1 a2 a3 a4 hb
    show Calls Try.prog 73 #[.int .i64 x, .int .i64 y, .pointer (some ⟨w.heap.size, 0, none⟩), .pointer (some ⟨w.heap.size + 1, 0, none⟩)] w' _
    obtain ⟨hc1, hf1⟩ := bcell hb
    have e0 := hc1 (w.heap.size) 0 (by first | omega | (simp; done) | (simp; omega))
    rw [show (((w.alloc (Obj.cells #[.int .i64 o] 3)).alloc (Obj.cells #[.int .i64 l] 3)).alloc (Obj.cells #[.slice none 0 0] 28)).cell? ⟨w.heap.size, 0, none⟩ = (#[.int .i64 o])[0]? from by simp [go_sem]] at e0
    have e1 := hc1 (w.heap.size + 1) 0 (by first | omega | (simp; done) | (simp; omega))
    rw [show (((w.alloc (Obj.cells #[.int .i64 o] 3)).alloc (Obj.cells #[.int .i64 l] 3)).alloc (Obj.cells #[.slice none 0 0] 28)).cell? ⟨w.heap.size + 1, 0, none⟩ = (#[.int .i64 l])[0]? from by simp [go_sem]] at e1
    exact LinedOrdinary_cl w.heap.size (w.heap.size + 1) o l x y w' hd0 hd7 h0 h4 a1 a2 a3 a4 e0 e1
  have HC' := Lib.hid HC
  clear HC
  go_enter Try.func41, Try.ntmps41
  go_wp2_with (first | (go_at_call 44; refine (inside_any _ _ _ _).mono ?_; rintro e w' ⟨rfl, rfl⟩) | (go_at_call 58; refine (isLine_any _ _).mono ?_; rintro e w' ⟨rfl, rfl⟩) | (go_at_call 83; refine (IsTincture_any _ _).mono ?_; rintro e w' ⟨rfl, rfl⟩) | fail)
  refine (regionOf_any 73 #[.pointer (some ⟨w.heap.size, 0, none⟩), .pointer (some ⟨w.heap.size + 1, 0, none⟩)] (fun x y => covB o l x y) (((w.alloc (Obj.cells #[.int .i64 o] 3)).alloc (Obj.cells #[.int .i64 l] 3)).alloc (Obj.cells #[.slice none 0 0] 28)) cfLined HC'.out).mono ?_
  rintro e w1 ⟨v, rfl, ho, hb⟩
  obtain ⟨A, c, rfl, -⟩ := ho.form
  obtain ⟨hc1, hf1⟩ := bcell hb
  have hz : w.heap.size + 1 + 1 < w1.heap.size := by have := hb.size; simp at this; omega
  go_wp2
  exact bodyPost_ret (v := .tuple #[.agg #[.slice A (regRows (fun x y => covB o l x y)).length c], .bool true]) (by simp [results, Try.results41, go_sem, hc1]) rfl ⟨_, rfl, OwnI.base (ownsRow_setCell_below ho (by first | omega | (simp; done) | (simp; omega)) _) (by first | omega | (simp; done) | (simp; omega)), by (repeat (first | exact Below.refl _ _ | assumption | refine Below_al ?_ _ | refine Below.drew ?_ | refine Below_then ?_ (by assumption) | refine Below.setCell ?_ (by first | omega | (simp; done) | (simp; omega)) _))⟩
theorem LinedOrdinary_no (o l : Int) (w : World) (hn : ¬ ((0 ≤ o ∧ o ≤ 7) ∧ (0 ≤ l ∧ l ≤ 4))) : Calls Try.prog 41 #[.int .i64 o, .int .i64 l] w (RegOk w [] false) := by
  by_cases g0 : 0 ≤ o ∧ o ≤ 7
  · have g1 : ¬ (0 ≤ l ∧ l ≤ 4) := fun h => hn ⟨g0, h⟩
    clear hn
    go_enter Try.func41, Try.ntmps41
    go_wp2_with (first | (go_at_call 44; refine (inside_any _ _ _ _).mono ?_; rintro e w' ⟨rfl, rfl⟩) | (go_at_call 58; refine (isLine_any _ _).mono ?_; rintro e w' ⟨rfl, rfl⟩) | (go_at_call 83; refine (IsTincture_any _ _).mono ?_; rintro e w' ⟨rfl, rfl⟩) | fail)
    all_goals exact bodyPost_ret (v := .tuple #[.agg #[.slice none 0 0], .bool false]) (by simp [results, Try.results41, go_sem]) rfl ⟨_, rfl, OwnI.nil _ _ _, by (repeat (first | exact Below.refl _ _ | assumption | refine Below_al ?_ _ | refine Below.drew ?_ | refine Below_then ?_ (by assumption) | refine Below.setCell ?_ (by first | omega | (simp; done) | (simp; omega)) _))⟩
  · clear hn
    go_enter Try.func41, Try.ntmps41
    go_wp2_with (first | (go_at_call 44; refine (inside_any _ _ _ _).mono ?_; rintro e w' ⟨rfl, rfl⟩) | (go_at_call 58; refine (isLine_any _ _).mono ?_; rintro e w' ⟨rfl, rfl⟩) | (go_at_call 83; refine (IsTincture_any _ _).mono ?_; rintro e w' ⟨rfl, rfl⟩) | fail)
    all_goals exact bodyPost_ret (v := .tuple #[.agg #[.slice none 0 0], .bool false]) (by simp [results, Try.results41, go_sem]) rfl ⟨_, rfl, OwnI.nil _ _ _, by (repeat (first | exact Below.refl _ _ | assumption | refine Below_al ?_ _ | refine Below.drew ?_ | refine Below_then ?_ (by assumption) | refine Below.setCell ?_ (by first | omega | (simp; done) | (simp; omega)) _))⟩
theorem specLinedOrdinary_no (o l : Int) (w : World) (hn : ¬ ((0 ≤ o ∧ o ≤ 7) ∧ (0 ≤ l ∧ l ≤ 4))) : Calls Try.prog 42 #[.int .i64 o, .int .i64 l] w (RegOk w [] false) := by
  by_cases g0 : 0 ≤ o ∧ o ≤ 7
  · have g1 : ¬ (0 ≤ l ∧ l ≤ 4) := fun h => hn ⟨g0, h⟩
    clear hn
    go_enter Try.func42, Try.ntmps42
    go_wp2_with (first | (go_at_call 48; refine (l1In_any _ _ _ _).mono ?_; rintro e w' ⟨rfl, rfl⟩) | (go_at_call 60; refine (l10Line_any _ _).mono ?_; rintro e w' ⟨rfl, rfl⟩) | fail)
    all_goals exact bodyPost_ret (v := .tuple #[.agg #[.slice none 0 0], .bool false]) (by simp [results, Try.results42, go_sem]) rfl ⟨_, rfl, OwnI.nil _ _ _, by (repeat (first | exact Below.refl _ _ | assumption | refine Below_al ?_ _ | refine Below.drew ?_ | refine Below_then ?_ (by assumption) | refine Below.setCell ?_ (by first | omega | (simp; done) | (simp; omega)) _))⟩
  · clear hn
    go_enter Try.func42, Try.ntmps42
    go_wp2_with (first | (go_at_call 48; refine (l1In_any _ _ _ _).mono ?_; rintro e w' ⟨rfl, rfl⟩) | (go_at_call 60; refine (l10Line_any _ _).mono ?_; rintro e w' ⟨rfl, rfl⟩) | fail)
    all_goals exact bodyPost_ret (v := .tuple #[.agg #[.slice none 0 0], .bool false]) (by simp [results, Try.results42, go_sem]) rfl ⟨_, rfl, OwnI.nil _ _ _, by (repeat (first | exact Below.refl _ _ | assumption | refine Below_al ?_ _ | refine Below.drew ?_ | refine Below_then ?_ (by assumption) | refine Below.setCell ?_ (by first | omega | (simp; done) | (simp; omega)) _))⟩
theorem specOrdinaryCells_no (o : Int) (w : World) (hn : ¬ ((0 ≤ o ∧ o ≤ 7))) : Calls Try.prog 16 #[.int .i64 o] w (RegOk w [] false) := by
  have g0 := hn
  clear hn
  go_enter Try.func16, Try.ntmps16
  go_wp2_with (first | (go_at_call 48; refine (l1In_any _ _ _ _).mono ?_; rintro e w' ⟨rfl, rfl⟩) | (go_at_call 60; refine (l10Line_any _ _).mono ?_; rintro e w' ⟨rfl, rfl⟩) | fail)
  all_goals exact bodyPost_ret (v := .tuple #[.agg #[.slice none 0 0], .bool false]) (by simp [results, Try.results16, go_sem]) rfl ⟨_, rfl, OwnI.nil _ _ _, by (repeat (first | exact Below.refl _ _ | assumption | refine Below_al ?_ _ | refine Below.drew ?_ | refine Below_then ?_ (by assumption) | refine Below.setCell ?_ (by first | omega | (simp; done) | (simp; omega)) _))⟩
theorem OrdinaryCells_of (o : Int) (zs : List Int) (ok : Bool) (w : World) (h : ∀ w, Calls Try.prog 41 #[.int .i64 o, .int .i64 0] w (RegOk w zs ok)) :
    Calls Try.prog 15 #[.int .i64 o] w (RegOk w zs ok) := by
  have h' := Lib.hid h
  clear h
  go_enter Try.func15, Try.ntmps15
  go_wp2_with fail
  refine (h'.out _).mono ?_
  rintro e w1 ⟨v, rfl, ho, hb⟩
  obtain ⟨A, c, rfl, -⟩ := ho.form
  obtain ⟨hc1, hf1⟩ := bcell hb
  have hz : w.heap.size < w1.heap.size := by have := hb.size; simp at this; omega
  go_wp2
  exact bodyPost_ret (v := .tuple #[.agg #[.slice A zs.length c], .bool ok]) (by simp [results, Try.results15, go_sem, hc1]) rfl ⟨_, rfl, OwnI.base (ownsRow_setCell_below ho (by first | omega | (simp; done) | (simp; omega)) _) (by first | omega | (simp; done) | (simp; omega)), by (repeat (first | exact Below.refl _ _ | assumption | refine Below_al ?_ _ | refine Below.drew ?_ | refine Below_then ?_ (by assumption) | refine Below.setCell ?_ (by first | omega | (simp; done) | (simp; omega)) _))⟩
end Go.Proofs.Ytfmigkiliggdhaa
