/- Contracts: FreeTinctures, both sides. -/
import Derived.Test.YtpboheaiigbfbaaNear
import Derived.Test.YtpboheaiigbfbaaApp
namespace Go.Proofs.Ytpboheaiigbfbaa
open Go.ChangeShapes Go.WideShapes Go.ChangeAt Go.RowKit
set_option linter.unusedVariables false
set_option linter.unusedSimpArgs false

/-- Numbers in new memory, and whether all is well. -/
def IntsOk (w : World) (zs : List Int) (ok : Bool) (e : Ending) (w' : World) : Prop := ∃ v, e = .returned (.tuple #[v, .bool ok]) ∧ OwnI w' w.heap.size 3 v zs ∧ Below w.heap.size w w'
def tinA (a : ArmsD) (x : Int) : ArmsD := { a with t2 := x }
def freeP (rows : List ArmsD) (a : ArmsD) (i : Nat) : Bool := rows.all fun b => !confl (tinA a ((i : Int) + 1)) b
def freeK (rows : List ArmsD) (a : ArmsD) (k : Nat) : List Int := ((List.range k).filter (freeP rows a)).map fun (i : Nat) => (i : Int) + 1
theorem freeK_yes {rows : List ArmsD} {a : ArmsD} {k : Nat} (h : freeP rows a k = true) : freeK rows a (k + 1) = freeK rows a k ++ [(k : Int) + 1] := by simp [freeK, List.range_succ, h]
theorem freeK_no {rows : List ArmsD} {a : ArmsD} {k : Nat} (h : freeP rows a k = false) : freeK rows a (k + 1) = freeK rows a k := by simp [freeK, List.range_succ, h]
theorem freeK_len (rows : List ArmsD) (a : ArmsD) (k : Nat) : (freeK rows a k).length ≤ k := by
  unfold freeK
  rw [List.length_map]
  exact Nat.le_trans (List.length_filter_le _ _) (by simp)
def freeOk (rows : List ArmsD) (a : ArmsD) : Bool := listOk 16 rows && armsOk a && !groupNone a.c2 a.k2 a.a2 a.t2
def freeL (rows : List ArmsD) (a : ArmsD) : List Int := bif freeOk rows a then freeK rows a 9 else []
theorem freeL_len (rows : List ArmsD) (a : ArmsD) : (freeL rows a).length ≤ 9 := by
  unfold freeL
  cases freeOk rows a
  · simp
  · exact freeK_len rows a 9
theorem freeOk_parts {rows : List ArmsD} {a : ArmsD} (h : freeOk rows a = true) : listOk 16 rows = true ∧ armsOk a = true ∧ groupNone a.c2 a.k2 a.a2 a.t2 = false := by
  unfold freeOk at h
  rw [Bool.and_eq_true, Bool.and_eq_true] at h
  exact ⟨h.1.1, h.1.2, by simpa using h.2⟩
theorem tinA_ok {a : ArmsD} (h : armsOk a = true) (hn : groupNone a.c2 a.k2 a.a2 a.t2 = false) {x : Int} (h1 : 1 ≤ x) (h9 : x ≤ 9) : armsOk (tinA a x) = true := by
  have hg := armsOk_around h
  rw [any_ok hn] at hg
  have hg2 : groupOk a.c2 a.k2 a.a2 x = true := by
    simp only [groupOk, decide_eq_true_eq] at hg ⊢
    omega
  have hn2 : groupNone a.c2 a.k2 a.a2 x = false := by
    simp only [groupOk, decide_eq_true_eq] at hg
    exact none_not (by omega)
  have : armsOk (tinA a x) = armsOk a := by
    unfold armsOk tinA
    rw [any_ok hn, any_ok hn2, hg, hg2]
  rw [this]
  exact h
theorem around_pos {a : ArmsD} (h : armsOk a = true) (hn : groupNone a.c2 a.k2 a.a2 a.t2 = false) : (a.c2 == 0) = false := by
  have hg := armsOk_around h
  rw [any_ok hn] at hg
  simp only [groupOk, decide_eq_true_eq] at hg
  rw [beq_eq_false_iff_ne]
  omega
theorem confl_comm (a b : ArmsD) : confl a b = confl b a := by unfold confl; rw [df_comm]
theorem conflictC (a b : ArmsD) (w : World) (ga : armsOk a = true) (gb : armsOk b = true) : Calls Try.prog 56 #[.agg (ac a).toArray, .agg (ac b).toArray] w fun e w' => e = .returned (.bool (confl a b)) ∧ Below w.heap.size w w' := conflict_any a b w ga gb
theorem l15ConflictC (a b : ArmsD) (w : World) (ga : armsOk a = true) (gb : armsOk b = true) : Calls Try.prog 53 #[.agg (ac a).toArray, .agg (ac b).toArray] w fun e w' => e = .returned (.bool (confl a b)) ∧ Below w.heap.size w w' := l15Conflict_any a b w ga gb
theorem OwnI.none0 (w : World) (B g : Nat) (hg : g = w.heap.size) (hB : B ≤ g) : OwnI (w.alloc (.cells #[] 3)) B 3 (.slice (some ⟨g, 0, none⟩) 0 0) [] :=
  OwnI.blk (zs := []) (heap_hit _ _ _ hg) hB (by simp [maxLen])

set_option maxHeartbeats 2000000 in
theorem specFreeTinctures_no (A : Option Addr) (c : Nat) (rows : List ArmsD) (a : ArmsD) (w : World) (h : RdR 15 w A (acs rows)) (hl : rows.length ≤ 1048576) (hn : freeOk rows a = false) :
    Calls Try.prog 24 #[.slice A rows.length c, .agg (ac a).toArray] w (IntsOk w (freeL rows a) (freeOk rows a)) := by
  have e1 : freeL rows a = [] := by simp [freeL, hn]
  rw [e1, hn]
  have KL := fun (w' : World) (hb : Below w.heap.size w w') => l15List_any A c rows w' (h.below hb) hl
  have KA := fun w' => l5GoodC a w'
  unfold freeOk at hn
  clear e1 h
  cases q : listOk 16 rows
  · rw [q] at KL
    have KL' := Lib.hid KL
    clear KL KA hn q
    go_enter Try.func24, Try.ntmps24
    go_wp2_with (first | (go_at_call 49; refine (KL'.out _ (by (repeat (first | exact Below.refl _ _ | assumption | refine Below_al ?_ _ | refine Below.drew ?_ | refine Below_then ?_ (by assumption) | refine Below.setCell ?_ (by first | omega | (simp; done) | (simp; omega)) _)))).mono ?_; rintro e w1 ⟨rfl, hb1⟩; have hO := (OwnI.none0 (w.alloc (.cells (ac a).toArray 34)) w.heap.size (w.heap.size + 1) (by simp) (by omega)).below hb1) | fail)
    go_ret2
    exact ⟨_, rfl, hO, by (repeat (first | exact Below.refl _ _ | assumption | refine Below_al ?_ _ | refine Below.drew ?_ | refine Below_then ?_ (by assumption) | refine Below.setCell ?_ (by first | omega | (simp; done) | (simp; omega)) _))⟩
  · cases q2 : armsOk a
    · rw [q] at KL
      rw [q2] at KA
      have KL' := Lib.hid KL
      have KA' := Lib.hid KA
      clear KL KA hn q q2
      go_enter Try.func24, Try.ntmps24
      go_wp2_with (first | (go_at_call 49; refine (KL'.out _ (by (repeat (first | exact Below.refl _ _ | assumption | refine Below_al ?_ _ | refine Below.drew ?_ | refine Below_then ?_ (by assumption) | refine Below.setCell ?_ (by first | omega | (simp; done) | (simp; omega)) _)))).mono ?_; rintro e w1 ⟨rfl, hb1⟩; have hr := blk_cells (heap_keepB (heap_keepA (heap_hit _ _ _ rfl) _) hb1); have hO := (OwnI.none0 (w.alloc (.cells (ac a).toArray 34)) w.heap.size (w.heap.size + 1) (by simp) (by omega)).below hb1) | (go_at_call 36; refine (KA'.out _).mono ?_; rintro e w2 ⟨rfl, hb2⟩; have hO := hO.below hb2; obtain ⟨hc2, hf2⟩ := bcell hb2; have hz2 : w.heap.size < w1.heap.size := Nat.lt_of_lt_of_le (by first | omega | (simp; done) | (simp; omega)) hb1.size) | fail)
      go_ret2
      exact ⟨_, rfl, hO, by (repeat (first | exact Below.refl _ _ | assumption | refine Below_al ?_ _ | refine Below.drew ?_ | refine Below_then ?_ (by assumption) | refine Below.setCell ?_ (by first | omega | (simp; done) | (simp; omega)) _))⟩
    · rw [q] at KL
      rw [q2] at KA
      rw [q, q2, Bool.true_and, Bool.true_and, Bool.not_eq_false'] at hn
      have KL' := Lib.hid KL
      have KA' := Lib.hid KA
      have HN := Lib.hid hn
      obtain ⟨z1, z2, z3, z4⟩ : a.c2 = 0 ∧ a.k2 = 0 ∧ a.a2 = 0 ∧ a.t2 = 0 := by simpa [groupNone] using hn
      have HZ := Lib.hid (show (a.c2 == 0) = true ∧ (a.k2 == 0) = true ∧ (a.a2 == 0) = true ∧ (a.t2 == 0) = true by simp [z1, z2, z3, z4])
      have y1 := HZ.out.1
      have y2 := HZ.out.2.1
      have y3 := HZ.out.2.2.1
      have y4 := HZ.out.2.2.2
      rw [groupNone] at hn
      clear KL KA q q2 z1 z2 z3 z4 hn
      go_enter Try.func24, Try.ntmps24
      go_wp2_with (first | (go_at_call 49; refine (KL'.out _ (by (repeat (first | exact Below.refl _ _ | assumption | refine Below_al ?_ _ | refine Below.drew ?_ | refine Below_then ?_ (by assumption) | refine Below.setCell ?_ (by first | omega | (simp; done) | (simp; omega)) _)))).mono ?_; rintro e w1 ⟨rfl, hb1⟩; have hr := blk_cells (heap_keepB (heap_keepA (heap_hit _ _ _ rfl) _) hb1); have hO := (OwnI.none0 (w.alloc (.cells (ac a).toArray 34)) w.heap.size (w.heap.size + 1) (by simp) (by omega)).below hb1) | (go_at_call 36; refine (KA'.out _).mono ?_; rintro e w2 ⟨rfl, hb2⟩; have hO := hO.below hb2; obtain ⟨hc2, hf2⟩ := bcell hb2; have hz2 : w.heap.size < w1.heap.size := Nat.lt_of_lt_of_le (by first | omega | (simp; done) | (simp; omega)) hb1.size) | (go_at_call 42; refine ((l4None_any _ _ _ _ _)).mono ?_; rw [HN.out]; rintro e w3 ⟨rfl, hb3⟩; have hO := hO.below hb3) | fail)
      go_ret2
      exact ⟨_, rfl, hO, by (repeat (first | exact Below.refl _ _ | assumption | refine Below_al ?_ _ | refine Below.drew ?_ | refine Below_then ?_ (by assumption) | refine Below.setCell ?_ (by first | omega | (simp; done) | (simp; omega)) _))⟩

set_option maxHeartbeats 2000000 in
theorem implFreeTinctures_no (A : Option Addr) (c : Nat) (rows : List ArmsD) (a : ArmsD) (w : World) (h : RdR 15 w A (acs rows)) (hl : rows.length ≤ 1048576) (hn : freeOk rows a = false) :
    Calls Try.prog 25 #[.slice A rows.length c, .agg (ac a).toArray] w (IntsOk w (freeL rows a) (freeOk rows a)) := by
  have e1 : freeL rows a = [] := by simp [freeL, hn]
  rw [e1, hn]
  have KL := fun (w' : World) (hb : Below w.heap.size w w') => areArms_any A c 16 rows w' (h.below hb) hl (by omega)
  have KA := fun w' => IsValidArmsC a w'
  unfold freeOk at hn
  clear e1 h
  cases q : listOk 16 rows
  · rw [q] at KL
    have KL' := Lib.hid KL
    clear KL KA hn q
    go_enter Try.func25, Try.ntmps25
    go_wp2_with (first | (go_at_call 51; refine (KL'.out _ (by (repeat (first | exact Below.refl _ _ | assumption | refine Below_al ?_ _ | refine Below.drew ?_ | refine Below_then ?_ (by assumption) | refine Below.setCell ?_ (by first | omega | (simp; done) | (simp; omega)) _)))).mono ?_; rintro e w1 ⟨rfl, hb1⟩; have hO := OwnI.nil w1 w.heap.size 3) | fail)
    go_ret2
    exact ⟨_, rfl, hO, by (repeat (first | exact Below.refl _ _ | assumption | refine Below_al ?_ _ | refine Below.drew ?_ | refine Below_then ?_ (by assumption) | refine Below.setCell ?_ (by first | omega | (simp; done) | (simp; omega)) _))⟩
  · cases q2 : armsOk a
    · rw [q] at KL
      rw [q2] at KA
      have KL' := Lib.hid KL
      have KA' := Lib.hid KA
      clear KL KA hn q q2
      go_enter Try.func25, Try.ntmps25
      go_wp2_with (first | (go_at_call 51; refine (KL'.out _ (by (repeat (first | exact Below.refl _ _ | assumption | refine Below_al ?_ _ | refine Below.drew ?_ | refine Below_then ?_ (by assumption) | refine Below.setCell ?_ (by first | omega | (simp; done) | (simp; omega)) _)))).mono ?_; rintro e w1 ⟨rfl, hb1⟩; have hr := blk_cells (heap_keepB (heap_hit _ _ _ rfl) hb1); have hO := OwnI.nil w1 w.heap.size 3) | (go_at_call 39; refine (KA'.out _).mono ?_; rintro e w2 ⟨rfl, hb2⟩; have hO := hO.below hb2; obtain ⟨hc2, hf2⟩ := bcell hb2; have hz2 : w.heap.size < w1.heap.size := Nat.lt_of_lt_of_le (by first | omega | (simp; done) | (simp; omega)) hb1.size) | fail)
      go_ret2
      exact ⟨_, rfl, hO, by (repeat (first | exact Below.refl _ _ | assumption | refine Below_al ?_ _ | refine Below.drew ?_ | refine Below_then ?_ (by assumption) | refine Below.setCell ?_ (by first | omega | (simp; done) | (simp; omega)) _))⟩
    · rw [q] at KL
      rw [q2] at KA
      rw [q, q2, Bool.true_and, Bool.true_and, Bool.not_eq_false'] at hn
      have KL' := Lib.hid KL
      have KA' := Lib.hid KA
      have HN := Lib.hid hn
      obtain ⟨z1, z2, z3, z4⟩ : a.c2 = 0 ∧ a.k2 = 0 ∧ a.a2 = 0 ∧ a.t2 = 0 := by simpa [groupNone] using hn
      have HZ := Lib.hid (show (a.c2 == 0) = true ∧ (a.k2 == 0) = true ∧ (a.a2 == 0) = true ∧ (a.t2 == 0) = true by simp [z1, z2, z3, z4])
      have y1 := HZ.out.1
      have y2 := HZ.out.2.1
      have y3 := HZ.out.2.2.1
      have y4 := HZ.out.2.2.2
      rw [groupNone] at hn
      clear KL KA q q2 z1 z2 z3 z4 hn
      go_enter Try.func25, Try.ntmps25
      go_wp2_with (first | (go_at_call 51; refine (KL'.out _ (by (repeat (first | exact Below.refl _ _ | assumption | refine Below_al ?_ _ | refine Below.drew ?_ | refine Below_then ?_ (by assumption) | refine Below.setCell ?_ (by first | omega | (simp; done) | (simp; omega)) _)))).mono ?_; rintro e w1 ⟨rfl, hb1⟩; have hr := blk_cells (heap_keepB (heap_hit _ _ _ rfl) hb1); have hO := OwnI.nil w1 w.heap.size 3) | (go_at_call 39; refine (KA'.out _).mono ?_; rintro e w2 ⟨rfl, hb2⟩; have hO := hO.below hb2; obtain ⟨hc2, hf2⟩ := bcell hb2; have hz2 : w.heap.size < w1.heap.size := Nat.lt_of_lt_of_le (by first | omega | (simp; done) | (simp; omega)) hb1.size) | fail | fail)
      go_ret2
      exact ⟨_, rfl, hO, by (repeat (first | exact Below.refl _ _ | assumption | refine Below_al ?_ _ | refine Below.drew ?_ | refine Below_then ?_ (by assumption) | refine Below.setCell ?_ (by first | omega | (simp; done) | (simp; omega)) _))⟩
end Go.Proofs.Ytpboheaiigbfbaa
