/- Contracts: slices of arms: equality, sizes, marks. -/
import Derived.Test.YtjodoljgpdbimaaRArms
namespace Go.Proofs.Ytjodoljgpdbimaa
open Go.ChangeShapes Go.WideShapes Go.ChangeAt Go.RowKit
set_option linter.unusedVariables false
set_option linter.unusedSimpArgs false

theorem eqField_same (d l p q : Int) (w : World) :
    Calls Try.prog 28 #[.agg #[.int .i64 d, .int .i64 l, .int .i64 p, .int .i64 q], .agg #[.int .i64 d, .int .i64 l, .int .i64 p, .int .i64 q]] w fun e w' => e = .returned (.bool true) ∧ Below w.heap.size w w' := by
  go_enter Try.func28, Try.ntmps28
  go_wp2
  go_ret
  exact ⟨rfl, by (repeat (first | exact Below.refl _ _ | assumption | refine Below_al ?_ _ | refine Below.drew ?_ | refine Below_then ?_ (by assumption) | refine Below.setCell ?_ (by first | omega | (simp; done) | (simp; omega)) _))⟩
theorem eqGroup_same (d l p q : Int) (w : World) :
    Calls Try.prog 29 #[.agg #[.int .i64 d, .int .i64 l, .int .i64 p, .int .i64 q], .agg #[.int .i64 d, .int .i64 l, .int .i64 p, .int .i64 q]] w fun e w' => e = .returned (.bool true) ∧ Below w.heap.size w w' := by
  go_enter Try.func29, Try.ntmps29
  go_wp2
  go_ret
  exact ⟨rfl, by (repeat (first | exact Below.refl _ _ | assumption | refine Below_al ?_ _ | refine Below.drew ?_ | refine Below_then ?_ (by assumption) | refine Below.setCell ?_ (by first | omega | (simp; done) | (simp; omega)) _))⟩
set_option maxHeartbeats 4000000 in
theorem eqArms_same (a : ArmsD) (w : World) :
    Calls Try.prog 8 #[.agg #[.int .i64 a.d, .int .i64 a.l, .int .i64 a.p, .int .i64 a.q, .int .i64 a.o, .int .i64 a.li, .int .i64 a.t, .int .i64 a.c1, .int .i64 a.k1, .int .i64 a.a1, .int .i64 a.t1, .int .i64 a.c2, .int .i64 a.k2, .int .i64 a.a2, .int .i64 a.t2], .agg #[.int .i64 a.d, .int .i64 a.l, .int .i64 a.p, .int .i64 a.q, .int .i64 a.o, .int .i64 a.li, .int .i64 a.t, .int .i64 a.c1, .int .i64 a.k1, .int .i64 a.a1, .int .i64 a.t1, .int .i64 a.c2, .int .i64 a.k2, .int .i64 a.a2, .int .i64 a.t2]] w fun e w' => e = .returned (.bool true) ∧ Below w.heap.size w w' := by
  go_enter Try.func8, Try.ntmps8
  go_wp2_with (first | (go_at_call 28; refine (eqField_same _ _ _ _ _).mono ?_; rintro e w1 ⟨rfl, hb1⟩; obtain ⟨hc1, hf1⟩ := bcell hb1; have hz1 : w.heap.size + 1 < w1.heap.size := Nat.lt_of_lt_of_le (by first | assumption | simp) hb1.size; have hy1 : w.heap.size < w1.heap.size := Nat.lt_of_succ_lt hz1) | (go_at_call 29; refine (eqGroup_same _ _ _ _ _).mono ?_; rintro e w1 ⟨rfl, hb1⟩; obtain ⟨hc1, hf1⟩ := bcell hb1; have hz1 : w.heap.size + 1 < w1.heap.size := Nat.lt_of_lt_of_le (by first | assumption | simp) hb1.size; have hy1 : w.heap.size < w1.heap.size := Nat.lt_of_succ_lt hz1) | fail)
  go_ret
  exact ⟨rfl, by (repeat (first | exact Below.refl _ _ | assumption | refine Below_al ?_ _ | refine Below.drew ?_ | refine Below_then ?_ (by assumption) | refine Below.setCell ?_ (by first | omega | (simp; done) | (simp; omega)) _))⟩
theorem eqArmsC (a : ArmsD) (w : World) : Calls Try.prog 8 #[.agg (ac a).toArray, .agg (ac a).toArray] w fun e w' => e = .returned (.bool true) ∧ Below w.heap.size w w' := eqArms_same a w
theorem ac_cells {w : World} (a : ArmsD) (b o : Nat) (h : w.rangeAt b o (ac a)) : w.cell? ⟨b, o, none⟩ = some (.int .i64 a.d) ∧ w.cell? ⟨b, o + 1, none⟩ = some (.int .i64 a.l) ∧ w.cell? ⟨b, o + 2, none⟩ = some (.int .i64 a.p) ∧ w.cell? ⟨b, o + 3, none⟩ = some (.int .i64 a.q) ∧ w.cell? ⟨b, o + 4, none⟩ = some (.int .i64 a.o) ∧ w.cell? ⟨b, o + 5, none⟩ = some (.int .i64 a.li) ∧ w.cell? ⟨b, o + 6, none⟩ = some (.int .i64 a.t) ∧ w.cell? ⟨b, o + 7, none⟩ = some (.int .i64 a.c1) ∧ w.cell? ⟨b, o + 8, none⟩ = some (.int .i64 a.k1) ∧ w.cell? ⟨b, o + 9, none⟩ = some (.int .i64 a.a1) ∧ w.cell? ⟨b, o + 10, none⟩ = some (.int .i64 a.t1) ∧ w.cell? ⟨b, o + 11, none⟩ = some (.int .i64 a.c2) ∧ w.cell? ⟨b, o + 12, none⟩ = some (.int .i64 a.k2) ∧ w.cell? ⟨b, o + 13, none⟩ = some (.int .i64 a.a2) ∧ w.cell? ⟨b, o + 14, none⟩ = some (.int .i64 a.t2) :=
  ⟨h 0 _ rfl, h 1 _ rfl, h 2 _ rfl, h 3 _ rfl, h 4 _ rfl, h 5 _ rfl, h 6 _ rfl, h 7 _ rfl, h 8 _ rfl, h 9 _ rfl, h 10 _ rfl, h 11 _ rfl, h 12 _ rfl, h 13 _ rfl, h 14 _ rfl⟩
theorem heldRR {a w w' : World} {b o b' o' : Nat} {u u' : List Value} (h : w.rangeAt b o u ∧ w.rangeAt b' o' u' ∧ Below a.heap.size a w) (hb : Below w.heap.size w w') : w'.rangeAt b o u ∧ w'.rangeAt b' o' u' ∧ Below a.heap.size a w' :=
  ⟨rangeAt_below h.1 hb, rangeAt_below h.2.1 hb, Below_then h.2.2 hb⟩
set_option maxHeartbeats 1000000 in
theorem eqArmsS_same (A A' : Option Addr) (c c' : Nat) (rows : List ArmsD) (w : World) (h1 : RdR 15 w A (acs rows)) (h2 : RdR 15 w A' (acs rows)) (hl : rows.length ≤ 1048576) :
    Calls Try.prog 14 #[.slice A rows.length c, .slice A' rows.length c'] w fun e w' => e = .returned (.bool true) ∧ Below w.heap.size w w' := by
  have hd : ((rows.length : Int) != (rows.length : Int)) = false := by simp
  go_enter Try.func14, Try.ntmps14
  go_wp2_with fail
  clear hd
  go_loopw [5] (fun i wr => ∃ k : Nat, k ≤ rows.length ∧ i = .int .i64 k ∧ Below w.heap.size w wr) (fun i _ => rows.length - (intOf i).toNat)
  case atStart => exact ⟨0, by omega, rfl, Below.refl _ _⟩
  case round =>
    obtain ⟨k, hk, rfl, hb⟩ := hrel
    by_cases hlt : k < rows.length
    · obtain ⟨a, ha⟩ := arms_at hlt
      obtain ⟨b, off, rfl, hr1, -⟩ := (h1.below hb).arms ha
      obtain ⟨b', off', rfl, hr2, -⟩ := (h2.below hb).arms ha
      have i1 : (k : Int) < (rows.length : Int) := by omega
      have d1 : decide (k < rows.length) = true := by simpa using hlt
      clear h1 h2
      go_wp2_with fail
      refine wp_region_noPanic ?_
      refine wp_region_held_drew (S := (fun w' => w'.rangeAt b (off + k * 15) (ac a) ∧ w'.rangeAt b' (off' + k * 15) (ac a) ∧ Below wr.heap.size wr w')) (by kernel_rfl) ⟨hr1, hr2, (Below.refl _ _).drew⟩ (fun hHeld => ?_)
      refine wpAnyH_take (i := 0) (oi := _) (v := ?_) rfl (by kernel_rfl) (by kernel_rfl) (by kernel_rfl) (fun _ _ _ h => h) (Or.inl ⟨by rfl, ?_⟩) (by assumption) ?_
      rotate_left
      · intro w hSw; clear hSw; first | (go_simp; done) | (go_simp; with_reducible rfl)
      simp only [Act.put, List.getElem_toArray, List.getElem_cons_succ, List.getElem_cons_zero, List.setIfInBounds_toArray, List.set_cons_zero, List.set_cons_succ]
      refine wpAnyH_take (i := 1) (oi := _) (v := ?_) rfl (by kernel_rfl) (by kernel_rfl) (by kernel_rfl) (fun _ _ _ h => h) (Or.inl ⟨by rfl, ?_⟩) (by assumption) ?_
      rotate_left
      · intro w hSw; clear hSw; first | (go_simp; done) | (go_simp; with_reducible rfl)
      simp only [Act.put, List.getElem_toArray, List.getElem_cons_succ, List.getElem_cons_zero, List.setIfInBounds_toArray, List.set_cons_zero, List.set_cons_succ]
      refine wpAnyH_take (i := 2) (oi := _) (v := ?_) rfl (by kernel_rfl) (by kernel_rfl) (by kernel_rfl) (fun _ _ _ h => h) (Or.inl ⟨by rfl, ?_⟩) (by assumption) ?_
      rotate_left
      · intro w hSw; clear hSw; first | (go_simp; done) | (go_simp; with_reducible rfl)
      simp only [Act.put, List.getElem_toArray, List.getElem_cons_succ, List.getElem_cons_zero, List.setIfInBounds_toArray, List.set_cons_zero, List.set_cons_succ]
      refine wpAnyH_take (i := 3) (oi := _) (v := _) rfl ?g1_3 ?g2_3 ?g3_3 (fun _ _ _ h => h) (yieldsIf_load_mid ?g4_3 _ _ rfl b ?oo_3 ?g5_3 (ac a) _ ?g6_3 Try.underlying31 rfl (info_ac a)) ?g7_3 ?_
      case g5_3 => rfl
      case g1_3 => kernel_rfl
      case g2_3 => kernel_rfl
      case g3_3 => kernel_rfl
      case g6_3 => exact (fun _ h => h.1)
      case g4_3 => kernel_rfl
      case g7_3 => assumption
      simp only [Act.put, List.getElem_toArray, List.getElem_cons_succ, List.getElem_cons_zero, List.setIfInBounds_toArray, List.set_cons_zero, List.set_cons_succ]
      refine wpAnyH_take (i := 4) (oi := _) (v := ?_) rfl (by kernel_rfl) (by kernel_rfl) (by kernel_rfl) (fun _ _ _ h => h) (Or.inl ⟨by rfl, ?_⟩) (by assumption) ?_
      rotate_left
      · intro w hSw; clear hSw; first | (go_simp; done) | (go_simp; with_reducible rfl)
      simp only [Act.put, List.getElem_toArray, List.getElem_cons_succ, List.getElem_cons_zero, List.setIfInBounds_toArray, List.set_cons_zero, List.set_cons_succ]
      refine wpAnyH_take (i := 5) (oi := _) (v := ?_) rfl (by kernel_rfl) (by kernel_rfl) (by kernel_rfl) (fun _ _ _ h => h) (Or.inl ⟨by rfl, ?_⟩) (by assumption) ?_
      rotate_left
      · intro w hSw; clear hSw; first | (go_simp; done) | (go_simp; with_reducible rfl)
      simp only [Act.put, List.getElem_toArray, List.getElem_cons_succ, List.getElem_cons_zero, List.setIfInBounds_toArray, List.set_cons_zero, List.set_cons_succ]
      refine wpAnyH_take (i := 6) (oi := _) (v := ?_) rfl (by kernel_rfl) (by kernel_rfl) (by kernel_rfl) (fun _ _ _ h => h) (Or.inl ⟨by rfl, ?_⟩) (by assumption) ?_
      rotate_left
      · intro w hSw; clear hSw; first | (go_simp; done) | (go_simp; with_reducible rfl)
      simp only [Act.put, List.getElem_toArray, List.getElem_cons_succ, List.getElem_cons_zero, List.setIfInBounds_toArray, List.set_cons_zero, List.set_cons_succ]
      refine wpAnyH_take (i := 7) (oi := _) (v := _) rfl ?g1_7 ?g2_7 ?g3_7 (fun _ _ _ h => h) (yieldsIf_load_mid ?g4_7 _ _ rfl b' ?oo_7 ?g5_7 (ac a) _ ?g6_7 Try.underlying31 rfl (info_ac a)) ?g7_7 ?_
      case g5_7 => rfl
      case g1_7 => kernel_rfl
      case g2_7 => kernel_rfl
      case g3_7 => kernel_rfl
      case g6_7 => exact (fun _ h => h.2.1)
      case g4_7 => kernel_rfl
      case g7_7 => assumption
      simp only [Act.put, List.getElem_toArray, List.getElem_cons_succ, List.getElem_cons_zero, List.setIfInBounds_toArray, List.set_cons_zero, List.set_cons_succ]
      refine wpAnyH_ready (rs := [8]) (by kernel_rfl) (by simp) ?_
      refine AllReadyH.cons (o := _) rfl (fun K hK => ?_) AllReadyH.nil
      go_simp
      refine (eqArmsC a _).mono ?_
      rintro e w1 ⟨rfl, hb1⟩
      go_wp2_with fail
      refine hK.out _ _ (heldRR hHeld hb1) (fun hHeld => ?_)
      clear hK K
      try simp only [Act.put, List.getElem_toArray, List.getElem_cons_succ, List.getElem_cons_zero, List.setIfInBounds_toArray, List.set_cons_zero, List.set_cons_succ]
      refine wpAnyH_take (i := 9) (oi := _) (v := ?_) rfl (by kernel_rfl) (by kernel_rfl) (by kernel_rfl) (fun _ _ _ h => h) (Or.inl ⟨by rfl, ?_⟩) (by assumption) ?_
      rotate_left
      · intro w hSw; clear hSw; first | (go_simp; done) | (go_simp; with_reducible rfl)
      simp only [Act.put, List.getElem_toArray, List.getElem_cons_succ, List.getElem_cons_zero, List.setIfInBounds_toArray, List.set_cons_zero, List.set_cons_succ]
      refine wpAnyH_done (by kernel_rfl) ?_ _
      refine NoPanic.normal ?_
      go_wp2
      go_roundw
      case rel =>
        obtain ⟨-, -, sb⟩ : _ ∧ _ ∧ Below wr.heap.size wr _ := (by assumption)
        exact ⟨k + 1, by omega, by go_num, Below_then hb sb⟩
      case measure => simp [intOf]; omega
    · obtain rfl : k = rows.length := by omega
      have d1 : decide (rows.length < rows.length) = false := by simp
      go_wp2
      go_ret
      exact ⟨rfl, hb⟩
theorem szArmsS_any (A : Option Addr) (n c : Nat) (left : Int) (w : World) (hl : 0 ≤ left ∧ left ≤ 1099511627776) (hm : n ≤ maxLen) :
    Calls Try.prog 9 #[.slice A n c, .int .i64 left] w fun e w' => e = .returned (.int .i64 (if (n : Int) ≤ left then left - n else -1)) ∧ w = w' := by
  unfold maxLen at hm
  by_cases h : (n : Int) ≤ left
  all_goals
    go_enter Try.func9, Try.ntmps9
    go_wp2
    go_ret
    exact ⟨by first | rfl | simp, rfl⟩
theorem info_i : (Try.prog.info? 3).map (·.size) = some 1 := by kernel_rfl
/-- Block g has N cells, and nothing but it has turned since w. -/
def BlkG (w : World) (g N : Nat) (wr : World) : Prop := Blk wr g N ∧ w.grownBy wr (some g)
section
variable {P : Program} {ops : Array Oper} {rest : List Oper} {op : Oper} {a : Act} {w : World} {Q : Exit → Act → World → Prop}
theorem wpList_store_blkG (hgd : op.guard = none) (ty : TypeId) (x y : Operand) (ho : op.op = .store ty x y) (W : World) (g N i : Nat) (v : Value) (hb : BlkG W g N w) (hx : a.eval x = .pointer (some ⟨g, i, none⟩)) (hi : i < N) (hy : a.eval y = v)
    (hv : v.cells = #[v]) (hs : (P.info? ty).map (·.size) = some 1) (h1 : v.oneCell' = true)
    (h : ∀ w', BlkG W g N w' → wpList P ops Q rest (a.put op.dst undef) w') : wpList P ops Q (op :: rest) a w :=
  wpList_store_blk hgd ty x y ho g N i v hb.1 hi hx hy hv hs h1 fun w' h1 h2 => h w' ⟨h1, grownBy_trans hb.2 h2⟩
end
def MarkN (w : World) (g : Nat) (k0 : Int) (n : Nat) (e : Ending) (w' : World) : Prop := e = .returned (.int .i64 (k0 + 15 * n)) ∧ w.grownBy w' (some g)
set_option maxHeartbeats 4000000 in
set_option maxRecDepth 100000 in
theorem markArmsS_any (g n c : Nat) (k0 : Int) (w : World) (h : Blk w g (n * 15)) (hn : n ≤ 1048576) (hk0 : 0 ≤ k0) (hk1 : k0 ≤ 1048576) :
    Calls Try.prog 15 #[.slice (some ⟨g, 0, none⟩) n c, .int .i64 k0] w (MarkN w g k0 n) := by
  have hI := info_i
  go_enter Try.func15, Try.ntmps15
  go_wp2_with fail
  go_loopw [1, 5] (fun kk i wr => ∃ k : Nat, k ≤ n ∧ i = .int .i64 k ∧ kk = .int .i64 (k0 + 15 * k) ∧ BlkG w g (n * 15) wr) (fun _ i _ => n - (intOf i).toNat)
  case atStart => exact ⟨0, Nat.zero_le _, rfl, by simp, h, World.grownBy.refl _ _⟩
  case round =>
    clear h
    obtain ⟨k, hk, rfl, rfl, hbk⟩ := hrel
    by_cases hlt : k < n
    · have i1 : (k : Int) < (n : Int) := by omega
      have d1 : decide (k < n) = true := by simpa using hlt
      go_wp2_with (refine wpList_store_blkG rfl 3 _ _ rfl w g (n * 15) _ _ (by assumption) rfl ?hi rfl rfl hI rfl ?_; (case hi => omega); clear hbk; intro wn hbk)
      go_roundw
      case rel => exact ⟨k + 1, by omega, by go_num, by go_num, hbk⟩
      case measure => simp [intOf]; omega
    · obtain rfl : k = n := by omega
      have d1 : decide (k < k) = false := by simp
      go_wp2
      go_ret
      exact ⟨rfl, hbk.2⟩
end Go.Proofs.Ytjodoljgpdbimaa
