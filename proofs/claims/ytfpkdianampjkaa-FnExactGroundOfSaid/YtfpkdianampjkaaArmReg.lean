/- Contracts: the region of an ordinary and the ground, both sides. -/
import Derived.Test.YtfpkdianampjkaaArms
import Derived.Test.YtfpkdianampjkaaRegion
import Derived.Test.YtfpkdianampjkaaParts2
import Derived.Test.YtfpkdianampjkaaParts3
namespace Go.Proofs.Ytfpkdianampjkaa
open Go.ChangeShapes Go.WideShapes Go.ChangeAt Go.RowKit
set_option linter.unusedVariables false

theorem armsOk_ord {a : ArmsD} (h : armsOk a = true) : (0 ≤ a.o ∧ a.o ≤ 7) ∧ (0 ≤ a.li ∧ a.li ≤ 4) := by
  unfold armsOk at h
  rw [Bool.and_eq_true, Bool.and_eq_true] at h
  have h2 := h.2
  split at h2
  · rw [Bool.and_eq_true, Bool.and_eq_true, decide_eq_true_iff, decide_eq_true_iff] at h2
    omega
  · rw [Bool.and_eq_true] at h2
    have h3 := h2.1
    unfold ordOk at h3
    rw [decide_eq_true_iff] at h3
    omega
theorem covB_zero (l x y : Int) : covB 0 l x y = false := rfl
/-- What belongs to the ordinary (g false) or to the ground (g true). -/
def ordG (a : ArmsD) (g : Bool) (x y : Int) : Bool := covB a.o a.li x y != g
theorem cf_band (args : Array Value) (w : World) : (callFunc 103 args).run Try.prog w = .ok (.enter 103 args) w := by kernel_rfl
theorem band_cl (D : Nat) (a : ArmsD) (x y : Int) (w : World) (ho : 0 ≤ a.o ∧ a.o ≤ 7) (hl : 0 ≤ a.li ∧ a.li ≤ 4) (hx0 : 0 ≤ x) (hx1 : x ≤ 19) (hy0 : 0 ≤ y) (hy1 : y ≤ 23) (c1 : w.cell? ⟨D, 4, none⟩ = some (.int .i64 a.o)) (c2 : w.cell? ⟨D, 5, none⟩ = some (.int .i64 a.li)) :
    Calls Try.prog 103 #[.int .i64 x, .int .i64 y, .pointer (some ⟨D, 0, none⟩)] w fun e w' => e = .returned (.bool (ordG a false x y)) ∧ Below w.heap.size w w' := by
  have K := fun w => covers_any a.o a.li x y ho.1 ho.2 hl.1 hl.2 hx0 hx1 hy0 hy1 w
  unfold ordG
  generalize covB a.o a.li x y = z at *
  have K' := Lib.hid K
  clear K ho hl
  cases z
  all_goals
    go_enter Try.func103, Try.ntmps103
    go_wp2_with (first | (go_at_call 104; refine (K'.out _).mono ?_; rintro e w1 ⟨rfl, hb1⟩) | fail)
    go_ret
    exact ⟨rfl, hb1⟩
set_option maxHeartbeats 2000000 in
theorem band_any (a : ArmsD) (w : World) (ga : armsOk a = true) : Calls Try.prog 69 #[.agg #[.int .i64 a.d, .int .i64 a.l, .int .i64 a.p, .int .i64 a.q, .int .i64 a.o, .int .i64 a.li, .int .i64 a.t, .int .i64 a.c1, .int .i64 a.k1, .int .i64 a.a1, .int .i64 a.t1, .int .i64 a.c2, .int .i64 a.k2, .int .i64 a.a2, .int .i64 a.t2]] w (RegPost w (regRows (ordG a false))) := by
  obtain ⟨ho, hl⟩ := armsOk_ord ga
  have HC : ∀ (x y : Int) (w' : World), 0 ≤ x → x ≤ 19 → 0 ≤ y → y ≤ 23 → Below ((w.alloc (Obj.cells #[.int .i64 a.d, .int .i64 a.l, .int .i64 a.p, .int .i64 a.q, .int .i64 a.o, .int .i64 a.li, .int .i64 a.t, .int .i64 a.c1, .int .i64 a.k1, .int .i64 a.a1, .int .i64 a.t1, .int .i64 a.c2, .int .i64 a.k2, .int .i64 a.a2, .int .i64 a.t2] 33)).alloc (Obj.cells #[.slice none 0 0] 48)).heap.size ((w.alloc (Obj.cells #[.int .i64 a.d, .int .i64 a.l, .int .i64 a.p, .int .i64 a.q, .int .i64 a.o, .int .i64 a.li, .int .i64 a.t, .int .i64 a.c1, .int .i64 a.k1, .int .i64 a.a1, .int .i64 a.t1, .int .i64 a.c2, .int .i64 a.k2, .int .i64 a.a2, .int .i64 a.t2] 33)).alloc (Obj.cells #[.slice none 0 0] 48)) w' → Calls Try.prog 103 (#[.int .i64 x, .int .i64 y] ++ #[.pointer (some ⟨w.heap.size, 0, none⟩)]) w' fun e w'' => e = .returned (.bool (ordG a false x y)) ∧ Below w'.heap.size w' w'' := by
    intro x y w' a1 a2 a3 a4 hb
    show Calls Try.prog 103 #[.int .i64 x, .int .i64 y, .pointer (some ⟨w.heap.size, 0, none⟩)] w' _
    have hF : w'.heap[w.heap.size]? = some (.cells #[.int .i64 a.d, .int .i64 a.l, .int .i64 a.p, .int .i64 a.q, .int .i64 a.o, .int .i64 a.li, .int .i64 a.t, .int .i64 a.c1, .int .i64 a.k1, .int .i64 a.a1, .int .i64 a.t1, .int .i64 a.c2, .int .i64 a.k2, .int .i64 a.a2, .int .i64 a.t2] 33 (0, 0)) := heap_keepB (heap_keepA (heap_hit _ _ _ rfl) _) hb
    exact band_cl w.heap.size a x y w' ho hl a1 a2 a3 a4 (cell_of hF 4) (cell_of hF 5)
  have HC' := Lib.hid HC
  clear HC ga ho hl
  go_enter Try.func69, Try.ntmps69
  go_wp2_with fail
  refine (regionOf_any 103 #[.pointer (some ⟨w.heap.size, 0, none⟩)] (ordG a false) _ cf_band HC'.out).mono ?_
  rintro e w1 ⟨v, rfl, ho, hb⟩
  obtain ⟨A, c, rfl, -⟩ := ho.form
  obtain ⟨hc1, hf1⟩ := bcell hb
  have hz : w.heap.size + 1 < w1.heap.size := by have := hb.size; simp at this; omega
  go_wp2
  exact bodyPost_ret (v := .agg #[.slice A (regRows (ordG a false)).length c]) (by simp [results, Try.results69, go_sem, hc1]) rfl ⟨_, rfl, OwnI.base (ownsRow_setCell_below ho (by first | omega | (simp; done) | (simp; omega)) _) (by first | omega | (simp; done) | (simp; omega)), by (repeat (first | exact Below.refl _ _ | assumption | refine Below_al ?_ _ | refine Below.drew ?_ | refine Below_then ?_ (by assumption) | refine Below.setCell ?_ (by first | omega | (simp; done) | (simp; omega)) _))⟩
theorem cf_ground (args : Array Value) (w : World) : (callFunc 105 args).run Try.prog w = .ok (.enter 105 args) w := by kernel_rfl
theorem ground_cl (D : Nat) (a : ArmsD) (x y : Int) (w : World) (ho : 0 ≤ a.o ∧ a.o ≤ 7) (hl : 0 ≤ a.li ∧ a.li ≤ 4) (hx0 : 0 ≤ x) (hx1 : x ≤ 19) (hy0 : 0 ≤ y) (hy1 : y ≤ 23) (c1 : w.cell? ⟨D, 4, none⟩ = some (.int .i64 a.o)) (c2 : w.cell? ⟨D, 5, none⟩ = some (.int .i64 a.li)) :
    Calls Try.prog 105 #[.int .i64 x, .int .i64 y, .pointer (some ⟨D, 0, none⟩)] w fun e w' => e = .returned (.bool (ordG a true x y)) ∧ Below w.heap.size w w' := by
  have K := fun w => covers_any a.o a.li x y ho.1 ho.2 hl.1 hl.2 hx0 hx1 hy0 hy1 w
  unfold ordG
  generalize covB a.o a.li x y = z at *
  have K' := Lib.hid K
  clear K ho hl
  cases z
  all_goals
    go_enter Try.func105, Try.ntmps105
    go_wp2_with (first | (go_at_call 104; refine (K'.out _).mono ?_; rintro e w1 ⟨rfl, hb1⟩) | fail)
    go_ret
    exact ⟨rfl, hb1⟩
set_option maxHeartbeats 2000000 in
theorem ground_any (a : ArmsD) (w : World) (ga : armsOk a = true) : Calls Try.prog 70 #[.agg #[.int .i64 a.d, .int .i64 a.l, .int .i64 a.p, .int .i64 a.q, .int .i64 a.o, .int .i64 a.li, .int .i64 a.t, .int .i64 a.c1, .int .i64 a.k1, .int .i64 a.a1, .int .i64 a.t1, .int .i64 a.c2, .int .i64 a.k2, .int .i64 a.a2, .int .i64 a.t2]] w (RegPost w (regRows (ordG a true))) := by
  obtain ⟨ho, hl⟩ := armsOk_ord ga
  have HC : ∀ (x y : Int) (w' : World), 0 ≤ x → x ≤ 19 → 0 ≤ y → y ≤ 23 → Below ((w.alloc (Obj.cells #[.int .i64 a.d, .int .i64 a.l, .int .i64 a.p, .int .i64 a.q, .int .i64 a.o, .int .i64 a.li, .int .i64 a.t, .int .i64 a.c1, .int .i64 a.k1, .int .i64 a.a1, .int .i64 a.t1, .int .i64 a.c2, .int .i64 a.k2, .int .i64 a.a2, .int .i64 a.t2] 33)).alloc (Obj.cells #[.slice none 0 0] 48)).heap.size ((w.alloc (Obj.cells #[.int .i64 a.d, .int .i64 a.l, .int .i64 a.p, .int .i64 a.q, .int .i64 a.o, .int .i64 a.li, .int .i64 a.t, .int .i64 a.c1, .int .i64 a.k1, .int .i64 a.a1, .int .i64 a.t1, .int .i64 a.c2, .int .i64 a.k2, .int .i64 a.a2, .int .i64 a.t2] 33)).alloc (Obj.cells #[.slice none 0 0] 48)) w' → Calls Try.prog 105 (#[.int .i64 x, .int .i64 y] ++ #[.pointer (some ⟨w.heap.size, 0, none⟩)]) w' fun e w'' => e = .returned (.bool (ordG a true x y)) ∧ Below w'.heap.size w' w'' := by
    intro x y w' a1 a2 a3 a4 hb
    show Calls Try.prog 105 #[.int .i64 x, .int .i64 y, .pointer (some ⟨w.heap.size, 0, none⟩)] w' _
    have hF : w'.heap[w.heap.size]? = some (.cells #[.int .i64 a.d, .int .i64 a.l, .int .i64 a.p, .int .i64 a.q, .int .i64 a.o, .int .i64 a.li, .int .i64 a.t, .int .i64 a.c1, .int .i64 a.k1, .int .i64 a.a1, .int .i64 a.t1, .int .i64 a.c2, .int .i64 a.k2, .int .i64 a.a2, .int .i64 a.t2] 33 (0, 0)) := heap_keepB (heap_keepA (heap_hit _ _ _ rfl) _) hb
    exact ground_cl w.heap.size a x y w' ho hl a1 a2 a3 a4 (cell_of hF 4) (cell_of hF 5)
  have HC' := Lib.hid HC
  clear HC ga ho hl
  go_enter Try.func70, Try.ntmps70
  go_wp2_with fail
  refine (regionOf_any 105 #[.pointer (some ⟨w.heap.size, 0, none⟩)] (ordG a true) _ cf_ground HC'.out).mono ?_
  rintro e w1 ⟨v, rfl, ho, hb⟩
  obtain ⟨A, c, rfl, -⟩ := ho.form
  obtain ⟨hc1, hf1⟩ := bcell hb
  have hz : w.heap.size + 1 < w1.heap.size := by have := hb.size; simp at this; omega
  go_wp2
  exact bodyPost_ret (v := .agg #[.slice A (regRows (ordG a true)).length c]) (by simp [results, Try.results70, go_sem, hc1]) rfl ⟨_, rfl, OwnI.base (ownsRow_setCell_below ho (by first | omega | (simp; done) | (simp; omega)) _) (by first | omega | (simp; done) | (simp; omega)), by (repeat (first | exact Below.refl _ _ | assumption | refine Below_al ?_ _ | refine Below.drew ?_ | refine Below_then ?_ (by assumption) | refine Below.setCell ?_ (by first | omega | (simp; done) | (simp; omega)) _))⟩
set_option maxHeartbeats 4000000 in
theorem l11Region_any (a : ArmsD) (g : Bool) (w : World) (ga : armsOk a = true) : Calls Try.prog 68 #[.agg #[.int .i64 a.d, .int .i64 a.l, .int .i64 a.p, .int .i64 a.q, .int .i64 a.o, .int .i64 a.li, .int .i64 a.t, .int .i64 a.c1, .int .i64 a.k1, .int .i64 a.a1, .int .i64 a.t1, .int .i64 a.c2, .int .i64 a.k2, .int .i64 a.a2, .int .i64 a.t2], .bool g] w (RegPost w (regRows (ordG a g))) := by
  have hmk := make24
  obtain ⟨ho, hli⟩ := armsOk_ord ga
  obtain ⟨o0, o7⟩ := ho
  obtain ⟨l0, l4⟩ := hli
  obtain ⟨L, eL⟩ : ∃ L : List (Nat × Obj), L = [(w.heap.size, .cells #[.int .i64 a.d, .int .i64 a.l, .int .i64 a.p, .int .i64 a.q, .int .i64 a.o, .int .i64 a.li, .int .i64 a.t, .int .i64 a.c1, .int .i64 a.k1, .int .i64 a.a1, .int .i64 a.t1, .int .i64 a.c2, .int .i64 a.k2, .int .i64 a.a2, .int .i64 a.t2] 33 (0, 0)), (w.heap.size + 1, .cells #[.slice none 0 0] 48 (0, 0)), (w.heap.size + 1 + 1 + 1, .cells #[.slice (some ⟨w.heap.size + 1 + 1, 0, none⟩) 24 24] 48 (0, 0))] := ⟨_, rfl⟩
  have hL : ∀ p ∈ L, p.1 ≠ w.heap.size + 1 + 1 := by rw [eL]; simp; omega
  have mA : (w.heap.size, Obj.cells #[.int .i64 a.d, .int .i64 a.l, .int .i64 a.p, .int .i64 a.q, .int .i64 a.o, .int .i64 a.li, .int .i64 a.t, .int .i64 a.c1, .int .i64 a.k1, .int .i64 a.a1, .int .i64 a.t1, .int .i64 a.c2, .int .i64 a.k2, .int .i64 a.a2, .int .i64 a.t2] 33 (0, 0)) ∈ L := by rw [eL]; simp
  have mS : (w.heap.size + 1, Obj.cells #[.slice none 0 0] 48 (0, 0)) ∈ L := by rw [eL]; simp
  have mV : (w.heap.size + 1 + 1 + 1, Obj.cells #[.slice (some ⟨w.heap.size + 1 + 1, 0, none⟩) 24 24] 48 (0, 0)) ∈ L := by rw [eL]; simp
  have EL := Lib.hid eL
  have MA := Lib.hid mA
  have MS := Lib.hid mS
  have MV := Lib.hid mV
  clear mA mS mV ga
  have HL := Lib.hid hL
  clear eL hL
  go_enter Try.func68, Try.ntmps68
  go_wp2_with fail
  go_loopw [6] (fun i wr => ∃ k : Nat, k ≤ 24 ∧ i = .int .i64 k ∧ RegSt w (w.heap.size + 1 + 1) L (grid2 (cellF (ordG a g)) k 0) wr) (fun i _ => 24 - (intOf i).toNat)
  case atStart =>
    refine ⟨0, by omega, rfl, ?_⟩
    rw [grid2_zero _ (cellF_zero _)]
    refine ⟨?_, ?_, ?_⟩
    · (repeat (first | rw [heap_hit _ _ _ (by first | omega | (simp; done) | (simp; omega))] | rw [heap_miss _ _ _ (by first | omega | (simp; done) | (simp; omega))]))
      rfl
    · rw [EL.out]
      intro p hp
      simp only [List.mem_cons, List.not_mem_nil, or_false] at hp
      rcases hp with rfl | rfl | rfl
      · (repeat (first | rw [heap_hit _ _ _ (by first | omega | (simp; done) | (simp; omega))] | rw [heap_miss _ _ _ (by first | omega | (simp; done) | (simp; omega))]))
      · (repeat (first | rw [heap_hit _ _ _ (by first | omega | (simp; done) | (simp; omega))] | rw [heap_miss _ _ _ (by first | omega | (simp; done) | (simp; omega))]))
      · (repeat (first | rw [heap_hit _ _ _ (by first | omega | (simp; done) | (simp; omega))] | rw [heap_miss _ _ _ (by first | omega | (simp; done) | (simp; omega))]))
    · (repeat (first | exact Below.refl _ _ | assumption | refine Below_al ?_ _ | refine Below.drew ?_ | refine Below_then ?_ (by assumption) | refine Below.setCell ?_ (by first | omega | (simp; done) | (simp; omega)) _))
  case round =>
    obtain ⟨k, hk, rfl, hst⟩ := hrel
    by_cases hlt : k < 24
    · have hd : decide ((k : Int) < 24) = true := by simp; omega
      go_wp2_with fail
      clear hd
      go_loopw [7] (fun i wr => ∃ j : Nat, j ≤ 20 ∧ i = .int .i64 j ∧ RegSt w (w.heap.size + 1 + 1) L (grid2 (cellF (ordG a g)) k j) wr) (fun i _ => 20 - (intOf i).toNat)
      case atStart => exact ⟨0, by omega, rfl, hst⟩
      case round =>
        clear hst
        obtain ⟨j, hj, rfl, hst⟩ := hrel
        by_cases hlt2 : j < 20
        · have hd2 : decide ((j : Int) < 20) = true := by simp; omega
          have q4 : wr.cell? ⟨w.heap.size, 4, none⟩ = some (.int .i64 a.o) := cell_of (hst.keep _ MA.out) 4
          have q5 : wr.cell? ⟨w.heap.size, 5, none⟩ = some (.int .i64 a.li) := cell_of (hst.keep _ MA.out) 5
          obtain ⟨z, hz⟩ : ∃ z, z = inSh j k := ⟨_, rfl⟩
          have KI := fun w => l9In_any j k w
          rw [← hz] at KI
          have KI' := Lib.hid KI
          have HZ := Lib.hid hz
          clear KI hz
          cases z
          · by_cases hp : 0 < a.o
            all_goals
              go_wp2_with (first | (go_at_call 100; refine (KI'.out _).mono ?_; rintro e w' ⟨rfl, rfl⟩) | fail)
              go_roundw
              case rel =>
                refine ⟨j + 1, by omega, by go_num, ?_⟩
                rw [grid2_keep _ k j (cellF_no1 (by rw [← HZ.out]; simp))]
                exact hst
              case measure => simp [intOf]; omega
          · obtain ⟨b, hb⟩ : ∃ b, b = covB a.o a.li j k := ⟨_, rfl⟩
            have KO := fun w => l10Ord_any a.o a.li j k o0 o7 l0 l4 (by omega) (by omega) (by omega) (by omega) w
            rw [← hb] at KO
            have HB := Lib.hid hb
            have KO' := Lib.hid KO
            clear KO hb
            have hh : ∀ g : Bool, ordG a g j k = (b != g) := fun g => by unfold ordG; rw [← HB.out]
            by_cases hp : 0 < a.o
            · cases b <;> cases g
              · have HH := Lib.hid (hh false)
                clear hh
                go_wp2_with (first | (go_at_call 100; refine (KI'.out _).mono ?_; rintro e w' ⟨rfl, rfl⟩) | fail)
                refine (KO'.out _).mono ?_
                rintro e w1 ⟨rfl, hb1⟩
                have hst1 := hst.step hb1
                clear q4 q5
                go_wp2_with (first | (go_at_call 100; refine (KI'.out _).mono ?_; rintro e w' ⟨rfl, rfl⟩) | fail)
                go_roundw
                case rel =>
                  refine ⟨j + 1, by omega, by go_num, ?_⟩
                  rw [grid2_keep _ k j (cellF_no2 (by rw [HH.out]; simp))]
                  exact hst1
                case measure => simp [intOf]; omega
              · have HH := Lib.hid (hh true)
                clear hh
                go_wp2_with (first | (go_at_call 100; refine (KI'.out _).mono ?_; rintro e w' ⟨rfl, rfl⟩) | fail)
                refine (KO'.out _).mono ?_
                rintro e w1 ⟨rfl, hb1⟩
                have hst1 := hst.step hb1
                clear q4 q5
                have c1 : w1.cell? ⟨w.heap.size + 1 + 1 + 1, 0, none⟩ = some (.slice (some ⟨w.heap.size + 1 + 1, 0, none⟩) 24 24) := cell_of (hst1.keep _ MV.out) 0
                have c2 := frozen_of hst1.row k
                obtain ⟨v, hv⟩ : ∃ v, v = cellF (ordG a true) k j := ⟨_, rfl⟩
                have c3 : w1.cell? ⟨w.heap.size + 1 + 1, k, none⟩ = some (.int .i64 v) := by
                  rw [ints_cell hst1.row k (by rw [grid2_len]; omega), grid2_get, hv]
                have HV := Lib.hid hv
                clear hv
                go_wp2_with (first | (go_at_call 100; refine (KI'.out _).mono ?_; rintro e w' ⟨rfl, rfl⟩) | fail)
                go_region
                go_wp2
                go_roundw
                case rel =>
                  refine ⟨j + 1, by omega, by go_num, ?_⟩
                  rw [← grid2_set (cellF (ordG a true)) k j, cellF_yes HZ.out.symm (HH.out.trans rfl), ← HV.out]
                  exact (hst1.set (by omega) HL.out k _).drew
                case measure => simp [intOf]; omega
              · have HH := Lib.hid (hh false)
                clear hh
                go_wp2_with (first | (go_at_call 100; refine (KI'.out _).mono ?_; rintro e w' ⟨rfl, rfl⟩) | fail)
                refine (KO'.out _).mono ?_
                rintro e w1 ⟨rfl, hb1⟩
                have hst1 := hst.step hb1
                clear q4 q5
                have c1 : w1.cell? ⟨w.heap.size + 1 + 1 + 1, 0, none⟩ = some (.slice (some ⟨w.heap.size + 1 + 1, 0, none⟩) 24 24) := cell_of (hst1.keep _ MV.out) 0
                have c2 := frozen_of hst1.row k
                obtain ⟨v, hv⟩ : ∃ v, v = cellF (ordG a false) k j := ⟨_, rfl⟩
                have c3 : w1.cell? ⟨w.heap.size + 1 + 1, k, none⟩ = some (.int .i64 v) := by
                  rw [ints_cell hst1.row k (by rw [grid2_len]; omega), grid2_get, hv]
                have HV := Lib.hid hv
                clear hv
                go_wp2_with (first | (go_at_call 100; refine (KI'.out _).mono ?_; rintro e w' ⟨rfl, rfl⟩) | fail)
                go_region
                go_wp2
                go_roundw
                case rel =>
                  refine ⟨j + 1, by omega, by go_num, ?_⟩
                  rw [← grid2_set (cellF (ordG a false)) k j, cellF_yes HZ.out.symm (HH.out.trans rfl), ← HV.out]
                  exact (hst1.set (by omega) HL.out k _).drew
                case measure => simp [intOf]; omega
              · have HH := Lib.hid (hh true)
                clear hh
                go_wp2_with (first | (go_at_call 100; refine (KI'.out _).mono ?_; rintro e w' ⟨rfl, rfl⟩) | fail)
                refine (KO'.out _).mono ?_
                rintro e w1 ⟨rfl, hb1⟩
                have hst1 := hst.step hb1
                clear q4 q5
                go_wp2_with (first | (go_at_call 100; refine (KI'.out _).mono ?_; rintro e w' ⟨rfl, rfl⟩) | fail)
                go_roundw
                case rel =>
                  refine ⟨j + 1, by omega, by go_num, ?_⟩
                  rw [grid2_keep _ k j (cellF_no2 (by rw [HH.out]; simp))]
                  exact hst1
                case measure => simp [intOf]; omega
            · have h0 : a.o = 0 := by omega
              have hb0 : b = false := by rw [HB.out, h0]; rfl
              subst hb0
              have H0 := Lib.hid h0
              clear h0
              cases g
              · have HH := Lib.hid (hh false)
                clear hh
                go_wp2_with (first | (go_at_call 100; refine (KI'.out _).mono ?_; rintro e w' ⟨rfl, rfl⟩) | fail)
                go_roundw
                case rel =>
                  refine ⟨j + 1, by omega, by go_num, ?_⟩
                  rw [grid2_keep _ k j (cellF_no2 (by rw [HH.out]; simp))]
                  exact hst
                case measure => simp [intOf]; omega
              · have HH := Lib.hid (hh true)
                clear hh
                have c1 : wr.cell? ⟨w.heap.size + 1 + 1 + 1, 0, none⟩ = some (.slice (some ⟨w.heap.size + 1 + 1, 0, none⟩) 24 24) := cell_of (hst.keep _ MV.out) 0
                have c2 := frozen_of hst.row k
                obtain ⟨v, hv⟩ : ∃ v, v = cellF (ordG a true) k j := ⟨_, rfl⟩
                have c3 : wr.cell? ⟨w.heap.size + 1 + 1, k, none⟩ = some (.int .i64 v) := by
                  rw [ints_cell hst.row k (by rw [grid2_len]; omega), grid2_get, hv]
                have HV := Lib.hid hv
                clear hv
                go_wp2_with (first | (go_at_call 100; refine (KI'.out _).mono ?_; rintro e w' ⟨rfl, rfl⟩) | fail)
                go_region
                go_wp2
                go_roundw
                case rel =>
                  refine ⟨j + 1, by omega, by go_num, ?_⟩
                  rw [← grid2_set (cellF (ordG a true)) k j, cellF_yes HZ.out.symm (HH.out.trans rfl), ← HV.out]
                  exact (hst.set (by omega) HL.out k _).drew
                case measure => simp [intOf]; omega
        · obtain rfl : j = 20 := by omega
          go_wp2
          go_roundw
          case rel => exact ⟨k + 1, by omega, by go_num, by rw [← grid2_row _ (cellF_zero _)]; exact hst⟩
          case measure => simp [intOf]; omega
    · obtain rfl : k = 24 := by omega
      have c1 : wr.cell? ⟨w.heap.size + 1 + 1 + 1, 0, none⟩ = some (.slice (some ⟨w.heap.size + 1 + 1, 0, none⟩) 24 24) := cell_of (hst.keep _ MV.out) 0
      have c2 := frozen_of (hst.keep _ MS.out) 0
      have c3 : wr.cell? ⟨w.heap.size + 1, 0, none⟩ = some (.slice none 0 0) := cell_of (hst.keep _ MS.out) 0
      go_wp2
      refine bodyPost_ret (v := .agg #[.slice (some ⟨w.heap.size + 1 + 1, 0, none⟩) 24 24]) (by simp [results, Try.results68, go_sem, c3]) rfl ⟨_, rfl, ?_, ?_⟩
      · have hr := hst.row
        rw [grid2_all] at hr
        have ho := OwnI.blk (B := w.heap.size + 1 + 1) (zs := regRows (ordG a g)) hr (Nat.le_refl _) (by simp [regRows_len, maxLen])
        rw [regRows_len] at ho
        exact OwnI.base (ownsRow_setCell_below (a := ⟨w.heap.size + 1, 0, none⟩) ho (by simp) _) (by omega)
      · exact hst.below.setCell (by simp) _
end Go.Proofs.Ytfpkdianampjkaa
