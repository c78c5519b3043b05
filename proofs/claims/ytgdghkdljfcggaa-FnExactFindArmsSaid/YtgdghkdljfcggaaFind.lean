/- Contracts: FindArms, both sides. -/
import Derived.Test.YtgdghkdljfcggaaConf
import Derived.Test.YtgdghkdljfcggaaEqA
namespace Go.Proofs.Ytgdghkdljfcggaa
open Go.ChangeShapes Go.WideShapes Go.ChangeAt Go.RowKit
set_option linter.unusedVariables false
set_option linter.unusedSimpArgs false
def isA (rows : List GrantD) (a : ArmsD) (k : Nat) : Bool := match rows[k]? with | some g => eqA g.a a | none => false
theorem isA_at {rows : List GrantD} {a : ArmsD} {k : Nat} {g : GrantD} (h : rows[k]? = some g) : isA rows a k = eqA g.a a := by simp [isA, h]
def numAt (rows : List GrantD) (k : Nat) : Int := match rows[k]? with | some g => g.n | none => 0
def findN (rows : List GrantD) (a : ArmsD) : Int := bif regOk rows then (match (List.range rows.length).find? (isA rows a) with | some k => numAt rows k | none => 0) else 0
def findB (rows : List GrantD) (a : ArmsD) : Bool := bif regOk rows then anyN (isA rows a) rows.length else false
theorem find_no {rows : List GrantD} {a : ArmsD} (h : ∀ l, l < rows.length → isA rows a l = false) : findN rows a = 0 ∧ findB rows a = false := by
  have h1 : (List.range rows.length).find? (isA rows a) = none := by
    rw [List.find?_eq_none]
    intro x hx
    simp at hx
    simp [h x hx]
  unfold findN findB
  rw [h1, anyN_no h]
  cases regOk rows <;> exact ⟨rfl, rfl⟩
theorem find_bad {rows : List GrantD} {a : ArmsD} (h : regOk rows = false) : findN rows a = 0 ∧ findB rows a = false := by
  unfold findN findB
  rw [h]
  exact ⟨rfl, rfl⟩
theorem find_yes {rows : List GrantD} {a : ArmsD} {k : Nat} {g : GrantD} (hv : regOk rows = true) (hg : rows[k]? = some g) (hk : isA rows a k = true) (h : ∀ l, l < k → isA rows a l = false) : findN rows a = g.n ∧ findB rows a = true := by
  have hlt := (List.getElem?_eq_some_iff.1 hg).1
  have h1 : (List.range rows.length).find? (isA rows a) = some k := by
    rw [List.find?_range_eq_some]
    exact ⟨hk, by simpa using hlt, fun j hj => by simp [h j hj]⟩
  unfold findN findB
  rw [h1, hv, anyN_yes hlt hk]
  exact ⟨by simp [numAt, hg], rfl⟩
theorem ret2 {z z' : Int} {b b' : Bool} (h : z' = z ∧ b' = b) : Ending.returned (.tuple #[.int .i64 z, .bool b]) = .returned (.tuple #[.int .i64 z', .bool b']) := by rw [h.1, h.2]
set_option maxHeartbeats 4000000 in
theorem specFindArms_any (A : Option Addr) (c : Nat) (rows : List GrantD) (a : ArmsD) (w : World) (hr : RdR 18 w A (gcs rows)) (hl : rows.length ≤ 1048576) (hs : ∀ g ∈ rows, g.s.size ≤ maxLen) : Calls Try.prog 16 #[.agg #[.slice A rows.length c], .agg (ac a).toArray] w fun e w' => e = .returned (.tuple #[.int .i64 (findN rows a), .bool (findB rows a)]) ∧ Below w.heap.size w w' := by
  have KV := fun (w' : World) (hb : Below w.heap.size w w') => l16Good_any A c rows w' (hr.below hb) hl hs
  have HH := Lib.hid hr
  cases q : regOk rows
  · have HF := Lib.hid (find_bad (a := a) q)
    rw [q] at KV
    have KV' := Lib.hid KV
    clear KV q hs hr
    go_enter Try.func16, Try.ntmps16
    go_wp2_with fail
    refine (KV'.out _ (by (repeat (first | exact Below.refl _ _ | assumption | refine Below_al ?_ _ | refine Below.drew ?_ | refine Below_then ?_ (by assumption) | refine Below.setCell ?_ (by first | omega | (simp; done) | (simp; omega)) _)))).mono ?_
    rintro e w1 ⟨rfl, hb1⟩
    go_wp2
    go_ret2
    exact ⟨ret2 HF.out, by (repeat (first | exact Below.refl _ _ | assumption | refine Below_al ?_ _ | refine Below.drew ?_ | refine Below_then ?_ (by assumption) | refine Below.setCell ?_ (by first | omega | (simp; done) | (simp; omega)) _))⟩
  · have HQ := Lib.hid q
    rw [q] at KV
    have KV' := Lib.hid KV
    clear KV q hs hr
    go_enter Try.func16, Try.ntmps16
    go_wp2_with fail
    refine (KV'.out _ (by (repeat (first | exact Below.refl _ _ | assumption | refine Below_al ?_ _ | refine Below.drew ?_ | refine Below_then ?_ (by assumption) | refine Below.setCell ?_ (by first | omega | (simp; done) | (simp; omega)) _)))).mono ?_
    rintro e w1 ⟨rfl, hb1⟩
    have hT : Below w.heap.size w w1 := by (repeat (first | exact Below.refl _ _ | assumption | refine Below_al ?_ _ | refine Below.drew ?_ | refine Below_then ?_ (by assumption) | refine Below.setCell ?_ (by first | omega | (simp; done) | (simp; omega)) _))
    have hH : w1.heap[w.heap.size]? = some (.cells #[.slice A rows.length c] 29 (0, 0)) := heap_keepB (heap_keepA (heap_hit _ _ _ rfl) _) hb1
    have hA : w1.heap[w.heap.size + 1]? = some (.cells (ac a).toArray 44 (0, 0)) := heap_keepB (heap_hit _ _ _ (by simp)) hb1
    clear hb1
    go_wp2_with fail
    go_loopw [6] (fun i wr => ∃ k : Nat, k ≤ rows.length ∧ i = .int .i64 k ∧ (∀ l, l < k → isA rows a l = false) ∧ wr.heap[w.heap.size]? = some (.cells #[.slice A rows.length c] 29 (0, 0)) ∧ wr.heap[w.heap.size + 1]? = some (.cells (ac a).toArray 44 (0, 0)) ∧ Below w.heap.size w wr) (fun i _ => rows.length - (intOf i).toNat)
    case atStart => exact ⟨0, Nat.zero_le _, rfl, fun l hl => absurd hl (by omega), hH, hA, hT⟩
    case round =>
      clear hH hA hT
      obtain ⟨k, hk, rfl, hall, hH, hA, hb⟩ := hrel
      have HALL := Lib.hid hall
      have cH := cell_of hH 0
      clear hall
      by_cases hlt : k < rows.length
      · obtain ⟨g, hg⟩ := grant_at hlt
        obtain ⟨b, off, rfl, hr, -⟩ := (HH.out.below hb).grants hg
        obtain ⟨cn, -, -, hga⟩ := gc_cells hr
        have hAa := rangeAt_blk hA
        have i1 : (k : Int) < (rows.length : Int) := by omega
        have d1 : decide (k < rows.length) = true := by simpa using hlt
        have HG := Lib.hid hg
        clear hg
        cases hq : eqA g.a a
        · have HQ2 := Lib.hid hq
          go_wp2_with fail
          refine wp_region_noPanic ?_
          refine wp_region_held_drew (S := (fun w' => w'.cell? ⟨w.heap.size, 0, none⟩ = some (.slice (some ⟨b, off, none⟩) rows.length c : Value) ∧ w'.rangeAt b (off + k * 18 + 3) (ac g.a) ∧ w'.rangeAt (w.heap.size + 1) 0 (ac a) ∧ Below wr.heap.size wr w')) (by kernel_rfl) ⟨cH, hga, hAa, (Below.refl _ _).drew⟩ (fun hHeld => ?_)
          refine wpAnyH_take (i := 0) (oi := _) (v := ?_) rfl (by kernel_rfl) (by kernel_rfl) (by kernel_rfl) (fun _ _ _ h => h) (Or.inl ⟨by rfl, ?_⟩) (by assumption) ?_
          rotate_left
          · intro w hSw; clear hSw; first | (go_simp; done) | (go_simp; with_reducible rfl)
          simp only [Act.put, List.getElem_toArray, List.getElem_cons_succ, List.getElem_cons_zero, List.setIfInBounds_toArray, List.set_cons_zero, List.set_cons_succ]
          refine wpAnyH_take (i := 1) (oi := _) (v := ?_) rfl (by kernel_rfl) (by kernel_rfl) (by kernel_rfl) (fun _ _ _ h => h) (Or.inl ⟨by rfl, ?_⟩) (by assumption) ?_
          rotate_left
          · intro w hSw; (try dsimp only at hSw); first | (go_simp; done) | (go_simp; with_reducible rfl)
          simp only [Act.put, List.getElem_toArray, List.getElem_cons_succ, List.getElem_cons_zero, List.setIfInBounds_toArray, List.set_cons_zero, List.set_cons_succ]
          refine wpAnyH_take (i := 2) (oi := _) (v := ?_) rfl (by kernel_rfl) (by kernel_rfl) (by kernel_rfl) (fun _ _ _ h => h) (Or.inl ⟨by rfl, ?_⟩) (by assumption) ?_
          rotate_left
          · intro w hSw; clear hSw; first | (go_simp; done) | (go_simp; with_reducible rfl)
          simp only [Act.put, List.getElem_toArray, List.getElem_cons_succ, List.getElem_cons_zero, List.setIfInBounds_toArray, List.set_cons_zero, List.set_cons_succ]
          refine wpAnyH_take (i := 3) (oi := _) (v := ?_) rfl (by kernel_rfl) (by kernel_rfl) (by kernel_rfl) (fun _ _ _ h => h) (Or.inl ⟨by rfl, ?_⟩) (by assumption) ?_
          rotate_left
          · intro w hSw; clear hSw; first | (go_simp; done) | (go_simp; with_reducible rfl)
          simp only [Act.put, List.getElem_toArray, List.getElem_cons_succ, List.getElem_cons_zero, List.setIfInBounds_toArray, List.set_cons_zero, List.set_cons_succ]
          refine wpAnyH_take (i := 4) (oi := _) (v := ?_) rfl (by kernel_rfl) (by kernel_rfl) (by kernel_rfl) (fun _ _ _ h => h) (Or.inl ⟨by rfl, ?_⟩) (by assumption) ?_
          rotate_left
          · intro w hSw; clear hSw; first | (go_simp; done) | (go_simp; with_reducible rfl)
          simp only [Act.put, List.getElem_toArray, List.getElem_cons_succ, List.getElem_cons_zero, List.setIfInBounds_toArray, List.set_cons_zero, List.set_cons_succ]
          refine wpAnyH_take (i := 5) (oi := _) (v := _) rfl ?g1_1 ?g2_1 ?g3_1 (fun _ _ _ h => h) (yieldsIf_load_mid ?g4_1 _ _ rfl b ?oo_1 ?g5_1 (ac g.a) _ ?g6_1 Try.underlying44 rfl (info_ac g.a)) ?g7_1 ?_
          case g5_1 => rfl
          case g1_1 => kernel_rfl
          case g2_1 => kernel_rfl
          case g3_1 => kernel_rfl
          case g6_1 => exact (fun _ h => h.2.1)
          case g4_1 => kernel_rfl
          case g7_1 => assumption
          simp only [Act.put, List.getElem_toArray, List.getElem_cons_succ, List.getElem_cons_zero, List.setIfInBounds_toArray, List.set_cons_zero, List.set_cons_succ]
          refine wpAnyH_take (i := 6) (oi := _) (v := _) rfl ?g1_2 ?g2_2 ?g3_2 (fun _ _ _ h => h) (yieldsIf_load_mid ?g4_2 _ _ rfl (w.heap.size + 1) ?oo_2 ?g5_2 (ac a) _ ?g6_2 Try.underlying44 rfl (info_ac a)) ?g7_2 ?_
          case g5_2 => rfl
          case g1_2 => kernel_rfl
          case g2_2 => kernel_rfl
          case g3_2 => kernel_rfl
          case g6_2 => exact (fun _ h => h.2.2.1)
          case g4_2 => kernel_rfl
          case g7_2 => assumption
          simp only [Act.put, List.getElem_toArray, List.getElem_cons_succ, List.getElem_cons_zero, List.setIfInBounds_toArray, List.set_cons_zero, List.set_cons_succ]
          refine wpAnyH_take (i := 7) (oi := _) (v := _) rfl (by kernel_rfl) (by kernel_rfl) (by kernel_rfl) (fun _ _ _ h => h) (Or.inl ⟨by kernel_rfl, fun w _ => exec_eqA _ _ _ rfl g.a a rfl rfl w⟩) (by assumption) ?_
          simp only [Act.put, List.getElem_toArray, List.getElem_cons_succ, List.getElem_cons_zero, List.setIfInBounds_toArray, List.set_cons_zero, List.set_cons_succ]
          rw [hq]
          refine wpAnyH_done (by kernel_rfl) ?_ _
          refine NoPanic.normal ?_

          go_wp2
          go_roundw
          case rel =>
            refine ⟨k + 1, by omega, by go_num, fun l hl => ?_, hH, hA, hb.drew⟩
            by_cases e : l = k
            · subst e; rw [isA_at HG.out]; exact HQ2.out
            · exact HALL.out l (by omega)
          case measure => simp [intOf]; omega
        · have HF := Lib.hid (find_yes HQ.out HG.out (by rw [isA_at HG.out]; exact hq) HALL.out)
          go_wp2_with fail
          refine wp_region_noPanic ?_
          refine wp_region_held_drew (S := (fun w' => w'.cell? ⟨w.heap.size, 0, none⟩ = some (.slice (some ⟨b, off, none⟩) rows.length c : Value) ∧ w'.rangeAt b (off + k * 18 + 3) (ac g.a) ∧ w'.rangeAt (w.heap.size + 1) 0 (ac a) ∧ Below wr.heap.size wr w')) (by kernel_rfl) ⟨cH, hga, hAa, (Below.refl _ _).drew⟩ (fun hHeld => ?_)
          refine wpAnyH_take (i := 0) (oi := _) (v := ?_) rfl (by kernel_rfl) (by kernel_rfl) (by kernel_rfl) (fun _ _ _ h => h) (Or.inl ⟨by rfl, ?_⟩) (by assumption) ?_
          rotate_left
          · intro w hSw; clear hSw; first | (go_simp; done) | (go_simp; with_reducible rfl)
          simp only [Act.put, List.getElem_toArray, List.getElem_cons_succ, List.getElem_cons_zero, List.setIfInBounds_toArray, List.set_cons_zero, List.set_cons_succ]
          refine wpAnyH_take (i := 1) (oi := _) (v := ?_) rfl (by kernel_rfl) (by kernel_rfl) (by kernel_rfl) (fun _ _ _ h => h) (Or.inl ⟨by rfl, ?_⟩) (by assumption) ?_
          rotate_left
          · intro w hSw; (try dsimp only at hSw); first | (go_simp; done) | (go_simp; with_reducible rfl)
          simp only [Act.put, List.getElem_toArray, List.getElem_cons_succ, List.getElem_cons_zero, List.setIfInBounds_toArray, List.set_cons_zero, List.set_cons_succ]
          refine wpAnyH_take (i := 2) (oi := _) (v := ?_) rfl (by kernel_rfl) (by kernel_rfl) (by kernel_rfl) (fun _ _ _ h => h) (Or.inl ⟨by rfl, ?_⟩) (by assumption) ?_
          rotate_left
          · intro w hSw; clear hSw; first | (go_simp; done) | (go_simp; with_reducible rfl)
          simp only [Act.put, List.getElem_toArray, List.getElem_cons_succ, List.getElem_cons_zero, List.setIfInBounds_toArray, List.set_cons_zero, List.set_cons_succ]
          refine wpAnyH_take (i := 3) (oi := _) (v := ?_) rfl (by kernel_rfl) (by kernel_rfl) (by kernel_rfl) (fun _ _ _ h => h) (Or.inl ⟨by rfl, ?_⟩) (by assumption) ?_
          rotate_left
          · intro w hSw; clear hSw; first | (go_simp; done) | (go_simp; with_reducible rfl)
          simp only [Act.put, List.getElem_toArray, List.getElem_cons_succ, List.getElem_cons_zero, List.setIfInBounds_toArray, List.set_cons_zero, List.set_cons_succ]
          refine wpAnyH_take (i := 4) (oi := _) (v := ?_) rfl (by kernel_rfl) (by kernel_rfl) (by kernel_rfl) (fun _ _ _ h => h) (Or.inl ⟨by rfl, ?_⟩) (by assumption) ?_
          rotate_left
          · intro w hSw; clear hSw; first | (go_simp; done) | (go_simp; with_reducible rfl)
          simp only [Act.put, List.getElem_toArray, List.getElem_cons_succ, List.getElem_cons_zero, List.setIfInBounds_toArray, List.set_cons_zero, List.set_cons_succ]
          refine wpAnyH_take (i := 5) (oi := _) (v := _) rfl ?g1_1 ?g2_1 ?g3_1 (fun _ _ _ h => h) (yieldsIf_load_mid ?g4_1 _ _ rfl b ?oo_1 ?g5_1 (ac g.a) _ ?g6_1 Try.underlying44 rfl (info_ac g.a)) ?g7_1 ?_
          case g5_1 => rfl
          case g1_1 => kernel_rfl
          case g2_1 => kernel_rfl
          case g3_1 => kernel_rfl
          case g6_1 => exact (fun _ h => h.2.1)
          case g4_1 => kernel_rfl
          case g7_1 => assumption
          simp only [Act.put, List.getElem_toArray, List.getElem_cons_succ, List.getElem_cons_zero, List.setIfInBounds_toArray, List.set_cons_zero, List.set_cons_succ]
          refine wpAnyH_take (i := 6) (oi := _) (v := _) rfl ?g1_2 ?g2_2 ?g3_2 (fun _ _ _ h => h) (yieldsIf_load_mid ?g4_2 _ _ rfl (w.heap.size + 1) ?oo_2 ?g5_2 (ac a) _ ?g6_2 Try.underlying44 rfl (info_ac a)) ?g7_2 ?_
          case g5_2 => rfl
          case g1_2 => kernel_rfl
          case g2_2 => kernel_rfl
          case g3_2 => kernel_rfl
          case g6_2 => exact (fun _ h => h.2.2.1)
          case g4_2 => kernel_rfl
          case g7_2 => assumption
          simp only [Act.put, List.getElem_toArray, List.getElem_cons_succ, List.getElem_cons_zero, List.setIfInBounds_toArray, List.set_cons_zero, List.set_cons_succ]
          refine wpAnyH_take (i := 7) (oi := _) (v := _) rfl (by kernel_rfl) (by kernel_rfl) (by kernel_rfl) (fun _ _ _ h => h) (Or.inl ⟨by kernel_rfl, fun w _ => exec_eqA _ _ _ rfl g.a a rfl rfl w⟩) (by assumption) ?_
          simp only [Act.put, List.getElem_toArray, List.getElem_cons_succ, List.getElem_cons_zero, List.setIfInBounds_toArray, List.set_cons_zero, List.set_cons_succ]
          rw [hq]
          refine wpAnyH_done (by kernel_rfl) ?_ _
          refine NoPanic.normal ?_

          go_wp2
          go_ret2
          exact ⟨ret2 HF.out, hb.drew⟩
      · obtain rfl : k = rows.length := by omega
        have d1 : decide (rows.length < rows.length) = false := by simp
        have HF := Lib.hid (find_no HALL.out)
        go_wp2
        go_ret2
        exact ⟨ret2 HF.out, hb⟩
set_option maxHeartbeats 4000000 in
theorem implFindArms_any (A : Option Addr) (c : Nat) (rows : List GrantD) (a : ArmsD) (w : World) (hr : RdR 18 w A (gcs rows)) (hl : rows.length ≤ 1048576) (hs : ∀ g ∈ rows, g.s.size ≤ maxLen) (hcap : rows.length ≤ c) (hcm : c ≤ maxLen) : Calls Try.prog 18 #[.agg #[.slice A rows.length c], .agg (ac a).toArray] w fun e w' => e = .returned (.tuple #[.int .i64 (findN rows a), .bool (findB rows a)]) ∧ Below w.heap.size w w' := by
  have KV := fun (w' : World) (hb : Below w.heap.size w w') => IsValidRegister_any A c rows w' (hr.below hb) hl hs hcap hcm
  have HH := Lib.hid hr
  cases q : regOk rows
  · have HF := Lib.hid (find_bad (a := a) q)
    rw [q] at KV
    have KV' := Lib.hid KV
    clear KV q hs hr
    go_enter Try.func18, Try.ntmps18
    go_wp2_with fail
    refine (KV'.out _ (by (repeat (first | exact Below.refl _ _ | assumption | refine Below_al ?_ _ | refine Below.drew ?_ | refine Below_then ?_ (by assumption) | refine Below.setCell ?_ (by first | omega | (simp; done) | (simp; omega)) _)))).mono ?_
    rintro e w1 ⟨rfl, hb1⟩
    go_wp2
    go_ret2
    exact ⟨ret2 HF.out, by (repeat (first | exact Below.refl _ _ | assumption | refine Below_al ?_ _ | refine Below.drew ?_ | refine Below_then ?_ (by assumption) | refine Below.setCell ?_ (by first | omega | (simp; done) | (simp; omega)) _))⟩
  · have HQ := Lib.hid q
    rw [q] at KV
    have KV' := Lib.hid KV
    clear KV q hs hr
    go_enter Try.func18, Try.ntmps18
    go_wp2_with fail
    refine (KV'.out _ (by (repeat (first | exact Below.refl _ _ | assumption | refine Below_al ?_ _ | refine Below.drew ?_ | refine Below_then ?_ (by assumption) | refine Below.setCell ?_ (by first | omega | (simp; done) | (simp; omega)) _)))).mono ?_
    rintro e w1 ⟨rfl, hb1⟩
    have hT : Below w.heap.size w w1 := by (repeat (first | exact Below.refl _ _ | assumption | refine Below_al ?_ _ | refine Below.drew ?_ | refine Below_then ?_ (by assumption) | refine Below.setCell ?_ (by first | omega | (simp; done) | (simp; omega)) _))
    have hH : w1.heap[w.heap.size]? = some (.cells #[.slice A rows.length c] 29 (0, 0)) := heap_keepB (heap_keepA (heap_hit _ _ _ rfl) _) hb1
    have cH := cell_of hH 0
    have hA : w1.heap[w.heap.size + 1]? = some (.cells (ac a).toArray 44 (0, 0)) := heap_keepB (heap_hit _ _ _ (by simp)) hb1
    clear hb1
    go_wp2_with fail
    go_loopw [14] (fun i wr => ∃ k : Nat, k ≤ rows.length ∧ i = .int .i64 k ∧ (∀ l, l < k → isA rows a l = false) ∧ wr.heap[w.heap.size + 1]? = some (.cells (ac a).toArray 44 (0, 0)) ∧ Below w.heap.size w wr) (fun i _ => rows.length - (intOf i).toNat)
    case atStart => exact ⟨0, Nat.zero_le _, rfl, fun l hl => absurd hl (by omega), hA, hT⟩
    case round =>
      clear hH cH hA hT
      obtain ⟨k, hk, rfl, hall, hA, hb⟩ := hrel
      have HALL := Lib.hid hall
      clear hall
      by_cases hlt : k < rows.length
      · obtain ⟨g, hg⟩ := grant_at hlt
        obtain ⟨b, off, rfl, hr, -⟩ := (HH.out.below hb).grants hg
        have hAa := rangeAt_blk hA
        have i1 : (k : Int) < (rows.length : Int) := by omega
        have d1 : decide (k < rows.length) = true := by simpa using hlt
        have HG := Lib.hid hg
        have hFA := find_yes (a := a) HQ.out hg
        have hia : isA rows a k = eqA g.a a := isA_at hg
        have HIA := Lib.hid hia
        have HFA := Lib.hid hFA
        clear hg hFA hia
        cases hq : eqA g.a a
        · have HQ2 := Lib.hid hq
          go_wp2_with (first | (refine ldG rfl _ rfl b _ rfl g hr ?_) | (refine stG rfl _ _ rfl wr.heap.size rfl g rfl z18 (heap_hit _ _ _ rfl) rfl ?_; intro wn hn1 hn2 hn3 hn4; have hbn := hn3 _ _ (Nat.le_refl _) (Below_al (Below.refl _ _) _); have hA2 := heap_keepB hA hbn) | (refine ldA rfl _ rfl _ _ rfl g.a (gblk_cells hn1).2.2.2 ?_) | (refine ldA rfl _ rfl _ _ rfl a (rangeAt_blk hA2) ?_) | (refine wpList_eqA rfl _ _ _ rfl g.a a rfl rfl ?_; rw [hq]) | fail)
          go_roundw
          case rel =>
            refine ⟨k + 1, by omega, by go_num, fun l hl => ?_, hA2, Below_then hb hbn⟩
            by_cases e : l = k
            · subst e; rw [HIA.out]; exact HQ2.out
            · exact HALL.out l (by omega)
          case measure => simp [intOf]; omega
        · have HF := Lib.hid (HFA.out (by rw [HIA.out]; exact hq) HALL.out)
          go_wp2_with (first | (refine ldG rfl _ rfl b _ rfl g hr ?_) | (refine stG rfl _ _ rfl wr.heap.size rfl g rfl z18 (heap_hit _ _ _ rfl) rfl ?_; intro wn hn1 hn2 hn3 hn4; have hbn := hn3 _ _ (Nat.le_refl _) (Below_al (Below.refl _ _) _); have hA2 := heap_keepB hA hbn; have hcn := (gblk_cells hn1).1) | (refine ldA rfl _ rfl _ _ rfl g.a (gblk_cells hn1).2.2.2 ?_) | (refine ldA rfl _ rfl _ _ rfl a (rangeAt_blk hA2) ?_) | (refine wpList_eqA rfl _ _ _ rfl g.a a rfl rfl ?_; rw [hq]) | fail)
          go_ret2
          exact ⟨ret2 HF.out, Below_then hb hbn⟩
      · obtain rfl : k = rows.length := by omega
        have d1 : decide (rows.length < rows.length) = false := by simp
        have HF := Lib.hid (find_no HALL.out)
        go_wp2
        go_ret2
        exact ⟨ret2 HF.out, hb⟩
end Go.Proofs.Ytgdghkdljfcggaa
