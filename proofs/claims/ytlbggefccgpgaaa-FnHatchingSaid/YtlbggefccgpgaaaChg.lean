/- Contracts: ChangedCells of the program. -/
import Derived.Test.YtlbggefccgpgaaaShare
namespace Go.Proofs.Ytlbggefccgpgaaa
open Go.ChangeShapes Go.WideShapes Go.ChangeAt Go.RowKit
set_option linter.unusedVariables false
def chgF (xs ys : List (List Int)) (x y : Int) : Bool := vAt xs y.toNat x.toNat != vAt ys y.toNat x.toNat
theorem cfChanged (args : Array Value) (w : World) : (callFunc 42 args).run Try.prog w = .ok (.enter 42 args) w := by kernel_rfl
theorem cell_in {w : World} {A : Option Addr} {rows : List (List Int)} (h : RdG w A rows) (hok : picOk rows = true) {y x : Nat} (hy : y < 24) (hx : x < 20) :
    ∃ b off b2 off2 c2, A = some ⟨b, off, none⟩ ∧ w.cell? ⟨b, off + y, none⟩ = some (.slice (some ⟨b2, off2, none⟩) 20 c2) ∧ w.cell? ⟨b2, off2 + x, none⟩ = some (.int .i64 (vAt rows y x)) := by
  have hl := picOk_24 hok
  obtain ⟨row, hrow⟩ := row_at (rows := rows) (k := y) (by omega)
  have h20 := rowG_20 (picOk_row hok hrow)
  obtain ⟨b, off, A', c', hA, hc, hr, -⟩ := h.atv hrow
  obtain ⟨v, hv⟩ : ∃ v, row[x]? = some v := ⟨row[x]'(by omega), List.getElem?_eq_getElem _⟩
  obtain ⟨b2, off2, hA2, hc2, -⟩ := hr.atv hv
  subst hA2
  rw [h20] at hc
  rw [vAt_eq hrow hv]
  exact ⟨b, off, b2, off2, c', hA, hc, hc2⟩
set_option maxHeartbeats 1000000 in
theorem changed_cl (P Q : Nat) (A A2 : Option Addr) (c c2 : Nat) (xs ys : List (List Int)) (x y : Int) (w : World) (g1 : picOk xs = true) (g2 : picOk ys = true) (h1 : RdG w A xs) (h2 : RdG w A2 ys) (x0 : 0 ≤ x) (x1 : x ≤ 19) (y0 : 0 ≤ y) (y1 : y ≤ 23) (p1 : w.cell? ⟨P, 0, none⟩ = some (.slice A 24 c)) (p2 : w.cell? ⟨Q, 0, none⟩ = some (.slice A2 24 c2)) :
    Calls Try.prog 42 #[.int .i64 x, .int .i64 y, .pointer (some ⟨P, 0, none⟩), .pointer (some ⟨Q, 0, none⟩)] w fun e w' => e = .returned (.bool (chgF xs ys x y)) ∧ Below w.heap.size w w' := by
  obtain ⟨X, rfl⟩ := Int.eq_ofNat_of_zero_le x0
  obtain ⟨Y, rfl⟩ := Int.eq_ofNat_of_zero_le y0
  unfold chgF
  rw [Int.toNat_natCast, Int.toNat_natCast]
  obtain ⟨b, off, d, of2, k, rfl, e1, e2⟩ := cell_in h1 g1 (y := Y) (x := X) (by omega) (by omega)
  obtain ⟨b', off', d', of2', k', rfl, e3, e4⟩ := cell_in h2 g2 (y := Y) (x := X) (by omega) (by omega)
  generalize vAt xs Y X = u at *
  generalize vAt ys Y X = v at *
  have i1 : (X : Int) < 20 := by omega
  have i2 : (Y : Int) < 24 := by omega
  clear h1 h2 g1 g2
  go_enter Try.func42, Try.ntmps42
  go_wp2_with fail
  go_quiet (fail)
  go_wp2
  go_ret
  exact ⟨rfl, Below_drewN' (Below.refl _ _) _⟩
set_option maxHeartbeats 2000000 in
theorem changed_any (A A2 : Option Addr) (c c2 : Nat) (xs ys : List (List Int)) (w : World) (g1 : picOk xs = true) (g2 : picOk ys = true) (h1 : RdG w A xs) (h2 : RdG w A2 ys) :
    Calls Try.prog 26 #[.slice A 24 c, .slice A2 24 c2] w (RegPost w (regRows (chgF xs ys))) := by
  have HC : ∀ (x y : Int) (w' : World), 0 ≤ x → x ≤ 19 → 0 ≤ y → y ≤ 23 → Below (((w.alloc (Obj.cells #[.slice A 24 c] 24)).alloc (Obj.cells #[.slice A2 24 c2] 24)).alloc (Obj.cells #[.slice none 0 0] 32)).heap.size (((w.alloc (Obj.cells #[.slice A 24 c] 24)).alloc (Obj.cells #[.slice A2 24 c2] 24)).alloc (Obj.cells #[.slice none 0 0] 32)) w' → Calls Try.prog 42 (#[.int .i64 x, .int .i64 y] ++ #[.pointer (some ⟨w.heap.size, 0, none⟩), .pointer (some ⟨w.heap.size + 1, 0, none⟩)]) w' fun e w'' => e = .returned (.bool (chgF xs ys x y)) ∧ Below w'.heap.size w' w'' := by
    intro x y w' a1 a2 a3 a4 hb
    show Calls Try.prog 42 #[.int .i64 x, .int .i64 y, .pointer (some ⟨w.heap.size, 0, none⟩), .pointer (some ⟨w.heap.size + 1, 0, none⟩)] w' _
    have hF : w'.heap[w.heap.size]? = some (.cells #[.slice A 24 c] 24 (0, 0)) := heap_keepB (heap_keepA (heap_keepA (heap_hit _ _ _ rfl) _) _) hb
    have hG : w'.heap[w.heap.size + 1]? = some (.cells #[.slice A2 24 c2] 24 (0, 0)) := heap_keepB (heap_keepA (heap_hit _ _ _ (by simp)) _) hb
    have hw : Below w.heap.size w w' := Below_then (by (repeat (first | exact Below.refl _ _ | assumption | refine Below_al ?_ _ | refine Below.drew ?_ | refine Below_then ?_ (by assumption) | refine Below.setCell ?_ (by first | omega | (simp; done) | (simp; omega)) _))) hb
    exact changed_cl w.heap.size (w.heap.size + 1) A A2 c c2 xs ys x y w' g1 g2 (h1.below hw) (h2.below hw) a1 a2 a3 a4 (cell_of hF 0) (cell_of hG 0)
  have HC' := Lib.hid HC
  clear HC g1 g2 h1 h2
  go_enter Try.func26, Try.ntmps26
  go_wp2_with fail
  refine (regionOf_any 42 #[.pointer (some ⟨w.heap.size, 0, none⟩), .pointer (some ⟨w.heap.size + 1, 0, none⟩)] (chgF xs ys) _ cfChanged HC'.out).mono ?_
  rintro e w1 ⟨v, rfl, ho, hb⟩
  obtain ⟨B, d, rfl, -⟩ := ho.form
  obtain ⟨hc1, hf1⟩ := bcell hb
  have hz : w.heap.size + 1 + 1 < w1.heap.size := by have := hb.size; simp at this; omega
  go_wp2
  exact bodyPost_ret (v := .agg #[.slice B (regRows (chgF xs ys)).length d]) (by simp [results, Try.results26, go_sem, hc1]) rfl ⟨_, rfl, OwnI.base (ownsRow_setCell_below ho (by first | omega | (simp; done) | (simp; omega)) _) (by first | omega | (simp; done) | (simp; omega)), by (repeat (first | exact Below.refl _ _ | assumption | refine Below_al ?_ _ | refine Below.drew ?_ | refine Below_then ?_ (by assumption) | refine Below.setCell ?_ (by first | omega | (simp; done) | (simp; omega)) _))⟩
def chgOk (xs ys : List (List Int)) : Bool := picOk xs && picOk ys
def chgR (xs ys : List (List Int)) : List Int := bif chgOk xs ys then regRows (chgF xs ys) else []
set_option maxHeartbeats 2000000 in
theorem ChangedCells_any (A A2 : Option Addr) (c c2 : Nat) (xs ys : List (List Int)) (w : World) (h1 : RdG w A xs) (h2 : RdG w A2 ys) (s1 : Small xs) (s2 : Small ys) :
    Calls Try.prog 9 #[.slice A xs.length c, .slice A2 ys.length c2] w (RegOk w (chgR xs ys) (chgOk xs ys)) := by
  have K1 := fun w' (hb : Below w.heap.size w w') => IsValidPicture_any A c xs w' (h1.below hb) s1
  have K2 := fun w' (hb : Below w.heap.size w w') => IsValidPicture_any A2 c2 ys w' (h2.below hb) s2
  cases g1 : picOk xs
  · rw [show chgOk xs ys = false from by simp [chgOk, g1], show chgR xs ys = [] from by simp [chgR, chgOk, g1]]
    rw [g1] at K1
    have K1' := Lib.hid K1
    clear K1 K2 g1 s1 s2 h1 h2
    go_enter Try.func9, Try.ntmps9
    go_wp2_with fail
    refine (K1'.out _ (by (repeat (first | exact Below.refl _ _ | assumption | refine Below_al ?_ _ | refine Below.drew ?_ | refine Below_then ?_ (by assumption) | refine Below.setCell ?_ (by first | omega | (simp; done) | (simp; omega)) _)))).mono ?_
    rintro e w1 ⟨rfl, hb1⟩
    have hS : w1.heap[w.heap.size]? = some (.cells #[.slice none 0 0] 32 (0, 0)) := heap_keepB (heap_hit _ _ _ rfl) hb1
    have q1 : w1.cell? ⟨w.heap.size, 0, none⟩ = some (.slice none 0 0) := cell_of hS 0
    have q2 := frozen_of hS 0
    have hT := Below_then (show Below w.heap.size w _ by (repeat (first | exact Below.refl _ _ | assumption | refine Below_al ?_ _ | refine Below.drew ?_ | refine Below_then ?_ (by assumption) | refine Below.setCell ?_ (by first | omega | (simp; done) | (simp; omega)) _))) hb1
    clear hS hb1
    go_wp2
    exact bodyPost_ret (v := .tuple #[.agg #[.slice none 0 0], .bool false]) (by simp [results, Try.results9, go_sem, q1]) rfl ⟨_, rfl, OwnI.nil _ _ _, hT.setCell (Nat.le_refl _) _⟩
  · cases g2 : picOk ys
    · rw [show chgOk xs ys = false from by simp [chgOk, g2], show chgR xs ys = [] from by simp [chgR, chgOk, g2]]
      rw [g1] at K1
      rw [g2] at K2
      have K1' := Lib.hid K1
      have K2' := Lib.hid K2
      clear K1 K2 g1 g2 s1 s2 h1 h2
      go_enter Try.func9, Try.ntmps9
      go_wp2_with fail
      refine (K1'.out _ (by (repeat (first | exact Below.refl _ _ | assumption | refine Below_al ?_ _ | refine Below.drew ?_ | refine Below_then ?_ (by assumption) | refine Below.setCell ?_ (by first | omega | (simp; done) | (simp; omega)) _)))).mono ?_
      rintro e w1 ⟨rfl, hb1⟩
      have hS : w1.heap[w.heap.size]? = some (.cells #[.slice none 0 0] 32 (0, 0)) := heap_keepB (heap_hit _ _ _ rfl) hb1
      have hT := Below_then (show Below w.heap.size w _ by (repeat (first | exact Below.refl _ _ | assumption | refine Below_al ?_ _ | refine Below.drew ?_ | refine Below_then ?_ (by assumption) | refine Below.setCell ?_ (by first | omega | (simp; done) | (simp; omega)) _))) hb1
      clear hb1
      have HS := Lib.hid hS
      clear hS
      go_wp2_with fail
      refine (K2'.out _ hT).mono ?_
      rintro e w2 ⟨rfl, hb2⟩
      have hS := heap_keepB HS.out hb2
      have q1 : w2.cell? ⟨w.heap.size, 0, none⟩ = some (.slice none 0 0) := cell_of hS 0
      have q2 := frozen_of hS 0
      have hT := Below_then hT hb2
      clear hS hb2
      go_wp2
      exact bodyPost_ret (v := .tuple #[.agg #[.slice none 0 0], .bool false]) (by simp [results, Try.results9, go_sem, q1]) rfl ⟨_, rfl, OwnI.nil _ _ _, hT.setCell (Nat.le_refl _) _⟩
    · rw [show chgOk xs ys = true from by simp [chgOk, g1, g2], show chgR xs ys = regRows (chgF xs ys) from by simp [chgR, chgOk, g1, g2]]
      have l1 := picOk_24 g1
      have l2 := picOk_24 g2
      have K3 := fun w' (hb : Below w.heap.size w w') => changed_any A A2 c c2 xs ys w' g1 g2 (h1.below hb) (h2.below hb)
      rw [g1] at K1
      rw [g2] at K2
      rw [l1] at K1 ⊢
      rw [l2] at K2 ⊢
      have K1' := Lib.hid K1
      have K2' := Lib.hid K2
      have K3' := Lib.hid K3
      clear K1 K2 K3 g1 g2 s1 s2 h1 h2 l1 l2
      go_enter Try.func9, Try.ntmps9
      go_wp2_with fail
      refine (K1'.out _ (by (repeat (first | exact Below.refl _ _ | assumption | refine Below_al ?_ _ | refine Below.drew ?_ | refine Below_then ?_ (by assumption) | refine Below.setCell ?_ (by first | omega | (simp; done) | (simp; omega)) _)))).mono ?_
      rintro e w1 ⟨rfl, hb1⟩
      have hS : w1.heap[w.heap.size]? = some (.cells #[.slice none 0 0] 32 (0, 0)) := heap_keepB (heap_hit _ _ _ rfl) hb1
      have hT := Below_then (show Below w.heap.size w _ by (repeat (first | exact Below.refl _ _ | assumption | refine Below_al ?_ _ | refine Below.drew ?_ | refine Below_then ?_ (by assumption) | refine Below.setCell ?_ (by first | omega | (simp; done) | (simp; omega)) _))) hb1
      clear hb1
      have HS := Lib.hid hS
      clear hS
      go_wp2_with fail
      refine (K2'.out _ hT).mono ?_
      rintro e w2 ⟨rfl, hb2⟩
      have HS := Lib.hid (heap_keepB HS.out hb2)
      have hT := Below_then hT hb2
      clear hb2
      go_wp2_with fail
      refine (K3'.out _ hT).mono ?_
      rintro e w3 ⟨v, rfl, ho, hb3⟩
      obtain ⟨B, d, rfl, -⟩ := ho.form
      have hlt := heap_lt HS.out
      have hS := heap_keepB HS.out hb3
      have q1 : w3.cell? ⟨w.heap.size, 0, none⟩ = some (.slice none 0 0) := cell_of hS 0
      have q2 := frozen_of hS 0
      have hle := hT.size
      have hT := Below_then hT hb3
      clear hS hb3 HS
      go_wp2
      exact bodyPost_ret (v := .tuple #[.agg #[.slice B (regRows (chgF xs ys)).length d], .bool true]) (by simp [results, Try.results9, go_sem, q1]) rfl ⟨_, rfl, OwnI.base (ownsRow_setCell_below ho hlt _) hle, hT.setCell (Nat.le_refl _) _⟩
end Go.Proofs.Ytlbggefccgpgaaa
