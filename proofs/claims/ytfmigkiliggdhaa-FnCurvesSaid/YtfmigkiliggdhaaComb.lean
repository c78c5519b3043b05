/- Contracts: regions combined, on both sides. -/
import Derived.Test.YtfmigkiliggdhaaValid
namespace Go.Proofs.Ytfmigkiliggdhaa
open Go.ChangeShapes Go.WideShapes Go.ChangeAt Go.RowKit
set_option linter.unusedVariables false

theorem regOk_24 {zs : List Int} (h : regOk zs = true) : zs.length = 24 := by
  simp [regOk] at h
  exact h.1
theorem regOk_row {zs : List Int} (h : regOk zs = true) {y : Nat} {v : Int} (hy : zs[y]? = some v) : rowS v (shP y) = true := by
  have h24 := regOk_24 h
  have hlt : y < 24 := by
    rcases Nat.lt_or_ge y zs.length with h1 | h1
    · omega
    · rw [List.getElem?_eq_none h1] at hy; cases hy
  unfold regOk at h
  rw [Bool.and_eq_true, List.all_eq_true] at h
  have := h.2 y (List.mem_range.2 hlt)
  rw [List.getD_eq_getElem?_getD, hy] at this
  exact this
theorem rowS_bd {v : Int} {p : Nat → Bool} (h : rowS v p = true) : 0 ≤ v ∧ v ≤ 1048575 := by
  simp [rowS] at h
  exact h.1
theorem regOk_bd {zs : List Int} (h : regOk zs = true) : ∀ v ∈ zs, v < 2 ^ 63 := by
  intro v hv
  obtain ⟨y, hy⟩ := List.mem_iff_getElem?.1 hv
  have := rowS_bd (regOk_row h hy)
  omega
def comb (how a b : Int) : Int := if how = 1 then bits BinOp.or IntKind.i64 a b else if how = 2 then bits BinOp.and IntKind.i64 a b else bits BinOp.andNot IntKind.i64 a b
def combL (how : Int) (xs ys : List Int) : List Int := (List.range 24).map fun y => comb how (xs.getD y 0) (ys.getD y 0)
theorem combL_len (how : Int) (xs ys : List Int) : (combL how xs ys).length = 24 := by simp [combL]
theorem combL_get {how : Int} {xs ys : List Int} {k : Nat} {x y : Int} (hk : k < 24) (hx : xs[k]? = some x) (hy : ys[k]? = some y) : (combL how xs ys)[k]? = some (comb how x y) := by
  simp [combL, hk, hx, hy, List.getD_eq_getElem?_getD]
theorem copyL_setv {zs : List Int} {k : Nat} {v : Int} (h : zs[k]? = some v) : (copyL zs k).set k v = copyL zs (k + 1) := by
  have hk : k < zs.length := by
    rcases Nat.lt_or_ge k zs.length with h1 | h1
    · exact h1
    · rw [List.getElem?_eq_none h1] at h; cases h
  rw [List.getElem?_eq_getElem hk] at h
  injection h with h
  rw [← h]
  exact copyL_set zs k hk
theorem IsValidRegion_24 (A : Option Addr) (c : Nat) (zs : List Int) (w : World) (h : RdI w A zs) (g : regOk zs = true) :
    Calls Try.prog 17 #[.agg #[.slice A 24 c]] w fun e w' => e = .returned (.bool true) ∧ Below w.heap.size w w' := by
  have h24 := regOk_24 g
  rw [← g, ← h24]
  exact IsValidRegion_any A c zs w h (regOk_bd g)
set_option maxHeartbeats 4000000 in
theorem CombineRegions_yes (A B : Option Addr) (c d : Nat) (xs ys : List Int) (how : Int) (w : World) (h1 : RdI w A xs) (h2 : RdI w B ys) (g1 : regOk xs = true) (g2 : regOk ys = true) (ho : 1 ≤ how ∧ how ≤ 3) :
    Calls Try.prog 11 #[.agg #[.slice A 24 c], .agg #[.slice B 24 d], .int .i64 how] w (RegOk w (combL how xs ys) true) := by
  have GX := Lib.hid (regOk_24 g1)
  have GY := Lib.hid (regOk_24 g2)
  have V1 := fun (w' : World) (hb : Below w.heap.size w w') => IsValidRegion_24 A c xs w' (h1.below hb) g1
  have V2 := fun (w' : World) (hb : Below w.heap.size w w') => IsValidRegion_24 B d ys w' (h2.below hb) g2
  have V1' := Lib.hid V1
  have V2' := Lib.hid V2
  have hmk := make24
  clear V1 V2 g1 g2
  obtain ⟨Z, hZ⟩ : ∃ Z, Z = combL how xs ys := ⟨_, rfl⟩
  have hZl : Z.length = 24 := by rw [hZ, combL_len]
  have hZg : ∀ (k : Nat) (x y : Int), k < 24 → xs[k]? = some x → ys[k]? = some y → Z[k]? = some (comb how x y) := fun k x y hk hx hy => by rw [hZ]; exact combL_get hk hx hy
  rw [← hZ]
  have HZ := Lib.hid hZg
  have HZl := Lib.hid hZl
  clear hZg hZl hZ
  obtain ⟨ho1, ho3⟩ := ho
  obtain rfl | rfl | rfl : how = 1 ∨ how = 2 ∨ how = 3 := by omega
  all_goals
    clear ho1 ho3
    go_enter Try.func11, Try.ntmps11
    have hT := Below.refl w.heap.size w
    replace hT := Below_al hT (.cells #[.slice A 24 c] 28 (0, 0))
    have hA : (w.alloc (.cells #[.slice A 24 c] 28 (0, 0))).heap[w.heap.size]? = some (.cells #[.slice A 24 c] 28 (0, 0)) := heap_hit _ _ _ rfl
    replace hT := Below_al hT (.cells #[.slice B 24 d] 28 (0, 0))
    replace hA := heap_keepA hA (.cells #[.slice B 24 d] 28 (0, 0))
    have hB : ((w.alloc (.cells #[.slice A 24 c] 28 (0, 0))).alloc (.cells #[.slice B 24 d] 28 (0, 0))).heap[w.heap.size + 1]? = some (.cells #[.slice B 24 d] 28 (0, 0)) := heap_hit _ _ _ (by simp)
    replace hT := Below_al hT (.cells #[.slice none 0 0] 28 (0, 0))
    replace hA := heap_keepA hA (.cells #[.slice none 0 0] 28 (0, 0))
    replace hB := heap_keepA hB (.cells #[.slice none 0 0] 28 (0, 0))
    have hR : (((w.alloc (.cells #[.slice A 24 c] 28 (0, 0))).alloc (.cells #[.slice B 24 d] 28 (0, 0))).alloc (.cells #[.slice none 0 0] 28 (0, 0))).heap[w.heap.size + 1 + 1]? = some (.cells #[.slice none 0 0] 28 (0, 0)) := heap_hit _ _ _ (by simp)
    go_wp2_with fail
    refine (V1'.out _ hT).mono ?_
    rintro e w1 ⟨rfl, hb1⟩
    replace hT := Below_then hT hb1
    replace hA := heap_keepB hA hb1
    replace hB := heap_keepB hB hb1
    replace hR := heap_keepB hR hb1
    have kA : w1.cell? ⟨w.heap.size, 0, none⟩ = some (.slice A 24 c) := cell_of hA 0
    have kB : w1.cell? ⟨w.heap.size + 1, 0, none⟩ = some (.slice B 24 d) := cell_of hB 0
    go_wp2_with fail
    clear kA kB
    refine (V2'.out _ hT).mono ?_
    rintro e w2 ⟨rfl, hb2⟩
    replace hT := Below_then hT hb2
    replace hA := heap_keepB hA hb2
    replace hB := heap_keepB hB hb2
    replace hR := heap_keepB hR hb2
    have hzR := heap_lt hR
    have hzT := hT.size
    obtain ⟨g, hg⟩ : ∃ g, g = w2.heap.size := ⟨_, rfl⟩
    obtain ⟨V, hV⟩ : ∃ V, V = w2.heap.size + 1 := ⟨_, rfl⟩
    go_wp2_with (first | (go_at_call 44; refine (inside_any _ _ _ _).mono ?_; rintro e w' ⟨rfl, rfl⟩) | fail)
    rw [← hV, ← hg]
    obtain ⟨L, eL⟩ : ∃ L : List (Nat × Obj), L = [(w.heap.size, Obj.cells #[.slice A 24 c] 28 (0, 0)), (w.heap.size + 1, Obj.cells #[.slice B 24 d] 28 (0, 0)), (w.heap.size + 1 + 1, Obj.cells #[.slice none 0 0] 28 (0, 0)), (V, Obj.cells #[.slice (some ⟨g, 0, none⟩) 24 24] 28 (0, 0))] := ⟨_, rfl⟩
    have h0 : RegSt w g L (copyL Z 0) ((w2.alloc (.cells (ints (List.replicate 24 0)) 3)).alloc (.cells #[.slice (some ⟨g, 0, none⟩) 24 24] 28)) := by
      rw [copyL_zero, HZl.out]
      refine ⟨?_, ?_, ?_⟩
      · rw [hg, heap_miss _ _ _ (by simp), heap_hit _ _ _ rfl]
      · rw [eL]
        intro p hp
        simp only [List.mem_cons, List.not_mem_nil, or_false] at hp
        rcases hp with rfl | rfl | rfl | rfl
        all_goals (try dsimp only)
        · exact heap_keepA (heap_keepA hA _) _
        · exact heap_keepA (heap_keepA hB _) _
        · exact heap_keepA (heap_keepA hR _) _
        · exact heap_hit _ _ _ (by rw [hV]; simp)
      · exact Below_al (Below_al hT _) _
    have hL : ∀ p ∈ L, p.1 ≠ g := by
      rw [eL]
      intro p hp
      simp only [List.mem_cons, List.not_mem_nil, or_false] at hp
      rcases hp with rfl | rfl | rfl | rfl
      all_goals (show _ ≠ g; omega)
    have mA : (w.heap.size, Obj.cells #[.slice A 24 c] 28 (0, 0)) ∈ L := by rw [eL]; simp
    have mB : (w.heap.size + 1, Obj.cells #[.slice B 24 d] 28 (0, 0)) ∈ L := by rw [eL]; simp
    have mR : (w.heap.size + 1 + 1, Obj.cells #[.slice none 0 0] 28 (0, 0)) ∈ L := by rw [eL]; simp
    have mV : (V, Obj.cells #[.slice (some ⟨g, 0, none⟩) 24 24] 28 (0, 0)) ∈ L := by rw [eL]; simp
    have hgw : w.heap.size ≤ g := by omega
    have hRg : w.heap.size + 1 + 1 ≠ g := by omega
    have HL := Lib.hid hL
    have MA := Lib.hid mA
    have MB := Lib.hid mB
    have MR := Lib.hid mR
    have MV := Lib.hid mV
    have H0 := Lib.hid h0
    clear hL mA mB mR mV h0 eL hT hA hB hR hzR hzT hb1 hb2 hV hg
    go_loopw [29] (fun i wr => ∃ k : Nat, k ≤ 24 ∧ i = .int .i64 k ∧ RegSt w g L (copyL Z k) wr) (fun i _ => 24 - (intOf i).toNat)
    case atStart => exact ⟨0, by omega, rfl, H0.out⟩
    case round =>
      clear H0
      obtain ⟨k, hk, rfl, hst⟩ := hrel
      by_cases hlt : k < 24
      · have hd : decide ((k : Int) < 24) = true := by simp; omega
        obtain ⟨x, hx⟩ : ∃ x, xs[k]? = some x := ⟨xs[k]'(by have := GX.out; omega), List.getElem?_eq_getElem _⟩
        obtain ⟨y, hy⟩ : ∃ y, ys[k]? = some y := ⟨ys[k]'(by have := GY.out; omega), List.getElem?_eq_getElem _⟩
        have hv := HZ.out k x y hlt hx hy
        have kA : wr.cell? ⟨w.heap.size, 0, none⟩ = some (.slice A 24 c) := cell_of (hst.keep _ MA.out) 0
        have kB : wr.cell? ⟨w.heap.size + 1, 0, none⟩ = some (.slice B 24 d) := cell_of (hst.keep _ MB.out) 0
        have kV : wr.cell? ⟨V, 0, none⟩ = some (.slice (some ⟨g, 0, none⟩) 24 24) := cell_of (hst.keep _ MV.out) 0
        have c2 := frozen_of hst.row (k : Nat)
        have c3 : (wr.cell? ⟨g, k, none⟩).isSome = true := by rw [cell_of hst.row, get_ints, List.getElem?_eq_getElem (by rw [copyL_len _ _ (by have := HZl.out; omega)]; have := HZl.out; omega)]; rfl
        obtain ⟨u, hu⟩ : ∃ u, wr.cell? ⟨g, k, none⟩ = some u := Option.isSome_iff_exists.1 c3
        obtain ⟨b1, o1, rfl, e1, -⟩ := (h1.below hst.below).atv hx
        obtain ⟨b2, o2, rfl, e2, -⟩ := (h2.below hst.below).atv hy
        have HV := Lib.hid hv
        clear hv hx hy c3
        go_wp2_with fail
        go_region
        go_wp2
        go_roundw
        case rel =>
          refine ⟨k + 1, by omega, by go_num, ?_⟩
          rw [← copyL_setv HV.out]
          exact (hst.set (by omega) HL.out k _).drew
        case measure => simp [intOf]; omega
      · obtain rfl : k = 24 := by omega
        have c1 : wr.cell? ⟨V, 0, none⟩ = some (.slice (some ⟨g, 0, none⟩) 24 24) := cell_of (hst.keep _ MV.out) 0
        have c2 := frozen_of (hst.keep _ MR.out) 0
        have c3 : wr.cell? ⟨w.heap.size + 1 + 1, 0, none⟩ = some (.slice none 0 0) := cell_of (hst.keep _ MR.out) 0
        go_wp2
        refine bodyPost_ret (v := .tuple #[.agg #[.slice (some ⟨g, 0, none⟩) 24 24], .bool true]) (by simp [results, Try.results11, go_sem, c3]) rfl ⟨_, rfl, ?_, ?_⟩
        · have hr := hst.row
          have h24 := HZl.out
          rw [show copyL Z 24 = Z from by rw [← h24]; exact copyL_all Z] at hr
          have hr2 : ∀ v, (wr.setCell ⟨w.heap.size + 1 + 1, 0, none⟩ v).heap[g]? = some (.cells (ints Z) 3 (0, 0)) := fun v => by rw [heap_far _ _ _ _ (by simpa using fun e => hRg e.symm)]; exact hr
          have ho : ∀ v, OwnI (wr.setCell ⟨w.heap.size + 1 + 1, 0, none⟩ v) w.heap.size 3 (.slice (some ⟨g, 0, none⟩) 24 24) Z := fun v => by
            have h := OwnI.blk (B := w.heap.size) (zs := Z) (hr2 v) hgw (by rw [h24]; simp [maxLen])
            rw [h24] at h
            exact h
          exact ho _
        · exact hst.below.setCell (by show w.heap.size ≤ w.heap.size + 1 + 1; omega) _
set_option maxHeartbeats 4000000 in
theorem CombineRegions_no (A B : Option Addr) (c d : Nat) (xs ys : List Int) (how : Int) (w : World) (h1 : RdI w A xs) (h2 : RdI w B ys) (l1 : xs.length ≤ 1099511627776) (l2 : ys.length ≤ 1099511627776) (b1 : ∀ v ∈ xs, v < 2 ^ 63) (b2 : ∀ v ∈ ys, v < 2 ^ 63) (hn : ¬ (regOk xs = true ∧ regOk ys = true ∧ 1 ≤ how ∧ how ≤ 3)) :
    Calls Try.prog 11 #[.agg #[.slice A xs.length c], .agg #[.slice B ys.length d], .int .i64 how] w (RegOk w [] false) := by
  have V1 := fun (w' : World) (hb : Below w.heap.size w w') => IsValidRegion_any A c xs w' (h1.below hb) b1
  have V2 := fun (w' : World) (hb : Below w.heap.size w w') => IsValidRegion_any B d ys w' (h2.below hb) b2
  obtain ⟨r1, hr1⟩ : ∃ b, b = regOk xs := ⟨_, rfl⟩
  obtain ⟨r2, hr2⟩ : ∃ b, b = regOk ys := ⟨_, rfl⟩
  rw [← hr1, ← hr2] at hn
  rw [← hr1] at V1
  rw [← hr2] at V2
  have V1' := Lib.hid V1
  have V2' := Lib.hid V2
  clear V1 V2 hr1 hr2 b1 b2 h1 h2
  generalize xs.length = n1 at *
  generalize ys.length = n2 at *
  cases r1
  · clear hn
    go_enter Try.func11, Try.ntmps11
    go_wp2_with fail
    refine (V1'.out _ (by (repeat (first | exact Below.refl _ _ | assumption | refine Below_al ?_ _ | refine Below.drew ?_ | refine Below_then ?_ (by assumption) | refine Below.setCell ?_ (by first | omega | (simp; done) | (simp; omega)) _)))).mono ?_
    rintro e w1 ⟨rfl, hb1⟩
    obtain ⟨hc1, hf1⟩ := bcell hb1
    have hz : w.heap.size + 1 + 1 < w1.heap.size := by have := hb1.size; simp at this; omega
    go_wp2
    exact bodyPost_ret (v := .tuple #[.agg #[.slice none 0 0], .bool false]) (by simp [results, Try.results11, go_sem, hc1]) rfl ⟨_, rfl, OwnI.nil _ _ _, by (repeat (first | exact Below.refl _ _ | assumption | refine Below_al ?_ _ | refine Below.drew ?_ | refine Below_then ?_ (by assumption) | refine Below.setCell ?_ (by first | omega | (simp; done) | (simp; omega)) _))⟩
  · cases r2
    · clear hn
      go_enter Try.func11, Try.ntmps11
      go_wp2_with fail
      refine (V1'.out _ (by (repeat (first | exact Below.refl _ _ | assumption | refine Below_al ?_ _ | refine Below.drew ?_ | refine Below_then ?_ (by assumption) | refine Below.setCell ?_ (by first | omega | (simp; done) | (simp; omega)) _)))).mono ?_
      rintro e w1 ⟨rfl, hb1⟩
      obtain ⟨hc1, hf1⟩ := bcell hb1
      have hz : w.heap.size + 1 + 1 < w1.heap.size := by have := hb1.size; simp at this; omega
      go_wp2_with fail
      refine (V2'.out _ (by (repeat (first | exact Below.refl _ _ | assumption | refine Below_al ?_ _ | refine Below.drew ?_ | refine Below_then ?_ (by assumption) | refine Below.setCell ?_ (by first | omega | (simp; done) | (simp; omega)) _)))).mono ?_
      rintro e w2 ⟨rfl, hb2⟩
      obtain ⟨hc2, hf2⟩ := bcell hb2
      have hz2 : w.heap.size + 1 + 1 < w2.heap.size := Nat.lt_of_lt_of_le hz hb2.size
      go_wp2
      exact bodyPost_ret (v := .tuple #[.agg #[.slice none 0 0], .bool false]) (by simp [results, Try.results11, go_sem, hc1, hc2, hz]) rfl ⟨_, rfl, OwnI.nil _ _ _, by (repeat (first | exact Below.refl _ _ | assumption | refine Below_al ?_ _ | refine Below.drew ?_ | refine Below_then ?_ (by assumption) | refine Below.setCell ?_ (by first | omega | (simp; done) | (simp; omega)) _))⟩
    · have hh : ¬ (1 ≤ how ∧ how ≤ 3) := fun h => hn ⟨rfl, rfl, h⟩
      clear hn
      go_enter Try.func11, Try.ntmps11
      go_wp2_with fail
      refine (V1'.out _ (by (repeat (first | exact Below.refl _ _ | assumption | refine Below_al ?_ _ | refine Below.drew ?_ | refine Below_then ?_ (by assumption) | refine Below.setCell ?_ (by first | omega | (simp; done) | (simp; omega)) _)))).mono ?_
      rintro e w1 ⟨rfl, hb1⟩
      obtain ⟨hc1, hf1⟩ := bcell hb1
      have hz : w.heap.size + 1 + 1 < w1.heap.size := by have := hb1.size; simp at this; omega
      go_wp2_with fail
      refine (V2'.out _ (by (repeat (first | exact Below.refl _ _ | assumption | refine Below_al ?_ _ | refine Below.drew ?_ | refine Below_then ?_ (by assumption) | refine Below.setCell ?_ (by first | omega | (simp; done) | (simp; omega)) _)))).mono ?_
      rintro e w2 ⟨rfl, hb2⟩
      obtain ⟨hc2, hf2⟩ := bcell hb2
      have hz2 : w.heap.size + 1 + 1 < w2.heap.size := Nat.lt_of_lt_of_le hz hb2.size
      go_wp2_with (first | (go_at_call 44; refine (inside_any _ _ _ _).mono ?_; rintro e w' ⟨rfl, rfl⟩) | fail)
      all_goals exact bodyPost_ret (v := .tuple #[.agg #[.slice none 0 0], .bool false]) (by simp [results, Try.results11, go_sem, hc1, hc2, hz]) rfl ⟨_, rfl, OwnI.nil _ _ _, by (repeat (first | exact Below.refl _ _ | assumption | refine Below_al ?_ _ | refine Below.drew ?_ | refine Below_then ?_ (by assumption) | refine Below.setCell ?_ (by first | omega | (simp; done) | (simp; omega)) _))⟩
end Go.Proofs.Ytfmigkiliggdhaa
