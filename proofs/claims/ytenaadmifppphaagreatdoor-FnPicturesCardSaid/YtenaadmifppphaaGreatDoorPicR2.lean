/- Contracts: the picture that letters say, both sides. -/
import Derived.Test.YtenaadmifppphaaGreatDoorGrid2
import Derived.Test.YtenaadmifppphaaGreatDoorRunT
import Derived.Test.YtenaadmifppphaaGreatDoorGGLaw
namespace Go.Proofs.YtenaadmifppphaaGreatDoor
open Go.ChangeShapes Go.WideShapes Go.ChangeAt Go.RowKit
set_option linter.unusedVariables false
set_option linter.unusedSimpArgs false
def LETS : ByteArray := ⟨#[46, 103, 115, 114, 98, 107, 110, 112, 101, 118]⟩
theorem idx_no (b : UInt8) : Lib.indexByte letL b = letNo b := by
  have h : ∀ n, n < 256 → Lib.indexByte letL (UInt8.ofNat n) = letNo (UInt8.ofNat n) := by decide +kernel
  have := h b.toNat b.toNat_lt
  rwa [UInt8.ofNat_toNat] at this
/-- The last place of a letter among the first k. -/
def lastNo (b : UInt8) : Nat → Int
  | 0 => -1
  | k + 1 => if letU (k : Int) = b then (k : Int) else lastNo b k
theorem last_no (b : UInt8) : lastNo b 10 = letNo b := by
  have h : ∀ n, n < 256 → lastNo (UInt8.ofNat n) 10 = letNo (UInt8.ofNat n) := by decide +kernel
  have := h b.toNat b.toNat_lt
  rwa [UInt8.ofNat_toNat] at this
theorem strIdx {s : ByteArray} {n : Nat} (h : n < s.size) (w : World) : (Instr.index 9 (.string s) (.int .i64 (n : Int))).run Tryz.prog w = .ok (.int .u8 ((s[n]'h).toNat : Int)) w := by
  have i1 : (n : Int) < (s.size : Int) := by omega
  have d1 : decide (n < s.size) = true := by simpa using h
  go_simp
theorem byteU (b : UInt8) : ((b.toNat : Int)).toNat.toUInt8 = b := by simp
theorem letNo_bd (b : UInt8) : -1 ≤ letNo b ∧ letNo b ≤ 9 := by
  unfold letNo
  repeat' split
  all_goals omega
theorem rdNo_small {s : ByteArray} (h : ¬ s.size = 480) : rdOk s.data.toList = false := rd_len (by rw [bytes_len]; exact h)
/-- What is read of letters. -/
def PicOf (w : World) (ok : Bool) (rows : List (List Int)) (e : Ending) (w' : World) : Prop := ∃ v, e = .returned (.tuple #[v, .bool ok]) ∧ Below w.heap.size w w' ∧ (ok = true → ∃ A c vs, v = .slice A 24 c ∧ GG w' w.heap.size v rows vs)
theorem small_grid {rows : List (List Int)} (h : rows.length = 24) (hr : ∀ (y : Nat) (row : List Int), rows[y]? = some row → row.length ≤ 20) : Small rows := ⟨by omega, fun row hrow => by
  obtain ⟨i, hi⟩ := List.getElem?_of_mem hrow
  have := hr i row hi
  omega⟩
theorem gridI_small (s : List UInt8) (i : Nat) : Small (gridI s i) := small_grid (gridI_len s i) (fun y row h => by
  have hy := (List.getElem?_eq_some_iff.1 h).1
  rw [gridI_len] at hy
  rw [gridI_at s i hy] at h
  injection h with h
  rw [← h, rowJ_len]
  exact Nat.le_refl _)
set_option maxHeartbeats 4000000 in
theorem pictureOf_any (s : ByteArray) (hs : s.size ≤ 1000000) (w : World) : Calls Tryz.prog 26 #[.string s] w (PicOf w (rdOk s.data.toList) (picP s.data.toList 24)) := by
  by_cases hz : s.size = 480
  · have hl : s.data.toList.length = 480 := by rw [bytes_len]; exact hz
    have hd : ((s.size : Int) != 480) = false := by simp; omega
    have HL := Lib.hid hl
    have HZ := Lib.hid hz
    have KV := fun A c w h => IsValidPicture_any A c (gridI s.data.toList 480) w h (gridI_small _ _)
    rw [gridI_len, gridI_all hl, ← rd_pic hl] at KV
    have KV' := Lib.hid KV
    clear hl hz KV
    go_enter Tryz.func26, Tryz.ntmps26
    go_wp2_with fail
    refine (grid_any _).mono ?_
    rintro e w1 ⟨g, vs, rfl, hG, hb⟩
    rw [gridK_all s.data.toList] at hG
    have HG := Lib.hid hG
    have HB := Lib.hid hb
    clear hG hb hd
    go_wp2_with fail
    go_loopw [13] (fun i wr => ∃ (k : Nat) (vs : List Value), k ≤ s.size ∧ i = .int .i64 k ∧ GG wr w.heap.size (.slice (some ⟨g, 0, none⟩) 24 24) (gridI s.data.toList k) vs ∧ Below w.heap.size w wr) (fun i _ => s.size - (intOf i).toNat)
    case atStart => exact ⟨0, vs, Nat.zero_le _, rfl, HG.out, HB.out⟩
    case round =>
      obtain ⟨k, vs, hk, rfl, hG, hb⟩ := hrel
      by_cases hlt : k < s.size
      · have i1 : (k : Int) < (s.size : Int) := by omega
        have d1 : decide (k < s.size) = true := by simpa using hlt
        have HG2 := Lib.hid hG
        have HB2 := Lib.hid hb
        have hbt := byte_at hlt
        obtain ⟨bb, hbb⟩ : ∃ bb : UInt8, bb = s[k]'hlt := ⟨_, rfl⟩
        rw [← hbb] at hbt
        have HBT := Lib.hid hbt
        have hix := fun w => Tryz.strings_IndexByte LETS (bb.toNat : Int) w
        rw [byteU, show LETS.data.toList = letL from rfl, idx_no] at hix
        have hsx := fun w => strIdx hlt w
        rw [← hbb] at hsx
        obtain ⟨nb0, nb9⟩ := letNo_bd bb
        obtain ⟨nb, hnb⟩ : ∃ nb, nb = letNo bb := ⟨_, rfl⟩
        rw [← hnb] at hix nb0 nb9
        have HNB := Lib.hid hnb
        have HIX := Lib.hid hix
        obtain ⟨zb, hzb⟩ : ∃ zb : Int, zb = (bb.toNat : Int) := ⟨_, rfl⟩
        have hzb2 : ((s[k]'hlt).toNat : Int) = zb := by rw [hzb, hbb]
        have HZB := Lib.hid hzb
        clear hG hb hbt hnb hix hbb hsx hzb
        by_cases hneg : nb < 0
        · go_wp2_with (first | (go_at_call 44; first | (rw [HZB.out]; refine (HIX.out _).mono ?_; rintro e wq ⟨rfl, rfl⟩) | fail) | fail)
          go_ret2
          have hno := rd_no HBT.out (by rw [← HNB.out]; exact hneg)
          exact ⟨_, by rw [hno]; rfl, HB2.out, fun h => by rw [hno] at h; cases h⟩
        · have n0 : 0 ≤ nb := by omega
          have h480 : k < 480 := by have := HZ.out; omega
          obtain ⟨q, hq⟩ : ∃ q, q = k / 20 := ⟨_, rfl⟩
          obtain ⟨r, hr⟩ : ∃ r, r = k % 20 := ⟨_, rfl⟩
          have eq1 : Int.tdiv (k : Int) 20 = (q : Int) := by rw [Int.tdiv_eq_ediv_of_nonneg (by omega)]; omega
          have er1 : Int.tmod (k : Int) 20 = (r : Int) := by rw [Int.tmod_eq_emod_of_nonneg (by omega)]; omega
          have q24 : q < 24 := by omega
          have r20 : r < 20 := by omega
          have hG2 := HG2.out
          obtain ⟨g', c', A', n', c2, row', ev, hc, hrow, hn', hvs, hown⟩ := hG2.at_ (k := q) (by rw [gridI_len]; exact q24)
          injection ev with ev evn evc
          injection ev with ev
          injection ev with ev
          subst ev
          clear evn evc
          rw [gridI_at _ _ q24] at hrow
          injection hrow with hrow
          subst hrow
          rw [rowJ_len] at hn'
          subst hn'
          obtain ⟨gr, cr, er, hBr, hgr⟩ := hown.pos (by rw [rowJ_len]; omega)
          rw [rowJ_len] at er
          injection er with er1' er2' er3'
          subst er1' er3'
          have hcell := OwnI.cellAt (zs := rowJ s.data.toList k q) (c := c2) (by rw [rowJ_len]; exact hown) r (by rw [rowJ_len]; exact r20)
          have hfz := OwnI.frozenAt (zs := rowJ s.data.toList k q) (c := c2) (by rw [rowJ_len]; exact hown) r
          have hset := OwnI.set (zs := rowJ s.data.toList k q) (c := c2) (by rw [rowJ_len]; exact hown) r nb
          have hU := hG2.upd (k := q) (by rw [gridI_len]; exact q24) hvs (by have := hset; rw [rowJ_len] at this; exact this) (grownBy_set (World.grownBy.refl _ _) r (.int .i64 nb))
          rw [HNB.out, hq, hr, gridI_set h480 HBT.out, ← HNB.out, ← hr] at hU
          have HU := Lib.hid hU
          have hT := HB2.out.setCell hBr (p := ⟨gr, r, none⟩) (.int .i64 nb)
          have HT := Lib.hid hT
          have j1 : (q : Int) < 24 := by omega
          have j2 : (r : Int) < 20 := by omega
          have d2 : decide (q < 24) = true := by simpa using q24
          have d3 : decide (r < 20) = true := by simpa using r20
          obtain ⟨old, hold⟩ : ∃ z, z = (rowJ s.data.toList k q)[r]'(by rw [rowJ_len]; exact r20) := ⟨_, rfl⟩
          rw [← hold] at hcell
          clear hold hU hT hset hG2 hown hvs hq hr hneg q24 r20
          go_wp2_with (first | (go_at_call 44; first | (rw [HZB.out]; refine (HIX.out _).mono ?_; rintro e wq ⟨rfl, rfl⟩) | fail) | fail)
          go_roundw
          case rel => exact ⟨k + 1, vs, by omega, by go_num, HU.out, HT.out⟩
          case measure => simp [intOf]; omega
      · obtain rfl : k = s.size := by omega
        have d1 : decide (s.size < s.size) = false := by simp
        rw [HZ.out, gridI_all HL.out] at hG
        have HG2 := Lib.hid hG
        have HB2 := Lib.hid hb
        obtain ⟨A2, c2, e2, hrd⟩ := hG.rd
        injection e2 with e21 e22 e23
        subst e21 e23
        have HRD := Lib.hid hrd
        clear hG hb hrd e22
        go_wp2_with fail
        refine (KV'.out _ _ _ HRD.out).mono ?_
        rintro e w3 ⟨rfl, hb3⟩
        go_wp2
        go_ret2
        exact ⟨_, rfl, Below_then HB2.out hb3, fun _ => ⟨_, _, vs, rfl, HG2.out.below hb3⟩⟩
  · have hd : ((s.size : Int) != 480) = true := by simp; omega
    have hno := Lib.hid (rdNo_small hz)
    clear hz
    go_enter Tryz.func26, Tryz.ntmps26
    go_wp2
    go_ret2
    exact ⟨_, by rw [hno.out]; rfl, Below.refl _ _, fun h => by rw [hno.out] at h; cases h⟩
set_option maxHeartbeats 4000000 in
theorem l13Read_any (s : ByteArray) (hs : s.size ≤ 1000000) (w : World) : Calls Tryz.prog 32 #[.string s] w (GridOk w (bif rdOk s.data.toList then picP s.data.toList 24 else []) (rdOk s.data.toList)) := by
  by_cases hz : s.size = 480
  · have hl : s.data.toList.length = 480 := by rw [bytes_len]; exact hz
    have hd : ((s.size : Int) != 480) = false := by simp; omega
    have HL := Lib.hid hl
    have HZ := Lib.hid hz
    have hPS : Small (picP s.data.toList 24) := by rw [← gridI_all hl]; exact gridI_small _ _
    have KV := fun A c w h => l13Good_any A c (picP s.data.toList 24) w h hPS
    rw [picP_len, ← rd_pic hl] at KV
    have KV' := Lib.hid KV
    clear hl hz KV hPS
    have hG : GG (w.alloc (.cells #[] 36)) w.heap.size (.slice (some ⟨w.heap.size, 0, none⟩) 0 0) [] [] := GG.none0 w _ _ rfl (Nat.le_refl _)
    have HG := Lib.hid hG
    clear hG
    go_enter Tryz.func32, Tryz.ntmps32
    go_wp2_with fail
    clear hd
    go_loopw [4, 5] (fun o i wr => ∃ (k : Nat) (v : Value) (vs : List Value), k ≤ 24 ∧ i = .int .i64 k ∧ o = v ∧ GG wr w.heap.size v (picP s.data.toList k) vs ∧ Below w.heap.size w wr) (fun _ i _ => 24 - (intOf i).toNat)
    case atStart => exact ⟨0, _, [], Nat.zero_le _, rfl, rfl, HG.out, by (repeat (first | exact Below.refl _ _ | assumption | refine Below_al ?_ _ | refine Below.drew ?_ | refine Below_then ?_ (by assumption) | refine Below.setCell ?_ (by first | omega | (simp; done) | (simp; omega)) _))⟩
    case round =>
      obtain ⟨y, v, vs, hk, rfl, hov, hG, hb⟩ := hrel
      replace hov := hov.symm
      subst hov
      obtain ⟨wo, hwo⟩ : ∃ x, x = wr := ⟨wr, rfl⟩
      by_cases hlt : y < 24
      · have i1 : (y : Int) < 24 := by omega
        have d1 : decide (y < 24) = true := by simpa using hlt
        have hO0 : OwnI (wo.alloc (.cells #[] 3)) wo.heap.size 3 (.slice (some ⟨wo.heap.size, 0, none⟩) 0 0) [] := OwnI.blk (zs := []) (heap_hit _ _ _ rfl) (Nat.le_refl _) (by simp [maxLen])
        have hL0 := Below_al (Below.refl wo.heap.size wo) (.cells #[] 3)
        have HO0 := Lib.hid hO0
        have HL0 := Lib.hid hL0
        have HG2 := Lib.hid hG
        have HB2 := Lib.hid hb
        clear hG hb hO0 hL0
        rw [← hwo] at HG2 HB2 ⊢
        clear hwo
        go_wp2_with fail
        go_loopw [6, 7] (fun o i wi => ∃ (x : Nat) (u : Value), x ≤ 20 ∧ i = .int .i64 x ∧ o = u ∧ OwnI wi wo.heap.size 3 u ((rowP s.data.toList y).take x) ∧ Below wo.heap.size wo wi) (fun _ i _ => 20 - (intOf i).toNat)
        case atStart => exact ⟨0, _, Nat.zero_le _, rfl, rfl, HO0.out, HL0.out⟩
        case round =>
          obtain ⟨x, u, hx, rfl, hou, hO, hL⟩ := hrel
          replace hou := hou.symm
          subst hou
          obtain ⟨wi, hwi⟩ : ∃ z, z = wr := ⟨wr, rfl⟩
          rw [← hwi] at hO hL ⊢
          clear hwi
          by_cases hx2 : x < 20
          · have i2 : (x : Int) < 20 := by omega
            have d2 : decide (x < 20) = true := by simpa using hx2
            obtain ⟨m, hm⟩ : ∃ m : Nat, m = 20 * y := ⟨_, rfl⟩
            obtain ⟨n, hn⟩ : ∃ n : Nat, n = m + x := ⟨_, rfl⟩
            have hns : n < s.size := by have := HZ.out; omega
            have hbt := byte_at hns
            obtain ⟨bb, hbb⟩ : ∃ bb : UInt8, bb = s[n]'hns := ⟨_, rfl⟩
            rw [← hbb] at hbt
            have hrp := rowP_at s.data.toList (y := y) hx2 (by rw [← hm, ← hn]; exact hbt)
            have HRP := Lib.hid hrp
            have ew1 : IntKind.i64.wrap (20 * (y : Int)) = (m : Int) := by rw [IntKind.wrap_i64]; omega
            have ew2 : IntKind.i64.wrap ((m : Int) + (x : Int)) = (n : Int) := by rw [IntKind.wrap_i64]; omega
            have EW := Lib.hid (And.intro ew1 ew2)
            obtain ⟨zb, hzb⟩ : ∃ zb : Int, zb = (bb.toNat : Int) := ⟨_, rfl⟩
            have hix : ∀ w, (Instr.index 9 (.string s) (.int .i64 (n : Int))).run Tryz.prog w = .ok (.int .u8 zb) w := fun w => by rw [hzb, hbb]; exact strIdx hns w
            have HIX := Lib.hid hix
            have HO := Lib.hid hO
            have HLL := Lib.hid hL
            have HZB := Lib.hid hzb
            clear hO hL hbt hrp ew1 ew2 hix hbb hm hn hns hzb
            go_wp2_with fail
            go_loopw [8, 9] (fun t i wk => ∃ (k : Nat), k ≤ 10 ∧ i = .int .i64 k ∧ t = .int .i64 (lastNo bb k) ∧ Below wi.heap.size wi wk) (fun _ i _ => 10 - (intOf i).toNat)
            case atStart => exact ⟨0, Nat.zero_le _, rfl, rfl, Below.refl _ _⟩
            case round =>
              obtain ⟨k, hk10, rfl, rfl, hQ⟩ := hrel
              by_cases hk2 : k < 10
              · have i3 : (k : Int) < 10 := by omega
                have d3 : decide (k < 10) = true := by simpa using hk2
                have hli := fun w => letIdx (k : Int) (by omega) (by omega) w
                obtain ⟨zl, hzl⟩ : ∃ zl : Int, zl = ((letU (k : Int)).toNat : Int) := ⟨_, rfl⟩
                rw [← hzl] at hli
                have hix := HIX.out
                obtain ⟨ew1, ew2⟩ := EW.out
                by_cases hq : zl = zb
                · have hqq : (zl == zb) = true := by simpa using hq
                  have hnew : lastNo bb (k + 1) = (k : Int) := by
                    rw [lastNo, if_pos]
                    have := HZB.out
                    exact UInt8.toNat_inj.1 (by omega)
                  have HNEW := Lib.hid hnew
                  clear hnew hzl hq
                  go_wp2_with fail
                  refine wp_region_noPanic ?_
                  refine wp_region_held_drew (S := (fun w' => Below wr.heap.size wr w')) (by kernel_rfl) (Below.refl _ _).drew (fun hHeld => ?_)
                  refine wpAnyH_take (i := 0) (oi := _) (v := ?_) rfl (by kernel_rfl) (by kernel_rfl) (by kernel_rfl) (fun _ _ _ h => h) (Or.inl ⟨by rfl, ?_⟩) (by assumption) ?_
                  rotate_left
                  · intro w hSw; clear hSw; first | (go_simp; done) | (go_simp; with_reducible rfl)
                  simp only [Act.put, List.getElem_toArray, List.getElem_cons_succ, List.getElem_cons_zero, List.setIfInBounds_toArray, List.set_cons_zero, List.set_cons_succ]
                  refine wpAnyH_take (i := 1) (oi := _) (v := ?_) rfl (by kernel_rfl) (by kernel_rfl) (by kernel_rfl) (fun _ _ _ h => h) (Or.inl ⟨by rfl, ?_⟩) (by assumption) ?_
                  rotate_left
                  · intro w hSw; clear hSw; first | (go_simp; done) | (go_simp; with_reducible rfl)
                  simp only [Act.put, List.getElem_toArray, List.getElem_cons_succ, List.getElem_cons_zero, List.setIfInBounds_toArray, List.set_cons_zero, List.set_cons_succ]
                  refine wpAnyH_take (i := 2) (oi := _) (v := ?_) rfl (by kernel_rfl) (by kernel_rfl) (by kernel_rfl) (fun _ _ _ h => h) (Or.inl ⟨by rfl, ?_⟩) (by assumption) ?_
                  rotate_left
                  · intro w hSw; clear hSw; first | (go_simp; done) | (go_simp; with_reducible rfl)
                  simp only [Act.put, List.getElem_toArray, List.getElem_cons_succ, List.getElem_cons_zero, List.setIfInBounds_toArray, List.set_cons_zero, List.set_cons_succ]
                  refine wpAnyH_take (i := 3) (oi := _) (v := ?_) rfl (by kernel_rfl) (by kernel_rfl) (by kernel_rfl) (fun _ _ _ h => h) (Or.inl ⟨by rfl, ?_⟩) (by assumption) ?_
                  rotate_left
                  · intro w hSw; clear hSw; first | (go_simp; done) | (go_simp; with_reducible rfl)
                  simp only [Act.put, List.getElem_toArray, List.getElem_cons_succ, List.getElem_cons_zero, List.setIfInBounds_toArray, List.set_cons_zero, List.set_cons_succ]
                  refine wpAnyH_take (i := 4) (oi := _) (v := ?_) rfl (by kernel_rfl) (by kernel_rfl) (by kernel_rfl) (fun _ _ _ h => h) (Or.inl ⟨by rfl, ?_⟩) (by assumption) ?_
                  rotate_left
                  · intro w hSw; clear hSw; first | (go_simp; done) | (go_simp; with_reducible rfl)
                  simp only [Act.put, List.getElem_toArray, List.getElem_cons_succ, List.getElem_cons_zero, List.setIfInBounds_toArray, List.set_cons_zero, List.set_cons_succ]
                  refine wpAnyH_take (i := 5) (oi := _) (v := ?_) rfl (by kernel_rfl) (by kernel_rfl) (by kernel_rfl) (fun _ _ _ h => h) (Or.inl ⟨by rfl, ?_⟩) (by assumption) ?_
                  rotate_left
                  · intro w hSw; clear hSw; first | (go_simp; done) | (go_simp; with_reducible rfl)
                  simp only [Act.put, List.getElem_toArray, List.getElem_cons_succ, List.getElem_cons_zero, List.setIfInBounds_toArray, List.set_cons_zero, List.set_cons_succ]
                  refine wpAnyH_take (i := 6) (oi := _) (v := ?_) rfl (by kernel_rfl) (by kernel_rfl) (by kernel_rfl) (fun _ _ _ h => h) (Or.inl ⟨by rfl, ?_⟩) (by assumption) ?_
                  rotate_left
                  · intro w hSw; clear hSw; first | (go_simp; done) | (go_simp; with_reducible rfl)
                  simp only [Act.put, List.getElem_toArray, List.getElem_cons_succ, List.getElem_cons_zero, List.setIfInBounds_toArray, List.set_cons_zero, List.set_cons_succ]
                  refine wpAnyH_take (i := 7) (oi := _) (v := ?_) rfl (by kernel_rfl) (by kernel_rfl) (by kernel_rfl) (fun _ _ _ h => h) (Or.inl ⟨by rfl, ?_⟩) (by assumption) ?_
                  rotate_left
                  · intro w hSw; clear hSw; first | (go_simp; done) | (go_simp; with_reducible rfl)
                  simp only [Act.put, List.getElem_toArray, List.getElem_cons_succ, List.getElem_cons_zero, List.setIfInBounds_toArray, List.set_cons_zero, List.set_cons_succ]
                  refine wpAnyH_take (i := 8) (oi := _) (v := ?_) rfl (by kernel_rfl) (by kernel_rfl) (by kernel_rfl) (fun _ _ _ h => h) (Or.inl ⟨by rfl, ?_⟩) (by assumption) ?_
                  rotate_left
                  · intro w hSw; clear hSw; first | (go_simp; done) | (go_simp; with_reducible rfl)
                  simp only [Act.put, List.getElem_toArray, List.getElem_cons_succ, List.getElem_cons_zero, List.setIfInBounds_toArray, List.set_cons_zero, List.set_cons_succ]
                  refine wpAnyH_done (by kernel_rfl) ?_ _
                  refine NoPanic.normal ?_
                  clear hli hix ew1 ew2 hqq
                  have hQ2 := Below_then hQ hHeld
                  clear hHeld hQ
                  go_wp2
                  go_roundw
                  case rel => exact ⟨k + 1, by omega, by go_num, by rw [HNEW.out], hQ2⟩
                  case measure => simp [intOf]; omega
                · have hqq : (zl == zb) = false := by simpa using hq
                  have hnew : lastNo bb (k + 1) = lastNo bb k := by
                    rw [lastNo, if_neg]
                    intro e
                    have := HZB.out
                    rw [e] at hzl
                    omega
                  have HNEW := Lib.hid hnew
                  clear hnew hzl hq
                  go_wp2_with fail
                  refine wp_region_noPanic ?_
                  refine wp_region_held_drew (S := (fun w' => Below wr.heap.size wr w')) (by kernel_rfl) (Below.refl _ _).drew (fun hHeld => ?_)
                  refine wpAnyH_take (i := 0) (oi := _) (v := ?_) rfl (by kernel_rfl) (by kernel_rfl) (by kernel_rfl) (fun _ _ _ h => h) (Or.inl ⟨by rfl, ?_⟩) (by assumption) ?_
                  rotate_left
                  · intro w hSw; clear hSw; first | (go_simp; done) | (go_simp; with_reducible rfl)
                  simp only [Act.put, List.getElem_toArray, List.getElem_cons_succ, List.getElem_cons_zero, List.setIfInBounds_toArray, List.set_cons_zero, List.set_cons_succ]
                  refine wpAnyH_take (i := 1) (oi := _) (v := ?_) rfl (by kernel_rfl) (by kernel_rfl) (by kernel_rfl) (fun _ _ _ h => h) (Or.inl ⟨by rfl, ?_⟩) (by assumption) ?_
                  rotate_left
                  · intro w hSw; clear hSw; first | (go_simp; done) | (go_simp; with_reducible rfl)
                  simp only [Act.put, List.getElem_toArray, List.getElem_cons_succ, List.getElem_cons_zero, List.setIfInBounds_toArray, List.set_cons_zero, List.set_cons_succ]
                  refine wpAnyH_take (i := 2) (oi := _) (v := ?_) rfl (by kernel_rfl) (by kernel_rfl) (by kernel_rfl) (fun _ _ _ h => h) (Or.inl ⟨by rfl, ?_⟩) (by assumption) ?_
                  rotate_left
                  · intro w hSw; clear hSw; first | (go_simp; done) | (go_simp; with_reducible rfl)
                  simp only [Act.put, List.getElem_toArray, List.getElem_cons_succ, List.getElem_cons_zero, List.setIfInBounds_toArray, List.set_cons_zero, List.set_cons_succ]
                  refine wpAnyH_take (i := 3) (oi := _) (v := ?_) rfl (by kernel_rfl) (by kernel_rfl) (by kernel_rfl) (fun _ _ _ h => h) (Or.inl ⟨by rfl, ?_⟩) (by assumption) ?_
                  rotate_left
                  · intro w hSw; clear hSw; first | (go_simp; done) | (go_simp; with_reducible rfl)
                  simp only [Act.put, List.getElem_toArray, List.getElem_cons_succ, List.getElem_cons_zero, List.setIfInBounds_toArray, List.set_cons_zero, List.set_cons_succ]
                  refine wpAnyH_take (i := 4) (oi := _) (v := ?_) rfl (by kernel_rfl) (by kernel_rfl) (by kernel_rfl) (fun _ _ _ h => h) (Or.inl ⟨by rfl, ?_⟩) (by assumption) ?_
                  rotate_left
                  · intro w hSw; clear hSw; first | (go_simp; done) | (go_simp; with_reducible rfl)
                  simp only [Act.put, List.getElem_toArray, List.getElem_cons_succ, List.getElem_cons_zero, List.setIfInBounds_toArray, List.set_cons_zero, List.set_cons_succ]
                  refine wpAnyH_take (i := 5) (oi := _) (v := ?_) rfl (by kernel_rfl) (by kernel_rfl) (by kernel_rfl) (fun _ _ _ h => h) (Or.inl ⟨by rfl, ?_⟩) (by assumption) ?_
                  rotate_left
                  · intro w hSw; clear hSw; first | (go_simp; done) | (go_simp; with_reducible rfl)
                  simp only [Act.put, List.getElem_toArray, List.getElem_cons_succ, List.getElem_cons_zero, List.setIfInBounds_toArray, List.set_cons_zero, List.set_cons_succ]
                  refine wpAnyH_take (i := 6) (oi := _) (v := ?_) rfl (by kernel_rfl) (by kernel_rfl) (by kernel_rfl) (fun _ _ _ h => h) (Or.inl ⟨by rfl, ?_⟩) (by assumption) ?_
                  rotate_left
                  · intro w hSw; clear hSw; first | (go_simp; done) | (go_simp; with_reducible rfl)
                  simp only [Act.put, List.getElem_toArray, List.getElem_cons_succ, List.getElem_cons_zero, List.setIfInBounds_toArray, List.set_cons_zero, List.set_cons_succ]
                  refine wpAnyH_take (i := 7) (oi := _) (v := ?_) rfl (by kernel_rfl) (by kernel_rfl) (by kernel_rfl) (fun _ _ _ h => h) (Or.inl ⟨by rfl, ?_⟩) (by assumption) ?_
                  rotate_left
                  · intro w hSw; clear hSw; first | (go_simp; done) | (go_simp; with_reducible rfl)
                  simp only [Act.put, List.getElem_toArray, List.getElem_cons_succ, List.getElem_cons_zero, List.setIfInBounds_toArray, List.set_cons_zero, List.set_cons_succ]
                  refine wpAnyH_take (i := 8) (oi := _) (v := ?_) rfl (by kernel_rfl) (by kernel_rfl) (by kernel_rfl) (fun _ _ _ h => h) (Or.inl ⟨by rfl, ?_⟩) (by assumption) ?_
                  rotate_left
                  · intro w hSw; clear hSw; first | (go_simp; done) | (go_simp; with_reducible rfl)
                  simp only [Act.put, List.getElem_toArray, List.getElem_cons_succ, List.getElem_cons_zero, List.setIfInBounds_toArray, List.set_cons_zero, List.set_cons_succ]
                  refine wpAnyH_done (by kernel_rfl) ?_ _
                  refine NoPanic.normal ?_
                  clear hli hix ew1 ew2 hqq
                  have hQ2 := Below_then hQ hHeld
                  clear hHeld hQ
                  go_wp2
                  go_roundw
                  case rel => exact ⟨k + 1, by omega, by go_num, by rw [HNEW.out], hQ2⟩
                  case measure => simp [intOf]; omega
              · obtain rfl : k = 10 := by omega
                rw [last_no]
                have hO2 := HO.out.below hQ
                have hL2 := (HLL.out.trans (hQ.mono HLL.out.size))
                have hsz := hL2.size
                have hlen : ((rowP s.data.toList y).take x).length ≤ 20 := by rw [List.length_take]; omega
                obtain ⟨z, hz⟩ : ∃ z, z = letNo bb := ⟨_, rfl⟩
                rw [← hz]
                have HZN := Lib.hid hz
                have HO2 := Lib.hid hO2
                have HL2 := Lib.hid hL2
                clear hQ hz hO2 hL2
                go_wp2_with (first | (at_builtin; refine wp_appI rfl _ _ rfl wo.heap.size u ((rowP s.data.toList y).take x) rfl (HO2.out.alloc _) _ _ rfl (cell_of (heap_hit _ _ _ rfl) 0) ?c1 ?c2 ?_; rotate_left 2; intro v' w9 hO9 hG9 hL9) | fail)
                try (case c1 => omega)
                try (case c2 => (simp; omega))
                have hT9 := (Below.alloc HL2.out hsz (.cells #[.int .i64 z] 3)).trans hL9
                have hr9 : (rowP s.data.toList y).take (x + 1) = (rowP s.data.toList y).take x ++ [z] := by rw [List.take_add_one, HRP.out, HZN.out]; rfl
                rw [← hr9] at hO9
                clear hG9 hL9 hr9
                go_wp2
                go_roundw
                case rel => exact ⟨x + 1, _, by omega, by go_num, rfl, hO9, hT9⟩
                case measure => simp [intOf]; omega
          · obtain rfl : x = 20 := by omega
            have d2 : decide (20 < 20) = false := by simp
            rw [List.take_of_length_le (by rw [rowP_len _ HL.out hlt]; exact Nat.le_refl _)] at hO
            have hG6 := HG2.out.below hL
            have hT6 := Below_then HB2.out hL
            have hs6 := hT6.size
            have hws := HB2.out.size
            have q1 : ∀ (i : Nat) (u' : Value), vs[i]? = some u' → u'.ownBlock = none ∨ u'.ownBlock ≠ u.ownBlock := fun i u' hu' => by
              cases e : u'.ownBlock with
              | none => exact .inl rfl
              | some b =>
                refine .inr fun e2 => ?_
                have := (HG2.out.hi i u' hu' b e).2
                have := (hO.lt b e2.symm).1
                omega
            have q2 : u.ownBlock = none ∨ u.ownBlock ≠ v.ownBlock := by
              cases e : u.ownBlock with
              | none => exact .inl rfl
              | some b =>
                refine .inr fun e2 => ?_
                have := (HG2.out.outer b e2.symm).2
                have := (hO.lt b e).1
                omega
            have q3 : (picP s.data.toList y).length ≤ 1048576 := by rw [picP_len]; omega
            obtain ⟨A', c', rfl, -⟩ := hO.form
            have Q1 := Lib.hid q1
            have Q2 := Lib.hid q2
            have HO5 := Lib.hid hO
            have HG6 := Lib.hid hG6
            have HT6 := Lib.hid hT6
            clear q1 q2 hL hO hG6 hT6
            go_wp2_with (first | (at_builtin; refine wp_appG rfl _ _ rfl w.heap.size v (picP s.data.toList y) vs rfl (HG6.out.below (Below_al (Below.refl _ _) _)) _ _ (rowP s.data.toList y) rfl (cell_of (heap_hit _ _ _ rfl) 0) (OwnI.base (HO5.out.alloc _) ?c0) Q1.out Q2.out q3 ?c4 ?_; rotate_left 2; intro v' w9 hG9 hR9 hL9) | fail)
            try (case c0 => omega)
            try (case c4 => (simp; omega))
            have hT9 := (Below_al HT6.out _).trans hL9
            have hp9 : picP s.data.toList (y + 1) = picP s.data.toList y ++ [rowP s.data.toList y] := by simp [picP, List.range_succ]
            rw [← hp9] at hG9
            clear hR9 hL9 hp9
            go_wp2
            go_roundw
            case rel => exact ⟨y + 1, _, _, by omega, by go_num, rfl, hG9, hT9⟩
            case measure => simp [intOf]; omega
      · obtain rfl : y = 24 := by omega
        have d1 : decide (24 < 24) = false := by simp
        have HG2 := Lib.hid hG
        have HB2 := Lib.hid hb
        obtain ⟨A2, c2, rfl, hrd⟩ := hG.rd
        rw [picP_len]
        rw [picP_len] at HG2
        have HRD := Lib.hid hrd
        clear hG hb hrd hwo
        cases hok : rdOk s.data.toList
        · rw [hok] at KV'
          go_wp2_with fail
          refine (KV'.out _ _ _ HRD.out).mono ?_
          rintro e w3 ⟨rfl, hb3⟩
          have hT3 := Below_then HB2.out hb3
          have hN := GG.none0 w3 w.heap.size w3.heap.size rfl hT3.size
          have hT4 := Below_al hT3 (.cells #[] 36)
          clear hb3
          go_wp2
          go_ret2
          exact ⟨_, _, by rw [hok]; rfl, by rw [hok]; exact hN, hT4⟩
        · rw [hok] at KV'
          go_wp2_with fail
          refine (KV'.out _ _ _ HRD.out).mono ?_
          rintro e w3 ⟨rfl, hb3⟩
          go_wp2
          go_ret2
          exact ⟨_, _, by rw [hok]; rfl, by rw [hok]; exact HG2.out.below hb3, Below_then HB2.out hb3⟩
  · have hd : ((s.size : Int) != 480) = true := by simp; omega
    rw [rdNo_small hz]
    clear hz
    go_enter Tryz.func32, Tryz.ntmps32
    go_wp2
    go_ret2
    exact ⟨_, _, rfl, GG.none0 w w.heap.size w.heap.size rfl (Nat.le_refl _), by (repeat (first | exact Below.refl _ _ | assumption | refine Below_al ?_ _ | refine Below.drew ?_ | refine Below_then ?_ (by assumption) | refine Below.setCell ?_ (by first | omega | (simp; done) | (simp; omega)) _))⟩
end Go.Proofs.YtenaadmifppphaaGreatDoor
