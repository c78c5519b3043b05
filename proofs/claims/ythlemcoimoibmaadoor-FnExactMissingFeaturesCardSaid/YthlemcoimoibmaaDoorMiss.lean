/- Contracts: MissingFeatures, both sides. -/
import Derived.Test.YthlemcoimoibmaaDoorFeat5
import Derived.Test.YthlemcoimoibmaaDoorList
import Derived.Test.YthlemcoimoibmaaDoorDelS
namespace Go.Proofs.YthlemcoimoibmaaDoor
open Go.ChangeShapes Go.WideShapes Go.ChangeAt Go.RowKit
set_option linter.unusedVariables false
set_option linter.unusedSimpArgs false
def mOk (a : ArmsD) (zs : List ByteArray) : Bool := armsOk a && lsOk zs
/-- The features of a list that arms have not. -/
def mOf (a : ArmsD) (zs : List ByteArray) : List ByteArray := bif mOk a zs then zs.filter (fun s => !hasB (featL a) s) else []
theorem mOf_len (a : ArmsD) (zs : List ByteArray) : (mOf a zs).length ≤ zs.length := by
  unfold mOf
  cases mOk a zs
  · exact Nat.zero_le _
  · exact List.length_filter_le _ _
theorem featL_pos (a : ArmsD) : 0 < (featL a).length := by
  have : fi 100 a.d ∈ featL a := by
    unfold featL
    rw [putAll_mem]
    simp [raw2]
  exact List.length_pos_of_mem this
theorem enters_miss : ∀ args w, (callFunc 34 args).run Tryd.prog w = .ok (.enter 34 args) w := enters_of Tryd.func34 (by kernel_rfl) rfl
set_option maxHeartbeats 4000000 in
theorem implMissing_any (a : ArmsD) (A : Option Addr) (c : Nat) (zs : List ByteArray) (w : World) (h : RdS w A zs) (hx : zs.length ≤ 1048576) (hs : ∀ s ∈ zs, s.size ≤ maxLen) :
    Calls Tryd.prog 17 #[.agg (ac a).toArray, .slice A zs.length c] w (StrsOk w (mOf a zs) (mOk a zs)) := by
  have KV := Lib.hid (fun w => okA a w)
  have HB := Lib.hid (fun w' hb => boxR a (w := w) (w' := w') hb)
  have hW : Below w.heap.size w (w.alloc (.cells (ac a).toArray 35)) := Below_al (Below.refl _ _) _
  cases hq : armsOk a
  · have hf : mOf a zs = [] := by unfold mOf mOk; rw [hq]; rfl
    have hk : mOk a zs = false := by unfold mOk; rw [hq]; rfl
    rw [hf, hk]
    rw [hq] at KV
    clear hq hf hk
    go_enter Tryd.func17, Tryd.ntmps17
    go_wp2_with (first | (refine ldA15 rfl _ rfl w.heap.size _ rfl a (HB.out _ (Below.refl _ _)) ?_) | fail)
    refine (KV.out _).mono ?_
    rintro e w1 ⟨rfl, hb1⟩
    have hT := Below_then hW hb1
    clear hb1 hW
    go_wp2
    go_ret2
    exact ⟨_, rfl, OwnS.nil _ _ _, hT⟩
  · rw [hq] at KV
    cases hl : lsOk zs
    · have hf : mOf a zs = [] := by unfold mOf mOk; rw [hq, hl]; rfl
      have hk : mOk a zs = false := by unfold mOk; rw [hq, hl]; rfl
      rw [hf, hk]
      have KL := Lib.hid (fun w h => areFeatures_any A c zs w h hx hs)
      rw [hl] at KL
      clear hq hl hf hk
      go_enter Tryd.func17, Tryd.ntmps17
      go_wp2_with (first | (refine ldA15 rfl _ rfl w.heap.size _ rfl a (HB.out _ (Below.refl _ _)) ?_) | fail)
      refine (KV.out _).mono ?_
      rintro e w1 ⟨rfl, hb1⟩
      have hT := Below_then hW hb1
      clear hb1 hW
      go_wp2_with fail
      refine (KL.out _ (h.below hT)).mono ?_
      rintro e w2 ⟨rfl, hb2⟩
      have hT := Below_then hT hb2
      clear hb2
      go_wp2
      go_ret2
      exact ⟨_, rfl, OwnS.nil _ _ _, hT⟩
    · have hf : mOf a zs = zs.filter (fun s => !hasB (featL a) s) := by unfold mOf mOk; rw [hq, hl]; rfl
      have hk : mOk a zs = true := by unfold mOk; rw [hq, hl]; rfl
      rw [hf, hk]
      have KL := Lib.hid (fun w h => areFeatures_any A c zs w h hx hs)
      rw [hl] at KL
      have KF := Lib.hid (fun w => features_any a hq w)
      have HFL := Lib.hid (featL_len a)
      have HFP := Lib.hid (featL_pos a)
      clear hq hl hf hk
      obtain ⟨fs, hfs⟩ : ∃ fs, fs = featL a := ⟨_, rfl⟩
      rw [← hfs] at KF HFL HFP
      rw [← hfs]
      clear hfs
      go_enter Tryd.func17, Tryd.ntmps17
      go_wp2_with (first | (refine ldA15 rfl _ rfl w.heap.size _ rfl a (HB.out _ (Below.refl _ _)) ?_) | fail)
      refine (KV.out _).mono ?_
      rintro e w1 ⟨rfl, hb1⟩
      have hT := Below_then hW hb1
      have hP : Below (w.alloc (.cells (ac a).toArray 35)).heap.size (w.alloc (.cells (ac a).toArray 35)) w1 := hb1
      clear hb1 hW
      go_wp2_with fail
      refine (KL.out _ (h.below hT)).mono ?_
      rintro e w2 ⟨rfl, hb2⟩
      have hT := Below_then hT hb2
      have hR := HB.out _ (Below_then hP hb2)
      clear hb2 hP
      go_wp2_with (first | (refine ldA15 rfl _ rfl w.heap.size _ rfl a hR ?_) | fail)
      refine (KF.out _).mono ?_
      rintro e w3 ⟨v, rfl, hO, hb3⟩
      obtain ⟨g, cf, rfl, hgB, hgl⟩ := hO.pos HFP.out
      have hr : RdS w3 (some ⟨g, 0, none⟩) fs := by
        obtain ⟨A', c', e, hr⟩ := hO.form
        injection e with e
        subst e
        exact hr
      have hT := Below_then hT hb3
      have hs3 := hT.size
      clear hR hb3 hO
      go_wp2_with fail
      have hT4 := Below_al hT (.cells #[.slice (some ⟨g, 0, none⟩) fs.length cf] 29)
      refine (cloneS_any A c zs _ (h.below hT4) hx).mono ?_
      rintro e w5 ⟨v5, rfl, hO5, hb5⟩
      have hbx : w5.cell? ⟨w3.heap.size, 0, none⟩ = some (.slice (some ⟨g, 0, none⟩) fs.length cf) := keep_cell (cell_of (heap_hit _ _ _ rfl) 0) hb5
      have hr5 := (hr.alloc (.cells #[.slice (some ⟨g, 0, none⟩) fs.length cf] 29)).below hb5
      have hT5 := Below_then hT4 hb5
      have hlt := hO5.lt
      have hsz := hb5.size
      have hsz1 : (w3.alloc (.cells #[.slice (some ⟨g, 0, none⟩) fs.length cf] 29)).heap.size = w3.heap.size + 1 := by simp
      rw [hsz1] at hlt hsz
      have hD := delS_any _ v5 zs w5 hO5 hx (hasB fs) 34 #[.pointer (some ⟨w3.heap.size, 0, none⟩)] enters_miss
        (pred_miss fs.length cf g w3.heap.size fs w5 rfl (by have := HFL.out; omega) (by omega) hbx hr5)
        (fun blk hblk => over_miss fs.length cf g w3.heap.size blk zs.length fs w5 rfl (by have := HFL.out; omega) (by omega) (by have := (hlt blk hblk).1; omega) (by omega) (by have := (hlt blk hblk).1; omega) hbx hr5)
      have HD := Lib.hid hD
      have HT5 := Lib.hid hT5
      have HS := Lib.hid (show w.heap.size ≤ (w3.alloc (.cells #[.slice (some ⟨g, 0, none⟩) fs.length cf] 29)).heap.size from by rw [hsz1]; omega)
      clear hD hlt hbx hr5 hr hT hT4 hT5 hb5 hO5 hsz hs3 hgB hgl hsz1
      go_wp2_with fail
      refine HD.out.mono ?_
      rintro e w6 ⟨v6, rfl, hO6, hb6⟩
      have hO7 := OwnS.base hO6 HS.out
      have hT6 := HT5.out.trans (hb6.mono HS.out)
      clear hO6 hb6
      go_wp2
      go_ret2
      exact ⟨_, rfl, hO7, hT6⟩
set_option maxHeartbeats 4000000 in
theorem specMissing_any (a : ArmsD) (A : Option Addr) (c : Nat) (zs : List ByteArray) (w : World) (h : RdS w A zs) (hx : zs.length ≤ 1048576) (hs : ∀ s ∈ zs, s.size ≤ maxLen) :
    Calls Tryd.prog 15 #[.agg (ac a).toArray, .slice A zs.length c] w (StrsOk w (mOf a zs) (mOk a zs)) := by
  have KV := Lib.hid (fun w => okL a w)
  have HB := Lib.hid (fun w' hb => boxR a (w := w) (w' := w') hb)
  have hW : Below w.heap.size w (w.alloc (.cells (ac a).toArray 35)) := Below_al (Below.refl _ _) _
  have hW1 : Below (w.alloc (.cells (ac a).toArray 35)).heap.size (w.alloc (.cells (ac a).toArray 35)) ((w.alloc (.cells (ac a).toArray 35)).alloc (.cells #[] 9)) := Below_al (Below.refl _ _) _
  have hO0 : OwnS ((w.alloc (.cells (ac a).toArray 35)).alloc (.cells #[] 9)) w.heap.size 9 (.slice (some ⟨w.heap.size + 1, 0, none⟩) 0 0) [] := OwnS.blk (zs := []) (heap_hit _ _ _ (by simp)) (by omega) (by simp [maxLen])
  cases hq : armsOk a
  · have hf : mOf a zs = [] := by unfold mOf mOk; rw [hq]; rfl
    have hk : mOk a zs = false := by unfold mOk; rw [hq]; rfl
    rw [hf, hk]
    rw [hq] at KV
    clear hq hf hk
    go_enter Tryd.func15, Tryd.ntmps15
    go_wp2_with (first | (refine ldA15 rfl _ rfl w.heap.size _ rfl a (HB.out _ hW1) ?_) | fail)
    refine (KV.out _).mono ?_
    rintro e w1 ⟨rfl, hb1⟩
    have hT := Below_then (Below_al hW _) hb1
    have hO1 := hO0.below hb1
    clear hb1 hW hW1 hO0
    go_wp2
    go_ret2
    exact ⟨_, rfl, hO1, hT⟩
  · rw [hq] at KV
    cases hl : lsOk zs
    · have hf : mOf a zs = [] := by unfold mOf mOk; rw [hq, hl]; rfl
      have hk : mOk a zs = false := by unfold mOk; rw [hq, hl]; rfl
      rw [hf, hk]
      have KL := Lib.hid (fun w h => l17List_any A c zs w h hx hs)
      rw [hl] at KL
      clear hq hl hf hk
      go_enter Tryd.func15, Tryd.ntmps15
      go_wp2_with (first | (refine ldA15 rfl _ rfl w.heap.size _ rfl a (HB.out _ hW1) ?_) | fail)
      refine (KV.out _).mono ?_
      rintro e w1 ⟨rfl, hb1⟩
      have hT := Below_then (Below_al hW _) hb1
      have hO1 := hO0.below hb1
      clear hb1 hW hW1 hO0
      go_wp2_with fail
      refine (KL.out _ (h.below hT)).mono ?_
      rintro e w2 ⟨rfl, hb2⟩
      have hT := Below_then hT hb2
      have hO1 := hO1.below hb2
      clear hb2
      go_wp2
      go_ret2
      exact ⟨_, rfl, hO1, hT⟩
    · have hf : mOf a zs = zs.filter (fun s => !hasB (featL a) s) := by unfold mOf mOk; rw [hq, hl]; rfl
      have hk : mOk a zs = true := by unfold mOk; rw [hq, hl]; rfl
      rw [hf, hk]
      have KL := Lib.hid (fun w h => l17List_any A c zs w h hx hs)
      rw [hl] at KL
      have KF := Lib.hid (fun w => l17Features_any a hq w)
      have HFL := Lib.hid (featL_len a)
      have HFP := Lib.hid (featL_pos a)
      have HSM := Lib.hid (lsOk_small hl)
      clear hq hl hf hk
      obtain ⟨fs, hfs⟩ : ∃ fs, fs = featL a := ⟨_, rfl⟩
      rw [← hfs] at KF HFL HFP
      rw [← hfs]
      clear hfs
      go_enter Tryd.func15, Tryd.ntmps15
      go_wp2_with (first | (refine ldA15 rfl _ rfl w.heap.size _ rfl a (HB.out _ hW1) ?_) | fail)
      refine (KV.out _).mono ?_
      rintro e w1 ⟨rfl, hb1⟩
      have hT := Below_then (Below_al hW _) hb1
      have hP := Below_then hW1 hb1
      have hO1 := hO0.below hb1
      clear hb1 hW hW1 hO0
      go_wp2_with fail
      refine (KL.out _ (h.below hT)).mono ?_
      rintro e w2 ⟨rfl, hb2⟩
      have hT := Below_then hT hb2
      have hR := HB.out _ (Below_then hP hb2)
      have hO1 := hO1.below hb2
      clear hb2 hP
      go_wp2_with (first | (refine ldA15 rfl _ rfl w.heap.size _ rfl a hR ?_) | fail)
      refine (KF.out _).mono ?_
      rintro e w3 ⟨v, rfl, hO, hb3⟩
      obtain ⟨g, cf, rfl, hgB, hgl⟩ := hO.pos HFP.out
      have hr : RdS w3 (some ⟨g, 0, none⟩) fs := by
        obtain ⟨A', c', e, hr⟩ := hO.form
        injection e with e
        subst e
        exact hr
      obtain ⟨ob, hob⟩ : ∃ ob, w3.heap[g]? = some ob := ⟨_, Array.getElem?_eq_getElem hgl⟩
      have hRD : ∀ wq : World, wq.heap[g]? = some ob → RdS wq (some ⟨g, 0, none⟩) fs := fun wq hq => by
        rcases hr with hr | ⟨b, off, e, hcell⟩
        · exact .inl hr
        · injection e with e
          injection e with e1 e2
          subst e1 e2
          exact .inr ⟨g, 0, rfl, fun i hi => by rw [World.cell?_of_block (a := ⟨g, 0 + i, none⟩) (hq.trans hob.symm)]; exact hcell i hi⟩
      have hT := Below_then hT hb3
      have hgne : (Value.slice (some ⟨w.heap.size + 1, 0, none⟩) 0 0).ownBlock ≠ some g := fun e => by have := (hO1.lt _ e).2; omega
      have hO1 := hO1.below hb3
      have hI0 : TinS w g ob (.slice (some ⟨w.heap.size + 1, 0, none⟩) 0 0) ((zs.take 0).filter (fun s => !hasB fs s)) w3 := ⟨by simpa using hO1, hob, hgne, hT⟩
      clear hR hb3 hO hO1 hT hgne hob hr hgB hgl
      go_wp2_with fail
      go_loopw [6, 8] (fun o i wr => ∃ (k : Nat) (u : Value), k ≤ zs.length ∧ i = .int .i64 k ∧ o = u ∧ TinS w g ob u ((zs.take k).filter (fun s => !hasB fs s)) wr) (fun _ i _ => zs.length - (intOf i).toNat)
      case atStart => exact ⟨0, _, Nat.zero_le _, rfl, rfl, hI0⟩
      case round =>
        clear hI0
        obtain ⟨k, u, hk, rfl, hou, hI⟩ := hrel
        replace hou := hou.symm
        subst hou
        by_cases hlt : k < zs.length
        · obtain ⟨b, off, rfl, c1, -⟩ := (h.below hI.bel).at_ hlt
          obtain ⟨x, hxk⟩ : ∃ x, x = zs[k] := ⟨_, rfl⟩
          rw [← hxk] at c1
          have hst : (zs.take (k + 1)).filter (fun s => !hasB fs s) = (zs.take k).filter (fun s => !hasB fs s) ++ [x].filter (fun s => !hasB fs s) := by rw [List.take_succ_eq_append_getElem hlt, List.filter_append, hxk]
          have hln : ((zs.take k).filter (fun s => !hasB fs s)).length ≤ 1099511627776 := by
            have h1 := List.length_filter_le (fun s => !hasB fs s) (zs.take k)
            rw [List.length_take] at h1
            omega
          obtain ⟨ys, hys⟩ : ∃ ys, ys = (zs.take k).filter (fun s => !hasB fs s) := ⟨_, rfl⟩
          rw [← hys] at hI hst hln
          have HST := Lib.hid hst
          have i1 : (k : Int) < (zs.length : Int) := by omega
          have d1 : decide (k < zs.length) = true := by simpa using hlt
          have hrd := hRD wr hI.arr
          have KH := l17Has_any (some ⟨g, 0, none⟩) cf fs x wr hrd (by have := HFL.out; omega)
          obtain ⟨q, hq⟩ : ∃ q, q = hasB fs x := ⟨_, rfl⟩
          rw [← hq] at KH
          have KH := Lib.hid KH
          have HQ := Lib.hid hq
          clear hq hxk hst hys hrd
          cases q
          · go_wp2_with fail
            refine KH.out.mono ?_
            rintro e w9 ⟨rfl, rfl⟩
            go_wp2_with (first | (at_builtin; refine wp_appTat rfl _ _ rfl w.heap.size u ys rfl (hI.own.alloc _) _ _ rfl (cell_of (heap_hit _ _ _ rfl) 0) hln (by have := hI.bel.size; first | omega | (simp; omega)) ?_; intro v' w9 hO9 hG9 hL9 hA9; have hI9 := hI.app _ hO9 hG9 hL9 hA9) | fail)
            go_roundw
            case rel => exact ⟨k + 1, _, by omega, by go_num, rfl, by rw [HST.out]; simpa [← HQ.out] using hI9⟩
            case measure => simp [intOf]; omega
          · go_wp2_with fail
            refine KH.out.mono ?_
            rintro e w9 ⟨rfl, rfl⟩
            go_wp2
            go_roundw
            case rel => exact ⟨k + 1, _, by omega, by go_num, rfl, by rw [HST.out]; simpa [← HQ.out] using hI⟩
            case measure => simp [intOf]; omega
        · obtain rfl : k = zs.length := by omega
          have d1 : decide (zs.length < zs.length) = false := by simp
          have hO := hI.own
          have hT := hI.bel
          rw [List.take_length] at hO
          clear hI
          go_wp2
          go_ret2
          exact ⟨_, rfl, hO, hT⟩
end Go.Proofs.YthlemcoimoibmaaDoor
