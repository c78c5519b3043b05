/- Contracts: the features of arms, of the reference. -/
import Derived.Test.YtlonnkmfjijddaaGreatDoorTins
import Derived.Test.YtlonnkmfjijddaaGreatDoorPut
import Derived.Test.YtlonnkmfjijddaaGreatDoorNum
import Derived.Deep.DeepCutAuto
namespace Go.Proofs.YtlonnkmfjijddaaGreatDoor
open Go.ChangeShapes Go.WideShapes Go.ChangeAt Go.RowKit
set_option linter.unusedVariables false
set_option linter.unusedSimpArgs false
def fi (c : UInt8) (z : Int) : ByteArray := ftB c z.toNat
/-- The features, as the reference comes to them. -/
def rawT (a : ArmsD) : List ByteArray := (tinsL a).map (fi 116)
def raw2 (a : ArmsD) : List ByteArray := rawT a ++ [fi 100 a.d] ++ [fi 111 a.o] ++ (bif decide (0 < a.l) then [fi 108 a.l] else []) ++ (bif decide (0 < a.li) then [fi 108 a.li] else []) ++ (bif (!groupNone a.c1 a.k1 a.a1 a.t1) then [fi 107 a.k1] else []) ++ (bif (!groupNone a.c2 a.k2 a.a2 a.t2) then [fi 107 a.k2] else []) ++ [fi 110 (a.c1 + a.c2)]
def featL (a : ArmsD) : List ByteArray := putAll (raw2 a)
section
variable {ops : Array Oper} {rest : List Oper} {op : Oper} {a : Act} {w : World} {Q : Exit → Act → World → Prop}
theorem ldA15 (hgd : op.guard = none) (x : Operand) (ho : op.op = .load 47 x) (b o : Nat) (hx : a.eval x = .pointer (some ⟨b, o, none⟩)) (ad : ArmsD) (hc : w.rangeAt b o (ac ad))
    (h : wpList Tryz.prog ops Q rest (a.put op.dst (.agg (ac ad).toArray)) w) : wpList Tryz.prog ops Q (op :: rest) a w :=
  wpList_load_mid hgd _ x ho b o hx (ac ad) _ hc Tryz.underlying47 rfl (info_ac ad) h
end
theorem tinsL_len (a : ArmsD) : (tinsL a).length ≤ 5 := by
  have h1 := tinF_len a.d a.p a.q
  have h2 := nz_len a.t
  have h3 := nz_len a.t1
  have h4 := nz_len a.t2
  unfold tinsL
  simp only [List.length_append]
  omega
theorem rawT_len (a : ArmsD) : (rawT a).length ≤ 5 := by
  have := tinsL_len a
  simpa [rawT] using this
theorem bif_len (q : Bool) (s : ByteArray) : (bif q then [s] else []).length ≤ 1 := by cases q <;> simp
theorem l1NumI (z : Int) (h0 : 0 ≤ z) (h1 : z < 100) (w : World) : Calls Tryz.prog 34 #[.int .i64 z] w (NumIs z.toNat w) := by
  obtain ⟨n, rfl⟩ : ∃ n : Nat, z = n := ⟨z.toNat, by omega⟩
  exact l1Num_nat n (by omega) w
theorem tinsL_bd {a : ArmsD} (h : armsOk a = true) : ∀ z ∈ tinsL a, 1 ≤ z ∧ z ≤ 9 := by
  obtain ⟨f1, f2, f3, f4, f5, f6, f7⟩ := arms_facts h
  intro z hz
  simp only [tinsL, tinF, nz, List.mem_append] at hz
  rcases hz with ((hz | hz) | hz) | hz
  · split at hz
    · simp at hz; omega
    · simp at hz; omega
  · split at hz
    · cases hz
    · simp at hz; omega
  · split at hz
    · cases hz
    · simp at hz; omega
  · split at hz
    · cases hz
    · simp at hz; omega
set_option maxHeartbeats 8000000 in
set_option maxRecDepth 20000 in
theorem l17Features_any (a : ArmsD) (ga : armsOk a = true) (w : World) : Calls Tryz.prog 15 #[.agg (ac a).toArray] w (StrsIn w (featL a)) := by
  have HF := Lib.hid (arms_facts ga)
  have HB := Lib.hid (box15 a w)
  have KT := Lib.hid (fun w => specTins_any a ga w)
  have HTB := Lib.hid (tinsL_bd ga)
  have KN := Lib.hid (fun z h0 h1 w => l1NumI z h0 h1 w)
  have K1 := Lib.hid (fun w => l4None_any a.c1 a.k1 a.a1 a.t1 w)
  have K2 := Lib.hid (fun w => l4None_any a.c2 a.k2 a.a2 a.t2 w)
  have HTL := Lib.hid (tinsL_len a)
  have HRL := Lib.hid (rawT_len a)
  obtain ⟨ts, hts⟩ : ∃ ts, ts = tinsL a := ⟨_, rfl⟩
  rw [← hts] at KT HTB HTL
  have hrt : rawT a = ts.map (fi 116) := by rw [hts]; rfl
  have HRT := Lib.hid hrt
  clear ga hts hrt
  go_enter Tryz.func15, Tryz.ntmps15
  go_wp2_with (first | (refine ldA15 rfl _ rfl w.heap.size _ rfl a (HB.out _ (by (repeat (first | exact Below.refl _ _ | assumption | refine Below_al ?_ _ | refine Below.drew ?_ | refine Below_then ?_ (by assumption) | refine Below.setCell ?_ (by first | omega | (simp; done) | (simp; omega)) _)))).all ?_) | fail)
  refine (KT.out _).mono ?_
  rintro e w1 ⟨vt, rfl, hOt, hb1⟩
  obtain ⟨At, ct, rfl, hRt⟩ := hOt.form
  have hO : OwnS w1 (w.heap.size + 1) 9 (.slice (some ⟨w.heap.size + 1, 0, none⟩) 0 0) [] := (OwnS.blk (w := (w.alloc (.cells (ac a).toArray 47)).alloc (.cells #[] 9)) (zs := []) (heap_hit _ _ _ (by simp)) (by omega) (by simp [maxLen])).below hb1
  have hT : Below (w.alloc (.cells (ac a).toArray 47)).heap.size (w.alloc (.cells (ac a).toArray 47)) w1 := by (repeat (first | exact Below.refl _ _ | assumption | refine Below_al ?_ _ | refine Below.drew ?_ | refine Below_then ?_ (by assumption) | refine Below.setCell ?_ (by first | omega | (simp; done) | (simp; omega)) _))
  have hW0b : Below w.heap.size w (w.alloc (.cells (ac a).toArray 47)) := Below_al (Below.refl _ _) _
  have hO : OwnS w1 (w.alloc (.cells (ac a).toArray 47)).heap.size 9 (.slice (some ⟨w.heap.size + 1, 0, none⟩) 0 0) [] := OwnS.base hO (by simp)
  have hs0 : w.heap.size ≤ (w.alloc (.cells (ac a).toArray 47)).heap.size := by simp
  have hwc : IntKind.i64.wrap (a.c1 + a.c2) = a.c1 + a.c2 := by have f := HF.out; rw [IntKind.wrap_i64]; omega
  have HWC := Lib.hid hwc
  generalize w.alloc (.cells (ac a).toArray 47) = W0 at hT HB hO hW0b hs0
  clear hOt hb1 hwc
  go_wp2_with fail
  go_loopw [3, 5] (fun o i wr => ∃ k g c : Nat, k ≤ ts.length ∧ i = .int .i64 k ∧ o = .slice (some ⟨g, 0, none⟩) (putAll ((ts.take k).map (fi 116))).length c ∧ OwnS wr W0.heap.size 9 (.slice (some ⟨g, 0, none⟩) (putAll ((ts.take k).map (fi 116))).length c) (putAll ((ts.take k).map (fi 116))) ∧ Below w1.heap.size w1 wr) (fun _ i _ => ts.length - (intOf i).toNat)
  case atStart => exact ⟨0, w.heap.size + 1, 0, Nat.zero_le _, rfl, rfl, hO, Below.refl _ _⟩
  case round =>
    clear hO
    obtain ⟨k, g, c, hk, rfl, rfl, hO, hT1⟩ := hrel
    have hT2 := Below_then hT hT1
    have hRt2 := hRt.below hT1
    obtain ⟨zs, hzs⟩ : ∃ zs, zs = putAll ((ts.take k).map (fi 116)) := ⟨_, rfl⟩
    rw [← hzs] at hO
    rw [← hzs]
    have hkl : (ts.take k).length ≤ 5 := by rw [List.length_take]; have := HTL.out; omega
    have HL := Lib.hid (show zs.length ≤ 1000000 by rw [hzs]; exact Nat.le_trans (putAll_len _) (by rw [List.length_map]; omega))
    have HZ := Lib.hid hzs
    clear hzs hkl hT
    have hT := hT2
    clear hT2
    by_cases hlt : k < ts.length
    · obtain ⟨bt, ot, rfl, hct, -⟩ := hRt2.at_ hlt
      obtain ⟨x, hx⟩ : ∃ x, x = ts[k] := ⟨_, rfl⟩
      rw [← hx] at hct
      have hxm := HTB.out x (by rw [hx]; exact List.getElem_mem _)
      have i1 : (k : Int) < (ts.length : Int) := by omega
      have d1 : decide (k < ts.length) = true := by simpa using hlt
      have hst : (ts.take (k + 1)).map (fi 116) = (ts.take k).map (fi 116) ++ [fi 116 x] := by rw [List.take_succ_eq_append_getElem hlt, List.map_append, hx]; rfl
      have hl5 := HTL.out
      have HST := Lib.hid hst
      have HXM := Lib.hid hxm
      clear hx hst hxm
      go_wp2_with fail
      refine ((KN.out x (by (have f := HXM.out; omega)) (by (have f := HXM.out; omega))) _).mono ?_
      rintro e wa ⟨rfl, hba⟩
      replace hT := Below_then hT hba
      replace hT1 := Below_then hT1 hba
      replace hO := hO.below hba
      have hsn := nText_size (x).toNat
      have hsn2 : (nText (x).toNat).size ≤ 100 := by (have f := HXM.out; omega)
      clear hba hsn
      go_wp2_with fail
      refine (l17Put_any W0.heap.size _ _ zs _ _ hO HL.out hT.size).mono ?_
      rintro e wb ⟨g, c, rfl, hO2, hbb⟩
      replace hT := Below_then hT hbb
      replace hT1 := Below_then hT1 hbb
      have hz2 : putS zs ((⟨#[116]⟩ : ByteArray) ++ nText (x).toNat) = putAll (((ts.take k).map (fi 116)) ++ [fi 116 x]) := by rw [putAll_snoc, ← HZ.out]; exact congrArg (putS zs) (ftB_app _ _)
      rw [hz2] at hO2
      clear hO HZ HL hbb hsn2
      have hO := hO2
      clear hO2
      obtain ⟨zs, hzs⟩ : ∃ zs, zs = putAll (((ts.take k).map (fi 116)) ++ [fi 116 x]) := ⟨_, rfl⟩
      rw [← hzs] at hO hz2
      rw [hz2]
      have HL := Lib.hid (show zs.length ≤ 1000000 by rw [hzs]; exact Nat.le_trans (putAll_len _) (by (have := HTL.out; rw [List.length_append, List.length_map, List.length_take]; simp; omega)))
      have HZ := Lib.hid hzs
      clear hzs hz2
      go_wp2
      go_roundw
      case rel => exact ⟨k + 1, g, c, by omega, by go_num, by rw [HST.out, ← HZ.out], by rw [HST.out, ← HZ.out]; exact hO, hT1⟩
      case measure => simp [intOf]; omega
    · obtain rfl : k = ts.length := by omega
      have d1 : decide (ts.length < ts.length) = false := by simp
      have hzr : zs = putAll (rawT a) := by rw [HZ.out, HRT.out, List.take_length]
      clear HZ hRt2 hT1
      have HZ := Lib.hid hzr
      have hwc := HWC.out
      clear hzr
      go_wp2_with (first | (refine ldI rfl _ rfl w.heap.size 0 rfl _ ((HB.out _ hT).cell 0 _ rfl) ?_) | (refine ldI rfl _ rfl w.heap.size 1 rfl _ ((HB.out _ hT).cell 1 _ rfl) ?_) | (refine ldI rfl _ rfl w.heap.size 4 rfl _ ((HB.out _ hT).cell 4 _ rfl) ?_) | (refine ldI rfl _ rfl w.heap.size 5 rfl _ ((HB.out _ hT).cell 5 _ rfl) ?_) | (refine ldI rfl _ rfl w.heap.size 7 rfl _ ((HB.out _ hT).cell 7 _ rfl) ?_) | (refine ldI rfl _ rfl w.heap.size 8 rfl _ ((HB.out _ hT).cell 8 _ rfl) ?_) | (refine ldI rfl _ rfl w.heap.size 11 rfl _ ((HB.out _ hT).cell 11 _ rfl) ?_) | (refine ldI rfl _ rfl w.heap.size 12 rfl _ ((HB.out _ hT).cell 12 _ rfl) ?_) | (refine ldGp rfl _ rfl w.heap.size 7 rfl _ _ _ _ (HB.out _ hT).g ?_) | (refine ldGp rfl _ rfl w.heap.size 11 rfl _ _ _ _ (HB.out _ hT).r ?_) | fail)
      refine ((KN.out a.d (by (have f := HF.out; omega)) (by (have f := HF.out; omega))) _).mono ?_
      rintro e wa ⟨rfl, hba⟩
      replace hT := Below_then hT hba
      replace hO := hO.below hba
      have hsn := nText_size (a.d).toNat
      have hsn2 : (nText (a.d).toNat).size ≤ 100 := by (have f := HF.out; omega)
      clear hba hsn
      go_wp2_with fail
      refine (l17Put_any W0.heap.size _ _ zs _ _ hO HL.out hT.size).mono ?_
      rintro e wb ⟨g, c, rfl, hO2, hbb⟩
      replace hT := Below_then hT hbb
      have hz2 : putS zs ((⟨#[100]⟩ : ByteArray) ++ nText (a.d).toNat) = putAll ((rawT a) ++ [fi 100 a.d]) := by rw [putAll_snoc, ← HZ.out]; exact congrArg (putS zs) (ftB_app _ _)
      rw [hz2] at hO2
      clear hO HZ HL hbb hsn2
      have hO := hO2
      clear hO2
      obtain ⟨zs, hzs⟩ : ∃ zs, zs = putAll ((rawT a) ++ [fi 100 a.d]) := ⟨_, rfl⟩
      rw [← hzs] at hO hz2
      rw [hz2]
      have HL := Lib.hid (show zs.length ≤ 1000000 by rw [hzs]; exact Nat.le_trans (putAll_len _) (by (have h0 := HRL.out; simp only [List.length_append, List.length_singleton, List.length_map, List.length_take]; first | omega | (have h1 := bif_len (decide (0 < a.l)) (fi 108 a.l); have h2 := bif_len (decide (0 < a.li)) (fi 108 a.li); have h3 := bif_len (!groupNone a.c1 a.k1 a.a1 a.t1) (fi 107 a.k1); have h4 := bif_len (!groupNone a.c2 a.k2 a.a2 a.t2) (fi 107 a.k2); omega))))
      have HZ := Lib.hid hzs
      clear hzs hz2
      go_wp2_with (first | (refine ldI rfl _ rfl w.heap.size 0 rfl _ ((HB.out _ hT).cell 0 _ rfl) ?_) | (refine ldI rfl _ rfl w.heap.size 1 rfl _ ((HB.out _ hT).cell 1 _ rfl) ?_) | (refine ldI rfl _ rfl w.heap.size 4 rfl _ ((HB.out _ hT).cell 4 _ rfl) ?_) | (refine ldI rfl _ rfl w.heap.size 5 rfl _ ((HB.out _ hT).cell 5 _ rfl) ?_) | (refine ldI rfl _ rfl w.heap.size 7 rfl _ ((HB.out _ hT).cell 7 _ rfl) ?_) | (refine ldI rfl _ rfl w.heap.size 8 rfl _ ((HB.out _ hT).cell 8 _ rfl) ?_) | (refine ldI rfl _ rfl w.heap.size 11 rfl _ ((HB.out _ hT).cell 11 _ rfl) ?_) | (refine ldI rfl _ rfl w.heap.size 12 rfl _ ((HB.out _ hT).cell 12 _ rfl) ?_) | (refine ldGp rfl _ rfl w.heap.size 7 rfl _ _ _ _ (HB.out _ hT).g ?_) | (refine ldGp rfl _ rfl w.heap.size 11 rfl _ _ _ _ (HB.out _ hT).r ?_) | fail)
      refine ((KN.out a.o (by (have f := HF.out; omega)) (by (have f := HF.out; omega))) _).mono ?_
      rintro e wa ⟨rfl, hba⟩
      replace hT := Below_then hT hba
      replace hO := hO.below hba
      have hsn := nText_size (a.o).toNat
      have hsn2 : (nText (a.o).toNat).size ≤ 100 := by (have f := HF.out; omega)
      clear hba hsn
      go_wp2_with fail
      refine (l17Put_any W0.heap.size _ _ zs _ _ hO HL.out hT.size).mono ?_
      rintro e wb ⟨g, c, rfl, hO2, hbb⟩
      replace hT := Below_then hT hbb
      have hz2 : putS zs ((⟨#[111]⟩ : ByteArray) ++ nText (a.o).toNat) = putAll (((rawT a) ++ [fi 100 a.d]) ++ [fi 111 a.o]) := by rw [putAll_snoc, ← HZ.out]; exact congrArg (putS zs) (ftB_app _ _)
      rw [hz2] at hO2
      clear hO HZ HL hbb hsn2
      have hO := hO2
      clear hO2
      obtain ⟨zs, hzs⟩ : ∃ zs, zs = putAll (((rawT a) ++ [fi 100 a.d]) ++ [fi 111 a.o]) := ⟨_, rfl⟩
      rw [← hzs] at hO hz2
      rw [hz2]
      have HL := Lib.hid (show zs.length ≤ 1000000 by rw [hzs]; exact Nat.le_trans (putAll_len _) (by (have h0 := HRL.out; simp only [List.length_append, List.length_singleton, List.length_map, List.length_take]; first | omega | (have h1 := bif_len (decide (0 < a.l)) (fi 108 a.l); have h2 := bif_len (decide (0 < a.li)) (fi 108 a.li); have h3 := bif_len (!groupNone a.c1 a.k1 a.a1 a.t1) (fi 107 a.k1); have h4 := bif_len (!groupNone a.c2 a.k2 a.a2 a.t2) (fi 107 a.k2); omega))))
      have HZ := Lib.hid hzs
      clear hzs hz2
      go_upto_if 39 with (first | (refine ldI rfl _ rfl w.heap.size 0 rfl _ ((HB.out _ hT).cell 0 _ rfl) ?_) | (refine ldI rfl _ rfl w.heap.size 1 rfl _ ((HB.out _ hT).cell 1 _ rfl) ?_) | (refine ldI rfl _ rfl w.heap.size 4 rfl _ ((HB.out _ hT).cell 4 _ rfl) ?_) | (refine ldI rfl _ rfl w.heap.size 5 rfl _ ((HB.out _ hT).cell 5 _ rfl) ?_) | (refine ldI rfl _ rfl w.heap.size 7 rfl _ ((HB.out _ hT).cell 7 _ rfl) ?_) | (refine ldI rfl _ rfl w.heap.size 8 rfl _ ((HB.out _ hT).cell 8 _ rfl) ?_) | (refine ldI rfl _ rfl w.heap.size 11 rfl _ ((HB.out _ hT).cell 11 _ rfl) ?_) | (refine ldI rfl _ rfl w.heap.size 12 rfl _ ((HB.out _ hT).cell 12 _ rfl) ?_) | (refine ldGp rfl _ rfl w.heap.size 7 rfl _ _ _ _ (HB.out _ hT).g ?_) | (refine ldGp rfl _ rfl w.heap.size 11 rfl _ _ _ _ (HB.out _ hT).r ?_) | (go_at_call 35; first | ((with_reducible refine (K1.out _).mono ?_); rintro e wn ⟨rfl, hbn⟩; replace hT := Below_then hT hbn; replace hO := hO.below hbn; clear hbn) | ((with_reducible refine (K2.out _).mono ?_); rintro e wn ⟨rfl, hbn⟩; replace hT := Below_then hT hbn; replace hO := hO.below hbn; clear hbn)) | fail)
      try simp only [Act.put, List.getElem_toArray, List.getElem_cons_succ, List.getElem_cons_zero, List.setIfInBounds_toArray, List.set_cons_zero, List.set_cons_succ]
      go_cut [3] (fun v wx => ∃ g c, v = .slice (some ⟨g, 0, none⟩) (putAll ((((rawT a) ++ [fi 100 a.d]) ++ [fi 111 a.o]) ++ (bif decide (0 < a.l) then [fi 108 a.l] else []))).length c ∧ OwnS wx W0.heap.size 9 (.slice (some ⟨g, 0, none⟩) (putAll ((((rawT a) ++ [fi 100 a.d]) ++ [fi 111 a.o]) ++ (bif decide (0 < a.l) then [fi 108 a.l] else []))).length c) (putAll ((((rawT a) ++ [fi 100 a.d]) ++ [fi 111 a.o]) ++ (bif decide (0 < a.l) then [fi 108 a.l] else []))) ∧ Below W0.heap.size W0 wx)
      case first =>
        cases hq : decide (0 < a.l)
        · skip
          go_wp2_with (first | (refine ldI rfl _ rfl w.heap.size 0 rfl _ ((HB.out _ hT).cell 0 _ rfl) ?_) | (refine ldI rfl _ rfl w.heap.size 1 rfl _ ((HB.out _ hT).cell 1 _ rfl) ?_) | (refine ldI rfl _ rfl w.heap.size 4 rfl _ ((HB.out _ hT).cell 4 _ rfl) ?_) | (refine ldI rfl _ rfl w.heap.size 5 rfl _ ((HB.out _ hT).cell 5 _ rfl) ?_) | (refine ldI rfl _ rfl w.heap.size 7 rfl _ ((HB.out _ hT).cell 7 _ rfl) ?_) | (refine ldI rfl _ rfl w.heap.size 8 rfl _ ((HB.out _ hT).cell 8 _ rfl) ?_) | (refine ldI rfl _ rfl w.heap.size 11 rfl _ ((HB.out _ hT).cell 11 _ rfl) ?_) | (refine ldI rfl _ rfl w.heap.size 12 rfl _ ((HB.out _ hT).cell 12 _ rfl) ?_) | (refine ldGp rfl _ rfl w.heap.size 7 rfl _ _ _ _ (HB.out _ hT).g ?_) | (refine ldGp rfl _ rfl w.heap.size 11 rfl _ _ _ _ (HB.out _ hT).r ?_) | fail)
          go_meet
          exact ⟨g, c, by rw [HZ.out]; simp [hq], by have h := hO; rw [HZ.out] at h; simpa [hq] using h, hT⟩
        · skip
          go_wp2_with (first | (refine ldI rfl _ rfl w.heap.size 0 rfl _ ((HB.out _ hT).cell 0 _ rfl) ?_) | (refine ldI rfl _ rfl w.heap.size 1 rfl _ ((HB.out _ hT).cell 1 _ rfl) ?_) | (refine ldI rfl _ rfl w.heap.size 4 rfl _ ((HB.out _ hT).cell 4 _ rfl) ?_) | (refine ldI rfl _ rfl w.heap.size 5 rfl _ ((HB.out _ hT).cell 5 _ rfl) ?_) | (refine ldI rfl _ rfl w.heap.size 7 rfl _ ((HB.out _ hT).cell 7 _ rfl) ?_) | (refine ldI rfl _ rfl w.heap.size 8 rfl _ ((HB.out _ hT).cell 8 _ rfl) ?_) | (refine ldI rfl _ rfl w.heap.size 11 rfl _ ((HB.out _ hT).cell 11 _ rfl) ?_) | (refine ldI rfl _ rfl w.heap.size 12 rfl _ ((HB.out _ hT).cell 12 _ rfl) ?_) | (refine ldGp rfl _ rfl w.heap.size 7 rfl _ _ _ _ (HB.out _ hT).g ?_) | (refine ldGp rfl _ rfl w.heap.size 11 rfl _ _ _ _ (HB.out _ hT).r ?_) | fail)
          refine ((KN.out a.l (by (have f := HF.out; omega)) (by (have f := HF.out; omega))) _).mono ?_
          rintro e wa ⟨rfl, hba⟩
          replace hT := Below_then hT hba
          replace hO := hO.below hba
          have hsn := nText_size (a.l).toNat
          have hsn2 : (nText (a.l).toNat).size ≤ 100 := by (have f := HF.out; omega)
          clear hba hsn
          go_wp2_with fail
          refine (l17Put_any W0.heap.size _ _ zs _ _ hO HL.out hT.size).mono ?_
          rintro e wb ⟨g, c, rfl, hO2, hbb⟩
          replace hT := Below_then hT hbb
          have hz2 : putS zs ((⟨#[108]⟩ : ByteArray) ++ nText (a.l).toNat) = putAll ((((rawT a) ++ [fi 100 a.d]) ++ [fi 111 a.o]) ++ [fi 108 a.l]) := by rw [putAll_snoc, ← HZ.out]; exact congrArg (putS zs) (ftB_app _ _)
          rw [hz2] at hO2
          clear hO HZ HL hbb hsn2
          have hO := hO2
          clear hO2
          obtain ⟨zs, hzs⟩ : ∃ zs, zs = putAll ((((rawT a) ++ [fi 100 a.d]) ++ [fi 111 a.o]) ++ [fi 108 a.l]) := ⟨_, rfl⟩
          rw [← hzs] at hO hz2
          rw [hz2]
          have HL := Lib.hid (show zs.length ≤ 1000000 by rw [hzs]; exact Nat.le_trans (putAll_len _) (by (have h0 := HRL.out; simp only [List.length_append, List.length_singleton, List.length_map, List.length_take]; first | omega | (have h1 := bif_len (decide (0 < a.l)) (fi 108 a.l); have h2 := bif_len (decide (0 < a.li)) (fi 108 a.li); have h3 := bif_len (!groupNone a.c1 a.k1 a.a1 a.t1) (fi 107 a.k1); have h4 := bif_len (!groupNone a.c2 a.k2 a.a2 a.t2) (fi 107 a.k2); omega))))
          have HZ := Lib.hid hzs
          clear hzs hz2
          go_wp2
          go_meet
          exact ⟨g, c, by rw [HZ.out]; simp [hq], by have h := hO; rw [HZ.out] at h; simpa [hq] using h, hT⟩
      case rest =>
        clear hO HZ HL hT zs
        obtain ⟨g, c, rfl, hO, hT⟩ := hcut
        obtain ⟨zs, hzs⟩ : ∃ zs, zs = putAll ((((rawT a) ++ [fi 100 a.d]) ++ [fi 111 a.o]) ++ (bif decide (0 < a.l) then [fi 108 a.l] else [])) := ⟨_, rfl⟩
        rw [← hzs] at hO
        rw [← hzs]
        have HL := Lib.hid (show zs.length ≤ 1000000 by rw [hzs]; exact Nat.le_trans (putAll_len _) (by (have h0 := HRL.out; simp only [List.length_append, List.length_singleton, List.length_map, List.length_take]; first | omega | (have h1 := bif_len (decide (0 < a.l)) (fi 108 a.l); have h2 := bif_len (decide (0 < a.li)) (fi 108 a.li); have h3 := bif_len (!groupNone a.c1 a.k1 a.a1 a.t1) (fi 107 a.k1); have h4 := bif_len (!groupNone a.c2 a.k2 a.a2 a.t2) (fi 107 a.k2); omega))))
        have HZ := Lib.hid hzs
        clear hzs
        go_upto_if 49 with (first | (refine ldI rfl _ rfl w.heap.size 0 rfl _ ((HB.out _ hT).cell 0 _ rfl) ?_) | (refine ldI rfl _ rfl w.heap.size 1 rfl _ ((HB.out _ hT).cell 1 _ rfl) ?_) | (refine ldI rfl _ rfl w.heap.size 4 rfl _ ((HB.out _ hT).cell 4 _ rfl) ?_) | (refine ldI rfl _ rfl w.heap.size 5 rfl _ ((HB.out _ hT).cell 5 _ rfl) ?_) | (refine ldI rfl _ rfl w.heap.size 7 rfl _ ((HB.out _ hT).cell 7 _ rfl) ?_) | (refine ldI rfl _ rfl w.heap.size 8 rfl _ ((HB.out _ hT).cell 8 _ rfl) ?_) | (refine ldI rfl _ rfl w.heap.size 11 rfl _ ((HB.out _ hT).cell 11 _ rfl) ?_) | (refine ldI rfl _ rfl w.heap.size 12 rfl _ ((HB.out _ hT).cell 12 _ rfl) ?_) | (refine ldGp rfl _ rfl w.heap.size 7 rfl _ _ _ _ (HB.out _ hT).g ?_) | (refine ldGp rfl _ rfl w.heap.size 11 rfl _ _ _ _ (HB.out _ hT).r ?_) | (go_at_call 35; first | ((with_reducible refine (K1.out _).mono ?_); rintro e wn ⟨rfl, hbn⟩; replace hT := Below_then hT hbn; replace hO := hO.below hbn; clear hbn) | ((with_reducible refine (K2.out _).mono ?_); rintro e wn ⟨rfl, hbn⟩; replace hT := Below_then hT hbn; replace hO := hO.below hbn; clear hbn)) | fail)
        try simp only [Act.put, List.getElem_toArray, List.getElem_cons_succ, List.getElem_cons_zero, List.setIfInBounds_toArray, List.set_cons_zero, List.set_cons_succ]
        go_cut [3] (fun v wx => ∃ g c, v = .slice (some ⟨g, 0, none⟩) (putAll (((((rawT a) ++ [fi 100 a.d]) ++ [fi 111 a.o]) ++ (bif decide (0 < a.l) then [fi 108 a.l] else [])) ++ (bif decide (0 < a.li) then [fi 108 a.li] else []))).length c ∧ OwnS wx W0.heap.size 9 (.slice (some ⟨g, 0, none⟩) (putAll (((((rawT a) ++ [fi 100 a.d]) ++ [fi 111 a.o]) ++ (bif decide (0 < a.l) then [fi 108 a.l] else [])) ++ (bif decide (0 < a.li) then [fi 108 a.li] else []))).length c) (putAll (((((rawT a) ++ [fi 100 a.d]) ++ [fi 111 a.o]) ++ (bif decide (0 < a.l) then [fi 108 a.l] else [])) ++ (bif decide (0 < a.li) then [fi 108 a.li] else []))) ∧ Below W0.heap.size W0 wx)
        case first =>
          cases hq : decide (0 < a.li)
          · skip
            go_wp2_with (first | (refine ldI rfl _ rfl w.heap.size 0 rfl _ ((HB.out _ hT).cell 0 _ rfl) ?_) | (refine ldI rfl _ rfl w.heap.size 1 rfl _ ((HB.out _ hT).cell 1 _ rfl) ?_) | (refine ldI rfl _ rfl w.heap.size 4 rfl _ ((HB.out _ hT).cell 4 _ rfl) ?_) | (refine ldI rfl _ rfl w.heap.size 5 rfl _ ((HB.out _ hT).cell 5 _ rfl) ?_) | (refine ldI rfl _ rfl w.heap.size 7 rfl _ ((HB.out _ hT).cell 7 _ rfl) ?_) | (refine ldI rfl _ rfl w.heap.size 8 rfl _ ((HB.out _ hT).cell 8 _ rfl) ?_) | (refine ldI rfl _ rfl w.heap.size 11 rfl _ ((HB.out _ hT).cell 11 _ rfl) ?_) | (refine ldI rfl _ rfl w.heap.size 12 rfl _ ((HB.out _ hT).cell 12 _ rfl) ?_) | (refine ldGp rfl _ rfl w.heap.size 7 rfl _ _ _ _ (HB.out _ hT).g ?_) | (refine ldGp rfl _ rfl w.heap.size 11 rfl _ _ _ _ (HB.out _ hT).r ?_) | fail)
            go_meet
            exact ⟨g, c, by rw [HZ.out]; simp [hq], by have h := hO; rw [HZ.out] at h; simpa [hq] using h, hT⟩
          · skip
            go_wp2_with (first | (refine ldI rfl _ rfl w.heap.size 0 rfl _ ((HB.out _ hT).cell 0 _ rfl) ?_) | (refine ldI rfl _ rfl w.heap.size 1 rfl _ ((HB.out _ hT).cell 1 _ rfl) ?_) | (refine ldI rfl _ rfl w.heap.size 4 rfl _ ((HB.out _ hT).cell 4 _ rfl) ?_) | (refine ldI rfl _ rfl w.heap.size 5 rfl _ ((HB.out _ hT).cell 5 _ rfl) ?_) | (refine ldI rfl _ rfl w.heap.size 7 rfl _ ((HB.out _ hT).cell 7 _ rfl) ?_) | (refine ldI rfl _ rfl w.heap.size 8 rfl _ ((HB.out _ hT).cell 8 _ rfl) ?_) | (refine ldI rfl _ rfl w.heap.size 11 rfl _ ((HB.out _ hT).cell 11 _ rfl) ?_) | (refine ldI rfl _ rfl w.heap.size 12 rfl _ ((HB.out _ hT).cell 12 _ rfl) ?_) | (refine ldGp rfl _ rfl w.heap.size 7 rfl _ _ _ _ (HB.out _ hT).g ?_) | (refine ldGp rfl _ rfl w.heap.size 11 rfl _ _ _ _ (HB.out _ hT).r ?_) | fail)
            refine ((KN.out a.li (by (have f := HF.out; omega)) (by (have f := HF.out; omega))) _).mono ?_
            rintro e wa ⟨rfl, hba⟩
            replace hT := Below_then hT hba
            replace hO := hO.below hba
            have hsn := nText_size (a.li).toNat
            have hsn2 : (nText (a.li).toNat).size ≤ 100 := by (have f := HF.out; omega)
            clear hba hsn
            go_wp2_with fail
            refine (l17Put_any W0.heap.size _ _ zs _ _ hO HL.out hT.size).mono ?_
            rintro e wb ⟨g, c, rfl, hO2, hbb⟩
            replace hT := Below_then hT hbb
            have hz2 : putS zs ((⟨#[108]⟩ : ByteArray) ++ nText (a.li).toNat) = putAll (((((rawT a) ++ [fi 100 a.d]) ++ [fi 111 a.o]) ++ (bif decide (0 < a.l) then [fi 108 a.l] else [])) ++ [fi 108 a.li]) := by rw [putAll_snoc, ← HZ.out]; exact congrArg (putS zs) (ftB_app _ _)
            rw [hz2] at hO2
            clear hO HZ HL hbb hsn2
            have hO := hO2
            clear hO2
            obtain ⟨zs, hzs⟩ : ∃ zs, zs = putAll (((((rawT a) ++ [fi 100 a.d]) ++ [fi 111 a.o]) ++ (bif decide (0 < a.l) then [fi 108 a.l] else [])) ++ [fi 108 a.li]) := ⟨_, rfl⟩
            rw [← hzs] at hO hz2
            rw [hz2]
            have HL := Lib.hid (show zs.length ≤ 1000000 by rw [hzs]; exact Nat.le_trans (putAll_len _) (by (have h0 := HRL.out; simp only [List.length_append, List.length_singleton, List.length_map, List.length_take]; first | omega | (have h1 := bif_len (decide (0 < a.l)) (fi 108 a.l); have h2 := bif_len (decide (0 < a.li)) (fi 108 a.li); have h3 := bif_len (!groupNone a.c1 a.k1 a.a1 a.t1) (fi 107 a.k1); have h4 := bif_len (!groupNone a.c2 a.k2 a.a2 a.t2) (fi 107 a.k2); omega))))
            have HZ := Lib.hid hzs
            clear hzs hz2
            go_wp2
            go_meet
            exact ⟨g, c, by rw [HZ.out]; simp [hq], by have h := hO; rw [HZ.out] at h; simpa [hq] using h, hT⟩
        case rest =>
          clear hO HZ HL hT zs
          obtain ⟨g, c, rfl, hO, hT⟩ := hcut
          obtain ⟨zs, hzs⟩ : ∃ zs, zs = putAll (((((rawT a) ++ [fi 100 a.d]) ++ [fi 111 a.o]) ++ (bif decide (0 < a.l) then [fi 108 a.l] else [])) ++ (bif decide (0 < a.li) then [fi 108 a.li] else [])) := ⟨_, rfl⟩
          rw [← hzs] at hO
          rw [← hzs]
          have HL := Lib.hid (show zs.length ≤ 1000000 by rw [hzs]; exact Nat.le_trans (putAll_len _) (by (have h0 := HRL.out; simp only [List.length_append, List.length_singleton, List.length_map, List.length_take]; first | omega | (have h1 := bif_len (decide (0 < a.l)) (fi 108 a.l); have h2 := bif_len (decide (0 < a.li)) (fi 108 a.li); have h3 := bif_len (!groupNone a.c1 a.k1 a.a1 a.t1) (fi 107 a.k1); have h4 := bif_len (!groupNone a.c2 a.k2 a.a2 a.t2) (fi 107 a.k2); omega))))
          have HZ := Lib.hid hzs
          clear hzs
          go_upto_if 59 with (first | (refine ldI rfl _ rfl w.heap.size 0 rfl _ ((HB.out _ hT).cell 0 _ rfl) ?_) | (refine ldI rfl _ rfl w.heap.size 1 rfl _ ((HB.out _ hT).cell 1 _ rfl) ?_) | (refine ldI rfl _ rfl w.heap.size 4 rfl _ ((HB.out _ hT).cell 4 _ rfl) ?_) | (refine ldI rfl _ rfl w.heap.size 5 rfl _ ((HB.out _ hT).cell 5 _ rfl) ?_) | (refine ldI rfl _ rfl w.heap.size 7 rfl _ ((HB.out _ hT).cell 7 _ rfl) ?_) | (refine ldI rfl _ rfl w.heap.size 8 rfl _ ((HB.out _ hT).cell 8 _ rfl) ?_) | (refine ldI rfl _ rfl w.heap.size 11 rfl _ ((HB.out _ hT).cell 11 _ rfl) ?_) | (refine ldI rfl _ rfl w.heap.size 12 rfl _ ((HB.out _ hT).cell 12 _ rfl) ?_) | (refine ldGp rfl _ rfl w.heap.size 7 rfl _ _ _ _ (HB.out _ hT).g ?_) | (refine ldGp rfl _ rfl w.heap.size 11 rfl _ _ _ _ (HB.out _ hT).r ?_) | (go_at_call 35; first | ((with_reducible refine (K1.out _).mono ?_); rintro e wn ⟨rfl, hbn⟩; replace hT := Below_then hT hbn; replace hO := hO.below hbn; clear hbn) | ((with_reducible refine (K2.out _).mono ?_); rintro e wn ⟨rfl, hbn⟩; replace hT := Below_then hT hbn; replace hO := hO.below hbn; clear hbn)) | fail)
          try simp only [Act.put, List.getElem_toArray, List.getElem_cons_succ, List.getElem_cons_zero, List.setIfInBounds_toArray, List.set_cons_zero, List.set_cons_succ]
          go_cut [3] (fun v wx => ∃ g c, v = .slice (some ⟨g, 0, none⟩) (putAll ((((((rawT a) ++ [fi 100 a.d]) ++ [fi 111 a.o]) ++ (bif decide (0 < a.l) then [fi 108 a.l] else [])) ++ (bif decide (0 < a.li) then [fi 108 a.li] else [])) ++ (bif (!groupNone a.c1 a.k1 a.a1 a.t1) then [fi 107 a.k1] else []))).length c ∧ OwnS wx W0.heap.size 9 (.slice (some ⟨g, 0, none⟩) (putAll ((((((rawT a) ++ [fi 100 a.d]) ++ [fi 111 a.o]) ++ (bif decide (0 < a.l) then [fi 108 a.l] else [])) ++ (bif decide (0 < a.li) then [fi 108 a.li] else [])) ++ (bif (!groupNone a.c1 a.k1 a.a1 a.t1) then [fi 107 a.k1] else []))).length c) (putAll ((((((rawT a) ++ [fi 100 a.d]) ++ [fi 111 a.o]) ++ (bif decide (0 < a.l) then [fi 108 a.l] else [])) ++ (bif decide (0 < a.li) then [fi 108 a.li] else [])) ++ (bif (!groupNone a.c1 a.k1 a.a1 a.t1) then [fi 107 a.k1] else []))) ∧ Below W0.heap.size W0 wx)
          case first =>
            cases hq : (!groupNone a.c1 a.k1 a.a1 a.t1)
            · skip
              go_wp2_with (first | (refine ldI rfl _ rfl w.heap.size 0 rfl _ ((HB.out _ hT).cell 0 _ rfl) ?_) | (refine ldI rfl _ rfl w.heap.size 1 rfl _ ((HB.out _ hT).cell 1 _ rfl) ?_) | (refine ldI rfl _ rfl w.heap.size 4 rfl _ ((HB.out _ hT).cell 4 _ rfl) ?_) | (refine ldI rfl _ rfl w.heap.size 5 rfl _ ((HB.out _ hT).cell 5 _ rfl) ?_) | (refine ldI rfl _ rfl w.heap.size 7 rfl _ ((HB.out _ hT).cell 7 _ rfl) ?_) | (refine ldI rfl _ rfl w.heap.size 8 rfl _ ((HB.out _ hT).cell 8 _ rfl) ?_) | (refine ldI rfl _ rfl w.heap.size 11 rfl _ ((HB.out _ hT).cell 11 _ rfl) ?_) | (refine ldI rfl _ rfl w.heap.size 12 rfl _ ((HB.out _ hT).cell 12 _ rfl) ?_) | (refine ldGp rfl _ rfl w.heap.size 7 rfl _ _ _ _ (HB.out _ hT).g ?_) | (refine ldGp rfl _ rfl w.heap.size 11 rfl _ _ _ _ (HB.out _ hT).r ?_) | fail)
              go_meet
              exact ⟨g, c, by rw [HZ.out]; simp [hq], by have h := hO; rw [HZ.out] at h; simpa [hq] using h, hT⟩
            · skip
              go_wp2_with (first | (refine ldI rfl _ rfl w.heap.size 0 rfl _ ((HB.out _ hT).cell 0 _ rfl) ?_) | (refine ldI rfl _ rfl w.heap.size 1 rfl _ ((HB.out _ hT).cell 1 _ rfl) ?_) | (refine ldI rfl _ rfl w.heap.size 4 rfl _ ((HB.out _ hT).cell 4 _ rfl) ?_) | (refine ldI rfl _ rfl w.heap.size 5 rfl _ ((HB.out _ hT).cell 5 _ rfl) ?_) | (refine ldI rfl _ rfl w.heap.size 7 rfl _ ((HB.out _ hT).cell 7 _ rfl) ?_) | (refine ldI rfl _ rfl w.heap.size 8 rfl _ ((HB.out _ hT).cell 8 _ rfl) ?_) | (refine ldI rfl _ rfl w.heap.size 11 rfl _ ((HB.out _ hT).cell 11 _ rfl) ?_) | (refine ldI rfl _ rfl w.heap.size 12 rfl _ ((HB.out _ hT).cell 12 _ rfl) ?_) | (refine ldGp rfl _ rfl w.heap.size 7 rfl _ _ _ _ (HB.out _ hT).g ?_) | (refine ldGp rfl _ rfl w.heap.size 11 rfl _ _ _ _ (HB.out _ hT).r ?_) | fail)
              refine ((KN.out a.k1 (by (have f := HF.out; omega)) (by (have f := HF.out; omega))) _).mono ?_
              rintro e wa ⟨rfl, hba⟩
              replace hT := Below_then hT hba
              replace hO := hO.below hba
              have hsn := nText_size (a.k1).toNat
              have hsn2 : (nText (a.k1).toNat).size ≤ 100 := by (have f := HF.out; omega)
              clear hba hsn
              go_wp2_with fail
              refine (l17Put_any W0.heap.size _ _ zs _ _ hO HL.out hT.size).mono ?_
              rintro e wb ⟨g, c, rfl, hO2, hbb⟩
              replace hT := Below_then hT hbb
              have hz2 : putS zs ((⟨#[107]⟩ : ByteArray) ++ nText (a.k1).toNat) = putAll ((((((rawT a) ++ [fi 100 a.d]) ++ [fi 111 a.o]) ++ (bif decide (0 < a.l) then [fi 108 a.l] else [])) ++ (bif decide (0 < a.li) then [fi 108 a.li] else [])) ++ [fi 107 a.k1]) := by rw [putAll_snoc, ← HZ.out]; exact congrArg (putS zs) (ftB_app _ _)
              rw [hz2] at hO2
              clear hO HZ HL hbb hsn2
              have hO := hO2
              clear hO2
              obtain ⟨zs, hzs⟩ : ∃ zs, zs = putAll ((((((rawT a) ++ [fi 100 a.d]) ++ [fi 111 a.o]) ++ (bif decide (0 < a.l) then [fi 108 a.l] else [])) ++ (bif decide (0 < a.li) then [fi 108 a.li] else [])) ++ [fi 107 a.k1]) := ⟨_, rfl⟩
              rw [← hzs] at hO hz2
              rw [hz2]
              have HL := Lib.hid (show zs.length ≤ 1000000 by rw [hzs]; exact Nat.le_trans (putAll_len _) (by (have h0 := HRL.out; simp only [List.length_append, List.length_singleton, List.length_map, List.length_take]; first | omega | (have h1 := bif_len (decide (0 < a.l)) (fi 108 a.l); have h2 := bif_len (decide (0 < a.li)) (fi 108 a.li); have h3 := bif_len (!groupNone a.c1 a.k1 a.a1 a.t1) (fi 107 a.k1); have h4 := bif_len (!groupNone a.c2 a.k2 a.a2 a.t2) (fi 107 a.k2); omega))))
              have HZ := Lib.hid hzs
              clear hzs hz2
              go_wp2
              go_meet
              exact ⟨g, c, by rw [HZ.out]; simp [hq], by have h := hO; rw [HZ.out] at h; simpa [hq] using h, hT⟩
          case rest =>
            clear hO HZ HL hT zs
            obtain ⟨g, c, rfl, hO, hT⟩ := hcut
            obtain ⟨zs, hzs⟩ : ∃ zs, zs = putAll ((((((rawT a) ++ [fi 100 a.d]) ++ [fi 111 a.o]) ++ (bif decide (0 < a.l) then [fi 108 a.l] else [])) ++ (bif decide (0 < a.li) then [fi 108 a.li] else [])) ++ (bif (!groupNone a.c1 a.k1 a.a1 a.t1) then [fi 107 a.k1] else [])) := ⟨_, rfl⟩
            rw [← hzs] at hO
            rw [← hzs]
            have HL := Lib.hid (show zs.length ≤ 1000000 by rw [hzs]; exact Nat.le_trans (putAll_len _) (by (have h0 := HRL.out; simp only [List.length_append, List.length_singleton, List.length_map, List.length_take]; first | omega | (have h1 := bif_len (decide (0 < a.l)) (fi 108 a.l); have h2 := bif_len (decide (0 < a.li)) (fi 108 a.li); have h3 := bif_len (!groupNone a.c1 a.k1 a.a1 a.t1) (fi 107 a.k1); have h4 := bif_len (!groupNone a.c2 a.k2 a.a2 a.t2) (fi 107 a.k2); omega))))
            have HZ := Lib.hid hzs
            clear hzs
            go_upto_if 70 with (first | (refine ldI rfl _ rfl w.heap.size 0 rfl _ ((HB.out _ hT).cell 0 _ rfl) ?_) | (refine ldI rfl _ rfl w.heap.size 1 rfl _ ((HB.out _ hT).cell 1 _ rfl) ?_) | (refine ldI rfl _ rfl w.heap.size 4 rfl _ ((HB.out _ hT).cell 4 _ rfl) ?_) | (refine ldI rfl _ rfl w.heap.size 5 rfl _ ((HB.out _ hT).cell 5 _ rfl) ?_) | (refine ldI rfl _ rfl w.heap.size 7 rfl _ ((HB.out _ hT).cell 7 _ rfl) ?_) | (refine ldI rfl _ rfl w.heap.size 8 rfl _ ((HB.out _ hT).cell 8 _ rfl) ?_) | (refine ldI rfl _ rfl w.heap.size 11 rfl _ ((HB.out _ hT).cell 11 _ rfl) ?_) | (refine ldI rfl _ rfl w.heap.size 12 rfl _ ((HB.out _ hT).cell 12 _ rfl) ?_) | (refine ldGp rfl _ rfl w.heap.size 7 rfl _ _ _ _ (HB.out _ hT).g ?_) | (refine ldGp rfl _ rfl w.heap.size 11 rfl _ _ _ _ (HB.out _ hT).r ?_) | (go_at_call 35; first | ((with_reducible refine (K1.out _).mono ?_); rintro e wn ⟨rfl, hbn⟩; replace hT := Below_then hT hbn; replace hO := hO.below hbn; clear hbn) | ((with_reducible refine (K2.out _).mono ?_); rintro e wn ⟨rfl, hbn⟩; replace hT := Below_then hT hbn; replace hO := hO.below hbn; clear hbn)) | fail)
            try simp only [Act.put, List.getElem_toArray, List.getElem_cons_succ, List.getElem_cons_zero, List.setIfInBounds_toArray, List.set_cons_zero, List.set_cons_succ]
            go_cut [3] (fun v wx => ∃ g c, v = .slice (some ⟨g, 0, none⟩) (putAll (((((((rawT a) ++ [fi 100 a.d]) ++ [fi 111 a.o]) ++ (bif decide (0 < a.l) then [fi 108 a.l] else [])) ++ (bif decide (0 < a.li) then [fi 108 a.li] else [])) ++ (bif (!groupNone a.c1 a.k1 a.a1 a.t1) then [fi 107 a.k1] else [])) ++ (bif (!groupNone a.c2 a.k2 a.a2 a.t2) then [fi 107 a.k2] else []))).length c ∧ OwnS wx W0.heap.size 9 (.slice (some ⟨g, 0, none⟩) (putAll (((((((rawT a) ++ [fi 100 a.d]) ++ [fi 111 a.o]) ++ (bif decide (0 < a.l) then [fi 108 a.l] else [])) ++ (bif decide (0 < a.li) then [fi 108 a.li] else [])) ++ (bif (!groupNone a.c1 a.k1 a.a1 a.t1) then [fi 107 a.k1] else [])) ++ (bif (!groupNone a.c2 a.k2 a.a2 a.t2) then [fi 107 a.k2] else []))).length c) (putAll (((((((rawT a) ++ [fi 100 a.d]) ++ [fi 111 a.o]) ++ (bif decide (0 < a.l) then [fi 108 a.l] else [])) ++ (bif decide (0 < a.li) then [fi 108 a.li] else [])) ++ (bif (!groupNone a.c1 a.k1 a.a1 a.t1) then [fi 107 a.k1] else [])) ++ (bif (!groupNone a.c2 a.k2 a.a2 a.t2) then [fi 107 a.k2] else []))) ∧ Below W0.heap.size W0 wx)
            case first =>
              cases hq : (!groupNone a.c2 a.k2 a.a2 a.t2)
              · skip
                go_wp2_with (first | (refine ldI rfl _ rfl w.heap.size 0 rfl _ ((HB.out _ hT).cell 0 _ rfl) ?_) | (refine ldI rfl _ rfl w.heap.size 1 rfl _ ((HB.out _ hT).cell 1 _ rfl) ?_) | (refine ldI rfl _ rfl w.heap.size 4 rfl _ ((HB.out _ hT).cell 4 _ rfl) ?_) | (refine ldI rfl _ rfl w.heap.size 5 rfl _ ((HB.out _ hT).cell 5 _ rfl) ?_) | (refine ldI rfl _ rfl w.heap.size 7 rfl _ ((HB.out _ hT).cell 7 _ rfl) ?_) | (refine ldI rfl _ rfl w.heap.size 8 rfl _ ((HB.out _ hT).cell 8 _ rfl) ?_) | (refine ldI rfl _ rfl w.heap.size 11 rfl _ ((HB.out _ hT).cell 11 _ rfl) ?_) | (refine ldI rfl _ rfl w.heap.size 12 rfl _ ((HB.out _ hT).cell 12 _ rfl) ?_) | (refine ldGp rfl _ rfl w.heap.size 7 rfl _ _ _ _ (HB.out _ hT).g ?_) | (refine ldGp rfl _ rfl w.heap.size 11 rfl _ _ _ _ (HB.out _ hT).r ?_) | fail)
                go_meet
                exact ⟨g, c, by rw [HZ.out]; simp [hq], by have h := hO; rw [HZ.out] at h; simpa [hq] using h, hT⟩
              · skip
                go_wp2_with (first | (refine ldI rfl _ rfl w.heap.size 0 rfl _ ((HB.out _ hT).cell 0 _ rfl) ?_) | (refine ldI rfl _ rfl w.heap.size 1 rfl _ ((HB.out _ hT).cell 1 _ rfl) ?_) | (refine ldI rfl _ rfl w.heap.size 4 rfl _ ((HB.out _ hT).cell 4 _ rfl) ?_) | (refine ldI rfl _ rfl w.heap.size 5 rfl _ ((HB.out _ hT).cell 5 _ rfl) ?_) | (refine ldI rfl _ rfl w.heap.size 7 rfl _ ((HB.out _ hT).cell 7 _ rfl) ?_) | (refine ldI rfl _ rfl w.heap.size 8 rfl _ ((HB.out _ hT).cell 8 _ rfl) ?_) | (refine ldI rfl _ rfl w.heap.size 11 rfl _ ((HB.out _ hT).cell 11 _ rfl) ?_) | (refine ldI rfl _ rfl w.heap.size 12 rfl _ ((HB.out _ hT).cell 12 _ rfl) ?_) | (refine ldGp rfl _ rfl w.heap.size 7 rfl _ _ _ _ (HB.out _ hT).g ?_) | (refine ldGp rfl _ rfl w.heap.size 11 rfl _ _ _ _ (HB.out _ hT).r ?_) | fail)
                refine ((KN.out a.k2 (by (have f := HF.out; omega)) (by (have f := HF.out; omega))) _).mono ?_
                rintro e wa ⟨rfl, hba⟩
                replace hT := Below_then hT hba
                replace hO := hO.below hba
                have hsn := nText_size (a.k2).toNat
                have hsn2 : (nText (a.k2).toNat).size ≤ 100 := by (have f := HF.out; omega)
                clear hba hsn
                go_wp2_with fail
                refine (l17Put_any W0.heap.size _ _ zs _ _ hO HL.out hT.size).mono ?_
                rintro e wb ⟨g, c, rfl, hO2, hbb⟩
                replace hT := Below_then hT hbb
                have hz2 : putS zs ((⟨#[107]⟩ : ByteArray) ++ nText (a.k2).toNat) = putAll (((((((rawT a) ++ [fi 100 a.d]) ++ [fi 111 a.o]) ++ (bif decide (0 < a.l) then [fi 108 a.l] else [])) ++ (bif decide (0 < a.li) then [fi 108 a.li] else [])) ++ (bif (!groupNone a.c1 a.k1 a.a1 a.t1) then [fi 107 a.k1] else [])) ++ [fi 107 a.k2]) := by rw [putAll_snoc, ← HZ.out]; exact congrArg (putS zs) (ftB_app _ _)
                rw [hz2] at hO2
                clear hO HZ HL hbb hsn2
                have hO := hO2
                clear hO2
                obtain ⟨zs, hzs⟩ : ∃ zs, zs = putAll (((((((rawT a) ++ [fi 100 a.d]) ++ [fi 111 a.o]) ++ (bif decide (0 < a.l) then [fi 108 a.l] else [])) ++ (bif decide (0 < a.li) then [fi 108 a.li] else [])) ++ (bif (!groupNone a.c1 a.k1 a.a1 a.t1) then [fi 107 a.k1] else [])) ++ [fi 107 a.k2]) := ⟨_, rfl⟩
                rw [← hzs] at hO hz2
                rw [hz2]
                have HL := Lib.hid (show zs.length ≤ 1000000 by rw [hzs]; exact Nat.le_trans (putAll_len _) (by (have h0 := HRL.out; simp only [List.length_append, List.length_singleton, List.length_map, List.length_take]; first | omega | (have h1 := bif_len (decide (0 < a.l)) (fi 108 a.l); have h2 := bif_len (decide (0 < a.li)) (fi 108 a.li); have h3 := bif_len (!groupNone a.c1 a.k1 a.a1 a.t1) (fi 107 a.k1); have h4 := bif_len (!groupNone a.c2 a.k2 a.a2 a.t2) (fi 107 a.k2); omega))))
                have HZ := Lib.hid hzs
                clear hzs hz2
                go_wp2
                go_meet
                exact ⟨g, c, by rw [HZ.out]; simp [hq], by have h := hO; rw [HZ.out] at h; simpa [hq] using h, hT⟩
            case rest =>
              clear hO HZ HL hT zs
              obtain ⟨g, c, rfl, hO, hT⟩ := hcut
              obtain ⟨zs, hzs⟩ : ∃ zs, zs = putAll (((((((rawT a) ++ [fi 100 a.d]) ++ [fi 111 a.o]) ++ (bif decide (0 < a.l) then [fi 108 a.l] else [])) ++ (bif decide (0 < a.li) then [fi 108 a.li] else [])) ++ (bif (!groupNone a.c1 a.k1 a.a1 a.t1) then [fi 107 a.k1] else [])) ++ (bif (!groupNone a.c2 a.k2 a.a2 a.t2) then [fi 107 a.k2] else [])) := ⟨_, rfl⟩
              rw [← hzs] at hO
              rw [← hzs]
              have HL := Lib.hid (show zs.length ≤ 1000000 by rw [hzs]; exact Nat.le_trans (putAll_len _) (by (have h0 := HRL.out; simp only [List.length_append, List.length_singleton, List.length_map, List.length_take]; first | omega | (have h1 := bif_len (decide (0 < a.l)) (fi 108 a.l); have h2 := bif_len (decide (0 < a.li)) (fi 108 a.li); have h3 := bif_len (!groupNone a.c1 a.k1 a.a1 a.t1) (fi 107 a.k1); have h4 := bif_len (!groupNone a.c2 a.k2 a.a2 a.t2) (fi 107 a.k2); omega))))
              have HZ := Lib.hid hzs
              clear hzs
              go_wp2_with (first | (refine ldI rfl _ rfl w.heap.size 0 rfl _ ((HB.out _ hT).cell 0 _ rfl) ?_) | (refine ldI rfl _ rfl w.heap.size 1 rfl _ ((HB.out _ hT).cell 1 _ rfl) ?_) | (refine ldI rfl _ rfl w.heap.size 4 rfl _ ((HB.out _ hT).cell 4 _ rfl) ?_) | (refine ldI rfl _ rfl w.heap.size 5 rfl _ ((HB.out _ hT).cell 5 _ rfl) ?_) | (refine ldI rfl _ rfl w.heap.size 7 rfl _ ((HB.out _ hT).cell 7 _ rfl) ?_) | (refine ldI rfl _ rfl w.heap.size 8 rfl _ ((HB.out _ hT).cell 8 _ rfl) ?_) | (refine ldI rfl _ rfl w.heap.size 11 rfl _ ((HB.out _ hT).cell 11 _ rfl) ?_) | (refine ldI rfl _ rfl w.heap.size 12 rfl _ ((HB.out _ hT).cell 12 _ rfl) ?_) | (refine ldGp rfl _ rfl w.heap.size 7 rfl _ _ _ _ (HB.out _ hT).g ?_) | (refine ldGp rfl _ rfl w.heap.size 11 rfl _ _ _ _ (HB.out _ hT).r ?_) | fail)
              refine ((KN.out (a.c1 + a.c2) (by (have f := HF.out; omega)) (by (have f := HF.out; omega))) _).mono ?_
              rintro e wa ⟨rfl, hba⟩
              replace hT := Below_then hT hba
              replace hO := hO.below hba
              have hsn := nText_size ((a.c1 + a.c2)).toNat
              have hsn2 : (nText ((a.c1 + a.c2)).toNat).size ≤ 100 := by (have f := HF.out; omega)
              clear hba hsn
              go_wp2_with fail
              refine (l17Put_any W0.heap.size _ _ zs _ _ hO HL.out hT.size).mono ?_
              rintro e wb ⟨g, c, rfl, hO2, hbb⟩
              replace hT := Below_then hT hbb
              have hz2 : putS zs ((⟨#[110]⟩ : ByteArray) ++ nText ((a.c1 + a.c2)).toNat) = putAll ((((((((rawT a) ++ [fi 100 a.d]) ++ [fi 111 a.o]) ++ (bif decide (0 < a.l) then [fi 108 a.l] else [])) ++ (bif decide (0 < a.li) then [fi 108 a.li] else [])) ++ (bif (!groupNone a.c1 a.k1 a.a1 a.t1) then [fi 107 a.k1] else [])) ++ (bif (!groupNone a.c2 a.k2 a.a2 a.t2) then [fi 107 a.k2] else [])) ++ [fi 110 (a.c1 + a.c2)]) := by rw [putAll_snoc, ← HZ.out]; exact congrArg (putS zs) (ftB_app _ _)
              rw [hz2] at hO2
              clear hO HZ HL hbb hsn2
              have hO := hO2
              clear hO2
              obtain ⟨zs, hzs⟩ : ∃ zs, zs = putAll ((((((((rawT a) ++ [fi 100 a.d]) ++ [fi 111 a.o]) ++ (bif decide (0 < a.l) then [fi 108 a.l] else [])) ++ (bif decide (0 < a.li) then [fi 108 a.li] else [])) ++ (bif (!groupNone a.c1 a.k1 a.a1 a.t1) then [fi 107 a.k1] else [])) ++ (bif (!groupNone a.c2 a.k2 a.a2 a.t2) then [fi 107 a.k2] else [])) ++ [fi 110 (a.c1 + a.c2)]) := ⟨_, rfl⟩
              rw [← hzs] at hO hz2
              rw [hz2]
              have HL := Lib.hid (show zs.length ≤ 1000000 by rw [hzs]; exact Nat.le_trans (putAll_len _) (by (have h0 := HRL.out; simp only [List.length_append, List.length_singleton, List.length_map, List.length_take]; first | omega | (have h1 := bif_len (decide (0 < a.l)) (fi 108 a.l); have h2 := bif_len (decide (0 < a.li)) (fi 108 a.li); have h3 := bif_len (!groupNone a.c1 a.k1 a.a1 a.t1) (fi 107 a.k1); have h4 := bif_len (!groupNone a.c2 a.k2 a.a2 a.t2) (fi 107 a.k2); omega))))
              have HZ := Lib.hid hzs
              clear hzs hz2
              go_wp2
              go_ret
              have hfin : zs = featL a := by rw [HZ.out]; rfl
              rw [hfin] at hO
              exact ⟨_, by rw [hfin]; rfl, OwnS.base hO hs0, hW0b.trans (hT.mono hs0)⟩
end Go.Proofs.YtlonnkmfjijddaaGreatDoor
