/- Contracts: ParseLetters, both sides. -/
import Derived.Test.YtenaadmifppphaaGreatDoorPicR2
import Derived.Test.YtenaadmifppphaaGreatDoorLText
import Derived.Lib.Replace
namespace Go.Proofs.YtenaadmifppphaaGreatDoor
open Go.ChangeShapes Go.WideShapes Go.ChangeAt Go.RowKit
set_option linter.unusedVariables false
set_option linter.unusedSimpArgs false
theorem idx1_nil (c : UInt8) : Lib.index [] [c] = -1 := rfl
theorem idx1_hit (c : UInt8) (l : List UInt8) : Lib.index (c :: l) [c] = (0 : Nat) := by rw [Lib.index_one, Lib.indexByte]; simp
theorem idx1_miss {b c : UInt8} (h : b ≠ c) (l : List UInt8) (i : Nat) (hi : Lib.index l [c] = i) : Lib.index (b :: l) [c] = ((i + 1 : Nat) : Int) := by
  rw [Lib.index_one] at hi ⊢
  have h1 : (b == c) = false := by simpa using h
  have h2 : (Lib.indexByte l c == -1) = false := by rw [hi, beq_eq_false_iff_ne]; omega
  rw [Lib.indexByte, h1, h2, hi]
  simp
theorem rep_filter (c : UInt8) : ∀ s : List UInt8, Lib.replaceK [c] [] (Lib.count s [c]) s = s.filter (fun b => b != c)
  | [] => by rw [show Lib.count [] [c] = 0 from Lib.count_miss rfl, Lib.replaceK]; rfl
  | b :: l => by
    have ih := rep_filter c l
    by_cases h : b = c
    · subst h
      rw [Lib.count_cons_eq, Nat.add_comm, Lib.replaceK_hit [b] [] _ (b :: l) 0 (idx1_hit b l)]
      simpa using ih
    · have hf : (b :: l).filter (fun x => x != c) = b :: l.filter (fun x => x != c) := by simp [h]
      rw [Lib.count_cons_ne b c l h, hf, ← ih]
      cases hk : Lib.count l [c] with
      | zero => rfl
      | succ k =>
        obtain ⟨i, hi⟩ := Lib.index_of_count (s := l) (old := [c]) (by omega)
        rw [Lib.replaceK_hit [c] [] k (b :: l) (i + 1) (idx1_miss h l i hi), Lib.replaceK_hit [c] [] k l i hi]
        simp
theorem repAll_filter (s : List UInt8) : Lib.replaceAll s [10] [] = s.filter (fun b => b != 10) := by
  unfold Lib.replaceAll Lib.replace Lib.replaceNum
  rw [if_neg (by simp), if_pos (by omega), rep_filter]
def NLB : ByteArray := ⟨#[10]⟩
/-- The variable that ReplaceAll reads holds a number. -/
def MaxAt (w : World) : Prop := ∃ m, w.cell? ⟨0, 0, none⟩ = some (.int .i64 m)
theorem MaxAt.below {w w' : World} (h : MaxAt w) (hb : Below w.heap.size w w') : MaxAt w' := by
  obtain ⟨m, hm⟩ := h
  exact ⟨m, keep_cell hm hb⟩
theorem maxAt_shaped {w : World} (h : w.ShapedOpen Tryz.prog) : MaxAt w := Tryz.laysM155.s1_3 w h
def plOk (s : ByteArray) : Bool := linesOk s.data.toList
def plRows (s : ByteArray) : List (List Int) := bif plOk s then picP (allL s.data.toList 24) 24 else []
theorem pl_small (s : ByteArray) : Small (plRows s) := by
  unfold plRows
  cases h : plOk s
  · exact ⟨by simp, fun r hr => by simp at hr⟩
  · have h1 : rdOk (allL s.data.toList 24) = true := by
      unfold plOk linesOk at h
      simp only [Bool.and_eq_true] at h
      exact h.2
    rw [cond_true, ← gridI_all (rd_let h1).1]
    exact gridI_small _ _
theorem pl_no {s : ByteArray} (h : ¬ s.size = 504) : plOk s = false := by
  unfold plOk linesOk
  have : ¬ s.data.toList.length = 504 := by rw [bytes_len]; exact h
  rw [decide_eq_false this]
  rfl
theorem dtl (t : List UInt8) : (⟨t.toArray⟩ : ByteArray).data.toList = t := by simp
set_option maxHeartbeats 4000000 in
theorem implParseLetters_any (s : ByteArray) (w : World) (hM : MaxAt w) : Calls Tryz.prog 11 #[.string s] w (GridOk w (plRows s) (plOk s)) := by
  by_cases hz : s.size = 504
  · have hl : s.data.toList.length = 504 := by rw [bytes_len]; exact hz
    have hd : ((s.size : Int) != 504) = false := by simp; omega
    obtain ⟨m, hm⟩ := hM
    have KR := Tryz.strings_ReplaceAll s NLB .empty m w (by omega) hm (by decide) (by rw [show ByteArray.empty.size = 0 from rfl]; omega)
    rw [show NLB.data.toList = [10] from rfl, show ByteArray.empty.data.toList = [] from rfl, repAll_filter] at KR
    obtain ⟨t, ht⟩ : ∃ t, t = s.data.toList.filter (fun b => b != 10) := ⟨_, rfl⟩
    rw [← ht] at KR
    have htl : t.length ≤ 504 := by rw [ht, ← hl]; exact List.length_filter_le _ _
    have KP := fun w => pictureOf_any ⟨t.toArray⟩ (by show t.toArray.size ≤ _; rw [List.size_toArray]; omega) w
    rw [show (⟨t.toArray⟩ : ByteArray).data.toList = t by simp] at KP
    have HSAME := lines_same hl
    rw [← ht] at HSAME
    have hfil : plOk s = true → allL s.data.toList 24 = t := fun h => by rw [ht]; exact (lines_filter h).symm
    have HS := Lib.hid HSAME
    have HF := Lib.hid hfil
    have KR' := Lib.hid KR
    clear HSAME hfil KR hl hz ht htl hm
    cases hok : rdOk t
    · have hno : plOk s = false := by
        cases h : plOk s
        · rfl
        · have := (HS.out.2 h).1
          rw [hok] at this
          cases this
      rw [hok] at KP
      have KP' := Lib.hid KP
      have HNO := Lib.hid hno
      have HR := Lib.hid (show plRows s = [] by unfold plRows; rw [hno]; rfl)
      clear KP hno hok
      go_enter Tryz.func11, Tryz.ntmps11
      go_wp2_with fail
      refine (KR'.out).mono ?_
      rintro e w1 ⟨rfl, hb1⟩
      go_wp2_with fail
      refine (KP'.out _).mono ?_
      rintro e w2 ⟨v, rfl, hb2, -⟩
      have hT := Below_then hb1 hb2
      go_wp2
      go_ret2
      exact ⟨_, _, by rw [HNO.out]; rfl, by rw [HR.out]; exact GG.nil _ _, hT⟩
    · rw [hok] at KP
      have KP' := Lib.hid KP
      have hpo : picOk (picP t 24) = true := by rw [← rd_pic (rd_let hok).1]; exact hok
      have HPO := Lib.hid hpo
      obtain ⟨tx, htx⟩ : ∃ tx : ByteArray, tx = ⟨(textT letC [10] (picP t 24) 24).toArray⟩ := ⟨_, rfl⟩
      have KL := fun A c w h => lettersOf_nl A c (picP t 24) w h hpo
      rw [← htx] at KL
      have KL' := Lib.hid KL
      have hcase : (plOk s = true ∧ (tx.toList == s.toList) = true) ∨ (plOk s = false ∧ (tx.toList == s.toList) = false) := by
        by_cases e : tx = s
        · left
          refine ⟨HS.out.1 ⟨hok, ?_⟩, eqS_iff.2 e⟩
          rw [← e, htx]
        · right
          refine ⟨?_, eqS_ne e⟩
          cases h : plOk s
          · rfl
          · have h2 := (HS.out.2 h).2
            refine absurd ?_ e
            rw [htx, h2]
      clear KP KL hpo htx hok
      rcases hcase with ⟨hy, hq⟩ | ⟨hy, hq⟩
      · have HY := Lib.hid hy
        have HR := Lib.hid (show plRows s = picP t 24 by unfold plRows; rw [hy, HF.out hy]; rfl)
        clear hy
        go_enter Tryz.func11, Tryz.ntmps11
        go_wp2_with fail
        refine (KR'.out).mono ?_
        rintro e w1 ⟨rfl, hb1⟩
        go_wp2_with fail
        refine (KP'.out _).mono ?_
        rintro e w2 ⟨v, rfl, hb2, hv⟩
        obtain ⟨A, c, vs, rfl, hG⟩ := hv rfl
        obtain ⟨A2, c2, e2, hrd⟩ := hG.rd
        injection e2 with e21 e22 e23
        subst e21 e23
        have HG := Lib.hid hG
        have HRD := Lib.hid hrd
        have hT := Below_then hb1 hb2
        have hsz := hb1.size
        clear hG hrd e22 hv
        go_wp2_with fail
        refine (KL'.out _ _ _ HRD.out).mono ?_
        rintro e w3 ⟨rfl, hb3⟩
        have hT3 := Below_then hT hb3
        go_wp2
        go_ret2
        exact ⟨_, vs, by rw [HY.out]; rfl, by rw [HR.out]; exact (HG.out.below hb3).base hsz, hT3⟩
      · have HY := Lib.hid hy
        have HR := Lib.hid (show plRows s = [] by unfold plRows; rw [hy]; rfl)
        clear hy
        go_enter Tryz.func11, Tryz.ntmps11
        go_wp2_with fail
        refine (KR'.out).mono ?_
        rintro e w1 ⟨rfl, hb1⟩
        go_wp2_with fail
        refine (KP'.out _).mono ?_
        rintro e w2 ⟨v, rfl, hb2, hv⟩
        obtain ⟨A, c, vs, rfl, hG⟩ := hv rfl
        obtain ⟨A2, c2, e2, hrd⟩ := hG.rd
        injection e2 with e21 e22 e23
        subst e21 e23
        have HRD := Lib.hid hrd
        have hT := Below_then hb1 hb2
        clear hG hrd e22 hv
        go_wp2_with fail
        refine (KL'.out _ _ _ HRD.out).mono ?_
        rintro e w3 ⟨rfl, hb3⟩
        have hT3 := Below_then hT hb3
        go_wp2
        go_ret2
        exact ⟨_, _, by rw [HY.out]; rfl, by rw [HR.out]; exact GG.nil _ _, hT3⟩
  · have hd : ((s.size : Int) != 504) = true := by simp; omega
    have HY := Lib.hid (pl_no hz)
    have HR := Lib.hid (show plRows s = [] by unfold plRows; rw [pl_no hz]; rfl)
    clear hz hM
    go_enter Tryz.func11, Tryz.ntmps11
    go_wp2
    go_ret2
    exact ⟨_, _, by rw [HY.out]; rfl, by rw [HR.out]; exact GG.nil _ _, Below.refl _ _⟩
theorem allL_len {s : List UInt8} (hs : s.length = 504) : ∀ m, m ≤ 24 → (allL s m).length = 20 * m := by
  intro m
  induction m with
  | zero => intro _; rfl
  | succ m ih => intro hm; rw [allL, List.length_append, ih (by omega)]; simp; omega
set_option maxHeartbeats 4000000 in
theorem specParseLetters_t (t : List UInt8) (w : World) : Calls Tryz.prog 15 #[.string ⟨t.toArray⟩] w (GridOk w (plRows ⟨t.toArray⟩) (plOk ⟨t.toArray⟩)) := by
  have hdt : (⟨t.toArray⟩ : ByteArray).data.toList = t := by simp
  have hst : (⟨t.toArray⟩ : ByteArray).size = t.length := by show t.toArray.size = _; simp
  by_cases hz : t.length = 504
  · have hd : (((⟨t.toArray⟩ : ByteArray).size : Int) != 504) = false := by rw [hst]; simp; omega
    have hd2 : ((t.length : Int) != 504) = false := by simp; omega
    have HZ := Lib.hid hz
    have HST := Lib.hid hst
    clear hz hdt hst
    go_enter Tryz.func15, Tryz.ntmps15
    go_wp2_with fail
    clear hd hd2
    go_loop [4, 5] (fun s i => ∃ k : Nat, k ≤ 24 ∧ i = .int .i64 k ∧ s = .string ⟨(allL t k).toArray⟩ ∧ ∀ y, y < k → t[21 * y + 20]? = some 10) (fun _ i => 24 - (intOf i).toNat)
    case atStart => exact ⟨0, by omega, rfl, rfl, fun y hy => by omega⟩
    case round =>
      obtain ⟨k, hk, rfl, rfl, hall⟩ := hrel
      have HA := Lib.hid hall
      clear hall
      by_cases hlt : k < 24
      · have i1 : (k : Int) < 24 := by omega
        have hz := HZ.out
        have f0 : t.length ≤ 504 := by omega
        have f1 : 21 * (k : Int) + 20 < (t.length : Int) := by omega
        have hn : 21 * k + 20 < t.length := by omega
        have hln := allL_len HZ.out k hk
        have f2 : (allL t k).length ≤ 504 := by omega
        obtain ⟨bb, hbb⟩ : ∃ bb : UInt8, t[21 * k + 20]? = some bb := ⟨_, List.getElem?_eq_getElem hn⟩
        obtain ⟨zb, hzb⟩ : ∃ zb : Int, zb = (bb.toNat : Int) := ⟨_, rfl⟩
        have hix : ∀ w, (Instr.index 9 (.string ⟨t.toArray⟩) (.int .i64 (21 * (k : Int) + 20))).run Tryz.prog w = .ok (.int .u8 zb) w := fun w => by
          rw [show (21 * (k : Int) + 20) = ((21 * k + 20 : Nat) : Int) by omega, strIdx (s := ⟨t.toArray⟩) (by rw [HST.out]; exact hn) w, hzb]
          congr 3
          have h3 := byte_at (s := ⟨t.toArray⟩) (k := 21 * k + 20) (by rw [HST.out]; exact hn)
          rw [(dtl t), hbb] at h3
          injection h3 with h3
          rw [h3]
        have HBB := Lib.hid hbb
        have HZB := Lib.hid hzb
        clear hbb hzb hz hln hn
        by_cases h10 : bb = 10
        · have hq : (zb != 10) = false := by rw [HZB.out, h10]; rfl
          go_wp2_with fail
          go_round
          case rel =>
            refine ⟨k + 1, by omega, by go_num, ?_, fun y hy => ?_⟩
            · congr 1
              apply ByteArray.ext
              simp [allL, ByteArray.data_append, ByteArray.data_extract, List.extract_eq_take_drop]
            · by_cases e : y = k
              · subst e
                rw [HBB.out, h10]
              · exact HA.out y (by omega)
          case measure => simp [intOf]; omega
        · have hq : (zb != 10) = true := by
            rw [HZB.out]
            simp
            intro e
            exact h10 (UInt8.toNat_inj.1 (by have e2 : (bb.toNat : Int) = 10 := by simpa using e
                                             show bb.toNat = 10
                                             omega))
          have hno : plOk ⟨t.toArray⟩ = false := by
            unfold plOk linesOk
            rw [(dtl t)]
            have : ((List.range 24).all fun y => t[21 * y + 20]? == some 10) = false := by
              rw [List.all_eq_false]
              exact ⟨k, List.mem_range.2 hlt, by rw [HBB.out]; simpa using h10⟩
            rw [this]
            simp
          have HY := Lib.hid hno
          have HR := Lib.hid (show plRows ⟨t.toArray⟩ = [] by unfold plRows; rw [hno]; rfl)
          clear hno
          go_wp2_with fail
          go_ret2
          exact ⟨_, _, by rw [HY.out]; rfl, by rw [HR.out]; exact GG.none0 _ _ _ rfl (Nat.le_refl _), by (repeat (first | exact Below.refl _ _ | assumption | refine Below_al ?_ _ | refine Below.drew ?_ | refine Below_then ?_ (by assumption) | refine Below.setCell ?_ (by first | omega | (simp; done) | (simp; omega)) _))⟩
      · obtain rfl : k = 24 := by omega
        have KR := fun w => l13Read_any ⟨(allL t 24).toArray⟩ (by show (allL t 24).toArray.size ≤ _; rw [List.size_toArray, allL_len HZ.out 24 (by omega)]; omega) w
        rw [show (⟨(allL t 24).toArray⟩ : ByteArray).data.toList = allL t 24 by simp] at KR
        have hy : plOk ⟨t.toArray⟩ = rdOk (allL t 24) := by
          unfold plOk linesOk
          rw [(dtl t)]
          have : ((List.range 24).all fun y => t[21 * y + 20]? == some 10) = true := by
            rw [List.all_eq_true]
            exact fun y hy => by rw [HA.out y (List.mem_range.1 hy)]; rfl
          rw [this, HZ.out]
          simp
        have hr : plRows ⟨t.toArray⟩ = bif rdOk (allL t 24) then picP (allL t 24) 24 else [] := by unfold plRows; rw [hy, (dtl t)]
        rw [← hr, ← hy] at KR
        have KR' := Lib.hid KR
        clear KR hr hy
        go_wp2_with fail
        refine (KR'.out _).mono ?_
        rintro e w2 ⟨v, vs, rfl, hG, hb⟩
        go_wp2
        go_ret2
        exact ⟨_, _, rfl, hG, hb⟩
  · have hd : (((⟨t.toArray⟩ : ByteArray).size : Int) != 504) = true := by rw [hst]; simp; omega
    have hd2 : ((t.length : Int) != 504) = true := by simp; omega
    have hno : plOk ⟨t.toArray⟩ = false := pl_no (by rw [hst]; exact hz)
    have HY := Lib.hid hno
    have HR := Lib.hid (show plRows ⟨t.toArray⟩ = [] by unfold plRows; rw [hno]; rfl)
    clear hno hz hst hdt
    go_enter Tryz.func15, Tryz.ntmps15
    go_wp2
    go_ret2
    exact ⟨_, _, by rw [HY.out]; rfl, by rw [HR.out]; exact GG.none0 _ _ _ rfl (Nat.le_refl _), by (repeat (first | exact Below.refl _ _ | assumption | refine Below_al ?_ _ | refine Below.drew ?_ | refine Below_then ?_ (by assumption) | refine Below.setCell ?_ (by first | omega | (simp; done) | (simp; omega)) _))⟩
theorem specParseLetters_any (s : ByteArray) (w : World) : Calls Tryz.prog 15 #[.string s] w (GridOk w (plRows s) (plOk s)) := by
  have h := specParseLetters_t s.data.toList w
  rwa [show (⟨s.data.toList.toArray⟩ : ByteArray) = s by simp] at h
end Go.Proofs.YtenaadmifppphaaGreatDoor
