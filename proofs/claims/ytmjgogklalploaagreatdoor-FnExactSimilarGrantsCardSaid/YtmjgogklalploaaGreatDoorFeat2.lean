/- Contracts: IsFeature of both sides. -/
import Derived.Test.YtmjgogklalploaaGreatDoorFeat1
import Derived.Test.YtmjgogklalploaaGreatDoorRead
import Derived.Test.YtmjgogklalploaaGreatDoorInts
namespace Go.Proofs.YtmjgogklalploaaGreatDoor
open Go.ChangeShapes Go.WideShapes Go.ChangeAt Go.RowKit
set_option linter.unusedVariables false
set_option linter.unusedSimpArgs false
/-- May the number stand behind the letter? -/
def featN (c v : Int) : Bool :=
  if c = 116 then decide (1 ≤ v ∧ v ≤ 9) else if c = 100 then decide (0 ≤ v ∧ v ≤ 7) else if c = 111 then decide (0 ≤ v ∧ v ≤ 7) else if c = 108 then decide (1 ≤ v ∧ v ≤ 4) else if c = 107 then decide (1 ≤ v ∧ v ≤ 8) else if c = 110 then decide (0 ≤ v ∧ v ≤ 12) else false
theorem featK_facts : ∀ x ∈ featK, digs (dg2 x.2) = true ∧ valD (dg2 x.2) = x.2 ∧ featN x.1.toNat x.2 = true ∧ x.2 < 100 ∧ (dg2 x.2).length ≤ 2 ∧ 1 ≤ (dg2 x.2).length ∧ (dg2 x.2).head? ≠ some 45 := by decide
theorem featN_mem {c : UInt8} {v : Nat} (h : featN c.toNat v = true) : (c, v) ∈ featK := by
  have key : ∀ (k : UInt8) (lo hi : Nat), (∀ n, n < hi + 1 → lo ≤ n → (k, n) ∈ featK) → ∀ v : Nat, decide ((lo : Int) ≤ (v : Int) ∧ (v : Int) ≤ (hi : Int)) = true → (k, v) ∈ featK := fun k lo hi hh v hv => by
    rw [decide_eq_true_iff] at hv
    exact hh v (by omega) (by omega)
  have hc : ∀ (k : UInt8) , (c.toNat : Int) = (k.toNat : Int) → c = k := fun k e => UInt8.toNat_inj.1 (by omega)
  unfold featN at h
  split at h
  · obtain rfl := hc 116 (by assumption)
    exact key 116 1 9 (by decide) v h
  · split at h
    · obtain rfl := hc 100 (by assumption)
      exact key 100 0 7 (by decide) v h
    · split at h
      · obtain rfl := hc 111 (by assumption)
        exact key 111 0 7 (by decide) v h
      · split at h
        · obtain rfl := hc 108 (by assumption)
          exact key 108 1 4 (by decide) v h
        · split at h
          · obtain rfl := hc 107 (by assumption)
            exact key 107 1 8 (by decide) v h
          · split at h
            · obtain rfl := hc 110 (by assumption)
              exact key 110 0 12 (by decide) v h
            · cases h
theorem feat_mem {s : ByteArray} : hasB FEATS s = true ↔ ∃ x ∈ featK, s.data.toList = x.1 :: dg2 x.2 := by
  rw [hasB_iff, FEATS_dg, List.map_map, List.mem_map]
  constructor
  · rintro ⟨x, hx, rfl⟩
    exact ⟨x, hx, data_toB _⟩
  · rintro ⟨x, hx, e⟩
    refine ⟨x, hx, bytes_eq ?_⟩
    simp only [Function.comp]
    rw [data_toB, e]
theorem feat_size {s : ByteArray} (h : hasB FEATS s = true) : 2 ≤ s.size ∧ s.size ≤ 3 := by
  obtain ⟨x, hx, e⟩ := feat_mem.1 h
  obtain ⟨-, -, -, -, h1, h2, -⟩ := featK_facts x hx
  have := congrArg List.length e
  rw [Array.length_toList, List.length_cons] at this
  have e2 : s.size = s.data.size := rfl
  omega
theorem feat_pos {s t : ByteArray} {c : UInt8} (hs : s.data.toList = c :: t.data.toList) : hasB FEATS s = (readOk t && featN c.toNat (valD t.data.toList : Nat)) := by
  rw [Bool.eq_iff_iff, Bool.and_eq_true]
  constructor
  · intro h
    obtain ⟨x, hx, e⟩ := feat_mem.1 h
    obtain ⟨h1, h2, h3, h4, -, -, -⟩ := featK_facts x hx
    rw [hs] at e
    injection e with e1 e2
    subst e1
    refine ⟨?_, by rw [e2, h2]; exact h3⟩
    unfold readOk
    rw [e2, h1, h2, Bool.true_and, eqS_iff]
    apply bytes_eq
    rw [e2, ← dg2_eq h4]
    rfl
  · rintro ⟨h1, h2⟩
    rw [feat_mem]
    refine ⟨_, featN_mem h2, ?_⟩
    unfold readOk at h1
    rw [Bool.and_eq_true, eqS_iff] at h1
    have h4 := (featK_facts _ (featN_mem h2)).2.2.2.1
    have e := congrArg (fun b : ByteArray => b.data.toList) h1.2
    rw [hs]
    congr 1
    rw [← dg2_eq h4]
    exact e.symm
theorem feat_neg {s t : ByteArray} {c : UInt8} (hs : s.data.toList = c :: t.data.toList) (hn : t.data.toList.head? = some 45) : hasB FEATS s = false := by
  rw [Bool.eq_false_iff]
  intro h
  obtain ⟨x, hx, e⟩ := feat_mem.1 h
  obtain ⟨-, -, -, -, -, -, h1⟩ := featK_facts x hx
  rw [hs] at e
  injection e with e1 e2
  exact h1 (by rw [← e2]; exact hn)
theorem implIsFeature_any (s : ByteArray) (w : World) : Calls Tryz.prog 86 #[.string s] w fun e w' => e = .returned (.bool (hasB FEATS s)) ∧ Below w.heap.size w w' := by
  obtain ⟨F, hF⟩ : ∃ F, F = FEATS := ⟨_, rfl⟩
  have KA := Lib.hid (fun w => allFeatures_any w)
  have hl : F.length ≤ 1048576 := by rw [hF]; decide
  rw [← hF] at KA ⊢
  obtain ⟨q, hq⟩ : ∃ q, q = hasB F s := ⟨_, rfl⟩
  rw [← hq]
  have HQ := Lib.hid hq
  clear hF hq
  go_enter Tryz.func86, Tryz.ntmps86
  go_wp2_with fail
  refine (KA.out _).mono ?_
  rintro e w1 ⟨v, rfl, hO, hb1⟩
  obtain ⟨A, c, rfl, hR⟩ := hO.form
  have KH := Lib.hid (hasS_any A c F s w1 hR hl)
  rw [← HQ.out] at KH
  clear hR hO hl
  go_wp2_with fail
  refine (KH.out).mono ?_
  rintro e w2 ⟨rfl, rfl⟩
  go_wp2
  go_ret
  exact ⟨rfl, hb1⟩
set_option maxHeartbeats 2000000 in
theorem specIsFeature_any (s : ByteArray) (w : World) (hm : s.size ≤ maxLen) : Calls Tryz.prog 85 #[.string s] w fun e w' => e = .returned (.bool (hasB FEATS s)) ∧ Below w.heap.size w w' := by
  unfold maxLen at hm
  by_cases hsz : 2 ≤ s.size ∧ s.size ≤ 3
  · have h0 : 0 < s.size := by omega
    obtain ⟨t, ht⟩ : ∃ t, s.extract 1 s.size = t := ⟨_, rfl⟩
    have hd : s.data.toList = s[0]'h0 :: t.data.toList := by
      rw [← ht, ByteArray.data_extract, Array.toList_extract]
      have hl : s.data.toList.length = s.size := by rw [Array.length_toList]; rfl
      rw [List.extract_eq_take_drop, List.take_of_length_le (by rw [List.length_drop, hl]; omega)]
      cases hc : s.data.toList with
      | nil => rw [hc] at hl; simp at hl; omega
      | cons a l =>
        have : s[0]'h0 = s.data.toList[0]'(by rw [hl]; exact h0) := rfl
        rw [this]
        simp [hc]
    have hts : t.size = s.size - 1 := by rw [← ht, ByteArray.size_extract]; omega
    have ht0 : 0 < t.size := by omega
    have hh : t.data.toList.head? = some (t[0]'ht0) := by
      have hl : t.data.toList.length = t.size := by rw [Array.length_toList]; rfl
      cases hc : t.data.toList with
      | nil => rw [hc] at hl; simp at hl; omega
      | cons a l =>
        have : t[0]'ht0 = t.data.toList[0]'(by rw [hl]; exact ht0) := rfl
        rw [this]
        simp [hc]
    have i0 : (0 : Int) < (s.size : Int) := by omega
    have i2 : ¬ (s.size : Int) < 2 := by omega
    have i3 : ¬ (3 : Int) < (s.size : Int) := by omega
    have i1 : (1 : Int) ≤ (s.size : Int) := by omega
    obtain ⟨z, hz⟩ : ∃ z : Int, ((s[0]'h0).toNat : Int) = z := ⟨_, rfl⟩
    by_cases hng : 1 < t.size ∧ ((t[0]'ht0).toNat : Int) = 45
    · have hf : hasB FEATS s = false := feat_neg hd (by rw [hh]; congr 1; exact UInt8.toNat_inj.1 (by have := hng.2; simp; omega))
      have K := Lib.hid (fun w => l1Read_neg t (by omega) hng.2 w)
      have HF := Lib.hid hf
      clear hf hd hts hh hng hsz
      go_enter Tryz.func85, Tryz.ntmps85
      go_wp2_with fail
      refine (K.out _).mono ?_
      rintro e w1 ⟨n, ok, rfl, hok, hb1⟩
      cases ok
      · clear hok
        go_wp2
        go_ret
        exact ⟨retB HF.out.symm, hb1⟩
      · have hn := hok rfl
        have HN := Lib.hid hn
        clear hn hok
        go_wp2_with (first | (go_at_call 30; refine (l1In_any _ _ _ _).mono ?_; rintro e w2 ⟨rfl, rfl⟩) | fail)
        all_goals
          go_ret
          exact ⟨retB (by rw [HF.out]; first | done | rfl | (have := HN.out; simp; omega)), hb1⟩
    · have hf := feat_pos hd
      rw [show ((s[0]'h0).toNat : Int) = z from hz] at hf
      have K := Lib.hid (fun w => l1Read_pos t (by omega) (by omega) (fun h e => hng ⟨h, e⟩) w)
      have hr : readN t = bif readOk t then valD t.data.toList else 0 := rfl
      obtain ⟨v, hv⟩ : ∃ v, v = valD t.data.toList := ⟨_, rfl⟩
      rw [← hv] at hr hf
      have HR := Lib.hid hr
      cases hok : readOk t
      · rw [hok, Bool.false_and] at hf
        rw [hok] at K
        have HF := Lib.hid hf
        clear hf hd hts hh hng hsz hr hv hok HR
        go_enter Tryz.func85, Tryz.ntmps85
        go_wp2_with fail
        refine (K.out _).mono ?_
        rintro e w1 ⟨rfl, hb1⟩
        go_wp2
        go_ret
        exact ⟨retB HF.out.symm, hb1⟩
      · rw [hok, Bool.true_and] at hf
        rw [hok] at K hr
        rw [show readN t = v from hr] at K
        have HF := Lib.hid hf
        clear hf hd hts hh hng hsz hr hv hok HR
        go_enter Tryz.func85, Tryz.ntmps85
        go_wp2_with fail
        refine (K.out _).mono ?_
        rintro e w1 ⟨rfl, hb1⟩
        go_wp2_with (first | (go_at_call 30; refine (l1In_any _ _ _ _).mono ?_; rintro e w2 ⟨rfl, rfl⟩) | fail)
        all_goals
          go_ret
          exact ⟨retB (by rw [HF.out]; simp_all [featN]), hb1⟩
  · have hf : hasB FEATS s = false := by
      rw [Bool.eq_false_iff]
      exact fun h => hsz (feat_size h)
    rw [hf]
    have g : (s.size : Int) < 2 ∨ (3 : Int) < (s.size : Int) := by omega
    clear hf hsz
    rcases g with g | g
    · go_enter Tryz.func85, Tryz.ntmps85
      go_wp2
      go_ret
      exact ⟨rfl, by (repeat (first | exact Below.refl _ _ | assumption | refine Below_al ?_ _ | refine Below.drew ?_ | refine Below_then ?_ (by assumption) | refine Below.setCell ?_ (by first | omega | (simp; done) | (simp; omega)) _))⟩
    · have g2 : ¬ (s.size : Int) < 2 := by omega
      go_enter Tryz.func85, Tryz.ntmps85
      go_wp2
      go_ret
      exact ⟨rfl, by (repeat (first | exact Below.refl _ _ | assumption | refine Below_al ?_ _ | refine Below.drew ?_ | refine Below_then ?_ (by assumption) | refine Below.setCell ?_ (by first | omega | (simp; done) | (simp; omega)) _))⟩
end Go.Proofs.YtmjgogklalploaaGreatDoor
