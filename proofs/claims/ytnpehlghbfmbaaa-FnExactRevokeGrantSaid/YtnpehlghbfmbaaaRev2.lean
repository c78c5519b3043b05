/- Contracts: RevokeGrant of both sides. -/
import Derived.Test.YtnpehlghbfmbaaaRev
import Derived.Test.YtnpehlghbfmbaaaDel
namespace Go.Proofs.Ytnpehlghbfmbaaa
open Go.ChangeShapes Go.WideShapes Go.ChangeAt Go.RowKit
set_option linter.unusedVariables false
set_option linter.unusedSimpArgs false
set_option maxHeartbeats 8000000 in
set_option maxRecDepth 20000 in
theorem implRevokeGrant_any (ad : Addr) (c : Nat) (rows : List GrantD) (n : Int) (w : World) (hr : RdR 18 w (some ad) (gcs rows)) (hl : rows.length ≤ 1048576) (hs : ∀ g ∈ rows, g.s.size ≤ maxLen) (hcap : rows.length ≤ c) (hcm : c ≤ maxLen) : Calls Try.prog 15 #[.agg #[.slice (some ad) rows.length c], .int .i64 n] w (RgOk w (rvRows rows n) (rvOk rows n)) := by
  have KF := fun (w' : World) (hb : Below w.heap.size w w') => grantIn_any (some ad) c rows n w' (hr.below hb) hl
  have KV := fun (w' : World) (hb : Below w.heap.size w w') => IsValidRegister_any (some ad) c rows w' (hr.below hb) hl hs hcap hcm
  have KC := fun (w' : World) (hb : Below w.heap.size w w') => implClone_any ad c rows w' (hr.below hb) hl
  have HH := Lib.hid hr
  have KC' := Lib.hid KC
  have hA0 : ∀ w', Below (w.heap.size + 1 + 1) ((w.alloc (.cells #[.slice (some ad) rows.length c] 34)).alloc (.cells #[.slice none 0 0] 34)) w' → w'.heap[w.heap.size]? = some (.cells #[.slice (some ad) rows.length c] 34 (0, 0)) ∧ w'.heap[w.heap.size + 1]? = some (.cells #[.slice none 0 0] 34 (0, 0)) ∧ Below w.heap.size w w' := fun w' hb =>
      ⟨(hb.block _ (by omega)).trans (heap_keepA (heap_hit _ _ _ rfl) _), (hb.block _ (by omega)).trans (heap_hit _ _ _ (by simp)), Below.trans (by (repeat (first | exact Below.refl _ _ | assumption | refine Below_al ?_ _ | refine Below.drew ?_ | refine Below_then ?_ (by assumption) | refine Below.setCell ?_ (by first | omega | (simp; done) | (simp; omega)) _))) (hb.mono (by omega))⟩
  have HA0 := Lib.hid hA0
  clear KC hs hA0
  rcases findI_cases rows n with hf | ⟨k, g, hf, hk, hg⟩
  · rw [hf] at KF
    have e1 : rvRows rows n = [] := by simp [rvRows, rvOk, hf]
    have e2 : rvOk rows n = false := by simp [rvOk, hf]
    rw [e1, e2]
    have KF' := Lib.hid KF
    clear KF hf e1 e2 hr
    cases hv : regOk rows
    all_goals
      rw [hv] at KV
      have KV' := Lib.hid KV
      clear KV hv
      go_enter Try.func15, Try.ntmps15
      go_wp2_with fail
      refine (KF'.out _ (by (repeat (first | exact Below.refl _ _ | assumption | refine Below_al ?_ _ | refine Below.drew ?_ | refine Below_then ?_ (by assumption) | refine Below.setCell ?_ (by first | omega | (simp; done) | (simp; omega)) _)))).mono ?_
      rintro e w1 ⟨rfl, hb1⟩
      obtain ⟨hF, hR, hT⟩ := HA0.out _ (hb1.mono (by simp))
      have cF := cell_of hF 0
      go_wp2_with fail
      refine (KV'.out _ hT).mono ?_
      rintro e w2 ⟨rfl, hb2⟩
      have hF2 := heap_keepB hF hb2
      have hR2 := heap_keepB hR hb2
      have hT2 := Below_then hT hb2
      have cR2 := cell_of hR2 0
      have fR2 := frozen_of hR2
      have hR3 := heap_set _ _ 0 _ _ (.slice none 0 0) hR2
      go_wp2
      exact bodyPost_ret (v := .tuple #[.agg #[.slice none 0 0], .bool false]) (by simp [results, Try.results15, go_sem, cell_of hR3]) rfl ⟨_, rfl, OwnGr.nil _ _, hT2.setCell (by dsimp only; omega) _⟩
  · rw [hf] at KF
    have KF' := Lib.hid KF
    cases hv : regOk rows
    · rw [hv] at KV
      have e1 : rvRows rows n = [] := by simp [rvRows, rvOk, hv]
      have e2 : rvOk rows n = false := by simp [rvOk, hv]
      rw [e1, e2]
      have KV' := Lib.hid KV
      clear KF KV hf hv hg e1 e2 hr
      go_enter Try.func15, Try.ntmps15
      go_wp2_with fail
      refine (KF'.out _ (by (repeat (first | exact Below.refl _ _ | assumption | refine Below_al ?_ _ | refine Below.drew ?_ | refine Below_then ?_ (by assumption) | refine Below.setCell ?_ (by first | omega | (simp; done) | (simp; omega)) _)))).mono ?_
      rintro e w1 ⟨rfl, hb1⟩
      obtain ⟨hF, hR, hT⟩ := HA0.out _ (hb1.mono (by simp))
      have cF := cell_of hF 0
      go_wp2_with fail
      refine (KV'.out _ hT).mono ?_
      rintro e w2 ⟨rfl, hb2⟩
      have hF2 := heap_keepB hF hb2
      have hR2 := heap_keepB hR hb2
      have hT2 := Below_then hT hb2
      have cR2 := cell_of hR2 0
      have fR2 := frozen_of hR2
      have hR3 := heap_set _ _ 0 _ _ (.slice none 0 0) hR2
      go_wp2
      exact bodyPost_ret (v := .tuple #[.agg #[.slice none 0 0], .bool false]) (by simp [results, Try.results15, go_sem, cell_of hR3]) rfl ⟨_, rfl, OwnGr.nil _ _, hT2.setCell (by dsimp only; omega) _⟩
    · rw [hv] at KV
      have KV' := Lib.hid KV
      have hok : rvOk rows n = true := by simp [rvOk, hv, hf]
      have hrw : rvRows rows n = rows.take k ++ rows.drop (k + 1) := by simp only [rvRows, hok, hf, cond_true, Int.toNat_natCast, erase_eq]
      rw [hrw, hok]
      have ik : (k : Int) < (rows.length : Int) := by omega
      have ik2 : (k : Int) + 1 ≤ (rows.length : Int) := by omega
      have hkc : k ≤ c := by omega
      have hk1 : k + 1 ≤ rows.length := by omega
      have hk1c : k + 1 ≤ c := by omega
      have hwr : IntKind.i64.wrap ((k : Int) + 1) = (k : Int) + 1 := wraps_i64r _ (by omega) (by omega)
      have htn : ((k : Int) + 1).toNat = k + 1 := by omega
      have ik3 : (0 : Int) ≤ (k : Int) + 1 := by omega
      have h12 := regOk_len hv
      obtain ⟨b0, off0, e, -, -⟩ := hr.grants hg
      injection e with e
      subst e
      obtain ⟨adr, hif, hrd⟩ : ∃ adr : Addr, (if c = k + 1 then some (⟨b0, off0, none⟩ : Addr) else some ⟨b0, off0 + (k + 1) * 18, none⟩) = some adr ∧ ∀ w', RdR 18 w' (some ⟨b0, off0, none⟩) (gcs rows) → RdR 18 w' (some adr) (gcs (rows.drop (k + 1))) := by
        by_cases hc : c = k + 1
        · refine ⟨_, if_pos hc, fun w' h => ?_⟩
          rw [List.drop_eq_nil_of_le (by omega)]
          exact RdR.nil _ _ _
        · exact ⟨_, if_neg hc, fun w' h => h.dropR⟩
      have HRD := Lib.hid hrd
      clear hrd
      clear KF KV hf hv hg hok hrw hr
      clear hif HRD hwr htn ik3
      obtain ⟨m, hm⟩ : ∃ m, rows.length = k + 1 + m := ⟨rows.length - (k + 1), by omega⟩
      obtain ⟨rr, hrr⟩ : ∃ rr, rr = rows.take k ++ rows.drop (k + 1) := ⟨_, rfl⟩
      rw [← hrr]
      have KD : ∀ (B gg cc : Nat) (w' : World), OwnGr w' B (.slice (some ⟨gg, 0, none⟩) rows.length cc) rows → Calls Try.prog 31 #[.slice (some ⟨gg, 0, none⟩) rows.length cc, .int .i64 k, .int .i64 (k + 1)] w' (DelPost w' B gg cc rr) := fun B gg cc w' ho => by
        have := deleteG_any B gg cc k m rows w' ho hm (by omega)
        rw [← hm, ← hrr] at this
        exact this
      have KD' := Lib.hid KD
      clear KD hm hrr
      go_enter Try.func15, Try.ntmps15
      go_wp2_with fail
      refine (KF'.out _ (by (repeat (first | exact Below.refl _ _ | assumption | refine Below_al ?_ _ | refine Below.drew ?_ | refine Below_then ?_ (by assumption) | refine Below.setCell ?_ (by first | omega | (simp; done) | (simp; omega)) _)))).mono ?_
      rintro e w1 ⟨rfl, hb1⟩
      obtain ⟨hF, hR, hT⟩ := HA0.out _ (hb1.mono (by simp))
      have cF := cell_of hF 0
      go_wp2_with fail
      refine (KV'.out _ hT).mono ?_
      rintro e w2 ⟨rfl, hb2⟩
      have hF2 := heap_keepB hF hb2
      have hR2 := heap_keepB hR hb2
      have hT2 := Below_then hT hb2
      have cR2 := cell_of hR2 0
      have fR2 := frozen_of hR2
      have cF2 := cell_of hF2 0
      go_wp2_with fail
      refine (KC'.out _ hT2).mono ?_
      rintro e w3 ⟨v3, rfl, hO3, hb3⟩
      obtain ⟨g3, c3, cur3, rfl, hg3, hg3l, hh3, hcu⟩ := hO3.posG (by omega)
      have hR3 := heap_keepB hR2 hb3
      have hT3 := Below_then hT2 hb3
      have hz3 := hb3.size
      have hs2 := hb2.size
      have hs1 := hb1.size
      simp only [World.size_alloc] at hs1
      have hX := heap_hit w3 (.cells #[.slice (some ⟨g3, 0, none⟩) rows.length c3] 34 (0, 0)) _ rfl
      have cX := cell_of hX 0
      have hO4 := hO3.below (Below_al (Below.refl _ _) (.cells #[.slice (some ⟨g3, 0, none⟩) rows.length c3] 34))
      have hR4 := heap_keepA hR3 (.cells #[.slice (some ⟨g3, 0, none⟩) rows.length c3] 34)
      have hT4 := Below_al hT3 (.cells #[.slice (some ⟨g3, 0, none⟩) rows.length c3] 34)
      clear cF cF2 hF hF2 hR hT hO3 hh3 hcu
      go_wp2_with fail
      refine (KD'.out _ _ _ _ hO4).mono ?_
      rintro e w5 ⟨rfl, hO5, hg5⟩
      have hX5 := heap_keepG hX hg5 (fun e => by injection e with e; omega)
      have hR5 := heap_keepG hR4 hg5 (fun e => by injection e with e; omega)
      have hT5 := hT4.grown hg5 hT4.size (fun b hb => by injection hb with hb; omega)
      have cX5 := cell_of hX5 0
      have fX5 := frozen_of hX5
      have cR5 := cell_of hR5 0
      have fR5 := frozen_of hR5
      have hX6 := heap_set _ _ 0 _ _ (.slice (some ⟨g3, 0, none⟩) rr.length c3) hX5
      have hR6 := (heap_far w5 _ ⟨w3.heap.size, 0, none⟩ (.slice (some ⟨g3, 0, none⟩) rr.length c3) (by dsimp only; omega)).trans hR5
      have hT6 := hT5.setCell (p := ⟨w3.heap.size, 0, none⟩) (by dsimp only; omega) (.slice (some ⟨g3, 0, none⟩) rr.length c3)
      have hO6 := (hO5.base (show w.heap.size ≤ w2.heap.size by omega)).setOther ⟨w3.heap.size, 0, none⟩ (.slice (some ⟨g3, 0, none⟩) rr.length c3) (fun b hb => by injection hb with hb; dsimp only at hb ⊢; omega)
      have cX6 := cell_of hX6 0
      have cR6 := cell_of hR6 0
      have fR6 := frozen_of hR6
      have hR7 := heap_set _ _ 0 _ _ (.slice (some ⟨g3, 0, none⟩) rr.length c3) hR6
      have hO7 := hO6.setOther ⟨w.heap.size + 1, 0, none⟩ (.slice (some ⟨g3, 0, none⟩) rr.length c3) (fun b hb => by injection hb with hb; dsimp only at hb ⊢; omega)
      have hT7 := hT6.setCell (p := ⟨w.heap.size + 1, 0, none⟩) (by dsimp only; omega) (.slice (some ⟨g3, 0, none⟩) rr.length c3)
      clear hO4 hO5 hO6 hg5 hT4 hT5 hR4 hX cX cR2 fR2 KD'
      go_wp2
      exact bodyPost_ret (v := .tuple #[.agg #[.slice (some ⟨g3, 0, none⟩) rr.length c3], .bool true]) (by simp [results, Try.results15, go_sem, cell_of hR7]) rfl ⟨_, rfl, hO7, hT7⟩
set_option maxHeartbeats 8000000 in
set_option maxRecDepth 20000 in
theorem specRevokeGrant_any (ad : Addr) (c : Nat) (rows : List GrantD) (n : Int) (w : World) (hr : RdR 18 w (some ad) (gcs rows)) (hl : rows.length ≤ 1048576) (hs : ∀ g ∈ rows, g.s.size ≤ maxLen) (hcap : rows.length ≤ c) (hcm : c ≤ maxLen) : Calls Try.prog 14 #[.agg #[.slice (some ad) rows.length c], .int .i64 n] w (RgOk w (rvRows rows n) (rvOk rows n)) := by
  have KF := fun (w' : World) (hb : Below w.heap.size w w') => l16Find_any (some ad) c rows n w' (hr.below hb) hl
  have KV := fun (w' : World) (hb : Below w.heap.size w w') => l16Good_any (some ad) c rows w' (hr.below hb) hl hs
  have KC := fun (w' : World) (hb : Below w.heap.size w w') => specOwn_any ad c rows w' (hr.below hb) hl
  have HH := Lib.hid hr
  have KC' := Lib.hid KC
  have hA0 : ∀ w', Below (w.heap.size + 1 + 1) ((w.alloc (.cells #[.slice (some ad) rows.length c] 34)).alloc (.cells #[.slice none 0 0] 34)) w' → w'.heap[w.heap.size]? = some (.cells #[.slice (some ad) rows.length c] 34 (0, 0)) ∧ w'.heap[w.heap.size + 1]? = some (.cells #[.slice none 0 0] 34 (0, 0)) ∧ Below w.heap.size w w' := fun w' hb =>
      ⟨(hb.block _ (by omega)).trans (heap_keepA (heap_hit _ _ _ rfl) _), (hb.block _ (by omega)).trans (heap_hit _ _ _ (by simp)), Below.trans (by (repeat (first | exact Below.refl _ _ | assumption | refine Below_al ?_ _ | refine Below.drew ?_ | refine Below_then ?_ (by assumption) | refine Below.setCell ?_ (by first | omega | (simp; done) | (simp; omega)) _))) (hb.mono (by omega))⟩
  have HA0 := Lib.hid hA0
  clear KC hs hA0
  rcases findI_cases rows n with hf | ⟨k, g, hf, hk, hg⟩
  · rw [hf] at KF
    have e1 : rvRows rows n = [] := by simp [rvRows, rvOk, hf]
    have e2 : rvOk rows n = false := by simp [rvOk, hf]
    rw [e1, e2]
    have KF' := Lib.hid KF
    clear KF hf e1 e2 hr
    cases hv : regOk rows
    all_goals
      rw [hv] at KV
      have KV' := Lib.hid KV
      clear KV hv
      go_enter Try.func14, Try.ntmps14
      go_wp2_with fail
      refine (KF'.out _ (by (repeat (first | exact Below.refl _ _ | assumption | refine Below_al ?_ _ | refine Below.drew ?_ | refine Below_then ?_ (by assumption) | refine Below.setCell ?_ (by first | omega | (simp; done) | (simp; omega)) _)))).mono ?_
      rintro e w1 ⟨rfl, hb1⟩
      obtain ⟨hF, hR, hT⟩ := HA0.out _ (hb1.mono (by simp))
      have cF := cell_of hF 0
      go_wp2_with fail
      refine (KV'.out _ hT).mono ?_
      rintro e w2 ⟨rfl, hb2⟩
      have hF2 := heap_keepB hF hb2
      have hR2 := heap_keepB hR hb2
      have hT2 := Below_then hT hb2
      have cR2 := cell_of hR2 0
      have fR2 := frozen_of hR2
      have hR3 := heap_set _ _ 0 _ _ (.slice none 0 0) hR2
      go_wp2
      exact bodyPost_ret (v := .tuple #[.agg #[.slice none 0 0], .bool false]) (by simp [results, Try.results14, go_sem, cell_of hR3]) rfl ⟨_, rfl, OwnGr.nil _ _, hT2.setCell (by dsimp only; omega) _⟩
  · rw [hf] at KF
    have KF' := Lib.hid KF
    cases hv : regOk rows
    · rw [hv] at KV
      have e1 : rvRows rows n = [] := by simp [rvRows, rvOk, hv]
      have e2 : rvOk rows n = false := by simp [rvOk, hv]
      rw [e1, e2]
      have KV' := Lib.hid KV
      clear KF KV hf hv hg e1 e2 hr
      go_enter Try.func14, Try.ntmps14
      go_wp2_with fail
      refine (KF'.out _ (by (repeat (first | exact Below.refl _ _ | assumption | refine Below_al ?_ _ | refine Below.drew ?_ | refine Below_then ?_ (by assumption) | refine Below.setCell ?_ (by first | omega | (simp; done) | (simp; omega)) _)))).mono ?_
      rintro e w1 ⟨rfl, hb1⟩
      obtain ⟨hF, hR, hT⟩ := HA0.out _ (hb1.mono (by simp))
      have cF := cell_of hF 0
      go_wp2_with fail
      refine (KV'.out _ hT).mono ?_
      rintro e w2 ⟨rfl, hb2⟩
      have hF2 := heap_keepB hF hb2
      have hR2 := heap_keepB hR hb2
      have hT2 := Below_then hT hb2
      have cR2 := cell_of hR2 0
      have fR2 := frozen_of hR2
      have hR3 := heap_set _ _ 0 _ _ (.slice none 0 0) hR2
      go_wp2
      exact bodyPost_ret (v := .tuple #[.agg #[.slice none 0 0], .bool false]) (by simp [results, Try.results14, go_sem, cell_of hR3]) rfl ⟨_, rfl, OwnGr.nil _ _, hT2.setCell (by dsimp only; omega) _⟩
    · rw [hv] at KV
      have KV' := Lib.hid KV
      have hok : rvOk rows n = true := by simp [rvOk, hv, hf]
      have hrw : rvRows rows n = rows.take k ++ rows.drop (k + 1) := by simp only [rvRows, hok, hf, cond_true, Int.toNat_natCast, erase_eq]
      rw [hrw, hok]
      have ik : (k : Int) < (rows.length : Int) := by omega
      have ik2 : (k : Int) + 1 ≤ (rows.length : Int) := by omega
      have hkc : k ≤ c := by omega
      have hk1 : k + 1 ≤ rows.length := by omega
      have hk1c : k + 1 ≤ c := by omega
      have hwr : IntKind.i64.wrap ((k : Int) + 1) = (k : Int) + 1 := wraps_i64r _ (by omega) (by omega)
      have htn : ((k : Int) + 1).toNat = k + 1 := by omega
      have ik3 : (0 : Int) ≤ (k : Int) + 1 := by omega
      have h12 := regOk_len hv
      obtain ⟨b0, off0, e, -, -⟩ := hr.grants hg
      injection e with e
      subst e
      obtain ⟨adr, hif, hrd⟩ : ∃ adr : Addr, (if c = k + 1 then some (⟨b0, off0, none⟩ : Addr) else some ⟨b0, off0 + (k + 1) * 18, none⟩) = some adr ∧ ∀ w', RdR 18 w' (some ⟨b0, off0, none⟩) (gcs rows) → RdR 18 w' (some adr) (gcs (rows.drop (k + 1))) := by
        by_cases hc : c = k + 1
        · refine ⟨_, if_pos hc, fun w' h => ?_⟩
          rw [List.drop_eq_nil_of_le (by omega)]
          exact RdR.nil _ _ _
        · exact ⟨_, if_neg hc, fun w' h => h.dropR⟩
      have HRD := Lib.hid hrd
      clear hrd
      clear KF KV hf hv hg hok hrw hr
      go_enter Try.func14, Try.ntmps14
      go_wp2_with fail
      refine (KF'.out _ (by (repeat (first | exact Below.refl _ _ | assumption | refine Below_al ?_ _ | refine Below.drew ?_ | refine Below_then ?_ (by assumption) | refine Below.setCell ?_ (by first | omega | (simp; done) | (simp; omega)) _)))).mono ?_
      rintro e w1 ⟨rfl, hb1⟩
      obtain ⟨hF, hR, hT⟩ := HA0.out _ (hb1.mono (by simp))
      have cF := cell_of hF 0
      go_wp2_with fail
      refine (KV'.out _ hT).mono ?_
      rintro e w2 ⟨rfl, hb2⟩
      have hF2 := heap_keepB hF hb2
      have hR2 := heap_keepB hR hb2
      have hT2 := Below_then hT hb2
      have cR2 := cell_of hR2 0
      have fR2 := frozen_of hR2
      have cF2 := cell_of hF2 0
      have hlR := heap_lt hR2
      unfold maxLen at hcm
      go_wp2_with fail
      refine wp_region_noPanic ?_
      refine wp_region_held_drew (S := (fun w' => w'.cell? ⟨w.heap.size, 0, none⟩ = some (.slice (some ⟨b0, off0, none⟩) rows.length c : Value) ∧ Below w.heap.size w w')) (by kernel_rfl) ⟨cF2, hT2.drew⟩ (fun hHeld => ?_)
      refine wpAnyH_take (i := 1) (oi := _) (v := ?_) rfl (by kernel_rfl) (by kernel_rfl) (by kernel_rfl) (fun _ _ _ h => h) (Or.inl ⟨by rfl, ?_⟩) (by assumption) ?_
      rotate_left
      · intro w hSw; clear hSw; first | (go_simp; done) | (go_simp; with_reducible rfl)
      simp only [Act.put, List.getElem_toArray, List.getElem_cons_succ, List.getElem_cons_zero, List.setIfInBounds_toArray, List.set_cons_zero, List.set_cons_succ]
      refine wpAnyH_take (i := 2) (oi := _) (v := ?_) rfl (by kernel_rfl) (by kernel_rfl) (by kernel_rfl) (fun _ _ _ h => h) (Or.inl ⟨by rfl, ?_⟩) (by assumption) ?_
      rotate_left
      · intro w hSw; (try dsimp only at hSw); first | (go_simp; done) | (go_simp; with_reducible rfl)
      simp only [Act.put, List.getElem_toArray, List.getElem_cons_succ, List.getElem_cons_zero, List.setIfInBounds_toArray, List.set_cons_zero, List.set_cons_succ]
      refine wpAnyH_take (i := 3) (oi := _) (v := ?_) rfl (by kernel_rfl) (by kernel_rfl) (by kernel_rfl) (fun _ _ _ h => h) (Or.inl ⟨by rfl, ?_⟩) (by assumption) ?_
      rotate_left
      · intro w hSw; clear hSw; first | (go_simp; done) | (go_simp; with_reducible rfl)
      simp only [Act.put, List.getElem_toArray, List.getElem_cons_succ, List.getElem_cons_zero, List.setIfInBounds_toArray, List.set_cons_zero, List.set_cons_succ]
      refine wpAnyH_take (i := 4) (oi := _) (v := ?_) rfl (by kernel_rfl) (by kernel_rfl) (by kernel_rfl) (fun _ _ _ h => h) (Or.inl ⟨by rfl, ?_⟩) (by assumption) ?_
      rotate_left
      · intro w hSw; clear hSw; first | (go_simp; done) | (go_simp; with_reducible rfl)
      simp only [Act.put, List.getElem_toArray, List.getElem_cons_succ, List.getElem_cons_zero, List.setIfInBounds_toArray, List.set_cons_zero, List.set_cons_succ]
      refine wpAnyH_take (i := 6) (oi := _) (v := ?_) rfl (by kernel_rfl) (by kernel_rfl) (by kernel_rfl) (fun _ _ _ h => h) (Or.inl ⟨by rfl, ?_⟩) (by assumption) ?_
      rotate_left
      · intro w hSw; clear hSw; first | (go_simp; done) | (go_simp; with_reducible rfl)
      simp only [Act.put, List.getElem_toArray, List.getElem_cons_succ, List.getElem_cons_zero, List.setIfInBounds_toArray, List.set_cons_zero, List.set_cons_succ]
      refine wpAnyH_take (i := 7) (oi := _) (v := ?_) rfl (by kernel_rfl) (by kernel_rfl) (by kernel_rfl) (fun _ _ _ h => h) (Or.inl ⟨by rfl, ?_⟩) (by assumption) ?_
      rotate_left
      · intro w hSw; (try dsimp only at hSw); first | (go_simp; done) | (go_simp; with_reducible rfl)
      simp only [Act.put, List.getElem_toArray, List.getElem_cons_succ, List.getElem_cons_zero, List.setIfInBounds_toArray, List.set_cons_zero, List.set_cons_succ]
      refine wpAnyH_take (i := 8) (oi := _) (v := ?_) rfl (by kernel_rfl) (by kernel_rfl) (by kernel_rfl) (fun _ _ _ h => h) (Or.inl ⟨by rfl, ?_⟩) (by assumption) ?_
      rotate_left
      · intro w hSw; clear hSw; first | (go_simp; done) | (go_simp; with_reducible rfl)
      simp only [Act.put, List.getElem_toArray, List.getElem_cons_succ, List.getElem_cons_zero, List.setIfInBounds_toArray, List.set_cons_zero, List.set_cons_succ]
      refine wpAnyH_take (i := 9) (oi := _) (v := ?_) rfl (by kernel_rfl) (by kernel_rfl) (by kernel_rfl) (fun _ _ _ h => h) (Or.inl ⟨by rfl, ?_⟩) (by assumption) ?_
      rotate_left
      · intro w hSw; clear hSw; first | (go_simp; done) | (go_simp; with_reducible rfl)
      simp only [Act.put, List.getElem_toArray, List.getElem_cons_succ, List.getElem_cons_zero, List.setIfInBounds_toArray, List.set_cons_zero, List.set_cons_succ]
      refine wpAnyH_take (i := 10) (oi := _) (v := ?_) rfl (by kernel_rfl) (by kernel_rfl) (by kernel_rfl) (fun _ _ _ h => h) (Or.inl ⟨by rfl, ?_⟩) (by assumption) ?_
      rotate_left
      · intro w hSw; clear hSw; first | (go_simp; done) | (go_simp; with_reducible rfl)
      simp only [Act.put, List.getElem_toArray, List.getElem_cons_succ, List.getElem_cons_zero, List.setIfInBounds_toArray, List.set_cons_zero, List.set_cons_succ]
      refine wpAnyH_ready (rs := [0]) (by kernel_rfl) (by simp) ?_
      refine AllReadyH.cons (o := _) rfl (fun K hK => ?_) AllReadyH.nil
      go_simp
      refine hK.out _ _ ⟨keep_cell hHeld.1 (Below_al (Below.refl _ _) (.cells #[] 54 (0, 0))), Below_al hHeld.2 (.cells #[] 54 (0, 0))⟩ (fun hHeld => ?_)
      clear hK K
      try simp only [Act.put, List.getElem_toArray, List.getElem_cons_succ, List.getElem_cons_zero, List.setIfInBounds_toArray, List.set_cons_zero, List.set_cons_succ]
      have hRa : (w2.drew.alloc (.cells #[] 54 (0, 0))).heap[w.heap.size + 1]? = some (.cells #[.slice none 0 0] 34 (0, 0)) := heap_keepA (show w2.drew.heap[w.heap.size + 1]? = _ from hR2) (.cells #[] 54 (0, 0))
      have hO0 : OwnGr (w2.drew.alloc (.cells #[] 54 (0, 0))) w2.heap.size (.slice (some ⟨w2.heap.size, 0, none⟩) 0 0) [] := OwnGr.none0 w2.drew _ _ rfl (Nat.le_refl _)
      refine wpAnyH_ready (rs := [5]) (by kernel_rfl) (by simp) ?_
      refine AllReadyH.cons (o := _) rfl (fun K hK => ?_) AllReadyH.nil
      refine step_appGr rfl (.tmp 18) (.tmp 22) rfl w2.heap.size (.slice (some ⟨w2.heap.size, 0, none⟩) 0 0) [] (by first | rfl | simp [Act.eval, Act.put]) hO0 ⟨b0, off0, none⟩ k c (rows.take k) (by first | rfl | simp [Act.eval, Act.put]) (HH.out.below hHeld.2).takeR (by rw [List.length_take]; omega) (by simp) (by rw [List.length_take]; omega) (by simp) ?_
      intro v3 w3 h3 g3 b3 at3
      obtain ⟨A3, c3, rfl, -⟩ := h3.form
      have hR3 := (b3.block _ (by omega)).trans hRa
      refine hK.out _ _ ⟨(b3.cell (p := ⟨w.heap.size, 0, none⟩) (by dsimp only; omega)).trans hHeld.1, hHeld.2.trans (b3.mono (by omega))⟩ (fun hHeld => ?_)
      clear hK K
      try simp only [Act.put, List.getElem_toArray, List.getElem_cons_succ, List.getElem_cons_zero, List.setIfInBounds_toArray, List.set_cons_zero, List.set_cons_succ]
      refine wpAnyH_ready (rs := [11]) (by kernel_rfl) (by simp) ?_
      refine AllReadyH.cons (o := _) rfl (fun K hK => ?_) AllReadyH.nil
      refine step_appGr rfl (.tmp 23) (.tmp 28) rfl w2.heap.size _ ([] ++ rows.take k) (by first | rfl | simp [Act.eval, Act.put]) h3 adr (rows.length - (k + 1)) (c - (k + 1)) (rows.drop (k + 1)) (by first | rfl | simp [Act.eval, Act.put]) (HRD.out _ (HH.out.below hHeld.2)) (by rw [List.length_drop]) (by simp; omega) (by rw [List.length_drop]; omega) (by have := b3.size; simp only [World.size_alloc, World.size_drew] at this; omega) ?_
      intro v4 w4 h4 g4 b4 at4
      obtain ⟨A4, c4, rfl, -⟩ := h4.form
      have hR4 := (b4.block _ (by omega)).trans hR3
      refine hK.out _ _ ⟨(b4.cell (p := ⟨w.heap.size, 0, none⟩) (by dsimp only; omega)).trans hHeld.1, hHeld.2.trans (b4.mono (by omega))⟩ (fun hHeld => ?_)
      clear hK K
      try simp only [Act.put, List.getElem_toArray, List.getElem_cons_succ, List.getElem_cons_zero, List.setIfInBounds_toArray, List.set_cons_zero, List.set_cons_succ]
      refine wpAnyH_take (i := 12) (oi := _) (v := ?_) rfl (by kernel_rfl) (by kernel_rfl) (by kernel_rfl) (fun _ _ _ h => h) (Or.inl ⟨by rfl, ?_⟩) (by assumption) ?_
      rotate_left
      · intro w hSw; clear hSw; first | (go_simp; done) | (go_simp; with_reducible rfl)
      simp only [Act.put, List.getElem_toArray, List.getElem_cons_succ, List.getElem_cons_zero, List.setIfInBounds_toArray, List.set_cons_zero, List.set_cons_succ]
      have hT4 := hHeld.2
      have hRc := cell_of hR4 0
      have hRf := frozen_of hR4
      refine wpAnyH_ready (rs := [13]) (by kernel_rfl) (by simp) ?_
      refine AllReadyH.cons (o := _) rfl (fun K hK => ?_) AllReadyH.nil
      have h5 : OwnGr w4 w2.heap.size (.slice A4 (min k rows.length + (rows.length - (k + 1))) c4) (rows.take k ++ rows.drop (k + 1)) := by simpa using h4
      have hlt5 := h5.lt
      have hO6 := (h5.base (show w.heap.size ≤ w2.heap.size by omega)).setOther ⟨w.heap.size + 1, 0, none⟩ (.slice A4 (min k rows.length + (rows.length - (k + 1))) c4) (fun b hb => by have := (hlt5 b hb).1; dsimp only; omega)
      have hR6 := heap_set _ _ 0 _ _ (.slice A4 (min k rows.length + (rows.length - (k + 1))) c4) hR4
      have hT6 := hT4.setCell (p := ⟨w.heap.size + 1, 0, none⟩) (by dsimp only; omega) (.slice A4 (min k rows.length + (rows.length - (k + 1))) c4)
      go_simp
      refine hK.out _ _ ⟨by rw [World.cell?_of_block (heap_far _ _ _ _ (by dsimp only; omega))]; exact hHeld.1, hT6⟩ (fun hHeld => ?_)
      clear hK K
      try simp only [Act.put, List.getElem_toArray, List.getElem_cons_succ, List.getElem_cons_zero, List.setIfInBounds_toArray, List.set_cons_zero, List.set_cons_succ]
      refine wpAnyH_take (i := 14) (oi := _) (v := ?_) rfl (by kernel_rfl) (by kernel_rfl) (by kernel_rfl) (fun _ _ _ h => h) (Or.inl ⟨by rfl, ?_⟩) (by assumption) ?_
      rotate_left
      · intro w hSw; clear hSw; first | (go_simp; done) | (go_simp; with_reducible rfl)
      simp only [Act.put, List.getElem_toArray, List.getElem_cons_succ, List.getElem_cons_zero, List.setIfInBounds_toArray, List.set_cons_zero, List.set_cons_succ]
      refine wpAnyH_done (by kernel_rfl) ?_ _
      refine NoPanic.normal ?_
      go_wp2
      exact bodyPost_ret (v := .tuple #[.agg #[.slice A4 (min k rows.length + (rows.length - (k + 1))) c4], .bool true]) (by simp [results, Try.results14, go_sem, cell_of hR6]) rfl ⟨_, rfl, hO6, hT6⟩
end Go.Proofs.Ytnpehlghbfmbaaa
