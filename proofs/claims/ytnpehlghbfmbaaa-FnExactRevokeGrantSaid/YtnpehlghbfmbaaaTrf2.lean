/- Contracts: TransferGrant of both sides. -/
import Derived.Test.YtnpehlghbfmbaaaTrf
namespace Go.Proofs.Ytnpehlghbfmbaaa
open Go.ChangeShapes Go.WideShapes Go.ChangeAt Go.RowKit
set_option linter.unusedVariables false
set_option linter.unusedSimpArgs false
theorem OwnGr.rangeG {w : World} {B g c k : Nat} {rows : List GrantD} {x : GrantD} (h : OwnGr w B (.slice (some ⟨g, 0, none⟩) rows.length c) rows) (hx : rows[k]? = some x) : w.rangeAt g (k * 18) (gc x) := by
  obtain ⟨A, c', e, hr, -⟩ := h.form
  injection e with e1 _ _
  subst e1
  obtain ⟨b, off, e, h1, -⟩ := hr.grants hx
  injection e with e
  injection e with e1 e2
  subst e1 e2
  rwa [Nat.zero_add] at h1
theorem OwnGr.setG {w : World} {B g c k : Nat} {rows : List GrantD} {x : GrantD} (h : OwnGr w B (.slice (some ⟨g, 0, none⟩) rows.length c) rows) (hk : k < rows.length) :
    OwnGr (w.setCells g (k * 18) (gc x)) B (.slice (some ⟨g, 0, none⟩) rows.length c) (rows.set k x) := by
  obtain ⟨hl, ⟨e, -⟩ | ⟨g', c', cur, e, hB, hh, hnc, hcm, hcs, htk⟩⟩ := h
  · cases e
  · injection e with e1 _ e3
    injection e1 with e1
    injection e1 with e1
    subst e1 e3
    obtain ⟨y, hy⟩ := grant_at hk
    have hw := gcs_wid rows
    have hfl : (gcs rows).flatten.length = rows.length * 18 := by rw [flat_len hw, gcs_len]
    have hcur : cur.toList = (gcs rows).flatten ++ cur.toList.drop (rows.length * 18) := by rw [← htk, List.take_append_drop]
    have h1 := flat_split (gcs_at hy)
    have hp := flat_pre hw (k := k) (by rw [gcs_len]; omega)
    rw [h1, List.append_assoc, List.append_assoc] at hcur
    have hh2 : w.heap[g]? = some (.cells (((gcs rows).take k).flatten ++ (gc y ++ (((gcs rows).drop (k + 1)).flatten ++ cur.toList.drop (rows.length * 18)))).toArray 54 (0, 0)) := by
      rw [hh]
      congr 2
      apply Array.ext'
      rw [List.toList_toArray]
      exact hcur
    have h2 := heap_setCells (T := 54) (gc x) w _ (gc y) _ (by rw [gc_len, gc_len]) hh2
    rw [hp] at h2
    have h3 : gcs (rows.set k x) = (gcs rows).set k (gc x) := by simp [gcs, List.map_set]
    have hf2 : (gcs (rows.set k x)).flatten = ((gcs rows).take k).flatten ++ (gc x ++ ((gcs rows).drop (k + 1)).flatten) := by rw [h3, flat_set hw (by rw [gcs_len]; exact hk)]
    have hl2 : (gcs (rows.set k x)).flatten.length = rows.length * 18 := by rw [flat_len (gcs_wid _), gcs_len, List.length_set]
    unfold OwnGr
    rw [List.length_set]
    refine ⟨hl2, .inr ⟨g, c, _, rfl, hB, h2, hnc, hcm, ?_, ?_⟩⟩
    · have hlc : cur.toList.length = c * 18 := by simpa using hcs
      rw [hcur] at hlc
      rw [List.size_toArray]
      simp only [List.length_append, gc_len] at hlc ⊢
      omega
    · rw [List.toList_toArray, ← hl2, hf2]
      rw [show ∀ (a b c d : List Value), a ++ (b ++ (c ++ d)) = (a ++ (b ++ c)) ++ d from by intro a b c d; simp [List.append_assoc]]
      exact List.take_left
section
variable {ops : Array Oper} {rest : List Oper} {op : Oper} {a : Act} {w : World} {Q : Exit → Act → World → Prop}
theorem wp_setG (hgd : op.guard = none) (x y : Operand) (ho : op.op = .store 54 x y) (B g c k : Nat) (rows : List GrantD) (g' : GrantD) (h : OwnGr w B (.slice (some ⟨g, 0, none⟩) rows.length c) rows) (hk : k < rows.length) (o : Nat) (hx : a.eval x = .pointer (some ⟨g, o, none⟩)) (he : o = k * 18) (hy : a.eval y = .agg (gc g').toArray)
    (hK : ∀ w', OwnGr w' B (.slice (some ⟨g, 0, none⟩) rows.length c) (rows.set k g') → w.grownBy w' (some g) → wpList Try.prog ops Q rest (a.put op.dst undef) w') : wpList Try.prog ops Q (op :: rest) a w := by
  subst he
  refine wpList_store_mid hgd _ x y ho g (k * 18) (gc g').toArray hx hy ?_ (info_gc g') (all_oneCell_toArray (gc_one g')) (hK _ ?_ ?_)
  · obtain ⟨hl, ⟨e, -⟩ | ⟨g2, c', cur, e, hB, hh, hnc, hcm, hcs, htk⟩⟩ := h
    · cases e
    · injection e with e1 _ e3
      injection e1 with e1
      injection e1 with e1
      subst e1 e3
      have : (gc g').toArray.size = 18 := by rw [List.size_toArray, gc_len]
      exact block_there hh (by omega)
  · rw [List.toList_toArray]
    exact h.setG hk
  · rw [List.toList_toArray]
    exact grownBy_setCells _ _ (World.grownBy.refl _ _)
end
set_option maxHeartbeats 8000000 in
set_option maxRecDepth 20000 in
theorem implTransferGrant_any (ad : Addr) (c : Nat) (rows : List GrantD) (n : Int) (s : ByteArray) (w : World) (hr : RdR 18 w (some ad) (gcs rows)) (hl : rows.length ≤ 1048576) (hs : ∀ g ∈ rows, g.s.size ≤ maxLen) (hcap : rows.length ≤ c) (hcm : c ≤ maxLen) (hsz : s.size ≤ maxLen) : Calls Try.prog 17 #[.agg #[.slice (some ad) rows.length c], .int .i64 n, .string s] w (RgOk w (trfRows rows n s) (trfOk rows n s)) := by
  have KF := fun (w' : World) (hb : Below w.heap.size w w') => grantIn_any (some ad) c rows n w' (hr.below hb) hl
  have KV := fun (w' : World) (hb : Below w.heap.size w w') => IsValidRegister_any (some ad) c rows w' (hr.below hb) hl hs hcap hcm
  have KC := fun (w' : World) (hb : Below w.heap.size w w') => implClone_any ad c rows w' (hr.below hb) hl
  have KN := fun (w' : World) => l16Name_any s w' hsz
  have HS := Lib.hid hs
  have KC' := Lib.hid KC
  have hA0 : ∀ w', Below (w.heap.size + 1 + 1) ((w.alloc (.cells #[.slice (some ad) rows.length c] 34)).alloc (.cells #[.slice none 0 0] 34)) w' → w'.heap[w.heap.size]? = some (.cells #[.slice (some ad) rows.length c] 34 (0, 0)) ∧ w'.heap[w.heap.size + 1]? = some (.cells #[.slice none 0 0] 34 (0, 0)) ∧ Below w.heap.size w w' := fun w' hb =>
      ⟨(hb.block _ (by omega)).trans (heap_keepA (heap_hit _ _ _ rfl) _), (hb.block _ (by omega)).trans (heap_hit _ _ _ (by simp)), Below.trans (by (repeat (first | exact Below.refl _ _ | assumption | refine Below_al ?_ _ | refine Below.drew ?_ | refine Below_then ?_ (by assumption) | refine Below.setCell ?_ (by first | omega | (simp; done) | (simp; omega)) _))) (hb.mono (by omega))⟩
  have HA0 := Lib.hid hA0
  clear KC hs hA0
  rcases findI_cases rows n with hf | ⟨k, g, hf, hk, hg⟩
  · rw [hf] at KF
    have e1 : trfRows rows n s = [] := by simp [trfRows, trfOk, hf]
    have e2 : trfOk rows n s = false := by simp [trfOk, hf]
    rw [e1, e2]
    have KF' := Lib.hid KF
    clear KF hf e1 e2
    cases hv : regOk rows
    all_goals
      rw [hv] at KV
      have KV' := Lib.hid KV
      clear KV hv
      go_enter Try.func17, Try.ntmps17
      go_wp2_with fail
      refine (KF'.out _ (by (repeat (first | exact Below.refl _ _ | assumption | refine Below_al ?_ _ | refine Below.drew ?_ | refine Below_then ?_ (by assumption) | refine Below.setCell ?_ (by first | omega | (simp; done) | (simp; omega)) _)))).mono ?_
      rintro e w1 ⟨rfl, hb1⟩
      obtain ⟨hF, hR, hT⟩ := HA0.out _ (hb1.mono (by simp))
      have cF := cell_of hF 0
      go_wp2_with fail
      refine (KV'.out _ hT).mono ?_
      rintro e w2 ⟨rfl, hb2⟩
      have hF2 := heap_keepB hF hb2
      have hR2 := heap_keepB hR hb2
      have hT2 := Below_then hT hb2
      have cR2 := cell_of hR2 0
      have fR2 := frozen_of hR2
      have hR3 := heap_set _ _ 0 _ _ (.slice none 0 0) hR2
      go_wp2
      exact bodyPost_ret (v := .tuple #[.agg #[.slice none 0 0], .bool false]) (by simp [results, Try.results17, go_sem, cell_of hR3]) rfl ⟨_, rfl, OwnGr.nil _ _, hT2.setCell (by dsimp only; omega) _⟩
  · rw [hf] at KF
    have KF' := Lib.hid KF
    cases hv : regOk rows
    · rw [hv] at KV
      have e1 : trfRows rows n s = [] := by simp [trfRows, trfOk, hv]
      have e2 : trfOk rows n s = false := by simp [trfOk, hv]
      rw [e1, e2]
      have KV' := Lib.hid KV
      clear KF KV hf hv hg e1 e2
      go_enter Try.func17, Try.ntmps17
      go_wp2_with fail
      refine (KF'.out _ (by (repeat (first | exact Below.refl _ _ | assumption | refine Below_al ?_ _ | refine Below.drew ?_ | refine Below_then ?_ (by assumption) | refine Below.setCell ?_ (by first | omega | (simp; done) | (simp; omega)) _)))).mono ?_
      rintro e w1 ⟨rfl, hb1⟩
      obtain ⟨hF, hR, hT⟩ := HA0.out _ (hb1.mono (by simp))
      have cF := cell_of hF 0
      go_wp2_with fail
      refine (KV'.out _ hT).mono ?_
      rintro e w2 ⟨rfl, hb2⟩
      have hF2 := heap_keepB hF hb2
      have hR2 := heap_keepB hR hb2
      have hT2 := Below_then hT hb2
      have cR2 := cell_of hR2 0
      have fR2 := frozen_of hR2
      have hR3 := heap_set _ _ 0 _ _ (.slice none 0 0) hR2
      go_wp2
      exact bodyPost_ret (v := .tuple #[.agg #[.slice none 0 0], .bool false]) (by simp [results, Try.results17, go_sem, cell_of hR3]) rfl ⟨_, rfl, OwnGr.nil _ _, hT2.setCell (by dsimp only; omega) _⟩
    · rw [hv] at KV
      have KV' := Lib.hid KV
      have hne := regOk_renamed s hv hk hg
      have hok : trfOk rows n s = nameOk s := by simp [trfOk, hv, hf]
      have hall : trfAll rows n s = rows.set k (renamed s g) := by simp [trfAll, hf, hg]
      have hrw : trfRows rows n s = bif nameOk s then rows.set k (renamed s g) else [] := by rw [trfRows, hok, hall]
      rw [hrw, hok]
      obtain ⟨x, hx⟩ : ∃ x, x = nameOk s := ⟨_, rfl⟩
      rw [← hx] at hne ⊢
      simp only [← hx] at KN
      have HG := Lib.hid hg
      have hsz2 : ∀ x ∈ rows.set k (renamed s g), (GrantD.s x).size ≤ maxLen := fun x hx => by
        rcases List.mem_or_eq_of_mem_set hx with h | h
        · exact HS.out x h
        · rw [h]; exact hsz
      have HSZ2 := Lib.hid hsz2
      have HNE := Lib.hid hne
      have ik : (k : Int) < (rows.length : Int) := by omega
      have h12 := regOk_len hv
      have KN' := Lib.hid KN
      clear KF KV hf hv hg hok hall hrw hsz2 hne hsz hx KN
      have KX : ∀ (B : Nat) (gg cc : Nat) (w' : World), OwnGr w' B (.slice (some ⟨gg, 0, none⟩) rows.length cc) (rows.set k (renamed s g)) → Calls Try.prog 33 #[.agg #[.slice (some ⟨gg, 0, none⟩) rows.length cc]] w' fun e w'' => e = .returned (.tuple #[.agg #[bif x then .slice (some ⟨gg, 0, none⟩) rows.length cc else .slice none 0 0], .bool x]) ∧ Below w'.heap.size w' w'' := fun B gg cc w' ho => by
        obtain ⟨A', c', e, hr', hc1, hc2⟩ := ho.form
        have := validRegister_any A' c' (rows.set k (renamed s g)) w' hr' (by rw [List.length_set]; omega) HSZ2.out hc1 hc2
        rw [← e, HNE.out] at this
        exact this
      have KX' := Lib.hid KX
      clear KX
      go_enter Try.func17, Try.ntmps17
      go_wp2_with fail
      refine (KF'.out _ (by (repeat (first | exact Below.refl _ _ | assumption | refine Below_al ?_ _ | refine Below.drew ?_ | refine Below_then ?_ (by assumption) | refine Below.setCell ?_ (by first | omega | (simp; done) | (simp; omega)) _)))).mono ?_
      rintro e w1 ⟨rfl, hb1⟩
      obtain ⟨hF, hR, hT⟩ := HA0.out _ (hb1.mono (by simp))
      have cF := cell_of hF 0
      go_wp2_with fail
      refine (KV'.out _ hT).mono ?_
      rintro e w2 ⟨rfl, hb2⟩
      have hF2 := heap_keepB hF hb2
      have hR2 := heap_keepB hR hb2
      have hT2 := Below_then hT hb2
      have cR2 := cell_of hR2 0
      have fR2 := frozen_of hR2
      have cF2 := cell_of hF2 0
      go_wp2_with fail
      refine (KC'.out _ hT2).mono ?_
      rintro e w3 ⟨v3, rfl, hO3, hb3⟩
      obtain ⟨g3, c3, cur3, rfl, hg3, hg3l, hh3, hcu⟩ := hO3.posG (by omega)
      have hR3 := heap_keepB hR2 hb3
      have hT3 := Below_then hT2 hb3
      have hz3 := hb3.size
      have hs2 := hb2.size
      have hs1 := hb1.size
      simp only [World.size_alloc] at hs1
      have hX := heap_hit w3 (.cells #[.slice (some ⟨g3, 0, none⟩) rows.length c3] 34 (0, 0)) _ rfl
      have cX := cell_of hX 0
      have hh3a := heap_keepA hh3 (.cells #[.slice (some ⟨g3, 0, none⟩) rows.length c3] 34)
      have cc3 : ((w3.alloc (.cells #[.slice (some ⟨g3, 0, none⟩) rows.length c3] 34)).cell? ⟨g3, k * 18 + 1, none⟩).isSome = true := by rw [cell_of hh3a, Array.getElem?_eq_getElem (by omega)]; rfl
      obtain ⟨u3, hu3⟩ := Option.isSome_iff_exists.1 cc3
      have fc3 := frozen_of hh3a (k * 18 + 1)
      have hO4 := (hO3.name s hk HG.out).below (Below_al (Below.refl _ _) (.cells #[.slice (some ⟨g3, 0, none⟩) rows.length c3] 34))
      have hR4 := heap_keepA ((heap_far w3 _ ⟨g3, k * 18 + 1, none⟩ (.string s) (by dsimp only; omega)).trans hR3) (.cells #[.slice (some ⟨g3, 0, none⟩) rows.length c3] 34)
      have hT4 := Below_al (hT3.setCell (p := ⟨g3, k * 18 + 1, none⟩) (by dsimp only; omega) (.string s)) (.cells #[.slice (some ⟨g3, 0, none⟩) rows.length c3] 34)
      clear cF cF2 cc3 hF hF2 hR hT
      go_wp2_with fail
      refine (KX'.out _ _ _ _ (hO4.base (show w.heap.size ≤ w2.heap.size by omega))).mono ?_
      rintro e w5 ⟨rfl, hb5⟩
      have hR5 := heap_keepB hR4 hb5
      have hT5 := Below_then hT4 hb5
      have hO5 := (hO4.below hb5).base (show w.heap.size ≤ w2.heap.size by omega)
      have cR5 := cell_of hR5 0
      have fR5 := frozen_of hR5
      clear hb5 hO4 hR4 hT4 hX cX cR2 fR2 KX' hO3 HNE
      cases x
      · have hR6 := heap_set _ _ 0 _ _ (.slice none 0 0) hR5
        go_wp2
        exact bodyPost_ret (v := .tuple #[.agg #[.slice none 0 0], .bool false]) (by simp [results, Try.results17, go_sem, cell_of hR6]) rfl ⟨_, rfl, OwnGr.nil _ _, hT5.setCell (by dsimp only; omega) _⟩
      · have hR6 := heap_set _ _ 0 _ _ (.slice (some ⟨g3, 0, none⟩) rows.length c3) hR5
        have hO6 := hO5.setOther ⟨w.heap.size + 1, 0, none⟩ (.slice (some ⟨g3, 0, none⟩) rows.length c3) (fun b hb => by injection hb with hb; dsimp only at hb ⊢; omega)
        go_wp2
        exact bodyPost_ret (v := .tuple #[.agg #[.slice (some ⟨g3, 0, none⟩) rows.length c3], .bool true]) (by simp [results, Try.results17, go_sem, cell_of hR6]) rfl ⟨_, rfl, hO6, hT5.setCell (by dsimp only; omega) _⟩
set_option maxHeartbeats 8000000 in
set_option maxRecDepth 20000 in
theorem specTransferGrant_any (ad : Addr) (c : Nat) (rows : List GrantD) (n : Int) (s : ByteArray) (w : World) (hr : RdR 18 w (some ad) (gcs rows)) (hl : rows.length ≤ 1048576) (hs : ∀ g ∈ rows, g.s.size ≤ maxLen) (hcap : rows.length ≤ c) (hcm : c ≤ maxLen) (hsz : s.size ≤ maxLen) : Calls Try.prog 16 #[.agg #[.slice (some ad) rows.length c], .int .i64 n, .string s] w (RgOk w (trfRows rows n s) (trfOk rows n s)) := by
  have KF := fun (w' : World) (hb : Below w.heap.size w w') => l16Find_any (some ad) c rows n w' (hr.below hb) hl
  have KV := fun (w' : World) (hb : Below w.heap.size w w') => l16Good_any (some ad) c rows w' (hr.below hb) hl hs
  have KC := fun (w' : World) (hb : Below w.heap.size w w') => specOwn_any ad c rows w' (hr.below hb) hl
  have KN := fun (w' : World) => l16Name_any s w' hsz
  have HS := Lib.hid hs
  have KC' := Lib.hid KC
  have hA0 : ∀ w', Below (w.heap.size + 1 + 1) ((w.alloc (.cells #[.slice (some ad) rows.length c] 34)).alloc (.cells #[.slice none 0 0] 34)) w' → w'.heap[w.heap.size]? = some (.cells #[.slice (some ad) rows.length c] 34 (0, 0)) ∧ w'.heap[w.heap.size + 1]? = some (.cells #[.slice none 0 0] 34 (0, 0)) ∧ Below w.heap.size w w' := fun w' hb =>
      ⟨(hb.block _ (by omega)).trans (heap_keepA (heap_hit _ _ _ rfl) _), (hb.block _ (by omega)).trans (heap_hit _ _ _ (by simp)), Below.trans (by (repeat (first | exact Below.refl _ _ | assumption | refine Below_al ?_ _ | refine Below.drew ?_ | refine Below_then ?_ (by assumption) | refine Below.setCell ?_ (by first | omega | (simp; done) | (simp; omega)) _))) (hb.mono (by omega))⟩
  have HA0 := Lib.hid hA0
  clear KC hs hA0
  rcases findI_cases rows n with hf | ⟨k, g, hf, hk, hg⟩
  · rw [hf] at KF
    have e1 : trfRows rows n s = [] := by simp [trfRows, trfOk, hf]
    have e2 : trfOk rows n s = false := by simp [trfOk, hf]
    rw [e1, e2]
    have KF' := Lib.hid KF
    clear KF hf e1 e2
    cases hv : regOk rows
    all_goals
      rw [hv] at KV
      have KV' := Lib.hid KV
      clear KV hv
      go_enter Try.func16, Try.ntmps16
      go_wp2_with fail
      refine (KF'.out _ (by (repeat (first | exact Below.refl _ _ | assumption | refine Below_al ?_ _ | refine Below.drew ?_ | refine Below_then ?_ (by assumption) | refine Below.setCell ?_ (by first | omega | (simp; done) | (simp; omega)) _)))).mono ?_
      rintro e w1 ⟨rfl, hb1⟩
      obtain ⟨hF, hR, hT⟩ := HA0.out _ (hb1.mono (by simp))
      have cF := cell_of hF 0
      go_wp2_with fail
      refine (KV'.out _ hT).mono ?_
      rintro e w2 ⟨rfl, hb2⟩
      have hF2 := heap_keepB hF hb2
      have hR2 := heap_keepB hR hb2
      have hT2 := Below_then hT hb2
      have cR2 := cell_of hR2 0
      have fR2 := frozen_of hR2
      have hR3 := heap_set _ _ 0 _ _ (.slice none 0 0) hR2
      go_wp2
      exact bodyPost_ret (v := .tuple #[.agg #[.slice none 0 0], .bool false]) (by simp [results, Try.results16, go_sem, cell_of hR3]) rfl ⟨_, rfl, OwnGr.nil _ _, hT2.setCell (by dsimp only; omega) _⟩
  · rw [hf] at KF
    have KF' := Lib.hid KF
    cases hv : regOk rows
    · rw [hv] at KV
      have e1 : trfRows rows n s = [] := by simp [trfRows, trfOk, hv]
      have e2 : trfOk rows n s = false := by simp [trfOk, hv]
      rw [e1, e2]
      have KV' := Lib.hid KV
      clear KF KV hf hv hg e1 e2
      go_enter Try.func16, Try.ntmps16
      go_wp2_with fail
      refine (KF'.out _ (by (repeat (first | exact Below.refl _ _ | assumption | refine Below_al ?_ _ | refine Below.drew ?_ | refine Below_then ?_ (by assumption) | refine Below.setCell ?_ (by first | omega | (simp; done) | (simp; omega)) _)))).mono ?_
      rintro e w1 ⟨rfl, hb1⟩
      obtain ⟨hF, hR, hT⟩ := HA0.out _ (hb1.mono (by simp))
      have cF := cell_of hF 0
      go_wp2_with fail
      refine (KV'.out _ hT).mono ?_
      rintro e w2 ⟨rfl, hb2⟩
      have hF2 := heap_keepB hF hb2
      have hR2 := heap_keepB hR hb2
      have hT2 := Below_then hT hb2
      have cR2 := cell_of hR2 0
      have fR2 := frozen_of hR2
      have hR3 := heap_set _ _ 0 _ _ (.slice none 0 0) hR2
      go_wp2
      exact bodyPost_ret (v := .tuple #[.agg #[.slice none 0 0], .bool false]) (by simp [results, Try.results16, go_sem, cell_of hR3]) rfl ⟨_, rfl, OwnGr.nil _ _, hT2.setCell (by dsimp only; omega) _⟩
    · rw [hv] at KV
      have KV' := Lib.hid KV
      have hne := regOk_renamed s hv hk hg
      have hok : trfOk rows n s = nameOk s := by simp [trfOk, hv, hf]
      have hall : trfAll rows n s = rows.set k (renamed s g) := by simp [trfAll, hf, hg]
      have hrw : trfRows rows n s = bif nameOk s then rows.set k (renamed s g) else [] := by rw [trfRows, hok, hall]
      rw [hrw, hok]
      obtain ⟨x, hx⟩ : ∃ x, x = nameOk s := ⟨_, rfl⟩
      rw [← hx] at hne ⊢
      simp only [← hx] at KN
      have HG := Lib.hid hg
      have hsz2 : ∀ x ∈ rows.set k (renamed s g), (GrantD.s x).size ≤ maxLen := fun x hx => by
        rcases List.mem_or_eq_of_mem_set hx with h | h
        · exact HS.out x h
        · rw [h]; exact hsz
      have HSZ2 := Lib.hid hsz2
      have HNE := Lib.hid hne
      have ik : (k : Int) < (rows.length : Int) := by omega
      have h12 := regOk_len hv
      have KN' := Lib.hid KN
      clear KF KV hf hv hg hok hall hrw hsz2 hne hsz hx KN
      cases x
      · go_enter Try.func16, Try.ntmps16
        go_wp2_with fail
        refine (KF'.out _ (by (repeat (first | exact Below.refl _ _ | assumption | refine Below_al ?_ _ | refine Below.drew ?_ | refine Below_then ?_ (by assumption) | refine Below.setCell ?_ (by first | omega | (simp; done) | (simp; omega)) _)))).mono ?_
        rintro e w1 ⟨rfl, hb1⟩
        obtain ⟨hF, hR, hT⟩ := HA0.out _ (hb1.mono (by simp))
        have cF := cell_of hF 0
        go_wp2_with fail
        refine (KV'.out _ hT).mono ?_
        rintro e w2 ⟨rfl, hb2⟩
        have hF2 := heap_keepB hF hb2
        have hR2 := heap_keepB hR hb2
        have hT2 := Below_then hT hb2
        have cR2 := cell_of hR2 0
        have fR2 := frozen_of hR2
        go_wp2_with fail
        refine (KN'.out _).mono ?_
        rintro e w2' ⟨rfl, hb2'⟩
        replace hF2 := heap_keepB hF2 hb2'
        replace hR2 := heap_keepB hR2 hb2'
        replace hT2 := Below_then hT2 hb2'
        replace cR2 := cell_of hR2 0
        replace fR2 := frozen_of hR2
        have hR3 := heap_set _ _ 0 _ _ (.slice none 0 0) hR2
        go_wp2
        exact bodyPost_ret (v := .tuple #[.agg #[.slice none 0 0], .bool false]) (by simp [results, Try.results16, go_sem, cell_of hR3]) rfl ⟨_, rfl, OwnGr.nil _ _, hT2.setCell (by dsimp only; omega) _⟩
      · go_enter Try.func16, Try.ntmps16
        go_wp2_with fail
        refine (KF'.out _ (by (repeat (first | exact Below.refl _ _ | assumption | refine Below_al ?_ _ | refine Below.drew ?_ | refine Below_then ?_ (by assumption) | refine Below.setCell ?_ (by first | omega | (simp; done) | (simp; omega)) _)))).mono ?_
        rintro e w1 ⟨rfl, hb1⟩
        obtain ⟨hF, hR, hT⟩ := HA0.out _ (hb1.mono (by simp))
        have cF := cell_of hF 0
        go_wp2_with fail
        refine (KV'.out _ hT).mono ?_
        rintro e w2 ⟨rfl, hb2⟩
        have hF2 := heap_keepB hF hb2
        have hR2 := heap_keepB hR hb2
        have hT2 := Below_then hT hb2
        have cR2 := cell_of hR2 0
        have fR2 := frozen_of hR2
        go_wp2_with fail
        refine (KN'.out _).mono ?_
        rintro e w2' ⟨rfl, hb2'⟩
        replace hF2 := heap_keepB hF2 hb2'
        replace hR2 := heap_keepB hR2 hb2'
        replace hT2 := Below_then hT2 hb2'
        have cF2 := cell_of hF2 0
        have hs2' := hb2'.size
        go_wp2_with fail
        refine (KC'.out _ hT2).mono ?_
        rintro e w3 ⟨v3, rfl, hO3, hb3⟩
        obtain ⟨g3, c3, cur3, rfl, hg3, hg3l, hh3, hcu⟩ := hO3.posG (by omega)
        have hR3 := heap_keepB hR2 hb3
        have hT3 := Below_then hT2 hb3
        have hz3 := hb3.size
        have hs2 := hb2.size
        have hs1 := hb1.size
        simp only [World.size_alloc] at hs1
        have hX := heap_hit w3 (.cells #[.slice (some ⟨g3, 0, none⟩) rows.length c3] 34 (0, 0)) _ rfl
        have cX := cell_of hX 0
        have hO4 := hO3.below (Below_al (Below.refl _ _) (.cells #[.slice (some ⟨g3, 0, none⟩) rows.length c3] 34))
        have hR4 := heap_keepA hR3 (.cells #[.slice (some ⟨g3, 0, none⟩) rows.length c3] 34)
        have hT4 := Below_al hT3 (.cells #[.slice (some ⟨g3, 0, none⟩) rows.length c3] 34)
        have hrg := hO4.rangeG HG.out
        clear cF cF2 hF hF2 hR hT hO3
        go_wp2_with (first | (refine ldG rfl _ rfl g3 (k * 18) rfl g hrg ?_) | (refine stG rfl _ _ rfl (w3.heap.size + 1) rfl g rfl z18 (heap_hit _ _ _ (by simp)) rfl ?_; intro wn hn1 hn2 hn3 hn4; have hnc := (gblk_cells hn1).2.1; have hnf := frozen_of hn1; have hbn := hn3 (w3.alloc (.cells #[.slice (some ⟨g3, 0, none⟩) rows.length c3] 34)).heap.size (w3.alloc (.cells #[.slice (some ⟨g3, 0, none⟩) rows.length c3] 34)) (by simp) (Below_al (Below.refl _ _) _); have hOs := ((hO4.below hbn).base (show w.heap.size ≤ w2'.heap.size by omega)).setOther ⟨w3.heap.size + 1, 1, none⟩ (.string s) (fun b hb => by injection hb with hb; dsimp only at hb ⊢; omega); have hBs : (wn.setCell ⟨w3.heap.size + 1, 1, none⟩ (.string s)).heap[w3.heap.size + 1]? = some (.cells (gc (renamed s g)).toArray 54 (0, 0)) := heap_set _ _ _ _ _ _ hn1; have hXs := (heap_far wn _ ⟨w3.heap.size + 1, 1, none⟩ (.string s) (by dsimp only; omega)).trans (heap_keepB hX hbn); have hRs := (heap_far wn _ ⟨w3.heap.size + 1, 1, none⟩ (.string s) (by dsimp only; omega)).trans (heap_keepB hR4 hbn); have hTs := (Below_then hT4 hbn).setCell (p := ⟨w3.heap.size + 1, 1, none⟩) (by dsimp only; omega) (.string s); have cXs := cell_of hXs 0) | (refine ldG rfl _ rfl (w3.heap.size + 1) 0 rfl (renamed s g) (rangeAt_blk hBs) ?_) | (refine wp_setG rfl _ _ rfl w.heap.size g3 c3 k rows (renamed s g) hOs hk _ rfl (by omega) rfl ?_; intro wm hOm hgm; have hXm := heap_keepG hXs hgm (fun e => by injection e with e; omega); have hRm := heap_keepG hRs hgm (fun e => by injection e with e; omega); have hTm := hTs.grown hgm hTs.size (fun b hb => by injection hb with hb; omega); have cXm := cell_of hXm 0; have cRm := cell_of hRm 0; have fRm := frozen_of hRm) | fail)
        have hR6 := heap_set _ _ 0 _ _ (.slice (some ⟨g3, 0, none⟩) rows.length c3) hRm
        have hO6 := hOm.setOther ⟨w.heap.size + 1, 0, none⟩ (.slice (some ⟨g3, 0, none⟩) rows.length c3) (fun b hb => by injection hb with hb; dsimp only at hb ⊢; omega)
        exact bodyPost_ret (v := .tuple #[.agg #[.slice (some ⟨g3, 0, none⟩) rows.length c3], .bool true]) (by simp [results, Try.results16, go_sem, cell_of hR6]) rfl ⟨_, rfl, hO6, hTm.setCell (by dsimp only; omega) _⟩
end Go.Proofs.Ytnpehlghbfmbaaa
