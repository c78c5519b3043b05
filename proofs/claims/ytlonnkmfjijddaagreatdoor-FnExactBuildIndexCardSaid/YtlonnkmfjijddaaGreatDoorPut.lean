/- Contracts: l17Put. -/
import Derived.Test.YtlonnkmfjijddaaGreatDoorFeat1
import Derived.Test.YtlonnkmfjijddaaGreatDoorInts
namespace Go.Proofs.YtlonnkmfjijddaaGreatDoor
open Go.ChangeShapes Go.WideShapes Go.ChangeAt Go.RowKit
set_option linter.unusedVariables false
set_option linter.unusedSimpArgs false
theorem RdS.take {w : World} {A : Option Addr} {zs : List ByteArray} (h : RdS w A zs) (k : Nat) : RdS w A (zs.take k) := by
  rcases h with h | ⟨b, off, rfl, hc⟩
  · exact .inl (by rw [show zs = [] from List.map_eq_nil_iff.1 h]; simp [sv])
  · refine .inr ⟨b, off, rfl, fun i hi => ?_⟩
    rw [sv_len, List.length_take] at hi
    rw [hc i (by rw [sv_len]; omega), sv_get, sv_get]
    simp
theorem RdS.drop {w : World} {b off : Nat} {zs : List ByteArray} (h : RdS w (some ⟨b, off, none⟩) zs) (k : Nat) : RdS w (some ⟨b, off + k, none⟩) (zs.drop k) := by
  rcases h with h | ⟨b', off', e, hc⟩
  · exact .inl (by rw [show zs = [] from List.map_eq_nil_iff.1 h]; simp [sv])
  · injection e with e
    injection e with e1 e2
    subst e1 e2
    refine .inr ⟨b, off + k, rfl, fun i hi => ?_⟩
    rw [sv_len, List.length_drop] at hi
    rw [Nat.add_assoc, hc (k + i) (by rw [sv_len]; omega), sv_get, sv_get]
    simp
theorem RdS.one {w : World} {b : Nat} {s : ByteArray} (h : w.cell? ⟨b, 0, none⟩ = some (.string s)) : RdS w (some ⟨b, 0, none⟩) [s] := .inr ⟨b, 0, rfl, fun i hi => by
  obtain rfl : i = 0 := by simpa [sv] using hi
  exact h⟩
theorem OwnS.nonnil {w : World} {B : Nat} {T : TypeId} {v : Value} {zs : List ByteArray} (h : OwnS w B T v zs) (hn : v ≠ .slice none 0 0) : ∃ g c, v = .slice (some ⟨g, 0, none⟩) zs.length c := by
  obtain ⟨hl, ⟨h1, -⟩ | ⟨g, cap, cur, rfl, hB, hh, h1, h2, hs, ht⟩⟩ := h
  · exact absurd h1 hn
  · exact ⟨g, cap, rfl⟩
theorem OwnS.some {w : World} {B g c : Nat} {T : TypeId} {zs : List ByteArray} (h : OwnS w B T (.slice (some ⟨g, 0, none⟩) zs.length c) zs) : zs.length ≤ c ∧ c ≤ maxLen ∧ RdS w (some ⟨g, 0, none⟩) zs := by
  obtain ⟨A, c', e, hr⟩ := h.form
  injection e with e1 _ e2
  subst e1 e2
  obtain ⟨hl, ⟨h1, -⟩ | ⟨g', cap, cur, e, hB, hh, h1, h2, hs, ht⟩⟩ := h
  · cases h1
  · injection e with e1 e2 e3
    subst e3
    exact ⟨h1, h2, hr⟩
/-- append of several, as one step of a region that draws. -/
theorem step_appM {ops : Array Oper} {o : Oper} {a : Act} {w : World} {K : Act → World → Prop} {Q : Exit → Act → World → Prop} {E : Prop} (hgd : o.guard = none) (s x : Operand) (ho : o.op = .call { callee := .builtin .append, args := #[s, x], argTypes := #[40, 40] })
    (B : Nat) (v : Value) (zs : List ByteArray) (hs : a.eval s = v) (hown : OwnS w B 9 v zs) (ad : Addr) (m c : Nat) (zs2 : List ByteArray) (hx : a.eval x = .slice (some ad) m c) (h2 : RdS w (some ad) zs2) (hm : m = zs2.length)
    (hl : zs.length ≤ 1048576) (hl2 : zs2.length ≤ 1048576) (hB : B ≤ w.heap.size)
    (h : ∀ v' w', OwnS w' B 9 v' (zs ++ zs2) → (v' = .slice none 0 0 ↔ v = .slice none 0 0 ∧ m = 0) → w.grownBy w' v.ownBlock → Below B w w' → (v'.ownBlock = v.ownBlock ∨ v'.ownBlock = some w.heap.size) → K (a.put o.dst v') w') :
    if Region.wanted o (yielded ops a.tmps) = true then Oper.wp Tryz.prog o a w K Q else E := by
  have hw : Region.wanted o (yielded ops a.tmps) = true := by simp [Region.wanted, hgd]
  rw [if_pos hw]
  subst hm
  obtain ⟨i0, hi, hz0, hz1, hz2⟩ := info_parts info_str
  obtain ⟨v', w', hr, h1, hg, hn, h3⟩ := run_append_own_at (P := Tryz.prog) w B 40 o.type 9 i0 (.string ⟨#[]⟩) 1 16 Tryz.underlying40 hi hz0 hz1 hz2 rfl (by decide) v zs.length (sv zs) hown ad zs2.length c (sv zs2) (by rw [sv_len, Nat.mul_one]) (by
    intro j u hj
    have hjl := (List.getElem?_eq_some_iff.1 hj).1
    rcases h2 with h0 | ⟨b, off, e, hc⟩
    · rw [h0] at hj; simp at hj
    · obtain rfl := Option.some.inj e
      have h5 := hc j hjl
      have ea : (⟨b, off, none⟩ : Addr).add j = ⟨b, off + j, none⟩ := by
        unfold Addr.add
        split
        · rename_i h0
          rw [h0]
          rfl
        · rfl
      rw [ea, h5, ← hj, List.getElem?_eq_getElem hjl]) (fun u hu => by obtain ⟨y, -, rfl⟩ := List.mem_map.1 hu; rfl) (by unfold maxLen; omega) (by omega) hB
  unfold Oper.wp execOp
  simp only [ho, resolve, invoke, builtin, Sem.run_bind, Sem.run_pure, Result.andThen_ok, List.map_toArray, List.map_cons, List.map_nil, hs, hx, hr]
  refine h v' w' ?_ hn hg (grown_below hown hB hg) h3
  unfold OwnS
  rw [sv_append, List.length_append]
  exact h1
def PutIs (w : World) (B : Nat) (zs : List ByteArray) (s : ByteArray) (e : Ending) (w' : World) : Prop := ∃ g c, e = .returned (.slice (some ⟨g, 0, none⟩) (putS zs s).length c) ∧ OwnS w' B 9 (.slice (some ⟨g, 0, none⟩) (putS zs s).length c) (putS zs s) ∧ Below w.heap.size w w'
set_option maxHeartbeats 8000000 in
theorem l17Put_any (B b c : Nat) (zs : List ByteArray) (s : ByteArray) (w : World) (h : OwnS w B 9 (.slice (some ⟨b, 0, none⟩) zs.length c) zs) (hl : zs.length ≤ 1000000) (hB : B ≤ w.heap.size) : Calls Tryz.prog 16 #[.slice (some ⟨b, 0, none⟩) zs.length c, .string s] w (PutIs w B zs s) := by
  obtain ⟨hcap, hcm, hR⟩ := h.some
  unfold maxLen at hcm
  obtain ⟨off, hoff⟩ : ∃ off : Nat, off = 0 := ⟨0, rfl⟩
  rw [← hoff]
  rw [← hoff] at h hR
  have HO := Lib.hid h
  have HR := Lib.hid hR
  have HB := Lib.hid hB
  have HOFF := Lib.hid hoff
  clear h hR hB hoff
  go_enter Tryz.func16, Tryz.ntmps16
  go_wp2_with fail
  go_loopw [5] (fun i wr => ∃ k : Nat, k ≤ zs.length ∧ i = .int .i64 k ∧ (∀ j x, j < k → zs[j]? = some x → ltS x s = true) ∧ w = wr) (fun i _ => zs.length - (intOf i).toNat)
  case atStart => exact ⟨0, Nat.zero_le _, rfl, fun j x hj => absurd hj (by omega), rfl⟩
  case round =>
    obtain ⟨k, hk, rfl, hall, rfl⟩ := hrel
    have HA := Lib.hid hall
    clear hall
    by_cases hlt : k < zs.length
    · obtain ⟨b', off', e', hc, -⟩ := HR.out.at_ hlt
      injection e' with e'
      injection e' with e1 e2
      subst e1 e2
      obtain ⟨x, hx⟩ : ∃ x, x = zs[k] := ⟨_, rfl⟩
      rw [← hx] at hc
      have hxk : zs[k]? = some x := by rw [List.getElem?_eq_getElem hlt, hx]
      have i1 : (k : Int) < (zs.length : Int) := by omega
      have d1 : decide (k < zs.length) = true := by simpa using hlt
      have HX := Lib.hid hxk
      clear hx hxk
      cases hb : Op.bytesLess x.toList s.toList
      · have hbf : ltS x s = false := hb
        have hidx : idxP zs s = k := idxP_eq hk HA.out (fun y hy => by rw [HX.out] at hy; injection hy with hy; subst hy; exact hbf)
        cases he : (x.toList == s.toList)
        · have hne : ¬ zs[idxP zs s]? = some s := by
            rw [hidx, HX.out]
            intro e
            injection e with e
            subst e
            rw [eqS_self] at he
            cases he
          have hput : putS zs s = zs.take k ++ [s] ++ zs.drop k := by rw [putS, if_neg hne, hidx]
          have HP := Lib.hid hput
          have HBF := Lib.hid hbf
          have ik : (k : Int) ≤ (zs.length : Int) := by omega
          have hkl : k ≤ zs.length := by omega
          clear hidx hne hput hbf
          have hkc : k ≤ c := by omega
          obtain ⟨adr, hif, hrd⟩ : ∃ adr : Addr, (if c = k then some (⟨b, off, none⟩ : Addr) else some ⟨b, off + k, none⟩) = some adr ∧ ∀ w', RdS w' (some ⟨b, off, none⟩) zs → RdS w' (some adr) (zs.drop k) := by
            by_cases hc : c = k
            · refine ⟨_, if_pos hc, fun w' h => ?_⟩
              rw [List.drop_eq_nil_of_le (by omega)]
              exact .inl rfl
            · exact ⟨_, if_neg hc, fun w' h => h.drop k⟩
          have HDR := Lib.hid hrd
          clear hrd
          go_wp2_with fail
          refine wp_region_noPanic ?_
          refine wp_region_held_drew (S := (fun w' => Below w.heap.size w w')) (by kernel_rfl) (Below.refl _ _).drew (fun hHeld => ?_)
          refine wpAnyH_take (i := 1) (oi := _) (v := ?_) rfl (by kernel_rfl) (by kernel_rfl) (by kernel_rfl) (fun _ _ _ h => h) (Or.inl ⟨by rfl, ?_⟩) (by assumption) ?_
          rotate_left
          · intro w hSw; clear hSw; first | (go_simp; done) | (go_simp; with_reducible rfl)
          simp only [Act.put, List.getElem_toArray, List.getElem_cons_succ, List.getElem_cons_zero, List.setIfInBounds_toArray, List.set_cons_zero, List.set_cons_succ]
          refine wpAnyH_take (i := 2) (oi := _) (v := ?_) rfl (by kernel_rfl) (by kernel_rfl) (by kernel_rfl) (fun _ _ _ h => h) (Or.inl ⟨by rfl, ?_⟩) (by assumption) ?_
          rotate_left
          · intro w hSw; clear hSw; first | (go_simp; done) | (go_simp; with_reducible rfl)
          simp only [Act.put, List.getElem_toArray, List.getElem_cons_succ, List.getElem_cons_zero, List.setIfInBounds_toArray, List.set_cons_zero, List.set_cons_succ]
          refine wpAnyH_take (i := 3) (oi := _) (v := ?_) rfl (by kernel_rfl) (by kernel_rfl) (by kernel_rfl) (fun _ _ _ h => h) (Or.inl ⟨by rfl, ?_⟩) (by assumption) ?_
          rotate_left
          · intro w hSw; clear hSw; first | (go_simp; done) | (go_simp; with_reducible rfl)
          simp only [Act.put, List.getElem_toArray, List.getElem_cons_succ, List.getElem_cons_zero, List.setIfInBounds_toArray, List.set_cons_zero, List.set_cons_succ]
          refine wpAnyH_take (i := 5) (oi := _) (v := ?_) rfl (by kernel_rfl) (by kernel_rfl) (by kernel_rfl) (fun _ _ _ h => h) (Or.inl ⟨by rfl, ?_⟩) (by assumption) ?_
          rotate_left
          · intro w hSw; clear hSw; first | (go_simp; done) | (go_simp; with_reducible rfl)
          simp only [Act.put, List.getElem_toArray, List.getElem_cons_succ, List.getElem_cons_zero, List.setIfInBounds_toArray, List.set_cons_zero, List.set_cons_succ]
          refine wpAnyH_take (i := 8) (oi := _) (v := ?_) rfl (by kernel_rfl) (by kernel_rfl) (by kernel_rfl) (fun _ _ _ h => h) (Or.inl ⟨by rfl, ?_⟩) (by assumption) ?_
          rotate_left
          · intro w hSw; clear hSw; first | (go_simp; done) | (go_simp; with_reducible rfl)
          simp only [Act.put, List.getElem_toArray, List.getElem_cons_succ, List.getElem_cons_zero, List.setIfInBounds_toArray, List.set_cons_zero, List.set_cons_succ]
          refine wpAnyH_take (i := 9) (oi := _) (v := ?_) rfl (by kernel_rfl) (by kernel_rfl) (by kernel_rfl) (fun _ _ _ h => h) (Or.inl ⟨by rfl, ?_⟩) (by assumption) ?_
          rotate_left
          · intro w hSw; clear hSw; first | (go_simp; done) | (go_simp; with_reducible rfl)
          simp only [Act.put, List.getElem_toArray, List.getElem_cons_succ, List.getElem_cons_zero, List.setIfInBounds_toArray, List.set_cons_zero, List.set_cons_succ]
          refine wpAnyH_take (i := 10) (oi := _) (v := ?_) rfl (by kernel_rfl) (by kernel_rfl) (by kernel_rfl) (fun _ _ _ h => h) (Or.inl ⟨by rfl, ?_⟩) (by assumption) ?_
          rotate_left
          · intro w hSw; clear hSw; first | (go_simp; done) | (go_simp; with_reducible rfl)
          simp only [Act.put, List.getElem_toArray, List.getElem_cons_succ, List.getElem_cons_zero, List.setIfInBounds_toArray, List.set_cons_zero, List.set_cons_succ]
          refine wpAnyH_ready (rs := [0, 6]) (by kernel_rfl) (by simp) ?_
          refine AllReadyH.cons (o := _) rfl (fun K hK => ?_) (AllReadyH.cons (o := _) rfl (fun K hK => ?_) AllReadyH.nil)
          · go_simp
            have hO0 : OwnS (w.drew.alloc (.cells #[] 9 (0, 0))) w.heap.size 9 (.slice (some ⟨w.heap.size, 0, none⟩) 0 0) [] := OwnS.blk (zs := []) (heap_hit _ _ _ (by simp)) (by omega) (by simp [maxLen])
            refine hK.out _ _ (Below_then hHeld (Below_al (Below.refl _ _) (.cells #[] 9 (0, 0)))) (fun hHeld => ?_)
            clear hK K
            try simp only [Act.put, List.getElem_toArray, List.getElem_cons_succ, List.getElem_cons_zero, List.setIfInBounds_toArray, List.set_cons_zero, List.set_cons_succ]
            refine wpAnyH_ready (rs := [4, 6]) (by kernel_rfl) (by simp) ?_
            refine AllReadyH.cons (o := _) rfl (fun K hK => ?_) (AllReadyH.cons (o := _) rfl (fun K hK => ?_) AllReadyH.nil)
            · refine step_appM rfl (.tmp 33) (.tmp 36) rfl w.heap.size (.slice (some ⟨w.heap.size, 0, none⟩) 0 0) [] (by first | rfl | (simp [Act.eval, Act.put]; done) | (simp [Act.eval, Act.put]; omega)) hO0 ⟨b, off, none⟩ k c (zs.take k) (by first | rfl | (simp [Act.eval, Act.put]; done) | (simp [Act.eval, Act.put]; omega)) ((HR.out.below hHeld).take k) (by rw [List.length_take]; omega) (by simp) (by rw [List.length_take]; omega) hHeld.size ?_
              intro v3 w3 hO3 hn3 hG3 hL3 hA3
              obtain ⟨g3, c3, ev3⟩ := hO3.nonnil (fun e => by have := hn3.1 e; cases this.1)
              subst ev3
              clear hn3 hA3 hO0 hG3
              refine hK.out _ _ (hHeld.trans hL3) (fun hHeld => ?_)
              clear hK K
              try simp only [Act.put, List.getElem_toArray, List.getElem_cons_succ, List.getElem_cons_zero, List.setIfInBounds_toArray, List.set_cons_zero, List.set_cons_succ]
              refine wpAnyH_ready (rs := [6]) (by kernel_rfl) (by simp) ?_
              refine AllReadyH.cons (o := _) rfl (fun K hK => ?_) AllReadyH.nil
              go_simp
              replace hO3 := hO3.alloc (.cells #[.string s] 9 (0, 0))
              have hc6 : World.cell? (w3.alloc (.cells #[.string s] 9 (0, 0))) ⟨w3.heap.size, 0, none⟩ = some (.string s) := cell_of (heap_hit _ _ _ (by simp)) 0
              refine hK.out _ _ (Below_then hHeld (Below_al (Below.refl _ _) (.cells #[.string s] 9 (0, 0)))) (fun hHeld => ?_)
              clear hK K
              try simp only [Act.put, List.getElem_toArray, List.getElem_cons_succ, List.getElem_cons_zero, List.setIfInBounds_toArray, List.set_cons_zero, List.set_cons_succ]
              refine wpAnyH_ready (rs := [7]) (by kernel_rfl) (by simp) ?_
              refine AllReadyH.cons (o := _) rfl (fun K hK => ?_) AllReadyH.nil
              refine step_appM rfl (.tmp 37) (.tmp 39) rfl w.heap.size (.slice (some ⟨g3, 0, none⟩) ([] ++ zs.take k).length c3) ([] ++ zs.take k) (by first | rfl | (simp [Act.eval, Act.put]; done) | (simp [Act.eval, Act.put]; omega)) hO3 ⟨w3.heap.size, 0, none⟩ 1 1 [s] (by first | rfl | (simp [Act.eval, Act.put]; done) | (simp [Act.eval, Act.put]; omega)) (RdS.one hc6) rfl (by rw [List.length_append, List.length_take]; simp; omega) (by simp) hHeld.size ?_
              intro v4 w4 hO4 hn4 hG4 hL4 hA4
              obtain ⟨g4, c4, ev4⟩ := hO4.nonnil (fun e => by have := hn4.1 e; cases this.1)
              subst ev4
              clear hn4 hA4 hG4 hc6
              refine hK.out _ _ (hHeld.trans hL4) (fun hHeld => ?_)
              clear hK K
              try simp only [Act.put, List.getElem_toArray, List.getElem_cons_succ, List.getElem_cons_zero, List.setIfInBounds_toArray, List.set_cons_zero, List.set_cons_succ]
              refine wpAnyH_ready (rs := [11]) (by kernel_rfl) (by simp) ?_
              refine AllReadyH.cons (o := _) rfl (fun K hK => ?_) AllReadyH.nil
              refine step_appM rfl (.tmp 40) (.tmp 43) rfl w.heap.size (.slice (some ⟨g4, 0, none⟩) ([] ++ zs.take k ++ [s]).length c4) ([] ++ zs.take k ++ [s]) (by first | rfl | (simp [Act.eval, Act.put]; done) | (simp [Act.eval, Act.put]; omega)) hO4 adr (zs.length - k) (c - k) (zs.drop k) (by first | rfl | (simp [Act.eval, Act.put]; done) | (simp [Act.eval, Act.put]; omega)) (HDR.out _ (HR.out.below hHeld)) (by rw [List.length_drop]) (by rw [List.length_append, List.length_append, List.length_take]; simp; omega) (by rw [List.length_drop]; omega) hHeld.size ?_
              intro v5 w5 hO5 hn5 hG5 hL5 hA5
              obtain ⟨g5, c5, ev5⟩ := hO5.nonnil (fun e => by have := hn5.1 e; cases this.1)
              subst ev5
              clear hn5 hA5 hG5
              refine hK.out _ _ (hHeld.trans hL5) (fun hHeld => ?_)
              clear hK K
              try simp only [Act.put, List.getElem_toArray, List.getElem_cons_succ, List.getElem_cons_zero, List.setIfInBounds_toArray, List.set_cons_zero, List.set_cons_succ]
              refine wpAnyH_take (i := 12) (oi := _) (v := ?_) rfl (by kernel_rfl) (by kernel_rfl) (by kernel_rfl) (fun _ _ _ h => h) (Or.inl ⟨by rfl, ?_⟩) (by assumption) ?_
              rotate_left
              · intro w hSw; clear hSw; first | (go_simp; done) | (go_simp; with_reducible rfl)
              simp only [Act.put, List.getElem_toArray, List.getElem_cons_succ, List.getElem_cons_zero, List.setIfInBounds_toArray, List.set_cons_zero, List.set_cons_succ]
              have hT := hHeld
              refine wpAnyH_done (by kernel_rfl) ?_ _
              refine NoPanic.normal ?_
              have e5 : [] ++ zs.take k ++ [s] ++ zs.drop k = putS zs s := by rw [HP.out]; simp
              have HL5 := Lib.hid (congrArg List.length e5)
              rw [e5] at hO5
              clear e5
              go_wp2
              go_ret
              exact ⟨g5, c5, by rw [← HL5.out]; first | (simp; done) | (simp; omega), OwnS.base hO5 HB.out, hT⟩
            · go_simp
              replace hO0 := hO0.alloc (.cells #[.string s] 9 (0, 0))
              have hc6 : World.cell? ((w.drew.alloc (.cells #[] 9 (0, 0))).alloc (.cells #[.string s] 9 (0, 0))) ⟨w.heap.size + 1, 0, none⟩ = some (.string s) := cell_of (heap_hit _ _ _ (by simp)) 0
              refine hK.out _ _ (Below_then hHeld (Below_al (Below.refl _ _) (.cells #[.string s] 9 (0, 0)))) (fun hHeld => ?_)
              clear hK K
              try simp only [Act.put, List.getElem_toArray, List.getElem_cons_succ, List.getElem_cons_zero, List.setIfInBounds_toArray, List.set_cons_zero, List.set_cons_succ]
              refine wpAnyH_ready (rs := [4]) (by kernel_rfl) (by simp) ?_
              refine AllReadyH.cons (o := _) rfl (fun K hK => ?_) AllReadyH.nil
              refine step_appM rfl (.tmp 33) (.tmp 36) rfl w.heap.size (.slice (some ⟨w.heap.size, 0, none⟩) 0 0) [] (by first | rfl | (simp [Act.eval, Act.put]; done) | (simp [Act.eval, Act.put]; omega)) hO0 ⟨b, off, none⟩ k c (zs.take k) (by first | rfl | (simp [Act.eval, Act.put]; done) | (simp [Act.eval, Act.put]; omega)) ((HR.out.below hHeld).take k) (by rw [List.length_take]; omega) (by simp) (by rw [List.length_take]; omega) hHeld.size ?_
              intro v3 w3 hO3 hn3 hG3 hL3 hA3
              obtain ⟨g3, c3, ev3⟩ := hO3.nonnil (fun e => by have := hn3.1 e; cases this.1)
              subst ev3
              replace hc6 := (World.cell?_of_block (a := ⟨w.heap.size + 1, 0, none⟩) (hG3.block _ (World.block_lt_of_cell? _ _ hc6) (fun e => by simp [Value.ownBlock] at e))).trans hc6
              clear hn3 hA3 hO0 hG3
              refine hK.out _ _ (hHeld.trans hL3) (fun hHeld => ?_)
              clear hK K
              try simp only [Act.put, List.getElem_toArray, List.getElem_cons_succ, List.getElem_cons_zero, List.setIfInBounds_toArray, List.set_cons_zero, List.set_cons_succ]
              refine wpAnyH_ready (rs := [7]) (by kernel_rfl) (by simp) ?_
              refine AllReadyH.cons (o := _) rfl (fun K hK => ?_) AllReadyH.nil
              refine step_appM rfl (.tmp 37) (.tmp 39) rfl w.heap.size (.slice (some ⟨g3, 0, none⟩) ([] ++ zs.take k).length c3) ([] ++ zs.take k) (by first | rfl | (simp [Act.eval, Act.put]; done) | (simp [Act.eval, Act.put]; omega)) hO3 ⟨w.heap.size + 1, 0, none⟩ 1 1 [s] (by first | rfl | (simp [Act.eval, Act.put]; done) | (simp [Act.eval, Act.put]; omega)) (RdS.one hc6) rfl (by rw [List.length_append, List.length_take]; simp; omega) (by simp) hHeld.size ?_
              intro v4 w4 hO4 hn4 hG4 hL4 hA4
              obtain ⟨g4, c4, ev4⟩ := hO4.nonnil (fun e => by have := hn4.1 e; cases this.1)
              subst ev4
              clear hn4 hA4 hG4 hc6
              refine hK.out _ _ (hHeld.trans hL4) (fun hHeld => ?_)
              clear hK K
              try simp only [Act.put, List.getElem_toArray, List.getElem_cons_succ, List.getElem_cons_zero, List.setIfInBounds_toArray, List.set_cons_zero, List.set_cons_succ]
              refine wpAnyH_ready (rs := [11]) (by kernel_rfl) (by simp) ?_
              refine AllReadyH.cons (o := _) rfl (fun K hK => ?_) AllReadyH.nil
              refine step_appM rfl (.tmp 40) (.tmp 43) rfl w.heap.size (.slice (some ⟨g4, 0, none⟩) ([] ++ zs.take k ++ [s]).length c4) ([] ++ zs.take k ++ [s]) (by first | rfl | (simp [Act.eval, Act.put]; done) | (simp [Act.eval, Act.put]; omega)) hO4 adr (zs.length - k) (c - k) (zs.drop k) (by first | rfl | (simp [Act.eval, Act.put]; done) | (simp [Act.eval, Act.put]; omega)) (HDR.out _ (HR.out.below hHeld)) (by rw [List.length_drop]) (by rw [List.length_append, List.length_append, List.length_take]; simp; omega) (by rw [List.length_drop]; omega) hHeld.size ?_
              intro v5 w5 hO5 hn5 hG5 hL5 hA5
              obtain ⟨g5, c5, ev5⟩ := hO5.nonnil (fun e => by have := hn5.1 e; cases this.1)
              subst ev5
              clear hn5 hA5 hG5
              refine hK.out _ _ (hHeld.trans hL5) (fun hHeld => ?_)
              clear hK K
              try simp only [Act.put, List.getElem_toArray, List.getElem_cons_succ, List.getElem_cons_zero, List.setIfInBounds_toArray, List.set_cons_zero, List.set_cons_succ]
              refine wpAnyH_take (i := 12) (oi := _) (v := ?_) rfl (by kernel_rfl) (by kernel_rfl) (by kernel_rfl) (fun _ _ _ h => h) (Or.inl ⟨by rfl, ?_⟩) (by assumption) ?_
              rotate_left
              · intro w hSw; clear hSw; first | (go_simp; done) | (go_simp; with_reducible rfl)
              simp only [Act.put, List.getElem_toArray, List.getElem_cons_succ, List.getElem_cons_zero, List.setIfInBounds_toArray, List.set_cons_zero, List.set_cons_succ]
              have hT := hHeld
              refine wpAnyH_done (by kernel_rfl) ?_ _
              refine NoPanic.normal ?_
              have e5 : [] ++ zs.take k ++ [s] ++ zs.drop k = putS zs s := by rw [HP.out]; simp
              have HL5 := Lib.hid (congrArg List.length e5)
              rw [e5] at hO5
              clear e5
              go_wp2
              go_ret
              exact ⟨g5, c5, by rw [← HL5.out]; first | (simp; done) | (simp; omega), OwnS.base hO5 HB.out, hT⟩
          · go_simp
            have hc6 : World.cell? (w.drew.alloc (.cells #[.string s] 9 (0, 0))) ⟨w.heap.size, 0, none⟩ = some (.string s) := cell_of (heap_hit _ _ _ (by simp)) 0
            refine hK.out _ _ (Below_then hHeld (Below_al (Below.refl _ _) (.cells #[.string s] 9 (0, 0)))) (fun hHeld => ?_)
            clear hK K
            try simp only [Act.put, List.getElem_toArray, List.getElem_cons_succ, List.getElem_cons_zero, List.setIfInBounds_toArray, List.set_cons_zero, List.set_cons_succ]
            refine wpAnyH_ready (rs := [0]) (by kernel_rfl) (by simp) ?_
            refine AllReadyH.cons (o := _) rfl (fun K hK => ?_) AllReadyH.nil
            go_simp
            replace hc6 := keep_cell hc6 (Below_al (Below.refl _ _) (.cells #[] 9 (0, 0)))
            have hO0 : OwnS ((w.drew.alloc (.cells #[.string s] 9 (0, 0))).alloc (.cells #[] 9 (0, 0))) w.heap.size 9 (.slice (some ⟨w.heap.size + 1, 0, none⟩) 0 0) [] := OwnS.blk (zs := []) (heap_hit _ _ _ (by simp)) (by omega) (by simp [maxLen])
            refine hK.out _ _ (Below_then hHeld (Below_al (Below.refl _ _) (.cells #[] 9 (0, 0)))) (fun hHeld => ?_)
            clear hK K
            try simp only [Act.put, List.getElem_toArray, List.getElem_cons_succ, List.getElem_cons_zero, List.setIfInBounds_toArray, List.set_cons_zero, List.set_cons_succ]
            refine wpAnyH_ready (rs := [4]) (by kernel_rfl) (by simp) ?_
            refine AllReadyH.cons (o := _) rfl (fun K hK => ?_) AllReadyH.nil
            refine step_appM rfl (.tmp 33) (.tmp 36) rfl w.heap.size (.slice (some ⟨w.heap.size + 1, 0, none⟩) 0 0) [] (by first | rfl | (simp [Act.eval, Act.put]; done) | (simp [Act.eval, Act.put]; omega)) hO0 ⟨b, off, none⟩ k c (zs.take k) (by first | rfl | (simp [Act.eval, Act.put]; done) | (simp [Act.eval, Act.put]; omega)) ((HR.out.below hHeld).take k) (by rw [List.length_take]; omega) (by simp) (by rw [List.length_take]; omega) hHeld.size ?_
            intro v3 w3 hO3 hn3 hG3 hL3 hA3
            obtain ⟨g3, c3, ev3⟩ := hO3.nonnil (fun e => by have := hn3.1 e; cases this.1)
            subst ev3
            replace hc6 := (World.cell?_of_block (a := ⟨w.heap.size, 0, none⟩) (hG3.block _ (World.block_lt_of_cell? _ _ hc6) (fun e => by simp [Value.ownBlock] at e))).trans hc6
            clear hn3 hA3 hO0 hG3
            refine hK.out _ _ (hHeld.trans hL3) (fun hHeld => ?_)
            clear hK K
            try simp only [Act.put, List.getElem_toArray, List.getElem_cons_succ, List.getElem_cons_zero, List.setIfInBounds_toArray, List.set_cons_zero, List.set_cons_succ]
            refine wpAnyH_ready (rs := [7]) (by kernel_rfl) (by simp) ?_
            refine AllReadyH.cons (o := _) rfl (fun K hK => ?_) AllReadyH.nil
            refine step_appM rfl (.tmp 37) (.tmp 39) rfl w.heap.size (.slice (some ⟨g3, 0, none⟩) ([] ++ zs.take k).length c3) ([] ++ zs.take k) (by first | rfl | (simp [Act.eval, Act.put]; done) | (simp [Act.eval, Act.put]; omega)) hO3 ⟨w.heap.size, 0, none⟩ 1 1 [s] (by first | rfl | (simp [Act.eval, Act.put]; done) | (simp [Act.eval, Act.put]; omega)) (RdS.one hc6) rfl (by rw [List.length_append, List.length_take]; simp; omega) (by simp) hHeld.size ?_
            intro v4 w4 hO4 hn4 hG4 hL4 hA4
            obtain ⟨g4, c4, ev4⟩ := hO4.nonnil (fun e => by have := hn4.1 e; cases this.1)
            subst ev4
            clear hn4 hA4 hG4 hc6
            refine hK.out _ _ (hHeld.trans hL4) (fun hHeld => ?_)
            clear hK K
            try simp only [Act.put, List.getElem_toArray, List.getElem_cons_succ, List.getElem_cons_zero, List.setIfInBounds_toArray, List.set_cons_zero, List.set_cons_succ]
            refine wpAnyH_ready (rs := [11]) (by kernel_rfl) (by simp) ?_
            refine AllReadyH.cons (o := _) rfl (fun K hK => ?_) AllReadyH.nil
            refine step_appM rfl (.tmp 40) (.tmp 43) rfl w.heap.size (.slice (some ⟨g4, 0, none⟩) ([] ++ zs.take k ++ [s]).length c4) ([] ++ zs.take k ++ [s]) (by first | rfl | (simp [Act.eval, Act.put]; done) | (simp [Act.eval, Act.put]; omega)) hO4 adr (zs.length - k) (c - k) (zs.drop k) (by first | rfl | (simp [Act.eval, Act.put]; done) | (simp [Act.eval, Act.put]; omega)) (HDR.out _ (HR.out.below hHeld)) (by rw [List.length_drop]) (by rw [List.length_append, List.length_append, List.length_take]; simp; omega) (by rw [List.length_drop]; omega) hHeld.size ?_
            intro v5 w5 hO5 hn5 hG5 hL5 hA5
            obtain ⟨g5, c5, ev5⟩ := hO5.nonnil (fun e => by have := hn5.1 e; cases this.1)
            subst ev5
            clear hn5 hA5 hG5
            refine hK.out _ _ (hHeld.trans hL5) (fun hHeld => ?_)
            clear hK K
            try simp only [Act.put, List.getElem_toArray, List.getElem_cons_succ, List.getElem_cons_zero, List.setIfInBounds_toArray, List.set_cons_zero, List.set_cons_succ]
            refine wpAnyH_take (i := 12) (oi := _) (v := ?_) rfl (by kernel_rfl) (by kernel_rfl) (by kernel_rfl) (fun _ _ _ h => h) (Or.inl ⟨by rfl, ?_⟩) (by assumption) ?_
            rotate_left
            · intro w hSw; clear hSw; first | (go_simp; done) | (go_simp; with_reducible rfl)
            simp only [Act.put, List.getElem_toArray, List.getElem_cons_succ, List.getElem_cons_zero, List.setIfInBounds_toArray, List.set_cons_zero, List.set_cons_succ]
            have hT := hHeld
            refine wpAnyH_done (by kernel_rfl) ?_ _
            refine NoPanic.normal ?_
            have e5 : [] ++ zs.take k ++ [s] ++ zs.drop k = putS zs s := by rw [HP.out]; simp
            have HL5 := Lib.hid (congrArg List.length e5)
            rw [e5] at hO5
            clear e5
            go_wp2
            go_ret
            exact ⟨g5, c5, by rw [← HL5.out]; first | (simp; done) | (simp; omega), OwnS.base hO5 HB.out, hT⟩
        · have hp : putS zs s = zs := by rw [putS, if_pos (by rw [hidx, HX.out, eqS_iff.1 he])]
          have HP := Lib.hid hp
          clear hp hidx hbf
          go_wp2
          go_ret
          have hO := HO.out
          refine ⟨b, c, ?_, ?_, Below.refl _ _⟩
          · rw [HP.out, HOFF.out]; rfl
          · rw [HP.out, ← HOFF.out]; exact hO
      · have hbt : ltS x s = true := hb
        have HBT := Lib.hid hbt
        clear hbt
        go_wp2
        go_roundw
        case rel => exact ⟨k + 1, by omega, by go_num, fun j y hj hy => (by
          by_cases e : j = k
          · subst e; rw [HX.out] at hy; injection hy with hy; subst hy; exact HBT.out
          · exact HA.out j y (by omega) hy), (by first | trivial | rfl)⟩
        case measure => simp [intOf]; omega
    · obtain rfl : k = zs.length := by omega
      have d1 : decide (zs.length < zs.length) = false := by simp
      have hidx : idxP zs s = zs.length := idxP_eq hk HA.out (fun y hy => by simp at hy)
      have hput : putS zs s = zs.take zs.length ++ [s] ++ zs.drop zs.length := by rw [putS, if_neg (by rw [hidx]; simp), hidx]
      have HP := Lib.hid hput
      clear hidx hput
      have hkc : zs.length ≤ c := by omega
      obtain ⟨adr, hif, hrd⟩ : ∃ adr : Addr, (if c = zs.length then some (⟨b, off, none⟩ : Addr) else some ⟨b, off + zs.length, none⟩) = some adr ∧ ∀ w', RdS w' (some ⟨b, off, none⟩) zs → RdS w' (some adr) (zs.drop zs.length) := by
        by_cases hc : c = zs.length
        · refine ⟨_, if_pos hc, fun w' h => ?_⟩
          rw [List.drop_eq_nil_of_le (by omega)]
          exact .inl rfl
        · exact ⟨_, if_neg hc, fun w' h => h.drop zs.length⟩
      have HDR := Lib.hid hrd
      clear hrd
      go_wp2_with fail
      refine wp_region_noPanic ?_
      refine wp_region_held_drew (S := (fun w' => Below w.heap.size w w')) (by kernel_rfl) (Below.refl _ _).drew (fun hHeld => ?_)
      refine wpAnyH_take (i := 1) (oi := _) (v := ?_) rfl (by kernel_rfl) (by kernel_rfl) (by kernel_rfl) (fun _ _ _ h => h) (Or.inl ⟨by rfl, ?_⟩) (by assumption) ?_
      rotate_left
      · intro w hSw; clear hSw; first | (go_simp; done) | (go_simp; with_reducible rfl)
      simp only [Act.put, List.getElem_toArray, List.getElem_cons_succ, List.getElem_cons_zero, List.setIfInBounds_toArray, List.set_cons_zero, List.set_cons_succ]
      refine wpAnyH_take (i := 2) (oi := _) (v := ?_) rfl (by kernel_rfl) (by kernel_rfl) (by kernel_rfl) (fun _ _ _ h => h) (Or.inl ⟨by rfl, ?_⟩) (by assumption) ?_
      rotate_left
      · intro w hSw; clear hSw; first | (go_simp; done) | (go_simp; with_reducible rfl)
      simp only [Act.put, List.getElem_toArray, List.getElem_cons_succ, List.getElem_cons_zero, List.setIfInBounds_toArray, List.set_cons_zero, List.set_cons_succ]
      refine wpAnyH_take (i := 3) (oi := _) (v := ?_) rfl (by kernel_rfl) (by kernel_rfl) (by kernel_rfl) (fun _ _ _ h => h) (Or.inl ⟨by rfl, ?_⟩) (by assumption) ?_
      rotate_left
      · intro w hSw; clear hSw; first | (go_simp; done) | (go_simp; with_reducible rfl)
      simp only [Act.put, List.getElem_toArray, List.getElem_cons_succ, List.getElem_cons_zero, List.setIfInBounds_toArray, List.set_cons_zero, List.set_cons_succ]
      refine wpAnyH_take (i := 5) (oi := _) (v := ?_) rfl (by kernel_rfl) (by kernel_rfl) (by kernel_rfl) (fun _ _ _ h => h) (Or.inl ⟨by rfl, ?_⟩) (by assumption) ?_
      rotate_left
      · intro w hSw; clear hSw; first | (go_simp; done) | (go_simp; with_reducible rfl)
      simp only [Act.put, List.getElem_toArray, List.getElem_cons_succ, List.getElem_cons_zero, List.setIfInBounds_toArray, List.set_cons_zero, List.set_cons_succ]
      refine wpAnyH_take (i := 8) (oi := _) (v := ?_) rfl (by kernel_rfl) (by kernel_rfl) (by kernel_rfl) (fun _ _ _ h => h) (Or.inl ⟨by rfl, ?_⟩) (by assumption) ?_
      rotate_left
      · intro w hSw; clear hSw; first | (go_simp; done) | (go_simp; with_reducible rfl)
      simp only [Act.put, List.getElem_toArray, List.getElem_cons_succ, List.getElem_cons_zero, List.setIfInBounds_toArray, List.set_cons_zero, List.set_cons_succ]
      refine wpAnyH_take (i := 9) (oi := _) (v := ?_) rfl (by kernel_rfl) (by kernel_rfl) (by kernel_rfl) (fun _ _ _ h => h) (Or.inl ⟨by rfl, ?_⟩) (by assumption) ?_
      rotate_left
      · intro w hSw; clear hSw; first | (go_simp; done) | (go_simp; with_reducible rfl)
      simp only [Act.put, List.getElem_toArray, List.getElem_cons_succ, List.getElem_cons_zero, List.setIfInBounds_toArray, List.set_cons_zero, List.set_cons_succ]
      refine wpAnyH_take (i := 10) (oi := _) (v := ?_) rfl (by kernel_rfl) (by kernel_rfl) (by kernel_rfl) (fun _ _ _ h => h) (Or.inl ⟨by rfl, ?_⟩) (by assumption) ?_
      rotate_left
      · intro w hSw; clear hSw; first | (go_simp; done) | (go_simp; with_reducible rfl)
      simp only [Act.put, List.getElem_toArray, List.getElem_cons_succ, List.getElem_cons_zero, List.setIfInBounds_toArray, List.set_cons_zero, List.set_cons_succ]
      refine wpAnyH_ready (rs := [0, 6]) (by kernel_rfl) (by simp) ?_
      refine AllReadyH.cons (o := _) rfl (fun K hK => ?_) (AllReadyH.cons (o := _) rfl (fun K hK => ?_) AllReadyH.nil)
      · go_simp
        have hO0 : OwnS (w.drew.alloc (.cells #[] 9 (0, 0))) w.heap.size 9 (.slice (some ⟨w.heap.size, 0, none⟩) 0 0) [] := OwnS.blk (zs := []) (heap_hit _ _ _ (by simp)) (by omega) (by simp [maxLen])
        refine hK.out _ _ (Below_then hHeld (Below_al (Below.refl _ _) (.cells #[] 9 (0, 0)))) (fun hHeld => ?_)
        clear hK K
        try simp only [Act.put, List.getElem_toArray, List.getElem_cons_succ, List.getElem_cons_zero, List.setIfInBounds_toArray, List.set_cons_zero, List.set_cons_succ]
        refine wpAnyH_ready (rs := [4, 6]) (by kernel_rfl) (by simp) ?_
        refine AllReadyH.cons (o := _) rfl (fun K hK => ?_) (AllReadyH.cons (o := _) rfl (fun K hK => ?_) AllReadyH.nil)
        · refine step_appM rfl (.tmp 33) (.tmp 36) rfl w.heap.size (.slice (some ⟨w.heap.size, 0, none⟩) 0 0) [] (by first | rfl | (simp [Act.eval, Act.put]; done) | (simp [Act.eval, Act.put]; omega)) hO0 ⟨b, off, none⟩ zs.length c (zs.take zs.length) (by first | rfl | (simp [Act.eval, Act.put]; done) | (simp [Act.eval, Act.put]; omega)) ((HR.out.below hHeld).take zs.length) (by rw [List.length_take]; omega) (by simp) (by rw [List.length_take]; omega) hHeld.size ?_
          intro v3 w3 hO3 hn3 hG3 hL3 hA3
          obtain ⟨g3, c3, ev3⟩ := hO3.nonnil (fun e => by have := hn3.1 e; cases this.1)
          subst ev3
          clear hn3 hA3 hO0 hG3
          refine hK.out _ _ (hHeld.trans hL3) (fun hHeld => ?_)
          clear hK K
          try simp only [Act.put, List.getElem_toArray, List.getElem_cons_succ, List.getElem_cons_zero, List.setIfInBounds_toArray, List.set_cons_zero, List.set_cons_succ]
          refine wpAnyH_ready (rs := [6]) (by kernel_rfl) (by simp) ?_
          refine AllReadyH.cons (o := _) rfl (fun K hK => ?_) AllReadyH.nil
          go_simp
          replace hO3 := hO3.alloc (.cells #[.string s] 9 (0, 0))
          have hc6 : World.cell? (w3.alloc (.cells #[.string s] 9 (0, 0))) ⟨w3.heap.size, 0, none⟩ = some (.string s) := cell_of (heap_hit _ _ _ (by simp)) 0
          refine hK.out _ _ (Below_then hHeld (Below_al (Below.refl _ _) (.cells #[.string s] 9 (0, 0)))) (fun hHeld => ?_)
          clear hK K
          try simp only [Act.put, List.getElem_toArray, List.getElem_cons_succ, List.getElem_cons_zero, List.setIfInBounds_toArray, List.set_cons_zero, List.set_cons_succ]
          refine wpAnyH_ready (rs := [7]) (by kernel_rfl) (by simp) ?_
          refine AllReadyH.cons (o := _) rfl (fun K hK => ?_) AllReadyH.nil
          refine step_appM rfl (.tmp 37) (.tmp 39) rfl w.heap.size (.slice (some ⟨g3, 0, none⟩) ([] ++ zs.take zs.length).length c3) ([] ++ zs.take zs.length) (by first | rfl | (simp [Act.eval, Act.put]; done) | (simp [Act.eval, Act.put]; omega)) hO3 ⟨w3.heap.size, 0, none⟩ 1 1 [s] (by first | rfl | (simp [Act.eval, Act.put]; done) | (simp [Act.eval, Act.put]; omega)) (RdS.one hc6) rfl (by rw [List.length_append, List.length_take]; simp; omega) (by simp) hHeld.size ?_
          intro v4 w4 hO4 hn4 hG4 hL4 hA4
          obtain ⟨g4, c4, ev4⟩ := hO4.nonnil (fun e => by have := hn4.1 e; cases this.1)
          subst ev4
          clear hn4 hA4 hG4 hc6
          refine hK.out _ _ (hHeld.trans hL4) (fun hHeld => ?_)
          clear hK K
          try simp only [Act.put, List.getElem_toArray, List.getElem_cons_succ, List.getElem_cons_zero, List.setIfInBounds_toArray, List.set_cons_zero, List.set_cons_succ]
          refine wpAnyH_ready (rs := [11]) (by kernel_rfl) (by simp) ?_
          refine AllReadyH.cons (o := _) rfl (fun K hK => ?_) AllReadyH.nil
          refine step_appM rfl (.tmp 40) (.tmp 43) rfl w.heap.size (.slice (some ⟨g4, 0, none⟩) ([] ++ zs.take zs.length ++ [s]).length c4) ([] ++ zs.take zs.length ++ [s]) (by first | rfl | (simp [Act.eval, Act.put]; done) | (simp [Act.eval, Act.put]; omega)) hO4 adr (zs.length - zs.length) (c - zs.length) (zs.drop zs.length) (by first | rfl | (simp [Act.eval, Act.put]; done) | (simp [Act.eval, Act.put]; omega)) (HDR.out _ (HR.out.below hHeld)) (by rw [List.length_drop]) (by rw [List.length_append, List.length_append, List.length_take]; simp; omega) (by rw [List.length_drop]; omega) hHeld.size ?_
          intro v5 w5 hO5 hn5 hG5 hL5 hA5
          obtain ⟨g5, c5, ev5⟩ := hO5.nonnil (fun e => by have := hn5.1 e; cases this.1)
          subst ev5
          clear hn5 hA5 hG5
          refine hK.out _ _ (hHeld.trans hL5) (fun hHeld => ?_)
          clear hK K
          try simp only [Act.put, List.getElem_toArray, List.getElem_cons_succ, List.getElem_cons_zero, List.setIfInBounds_toArray, List.set_cons_zero, List.set_cons_succ]
          refine wpAnyH_take (i := 12) (oi := _) (v := ?_) rfl (by kernel_rfl) (by kernel_rfl) (by kernel_rfl) (fun _ _ _ h => h) (Or.inl ⟨by rfl, ?_⟩) (by assumption) ?_
          rotate_left
          · intro w hSw; clear hSw; first | (go_simp; done) | (go_simp; with_reducible rfl)
          simp only [Act.put, List.getElem_toArray, List.getElem_cons_succ, List.getElem_cons_zero, List.setIfInBounds_toArray, List.set_cons_zero, List.set_cons_succ]
          have hT := hHeld
          refine wpAnyH_done (by kernel_rfl) ?_ _
          refine NoPanic.normal ?_
          have e5 : [] ++ zs.take zs.length ++ [s] ++ zs.drop zs.length = putS zs s := by rw [HP.out]; simp
          have HL5 := Lib.hid (congrArg List.length e5)
          rw [e5] at hO5
          clear e5
          go_wp2
          go_ret
          exact ⟨g5, c5, by rw [← HL5.out]; first | (simp; done) | (simp; omega), OwnS.base hO5 HB.out, hT⟩
        · go_simp
          replace hO0 := hO0.alloc (.cells #[.string s] 9 (0, 0))
          have hc6 : World.cell? ((w.drew.alloc (.cells #[] 9 (0, 0))).alloc (.cells #[.string s] 9 (0, 0))) ⟨w.heap.size + 1, 0, none⟩ = some (.string s) := cell_of (heap_hit _ _ _ (by simp)) 0
          refine hK.out _ _ (Below_then hHeld (Below_al (Below.refl _ _) (.cells #[.string s] 9 (0, 0)))) (fun hHeld => ?_)
          clear hK K
          try simp only [Act.put, List.getElem_toArray, List.getElem_cons_succ, List.getElem_cons_zero, List.setIfInBounds_toArray, List.set_cons_zero, List.set_cons_succ]
          refine wpAnyH_ready (rs := [4]) (by kernel_rfl) (by simp) ?_
          refine AllReadyH.cons (o := _) rfl (fun K hK => ?_) AllReadyH.nil
          refine step_appM rfl (.tmp 33) (.tmp 36) rfl w.heap.size (.slice (some ⟨w.heap.size, 0, none⟩) 0 0) [] (by first | rfl | (simp [Act.eval, Act.put]; done) | (simp [Act.eval, Act.put]; omega)) hO0 ⟨b, off, none⟩ zs.length c (zs.take zs.length) (by first | rfl | (simp [Act.eval, Act.put]; done) | (simp [Act.eval, Act.put]; omega)) ((HR.out.below hHeld).take zs.length) (by rw [List.length_take]; omega) (by simp) (by rw [List.length_take]; omega) hHeld.size ?_
          intro v3 w3 hO3 hn3 hG3 hL3 hA3
          obtain ⟨g3, c3, ev3⟩ := hO3.nonnil (fun e => by have := hn3.1 e; cases this.1)
          subst ev3
          replace hc6 := (World.cell?_of_block (a := ⟨w.heap.size + 1, 0, none⟩) (hG3.block _ (World.block_lt_of_cell? _ _ hc6) (fun e => by simp [Value.ownBlock] at e))).trans hc6
          clear hn3 hA3 hO0 hG3
          refine hK.out _ _ (hHeld.trans hL3) (fun hHeld => ?_)
          clear hK K
          try simp only [Act.put, List.getElem_toArray, List.getElem_cons_succ, List.getElem_cons_zero, List.setIfInBounds_toArray, List.set_cons_zero, List.set_cons_succ]
          refine wpAnyH_ready (rs := [7]) (by kernel_rfl) (by simp) ?_
          refine AllReadyH.cons (o := _) rfl (fun K hK => ?_) AllReadyH.nil
          refine step_appM rfl (.tmp 37) (.tmp 39) rfl w.heap.size (.slice (some ⟨g3, 0, none⟩) ([] ++ zs.take zs.length).length c3) ([] ++ zs.take zs.length) (by first | rfl | (simp [Act.eval, Act.put]; done) | (simp [Act.eval, Act.put]; omega)) hO3 ⟨w.heap.size + 1, 0, none⟩ 1 1 [s] (by first | rfl | (simp [Act.eval, Act.put]; done) | (simp [Act.eval, Act.put]; omega)) (RdS.one hc6) rfl (by rw [List.length_append, List.length_take]; simp; omega) (by simp) hHeld.size ?_
          intro v4 w4 hO4 hn4 hG4 hL4 hA4
          obtain ⟨g4, c4, ev4⟩ := hO4.nonnil (fun e => by have := hn4.1 e; cases this.1)
          subst ev4
          clear hn4 hA4 hG4 hc6
          refine hK.out _ _ (hHeld.trans hL4) (fun hHeld => ?_)
          clear hK K
          try simp only [Act.put, List.getElem_toArray, List.getElem_cons_succ, List.getElem_cons_zero, List.setIfInBounds_toArray, List.set_cons_zero, List.set_cons_succ]
          refine wpAnyH_ready (rs := [11]) (by kernel_rfl) (by simp) ?_
          refine AllReadyH.cons (o := _) rfl (fun K hK => ?_) AllReadyH.nil
          refine step_appM rfl (.tmp 40) (.tmp 43) rfl w.heap.size (.slice (some ⟨g4, 0, none⟩) ([] ++ zs.take zs.length ++ [s]).length c4) ([] ++ zs.take zs.length ++ [s]) (by first | rfl | (simp [Act.eval, Act.put]; done) | (simp [Act.eval, Act.put]; omega)) hO4 adr (zs.length - zs.length) (c - zs.length) (zs.drop zs.length) (by first | rfl | (simp [Act.eval, Act.put]; done) | (simp [Act.eval, Act.put]; omega)) (HDR.out _ (HR.out.below hHeld)) (by rw [List.length_drop]) (by rw [List.length_append, List.length_append, List.length_take]; simp; omega) (by rw [List.length_drop]; omega) hHeld.size ?_
          intro v5 w5 hO5 hn5 hG5 hL5 hA5
          obtain ⟨g5, c5, ev5⟩ := hO5.nonnil (fun e => by have := hn5.1 e; cases this.1)
          subst ev5
          clear hn5 hA5 hG5
          refine hK.out _ _ (hHeld.trans hL5) (fun hHeld => ?_)
          clear hK K
          try simp only [Act.put, List.getElem_toArray, List.getElem_cons_succ, List.getElem_cons_zero, List.setIfInBounds_toArray, List.set_cons_zero, List.set_cons_succ]
          refine wpAnyH_take (i := 12) (oi := _) (v := ?_) rfl (by kernel_rfl) (by kernel_rfl) (by kernel_rfl) (fun _ _ _ h => h) (Or.inl ⟨by rfl, ?_⟩) (by assumption) ?_
          rotate_left
          · intro w hSw; clear hSw; first | (go_simp; done) | (go_simp; with_reducible rfl)
          simp only [Act.put, List.getElem_toArray, List.getElem_cons_succ, List.getElem_cons_zero, List.setIfInBounds_toArray, List.set_cons_zero, List.set_cons_succ]
          have hT := hHeld
          refine wpAnyH_done (by kernel_rfl) ?_ _
          refine NoPanic.normal ?_
          have e5 : [] ++ zs.take zs.length ++ [s] ++ zs.drop zs.length = putS zs s := by rw [HP.out]; simp
          have HL5 := Lib.hid (congrArg List.length e5)
          rw [e5] at hO5
          clear e5
          go_wp2
          go_ret
          exact ⟨g5, c5, by rw [← HL5.out]; first | (simp; done) | (simp; omega), OwnS.base hO5 HB.out, hT⟩
      · go_simp
        have hc6 : World.cell? (w.drew.alloc (.cells #[.string s] 9 (0, 0))) ⟨w.heap.size, 0, none⟩ = some (.string s) := cell_of (heap_hit _ _ _ (by simp)) 0
        refine hK.out _ _ (Below_then hHeld (Below_al (Below.refl _ _) (.cells #[.string s] 9 (0, 0)))) (fun hHeld => ?_)
        clear hK K
        try simp only [Act.put, List.getElem_toArray, List.getElem_cons_succ, List.getElem_cons_zero, List.setIfInBounds_toArray, List.set_cons_zero, List.set_cons_succ]
        refine wpAnyH_ready (rs := [0]) (by kernel_rfl) (by simp) ?_
        refine AllReadyH.cons (o := _) rfl (fun K hK => ?_) AllReadyH.nil
        go_simp
        replace hc6 := keep_cell hc6 (Below_al (Below.refl _ _) (.cells #[] 9 (0, 0)))
        have hO0 : OwnS ((w.drew.alloc (.cells #[.string s] 9 (0, 0))).alloc (.cells #[] 9 (0, 0))) w.heap.size 9 (.slice (some ⟨w.heap.size + 1, 0, none⟩) 0 0) [] := OwnS.blk (zs := []) (heap_hit _ _ _ (by simp)) (by omega) (by simp [maxLen])
        refine hK.out _ _ (Below_then hHeld (Below_al (Below.refl _ _) (.cells #[] 9 (0, 0)))) (fun hHeld => ?_)
        clear hK K
        try simp only [Act.put, List.getElem_toArray, List.getElem_cons_succ, List.getElem_cons_zero, List.setIfInBounds_toArray, List.set_cons_zero, List.set_cons_succ]
        refine wpAnyH_ready (rs := [4]) (by kernel_rfl) (by simp) ?_
        refine AllReadyH.cons (o := _) rfl (fun K hK => ?_) AllReadyH.nil
        refine step_appM rfl (.tmp 33) (.tmp 36) rfl w.heap.size (.slice (some ⟨w.heap.size + 1, 0, none⟩) 0 0) [] (by first | rfl | (simp [Act.eval, Act.put]; done) | (simp [Act.eval, Act.put]; omega)) hO0 ⟨b, off, none⟩ zs.length c (zs.take zs.length) (by first | rfl | (simp [Act.eval, Act.put]; done) | (simp [Act.eval, Act.put]; omega)) ((HR.out.below hHeld).take zs.length) (by rw [List.length_take]; omega) (by simp) (by rw [List.length_take]; omega) hHeld.size ?_
        intro v3 w3 hO3 hn3 hG3 hL3 hA3
        obtain ⟨g3, c3, ev3⟩ := hO3.nonnil (fun e => by have := hn3.1 e; cases this.1)
        subst ev3
        replace hc6 := (World.cell?_of_block (a := ⟨w.heap.size, 0, none⟩) (hG3.block _ (World.block_lt_of_cell? _ _ hc6) (fun e => by simp [Value.ownBlock] at e))).trans hc6
        clear hn3 hA3 hO0 hG3
        refine hK.out _ _ (hHeld.trans hL3) (fun hHeld => ?_)
        clear hK K
        try simp only [Act.put, List.getElem_toArray, List.getElem_cons_succ, List.getElem_cons_zero, List.setIfInBounds_toArray, List.set_cons_zero, List.set_cons_succ]
        refine wpAnyH_ready (rs := [7]) (by kernel_rfl) (by simp) ?_
        refine AllReadyH.cons (o := _) rfl (fun K hK => ?_) AllReadyH.nil
        refine step_appM rfl (.tmp 37) (.tmp 39) rfl w.heap.size (.slice (some ⟨g3, 0, none⟩) ([] ++ zs.take zs.length).length c3) ([] ++ zs.take zs.length) (by first | rfl | (simp [Act.eval, Act.put]; done) | (simp [Act.eval, Act.put]; omega)) hO3 ⟨w.heap.size, 0, none⟩ 1 1 [s] (by first | rfl | (simp [Act.eval, Act.put]; done) | (simp [Act.eval, Act.put]; omega)) (RdS.one hc6) rfl (by rw [List.length_append, List.length_take]; simp; omega) (by simp) hHeld.size ?_
        intro v4 w4 hO4 hn4 hG4 hL4 hA4
        obtain ⟨g4, c4, ev4⟩ := hO4.nonnil (fun e => by have := hn4.1 e; cases this.1)
        subst ev4
        clear hn4 hA4 hG4 hc6
        refine hK.out _ _ (hHeld.trans hL4) (fun hHeld => ?_)
        clear hK K
        try simp only [Act.put, List.getElem_toArray, List.getElem_cons_succ, List.getElem_cons_zero, List.setIfInBounds_toArray, List.set_cons_zero, List.set_cons_succ]
        refine wpAnyH_ready (rs := [11]) (by kernel_rfl) (by simp) ?_
        refine AllReadyH.cons (o := _) rfl (fun K hK => ?_) AllReadyH.nil
        refine step_appM rfl (.tmp 40) (.tmp 43) rfl w.heap.size (.slice (some ⟨g4, 0, none⟩) ([] ++ zs.take zs.length ++ [s]).length c4) ([] ++ zs.take zs.length ++ [s]) (by first | rfl | (simp [Act.eval, Act.put]; done) | (simp [Act.eval, Act.put]; omega)) hO4 adr (zs.length - zs.length) (c - zs.length) (zs.drop zs.length) (by first | rfl | (simp [Act.eval, Act.put]; done) | (simp [Act.eval, Act.put]; omega)) (HDR.out _ (HR.out.below hHeld)) (by rw [List.length_drop]) (by rw [List.length_append, List.length_append, List.length_take]; simp; omega) (by rw [List.length_drop]; omega) hHeld.size ?_
        intro v5 w5 hO5 hn5 hG5 hL5 hA5
        obtain ⟨g5, c5, ev5⟩ := hO5.nonnil (fun e => by have := hn5.1 e; cases this.1)
        subst ev5
        clear hn5 hA5 hG5
        refine hK.out _ _ (hHeld.trans hL5) (fun hHeld => ?_)
        clear hK K
        try simp only [Act.put, List.getElem_toArray, List.getElem_cons_succ, List.getElem_cons_zero, List.setIfInBounds_toArray, List.set_cons_zero, List.set_cons_succ]
        refine wpAnyH_take (i := 12) (oi := _) (v := ?_) rfl (by kernel_rfl) (by kernel_rfl) (by kernel_rfl) (fun _ _ _ h => h) (Or.inl ⟨by rfl, ?_⟩) (by assumption) ?_
        rotate_left
        · intro w hSw; clear hSw; first | (go_simp; done) | (go_simp; with_reducible rfl)
        simp only [Act.put, List.getElem_toArray, List.getElem_cons_succ, List.getElem_cons_zero, List.setIfInBounds_toArray, List.set_cons_zero, List.set_cons_succ]
        have hT := hHeld
        refine wpAnyH_done (by kernel_rfl) ?_ _
        refine NoPanic.normal ?_
        have e5 : [] ++ zs.take zs.length ++ [s] ++ zs.drop zs.length = putS zs s := by rw [HP.out]; simp
        have HL5 := Lib.hid (congrArg List.length e5)
        rw [e5] at hO5
        clear e5
        go_wp2
        go_ret
        exact ⟨g5, c5, by rw [← HL5.out]; first | (simp; done) | (simp; omega), OwnS.base hO5 HB.out, hT⟩
end Go.Proofs.YtlonnkmfjijddaaGreatDoor
