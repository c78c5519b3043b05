/- Contracts: MostDistinct, of the reference. -/
import Derived.Test.YtdjddhdplknalaaMost
import Derived.Test.YtdjddhdplknalaaAppIs
namespace Go.Proofs.Ytdjddhdplknalaa
open Go.ChangeShapes Go.WideShapes Go.ChangeAt Go.RowKit
set_option linter.unusedVariables false
set_option linter.unusedSimpArgs false
theorem freeB_snoc (cf : Nat → Nat → Bool) (l : List Nat) {k x i : Nat} (h : l[k]? = some x) : freeB cf (l.take (k + 1)) i = (freeB cf (l.take k) i && !cf x i) := by
  unfold freeB
  rw [List.take_add_one, h]
  simp
def OwnPost (w : World) (B : Nat) (zs : List Int) (e : Ending) (w' : World) : Prop := ∃ v, e = .returned v ∧ OwnI w' B 3 v zs ∧ Below w.heap.size w w'
theorem l1Own_any (ad : Addr) (c : Nat) (zs : List Int) (w : World) (h : RdI w (some ad) zs) (hx : zs.length ≤ 1048576) :
    Calls Try.prog 63 #[.slice (some ad) zs.length c] w (OwnPost w w.heap.size zs) := by
  have HH := Lib.hid (h.alloc (.cells #[] 3))
  have hO : OwnI (w.alloc (.cells #[] 3)) w.heap.size 3 (.slice (some ⟨w.heap.size, 0, none⟩) 0 0) [] := OwnI.none0 _ _ _ rfl (Nat.le_refl _)
  have hT : Below w.heap.size w (w.alloc (.cells #[] 3)) := Below_al (Below.refl _ _) _
  clear h
  go_enter Try.func63, Try.ntmps63
  go_wp2_with (first | (at_builtin; refine wp_appIs rfl _ _ rfl w.heap.size _ [] rfl hO ad zs.length c zs rfl HH.out rfl (by simp) (by omega) (by simp) ?_; intro v' w9 hO9 hG9 hL9) | fail)
  rw [List.nil_append] at hO9
  have hT9 := hT.trans hL9
  clear hG9 hL9 hO hT
  go_wp2
  go_ret
  exact ⟨_, rfl, hO9, hT9⟩
set_option maxHeartbeats 8000000 in
theorem l15Distinct_any (A : Option Addr) (c : Nat) (rows : List ArmsD) (h10 : listOk 10 rows = true) : ∀ (f from_ : Nat) (sm : List Nat) (B : Nat) (v : Value) (w : World), from_ + f = rows.length → (∀ x ∈ sm, x < from_) → sm.length ≤ from_ → RdR 15 w A (acs rows) → B ≤ w.heap.size → OwnI w B 3 v (natI sm) → (∃ ad c', v = .slice (some ad) (natI sm).length c') →
    Calls Try.prog 37 #[.slice A rows.length c, v, .int .i64 (from_ : Int)] w (OwnPost w B (natI (dstL (cfR rows) f sm from_ sm))) := by
  intro f
  induction f using Nat.strongRecOn with
  | _ f ih =>
    intro from_ sm B v w hf hsm hsl h hB hO hsome
    have hle := listOk_le h10
    have HH := Lib.hid h
    have H10 := Lib.hid h10
    have IH := Lib.hid ih
    have HSM := Lib.hid hsm
    obtain ⟨R, hR⟩ : ∃ R, R = dstL (cfR rows) f sm from_ sm := ⟨_, rfl⟩
    rw [← hR]
    have HR := Lib.hid hR
    obtain ⟨sad, sc, rfl⟩ := hsome
    have hsr : RdI w (some sad) (natI sm) := by
      obtain ⟨A', c', e, hr⟩ := hO.form
      injection e with e
      subst e
      exact hr
    have HSR := Lib.hid hsr
    have hsl2 : (natI sm).length ≤ 10 := by rw [natI_len]; omega
    clear h ih hsm hR hsr h10
    go_enter Try.func37, Try.ntmps37
    go_wp2_with fail
    go_loopw [7, 8] (fun b i wr => ∃ (k : Nat) (bst : List Nat) (u : Value), from_ ≤ k ∧ k ≤ rows.length ∧ i = .int .i64 k ∧ b = u ∧ OwnI wr B 3 u (natI bst) ∧ dstL (cfR rows) (rows.length - k) sm k bst = R ∧ Below w.heap.size w wr) (fun _ i _ => rows.length - (intOf i).toNat)
    case atStart => exact ⟨from_, sm, _, Nat.le_refl _, by omega, rfl, rfl, hO, by rw [show rows.length - from_ = f by omega]; exact HR.out.symm, Below.refl _ _⟩
    case round =>
      clear hO
      obtain ⟨i, bst, u, hfi, hi, rfl, hou, hO, hR, hT⟩ := hrel
      replace hou := hou.symm
      subst hou
      obtain ⟨wo, rfl⟩ : ∃ x, x = wr := ⟨wr, rfl⟩
      by_cases hlt : i < rows.length
      · obtain ⟨f', hf'⟩ : ∃ f', rows.length - i = f' + 1 := ⟨rows.length - i - 1, by omega⟩
        rw [hf', dstL] at hR
        have HR2 := Lib.hid hR
        have HF := Lib.hid hf'
        have i1 : (i : Int) < (rows.length : Int) := by omega
        have d1 : decide (i < rows.length) = true := by simpa using hlt
        obtain ⟨y, hy⟩ := arms_at hlt
        have HY := Lib.hid hy
        have HT := Lib.hid hT
        have HBO := Lib.hid hO
        clear hR hf' hy hT hO
        go_wp2_with fail
        go_loopw [9, 10] (fun fr kk wr => ∃ k : Nat, k ≤ sm.length ∧ kk = .int .i64 k ∧ fr = .bool (freeB (cfR rows) (sm.take k) i) ∧ Below wo.heap.size wo wr) (fun _ kk _ => sm.length - (intOf kk).toNat)
        case atStart => exact ⟨0, Nat.zero_le _, rfl, rfl, Below.refl _ _⟩
        case round =>
          obtain ⟨k, hk, rfl, rfl, hQ⟩ := hrel
          have hTT := Below_then HT.out hQ
          by_cases hlk : k < sm.length
          · have i2 : (k : Int) < ((natI sm).length : Int) := by rw [natI_len]; omega
            obtain ⟨sb, so, e0, hcs, -⟩ := (HSR.out.below hTT).at_ (k := k) (by rw [natI_len]; exact hlk)
            obtain rfl := Option.some.inj e0
            clear e0
            rw [natI_at hlk] at hcs
            have hsk : sm[k]? = some sm[k] := List.getElem?_eq_getElem hlk
            obtain ⟨x0, hx0⟩ : ∃ x0, x0 = sm[k] := ⟨_, rfl⟩
            rw [← hx0] at hcs hsk
            have hxl : x0 < from_ := HSM.out x0 (List.mem_of_getElem? hsk)
            have i3 : (x0 : Int) < (rows.length : Int) := by omega
            obtain ⟨x, hx⟩ := arms_at (show x0 < rows.length by omega)
            obtain ⟨b, off, rfl, hrx, -⟩ := (HH.out.below hTT).arms hx
            obtain ⟨b', off', e, hry, -⟩ := (HH.out.below hTT).arms HY.out
            have e1 : b = b' := congrArg Addr.block (Option.some.inj e)
            have e2 : off = off' := congrArg Addr.off (Option.some.inj e)
            subst e1 e2
            have KX := fun w' => l15ConflictC x y w' (listOk_at H10.out hx) (listOk_at H10.out HY.out)
            have hfs := freeB_snoc (cfR rows) sm (i := i) hsk
            rw [cfR_at hx HY.out] at hfs
            obtain ⟨q, hq⟩ : ∃ q, q = confl x y := ⟨_, rfl⟩
            rw [← hq] at KX hfs
            have KX := Lib.hid KX
            have HFS := Lib.hid hfs
            clear hx0 hsk hx e hfs hq
            cases hfr : freeB (cfR rows) (sm.take k) i
            · have HFR := Lib.hid hfr
              clear hfr hrx hry hcs
              go_wp2_with fail
              refine wp_region_noPanic ?_
              refine wp_region_held_drew (S := (fun w' => Below wr.heap.size wr w')) (by kernel_rfl) (Below.refl _ _).drew (fun hHeld => ?_)
              refine wpAnyH_take (i := 0) (oi := _) (v := ?_) rfl (by kernel_rfl) (by kernel_rfl) (by kernel_rfl) (fun _ _ _ h => h) (Or.inl ⟨by rfl, ?_⟩) (by assumption) ?_
              rotate_left
              · intro w hSw; clear hSw; first | (go_simp; done) | (go_simp; with_reducible rfl)
              simp only [Act.put, List.getElem_toArray, List.getElem_cons_succ, List.getElem_cons_zero, List.setIfInBounds_toArray, List.set_cons_zero, List.set_cons_succ]
              refine wpAnyH_take (i := 1) (oi := _) (v := ?_) rfl (by kernel_rfl) (by kernel_rfl) (by kernel_rfl) (fun _ _ _ h => h) (Or.inl ⟨by rfl, ?_⟩) (by assumption) ?_
              rotate_left
              · intro w hSw; clear hSw; first | (go_simp; done) | (go_simp; with_reducible rfl)
              simp only [Act.put, List.getElem_toArray, List.getElem_cons_succ, List.getElem_cons_zero, List.setIfInBounds_toArray, List.set_cons_zero, List.set_cons_succ]
              refine wpAnyH_take (i := 2) (oi := _) (v := _) rfl (by kernel_rfl) (by kernel_rfl) (by kernel_rfl) (fun _ _ _ h => h) (Or.inr ⟨by kernel_rfl, rfl⟩) (by assumption) ?_
              simp only [Act.put, List.getElem_toArray, List.getElem_cons_succ, List.getElem_cons_zero, List.setIfInBounds_toArray, List.set_cons_zero, List.set_cons_succ]
              refine wpAnyH_take (i := 3) (oi := _) (v := _) rfl (by kernel_rfl) (by kernel_rfl) (by kernel_rfl) (fun _ _ _ h => h) (Or.inr ⟨by kernel_rfl, rfl⟩) (by assumption) ?_
              simp only [Act.put, List.getElem_toArray, List.getElem_cons_succ, List.getElem_cons_zero, List.setIfInBounds_toArray, List.set_cons_zero, List.set_cons_succ]
              refine wpAnyH_take (i := 4) (oi := _) (v := _) rfl (by kernel_rfl) (by kernel_rfl) (by kernel_rfl) (fun _ _ _ h => h) (Or.inr ⟨by kernel_rfl, rfl⟩) (by assumption) ?_
              simp only [Act.put, List.getElem_toArray, List.getElem_cons_succ, List.getElem_cons_zero, List.setIfInBounds_toArray, List.set_cons_zero, List.set_cons_succ]
              refine wpAnyH_take (i := 5) (oi := _) (v := _) rfl (by kernel_rfl) (by kernel_rfl) (by kernel_rfl) (fun _ _ _ h => h) (Or.inr ⟨by kernel_rfl, rfl⟩) (by assumption) ?_
              simp only [Act.put, List.getElem_toArray, List.getElem_cons_succ, List.getElem_cons_zero, List.setIfInBounds_toArray, List.set_cons_zero, List.set_cons_succ]
              refine wpAnyH_take (i := 6) (oi := _) (v := _) rfl (by kernel_rfl) (by kernel_rfl) (by kernel_rfl) (fun _ _ _ h => h) (Or.inr ⟨by kernel_rfl, rfl⟩) (by assumption) ?_
              simp only [Act.put, List.getElem_toArray, List.getElem_cons_succ, List.getElem_cons_zero, List.setIfInBounds_toArray, List.set_cons_zero, List.set_cons_succ]
              refine wpAnyH_take (i := 7) (oi := _) (v := _) rfl (by kernel_rfl) (by kernel_rfl) (by kernel_rfl) (fun _ _ _ h => h) (Or.inr ⟨by kernel_rfl, rfl⟩) (by assumption) ?_
              simp only [Act.put, List.getElem_toArray, List.getElem_cons_succ, List.getElem_cons_zero, List.setIfInBounds_toArray, List.set_cons_zero, List.set_cons_succ]
              refine wpAnyH_take (i := 8) (oi := _) (v := _) rfl (by kernel_rfl) (by kernel_rfl) (by kernel_rfl) (fun _ _ _ h => h) (Or.inr ⟨by kernel_rfl, rfl⟩) (by assumption) ?_
              simp only [Act.put, List.getElem_toArray, List.getElem_cons_succ, List.getElem_cons_zero, List.setIfInBounds_toArray, List.set_cons_zero, List.set_cons_succ]
              refine wpAnyH_take (i := 9) (oi := _) (v := _) rfl (by kernel_rfl) (by kernel_rfl) (by kernel_rfl) (fun _ _ _ h => h) (Or.inr ⟨by kernel_rfl, rfl⟩) (by assumption) ?_
              simp only [Act.put, List.getElem_toArray, List.getElem_cons_succ, List.getElem_cons_zero, List.setIfInBounds_toArray, List.set_cons_zero, List.set_cons_succ]
              refine wpAnyH_take (i := 10) (oi := _) (v := _) rfl (by kernel_rfl) (by kernel_rfl) (by kernel_rfl) (fun _ _ _ h => h) (Or.inr ⟨by kernel_rfl, rfl⟩) (by assumption) ?_
              simp only [Act.put, List.getElem_toArray, List.getElem_cons_succ, List.getElem_cons_zero, List.setIfInBounds_toArray, List.set_cons_zero, List.set_cons_succ]
              refine wpAnyH_take (i := 11) (oi := _) (v := _) rfl (by kernel_rfl) (by kernel_rfl) (by kernel_rfl) (fun _ _ _ h => h) (Or.inr ⟨by kernel_rfl, rfl⟩) (by assumption) ?_
              simp only [Act.put, List.getElem_toArray, List.getElem_cons_succ, List.getElem_cons_zero, List.setIfInBounds_toArray, List.set_cons_zero, List.set_cons_succ]
              refine wpAnyH_take (i := 12) (oi := _) (v := _) rfl (by kernel_rfl) (by kernel_rfl) (by kernel_rfl) (fun _ _ _ h => h) (Or.inr ⟨by kernel_rfl, rfl⟩) (by assumption) ?_
              simp only [Act.put, List.getElem_toArray, List.getElem_cons_succ, List.getElem_cons_zero, List.setIfInBounds_toArray, List.set_cons_zero, List.set_cons_succ]
              refine wpAnyH_take (i := 13) (oi := _) (v := _) rfl (by kernel_rfl) (by kernel_rfl) (by kernel_rfl) (fun _ _ _ h => h) (Or.inr ⟨by kernel_rfl, rfl⟩) (by assumption) ?_
              simp only [Act.put, List.getElem_toArray, List.getElem_cons_succ, List.getElem_cons_zero, List.setIfInBounds_toArray, List.set_cons_zero, List.set_cons_succ]
              refine wpAnyH_take (i := 14) (oi := _) (v := _) rfl (by kernel_rfl) (by kernel_rfl) (by kernel_rfl) (fun _ _ _ h => h) (Or.inr ⟨by kernel_rfl, rfl⟩) (by assumption) ?_
              simp only [Act.put, List.getElem_toArray, List.getElem_cons_succ, List.getElem_cons_zero, List.setIfInBounds_toArray, List.set_cons_zero, List.set_cons_succ]
              refine wpAnyH_take (i := 15) (oi := _) (v := ?_) rfl (by kernel_rfl) (by kernel_rfl) (by kernel_rfl) (fun _ _ _ h => h) (Or.inl ⟨by rfl, ?_⟩) (by assumption) ?_
              rotate_left
              · intro w hSw; clear hSw; first | (go_simp; done) | (go_simp; with_reducible rfl)
              simp only [Act.put, List.getElem_toArray, List.getElem_cons_succ, List.getElem_cons_zero, List.setIfInBounds_toArray, List.set_cons_zero, List.set_cons_succ]
              refine wpAnyH_take (i := 16) (oi := _) (v := ?_) rfl (by kernel_rfl) (by kernel_rfl) (by kernel_rfl) (fun _ _ _ h => h) (Or.inl ⟨by rfl, ?_⟩) (by assumption) ?_
              rotate_left
              · intro w hSw; clear hSw; first | (go_simp; done) | (go_simp; with_reducible rfl)
              simp only [Act.put, List.getElem_toArray, List.getElem_cons_succ, List.getElem_cons_zero, List.setIfInBounds_toArray, List.set_cons_zero, List.set_cons_succ]
              refine wpAnyH_done (by kernel_rfl) ?_ _
              refine NoPanic.normal ?_
              have hQ := Below_then hQ hHeld
              clear hHeld
              go_wp2
              go_roundw
              case rel => exact ⟨k + 1, by omega, by go_num, by rw [HFS.out, HFR.out]; rfl, hQ⟩
              case measure => simp [intOf]; omega
            · have HFR := Lib.hid hfr
              clear hfr
              go_wp2_with fail
              refine wp_region_noPanic ?_
              refine wp_region_held_drew (S := (fun w' => w'.rangeAt b (off + x0 * 15) (ac x) ∧ w'.rangeAt b (off + i * 15) (ac y) ∧ w'.cell? ⟨sb, so + k, none⟩ = some (.int .i64 (x0 : Int) : Value) ∧ Below wr.heap.size wr w')) (by kernel_rfl) ⟨hrx, hry, hcs, (Below.refl _ _).drew⟩ (fun hHeld => ?_)
              refine wpAnyH_take (i := 0) (oi := _) (v := ?_) rfl (by kernel_rfl) (by kernel_rfl) (by kernel_rfl) (fun _ _ _ h => h) (Or.inl ⟨by rfl, ?_⟩) (by assumption) ?_
              rotate_left
              · intro w hSw; clear hSw; first | (go_simp; done) | (go_simp; with_reducible rfl)
              simp only [Act.put, List.getElem_toArray, List.getElem_cons_succ, List.getElem_cons_zero, List.setIfInBounds_toArray, List.set_cons_zero, List.set_cons_succ]
              refine wpAnyH_take (i := 1) (oi := _) (v := ?_) rfl (by kernel_rfl) (by kernel_rfl) (by kernel_rfl) (fun _ _ _ h => h) (Or.inl ⟨by rfl, ?_⟩) (by assumption) ?_
              rotate_left
              · intro w hSw; clear hSw; first | (go_simp; done) | (go_simp; with_reducible rfl)
              simp only [Act.put, List.getElem_toArray, List.getElem_cons_succ, List.getElem_cons_zero, List.setIfInBounds_toArray, List.set_cons_zero, List.set_cons_succ]
              refine wpAnyH_take (i := 2) (oi := _) (v := ?_) rfl (by kernel_rfl) (by kernel_rfl) (by kernel_rfl) (fun _ _ _ h => h) (Or.inl ⟨by rfl, ?_⟩) (by assumption) ?_
              rotate_left
              · intro w hSw; clear hSw; first | (go_simp; done) | (go_simp; with_reducible rfl)
              simp only [Act.put, List.getElem_toArray, List.getElem_cons_succ, List.getElem_cons_zero, List.setIfInBounds_toArray, List.set_cons_zero, List.set_cons_succ]
              refine wpAnyH_take (i := 3) (oi := _) (v := ?_) rfl (by kernel_rfl) (by kernel_rfl) (by kernel_rfl) (fun _ _ _ h => h) (Or.inl ⟨by rfl, ?_⟩) (by assumption) ?_
              rotate_left
              · intro w hSw; clear hSw; first | (go_simp; done) | (go_simp; with_reducible rfl)
              simp only [Act.put, List.getElem_toArray, List.getElem_cons_succ, List.getElem_cons_zero, List.setIfInBounds_toArray, List.set_cons_zero, List.set_cons_succ]
              refine wpAnyH_take (i := 4) (oi := _) (v := ?_) rfl (by kernel_rfl) (by kernel_rfl) (by kernel_rfl) (fun _ _ _ h => h) (Or.inl ⟨by rfl, ?_⟩) (by assumption) ?_
              rotate_left
              · intro w hSw; clear hSw; first | (go_simp; done) | (go_simp; with_reducible rfl)
              simp only [Act.put, List.getElem_toArray, List.getElem_cons_succ, List.getElem_cons_zero, List.setIfInBounds_toArray, List.set_cons_zero, List.set_cons_succ]
              refine wpAnyH_take (i := 5) (oi := _) (v := ?_) rfl (by kernel_rfl) (by kernel_rfl) (by kernel_rfl) (fun _ _ _ h => h) (Or.inl ⟨by rfl, ?_⟩) (by assumption) ?_
              rotate_left
              · intro w hSw; clear hSw; first | (go_simp; done) | (go_simp; with_reducible rfl)
              simp only [Act.put, List.getElem_toArray, List.getElem_cons_succ, List.getElem_cons_zero, List.setIfInBounds_toArray, List.set_cons_zero, List.set_cons_succ]
              refine wpAnyH_take (i := 6) (oi := _) (v := ?_) rfl (by kernel_rfl) (by kernel_rfl) (by kernel_rfl) (fun _ _ _ h => h) (Or.inl ⟨by rfl, ?_⟩) (by assumption) ?_
              rotate_left
              · intro w hSw; (try dsimp only at hSw); first | (go_simp; done) | (go_simp; with_reducible rfl)
              simp only [Act.put, List.getElem_toArray, List.getElem_cons_succ, List.getElem_cons_zero, List.setIfInBounds_toArray, List.set_cons_zero, List.set_cons_succ]
              refine wpAnyH_take (i := 7) (oi := _) (v := ?_) rfl (by kernel_rfl) (by kernel_rfl) (by kernel_rfl) (fun _ _ _ h => h) (Or.inl ⟨by rfl, ?_⟩) (by assumption) ?_
              rotate_left
              · intro w hSw; clear hSw; first | (go_simp; done) | (go_simp; with_reducible rfl)
              simp only [Act.put, List.getElem_toArray, List.getElem_cons_succ, List.getElem_cons_zero, List.setIfInBounds_toArray, List.set_cons_zero, List.set_cons_succ]
              refine wpAnyH_take (i := 8) (oi := _) (v := _) rfl ?g1_3 ?g2_3 ?g3_3 (fun _ _ _ h => h) (yieldsIf_load_mid ?g4_3 _ _ rfl b ?oo_3 ?g5_3 (ac x) _ ?g6_3 Try.underlying31 rfl (info_ac x)) ?g7_3 ?_
              case g5_3 => rfl
              case g1_3 => kernel_rfl
              case g2_3 => kernel_rfl
              case g3_3 => kernel_rfl
              case g6_3 => exact (fun _ h => h.1)
              case g4_3 => kernel_rfl
              case g7_3 => assumption
              simp only [Act.put, List.getElem_toArray, List.getElem_cons_succ, List.getElem_cons_zero, List.setIfInBounds_toArray, List.set_cons_zero, List.set_cons_succ]
              refine wpAnyH_take (i := 9) (oi := _) (v := ?_) rfl (by kernel_rfl) (by kernel_rfl) (by kernel_rfl) (fun _ _ _ h => h) (Or.inl ⟨by rfl, ?_⟩) (by assumption) ?_
              rotate_left
              · intro w hSw; clear hSw; first | (go_simp; done) | (go_simp; with_reducible rfl)
              simp only [Act.put, List.getElem_toArray, List.getElem_cons_succ, List.getElem_cons_zero, List.setIfInBounds_toArray, List.set_cons_zero, List.set_cons_succ]
              refine wpAnyH_take (i := 10) (oi := _) (v := ?_) rfl (by kernel_rfl) (by kernel_rfl) (by kernel_rfl) (fun _ _ _ h => h) (Or.inl ⟨by rfl, ?_⟩) (by assumption) ?_
              rotate_left
              · intro w hSw; clear hSw; first | (go_simp; done) | (go_simp; with_reducible rfl)
              simp only [Act.put, List.getElem_toArray, List.getElem_cons_succ, List.getElem_cons_zero, List.setIfInBounds_toArray, List.set_cons_zero, List.set_cons_succ]
              refine wpAnyH_take (i := 11) (oi := _) (v := ?_) rfl (by kernel_rfl) (by kernel_rfl) (by kernel_rfl) (fun _ _ _ h => h) (Or.inl ⟨by rfl, ?_⟩) (by assumption) ?_
              rotate_left
              · intro w hSw; clear hSw; first | (go_simp; done) | (go_simp; with_reducible rfl)
              simp only [Act.put, List.getElem_toArray, List.getElem_cons_succ, List.getElem_cons_zero, List.setIfInBounds_toArray, List.set_cons_zero, List.set_cons_succ]
              refine wpAnyH_take (i := 12) (oi := _) (v := _) rfl ?g1_4 ?g2_4 ?g3_4 (fun _ _ _ h => h) (yieldsIf_load_mid ?g4_4 _ _ rfl b ?oo_4 ?g5_4 (ac y) _ ?g6_4 Try.underlying31 rfl (info_ac y)) ?g7_4 ?_
              case g5_4 => rfl
              case g1_4 => kernel_rfl
              case g2_4 => kernel_rfl
              case g3_4 => kernel_rfl
              case g6_4 => exact (fun _ h => h.2.1)
              case g4_4 => kernel_rfl
              case g7_4 => assumption
              simp only [Act.put, List.getElem_toArray, List.getElem_cons_succ, List.getElem_cons_zero, List.setIfInBounds_toArray, List.set_cons_zero, List.set_cons_succ]
              refine wpAnyH_ready (rs := [13]) (by kernel_rfl) (by simp) ?_
              refine AllReadyH.cons (o := _) rfl (fun K hK => ?_) AllReadyH.nil
              go_simp
              refine (KX.out _).mono ?_
              rintro e x2 ⟨rfl, hx2⟩
              go_wp2_with fail
              refine hK.out _ _ ⟨rangeAt_below hHeld.1 hx2, rangeAt_below hHeld.2.1 hx2, keep_cell hHeld.2.2.1 hx2, Below_then hHeld.2.2.2 hx2⟩ (fun hHeld => ?_)
              clear hK K
              try simp only [Act.put, List.getElem_toArray, List.getElem_cons_succ, List.getElem_cons_zero, List.setIfInBounds_toArray, List.set_cons_zero, List.set_cons_succ]
              refine wpAnyH_take (i := 14) (oi := _) (v := ?_) rfl (by kernel_rfl) (by kernel_rfl) (by kernel_rfl) (fun _ _ _ h => h) (Or.inl ⟨by rfl, ?_⟩) (by assumption) ?_
              rotate_left
              · intro w hSw; clear hSw; first | (go_simp; done) | (go_simp; with_reducible rfl)
              simp only [Act.put, List.getElem_toArray, List.getElem_cons_succ, List.getElem_cons_zero, List.setIfInBounds_toArray, List.set_cons_zero, List.set_cons_succ]
              refine wpAnyH_take (i := 15) (oi := _) (v := ?_) rfl (by kernel_rfl) (by kernel_rfl) (by kernel_rfl) (fun _ _ _ h => h) (Or.inl ⟨by rfl, ?_⟩) (by assumption) ?_
              rotate_left
              · intro w hSw; clear hSw; first | (go_simp; done) | (go_simp; with_reducible rfl)
              simp only [Act.put, List.getElem_toArray, List.getElem_cons_succ, List.getElem_cons_zero, List.setIfInBounds_toArray, List.set_cons_zero, List.set_cons_succ]
              refine wpAnyH_take (i := 16) (oi := _) (v := ?_) rfl (by kernel_rfl) (by kernel_rfl) (by kernel_rfl) (fun _ _ _ h => h) (Or.inl ⟨by rfl, ?_⟩) (by assumption) ?_
              rotate_left
              · intro w hSw; clear hSw; first | (go_simp; done) | (go_simp; with_reducible rfl)
              simp only [Act.put, List.getElem_toArray, List.getElem_cons_succ, List.getElem_cons_zero, List.setIfInBounds_toArray, List.set_cons_zero, List.set_cons_succ]
              refine wpAnyH_done (by kernel_rfl) ?_ _
              refine NoPanic.normal ?_
              have hQ := Below_then hQ hHeld.2.2.2
              clear hHeld hrx hry hcs
              go_wp2
              go_roundw
              case rel => exact ⟨k + 1, by omega, by go_num, by rw [HFS.out, HFR.out]; simp, hQ⟩
              case measure => simp [intOf]; omega
          · obtain rfl : k = sm.length := by omega
            have i2 : ¬ ((sm.length : Nat) : Int) < ((natI sm).length : Int) := by rw [natI_len]; omega
            rw [List.take_length]
            cases hfr : freeB (cfR rows) sm i
            · have HR3 : dstL (cfR rows) (rows.length - (i + 1)) sm (i + 1) bst = R := by
                have := HR2.out
                rw [hfr, if_neg (by simp)] at this
                rw [← this]
                congr 1
                have := HF.out
                omega
              have HR3 := Lib.hid HR3
              have hO2 := HBO.out.below hQ
              clear hfr
              go_wp2
              go_roundw
              case rel => exact ⟨i + 1, bst, _, by omega, by omega, by go_num, rfl, hO2, HR3.out, hTT⟩
              case measure => simp [intOf]; omega
            · have HFR := Lib.hid hfr
              clear hfr
              have hO2 := HBO.out.below hQ
              have hrd := HSR.out.below hTT
              go_wp2_with fail
              refine (l1Own_any sad sc (natI sm) _ hrd (by omega)).mono ?_
              rintro e w5 ⟨ov, rfl, hov, hb5⟩
              clear hrd
              go_wp2_with (first | (at_builtin; refine wp_appI rfl _ _ rfl wr.heap.size _ (natI sm) rfl (hov.alloc _) _ _ rfl (cell_of (heap_hit _ _ _ rfl) 0) ?c1 ?c2 ?_; rotate_left 2; intro v' w9 hO9 hG9 hL9; have hQ9 : Below wr.heap.size wr w9 := (Below_al hb5 _).trans hL9; rw [show natI sm ++ [(i : Int)] = natI (sm ++ [i]) from (natI_app sm [i]).symm] at hO9; obtain ⟨ng, nc, hvv, -, -⟩ := hO9.pos (by rw [natI_len]; simp); have KI := IH.out (rows.length - (i + 1)) (by have := HF.out; omega) (i + 1) (sm ++ [i]) wr.heap.size v' w9 (by omega) (fun x hx => by (rcases List.mem_append.1 hx with hx | hx; (have := HSM.out x hx; omega); (simp at hx; omega))) (by simp; omega) (HH.out.below (Below_then HT.out (hQ.trans (hQ9.mono (by have := hQ.size; omega))))) hQ9.size hO9 ⟨_, _, hvv⟩; rw [show ((i + 1 : Nat) : Int) = (i : Int) + 1 from by omega] at KI; have KI := Lib.hid KI; clear hL9 hG9 hO9 hvv) | fail)
              try (case c1 => omega)
              try (case c2 => (have := hb5.size; simp; omega))
              refine KI.out.mono ?_
              rintro e w10 ⟨ov2, rfl, hO10, hb10⟩
              have hQa := Below_then hQ9 hb10
              have hQb : Below wo.heap.size wo w10 := hQ.trans (hQa.mono hQ.size)
              have hT10 := Below_then HT.out hQb
              have hU10 := HBO.out.below hQb
              have hR3 := HR2.out
              rw [HFR.out, if_pos rfl] at hR3
              have hf9 : dstL (cfR rows) (rows.length - (i + 1)) (sm ++ [i]) (i + 1) (sm ++ [i]) = dstL (cfR rows) f' (sm ++ [i]) (i + 1) (sm ++ [i]) := by
                congr 1
                have := HF.out
                omega
              rw [hf9] at hO10
              obtain ⟨OUT, hOUT⟩ : ∃ OUT, OUT = dstL (cfR rows) f' (sm ++ [i]) (i + 1) (sm ++ [i]) := ⟨_, rfl⟩
              rw [← hOUT] at hO10 hR3
              have HR3 := Lib.hid hR3
              obtain ⟨oA, oc, rfl, -⟩ := hO10.form
              obtain ⟨uA, uc, rfl, -⟩ := hU10.form
              have hOb := OwnI.base hO10 (B' := B) (by have := hTT.size; omega)
              clear hf9 hOUT hR3 hO10 hb10 hQa hov hO2 hQ9 hb5
              by_cases hq : ((natI bst).length : Int) < ((natI OUT).length : Int)
              · have HR4 : dstL (cfR rows) (rows.length - (i + 1)) sm (i + 1) OUT = R := by
                  have := HR3.out
                  rw [if_pos (by rw [natI_len, natI_len] at hq; omega)] at this
                  rw [← this]
                  congr 1
                  have := HF.out
                  omega
                have HR4 := Lib.hid HR4
                clear hU10
                go_wp2
                go_roundw
                case rel => exact ⟨i + 1, OUT, _, by omega, by omega, by go_num, rfl, hOb, HR4.out, hT10⟩
                case measure => simp [intOf]; omega
              · have HR4 : dstL (cfR rows) (rows.length - (i + 1)) sm (i + 1) bst = R := by
                  have := HR3.out
                  rw [if_neg (by rw [natI_len, natI_len] at hq; omega)] at this
                  rw [← this]
                  congr 1
                  have := HF.out
                  omega
                have HR4 := Lib.hid HR4
                clear hOb
                go_wp2
                go_roundw
                case rel => exact ⟨i + 1, bst, _, by omega, by omega, by go_num, rfl, hU10, HR4.out, hT10⟩
                case measure => simp [intOf]; omega
      · obtain rfl : i = rows.length := by omega
        have d1 : decide (rows.length < rows.length) = false := by simp
        rw [Nat.sub_self, dstL] at hR
        subst hR
        go_wp2
        go_ret
        exact ⟨_, rfl, hO, hT⟩
theorem listOk_both (rows : List ArmsD) : (listOk 16 rows && decide (rows.length ≤ 10)) = listOk 10 rows := by
  unfold listOk
  rw [Bool.eq_iff_iff]
  simp only [Bool.and_eq_true, decide_eq_true_iff]
  constructor
  · rintro ⟨⟨-, h⟩, h2⟩
    exact ⟨h2, h⟩
  · rintro ⟨h2, h⟩
    exact ⟨⟨by omega, h⟩, h2⟩
set_option maxHeartbeats 4000000 in
theorem specMost_any (A : Option Addr) (c : Nat) (rows : List ArmsD) (w : World) (h : RdR 15 w A (acs rows)) (hl : rows.length ≤ 1048576) :
    Calls Try.prog 11 #[.slice A rows.length c] w (IntsOk w (mdL rows) (listOk 10 rows)) := by
  have KL := l15List_any A c rows w h hl
  have HH := Lib.hid h
  have hb := listOk_both rows
  clear h
  cases q : listOk 16 rows
  · rw [q] at KL hb
    have e0 : listOk 10 rows = false := by rw [← hb]; rfl
    have e1 : mdL rows = [] := by unfold mdL; rw [e0]; rfl
    rw [e0, e1]
    have KL := Lib.hid KL
    clear q hb e0 e1
    go_enter Try.func11, Try.ntmps11
    go_wp2_with fail
    refine KL.out.mono ?_
    rintro e w1 ⟨rfl, hb1⟩
    have hO : OwnI (w1.alloc (.cells #[] 3)) w.heap.size 3 (.slice (some ⟨w1.heap.size, 0, none⟩) 0 0) [] := OwnI.none0 _ _ _ rfl hb1.size
    have hT := Below_al hb1 (.cells #[] 3)
    clear hb1
    go_wp2
    go_ret2
    exact ⟨_, rfl, hO, hT⟩
  · rw [q] at KL hb
    have KL := Lib.hid KL
    by_cases h10 : (rows.length : Int) ≤ 10
    · have e0 : listOk 10 rows = true := by rw [← hb]; simp; omega
      have e1 : mdL rows = natI (dstL (cfR rows) rows.length [] 0 []) := by unfold mdL; rw [e0]; rfl
      rw [e0, e1]
      have HE := Lib.hid e0
      clear q hb e0 e1
      go_enter Try.func11, Try.ntmps11
      go_wp2_with fail
      refine KL.out.mono ?_
      rintro e w1 ⟨rfl, hb1⟩
      have hO : OwnI (w1.alloc (.cells #[] 3)) w.heap.size 3 (.slice (some ⟨w1.heap.size, 0, none⟩) 0 0) [] := OwnI.none0 _ _ _ rfl hb1.size
      have hT := Below_al hb1 (.cells #[] 3)
      have KD : Calls Try.prog 37 #[.slice A rows.length c, .slice (some ⟨w1.heap.size, 0, none⟩) 0 0, .int .i64 0] (w1.alloc (.cells #[] 3)) (OwnPost (w1.alloc (.cells #[] 3)) w.heap.size (natI (dstL (cfR rows) rows.length [] 0 []))) :=
        l15Distinct_any A c rows HE.out rows.length 0 [] w.heap.size _ _ (by omega) (fun x hx => by simp at hx) (Nat.le_refl _) (HH.out.below hT) hT.size hO ⟨_, _, rfl⟩
      have KD := Lib.hid KD
      clear hb1 hO
      go_wp2_with fail
      refine KD.out.mono ?_
      rintro e w2 ⟨v, rfl, hO, hb2⟩
      have hT2 := Below_then hT hb2
      clear hb2 hT
      go_wp2
      go_ret2
      exact ⟨_, rfl, hO, hT2⟩
    · have e0 : listOk 10 rows = false := by rw [← hb]; simp; omega
      have e1 : mdL rows = [] := by unfold mdL; rw [e0]; rfl
      rw [e0, e1]
      clear q hb e0 e1
      go_enter Try.func11, Try.ntmps11
      go_wp2_with fail
      refine KL.out.mono ?_
      rintro e w1 ⟨rfl, hb1⟩
      have hO : OwnI (w1.alloc (.cells #[] 3)) w.heap.size 3 (.slice (some ⟨w1.heap.size, 0, none⟩) 0 0) [] := OwnI.none0 _ _ _ rfl hb1.size
      have hT := Below_al hb1 (.cells #[] 3)
      clear hb1
      go_wp2
      go_ret2
      exact ⟨_, rfl, hO, hT⟩
theorem mdL_len (rows : List ArmsD) : (mdL rows).length ≤ rows.length := by
  cases h : listOk 10 rows
  · unfold mdL; rw [h]; simp
  · rw [mdL_best rows h, natI_len]
    exact bestI_len _ _ _
end Go.Proofs.Ytdjddhdplknalaa
