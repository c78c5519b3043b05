/- Contracts: the short form of letters, of the reference. -/
import Derived.Test.YtenaadmifppphaaGreatDoorRuns
namespace Go.Proofs.YtenaadmifppphaaGreatDoor
open Go.ChangeShapes Go.WideShapes Go.ChangeAt Go.RowKit
set_option linter.unusedVariables false
set_option linter.unusedSimpArgs false
theorem str_app (a b : List UInt8) : (⟨a.toArray⟩ : ByteArray) ++ ⟨b.toArray⟩ = ⟨(a ++ b).toArray⟩ := by
  apply ByteArray.ext
  simp [ByteArray.data_append]
theorem ext_one {s : ByteArray} {a : Nat} (h : a < s.size) : s.extract a (a + 1) = ⟨[s[a]'h].toArray⟩ := by
  apply ByteArray.ext
  apply Array.ext'
  rw [ByteArray.data_extract, Array.toList_extract]
  show List.extract s.data.toList a (a + 1) = [s[a]'h]
  have h2 : a < s.data.toList.length := by rw [bytes_len]; exact h
  rw [List.extract_eq_take_drop, Nat.add_sub_cancel_left, List.drop_eq_getElem_cons h2]
  rfl
set_option maxHeartbeats 4000000 in
theorem l13Runs_any (s : ByteArray) (hs : s.size ≤ 900000) (w : World) :
    Calls Tryz.prog 23 #[.string s] w fun e w' => e = .returned (.string ⟨(runsL s.data.toList).toArray⟩) ∧ Below w.heap.size w w' := by
  have hbl := bytes_len s
  go_enter Tryz.func23, Tryz.ntmps23
  go_wp2_with fail
  go_loopw [3, 4] (fun ov av wr => ∃ (a : Nat) (o : List UInt8), a ≤ s.size ∧ av = .int .i64 a ∧ ov = .string ⟨o.toArray⟩ ∧ o ++ runsL (s.data.toList.drop a) = runsL s.data.toList ∧ o.length ≤ 8 * a ∧ Below w.heap.size w wr) (fun _ av _ => s.size - (intOf av).toNat)
  case atStart => exact ⟨0, [], Nat.zero_le _, rfl, rfl, by simp, by simp, Below.refl _ _⟩
  case round =>
    obtain ⟨a, o, ha, rfl, rfl, hE, hol, hb⟩ := hrel
    obtain ⟨wo, rfl⟩ : ∃ x, x = wr := ⟨wr, rfl⟩
    by_cases hlt : a < s.size
    · have i1 : (a : Int) < (s.size : Int) := by omega
      have d1 : decide (a < s.size) = true := by simpa using hlt
      have HE := Lib.hid hE
      have HB := Lib.hid hb
      obtain ⟨zc, hzc⟩ : ∃ z : Int, ((s[a]'hlt).toNat : Int) = z := ⟨_, rfl⟩
      have HZC := Lib.hid hzc
      clear hE hb
      go_wp2_with fail
      go_loopw [5] (fun ev wr => ∃ e : Nat, a ≤ e ∧ e ≤ s.size ∧ ev = .int .i64 e ∧ (∀ i x, a < i → i < e → s.data.toList[i]? = some x → x = s[a]'hlt) ∧ Below wo.heap.size wo wr) (fun ev _ => s.size - (intOf ev).toNat)
      case atStart => exact ⟨a, Nat.le_refl _, ha, rfl, fun i x h1 h2 => by omega, Below.refl _ _⟩
      case round =>
        obtain ⟨e, hae0, hes, rfl, h1, hQ⟩ := hrel
        have H1 := Lib.hid h1
        clear h1
        by_cases hel : e < s.size
        · have i2 : (e : Int) < (s.size : Int) := by omega
          have d2 : decide (e < s.size) = true := by simpa using hel
          obtain ⟨ze, hze⟩ : ∃ z : Int, ((s[e]'hel).toNat : Int) = z := ⟨_, rfl⟩
          by_cases hq : ze = zc
          · have hqq : (ze == zc) = true := by simpa using hq
            have hnew : ∀ i x, a < i → i < e + 1 → s.data.toList[i]? = some x → x = s[a]'hlt := fun i x hi1 hi2 hx => by
              by_cases ee : i = e
              · subst ee
                rw [byte_at hel] at hx
                obtain rfl := Option.some.inj hx
                exact UInt8.toNat_inj.1 (by omega)
              · exact H1.out i x hi1 (by omega) hx
            have HNEW := Lib.hid hnew
            clear hnew
            rw [hq] at hze hqq
            clear hq
            go_wp2_with fail
            refine wp_region_noPanic ?_
            refine wp_region_held_drew (S := (fun w' => Below wr.heap.size wr w')) (by kernel_rfl) (Below.refl _ _).drew (fun hHeld => ?_)
            refine wpAnyH_take (i := 0) (oi := _) (v := ?_) rfl (by kernel_rfl) (by kernel_rfl) (by kernel_rfl) (fun _ _ _ h => h) (Or.inl ⟨by rfl, ?_⟩) (by assumption) ?_
            rotate_left
            · intro w hSw; clear hSw; first | (go_simp; done) | (go_simp; with_reducible rfl)
            simp only [Act.put, List.getElem_toArray, List.getElem_cons_succ, List.getElem_cons_zero, List.setIfInBounds_toArray, List.set_cons_zero, List.set_cons_succ]
            refine wpAnyH_take (i := 1) (oi := _) (v := ?_) rfl (by kernel_rfl) (by kernel_rfl) (by kernel_rfl) (fun _ _ _ h => h) (Or.inl ⟨by rfl, ?_⟩) (by assumption) ?_
            rotate_left
            · intro w hSw; clear hSw; first | (go_simp; done) | (go_simp; with_reducible rfl)
            simp only [Act.put, List.getElem_toArray, List.getElem_cons_succ, List.getElem_cons_zero, List.setIfInBounds_toArray, List.set_cons_zero, List.set_cons_succ]
            refine wpAnyH_take (i := 2) (oi := _) (v := ?_) rfl (by kernel_rfl) (by kernel_rfl) (by kernel_rfl) (fun _ _ _ h => h) (Or.inl ⟨by rfl, ?_⟩) (by assumption) ?_
            rotate_left
            · intro w hSw; clear hSw; first | (go_simp; done) | (go_simp; with_reducible rfl)
            simp only [Act.put, List.getElem_toArray, List.getElem_cons_succ, List.getElem_cons_zero, List.setIfInBounds_toArray, List.set_cons_zero, List.set_cons_succ]
            refine wpAnyH_take (i := 3) (oi := _) (v := ?_) rfl (by kernel_rfl) (by kernel_rfl) (by kernel_rfl) (fun _ _ _ h => h) (Or.inl ⟨by rfl, ?_⟩) (by assumption) ?_
            rotate_left
            · intro w hSw; clear hSw; first | (go_simp; done) | (go_simp; with_reducible rfl)
            simp only [Act.put, List.getElem_toArray, List.getElem_cons_succ, List.getElem_cons_zero, List.setIfInBounds_toArray, List.set_cons_zero, List.set_cons_succ]
            refine wpAnyH_take (i := 4) (oi := _) (v := ?_) rfl (by kernel_rfl) (by kernel_rfl) (by kernel_rfl) (fun _ _ _ h => h) (Or.inl ⟨by rfl, ?_⟩) (by assumption) ?_
            rotate_left
            · intro w hSw; clear hSw; first | (go_simp; done) | (go_simp; with_reducible rfl)
            simp only [Act.put, List.getElem_toArray, List.getElem_cons_succ, List.getElem_cons_zero, List.setIfInBounds_toArray, List.set_cons_zero, List.set_cons_succ]
            refine wpAnyH_take (i := 5) (oi := _) (v := ?_) rfl (by kernel_rfl) (by kernel_rfl) (by kernel_rfl) (fun _ _ _ h => h) (Or.inl ⟨by rfl, ?_⟩) (by assumption) ?_
            rotate_left
            · intro w hSw; clear hSw; first | (go_simp; done) | (go_simp; with_reducible rfl)
            simp only [Act.put, List.getElem_toArray, List.getElem_cons_succ, List.getElem_cons_zero, List.setIfInBounds_toArray, List.set_cons_zero, List.set_cons_succ]
            refine wpAnyH_take (i := 6) (oi := _) (v := ?_) rfl (by kernel_rfl) (by kernel_rfl) (by kernel_rfl) (fun _ _ _ h => h) (Or.inl ⟨by rfl, ?_⟩) (by assumption) ?_
            rotate_left
            · intro w hSw; clear hSw; first | (go_simp; done) | (go_simp; with_reducible rfl)
            simp only [Act.put, List.getElem_toArray, List.getElem_cons_succ, List.getElem_cons_zero, List.setIfInBounds_toArray, List.set_cons_zero, List.set_cons_succ]
            refine wpAnyH_take (i := 7) (oi := _) (v := ?_) rfl (by kernel_rfl) (by kernel_rfl) (by kernel_rfl) (fun _ _ _ h => h) (Or.inl ⟨by rfl, ?_⟩) (by assumption) ?_
            rotate_left
            · intro w hSw; clear hSw; first | (go_simp; done) | (go_simp; with_reducible rfl)
            simp only [Act.put, List.getElem_toArray, List.getElem_cons_succ, List.getElem_cons_zero, List.setIfInBounds_toArray, List.set_cons_zero, List.set_cons_succ]
            refine wpAnyH_take (i := 8) (oi := _) (v := ?_) rfl (by kernel_rfl) (by kernel_rfl) (by kernel_rfl) (fun _ _ _ h => h) (Or.inl ⟨by rfl, ?_⟩) (by assumption) ?_
            rotate_left
            · intro w hSw; clear hSw; first | (go_simp; done) | (go_simp; with_reducible rfl)
            simp only [Act.put, List.getElem_toArray, List.getElem_cons_succ, List.getElem_cons_zero, List.setIfInBounds_toArray, List.set_cons_zero, List.set_cons_succ]
            refine wpAnyH_take (i := 9) (oi := _) (v := ?_) rfl (by kernel_rfl) (by kernel_rfl) (by kernel_rfl) (fun _ _ _ h => h) (Or.inl ⟨by rfl, ?_⟩) (by assumption) ?_
            rotate_left
            · intro w hSw; clear hSw; first | (go_simp; done) | (go_simp; with_reducible rfl)
            simp only [Act.put, List.getElem_toArray, List.getElem_cons_succ, List.getElem_cons_zero, List.setIfInBounds_toArray, List.set_cons_zero, List.set_cons_succ]
            refine wpAnyH_take (i := 10) (oi := _) (v := ?_) rfl (by kernel_rfl) (by kernel_rfl) (by kernel_rfl) (fun _ _ _ h => h) (Or.inl ⟨by rfl, ?_⟩) (by assumption) ?_
            rotate_left
            · intro w hSw; clear hSw; first | (go_simp; done) | (go_simp; with_reducible rfl)
            simp only [Act.put, List.getElem_toArray, List.getElem_cons_succ, List.getElem_cons_zero, List.setIfInBounds_toArray, List.set_cons_zero, List.set_cons_succ]
            refine wpAnyH_take (i := 11) (oi := _) (v := ?_) rfl (by kernel_rfl) (by kernel_rfl) (by kernel_rfl) (fun _ _ _ h => h) (Or.inl ⟨by rfl, ?_⟩) (by assumption) ?_
            rotate_left
            · intro w hSw; clear hSw; first | (go_simp; done) | (go_simp; with_reducible rfl)
            simp only [Act.put, List.getElem_toArray, List.getElem_cons_succ, List.getElem_cons_zero, List.setIfInBounds_toArray, List.set_cons_zero, List.set_cons_succ]
            refine wpAnyH_take (i := 12) (oi := _) (v := ?_) rfl (by kernel_rfl) (by kernel_rfl) (by kernel_rfl) (fun _ _ _ h => h) (Or.inl ⟨by rfl, ?_⟩) (by assumption) ?_
            rotate_left
            · intro w hSw; clear hSw; first | (go_simp; done) | (go_simp; with_reducible rfl)
            simp only [Act.put, List.getElem_toArray, List.getElem_cons_succ, List.getElem_cons_zero, List.setIfInBounds_toArray, List.set_cons_zero, List.set_cons_succ]
            refine wpAnyH_done (by kernel_rfl) ?_ _
            refine NoPanic.normal ?_
            have hQ2 := Below_then hQ hHeld
            clear hHeld
            go_wp2
            go_roundw
            case rel => exact ⟨e + 1, by omega, by omega, by go_num, HNEW.out, hQ2⟩
            case measure => simp [intOf]; omega
          · have hqq : (ze == zc) = false := by simpa using hq
            have hstop : ∀ x, s.data.toList[e]? = some x → x ≠ s[a]'hlt := fun x hx hxx => by
              rw [byte_at hel] at hx
              obtain rfl := Option.some.inj hx
              rw [hxx] at hze
              omega
            have HGE : Hid (e ≤ a → False) := Lib.hid (fun h => by
              obtain rfl : e = a := by omega
              exact hq (by rw [← hze, ← hzc]))
            go_wp2_with fail
            refine wp_region_noPanic ?_
            refine wp_region_held_drew (S := (fun w' => Below wr.heap.size wr w')) (by kernel_rfl) (Below.refl _ _).drew (fun hHeld => ?_)
            refine wpAnyH_take (i := 0) (oi := _) (v := ?_) rfl (by kernel_rfl) (by kernel_rfl) (by kernel_rfl) (fun _ _ _ h => h) (Or.inl ⟨by rfl, ?_⟩) (by assumption) ?_
            rotate_left
            · intro w hSw; clear hSw; first | (go_simp; done) | (go_simp; with_reducible rfl)
            simp only [Act.put, List.getElem_toArray, List.getElem_cons_succ, List.getElem_cons_zero, List.setIfInBounds_toArray, List.set_cons_zero, List.set_cons_succ]
            refine wpAnyH_take (i := 1) (oi := _) (v := ?_) rfl (by kernel_rfl) (by kernel_rfl) (by kernel_rfl) (fun _ _ _ h => h) (Or.inl ⟨by rfl, ?_⟩) (by assumption) ?_
            rotate_left
            · intro w hSw; clear hSw; first | (go_simp; done) | (go_simp; with_reducible rfl)
            simp only [Act.put, List.getElem_toArray, List.getElem_cons_succ, List.getElem_cons_zero, List.setIfInBounds_toArray, List.set_cons_zero, List.set_cons_succ]
            refine wpAnyH_take (i := 2) (oi := _) (v := ?_) rfl (by kernel_rfl) (by kernel_rfl) (by kernel_rfl) (fun _ _ _ h => h) (Or.inl ⟨by rfl, ?_⟩) (by assumption) ?_
            rotate_left
            · intro w hSw; clear hSw; first | (go_simp; done) | (go_simp; with_reducible rfl)
            simp only [Act.put, List.getElem_toArray, List.getElem_cons_succ, List.getElem_cons_zero, List.setIfInBounds_toArray, List.set_cons_zero, List.set_cons_succ]
            refine wpAnyH_take (i := 3) (oi := _) (v := ?_) rfl (by kernel_rfl) (by kernel_rfl) (by kernel_rfl) (fun _ _ _ h => h) (Or.inl ⟨by rfl, ?_⟩) (by assumption) ?_
            rotate_left
            · intro w hSw; clear hSw; first | (go_simp; done) | (go_simp; with_reducible rfl)
            simp only [Act.put, List.getElem_toArray, List.getElem_cons_succ, List.getElem_cons_zero, List.setIfInBounds_toArray, List.set_cons_zero, List.set_cons_succ]
            refine wpAnyH_take (i := 4) (oi := _) (v := ?_) rfl (by kernel_rfl) (by kernel_rfl) (by kernel_rfl) (fun _ _ _ h => h) (Or.inl ⟨by rfl, ?_⟩) (by assumption) ?_
            rotate_left
            · intro w hSw; clear hSw; first | (go_simp; done) | (go_simp; with_reducible rfl)
            simp only [Act.put, List.getElem_toArray, List.getElem_cons_succ, List.getElem_cons_zero, List.setIfInBounds_toArray, List.set_cons_zero, List.set_cons_succ]
            refine wpAnyH_take (i := 5) (oi := _) (v := ?_) rfl (by kernel_rfl) (by kernel_rfl) (by kernel_rfl) (fun _ _ _ h => h) (Or.inl ⟨by rfl, ?_⟩) (by assumption) ?_
            rotate_left
            · intro w hSw; clear hSw; first | (go_simp; done) | (go_simp; with_reducible rfl)
            simp only [Act.put, List.getElem_toArray, List.getElem_cons_succ, List.getElem_cons_zero, List.setIfInBounds_toArray, List.set_cons_zero, List.set_cons_succ]
            refine wpAnyH_take (i := 6) (oi := _) (v := ?_) rfl (by kernel_rfl) (by kernel_rfl) (by kernel_rfl) (fun _ _ _ h => h) (Or.inl ⟨by rfl, ?_⟩) (by assumption) ?_
            rotate_left
            · intro w hSw; clear hSw; first | (go_simp; done) | (go_simp; with_reducible rfl)
            simp only [Act.put, List.getElem_toArray, List.getElem_cons_succ, List.getElem_cons_zero, List.setIfInBounds_toArray, List.set_cons_zero, List.set_cons_succ]
            refine wpAnyH_take (i := 7) (oi := _) (v := ?_) rfl (by kernel_rfl) (by kernel_rfl) (by kernel_rfl) (fun _ _ _ h => h) (Or.inl ⟨by rfl, ?_⟩) (by assumption) ?_
            rotate_left
            · intro w hSw; clear hSw; first | (go_simp; done) | (go_simp; with_reducible rfl)
            simp only [Act.put, List.getElem_toArray, List.getElem_cons_succ, List.getElem_cons_zero, List.setIfInBounds_toArray, List.set_cons_zero, List.set_cons_succ]
            refine wpAnyH_take (i := 8) (oi := _) (v := ?_) rfl (by kernel_rfl) (by kernel_rfl) (by kernel_rfl) (fun _ _ _ h => h) (Or.inl ⟨by rfl, ?_⟩) (by assumption) ?_
            rotate_left
            · intro w hSw; clear hSw; first | (go_simp; done) | (go_simp; with_reducible rfl)
            simp only [Act.put, List.getElem_toArray, List.getElem_cons_succ, List.getElem_cons_zero, List.setIfInBounds_toArray, List.set_cons_zero, List.set_cons_succ]
            refine wpAnyH_take (i := 9) (oi := _) (v := ?_) rfl (by kernel_rfl) (by kernel_rfl) (by kernel_rfl) (fun _ _ _ h => h) (Or.inl ⟨by rfl, ?_⟩) (by assumption) ?_
            rotate_left
            · intro w hSw; clear hSw; first | (go_simp; done) | (go_simp; with_reducible rfl)
            simp only [Act.put, List.getElem_toArray, List.getElem_cons_succ, List.getElem_cons_zero, List.setIfInBounds_toArray, List.set_cons_zero, List.set_cons_succ]
            refine wpAnyH_take (i := 10) (oi := _) (v := ?_) rfl (by kernel_rfl) (by kernel_rfl) (by kernel_rfl) (fun _ _ _ h => h) (Or.inl ⟨by rfl, ?_⟩) (by assumption) ?_
            rotate_left
            · intro w hSw; clear hSw; first | (go_simp; done) | (go_simp; with_reducible rfl)
            simp only [Act.put, List.getElem_toArray, List.getElem_cons_succ, List.getElem_cons_zero, List.setIfInBounds_toArray, List.set_cons_zero, List.set_cons_succ]
            refine wpAnyH_take (i := 11) (oi := _) (v := ?_) rfl (by kernel_rfl) (by kernel_rfl) (by kernel_rfl) (fun _ _ _ h => h) (Or.inl ⟨by rfl, ?_⟩) (by assumption) ?_
            rotate_left
            · intro w hSw; clear hSw; first | (go_simp; done) | (go_simp; with_reducible rfl)
            simp only [Act.put, List.getElem_toArray, List.getElem_cons_succ, List.getElem_cons_zero, List.setIfInBounds_toArray, List.set_cons_zero, List.set_cons_succ]
            refine wpAnyH_take (i := 12) (oi := _) (v := ?_) rfl (by kernel_rfl) (by kernel_rfl) (by kernel_rfl) (fun _ _ _ h => h) (Or.inl ⟨by rfl, ?_⟩) (by assumption) ?_
            rotate_left
            · intro w hSw; clear hSw; first | (go_simp; done) | (go_simp; with_reducible rfl)
            simp only [Act.put, List.getElem_toArray, List.getElem_cons_succ, List.getElem_cons_zero, List.setIfInBounds_toArray, List.set_cons_zero, List.set_cons_succ]
            refine wpAnyH_done (by kernel_rfl) ?_ _
            refine NoPanic.normal ?_
            replace hQ := Below_then hQ hHeld
            clear hHeld hq
            generalize wr.drew = wn at hQ ⊢
            have hae : a < e := by
              rcases Nat.lt_or_ge a e with h | h
              · exact h
              · exact (HGE.out h).elim
            have hsub : IntKind.i64.wrap ((e : Int) - (a : Int)) = ((e - a : Nat) : Int) := by rw [IntKind.wrap_i64]; omega
            have ha1 : IntKind.i64.wrap ((a : Int) + 1) = (a : Int) + 1 := by rw [IntKind.wrap_i64]; omega
            have ha2 : (0 : Int) ≤ (a : Int) + 1 ∧ (a : Int) + 1 ≤ (s.size : Int) := by omega
            have ha3 : ((a : Int) + 1).toNat = a + 1 := by omega
            have hr := runs_at (byte_at hlt) hae (by rw [hbl]; exact hes) H1.out hstop
            obtain ⟨dg, hdg⟩ : ∃ dg : List UInt8, dg = (if e - a = 1 then [] else Lib.decDigits (e - a)) := ⟨_, rfl⟩
            have hdl : dg.length ≤ 7 * (e - a) := by
              have h7 := decD_le7 (e - a) (by omega)
              rw [hdg]
              split
              · simp
              · omega
            obtain ⟨o2, ho2⟩ : ∃ o2, o2 = o ++ dg ++ [s[a]'hlt] := ⟨_, rfl⟩
            have hfin : o2 ++ runsL (s.data.toList.drop e) = runsL s.data.toList := by
              rw [← HE.out, hr, ho2, hdg]
              simp
            have hlen2 : o2.length ≤ 8 * e := by
              rw [ho2, List.length_append, List.length_append, List.length_singleton]
              omega
            have HFIN := Lib.hid hfin
            have HL2 := Lib.hid hlen2
            have hz1 : (⟨o.toArray⟩ : ByteArray).size ≤ 8000000 := by show o.toArray.size ≤ _; rw [List.size_toArray]; omega
            have hz2 : (s.extract a (a + 1)).size ≤ 1000000 := by rw [ByteArray.size_extract]; omega
            have hx1 : s.extract a (a + 1) = ⟨[s[a]'hlt].toArray⟩ := ext_one hlt
            clear hr hfin hlen2
            have hb := Below_then HB.out hQ
            clear hQ hstop
            by_cases hone : e - a = 1
            · have hg : ¬ (a : Int) + 1 < (e : Int) := by omega
              rw [if_pos hone] at hdg
              have hcat : (⟨o.toArray⟩ : ByteArray) ++ s.extract a (a + 1) = ⟨o2.toArray⟩ := by rw [hx1, ho2, hdg, List.append_nil]; exact str_app o _
              clear hx1 ho2 hdg
              have HONE := Lib.hid hone
              clear hone
              go_wp2
              go_roundw
              case rel => exact ⟨e, o2, by omega, rfl, rfl, HFIN.out, HL2.out, hb⟩
              case measure => simp [intOf]; omega
            · have hg : (a : Int) + 1 < (e : Int) := by omega
              rw [if_neg hone] at hdg
              have hcat : (⟨(o ++ dg).toArray⟩ : ByteArray) ++ s.extract a (a + 1) = ⟨o2.toArray⟩ := by rw [hx1, ho2]; exact str_app _ _
              have hcat0 : (⟨o.toArray⟩ : ByteArray) ++ ⟨dg.toArray⟩ = ⟨(o ++ dg).toArray⟩ := str_app o dg
              have KI : Calls Tryz.prog 41 #[.int .i64 ((e - a : Nat) : Int)] wn (fun e9 w' => e9 = .returned (.string ⟨dg.toArray⟩) ∧ Below wn.heap.size wn w') := by rw [hdg]; exact l1Num_nat (e - a) (by omega) wn
              have KI := Lib.hid KI
              have hz3 : (⟨dg.toArray⟩ : ByteArray).size ≤ 8000000 := by show dg.toArray.size ≤ _; rw [List.size_toArray]; omega
              have hz4 : (⟨(o ++ dg).toArray⟩ : ByteArray).size ≤ 16000000 := by show (o ++ dg).toArray.size ≤ _; rw [List.size_toArray, List.length_append]; omega
              clear hx1 ho2 hdg
              have HONE := Lib.hid hone
              clear hone
              go_wp2_with fail
              refine KI.out.mono ?_
              rintro e9 w5 ⟨rfl, hb5⟩
              have hb6 := Below_then hb hb5
              clear hb5 hb
              go_wp2
              go_roundw
              case rel => exact ⟨e, o2, by omega, rfl, rfl, HFIN.out, HL2.out, hb6⟩
              case measure => simp [intOf]; omega
        · have d2 : decide (e < s.size) = false := by simpa using hel
          have i2 : ¬ (e : Int) < (s.size : Int) := by omega
          have hstop : ∀ x, s.data.toList[e]? = some x → x ≠ s[a]'hlt := fun x hx => by
            rw [List.getElem?_eq_none (by omega)] at hx
            cases hx
          have HGE : Hid (e ≤ a → False) := Lib.hid (fun h => by omega)
          go_wp2_with fail
          refine wp_region_noPanic ?_
          refine wp_region_held_drew (S := (fun w' => Below wr.heap.size wr w')) (by kernel_rfl) (Below.refl _ _).drew (fun hHeld => ?_)
          refine wpAnyH_take (i := 0) (oi := _) (v := ?_) rfl (by kernel_rfl) (by kernel_rfl) (by kernel_rfl) (fun _ _ _ h => h) (Or.inl ⟨by rfl, ?_⟩) (by assumption) ?_
          rotate_left
          · intro w hSw; clear hSw; first | (go_simp; done) | (go_simp; with_reducible rfl)
          simp only [Act.put, List.getElem_toArray, List.getElem_cons_succ, List.getElem_cons_zero, List.setIfInBounds_toArray, List.set_cons_zero, List.set_cons_succ]
          refine wpAnyH_take (i := 1) (oi := _) (v := ?_) rfl (by kernel_rfl) (by kernel_rfl) (by kernel_rfl) (fun _ _ _ h => h) (Or.inl ⟨by rfl, ?_⟩) (by assumption) ?_
          rotate_left
          · intro w hSw; clear hSw; first | (go_simp; done) | (go_simp; with_reducible rfl)
          simp only [Act.put, List.getElem_toArray, List.getElem_cons_succ, List.getElem_cons_zero, List.setIfInBounds_toArray, List.set_cons_zero, List.set_cons_succ]
          refine wpAnyH_take (i := 2) (oi := _) (v := ?_) rfl (by kernel_rfl) (by kernel_rfl) (by kernel_rfl) (fun _ _ _ h => h) (Or.inl ⟨by rfl, ?_⟩) (by assumption) ?_
          rotate_left
          · intro w hSw; clear hSw; first | (go_simp; done) | (go_simp; with_reducible rfl)
          simp only [Act.put, List.getElem_toArray, List.getElem_cons_succ, List.getElem_cons_zero, List.setIfInBounds_toArray, List.set_cons_zero, List.set_cons_succ]
          refine wpAnyH_take (i := 3) (oi := _) (v := ?_) rfl (by kernel_rfl) (by kernel_rfl) (by kernel_rfl) (fun _ _ _ h => h) (Or.inl ⟨by rfl, ?_⟩) (by assumption) ?_
          rotate_left
          · intro w hSw; clear hSw; first | (go_simp; done) | (go_simp; with_reducible rfl)
          simp only [Act.put, List.getElem_toArray, List.getElem_cons_succ, List.getElem_cons_zero, List.setIfInBounds_toArray, List.set_cons_zero, List.set_cons_succ]
          refine wpAnyH_take (i := 4) (oi := _) (v := ?_) rfl (by kernel_rfl) (by kernel_rfl) (by kernel_rfl) (fun _ _ _ h => h) (Or.inl ⟨by rfl, ?_⟩) (by assumption) ?_
          rotate_left
          · intro w hSw; clear hSw; first | (go_simp; done) | (go_simp; with_reducible rfl)
          simp only [Act.put, List.getElem_toArray, List.getElem_cons_succ, List.getElem_cons_zero, List.setIfInBounds_toArray, List.set_cons_zero, List.set_cons_succ]
          refine wpAnyH_take (i := 5) (oi := _) (v := _) rfl (by kernel_rfl) (by kernel_rfl) (by kernel_rfl) (fun _ _ _ h => h) (Or.inr ⟨by kernel_rfl, rfl⟩) (by assumption) ?_
          simp only [Act.put, List.getElem_toArray, List.getElem_cons_succ, List.getElem_cons_zero, List.setIfInBounds_toArray, List.set_cons_zero, List.set_cons_succ]
          refine wpAnyH_take (i := 6) (oi := _) (v := _) rfl (by kernel_rfl) (by kernel_rfl) (by kernel_rfl) (fun _ _ _ h => h) (Or.inr ⟨by kernel_rfl, rfl⟩) (by assumption) ?_
          simp only [Act.put, List.getElem_toArray, List.getElem_cons_succ, List.getElem_cons_zero, List.setIfInBounds_toArray, List.set_cons_zero, List.set_cons_succ]
          refine wpAnyH_take (i := 7) (oi := _) (v := _) rfl (by kernel_rfl) (by kernel_rfl) (by kernel_rfl) (fun _ _ _ h => h) (Or.inr ⟨by kernel_rfl, rfl⟩) (by assumption) ?_
          simp only [Act.put, List.getElem_toArray, List.getElem_cons_succ, List.getElem_cons_zero, List.setIfInBounds_toArray, List.set_cons_zero, List.set_cons_succ]
          refine wpAnyH_take (i := 8) (oi := _) (v := _) rfl (by kernel_rfl) (by kernel_rfl) (by kernel_rfl) (fun _ _ _ h => h) (Or.inr ⟨by kernel_rfl, rfl⟩) (by assumption) ?_
          simp only [Act.put, List.getElem_toArray, List.getElem_cons_succ, List.getElem_cons_zero, List.setIfInBounds_toArray, List.set_cons_zero, List.set_cons_succ]
          refine wpAnyH_take (i := 9) (oi := _) (v := _) rfl (by kernel_rfl) (by kernel_rfl) (by kernel_rfl) (fun _ _ _ h => h) (Or.inr ⟨by kernel_rfl, rfl⟩) (by assumption) ?_
          simp only [Act.put, List.getElem_toArray, List.getElem_cons_succ, List.getElem_cons_zero, List.setIfInBounds_toArray, List.set_cons_zero, List.set_cons_succ]
          refine wpAnyH_take (i := 10) (oi := _) (v := _) rfl (by kernel_rfl) (by kernel_rfl) (by kernel_rfl) (fun _ _ _ h => h) (Or.inr ⟨by kernel_rfl, rfl⟩) (by assumption) ?_
          simp only [Act.put, List.getElem_toArray, List.getElem_cons_succ, List.getElem_cons_zero, List.setIfInBounds_toArray, List.set_cons_zero, List.set_cons_succ]
          refine wpAnyH_take (i := 11) (oi := _) (v := _) rfl (by kernel_rfl) (by kernel_rfl) (by kernel_rfl) (fun _ _ _ h => h) (Or.inr ⟨by kernel_rfl, rfl⟩) (by assumption) ?_
          simp only [Act.put, List.getElem_toArray, List.getElem_cons_succ, List.getElem_cons_zero, List.setIfInBounds_toArray, List.set_cons_zero, List.set_cons_succ]
          refine wpAnyH_take (i := 12) (oi := _) (v := ?_) rfl (by kernel_rfl) (by kernel_rfl) (by kernel_rfl) (fun _ _ _ h => h) (Or.inl ⟨by rfl, ?_⟩) (by assumption) ?_
          rotate_left
          · intro w hSw; clear hSw; first | (go_simp; done) | (go_simp; with_reducible rfl)
          simp only [Act.put, List.getElem_toArray, List.getElem_cons_succ, List.getElem_cons_zero, List.setIfInBounds_toArray, List.set_cons_zero, List.set_cons_succ]
          refine wpAnyH_done (by kernel_rfl) ?_ _
          refine NoPanic.normal ?_
          replace hQ := Below_then hQ hHeld
          clear hHeld
          generalize wr.drew = wn at hQ ⊢
          have hae : a < e := by
            rcases Nat.lt_or_ge a e with h | h
            · exact h
            · exact (HGE.out h).elim
          have hsub : IntKind.i64.wrap ((e : Int) - (a : Int)) = ((e - a : Nat) : Int) := by rw [IntKind.wrap_i64]; omega
          have ha1 : IntKind.i64.wrap ((a : Int) + 1) = (a : Int) + 1 := by rw [IntKind.wrap_i64]; omega
          have ha2 : (0 : Int) ≤ (a : Int) + 1 ∧ (a : Int) + 1 ≤ (s.size : Int) := by omega
          have ha3 : ((a : Int) + 1).toNat = a + 1 := by omega
          have hr := runs_at (byte_at hlt) hae (by rw [hbl]; exact hes) H1.out hstop
          obtain ⟨dg, hdg⟩ : ∃ dg : List UInt8, dg = (if e - a = 1 then [] else Lib.decDigits (e - a)) := ⟨_, rfl⟩
          have hdl : dg.length ≤ 7 * (e - a) := by
            have h7 := decD_le7 (e - a) (by omega)
            rw [hdg]
            split
            · simp
            · omega
          obtain ⟨o2, ho2⟩ : ∃ o2, o2 = o ++ dg ++ [s[a]'hlt] := ⟨_, rfl⟩
          have hfin : o2 ++ runsL (s.data.toList.drop e) = runsL s.data.toList := by
            rw [← HE.out, hr, ho2, hdg]
            simp
          have hlen2 : o2.length ≤ 8 * e := by
            rw [ho2, List.length_append, List.length_append, List.length_singleton]
            omega
          have HFIN := Lib.hid hfin
          have HL2 := Lib.hid hlen2
          have hz1 : (⟨o.toArray⟩ : ByteArray).size ≤ 8000000 := by show o.toArray.size ≤ _; rw [List.size_toArray]; omega
          have hz2 : (s.extract a (a + 1)).size ≤ 1000000 := by rw [ByteArray.size_extract]; omega
          have hx1 : s.extract a (a + 1) = ⟨[s[a]'hlt].toArray⟩ := ext_one hlt
          clear hr hfin hlen2
          have hb := Below_then HB.out hQ
          clear hQ hstop
          by_cases hone : e - a = 1
          · have hg : ¬ (a : Int) + 1 < (e : Int) := by omega
            rw [if_pos hone] at hdg
            have hcat : (⟨o.toArray⟩ : ByteArray) ++ s.extract a (a + 1) = ⟨o2.toArray⟩ := by rw [hx1, ho2, hdg, List.append_nil]; exact str_app o _
            clear hx1 ho2 hdg
            have HONE := Lib.hid hone
            clear hone
            go_wp2
            go_roundw
            case rel => exact ⟨e, o2, by omega, rfl, rfl, HFIN.out, HL2.out, hb⟩
            case measure => simp [intOf]; omega
          · have hg : (a : Int) + 1 < (e : Int) := by omega
            rw [if_neg hone] at hdg
            have hcat : (⟨(o ++ dg).toArray⟩ : ByteArray) ++ s.extract a (a + 1) = ⟨o2.toArray⟩ := by rw [hx1, ho2]; exact str_app _ _
            have hcat0 : (⟨o.toArray⟩ : ByteArray) ++ ⟨dg.toArray⟩ = ⟨(o ++ dg).toArray⟩ := str_app o dg
            have KI : Calls Tryz.prog 41 #[.int .i64 ((e - a : Nat) : Int)] wn (fun e9 w' => e9 = .returned (.string ⟨dg.toArray⟩) ∧ Below wn.heap.size wn w') := by rw [hdg]; exact l1Num_nat (e - a) (by omega) wn
            have KI := Lib.hid KI
            have hz3 : (⟨dg.toArray⟩ : ByteArray).size ≤ 8000000 := by show dg.toArray.size ≤ _; rw [List.size_toArray]; omega
            have hz4 : (⟨(o ++ dg).toArray⟩ : ByteArray).size ≤ 16000000 := by show (o ++ dg).toArray.size ≤ _; rw [List.size_toArray, List.length_append]; omega
            clear hx1 ho2 hdg
            have HONE := Lib.hid hone
            clear hone
            go_wp2_with fail
            refine KI.out.mono ?_
            rintro e9 w5 ⟨rfl, hb5⟩
            have hb6 := Below_then hb hb5
            clear hb5 hb
            go_wp2
            go_roundw
            case rel => exact ⟨e, o2, by omega, rfl, rfl, HFIN.out, HL2.out, hb6⟩
            case measure => simp [intOf]; omega
    · obtain rfl : a = s.size := by omega
      have d1 : decide (s.size < s.size) = false := by simp
      rw [← hbl, runs_end, List.append_nil] at hE
      subst hE
      go_wp2
      go_ret
      exact ⟨rfl, hb⟩
end Go.Proofs.YtenaadmifppphaaGreatDoor
