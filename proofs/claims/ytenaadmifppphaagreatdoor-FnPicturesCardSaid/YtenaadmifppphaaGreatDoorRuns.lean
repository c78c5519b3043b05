/- Contracts: the short form of letters, both sides. -/
import Derived.Test.YtenaadmifppphaaGreatDoorBytes
import Derived.Test.YtenaadmifppphaaGreatDoorRunP
import Derived.Deep.RegionHeld3
namespace Go.Proofs.YtenaadmifppphaaGreatDoor
open Go.ChangeShapes Go.WideShapes Go.ChangeAt Go.RowKit
set_option linter.unusedVariables false
set_option linter.unusedSimpArgs false
theorem byte_at {s : ByteArray} {k : Nat} (h : k < s.size) : s.data.toList[k]? = some (s[k]'h) := by
  rw [Array.getElem?_toList]
  exact Array.getElem?_eq_getElem h
theorem bytes_len (s : ByteArray) : s.data.toList.length = s.size := Array.length_toList
theorem decD_le7 (n : Nat) (h : n ≤ 1000000) : (Lib.decDigits n).length ≤ 7 := by
  rw [Lib.decDigits_length]
  rcases Nat.lt_or_ge 7 (Lib.nDigits n) with hh | hh
  · have h1 : ∀ (k u : Nat), u < 10 ^ k → 1 ≤ k → Lib.nDigits u ≤ k := by
      intro k
      induction k with
      | zero => intro u _ hk; omega
      | succ k ih =>
        intro u hu _
        by_cases hs : u < 10
        · rw [Lib.nDigits_small hs]; omega
        · rw [Lib.nDigits_big hs]
          by_cases hk : k = 0
          · subst hk; simp at hu; omega
          · have := ih (u / 10) (by rw [Nat.pow_succ] at hu; omega) (by omega)
            omega
    exact h1 7 n (by omega) (by omega)
  · exact hh
theorem runsL_len : ∀ (k : Nat) (t : List UInt8), t.length ≤ k → t.length ≤ 1000000 → (runsL t).length ≤ 8 * t.length := by
  intro k
  induction k with
  | zero =>
    intro t h _
    have : t = [] := by simpa using h
    subst this
    rw [runsL]; simp
  | succ k ih =>
    intro t h hm
    match t with
    | [] => rw [runsL]; simp
    | c :: u =>
      obtain ⟨m, r, e1, e2, e3⟩ := runs_cons c u
      rw [e3]
      have hl : (c :: u).length = m + 1 + r.length := by rw [e1]; simp
      have ihr := ih r (by simp at h; omega) (by simp at hm; omega)
      have hd : (if m = 0 then ([] : List UInt8) else Lib.decDigits (m + 1)).length ≤ 7 * (m + 1) := by
        split
        · simp
        · have := decD_le7 (m + 1) (by simp at hm hl; omega)
          omega
      rw [List.length_append, List.length_cons, hl]
      omega
/-- What turns a number into text. -/
def ItoaAt (w : World) : Prop := ∀ (n : Nat) (w' : World), n ≤ 1000000 → Below w.heap.size w w' → Calls Tryz.prog 38 #[.int .i64 (n : Int)] w' fun e w'' => e = .returned (.string ⟨(Lib.decDigits n).toArray⟩) ∧ Below w'.heap.size w' w''
set_option maxHeartbeats 4000000 in
theorem implRuns_any (s : ByteArray) (hs : s.size ≤ 1000000) (w : World) (hI : ItoaAt w) :
    Calls Tryz.prog 20 #[.string s] w fun e w' => e = .returned (.string ⟨(runsL s.data.toList).toArray⟩) ∧ Below w.heap.size w w' := by
  have HI := Lib.hid hI
  have hbl := bytes_len s
  clear hI
  go_enter Tryz.func20, Tryz.ntmps20
  go_wp2_with fail
  go_loopw [3, 4] (fun ov av wr => ∃ (a : Nat) (v : Value) (o : List UInt8), a ≤ s.size ∧ av = .int .i64 a ∧ ov = v ∧ OwnB wr w.heap.size v o ∧ o ++ runsL (s.data.toList.drop a) = runsL s.data.toList ∧ o.length ≤ 8 * a ∧ Below w.heap.size w wr) (fun _ av _ => s.size - (intOf av).toNat)
  case atStart => exact ⟨0, _, [], Nat.zero_le _, rfl, rfl, OwnB.empty _ _ (Nat.le_refl _), by simp, by simp, by (repeat (first | exact Below.refl _ _ | assumption | refine Below_al ?_ _ | refine Below.drew ?_ | refine Below_then ?_ (by assumption) | refine Below.setCell ?_ (by first | omega | (simp; done) | (simp; omega)) _))⟩
  case round =>
    obtain ⟨a, v, o, ha, rfl, hov, hO, hE, hol, hb⟩ := hrel
    replace hov := hov.symm
    subst hov
    obtain ⟨wo, rfl⟩ : ∃ x, x = wr := ⟨wr, rfl⟩
    by_cases hlt : a < s.size
    · have i1 : (a : Int) < (s.size : Int) := by omega
      have d1 : decide (a < s.size) = true := by simpa using hlt
      have HE := Lib.hid hE
      have HO := Lib.hid hO
      have HB := Lib.hid hb
      obtain ⟨zc, hzc⟩ : ∃ z : Int, ((s[a]'hlt).toNat : Int) = z := ⟨_, rfl⟩
      have HZC := Lib.hid hzc
      clear hE hO hb
      go_wp2_with fail
      go_loopw [5] (fun ev wr => ∃ e : Nat, a < e ∧ e ≤ s.size ∧ ev = .int .i64 e ∧ (∀ i x, a < i → i < e → s.data.toList[i]? = some x → x = s[a]'hlt) ∧ Below wo.heap.size wo wr) (fun ev _ => s.size - (intOf ev).toNat)
      case atStart => exact ⟨a + 1, by omega, by omega, by go_num, fun i x h1 h2 => by omega, Below.refl _ _⟩
      case round =>
        obtain ⟨e, hae, hes, rfl, h1, hQ⟩ := hrel
        have H1 := Lib.hid h1
        clear h1
        by_cases hel : e < s.size
        · have i2 : (e : Int) < (s.size : Int) := by omega
          have d2 : decide (e < s.size) = true := by simpa using hel
          obtain ⟨ze, hze⟩ : ∃ z : Int, ((s[e]'hel).toNat : Int) = z := ⟨_, rfl⟩
          by_cases hq : ze = zc
          · have hqq : (ze == zc) = true := by simpa using hq
            have hnew : ∀ i x, a < i → i < e + 1 → s.data.toList[i]? = some x → x = s[a]'hlt := fun i x hi1 hi2 hx => by
              by_cases ee : i = e
              · subst ee
                rw [byte_at hel] at hx
                obtain rfl := Option.some.inj hx
                exact UInt8.toNat_inj.1 (by omega)
              · exact H1.out i x hi1 (by omega) hx
            have HNEW := Lib.hid hnew
            clear hnew
            rw [hq] at hze hqq
            clear hq
            go_wp2_with fail
            refine wp_region_noPanic ?_
            refine wp_region_held_drew (S := (fun w' => Below wr.heap.size wr w')) (by kernel_rfl) (Below.refl _ _).drew (fun hHeld => ?_)
            refine wpAnyH_take (i := 0) (oi := _) (v := ?_) rfl (by kernel_rfl) (by kernel_rfl) (by kernel_rfl) (fun _ _ _ h => h) (Or.inl ⟨by rfl, ?_⟩) (by assumption) ?_
            rotate_left
            · intro w hSw; clear hSw; first | (go_simp; done) | (go_simp; with_reducible rfl)
            simp only [Act.put, List.getElem_toArray, List.getElem_cons_succ, List.getElem_cons_zero, List.setIfInBounds_toArray, List.set_cons_zero, List.set_cons_succ]
            refine wpAnyH_take (i := 1) (oi := _) (v := ?_) rfl (by kernel_rfl) (by kernel_rfl) (by kernel_rfl) (fun _ _ _ h => h) (Or.inl ⟨by rfl, ?_⟩) (by assumption) ?_
            rotate_left
            · intro w hSw; clear hSw; first | (go_simp; done) | (go_simp; with_reducible rfl)
            simp only [Act.put, List.getElem_toArray, List.getElem_cons_succ, List.getElem_cons_zero, List.setIfInBounds_toArray, List.set_cons_zero, List.set_cons_succ]
            refine wpAnyH_take (i := 2) (oi := _) (v := ?_) rfl (by kernel_rfl) (by kernel_rfl) (by kernel_rfl) (fun _ _ _ h => h) (Or.inl ⟨by rfl, ?_⟩) (by assumption) ?_
            rotate_left
            · intro w hSw; clear hSw; first | (go_simp; done) | (go_simp; with_reducible rfl)
            simp only [Act.put, List.getElem_toArray, List.getElem_cons_succ, List.getElem_cons_zero, List.setIfInBounds_toArray, List.set_cons_zero, List.set_cons_succ]
            refine wpAnyH_take (i := 3) (oi := _) (v := ?_) rfl (by kernel_rfl) (by kernel_rfl) (by kernel_rfl) (fun _ _ _ h => h) (Or.inl ⟨by rfl, ?_⟩) (by assumption) ?_
            rotate_left
            · intro w hSw; clear hSw; first | (go_simp; done) | (go_simp; with_reducible rfl)
            simp only [Act.put, List.getElem_toArray, List.getElem_cons_succ, List.getElem_cons_zero, List.setIfInBounds_toArray, List.set_cons_zero, List.set_cons_succ]
            refine wpAnyH_take (i := 4) (oi := _) (v := ?_) rfl (by kernel_rfl) (by kernel_rfl) (by kernel_rfl) (fun _ _ _ h => h) (Or.inl ⟨by rfl, ?_⟩) (by assumption) ?_
            rotate_left
            · intro w hSw; clear hSw; first | (go_simp; done) | (go_simp; with_reducible rfl)
            simp only [Act.put, List.getElem_toArray, List.getElem_cons_succ, List.getElem_cons_zero, List.setIfInBounds_toArray, List.set_cons_zero, List.set_cons_succ]
            refine wpAnyH_take (i := 5) (oi := _) (v := ?_) rfl (by kernel_rfl) (by kernel_rfl) (by kernel_rfl) (fun _ _ _ h => h) (Or.inl ⟨by rfl, ?_⟩) (by assumption) ?_
            rotate_left
            · intro w hSw; clear hSw; first | (go_simp; done) | (go_simp; with_reducible rfl)
            simp only [Act.put, List.getElem_toArray, List.getElem_cons_succ, List.getElem_cons_zero, List.setIfInBounds_toArray, List.set_cons_zero, List.set_cons_succ]
            refine wpAnyH_take (i := 6) (oi := _) (v := ?_) rfl (by kernel_rfl) (by kernel_rfl) (by kernel_rfl) (fun _ _ _ h => h) (Or.inl ⟨by rfl, ?_⟩) (by assumption) ?_
            rotate_left
            · intro w hSw; clear hSw; first | (go_simp; done) | (go_simp; with_reducible rfl)
            simp only [Act.put, List.getElem_toArray, List.getElem_cons_succ, List.getElem_cons_zero, List.setIfInBounds_toArray, List.set_cons_zero, List.set_cons_succ]
            refine wpAnyH_take (i := 7) (oi := _) (v := ?_) rfl (by kernel_rfl) (by kernel_rfl) (by kernel_rfl) (fun _ _ _ h => h) (Or.inl ⟨by rfl, ?_⟩) (by assumption) ?_
            rotate_left
            · intro w hSw; clear hSw; first | (go_simp; done) | (go_simp; with_reducible rfl)
            simp only [Act.put, List.getElem_toArray, List.getElem_cons_succ, List.getElem_cons_zero, List.setIfInBounds_toArray, List.set_cons_zero, List.set_cons_succ]
            refine wpAnyH_take (i := 8) (oi := _) (v := ?_) rfl (by kernel_rfl) (by kernel_rfl) (by kernel_rfl) (fun _ _ _ h => h) (Or.inl ⟨by rfl, ?_⟩) (by assumption) ?_
            rotate_left
            · intro w hSw; clear hSw; first | (go_simp; done) | (go_simp; with_reducible rfl)
            simp only [Act.put, List.getElem_toArray, List.getElem_cons_succ, List.getElem_cons_zero, List.setIfInBounds_toArray, List.set_cons_zero, List.set_cons_succ]
            refine wpAnyH_take (i := 9) (oi := _) (v := ?_) rfl (by kernel_rfl) (by kernel_rfl) (by kernel_rfl) (fun _ _ _ h => h) (Or.inl ⟨by rfl, ?_⟩) (by assumption) ?_
            rotate_left
            · intro w hSw; clear hSw; first | (go_simp; done) | (go_simp; with_reducible rfl)
            simp only [Act.put, List.getElem_toArray, List.getElem_cons_succ, List.getElem_cons_zero, List.setIfInBounds_toArray, List.set_cons_zero, List.set_cons_succ]
            refine wpAnyH_take (i := 10) (oi := _) (v := ?_) rfl (by kernel_rfl) (by kernel_rfl) (by kernel_rfl) (fun _ _ _ h => h) (Or.inl ⟨by rfl, ?_⟩) (by assumption) ?_
            rotate_left
            · intro w hSw; clear hSw; first | (go_simp; done) | (go_simp; with_reducible rfl)
            simp only [Act.put, List.getElem_toArray, List.getElem_cons_succ, List.getElem_cons_zero, List.setIfInBounds_toArray, List.set_cons_zero, List.set_cons_succ]
            refine wpAnyH_take (i := 11) (oi := _) (v := ?_) rfl (by kernel_rfl) (by kernel_rfl) (by kernel_rfl) (fun _ _ _ h => h) (Or.inl ⟨by rfl, ?_⟩) (by assumption) ?_
            rotate_left
            · intro w hSw; clear hSw; first | (go_simp; done) | (go_simp; with_reducible rfl)
            simp only [Act.put, List.getElem_toArray, List.getElem_cons_succ, List.getElem_cons_zero, List.setIfInBounds_toArray, List.set_cons_zero, List.set_cons_succ]
            refine wpAnyH_take (i := 12) (oi := _) (v := ?_) rfl (by kernel_rfl) (by kernel_rfl) (by kernel_rfl) (fun _ _ _ h => h) (Or.inl ⟨by rfl, ?_⟩) (by assumption) ?_
            rotate_left
            · intro w hSw; clear hSw; first | (go_simp; done) | (go_simp; with_reducible rfl)
            simp only [Act.put, List.getElem_toArray, List.getElem_cons_succ, List.getElem_cons_zero, List.setIfInBounds_toArray, List.set_cons_zero, List.set_cons_succ]
            refine wpAnyH_done (by kernel_rfl) ?_ _
            refine NoPanic.normal ?_
            have hQ2 := Below_then hQ hHeld
            clear hHeld
            go_wp2
            go_roundw
            case rel => exact ⟨e + 1, by omega, by omega, by go_num, HNEW.out, hQ2⟩
            case measure => simp [intOf]; omega
          · have hqq : (ze == zc) = false := by simpa using hq
            have hstop : ∀ x, s.data.toList[e]? = some x → x ≠ s[a]'hlt := fun x hx hxx => by
              rw [byte_at hel] at hx
              obtain rfl := Option.some.inj hx
              rw [hxx] at hze
              omega
            go_wp2_with fail
            refine wp_region_noPanic ?_
            refine wp_region_held_drew (S := (fun w' => Below wr.heap.size wr w')) (by kernel_rfl) (Below.refl _ _).drew (fun hHeld => ?_)
            refine wpAnyH_take (i := 0) (oi := _) (v := ?_) rfl (by kernel_rfl) (by kernel_rfl) (by kernel_rfl) (fun _ _ _ h => h) (Or.inl ⟨by rfl, ?_⟩) (by assumption) ?_
            rotate_left
            · intro w hSw; clear hSw; first | (go_simp; done) | (go_simp; with_reducible rfl)
            simp only [Act.put, List.getElem_toArray, List.getElem_cons_succ, List.getElem_cons_zero, List.setIfInBounds_toArray, List.set_cons_zero, List.set_cons_succ]
            refine wpAnyH_take (i := 1) (oi := _) (v := ?_) rfl (by kernel_rfl) (by kernel_rfl) (by kernel_rfl) (fun _ _ _ h => h) (Or.inl ⟨by rfl, ?_⟩) (by assumption) ?_
            rotate_left
            · intro w hSw; clear hSw; first | (go_simp; done) | (go_simp; with_reducible rfl)
            simp only [Act.put, List.getElem_toArray, List.getElem_cons_succ, List.getElem_cons_zero, List.setIfInBounds_toArray, List.set_cons_zero, List.set_cons_succ]
            refine wpAnyH_take (i := 2) (oi := _) (v := ?_) rfl (by kernel_rfl) (by kernel_rfl) (by kernel_rfl) (fun _ _ _ h => h) (Or.inl ⟨by rfl, ?_⟩) (by assumption) ?_
            rotate_left
            · intro w hSw; clear hSw; first | (go_simp; done) | (go_simp; with_reducible rfl)
            simp only [Act.put, List.getElem_toArray, List.getElem_cons_succ, List.getElem_cons_zero, List.setIfInBounds_toArray, List.set_cons_zero, List.set_cons_succ]
            refine wpAnyH_take (i := 3) (oi := _) (v := ?_) rfl (by kernel_rfl) (by kernel_rfl) (by kernel_rfl) (fun _ _ _ h => h) (Or.inl ⟨by rfl, ?_⟩) (by assumption) ?_
            rotate_left
            · intro w hSw; clear hSw; first | (go_simp; done) | (go_simp; with_reducible rfl)
            simp only [Act.put, List.getElem_toArray, List.getElem_cons_succ, List.getElem_cons_zero, List.setIfInBounds_toArray, List.set_cons_zero, List.set_cons_succ]
            refine wpAnyH_take (i := 4) (oi := _) (v := ?_) rfl (by kernel_rfl) (by kernel_rfl) (by kernel_rfl) (fun _ _ _ h => h) (Or.inl ⟨by rfl, ?_⟩) (by assumption) ?_
            rotate_left
            · intro w hSw; clear hSw; first | (go_simp; done) | (go_simp; with_reducible rfl)
            simp only [Act.put, List.getElem_toArray, List.getElem_cons_succ, List.getElem_cons_zero, List.setIfInBounds_toArray, List.set_cons_zero, List.set_cons_succ]
            refine wpAnyH_take (i := 5) (oi := _) (v := ?_) rfl (by kernel_rfl) (by kernel_rfl) (by kernel_rfl) (fun _ _ _ h => h) (Or.inl ⟨by rfl, ?_⟩) (by assumption) ?_
            rotate_left
            · intro w hSw; clear hSw; first | (go_simp; done) | (go_simp; with_reducible rfl)
            simp only [Act.put, List.getElem_toArray, List.getElem_cons_succ, List.getElem_cons_zero, List.setIfInBounds_toArray, List.set_cons_zero, List.set_cons_succ]
            refine wpAnyH_take (i := 6) (oi := _) (v := ?_) rfl (by kernel_rfl) (by kernel_rfl) (by kernel_rfl) (fun _ _ _ h => h) (Or.inl ⟨by rfl, ?_⟩) (by assumption) ?_
            rotate_left
            · intro w hSw; clear hSw; first | (go_simp; done) | (go_simp; with_reducible rfl)
            simp only [Act.put, List.getElem_toArray, List.getElem_cons_succ, List.getElem_cons_zero, List.setIfInBounds_toArray, List.set_cons_zero, List.set_cons_succ]
            refine wpAnyH_take (i := 7) (oi := _) (v := ?_) rfl (by kernel_rfl) (by kernel_rfl) (by kernel_rfl) (fun _ _ _ h => h) (Or.inl ⟨by rfl, ?_⟩) (by assumption) ?_
            rotate_left
            · intro w hSw; clear hSw; first | (go_simp; done) | (go_simp; with_reducible rfl)
            simp only [Act.put, List.getElem_toArray, List.getElem_cons_succ, List.getElem_cons_zero, List.setIfInBounds_toArray, List.set_cons_zero, List.set_cons_succ]
            refine wpAnyH_take (i := 8) (oi := _) (v := ?_) rfl (by kernel_rfl) (by kernel_rfl) (by kernel_rfl) (fun _ _ _ h => h) (Or.inl ⟨by rfl, ?_⟩) (by assumption) ?_
            rotate_left
            · intro w hSw; clear hSw; first | (go_simp; done) | (go_simp; with_reducible rfl)
            simp only [Act.put, List.getElem_toArray, List.getElem_cons_succ, List.getElem_cons_zero, List.setIfInBounds_toArray, List.set_cons_zero, List.set_cons_succ]
            refine wpAnyH_take (i := 9) (oi := _) (v := ?_) rfl (by kernel_rfl) (by kernel_rfl) (by kernel_rfl) (fun _ _ _ h => h) (Or.inl ⟨by rfl, ?_⟩) (by assumption) ?_
            rotate_left
            · intro w hSw; clear hSw; first | (go_simp; done) | (go_simp; with_reducible rfl)
            simp only [Act.put, List.getElem_toArray, List.getElem_cons_succ, List.getElem_cons_zero, List.setIfInBounds_toArray, List.set_cons_zero, List.set_cons_succ]
            refine wpAnyH_take (i := 10) (oi := _) (v := ?_) rfl (by kernel_rfl) (by kernel_rfl) (by kernel_rfl) (fun _ _ _ h => h) (Or.inl ⟨by rfl, ?_⟩) (by assumption) ?_
            rotate_left
            · intro w hSw; clear hSw; first | (go_simp; done) | (go_simp; with_reducible rfl)
            simp only [Act.put, List.getElem_toArray, List.getElem_cons_succ, List.getElem_cons_zero, List.setIfInBounds_toArray, List.set_cons_zero, List.set_cons_succ]
            refine wpAnyH_take (i := 11) (oi := _) (v := ?_) rfl (by kernel_rfl) (by kernel_rfl) (by kernel_rfl) (fun _ _ _ h => h) (Or.inl ⟨by rfl, ?_⟩) (by assumption) ?_
            rotate_left
            · intro w hSw; clear hSw; first | (go_simp; done) | (go_simp; with_reducible rfl)
            simp only [Act.put, List.getElem_toArray, List.getElem_cons_succ, List.getElem_cons_zero, List.setIfInBounds_toArray, List.set_cons_zero, List.set_cons_succ]
            refine wpAnyH_take (i := 12) (oi := _) (v := ?_) rfl (by kernel_rfl) (by kernel_rfl) (by kernel_rfl) (fun _ _ _ h => h) (Or.inl ⟨by rfl, ?_⟩) (by assumption) ?_
            rotate_left
            · intro w hSw; clear hSw; first | (go_simp; done) | (go_simp; with_reducible rfl)
            simp only [Act.put, List.getElem_toArray, List.getElem_cons_succ, List.getElem_cons_zero, List.setIfInBounds_toArray, List.set_cons_zero, List.set_cons_succ]
            refine wpAnyH_done (by kernel_rfl) ?_ _
            refine NoPanic.normal ?_
            replace hQ := Below_then hQ hHeld
            clear hHeld hq
            generalize wr.drew = wn at hQ ⊢
            have hsub : IntKind.i64.wrap ((e : Int) - (a : Int)) = ((e - a : Nat) : Int) := by rw [IntKind.wrap_i64]; omega
            have hr := runs_at (byte_at hlt) hae (by rw [hbl]; exact hes) H1.out hstop
            obtain ⟨o2, ho2⟩ : ∃ o2, o2 = o ++ (if e - a = 1 then [] else Lib.decDigits (e - a)) ++ [s[a]'hlt] := ⟨_, rfl⟩
            have hfin : o2 ++ runsL (s.data.toList.drop e) = runsL s.data.toList := by
              rw [← HE.out, hr, ho2]
              simp
            have hlen2 : o2.length ≤ 8 * e := by
              have h7 := decD_le7 (e - a) (by omega)
              rw [ho2, List.length_append, List.length_append, List.length_singleton]
              split
              · simp; omega
              · omega
            have HFIN := Lib.hid hfin
            have HL2 := Lib.hid hlen2
            have hz0 : (s[a]'hlt).toNat = (s[a]'hlt).toNat := rfl
            clear hr hfin hlen2
            have hb := Below_then HB.out hQ
            have hO := HO.out.below hQ
            clear hQ hstop
            by_cases hone : e - a = 1
            · have hg : ¬ (1 : Int) < ((e - a : Nat) : Int) := by omega
              rw [if_pos hone, List.append_nil] at ho2
              have HO2 := Lib.hid ho2
              clear ho2
              have HONE := Lib.hid hone
              clear hone
              go_wp2_with (first | (at_builtin; refine wp_appB (s[a]'hlt) rfl _ _ rfl w.heap.size _ o rfl (hO.alloc _) _ _ rfl (cell_of (heap_hit _ _ _ rfl) 0) (by first | rfl | exact HZC.out.symm) (by omega) (by have h1 := hb.size; rw [World.size_alloc]; omega) ?_; intro v' w3 hO3 hg3 hb3; have hbb := (Below_al hb _).trans hb3; clear hg3 hb3) | fail)
              rw [← HO2.out] at hO3
              go_roundw
              case rel => exact ⟨e, v', o2, by omega, rfl, rfl, hO3, HFIN.out, HL2.out, hbb⟩
              case measure => simp [intOf]; omega
            · have hg : (1 : Int) < ((e - a : Nat) : Int) := by omega
              rw [if_neg hone] at ho2
              have HO2 := Lib.hid ho2
              have KI := Lib.hid (HI.out (e - a) _ (by omega) hb)
              have h7 := decD_le7 (e - a) (by omega)
              clear ho2
              have HONE := Lib.hid hone
              clear hone
              go_wp2_with fail
              refine KI.out.mono ?_
              rintro e9 w5 ⟨rfl, hb5⟩
              have hO5 := hO.below hb5
              have hb6 := Below_then hb hb5
              clear hb5 hb hO
              go_wp2_with (first | (at_builtin; refine wp_appS rfl _ _ rfl w.heap.size _ o rfl hO5 ⟨(Lib.decDigits (e - a)).toArray⟩ rfl (by omega) (by show (Lib.decDigits (e - a)).toArray.size ≤ _; rw [List.size_toArray]; omega) hb6.size ?_; intro v8 w8 hO8 hg8 hb8; have hb9 := hb6.trans hb8; have hO8' : OwnB w8 w.heap.size v8 (o ++ Lib.decDigits (e - a)) := hO8; clear hg8 hb8 hO8) | (at_builtin; refine wp_appB (s[a]'hlt) rfl _ _ rfl w.heap.size _ (o ++ Lib.decDigits (e - a)) rfl (hO8'.alloc _) _ _ rfl (cell_of (heap_hit _ _ _ rfl) 0) (by first | rfl | exact HZC.out.symm) (by rw [List.length_append]; omega) (by have h1 := hb9.size; rw [World.size_alloc]; omega) ?_; intro v' w3 hO3 hg3 hb3; have hbb := (Below_al hb9 _).trans hb3; clear hg3 hb3) | fail)
              rw [← HO2.out] at hO3
              go_roundw
              case rel => exact ⟨e, v', o2, by omega, rfl, rfl, hO3, HFIN.out, HL2.out, hbb⟩
              case measure => simp [intOf]; omega
        · have d2 : decide (e < s.size) = false := by simpa using hel
          have i2 : ¬ (e : Int) < (s.size : Int) := by omega
          have hstop : ∀ x, s.data.toList[e]? = some x → x ≠ s[a]'hlt := fun x hx => by
            rw [List.getElem?_eq_none (by omega)] at hx
            cases hx
          go_wp2_with fail
          refine wp_region_noPanic ?_
          refine wp_region_held_drew (S := (fun w' => Below wr.heap.size wr w')) (by kernel_rfl) (Below.refl _ _).drew (fun hHeld => ?_)
          refine wpAnyH_take (i := 0) (oi := _) (v := ?_) rfl (by kernel_rfl) (by kernel_rfl) (by kernel_rfl) (fun _ _ _ h => h) (Or.inl ⟨by rfl, ?_⟩) (by assumption) ?_
          rotate_left
          · intro w hSw; clear hSw; first | (go_simp; done) | (go_simp; with_reducible rfl)
          simp only [Act.put, List.getElem_toArray, List.getElem_cons_succ, List.getElem_cons_zero, List.setIfInBounds_toArray, List.set_cons_zero, List.set_cons_succ]
          refine wpAnyH_take (i := 1) (oi := _) (v := ?_) rfl (by kernel_rfl) (by kernel_rfl) (by kernel_rfl) (fun _ _ _ h => h) (Or.inl ⟨by rfl, ?_⟩) (by assumption) ?_
          rotate_left
          · intro w hSw; clear hSw; first | (go_simp; done) | (go_simp; with_reducible rfl)
          simp only [Act.put, List.getElem_toArray, List.getElem_cons_succ, List.getElem_cons_zero, List.setIfInBounds_toArray, List.set_cons_zero, List.set_cons_succ]
          refine wpAnyH_take (i := 2) (oi := _) (v := ?_) rfl (by kernel_rfl) (by kernel_rfl) (by kernel_rfl) (fun _ _ _ h => h) (Or.inl ⟨by rfl, ?_⟩) (by assumption) ?_
          rotate_left
          · intro w hSw; clear hSw; first | (go_simp; done) | (go_simp; with_reducible rfl)
          simp only [Act.put, List.getElem_toArray, List.getElem_cons_succ, List.getElem_cons_zero, List.setIfInBounds_toArray, List.set_cons_zero, List.set_cons_succ]
          refine wpAnyH_take (i := 3) (oi := _) (v := ?_) rfl (by kernel_rfl) (by kernel_rfl) (by kernel_rfl) (fun _ _ _ h => h) (Or.inl ⟨by rfl, ?_⟩) (by assumption) ?_
          rotate_left
          · intro w hSw; clear hSw; first | (go_simp; done) | (go_simp; with_reducible rfl)
          simp only [Act.put, List.getElem_toArray, List.getElem_cons_succ, List.getElem_cons_zero, List.setIfInBounds_toArray, List.set_cons_zero, List.set_cons_succ]
          refine wpAnyH_take (i := 4) (oi := _) (v := ?_) rfl (by kernel_rfl) (by kernel_rfl) (by kernel_rfl) (fun _ _ _ h => h) (Or.inl ⟨by rfl, ?_⟩) (by assumption) ?_
          rotate_left
          · intro w hSw; clear hSw; first | (go_simp; done) | (go_simp; with_reducible rfl)
          simp only [Act.put, List.getElem_toArray, List.getElem_cons_succ, List.getElem_cons_zero, List.setIfInBounds_toArray, List.set_cons_zero, List.set_cons_succ]
          refine wpAnyH_take (i := 5) (oi := _) (v := _) rfl (by kernel_rfl) (by kernel_rfl) (by kernel_rfl) (fun _ _ _ h => h) (Or.inr ⟨by kernel_rfl, rfl⟩) (by assumption) ?_
          simp only [Act.put, List.getElem_toArray, List.getElem_cons_succ, List.getElem_cons_zero, List.setIfInBounds_toArray, List.set_cons_zero, List.set_cons_succ]
          refine wpAnyH_take (i := 6) (oi := _) (v := _) rfl (by kernel_rfl) (by kernel_rfl) (by kernel_rfl) (fun _ _ _ h => h) (Or.inr ⟨by kernel_rfl, rfl⟩) (by assumption) ?_
          simp only [Act.put, List.getElem_toArray, List.getElem_cons_succ, List.getElem_cons_zero, List.setIfInBounds_toArray, List.set_cons_zero, List.set_cons_succ]
          refine wpAnyH_take (i := 7) (oi := _) (v := _) rfl (by kernel_rfl) (by kernel_rfl) (by kernel_rfl) (fun _ _ _ h => h) (Or.inr ⟨by kernel_rfl, rfl⟩) (by assumption) ?_
          simp only [Act.put, List.getElem_toArray, List.getElem_cons_succ, List.getElem_cons_zero, List.setIfInBounds_toArray, List.set_cons_zero, List.set_cons_succ]
          refine wpAnyH_take (i := 8) (oi := _) (v := _) rfl (by kernel_rfl) (by kernel_rfl) (by kernel_rfl) (fun _ _ _ h => h) (Or.inr ⟨by kernel_rfl, rfl⟩) (by assumption) ?_
          simp only [Act.put, List.getElem_toArray, List.getElem_cons_succ, List.getElem_cons_zero, List.setIfInBounds_toArray, List.set_cons_zero, List.set_cons_succ]
          refine wpAnyH_take (i := 9) (oi := _) (v := _) rfl (by kernel_rfl) (by kernel_rfl) (by kernel_rfl) (fun _ _ _ h => h) (Or.inr ⟨by kernel_rfl, rfl⟩) (by assumption) ?_
          simp only [Act.put, List.getElem_toArray, List.getElem_cons_succ, List.getElem_cons_zero, List.setIfInBounds_toArray, List.set_cons_zero, List.set_cons_succ]
          refine wpAnyH_take (i := 10) (oi := _) (v := _) rfl (by kernel_rfl) (by kernel_rfl) (by kernel_rfl) (fun _ _ _ h => h) (Or.inr ⟨by kernel_rfl, rfl⟩) (by assumption) ?_
          simp only [Act.put, List.getElem_toArray, List.getElem_cons_succ, List.getElem_cons_zero, List.setIfInBounds_toArray, List.set_cons_zero, List.set_cons_succ]
          refine wpAnyH_take (i := 11) (oi := _) (v := _) rfl (by kernel_rfl) (by kernel_rfl) (by kernel_rfl) (fun _ _ _ h => h) (Or.inr ⟨by kernel_rfl, rfl⟩) (by assumption) ?_
          simp only [Act.put, List.getElem_toArray, List.getElem_cons_succ, List.getElem_cons_zero, List.setIfInBounds_toArray, List.set_cons_zero, List.set_cons_succ]
          refine wpAnyH_take (i := 12) (oi := _) (v := ?_) rfl (by kernel_rfl) (by kernel_rfl) (by kernel_rfl) (fun _ _ _ h => h) (Or.inl ⟨by rfl, ?_⟩) (by assumption) ?_
          rotate_left
          · intro w hSw; clear hSw; first | (go_simp; done) | (go_simp; with_reducible rfl)
          simp only [Act.put, List.getElem_toArray, List.getElem_cons_succ, List.getElem_cons_zero, List.setIfInBounds_toArray, List.set_cons_zero, List.set_cons_succ]
          refine wpAnyH_done (by kernel_rfl) ?_ _
          refine NoPanic.normal ?_
          replace hQ := Below_then hQ hHeld
          clear hHeld
          generalize wr.drew = wn at hQ ⊢
          have hsub : IntKind.i64.wrap ((e : Int) - (a : Int)) = ((e - a : Nat) : Int) := by rw [IntKind.wrap_i64]; omega
          have hr := runs_at (byte_at hlt) hae (by rw [hbl]; exact hes) H1.out hstop
          obtain ⟨o2, ho2⟩ : ∃ o2, o2 = o ++ (if e - a = 1 then [] else Lib.decDigits (e - a)) ++ [s[a]'hlt] := ⟨_, rfl⟩
          have hfin : o2 ++ runsL (s.data.toList.drop e) = runsL s.data.toList := by
            rw [← HE.out, hr, ho2]
            simp
          have hlen2 : o2.length ≤ 8 * e := by
            have h7 := decD_le7 (e - a) (by omega)
            rw [ho2, List.length_append, List.length_append, List.length_singleton]
            split
            · simp; omega
            · omega
          have HFIN := Lib.hid hfin
          have HL2 := Lib.hid hlen2
          have hz0 : (s[a]'hlt).toNat = (s[a]'hlt).toNat := rfl
          clear hr hfin hlen2
          have hb := Below_then HB.out hQ
          have hO := HO.out.below hQ
          clear hQ hstop
          by_cases hone : e - a = 1
          · have hg : ¬ (1 : Int) < ((e - a : Nat) : Int) := by omega
            rw [if_pos hone, List.append_nil] at ho2
            have HO2 := Lib.hid ho2
            clear ho2
            have HONE := Lib.hid hone
            clear hone
            go_wp2_with (first | (at_builtin; refine wp_appB (s[a]'hlt) rfl _ _ rfl w.heap.size _ o rfl (hO.alloc _) _ _ rfl (cell_of (heap_hit _ _ _ rfl) 0) (by first | rfl | exact HZC.out.symm) (by omega) (by have h1 := hb.size; rw [World.size_alloc]; omega) ?_; intro v' w3 hO3 hg3 hb3; have hbb := (Below_al hb _).trans hb3; clear hg3 hb3) | fail)
            rw [← HO2.out] at hO3
            go_roundw
            case rel => exact ⟨e, v', o2, by omega, rfl, rfl, hO3, HFIN.out, HL2.out, hbb⟩
            case measure => simp [intOf]; omega
          · have hg : (1 : Int) < ((e - a : Nat) : Int) := by omega
            rw [if_neg hone] at ho2
            have HO2 := Lib.hid ho2
            have KI := Lib.hid (HI.out (e - a) _ (by omega) hb)
            have h7 := decD_le7 (e - a) (by omega)
            clear ho2
            have HONE := Lib.hid hone
            clear hone
            go_wp2_with fail
            refine KI.out.mono ?_
            rintro e9 w5 ⟨rfl, hb5⟩
            have hO5 := hO.below hb5
            have hb6 := Below_then hb hb5
            clear hb5 hb hO
            go_wp2_with (first | (at_builtin; refine wp_appS rfl _ _ rfl w.heap.size _ o rfl hO5 ⟨(Lib.decDigits (e - a)).toArray⟩ rfl (by omega) (by show (Lib.decDigits (e - a)).toArray.size ≤ _; rw [List.size_toArray]; omega) hb6.size ?_; intro v8 w8 hO8 hg8 hb8; have hb9 := hb6.trans hb8; have hO8' : OwnB w8 w.heap.size v8 (o ++ Lib.decDigits (e - a)) := hO8; clear hg8 hb8 hO8) | (at_builtin; refine wp_appB (s[a]'hlt) rfl _ _ rfl w.heap.size _ (o ++ Lib.decDigits (e - a)) rfl (hO8'.alloc _) _ _ rfl (cell_of (heap_hit _ _ _ rfl) 0) (by first | rfl | exact HZC.out.symm) (by rw [List.length_append]; omega) (by have h1 := hb9.size; rw [World.size_alloc]; omega) ?_; intro v' w3 hO3 hg3 hb3; have hbb := (Below_al hb9 _).trans hb3; clear hg3 hb3) | fail)
            rw [← HO2.out] at hO3
            go_roundw
            case rel => exact ⟨e, v', o2, by omega, rfl, rfl, hO3, HFIN.out, HL2.out, hbb⟩
            case measure => simp [intOf]; omega
    · obtain rfl : a = s.size := by omega
      have d1 : decide (s.size < s.size) = false := by simp
      rw [← hbl, runs_end, List.append_nil] at hE
      have hcv := hO.conv
      rw [hE] at hcv
      clear hO hE
      go_wp2
      go_ret
      exact ⟨rfl, hb⟩
end Go.Proofs.YtenaadmifppphaaGreatDoor
