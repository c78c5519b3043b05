/- Contracts: DifferenceTable. -/
import Derived.Test.YtofnhgimeaahiaaNear
import Derived.Test.YtofnhgimeaahiaaGGLaw
namespace Go.Proofs.Ytofnhgimeaahiaa
open Go.ChangeShapes Go.WideShapes Go.ChangeAt Go.RowKit
set_option linter.unusedVariables false
set_option linter.unusedSimpArgs false
def rowD (rows : List ArmsD) (a : ArmsD) : List Int := rows.map (df a)
def tblD (rows part : List ArmsD) : List (List Int) := part.map (rowD rows)
theorem rowD_snoc {rows : List ArmsD} {a b : ArmsD} {k : Nat} (h : rows[k]? = some b) : rowD (rows.take (k + 1)) a = rowD (rows.take k) a ++ [df a b] := by
  rw [List.take_add_one, h]
  simp [rowD]
theorem tblD_snoc {rows : List ArmsD} {a : ArmsD} {k : Nat} (h : rows[k]? = some a) : tblD rows (rows.take (k + 1)) = tblD rows (rows.take k) ++ [rowD rows a] := by
  rw [List.take_add_one, h]
  simp [tblD]
theorem rangeAt_grown {w w' : World} {b o : Nat} {cs : List Value} {row : Option Nat} (h : w.rangeAt b o cs) (hg : w.grownBy w' row) (hne : row ≠ some b) : w'.rangeAt b o cs := fun j v hv => by
  have h1 := h j v hv
  have hb := World.block_lt_of_cell? w _ h1
  rw [World.cell?_of_block (a := ⟨b, o + j, none⟩) (hg.block b hb (fun e => hne e.symm))]
  exact h1
theorem OwnI.noneT (w : World) (B g : Nat) (hg : g = w.heap.size) (hB : B ≤ g) : OwnI (w.alloc (.cells #[] 3)) B 3 (.slice (some ⟨g, 0, none⟩) 0 0) [] :=
  OwnI.blk (zs := []) (heap_hit _ _ _ hg) hB (by simp [maxLen])
set_option maxHeartbeats 4000000 in
theorem implDifferenceTable_yes (A : Option Addr) (c : Nat) (rows : List ArmsD) (w : World) (h : RdR 15 w A (acs rows)) (hl : rows.length ≤ 1048576) (ho : listOk 16 rows = true) :
    Calls Try.prog 20 #[.slice A rows.length c] w (GridOk w (tblD rows rows) true) := by
  have KL := fun (w' : World) (hb : Below w.heap.size w w') => areArms_any A c 16 rows w' (h.below hb) hl (by omega)
  rw [ho] at KL
  have KL' := Lib.hid KL
  have HO := Lib.hid ho
  have HH := Lib.hid h
  have h16 := listOk_le ho
  clear KL ho h
  go_enter Try.func20, Try.ntmps20
  go_wp2_with fail
  refine (KL'.out _ (by (repeat (first | exact Below.refl _ _ | assumption | refine Below_al ?_ _ | refine Below.drew ?_ | refine Below_then ?_ (by assumption) | refine Below.setCell ?_ (by first | omega | (simp; done) | (simp; omega)) _)))).mono ?_
  rintro e w1 ⟨rfl, hb1⟩
  have hT : Below w.heap.size w (w1.alloc (.cells #[] 28)) := by (repeat (first | exact Below.refl _ _ | assumption | refine Below_al ?_ _ | refine Below.drew ?_ | refine Below_then ?_ (by assumption) | refine Below.setCell ?_ (by first | omega | (simp; done) | (simp; omega)) _))
  have hG : GG (w1.alloc (.cells #[] 28)) w.heap.size (.slice (some ⟨w1.heap.size, 0, none⟩) 0 0) [] [] := GG.none0 w1 _ _ rfl hb1.size
  clear hb1
  go_wp2_with fail
  go_loopw [4, 16] (fun o i wr => ∃ (k : Nat) (v : Value) (vs : List Value), k ≤ rows.length ∧ i = .int .i64 k ∧ o = v ∧ GG wr w.heap.size v (tblD rows (rows.take k)) vs ∧ Below w.heap.size w wr) (fun _ i _ => rows.length - (intOf i).toNat)
  case atStart => exact ⟨0, _, [], Nat.zero_le _, rfl, rfl, hG, hT⟩
  case round =>
    clear hG hT
    obtain ⟨k, v, vs, hk, rfl, hov, hG, hb⟩ := hrel
    replace hov := hov.symm
    subst hov
    by_cases hlt : k < rows.length
    · obtain ⟨a, ha⟩ := arms_at hlt
      obtain ⟨b, off, rfl, hr, -⟩ := (HH.out.below hb).arms ha
      have i1 : (k : Int) < (rows.length : Int) := by omega
      have d1 : decide (k < rows.length) = true := by simpa using hlt
      have HA := Lib.hid ha
      have ga := listOk_at HO.out ha
      have HGA := Lib.hid ga
      clear ha ga
      go_wp2_with (first | (refine ldA rfl _ rfl b _ rfl a hr ?_) | (refine stA rfl _ _ rfl _ rfl a rfl _ (heap_hit _ _ _ rfl) (by decide) ?_; intro wn hn1 hn2 hn3; have hn4 := hn3 _ _ (Nat.le_refl _) (Below_al (Below.refl _ _) _)) | fail)
      have hsz : wn.heap.size = wr.heap.size + 1 := by rw [hn2]; simp
      have hO0 : OwnI (wn.alloc (.cells #[] 3)) (wr.heap.size + 1) 3 (.slice (some ⟨wr.heap.size + 1, 0, none⟩) 0 0) [] := OwnI.noneT wn _ _ hsz.symm (Nat.le_refl _)
      have hR0 := rangeAt_below hn1 (Below_al (Below.refl wn.heap.size wn) (.cells #[] 3))
      have hL0 := Below_al hn4 (.cells #[] 3)
      obtain ⟨W0, hW0⟩ : ∃ W0, W0 = wr := ⟨_, rfl⟩
      obtain ⟨D, hD⟩ : ∃ D, D = wr.heap.size := ⟨_, rfl⟩
      have hGB : ∀ w', Below D W0 w' → GG w' w.heap.size v (tblD rows (rows.take k)) vs ∧ Below w.heap.size w w' := fun w' hb' => by rw [hD, hW0] at hb'; exact ⟨hG.below hb', Below_then hb hb'⟩
      have hGV : ∀ b, v.ownBlock = some b → b < D := fun b hb' => by rw [hD]; exact (World.ownsRow.lt hG.out b hb').2
      have hGU : ∀ (i : Nat) (u : Value), vs[i]? = some u → ∀ b, u.ownBlock = some b → b < D := fun i u hu b hb' => by
        rw [hD]
        have hi := (List.getElem?_eq_some_iff.1 hu).1
        exact ((hG.own i u _ hu (List.getElem?_eq_getElem (by rw [← hG.len]; exact hi))).lt b hb').2
      have hrow : ∀ w', Below D W0 w' → RdR 15 w' (some ⟨b, off, none⟩) (acs rows) := fun w' hb' => HH.out.below (hGB w' hb').2
      have hws := hb.size
      rw [← hD] at hO0 hR0 hL0 hsz hws
      rw [← hW0] at hL0
      rw [← hD]
      have HGB := Lib.hid hGB
      have HGV := Lib.hid hGV
      have HGU := Lib.hid hGU
      have HROW := Lib.hid hrow
      clear hD hW0 hn1 hn2 hn3 hn4 hGB hGV hGU hrow hr
      go_loopw [7, 23] (fun o i wi => ∃ (j : Nat) (u : Value), j ≤ rows.length ∧ i = .int .i64 j ∧ o = u ∧ OwnI wi (D + 1) 3 u (rowD (rows.take j) a) ∧ wi.rangeAt D 0 (ac a) ∧ Below D W0 wi) (fun _ i _ => rows.length - (intOf i).toNat)
      case atStart => exact ⟨0, _, Nat.zero_le _, rfl, rfl, by simpa [rowD] using hO0, hR0, hL0⟩
      case round =>
        clear hO0 hR0 hL0 hG hb
        obtain ⟨j, u, hj, rfl, hou, hO, hR, hL⟩ := hrel
        replace hou := hou.symm
        subst hou
        by_cases hj2 : j < rows.length
        · obtain ⟨x, hx⟩ := arms_at hj2
          obtain ⟨b2, off2, e2, hr2, -⟩ := (HROW.out _ hL).arms hx
          injection e2 with e2
          injection e2 with e21 e22
          subst e21 e22
          have j1 : (j : Int) < (rows.length : Int) := by omega
          have d2 : decide (j < rows.length) = true := by simpa using hj2
          have KD := fun w => differencesC a x w HGA.out (listOk_at HO.out hx)
          have HX := Lib.hid hx
          obtain ⟨z, hz⟩ : ∃ z, z = df a x := ⟨_, rfl⟩
          rw [← hz] at KD
          have HZ := Lib.hid hz
          have KD' := Lib.hid KD
          have hrl : (rowD (rows.take j) a).length ≤ 1099511627776 := by simp [rowD]; omega
          have hDl := World.block_lt_of_cell? wr _ (hR 0 _ rfl)
          clear KD hx hz
          go_wp2_with (first | (refine ldA rfl _ rfl b _ rfl x hr2 ?_) | (refine stA rfl _ _ rfl _ rfl x rfl _ (heap_hit _ _ _ rfl) (by decide) ?_; intro wm hm1 hm2 hm3; have hm4 := hm3 _ _ (Nat.le_refl _) (Below_al (Below.refl _ _) _); have hRm := rangeAt_below hR hm4) | (refine ldA rfl _ rfl D _ rfl a hRm ?_) | (refine ldA rfl _ rfl _ _ rfl x hm1 ?_) | fail)
          refine (KD'.out _).mono ?_
          rintro e w5 ⟨rfl, hb5⟩
          have hO5 := (hO.below hm4).below hb5
          have hR5 := rangeAt_below hRm hb5
          have hb45 := Below_then hm4 hb5
          have hL5 : Below D W0 w5 := hL.trans (hb45.mono (by omega))
          have hs5 := hb45.size
          have hne := ownBlock_ne (b := D) (hO5.alloc (.cells #[.int .i64 z] 3)) (.inl (Nat.lt_succ_self _))
          clear hm1 hm2 hm3 hm4 hRm hb5 hb45 hr2 hO hL
          go_wp2_with (first | (at_builtin; refine wp_appI rfl _ _ rfl (D + 1) _ (rowD (rows.take j) a) rfl (hO5.alloc _) _ _ rfl (cell_of (heap_hit _ _ _ rfl) 0) ?c1 ?c2 ?_; rotate_left 2; intro v' w9 hO9 hG9 hL9) | fail)
          try (case c1 => exact hrl)
          try (case c2 => (simp; omega))
          have hR9 := rangeAt_grown (rangeAt_below hR5 (Below_al (Below.refl _ _) (.cells #[.int .i64 z] 3))) hG9 hne
          have hT9 : Below D W0 w9 := (hL5.alloc (by omega) _).trans (hL9.mono (by omega))
          clear hG9 hL9 hO5 hR5 hne
          go_wp2
          go_roundw
          case rel => exact ⟨j + 1, _, by omega, by go_num, rfl, by rw [rowD_snoc HX.out, ← HZ.out]; exact hO9, hR9, hT9⟩
          case measure => simp [intOf]; omega
        · obtain rfl : j = rows.length := by omega
          have d2 : decide (rows.length < rows.length) = false := by simp
          rw [List.take_length] at hO
          obtain ⟨hG6, hT6⟩ := HGB.out _ hL
          have hs6 := hT6.size
          have q1 : ∀ (i : Nat) (u' : Value), vs[i]? = some u' → u'.ownBlock = none ∨ u'.ownBlock ≠ u.ownBlock := fun i u' hu' => by
            cases e : u'.ownBlock with
            | none => exact .inl rfl
            | some b =>
              refine .inr fun e2 => ?_
              have := HGU.out i u' hu' b e
              have := (hO.lt b e2.symm).1
              omega
          have q2 : u.ownBlock = none ∨ u.ownBlock ≠ v.ownBlock := by
            cases e : u.ownBlock with
            | none => exact .inl rfl
            | some b =>
              refine .inr fun e2 => ?_
              have := HGV.out b e2.symm
              have := (hO.lt b e).1
              omega
          have q3 : (tblD rows (rows.take k)).length ≤ 1048576 := by simp [tblD]; omega
          obtain ⟨A', c', rfl, -⟩ := hO.form
          have Q1 := Lib.hid q1
          have Q2 := Lib.hid q2
          clear q1 q2 hL hR
          go_wp2_with (first | (at_builtin; refine wp_appG rfl _ _ rfl w.heap.size v (tblD rows (rows.take k)) vs rfl (hG6.below (Below_al (Below.refl _ _) _)) _ _ (rowD rows a) rfl (cell_of (heap_hit _ _ _ rfl) 0) (OwnI.base (hO.alloc _) ?c0) Q1.out Q2.out q3 ?c4 ?_; rotate_left 2; intro v' w9 hG9 hR9 hL9) | fail)
          try (case c0 => omega)
          try (case c4 => (simp; omega))
          have hT9 := (Below_al hT6 _).trans hL9
          clear hR9 hL9 hG6 hO
          go_wp2
          go_roundw
          case rel => exact ⟨k + 1, _, _, by omega, by go_num, rfl, by rw [tblD_snoc HA.out]; exact hG9, hT9⟩
          case measure => simp [intOf]; omega
    · obtain rfl : k = rows.length := by omega
      have d1 : decide (rows.length < rows.length) = false := by simp
      rw [List.take_length] at hG
      go_wp2
      go_ret2
      exact ⟨_, vs, rfl, hG, hb⟩
end Go.Proofs.Ytofnhgimeaahiaa
