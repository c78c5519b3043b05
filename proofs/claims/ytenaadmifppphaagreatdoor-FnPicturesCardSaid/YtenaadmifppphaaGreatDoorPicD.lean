/- What the draws of pictures give. -/
import Derived.Test.YtenaadmifppphaaGreatDoorCur3
import Derived.Test.YtenaadmifppphaaGreatDoorValid
import Derived.Test.YtenaadmifppphaaGreatDoorFieldFns
import Derived.Test.YtenaadmifppphaaGreatDoorGGLaw
import Derived.Test.YtenaadmifppphaaGreatDoorGrid2
import Derived.Test.YtenaadmifppphaaGreatDoorRegion4
namespace Go.Proofs.YtenaadmifppphaaGreatDoor
open Go.ChangeShapes Go.WideShapes Go.ChangeAt Go.RowKit
set_option linter.unusedVariables false
set_option linter.unusedSimpArgs false
structure Shp (rows : List (List Int)) : Prop where
  len : rows.length = 24
  row : ∀ (y : Nat) (row : List Int), rows[y]? = some row → row.length = 20
theorem Shp.small {rows : List (List Int)} (h : Shp rows) : Small rows := ⟨by rw [h.len]; omega, fun r hr => by
  obtain ⟨i, hi⟩ := List.getElem?_of_mem hr
  rw [h.row i r hi]
  omega⟩
theorem hasB_zero (j : Nat) : hasB 0 j = false := by
  have := hasB_nat 0 j (by decide)
  simpa using this
theorem regRows_at (h : Int → Int → Bool) {y : Nat} (hy : y < 24) : ∃ v, (regRows h)[y]? = some v ∧ 0 ≤ v ∧ v ≤ 1048575 := by
  refine ⟨rowV (cellP h y) 20, by simp [regRows, cellF, hy], ?_⟩
  rw [rowV_nat _ 20 (by omega)]
  have : rowN (cellP h y) 20 < 1048576 := rowN_lt (cellP h y) 20
  omega
/-- Rows of twenty that are gathered. -/
def Shp20 (rows : List (List Int)) : Prop := ∀ (y : Nat) (row : List Int), rows[y]? = some row → row.length = 20
theorem Shp20.snoc {rows : List (List Int)} {r : List Int} (h : Shp20 rows) (hr : r.length = 20) : Shp20 (rows ++ [r]) := fun y row hy => by
  by_cases hl : y < rows.length
  · rw [List.getElem?_append_left hl] at hy
    exact h y row hy
  · have hl2 := (List.getElem?_eq_some_iff.1 hy).1
    simp at hl2
    obtain rfl : y = rows.length := by omega
    rw [List.getElem?_append_right (Nat.le_refl _), Nat.sub_self] at hy
    simp at hy
    rw [← hy]
    exact hr
theorem Shp20.set {rows : List (List Int)} {r : List Int} (h : Shp20 rows) (k : Nat) (hr : r.length = 20) : Shp20 (rows.set k r) := fun y row hy => by
  rw [List.getElem?_set] at hy
  split at hy
  · split at hy
    · injection hy with hy
      rw [← hy]; exact hr
    · cases hy
  · exact h y row hy
def PicIs (w : World) (e : Ending) (w' : World) : Prop := ∃ v rows vs, e = .returned v ∧ GG w' w.heap.size v rows vs ∧ rows.length = 24 ∧ Shp20 rows ∧ Below w.heap.size w w'
set_option maxHeartbeats 4000000 in
set_option maxRecDepth 100000 in
theorem l14Picture_any (d l p q : Int) (A : Option Addr) (w : World) (h : RdI w A (List.replicate 24 0)) :
    Calls Tryz.prog 63 #[.agg #[.int .i64 d, .int .i64 l, .int .i64 p, .int .i64 q], .agg #[.slice A 24 24]] w (PicIs w) := by
  have hB1 := Below_al (Below_al (Below.refl w.heap.size w) (.cells #[.int .i64 d, .int .i64 l, .int .i64 p, .int .i64 q] 59)) (.cells #[.slice A 24 24] 62)
  obtain ⟨W0, hW0⟩ : ∃ W0, W0 = (w.alloc (.cells #[.int .i64 d, .int .i64 l, .int .i64 p, .int .i64 q] 59)).alloc (.cells #[.slice A 24 24] 62) := ⟨_, rfl⟩
  have hF : W0.heap[w.heap.size]? = some (.cells #[.int .i64 d, .int .i64 l, .int .i64 p, .int .i64 q] 59 (0, 0)) := by rw [hW0]; exact heap_keepA (heap_hit _ _ _ rfl) _
  have hR : W0.heap[w.heap.size + 1]? = some (.cells #[.slice A 24 24] 62 (0, 0)) := by rw [hW0]; exact heap_hit _ _ _ (by simp)
  have hS : W0.heap.size = w.heap.size + 1 + 1 := by rw [hW0]; simp
  rw [← hW0] at hB1
  have HF := Lib.hid hF
  have HR := Lib.hid hR
  have HH := Lib.hid (h.below hB1)
  have HB1 := Lib.hid hB1
  have hG := GG.none0 W0 W0.heap.size W0.heap.size rfl (Nat.le_refl _)
  have HG := Lib.hid hG
  clear hF hR hG h hB1
  go_enter Tryz.func63, Tryz.ntmps63
  go_upto_region 1 with (fail)
  rw [← hW0]
  clear hW0 hS
  go_wp2_with fail
  go_loopw [5, 6] (fun o i wr => ∃ (k : Nat) (v : Value) (rows : List (List Int)) (vs : List Value), k ≤ 24 ∧ rows.length = k ∧ i = .int .i64 k ∧ o = v ∧ GG wr W0.heap.size v rows vs ∧ Shp20 rows ∧ Below W0.heap.size W0 wr) (fun _ i _ => 24 - (intOf i).toNat)
  case atStart => exact ⟨0, _, [], [], Nat.zero_le _, rfl, rfl, rfl, HG.out, fun y row h => by simp at h, Below_al (Below.refl _ _) _⟩
  case round =>
    obtain ⟨y, v, rows, vs, hk, hrl, rfl, hov, hG, hsh, hb⟩ := hrel
    replace hov := hov.symm
    subst hov
    have HRL := Lib.hid hrl
    obtain ⟨wo, hwo⟩ : ∃ x, x = wr := ⟨wr, rfl⟩
    rw [← hwo] at hG hb ⊢
    clear hwo hrl
    by_cases hlt : y < 24
    · have i1 : (y : Int) < 24 := by omega
      have d1 : decide (y < 24) = true := by simpa using hlt
      have hO0 : OwnI (wo.alloc (.cells #[] 3)) wo.heap.size 3 (.slice (some ⟨wo.heap.size, 0, none⟩) 0 0) [] := OwnI.blk (zs := []) (heap_hit _ _ _ rfl) (Nat.le_refl _) (by simp [maxLen])
      have hL0 := Below_al (Below.refl wo.heap.size wo) (.cells #[] 3)
      have HO0 := Lib.hid hO0
      have HL0 := Lib.hid hL0
      have HG2 := Lib.hid hG
      have HB2 := Lib.hid hb
      have HSH := Lib.hid hsh
      clear hG hb hO0 hL0 hsh
      go_wp2_with fail
      go_loopw [7, 8] (fun o i wi => ∃ (x : Nat) (u : Value) (zs : List Int), x ≤ 20 ∧ zs.length = x ∧ i = .int .i64 x ∧ o = u ∧ OwnI wi wo.heap.size 3 u zs ∧ Below wo.heap.size wo wi) (fun _ i _ => 20 - (intOf i).toNat)
      case atStart => exact ⟨0, _, [], Nat.zero_le _, rfl, rfl, rfl, HO0.out, HL0.out⟩
      case round =>
        obtain ⟨x, u, zs, hx, hzl, rfl, hou, hO, hL⟩ := hrel
        replace hou := hou.symm
        subst hou
        have HZL := Lib.hid hzl
        obtain ⟨wi, hwi⟩ : ∃ z, z = wr := ⟨wr, rfl⟩
        rw [← hwi] at hO hL ⊢
        clear hwi hzl
        by_cases hx2 : x < 20
        · have i2 : (x : Int) < 20 := by omega
          have d2 : decide (x < 20) = true := by simpa using hx2
          obtain ⟨tv, bv, KT⟩ : ∃ (tv : Int) (bv : Bool), ∀ w, Calls Tryz.prog 76 #[.agg #[.int .i64 d, .int .i64 l, .int .i64 p, .int .i64 q], .int .i64 (x : Int), .int .i64 (y : Int)] w fun e w' => e = .returned (.tuple #[.int .i64 tv, .bool bv]) ∧ Below w.heap.size w w' := ⟨_, _, fun w => specFieldTincture_any d l p q x y w⟩
          have KT' := Lib.hid KT
          have hBi := Below_then HB2.out hL
          have hfi := heap_keepB HF.out hBi
          have c0 := cell_of hfi 0
          have c1 := cell_of hfi 1
          have c2 := cell_of hfi 2
          have c3 := cell_of hfi 3
          have HO := Lib.hid hO
          have HLL := Lib.hid hL
          have HBI := Lib.hid hBi
          clear hO hL KT hfi hBi
          go_wp2_with fail
          refine (KT'.out _).mono ?_
          rintro e w5 ⟨rfl, hb5⟩
          have hB5 := Below_then HBI.out hb5
          have hr5 := cell_of (heap_keepB HR.out hB5) 0
          have hrd5 := HH.out.below hB5
          have HO5 := Lib.hid (HO.out.below hb5)
          have HL5 := Lib.hid (Below_then HLL.out hb5)
          clear c0 c1 c2 c3 hb5 hB5
          have hx9 := hx2
          go_wp2_with fail
          refine (l9Has_any A 24 (List.replicate 24 0) x y 0 _ hrd5 hx2 hlt (by rw [List.getElem?_replicate, if_pos hlt]) (by omega) (by omega)).mono ?_
          rw [hasB_zero]
          rintro e w6 ⟨rfl, hb6⟩
          have HO6 := Lib.hid (HO5.out.below hb6)
          have HL6 := Lib.hid (Below_then HL5.out hb6)
          have hsz := HL6.out.size
          have hlen : zs.length ≤ 20 := by have := HZL.out; omega
          clear hr5 hrd5 hb6
          go_wp2_with (first | (at_builtin; refine wp_appI rfl _ _ rfl wo.heap.size u zs rfl (HO6.out.alloc _) _ _ rfl (cell_of (heap_hit _ _ _ rfl) 0) ?c1 ?c2 ?_; rotate_left 2; intro v' w9 hO9 hG9 hL9) | fail)
          try (case c1 => omega)
          try (case c2 => (simp; omega))
          have hT9 := (Below.alloc HL6.out hsz (.cells #[.int .i64 tv] 3)).trans hL9
          clear hG9 hL9 hlen
          go_wp2
          go_roundw
          case rel => exact ⟨x + 1, _, _, by omega, by rw [List.length_append, HZL.out]; rfl, by go_num, rfl, hO9, hT9⟩
          case measure => simp [intOf]; omega
        · obtain rfl : x = 20 := by omega
          have d2 : decide (20 < 20) = false := by simp
          have hG6 := HG2.out.below hL
          have hT6 := Below_then HB2.out hL
          have hs6 := hT6.size
          have hbs := HB2.out.size
          have hw0 := HB1.out.size
          have q1 : ∀ (i : Nat) (u' : Value), vs[i]? = some u' → u'.ownBlock = none ∨ u'.ownBlock ≠ u.ownBlock := fun i u' hu' => by
            cases e : u'.ownBlock with
            | none => exact .inl rfl
            | some b =>
              refine .inr fun e2 => ?_
              have := (HG2.out.hi i u' hu' b e).2
              have := (hO.lt b e2.symm).1
              omega
          have q2 : u.ownBlock = none ∨ u.ownBlock ≠ v.ownBlock := by
            cases e : u.ownBlock with
            | none => exact .inl rfl
            | some b =>
              refine .inr fun e2 => ?_
              have := (HG2.out.outer b e2.symm).2
              have := (hO.lt b e).1
              omega
          have q3 : rows.length ≤ 1048576 := by have := HRL.out; omega
          obtain ⟨A', c', rfl, -⟩ := hO.form
          have Q1 := Lib.hid q1
          have Q2 := Lib.hid q2
          have HO5 := Lib.hid hO
          have HG6 := Lib.hid hG6
          have HT6 := Lib.hid hT6
          clear q1 q2 hL hO hG6 hT6
          go_wp2_with (first | (at_builtin; refine wp_appG rfl _ _ rfl W0.heap.size v rows vs rfl (HG6.out.below (Below_al (Below.refl _ _) _)) _ _ zs rfl (cell_of (heap_hit _ _ _ rfl) 0) (OwnI.base (HO5.out.alloc _) ?c0) Q1.out Q2.out q3 ?c4 ?_; rotate_left 2; intro v' w9 hG9 hR9 hL9) | fail)
          try (case c0 => omega)
          try (case c4 => (simp; omega))
          have hT10 := (Below_al HT6.out _).trans hL9
          clear hL9
          go_wp2
          go_roundw
          case rel => exact ⟨y + 1, _, _, _, by omega, by rw [List.length_append, HRL.out]; rfl, by go_num, rfl, hG9, HSH.out.snoc HZL.out, hT10⟩
          case measure => simp [intOf]; omega
    · obtain rfl : y = 24 := by omega
      have d1 : decide (24 < 24) = false := by simp
      have HG2 := Lib.hid hG
      have HB2 := Lib.hid hb
      clear hG hb
      go_wp2
      go_ret
      exact ⟨_, rows, vs, rfl, HG2.out.base HB1.out.size, HRL.out, hsh, HB1.out.trans (HB2.out.mono HB1.out.size)⟩
set_option maxHeartbeats 4000000 in
theorem FieldPicture_any (d l p q : Int) (hf : fieldOk d l p q = true) (w : World) : Calls Tryz.prog 46 #[.agg #[.int .i64 d, .int .i64 l, .int .i64 p, .int .i64 q]] w fun e w' =>
    ∃ v rows vs, e = .returned (.tuple #[v, .bool true]) ∧ GG w' w.heap.size v rows vs ∧ rows.length = 24 ∧ Shp20 rows ∧ Below w.heap.size w w' := by
  have hF : (w.alloc (.cells #[.int .i64 d, .int .i64 l, .int .i64 p, .int .i64 q] 59)).heap[w.heap.size]? = some (.cells #[.int .i64 d, .int .i64 l, .int .i64 p, .int .i64 q] 59 (0, 0)) := heap_hit _ _ _ rfl
  have hB := Below_al (Below.refl w.heap.size w) (.cells #[.int .i64 d, .int .i64 l, .int .i64 p, .int .i64 q] 59)
  have KG := fun w => l3Good_any d l p q w
  rw [hf] at KG
  have KG' := Lib.hid KG
  have HF := Lib.hid hF
  clear KG hF
  go_enter Tryz.func46, Tryz.ntmps46
  go_wp2_with fail
  refine (KG'.out _).mono ?_
  rintro e w1 ⟨rfl, hb1⟩
  have hT := Below_then hB hb1
  have hr1 : w1.rangeAt w.heap.size 0 [.int .i64 d, .int .i64 l, .int .i64 p, .int .i64 q] := fun j v hv => by rw [Nat.zero_add, cell_of (heap_keepB HF.out hb1)]; simpa using hv
  clear hb1
  go_wp2_with fail
  refine wp_region_noPanic ?_
  refine wp_region_held_drew (S := (fun w' => w'.rangeAt w.heap.size 0 [.int .i64 d, .int .i64 l, .int .i64 p, .int .i64 q] ∧ Below w1.heap.size w1 w')) (by kernel_rfl) ⟨hr1, (Below.refl _ _).drew⟩ (fun hHeld => ?_)
  refine wpAnyH_take (i := 0) (oi := _) (v := _) rfl ?g1_1 ?g2_1 ?g3_1 (fun _ _ _ h => h) (yieldsIf_load_mid ?g4_1 _ _ rfl w.heap.size ?oo_1 ?g5_1 [.int .i64 d, .int .i64 l, .int .i64 p, .int .i64 q] _ ?g6_1 Tryz.underlying59 rfl (by kernel_rfl)) ?g7_1 ?_
  case g5_1 => rfl
  case g1_1 => kernel_rfl
  case g2_1 => kernel_rfl
  case g3_1 => kernel_rfl
  case g6_1 => exact (fun _ h => h.1)
  case g4_1 => kernel_rfl
  case g7_1 => assumption
  simp only [Act.put, List.getElem_toArray, List.getElem_cons_succ, List.getElem_cons_zero, List.setIfInBounds_toArray, List.set_cons_zero, List.set_cons_succ]
  refine wpAnyH_ready (rs := [1]) (by kernel_rfl) (by simp) ?_
  refine AllReadyH.cons (o := _) rfl (fun K hK => ?_) AllReadyH.nil
  go_simp
  refine (l9Empty_any _).mono ?_
  rintro e x2 ⟨g, rfl, hg0, hgb, hb2⟩
  go_wp2_with fail
  refine hK.out _ _ ⟨rangeAt_below hHeld.1 hb2, Below_then hHeld.2 hb2⟩ (fun hHeld => ?_)
  clear hK K
  try simp only [Act.put, List.getElem_toArray, List.getElem_cons_succ, List.getElem_cons_zero, List.setIfInBounds_toArray, List.set_cons_zero, List.set_cons_succ]
  refine wpAnyH_ready (rs := [2]) (by kernel_rfl) (by simp) ?_
  refine AllReadyH.cons (o := _) rfl (fun K hK => ?_) AllReadyH.nil
  have hs2 := hHeld.2.size
  go_simp
  refine (l14Picture_any d l p q _ _ (RdI.blk hgb)).mono ?_
  rintro e x3 ⟨v, rows, vs, rfl, hG, hrl, hsh, hb3⟩
  go_wp2_with fail
  refine hK.out _ _ ⟨rangeAt_below hHeld.1 hb3, Below_then hHeld.2 hb3⟩ (fun hHeld => ?_)
  clear hK K
  try simp only [Act.put, List.getElem_toArray, List.getElem_cons_succ, List.getElem_cons_zero, List.setIfInBounds_toArray, List.set_cons_zero, List.set_cons_succ]
  refine wpAnyH_take (i := 3) (oi := _) (v := ?_) rfl (by kernel_rfl) (by kernel_rfl) (by kernel_rfl) (fun _ _ _ h => h) (Or.inl ⟨by rfl, ?_⟩) (by assumption) ?_
  rotate_left
  · intro w hSw; clear hSw; first | (go_simp; done) | (go_simp; with_reducible rfl)
  simp only [Act.put, List.getElem_toArray, List.getElem_cons_succ, List.getElem_cons_zero, List.setIfInBounds_toArray, List.set_cons_zero, List.set_cons_succ]
  refine wpAnyH_take (i := 4) (oi := _) (v := ?_) rfl (by kernel_rfl) (by kernel_rfl) (by kernel_rfl) (fun _ _ _ h => h) (Or.inl ⟨by rfl, ?_⟩) (by assumption) ?_
  rotate_left
  · intro w hSw; clear hSw; first | (go_simp; done) | (go_simp; with_reducible rfl)
  simp only [Act.put, List.getElem_toArray, List.getElem_cons_succ, List.getElem_cons_zero, List.setIfInBounds_toArray, List.set_cons_zero, List.set_cons_succ]
  have hT3 := Below_then hT hHeld.2
  refine wpAnyH_done (by kernel_rfl) ?_ _
  refine NoPanic.normal ?_
  have hsz : w.heap.size ≤ x2.heap.size := Nat.le_trans hT.size hs2
  go_wp2
  go_ret2
  exact ⟨_, rows, vs, rfl, hG.base hsz, hrl, hsh, hT3⟩
set_option maxHeartbeats 8000000 in
set_option maxRecDepth 100000 in
theorem picture_any (b k : Nat) (w : World) (h : Cur w b k) (hk : k ≤ 800000) : Calls Tryz.prog 29 #[.pointer (some ⟨b, 0, none⟩)] w fun e w' =>
    ∃ v rows vs, e = .returned v ∧ GG w' w.heap.size v rows vs ∧ rows.length = 24 ∧ Shp20 rows ∧ Cur w' b (k + 12) ∧ w.grownBy w' (some b) := by
  go_enter Tryz.func29, Tryz.ntmps29
  go_wp2_with fail
  refine (field_any b k _ h (by omega)).mono ?_
  rintro e w1 ⟨d, l, p, q, rfl, hf, hc, hg⟩
  have hbl := h.lt
  have hs1 := hg.size
  replace hf := hf trivial
  go_wp2_with fail
  refine (FieldPicture_any d l p q hf _).mono ?_
  rintro e w2 ⟨v, rows, vs, rfl, hG, hrl, hsh, hb2⟩
  replace hc := hc.below hb2
  replace hg := grownBy_below hg hb2
  replace hG := hG.base hs1
  obtain ⟨g, cg, A0, n0, c0, r0, ev, -⟩ := hG.at_ (k := 0) (by omega)
  rw [hrl] at ev
  subst ev
  have HG := Lib.hid hG
  have HRL := Lib.hid hrl
  have HSH := Lib.hid hsh
  clear hG hrl hsh hb2 hf
  go_wp2_with fail
  refine (pick_any b (k + 5) 4 _ hc (by omega) (by omega) (by omega)).mono ?_
  rintro e w3 ⟨z, rfl, ⟨z0, z1⟩, hc3, hg3⟩
  obtain ⟨n, rfl⟩ : ∃ n : Nat, z = (n : Int) := ⟨z.toNat, by omega⟩
  have hG3 := HG.out.beside HG.out.glt hg3 (fun k hk => by injection hk with hk; omega)
  have HG3 := Lib.hid hG3
  have HC3 := Lib.hid hc3
  have HGR := Lib.hid (grownBy_trans hg hg3)
  clear hG3 hc3 hg3 hc hg HG
  go_wp2_with fail
  go_loopw [5] (fun nv wr => ∃ (j : Nat) (rows : List (List Int)), j ≤ 3 ∧ nv = .int .i64 j ∧ rows.length = 24 ∧ Shp20 rows ∧ GG wr w.heap.size (.slice (some ⟨g, 0, none⟩) 24 cg) rows vs ∧ Cur wr b (k + 6 + 2 * (3 - j)) ∧ w.grownBy wr (some b)) (fun nv _ => (intOf nv).toNat)
  case atStart => exact ⟨n, rows, by omega, rfl, HRL.out, HSH.out, HG3.out, HC3.out.mono (by omega), HGR.out⟩
  case round =>
    clear HG3 HC3 HGR HRL HSH
    obtain ⟨j, rows, hj, rfl, hrl, hsh, hG, hc, hg⟩ := hrel
    have HRL := Lib.hid hrl
    have HSH := Lib.hid hsh
    have HG := Lib.hid hG
    clear hrl hsh hG
    by_cases hlt : 0 < j
    · have i1 : (0 : Int) < (j : Int) := by omega
      go_wp2_with fail
      refine (pick_any b (k + 6 + 2 * (3 - j)) 7 _ hc (by omega) (by omega) (by omega)).mono ?_
      rintro e w4 ⟨o, rfl, ⟨o0, o1⟩, hc4, hg4⟩
      have hG4 := HG.out.beside HG.out.glt hg4 (fun k hk => by injection hk with hk; omega)
      have HG4 := Lib.hid hG4
      have hgr4 := grownBy_trans hg hg4
      have hw4s := hgr4.size
      have KO := Lib.hid (specOrdinaryCells_yes (1 + o) w4 (by omega) (by omega))
      clear hG4 hg4 hg hc
      go_wp2_with fail
      refine (KO.out).mono ?_
      rintro e w5 ⟨rv, rfl, hO5, hb5⟩
      replace hc4 := hc4.below hb5
      replace hgr4 := grownBy_below hgr4 hb5
      have hG5 := HG4.out.below hb5
      have hlt5 := HG4.out.glt
      obtain ⟨Ar, cr, rfl, hrd⟩ := hO5.form
      rw [regRows_len]
      obtain ⟨zs, hzs⟩ : ∃ zs, zs = regRows (fun x y => l9O (1 + o) x y) := ⟨_, rfl⟩
      have hzb : ∀ (y : Nat), y < 24 → ∃ v, zs[y]? = some v ∧ 0 ≤ v ∧ v ≤ 1048575 := fun y hy => by
        rw [hzs]
        exact regRows_at _ hy
      have hzl : zs.length = 24 := by rw [hzs, regRows_len]
      rw [← hzs] at hO5
      have HZB := Lib.hid hzb
      have HZL := Lib.hid hzl
      have hw45 := hb5.size
      have hO6 := hO5.alloc (.cells #[.slice Ar 24 cr] 62)
      have hc6 := hc4.alloc (.cells #[.slice Ar 24 cr] 62)
      have hG6 := hG5.below (Below_al (Below.refl _ _) (.cells #[.slice Ar 24 cr] 62))
      have hg6 := grownBy_below hgr4 (Below_al (Below.refl _ _) (.cells #[.slice Ar 24 cr] 62))
      have hbx : (w5.alloc (.cells #[.slice Ar 24 cr] 62)).heap[w5.heap.size]? = some (.cells #[.slice Ar 24 cr] 62 (0, 0)) := heap_hit _ _ _ rfl
      have hww4 : w.heap.size ≤ w4.heap.size := hw4s
      go_upto_region 6 with (fail)
      obtain ⟨w6, hw6⟩ : ∃ w6, w6 = w5.alloc (.cells #[.slice Ar 24 cr] 62) := ⟨_, rfl⟩
      have hs6 : w6.heap.size = w5.heap.size + 1 := by rw [hw6]; simp
      rw [← hw6] at hO6 hc6 hG6 hg6 hbx ⊢
      obtain ⟨R, hR⟩ : ∃ R, R = w5.heap.size := ⟨_, rfl⟩
      rw [← hR] at hs6 hbx ⊢
      have hR4 : w4.heap.size ≤ R := by omega
      have hl4 := HG4.out.glt
      clear hw6 hR hO5 hrd hG5 hc4 hgr4 hb5 hzs hzb hzl
      go_wp2_with fail
      refine (tincture_any b (k + 6 + 2 * (3 - j) + 1) _ hc6 (by omega)).mono ?_
      rintro e w7 ⟨tt, rfl, ⟨t0, t1⟩, hc7, hg7⟩
      have hO7 := hO6.other hg7 (.inr (ownBlock_ne hO6 (.inl (by omega))))
      have hbx7 := heap_keepG hbx hg7 (fun e => by injection e with e; omega)
      have hG7 := hG6.beside hG6.glt hg7 (fun k hk => by injection hk with hk; omega)
      have hgr7 := grownBy_trans hg6 hg7
      have HO7 := Lib.hid hO7
      have HBX := Lib.hid hbx7
      have HG7 := Lib.hid hG7
      have HGR7 := Lib.hid hgr7
      have HC7 := Lib.hid hc7
      have HL4 := Lib.hid hl4
      clear hO6 hO7 hbx hbx7 hG6 hG7 hg6 hg7 hgr7 hc6 hc7 hl4 hs6
      go_wp2_with fail
      go_loopw [9] (fun yv wr => ∃ (y : Nat) (rows : List (List Int)), y ≤ 24 ∧ yv = .int .i64 y ∧ rows.length = 24 ∧ Shp20 rows ∧ GG wr w.heap.size (.slice (some ⟨g, 0, none⟩) 24 cg) rows vs ∧ OwnI wr w4.heap.size 3 (.slice Ar zs.length cr) zs ∧ wr.heap[R]? = some (.cells #[.slice Ar 24 cr] 62 (0, 0)) ∧ Cur wr b (k + 6 + 2 * (3 - j) + 1 + 1) ∧ w.grownBy wr (some b)) (fun yv _ => 24 - (intOf yv).toNat)
      case atStart => exact ⟨0, rows, by omega, rfl, HRL.out, HSH.out, HG7.out, HO7.out, HBX.out, HC7.out, HGR7.out⟩
      case round =>
        clear HG7 HO7 HBX HC7 HGR7 HRL HSH HG HG4
        obtain ⟨y, rows, hy, rfl, hrl, hsh, hG, hO, hbx, hc, hg⟩ := hrel
        have HRL := Lib.hid hrl
        have HSH := Lib.hid hsh
        have HG := Lib.hid hG
        have HO := Lib.hid hO
        have HBX := Lib.hid hbx
        have HC := Lib.hid hc
        have HGR := Lib.hid hg
        clear hrl hsh hG hO hbx hc hg
        by_cases hy2 : y < 24
        · have i2 : (y : Int) < 24 := by omega
          have d2 : decide (y < 24) = true := by simpa using hy2
          go_wp2_with fail
          go_loopw [10] (fun xv wr => ∃ (x : Nat) (rows : List (List Int)), x ≤ 20 ∧ xv = .int .i64 x ∧ rows.length = 24 ∧ Shp20 rows ∧ GG wr w.heap.size (.slice (some ⟨g, 0, none⟩) 24 cg) rows vs ∧ OwnI wr w4.heap.size 3 (.slice Ar zs.length cr) zs ∧ wr.heap[R]? = some (.cells #[.slice Ar 24 cr] 62 (0, 0)) ∧ Cur wr b (k + 6 + 2 * (3 - j) + 1 + 1) ∧ w.grownBy wr (some b)) (fun xv _ => 20 - (intOf xv).toNat)
          case atStart => exact ⟨0, rows, by omega, rfl, HRL.out, HSH.out, HG.out, HO.out, HBX.out, HC.out, HGR.out⟩
          case round =>
            clear HG HO HBX HC HGR HRL HSH
            obtain ⟨x, rows, hx, rfl, hrl, hsh, hG, hO, hbx, hc, hg⟩ := hrel
            have HRL := Lib.hid hrl
            have HSH := Lib.hid hsh
            have HG := Lib.hid hG
            have HO := Lib.hid hO
            have HBX := Lib.hid hbx
            have HC := Lib.hid hc
            have HGR := Lib.hid hg
            clear hrl hsh hG hO hbx hc hg
            by_cases hx2 : x < 20
            · have i3 : (x : Int) < 20 := by omega
              have d3 : decide (x < 20) = true := by simpa using hx2
              obtain ⟨zv, hzv, zv0, zv1⟩ := HZB.out y hy2
              have KH := Lib.hid (l9Has_any Ar cr zs x y zv)
              obtain ⟨A8, c8, e8, hrd⟩ := HO.out.form
              injection e8 with e81 e82 e83
              subst e81 e83
              have HRD := Lib.hid hrd
              have HZV := Lib.hid hzv
              have cb := cell_of HBX.out 0
              clear hrd hzv e82
              cases hq : hasB zv x
              · go_wp2_with fail
                refine (KH.out _ HRD.out hx2 hy2 HZV.out zv0 zv1).mono ?_
                rw [hq]
                rintro e w8 ⟨rfl, hb8⟩
                clear cb
                go_wp2
                go_roundw
                case rel => exact ⟨x + 1, rows, by omega, by go_num, HRL.out, HSH.out, HG.out.below hb8, HO.out.below hb8, heap_keepB HBX.out hb8, HC.out.below hb8, grownBy_below HGR.out hb8⟩
                case measure => simp [intOf]; omega
              · go_wp2_with fail
                refine (KH.out _ HRD.out hx2 hy2 HZV.out zv0 zv1).mono ?_
                rw [hq]
                rintro e w8 ⟨rfl, hb8⟩
                clear cb
                have hG2 := HG.out.below hb8
                have hO2 := HO.out.below hb8
                have hbx2 := heap_keepB HBX.out hb8
                have hc2 := HC.out.below hb8
                have hgr2 := grownBy_below HGR.out hb8
                obtain ⟨g', c', A', n', c2, row', ev, hcl, hrow, hn', hvs, hown⟩ := hG2.at_ (k := y) (by rw [HRL.out]; exact hy2)
                injection ev with ev evn evc
                injection ev with ev
                injection ev with ev
                subst ev
                clear evn evc
                have hr20 := HSH.out y row' hrow
                rw [hr20] at hn'
                subst hn'
                obtain ⟨gr, cr2, er, hBr, hgr⟩ := hown.pos (by rw [hr20]; omega)
                rw [hr20] at er
                injection er with er1' er2' er3'
                subst er1' er3'
                have hown2 : OwnI w8 w.heap.size 3 (.slice (some ⟨gr, 0, none⟩) row'.length c2) row' := by rw [hr20]; exact hown
                have hcell := OwnI.cellAt hown2 x (by rw [hr20]; exact hx2)
                have hfz := OwnI.frozenAt hown2 x
                have hset := OwnI.set hown2 x tt
                rw [hr20] at hset
                have hgl : gr < w4.heap.size := HL4.out.own y _ hvs gr rfl
                have hsg := grownBy_set (World.grownBy.refl w8 (some gr)) x (.int .i64 tt)
                have hU := hG2.upd (k := y) (by rw [HRL.out]; exact hy2) hvs hset hsg
                have hO3 := hO2.other hsg (.inr (ownBlock_ne hO2 (.inl hgl)))
                have hbx3 := (heap_far w8 R ⟨gr, x, none⟩ (.int .i64 tt) (by dsimp only; omega)).trans hbx2
                have hc3 := hc2.set ⟨gr, x, none⟩ (.int .i64 tt) (by dsimp only; omega)
                have hgr3 := grownBy_new hgr2 gr x (.int .i64 tt) hBr
                have HU := Lib.hid hU
                have HO3 := Lib.hid hO3
                have HBX3 := Lib.hid hbx3
                have HC3 := Lib.hid hc3
                have HGR3 := Lib.hid hgr3
                have HR20 := Lib.hid hr20
                obtain ⟨old, hold⟩ : ∃ z, z = row'[x]'(by rw [hr20]; exact hx2) := ⟨_, rfl⟩
                rw [← hold] at hcell
                clear hG2 hO2 hbx2 hc2 hgr2 hU hO3 hbx3 hc3 hgr3 hold hown hown2 hset hsg hvs hrow er2' hr20
                go_wp2
                go_roundw
                case rel => exact ⟨x + 1, _, by omega, by go_num, by rw [List.length_set]; exact HRL.out, HSH.out.set y (by rw [List.length_set]; exact HR20.out), HU.out, HO3.out, HBX3.out, HC3.out, HGR3.out⟩
                case measure => simp [intOf]; omega
            · obtain rfl : x = 20 := by omega
              have d3 : decide (20 < 20) = false := by simp
              go_wp2
              go_roundw
              case rel => exact ⟨y + 1, rows, by omega, by go_num, HRL.out, HSH.out, HG.out, HO.out, HBX.out, HC.out, HGR.out⟩
              case measure => simp [intOf]; omega
        · obtain rfl : y = 24 := by omega
          have d2 : decide (24 < 24) = false := by simp
          go_wp2
          go_roundw
          case rel => exact ⟨j - 1, rows, by omega, by congr 1; omega, HRL.out, HSH.out, HG.out, HC.out.mono (by omega), HGR.out⟩
          case measure => simp [intOf]; omega
    · obtain rfl : j = 0 := by omega
      have HC := Lib.hid hc
      have HGR := Lib.hid hg
      clear hc hg
      go_wp2
      go_ret
      exact ⟨_, rows, vs, rfl, HG.out, HRL.out, HSH.out, HC.out.mono (by omega), HGR.out⟩
end Go.Proofs.YtenaadmifppphaaGreatDoor
