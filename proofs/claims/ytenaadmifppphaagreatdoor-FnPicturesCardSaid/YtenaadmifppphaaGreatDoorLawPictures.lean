/- FnPictures: for every code a picture is recovered from its letters and from its short form, which is not longer; the program's answers are the reference's. No condition. -/
import Derived.Test.YtenaadmifppphaaGreatDoorApp
import Derived.Maps.AppendAt
import Derived.Test.YtenaadmifppphaaGreatDoorPicD
import Derived.Test.YtenaadmifppphaaGreatDoorCur
import Derived.Test.YtenaadmifppphaaGreatDoorPL
import Derived.Test.YtenaadmifppphaaGreatDoorPR
import Derived.Test.YtenaadmifppphaaGreatDoorLText
import Derived.Test.YtenaadmifppphaaGreatDoorRunT
import Derived.Test.YtenaadmifppphaaGreatDoorCur3
import Derived.Test.YtenaadmifppphaaGreatDoorInts
import Derived.Test.YtenaadmifppphaaGreatDoorGrids
import Derived.Deep.RegionHeld3
import Derived.Lib.SmallJoins
import Derived.Test.YtenaadmifppphaaGreatDoorRows
import Derived.Test.YtenaadmifppphaaGreatDoorPR2
import Derived.Test.YtenaadmifppphaaGreatDoorCards
import Derived.Test.YtenaadmifppphaaGreatDoorTie
import Derived.ProofKit
import Derived.LaidMore
import Derived.OpenShut
import Derived.Stop.Joined
import Derived.SevenTiedAt
import Derived.Lay
/-! ### AppAt -/
namespace Go.Proofs.YtenaadmifppphaaGreatDoor
open Go.ChangeShapes Go.WideShapes Go.ChangeAt Go.RowKit
set_option linter.unusedVariables false
section
variable {ops : Array Oper} {rest : List Oper} {op : Oper} {a : Act} {w : World} {Q : Exit → Act → World → Prop}
theorem wp_appIat (hgd : op.guard = none) (s x : Operand) (ho : op.op = .call { callee := .builtin .append, args := #[s, x], argTypes := #[36, 36] })
    (B : Nat) (v : Value) (zs : List Int) (hs : a.eval s = v) (hown : OwnI w B 3 v zs) (b : Nat) (z : Int) (hx : a.eval x = .slice (some ⟨b, 0, none⟩) 1 1) (hc : w.cell? ⟨b, 0, none⟩ = some (.int .i64 z))
    (hl : zs.length ≤ 1099511627776) (hB : B ≤ w.heap.size)
    (h : ∀ v' w', OwnI w' B 3 v' (zs ++ [z]) → w.grownBy w' v.ownBlock → Below B w w' → (v'.ownBlock = v.ownBlock ∨ v'.ownBlock = some w.heap.size) → wpList Tryz.prog ops Q rest (a.put op.dst v') w') : wpList Tryz.prog ops Q (op :: rest) a w := by
  obtain ⟨i0, hi, hz0, hz1, hz2⟩ := info_parts info_int
  refine wpList_append_own_at w hgd s x 36 ho B 3 i0 (.int .i64 0) 1 8 Tryz.underlying36 hi hz0 hz1 hz2 rfl (by decide) v zs.length (iv zs) hs hown ⟨b, 0, none⟩ 1 1 [.int .i64 z] hx rfl ?_ (fun u hu => by simp at hu; subst hu; rfl) (by unfold maxLen; omega) (by omega) hB fun v' w' h1 h2 _ h3 => h v' w' ?_ h2 (grown_below hown hB h2) h3
  · intro j u hj
    match j, hj with
    | 0, hj => simp at hj; subst hj; simpa [Addr.add] using hc
    | j + 1, hj => simp at hj
  · unfold OwnI
    rw [iv_append, List.length_append]
    exact h1
end
end Go.Proofs.YtenaadmifppphaaGreatDoor
/-! ### PicD2 -/
namespace Go.Proofs.YtenaadmifppphaaGreatDoor
open Go.ChangeShapes Go.WideShapes Go.ChangeAt Go.RowKit
set_option linter.unusedVariables false
set_option linter.unusedSimpArgs false
/-- Behind an append to one row, and the store of what it gives. -/
theorem GG.repl {w w' : World} {B g n c k : Nat} {u u' : Value} {rows : List (List Int)} {vs : List Value} {row' : List Int} (h : GG w B (.slice (some ⟨g, 0, none⟩) n c) rows vs) (hn : rows.length = n) (hk : k < rows.length) (hu : vs[k]? = some u)
    (ho : OwnI w' B 3 u' row') (hg : w.grownBy w' u.ownBlock) (hat : u'.ownBlock = u.ownBlock ∨ u'.ownBlock = some w.heap.size) :
    GG (w'.setCell ⟨g, k, none⟩ u') B (.slice (some ⟨g, 0, none⟩) n c) (rows.set k row') (vs.set k u') := by
  subst hn
  have hout := World.ownsRow.kept h.out hg (ob_symm (h.sep k u hu))
  obtain ⟨h1, h2⟩ := World.ownsRow.stored hout k u'
  have hlv : k < vs.length := by rw [h.len]; exact hk
  have hgl := (h.outer g rfl).2
  have hug : u'.ownBlock = none ∨ u'.ownBlock ≠ some g := by
    rcases hat with e | e
    · rw [e]; exact h.sep k u hu
    · rw [e]; exact .inr (fun e2 => by injection e2 with e2; omega)
  have hxu : ∀ (i : Nat) (x : Value), i ≠ k → vs[i]? = some x → x.ownBlock = none ∨ x.ownBlock ≠ u.ownBlock := fun i x hi hx => by
    rcases Nat.lt_or_ge i k with hik | hik
    · exact h.apart i k x u hik hx hu
    · exact ob_symm (h.apart k i u x (by omega) hu hx)
  have hxu' : ∀ (i : Nat) (x : Value), i ≠ k → vs[i]? = some x → x.ownBlock = none ∨ x.ownBlock ≠ u'.ownBlock := fun i x hi hx => by
    rcases hat with e | e
    · rw [e]; exact hxu i x hi hx
    · rw [e]
      cases e3 : x.ownBlock with
      | none => exact .inl rfl
      | some b => exact .inr (fun e2 => by injection e2 with e2; have := (h.hi i x hx b e3).2; omega)
  refine ⟨by rw [List.length_set]; exact h1, fun i x r e1 e2 => ?_, fun i j x y hij e1 e2 => ?_, fun i x e1 => ?_⟩
  · rw [List.getElem?_set] at e1 e2
    by_cases e : k = i
    · subst e
      rw [if_pos rfl, if_pos hlv] at e1
      rw [if_pos rfl, if_pos hk] at e2
      injection e1 with e1
      injection e2 with e2
      subst e1 e2
      exact ho.other h2 hug
    · rw [if_neg e] at e1 e2
      exact ((h.own i x r e1 e2).other hg (hxu i x (fun e3 => e e3.symm) e1)).other h2 (h.sep i x e1)
  · rw [List.getElem?_set] at e1 e2
    by_cases e : k = i
    · subst e
      rw [if_pos rfl, if_pos hlv] at e1
      rw [if_neg (by omega)] at e2
      injection e1 with e1
      subst e1
      exact ob_symm (hxu' j y (by omega) e2)
    · rw [if_neg e] at e1
      by_cases e' : k = j
      · subst e'
        rw [if_pos rfl, if_pos hlv] at e2
        injection e2 with e2
        subst e2
        exact hxu' i x (by omega) e1
      · rw [if_neg e'] at e2
        exact h.apart i j x y hij e1 e2
  · rw [List.getElem?_set] at e1
    by_cases e : k = i
    · subst e
      rw [if_pos rfl, if_pos hlv] at e1
      injection e1 with e1
      subst e1
      exact hug
    · rw [if_neg e] at e1
      exact h.sep i x e1
/-- A picture that may be invalid: it stays while the cursor turns. -/
def AnyPic (w : World) (b k : Nat) (e : Ending) (w' : World) : Prop := ∃ A c rows, e = .returned (.slice A rows.length c) ∧ (∀ w'', w'.grownBy w'' (some b) → RdG w'' A rows) ∧ Small rows ∧ Cur w' b k ∧ w.grownBy w' (some b)
theorem GG.stays {w : World} {B b : Nat} {v : Value} {rows : List (List Int)} {vs : List Value} (h : GG w B v rows vs) (hb : b < B) : ∃ A c, v = .slice A rows.length c ∧ ∀ w'', w.grownBy w'' (some b) → RdG w'' A rows := by
  obtain ⟨A, c, rfl, -⟩ := h.rd
  refine ⟨A, c, rfl, fun w'' hg => ?_⟩
  obtain ⟨A2, c2, e, hr⟩ := (h.beside h.glt hg (fun k hk => by injection hk with hk; omega)).rd
  injection e with e
  subst e
  exact hr
theorem shp_small {rows : List (List Int)} (hl : rows.length ≤ 24) (h : ∀ (y : Nat) (row : List Int), rows[y]? = some row → row.length ≤ 21) : Small rows := ⟨by omega, fun r hr => by
  obtain ⟨i, hi⟩ := List.getElem?_of_mem hr
  have := h i r hi
  omega⟩
theorem RdG.tail {w : World} {g : Nat} {rows : List (List Int)} (h : RdG w (some ⟨g, 0, none⟩) rows) : RdG w (some ⟨g, 1, none⟩) (rows.drop 1) := by
  obtain ⟨hs, hl, hr, hv⟩ := h
  refine ⟨hs.drop 1, by rw [List.length_drop, List.length_drop, hl], ?_, fun i v row h1 h2 => ?_⟩
  · rcases hr with h0 | ⟨b, off, e, hc⟩
    · subst h0; exact .inl rfl
    · injection e with e
      injection e with e1 e2
      subst e1 e2
      refine .inr ⟨g, 1, rfl, fun i hi => ?_⟩
      rw [List.length_drop] at hi
      have := hc (1 + i) (by omega)
      rw [Nat.zero_add] at this
      rw [this]
      simp [Nat.add_comm]
  · rw [List.getElem?_drop] at h1 h2
    exact hv _ v row h1 h2
/-- The outer row's cells are what they were. -/
def SameO (w0 : World) (g : Nat) (w : World) : Prop := ∀ y : Nat, y < 24 → w.cell? ⟨g, y, none⟩ = w0.cell? ⟨g, y, none⟩
theorem SameO.at_ {w0 w : World} {g y : Nat} {u : Value} (h : SameO w0 g w) (hy : y < 24) (hu : w0.cell? ⟨g, y, none⟩ = some u) : w.cell? ⟨g, y, none⟩ = some u := (h y hy).trans hu
theorem grown_eq {w w' : World} {p : Addr} {row : Option Nat} (hg : w.grownBy w' row) (hlt : p.block < w.heap.size) (hne : row ≠ some p.block) : w'.cell? p = w.cell? p := World.cell?_of_block (hg.block _ hlt (fun e => hne e.symm))
theorem cell_farE {w : World} {p q : Addr} {v : Value} (hne : p.block ≠ q.block) : (w.setCell q v).cell? p = w.cell? p := World.cell?_of_block (heap_far _ _ _ _ hne)
theorem cell_far {w : World} {p q : Addr} {v u : Value} (h : w.cell? p = some u) (hne : p.block ≠ q.block) : (w.setCell q v).cell? p = some u := (cell_farE hne).trans h
set_option maxHeartbeats 8000000 in
set_option maxRecDepth 100000 in
theorem anyPicture_any (b k : Nat) (w : World) (h : Cur w b k) (hk : k ≤ 700000) : Calls Tryz.prog 37 #[.pointer (some ⟨b, 0, none⟩)] w (AnyPic w b (k + 15)) := by
  have hbl := h.lt
  go_enter Tryz.func37, Tryz.ntmps37
  go_wp2_with fail
  refine (picture_any b k _ h (by omega)).mono ?_
  rintro e w1 ⟨v, rows, vs, rfl, hG, hrl, hsh, hc, hg⟩
  obtain ⟨A0, cg, e0, -, hfm⟩ := ownsRow_form hG.out
  obtain ⟨g, rfl, hgB, hglt, hcg, -⟩ := hfm (by omega)
  rw [hrl] at e0
  subst e0
  have hcg2 : 24 ≤ cg := by omega
  have hcg1 : ¬ cg = 1 := by omega
  have HG := Lib.hid hG
  have HRL := Lib.hid hrl
  have HSH := Lib.hid hsh
  clear hG hrl hsh hfm hcg
  go_wp2_with fail
  refine (pick_any b (k + 12) 30 _ hc (by omega) (by omega) (by omega)).mono ?_
  rintro e w2 ⟨z, rfl, ⟨z0, z1⟩, hc2, hg2⟩
  have hG2 := HG.out.beside HG.out.glt hg2 (fun k hk => by injection hk with hk; omega)
  have hgr2 := grownBy_trans hg hg2
  have HG2 := Lib.hid hG2
  have HGR2 := Lib.hid hgr2
  have hs12 := hg2.size
  clear hG2 hgr2 hc hg hg2 HG
  have hz : z = 0 ∨ z = 1 ∨ z = 2 ∨ z = 3 ∨ 3 < z := by omega
  rcases hz with rfl | rfl | rfl | rfl | hz
  · clear z0 z1
    have hGX := HG2.out
    obtain ⟨g', c', A', n', c2, row', ev, hcl, hrow, hn', hvs, hown⟩ := hGX.at_ (k := 23) (by rw [HRL.out]; omega)
    injection ev with ev evn evc
    injection ev with ev
    injection ev with ev
    subst ev
    clear evn evc
    have hr20 := HSH.out 23 row' hrow
    rw [hr20] at hn'
    subst hn'
    obtain ⟨gr, cr2, er, hBr, hgr⟩ := hown.pos (by rw [hr20]; omega)
    rw [hr20] at er
    injection er with er1' er2' er3'
    subst er1' er3'
    clear er2'
    clear hGX
    have HC2 := Lib.hid hc2
    have hgz2 : w1.heap.size ≤ w2.heap.size := hs12
    have hgg : gr ≠ g := by
      rcases HG2.out.sep 23 _ hvs with e | e
      · cases e
      · exact fun e2 => e (by rw [e2]; rfl)
    clear hc2 hown
    go_wp2_with fail
    refine wp_region_noPanic ?_
    refine wp_region_held_drew (S := (fun w' => w'.cell? ⟨g, 23, none⟩ = some (.slice (some ⟨gr, 0, none⟩) 20 c2 : Value))) (by kernel_rfl) (show _ from hcl) (fun hHeld => ?_)
    refine wpAnyH_take (i := 0) (oi := _) (v := ?_) rfl (by kernel_rfl) (by kernel_rfl) (by kernel_rfl) (fun _ _ _ h => h) (Or.inl ⟨by rfl, ?_⟩) (by assumption) ?_
    rotate_left
    · intro w hSw; clear hSw; first | (go_simp; done) | (go_simp; with_reducible rfl)
    simp only [Act.put, List.getElem_toArray, List.getElem_cons_succ, List.getElem_cons_zero, List.setIfInBounds_toArray, List.set_cons_zero, List.set_cons_succ]
    refine wpAnyH_take (i := 1) (oi := _) (v := ?_) rfl (by kernel_rfl) (by kernel_rfl) (by kernel_rfl) (fun _ _ _ h => h) (Or.inl ⟨by rfl, ?_⟩) (by assumption) ?_
    rotate_left
    · intro w hSw; clear hSw; first | (go_simp; done) | (go_simp; with_reducible rfl)
    simp only [Act.put, List.getElem_toArray, List.getElem_cons_succ, List.getElem_cons_zero, List.setIfInBounds_toArray, List.set_cons_zero, List.set_cons_succ]
    refine wpAnyH_take (i := 2) (oi := _) (v := ?_) rfl (by kernel_rfl) (by kernel_rfl) (by kernel_rfl) (fun _ _ _ h => h) (Or.inl ⟨by rfl, ?_⟩) (by assumption) ?_
    rotate_left
    · intro w hSw; (try dsimp only at hSw); first | (go_simp; done) | (go_simp; with_reducible rfl)
    simp only [Act.put, List.getElem_toArray, List.getElem_cons_succ, List.getElem_cons_zero, List.setIfInBounds_toArray, List.set_cons_zero, List.set_cons_succ]
    refine wpAnyH_take (i := 3) (oi := _) (v := ?_) rfl (by kernel_rfl) (by kernel_rfl) (by kernel_rfl) (fun _ _ _ h => h) (Or.inl ⟨by rfl, ?_⟩) (by assumption) ?_
    rotate_left
    · intro w hSw; clear hSw; first | (go_simp; done) | (go_simp; with_reducible rfl)
    simp only [Act.put, List.getElem_toArray, List.getElem_cons_succ, List.getElem_cons_zero, List.setIfInBounds_toArray, List.set_cons_zero, List.set_cons_succ]
    refine wpAnyH_take (i := 5) (oi := _) (v := ?_) rfl (by kernel_rfl) (by kernel_rfl) (by kernel_rfl) (fun _ _ _ h => h) (Or.inl ⟨by rfl, ?_⟩) (by assumption) ?_
    rotate_left
    · intro w hSw; clear hSw; first | (go_simp; done) | (go_simp; with_reducible rfl)
    simp only [Act.put, List.getElem_toArray, List.getElem_cons_succ, List.getElem_cons_zero, List.setIfInBounds_toArray, List.set_cons_zero, List.set_cons_succ]
    refine wpAnyH_ready (rs := [4, 6]) (by kernel_rfl) (by simp) ?_
    refine AllReadyH.cons (o := _) rfl (fun K hK => ?_) (AllReadyH.cons (o := _) rfl (fun K hK => ?_) AllReadyH.nil)
    · go_simp
      refine (pick_any b (k + 13) 20 _ HC2.out.drew (by omega) (by omega) (by omega)).mono ?_
      rintro e wA ⟨zi, rfl, ⟨zi0, zi1⟩, hcA, hgA⟩
      go_wp2_with fail
      obtain ⟨x, rfl⟩ : ∃ x : Nat, zi = (x : Int) := ⟨zi.toNat, by omega⟩
      have hszA := hgA.size
      try simp only [World.size_alloc, World.size_drew] at hszA
      refine hK.out _ _ (grown_cell hHeld hgA (fun e => by injection e with e; dsimp only at e; omega)) (fun hHeld => ?_)
      clear hK K
      try simp only [Act.put, List.getElem_toArray, List.getElem_cons_succ, List.getElem_cons_zero, List.setIfInBounds_toArray, List.set_cons_zero, List.set_cons_succ]
      have hHA := hHeld
      refine wpAnyH_ready (rs := [6]) (by kernel_rfl) (by simp) ?_
      refine AllReadyH.cons (o := _) rfl (fun K hK => ?_) AllReadyH.nil
      go_simp
      refine hK.out _ _ (keep_cell hHeld (Below_al (Below.refl _ _) (.cells #[.int .i64 0, .int .i64 1] 3 (0, 0)))) (fun hHeld => ?_)
      clear hK K
      try simp only [Act.put, List.getElem_toArray, List.getElem_cons_succ, List.getElem_cons_zero, List.setIfInBounds_toArray, List.set_cons_zero, List.set_cons_succ]
      refine wpAnyH_ready (rs := [7]) (by kernel_rfl) (by simp) ?_
      refine AllReadyH.cons (o := _) rfl (fun K hK => ?_) AllReadyH.nil
      go_simp
      refine (among_new b (k + 14) 2 2 _ [0, 1] 3 _ hcA (by omega) (by omega) (by simp) (by omega) rfl).mono ?_
      rintro e wZ ⟨y, rfl, -, hcZ, hgZ0⟩
      go_wp2_with fail
      have hGA := (show GG w2.drew w.heap.size _ rows vs from HG2.out.below (Below.refl _ _).drew).beside HG2.out.glt hgA (fun k hk => by injection hk with hk; omega)
      have hGZ := hGA.beside hGA.glt hgZ0 (fun k hk => by injection hk with hk; omega)
      have hgZ := grownBy_trans (grownBy_trans HGR2.out (grownBy_undrew hgA)) hgZ0
      have hK9 := (grown_cell hHA hgZ0 (fun e => by injection e with e; dsimp only at e; omega))
      refine hK.out _ _ hK9 (fun hHeld => ?_)
      clear hK K hK9
      try simp only [Act.put, List.getElem_toArray, List.getElem_cons_succ, List.getElem_cons_zero, List.setIfInBounds_toArray, List.set_cons_zero, List.set_cons_succ]
      refine wpAnyH_take (i := 8) (oi := _) (v := ?_) rfl (by kernel_rfl) (by kernel_rfl) (by kernel_rfl) (fun _ _ _ h => h) (Or.inl ⟨by rfl, ?_⟩) (by assumption) ?_
      rotate_left
      · intro w hSw; clear hSw; first | (go_simp; done) | (go_simp; with_reducible rfl)
      simp only [Act.put, List.getElem_toArray, List.getElem_cons_succ, List.getElem_cons_zero, List.setIfInBounds_toArray, List.set_cons_zero, List.set_cons_succ]
      have hszZ := hgZ0.size
      try simp only [World.size_alloc, World.size_drew] at hszZ
      have hown2 : OwnI wZ w.heap.size 3 (.slice (some ⟨gr, 0, none⟩) row'.length c2) row' := by rw [hr20]; exact hGZ.own 23 _ _ hvs hrow
      have hcell := OwnI.cellAt hown2 x (by rw [hr20]; omega)
      have hfz := OwnI.frozenAt hown2 x
      have hset := OwnI.set hown2 x y
      rw [hr20] at hset
      have hsg := grownBy_set (World.grownBy.refl wZ (some gr)) x (.int .i64 y)
      have hU := hGZ.upd (k := 23) (by rw [HRL.out]; omega) hvs hset hsg
      have hc9 := hcZ.set ⟨gr, x, none⟩ (.int .i64 y) (by dsimp only; omega)
      have hgr9 := grownBy_new hgZ gr x (.int .i64 y) hBr
      have HU := Lib.hid hU
      have HC9 := Lib.hid hc9
      have HGR9 := Lib.hid hgr9
      have HR20 := Lib.hid hr20
      obtain ⟨old, hold⟩ : ∃ z, z = row'[x]'(by rw [hr20]; omega) := ⟨_, rfl⟩
      rw [← hold] at hcell
      clear hU hc9 hgr9 hold hown2 hset hsg hGZ hcZ hgZ hr20
      refine wpAnyH_ready (rs := [9]) (by kernel_rfl) (by simp) ?_
      refine AllReadyH.cons (o := _) rfl (fun K hK => ?_) AllReadyH.nil
      go_simp
      refine hK.out _ _ (cell_far hHeld (by dsimp only; omega)) (fun hHeld => ?_)
      clear hK K
      try simp only [Act.put, List.getElem_toArray, List.getElem_cons_succ, List.getElem_cons_zero, List.setIfInBounds_toArray, List.set_cons_zero, List.set_cons_succ]
      refine wpAnyH_done (by kernel_rfl) ?_ _
      refine NoPanic.normal ?_
      go_wp2
      go_ret
      obtain ⟨A9, c9, e9, hk9⟩ := HU.out.stays (b := b) (by omega)
      rw [List.length_set, HRL.out] at e9
      injection e9 with e91 e92 e93
      subst e91 e93
      exact ⟨_, _, _, by rw [List.length_set, HRL.out]; rfl, hk9, shp_small (by rw [List.length_set, HRL.out]; exact Nat.le_refl _) (fun y r hy => by
        have := HSH.out.set 23 (by rw [List.length_set]; exact HR20.out) y r hy
        omega), HC9.out.mono (by omega), HGR9.out⟩
    · go_simp
      refine hK.out _ _ (keep_cell hHeld (Below_al (Below.refl _ _) (.cells #[.int .i64 0, .int .i64 1] 3 (0, 0)))) (fun hHeld => ?_)
      clear hK K
      try simp only [Act.put, List.getElem_toArray, List.getElem_cons_succ, List.getElem_cons_zero, List.setIfInBounds_toArray, List.set_cons_zero, List.set_cons_succ]
      refine wpAnyH_ready (rs := [4]) (by kernel_rfl) (by simp) ?_
      refine AllReadyH.cons (o := _) rfl (fun K hK => ?_) AllReadyH.nil
      go_simp
      refine (pick_any b (k + 13) 20 _ (HC2.out.drew.alloc (.cells #[.int .i64 0, .int .i64 1] 3 (0, 0))) (by omega) (by omega) (by omega)).mono ?_
      rintro e wA ⟨zi, rfl, ⟨zi0, zi1⟩, hcA, hgA⟩
      go_wp2_with fail
      obtain ⟨x, rfl⟩ : ∃ x : Nat, zi = (x : Int) := ⟨zi.toNat, by omega⟩
      have hszA := hgA.size
      try simp only [World.size_alloc, World.size_drew] at hszA
      refine hK.out _ _ (grown_cell hHeld hgA (fun e => by injection e with e; dsimp only at e; omega)) (fun hHeld => ?_)
      clear hK K
      try simp only [Act.put, List.getElem_toArray, List.getElem_cons_succ, List.getElem_cons_zero, List.setIfInBounds_toArray, List.set_cons_zero, List.set_cons_succ]
      refine wpAnyH_ready (rs := [7]) (by kernel_rfl) (by simp) ?_
      refine AllReadyH.cons (o := _) rfl (fun K hK => ?_) AllReadyH.nil
      have hrd : RdI wA (some ⟨w2.heap.size, 0, none⟩) [0, 1] := (RdI.blk (zs := [0, 1]) (heap_hit w2.drew (.cells #[.int .i64 0, .int .i64 1] 3 (0, 0)) w2.heap.size rfl)).grown hgA (fun cb off e e2 => by cases e; injection e2 with e2; omega)
      go_simp
      refine (among_any b (k + 14) _ 2 2 [0, 1] _ hcA (by omega) hrd (by omega) (by simp) (by omega) (fun cb off e => by injection e with e; injection e with e; omega)).mono ?_
      rintro e wZ ⟨y, rfl, -, hcZ, hgZ0⟩
      go_wp2_with fail
      have hGA := ((show GG w2.drew w.heap.size _ rows vs from HG2.out.below (Below.refl _ _).drew).below (Below_al (Below.refl _ _) (.cells #[.int .i64 0, .int .i64 1] 3 (0, 0)))).beside HG2.out.glt hgA (fun k hk => by injection hk with hk; omega)
      have hGZ := hGA.beside hGA.glt hgZ0 (fun k hk => by injection hk with hk; omega)
      have hgZ := grownBy_trans (grownBy_trans (grownBy_below HGR2.out (Below_al ((Below.refl _ _).drew) (.cells #[.int .i64 0, .int .i64 1] 3 (0, 0)))) hgA) hgZ0
      have hK9 := (grown_cell hHeld hgZ0 (fun e => by injection e with e; dsimp only at e; omega))
      refine hK.out _ _ hK9 (fun hHeld => ?_)
      clear hK K hK9
      try simp only [Act.put, List.getElem_toArray, List.getElem_cons_succ, List.getElem_cons_zero, List.setIfInBounds_toArray, List.set_cons_zero, List.set_cons_succ]
      refine wpAnyH_take (i := 8) (oi := _) (v := ?_) rfl (by kernel_rfl) (by kernel_rfl) (by kernel_rfl) (fun _ _ _ h => h) (Or.inl ⟨by rfl, ?_⟩) (by assumption) ?_
      rotate_left
      · intro w hSw; clear hSw; first | (go_simp; done) | (go_simp; with_reducible rfl)
      simp only [Act.put, List.getElem_toArray, List.getElem_cons_succ, List.getElem_cons_zero, List.setIfInBounds_toArray, List.set_cons_zero, List.set_cons_succ]
      have hszZ := hgZ0.size
      try simp only [World.size_alloc, World.size_drew] at hszZ
      have hown2 : OwnI wZ w.heap.size 3 (.slice (some ⟨gr, 0, none⟩) row'.length c2) row' := by rw [hr20]; exact hGZ.own 23 _ _ hvs hrow
      have hcell := OwnI.cellAt hown2 x (by rw [hr20]; omega)
      have hfz := OwnI.frozenAt hown2 x
      have hset := OwnI.set hown2 x y
      rw [hr20] at hset
      have hsg := grownBy_set (World.grownBy.refl wZ (some gr)) x (.int .i64 y)
      have hU := hGZ.upd (k := 23) (by rw [HRL.out]; omega) hvs hset hsg
      have hc9 := hcZ.set ⟨gr, x, none⟩ (.int .i64 y) (by dsimp only; omega)
      have hgr9 := grownBy_new hgZ gr x (.int .i64 y) hBr
      have HU := Lib.hid hU
      have HC9 := Lib.hid hc9
      have HGR9 := Lib.hid hgr9
      have HR20 := Lib.hid hr20
      obtain ⟨old, hold⟩ : ∃ z, z = row'[x]'(by rw [hr20]; omega) := ⟨_, rfl⟩
      rw [← hold] at hcell
      clear hU hc9 hgr9 hold hown2 hset hsg hGZ hcZ hgZ hr20
      refine wpAnyH_ready (rs := [9]) (by kernel_rfl) (by simp) ?_
      refine AllReadyH.cons (o := _) rfl (fun K hK => ?_) AllReadyH.nil
      go_simp
      refine hK.out _ _ (cell_far hHeld (by dsimp only; omega)) (fun hHeld => ?_)
      clear hK K
      try simp only [Act.put, List.getElem_toArray, List.getElem_cons_succ, List.getElem_cons_zero, List.setIfInBounds_toArray, List.set_cons_zero, List.set_cons_succ]
      refine wpAnyH_done (by kernel_rfl) ?_ _
      refine NoPanic.normal ?_
      go_wp2
      go_ret
      obtain ⟨A9, c9, e9, hk9⟩ := HU.out.stays (b := b) (by omega)
      rw [List.length_set, HRL.out] at e9
      injection e9 with e91 e92 e93
      subst e91 e93
      exact ⟨_, _, _, by rw [List.length_set, HRL.out]; rfl, hk9, shp_small (by rw [List.length_set, HRL.out]; exact Nat.le_refl _) (fun y r hy => by
        have := HSH.out.set 23 (by rw [List.length_set]; exact HR20.out) y r hy
        omega), HC9.out.mono (by omega), HGR9.out⟩
  · clear z0 z1
    have HC2 := Lib.hid hc2
    have hgz2 : w1.heap.size ≤ w2.heap.size := hs12
    clear hc2
    go_wp2_with fail
    refine wp_region_noPanic ?_
    refine wp_region_held_drew (S := (SameO w2 g)) (by kernel_rfl) (fun y hy => rfl) (fun hHeld => ?_)
    refine wpAnyH_take (i := 0) (oi := _) (v := ?_) rfl (by kernel_rfl) (by kernel_rfl) (by kernel_rfl) (fun _ _ _ h => h) (Or.inl ⟨by rfl, ?_⟩) (by assumption) ?_
    rotate_left
    · intro w hSw; clear hSw; first | (go_simp; done) | (go_simp; with_reducible rfl)
    simp only [Act.put, List.getElem_toArray, List.getElem_cons_succ, List.getElem_cons_zero, List.setIfInBounds_toArray, List.set_cons_zero, List.set_cons_succ]
    refine wpAnyH_take (i := 1) (oi := _) (v := ?_) rfl (by kernel_rfl) (by kernel_rfl) (by kernel_rfl) (fun _ _ _ h => h) (Or.inl ⟨by rfl, ?_⟩) (by assumption) ?_
    rotate_left
    · intro w hSw; clear hSw; first | (go_simp; done) | (go_simp; with_reducible rfl)
    simp only [Act.put, List.getElem_toArray, List.getElem_cons_succ, List.getElem_cons_zero, List.setIfInBounds_toArray, List.set_cons_zero, List.set_cons_succ]
    refine wpAnyH_take (i := 5) (oi := _) (v := ?_) rfl (by kernel_rfl) (by kernel_rfl) (by kernel_rfl) (fun _ _ _ h => h) (Or.inl ⟨by rfl, ?_⟩) (by assumption) ?_
    rotate_left
    · intro w hSw; clear hSw; first | (go_simp; done) | (go_simp; with_reducible rfl)
    simp only [Act.put, List.getElem_toArray, List.getElem_cons_succ, List.getElem_cons_zero, List.setIfInBounds_toArray, List.set_cons_zero, List.set_cons_succ]
    refine wpAnyH_ready (rs := [2, 6]) (by kernel_rfl) (by simp) ?_
    refine AllReadyH.cons (o := _) rfl (fun K hK => ?_) (AllReadyH.cons (o := _) rfl (fun K hK => ?_) AllReadyH.nil)
    · go_simp
      refine (pick_any b (k + 13) 12 _ HC2.out.drew (by omega) (by omega) (by omega)).mono ?_
      rintro e wA ⟨zi, rfl, ⟨zi0, zi1⟩, hcA, hgA⟩
      go_wp2_with fail
      obtain ⟨x, rfl⟩ : ∃ x : Nat, zi = (x : Int) := ⟨zi.toNat, by omega⟩
      have hszA := hgA.size
      try simp only [World.size_alloc, World.size_drew] at hszA
      have x24 : (x : Int) < 24 := by omega
      have x24n : x < 24 := by omega
      have hGX := HG2.out
      obtain ⟨g', c', A', n', c2, row', ev, hcl, hrow, hn', hvs, hown⟩ := hGX.at_ (k := x) (by rw [HRL.out]; omega)
      injection ev with ev evn evc
      injection ev with ev
      injection ev with ev
      subst ev
      clear evn evc
      have hr20 := HSH.out x row' hrow
      rw [hr20] at hn'
      subst hn'
      obtain ⟨gr, cr2, er, hBr, hgr⟩ := hown.pos (by rw [hr20]; omega)
      rw [hr20] at er
      injection er with er1' er2' er3'
      subst er1' er3'
      clear er2'
      
      clear hGX
      have hgg : gr ≠ g := by
        rcases HG2.out.sep x _ hvs with e | e
        · cases e
        · exact fun e2 => e (by rw [e2]; rfl)
      refine hK.out _ _ (fun y hy => (grown_eq hgA (by dsimp only; (try simp only [World.size_alloc, World.size_drew]); omega) (fun e => by injection e with e; dsimp only at e; omega)).trans (hHeld y hy)) (fun hHeld => ?_)
      clear hK K
      try simp only [Act.put, List.getElem_toArray, List.getElem_cons_succ, List.getElem_cons_zero, List.setIfInBounds_toArray, List.set_cons_zero, List.set_cons_succ]
      refine wpAnyH_take (i := 3) (oi := _) (v := ?_) rfl (by kernel_rfl) (by kernel_rfl) (by kernel_rfl) (fun _ _ _ h => h) (Or.inl ⟨by rfl, ?_⟩) (by assumption) ?_
      rotate_left
      · intro w hSw; clear hSw; first | (go_simp; done) | (go_simp; with_reducible rfl)
      simp only [Act.put, List.getElem_toArray, List.getElem_cons_succ, List.getElem_cons_zero, List.setIfInBounds_toArray, List.set_cons_zero, List.set_cons_succ]
      refine wpAnyH_take (i := 4) (oi := _) (v := ?_) rfl (by kernel_rfl) (by kernel_rfl) (by kernel_rfl) (fun _ _ _ h => h) (Or.inl ⟨by rfl, ?_⟩) (by assumption) ?_
      rotate_left
      · intro w9 hSw; have h8 := hSw.at_ (y := x) (by omega) hcl; clear hSw; first | (go_simp; done) | (go_simp; with_reducible rfl)
      simp only [Act.put, List.getElem_toArray, List.getElem_cons_succ, List.getElem_cons_zero, List.setIfInBounds_toArray, List.set_cons_zero, List.set_cons_succ]
      have hHA := hHeld
      refine wpAnyH_ready (rs := [6]) (by kernel_rfl) (by simp) ?_
      refine AllReadyH.cons (o := _) rfl (fun K hK => ?_) AllReadyH.nil
      go_simp
      refine hK.out _ _ (fun y hy => ((Below_al (Below.refl wA.heap.size wA) (.cells #[.int .i64 0, .int .i64 10, .int .i64 (-1)] 3 (0, 0))).cell (p := ⟨g, y, none⟩) (by dsimp only; (try simp only [World.size_drew]); omega)).trans (hHeld y hy)) (fun hHeld => ?_)
      clear hK K
      try simp only [Act.put, List.getElem_toArray, List.getElem_cons_succ, List.getElem_cons_zero, List.setIfInBounds_toArray, List.set_cons_zero, List.set_cons_succ]
      refine wpAnyH_ready (rs := [7]) (by kernel_rfl) (by simp) ?_
      refine AllReadyH.cons (o := _) rfl (fun K hK => ?_) AllReadyH.nil
      go_simp
      refine (among_new b (k + 14) 3 3 _ [0, 10, -1] 3 _ hcA (by omega) (by omega) (by simp) (by omega) rfl).mono ?_
      rintro e wZ ⟨y, rfl, -, hcZ, hgZ0⟩
      go_wp2_with fail
      have hGA := (show GG w2.drew w.heap.size _ rows vs from HG2.out.below (Below.refl _ _).drew).beside HG2.out.glt hgA (fun k hk => by injection hk with hk; omega)
      have hGZ := hGA.beside hGA.glt hgZ0 (fun k hk => by injection hk with hk; omega)
      have hgZ := grownBy_trans (grownBy_trans HGR2.out (grownBy_undrew hgA)) hgZ0
      have hK9 := (fun y hy => (grown_eq hgZ0 (by dsimp only; (try simp only [World.size_alloc, World.size_drew]); omega) (fun e => by injection e with e; dsimp only at e; omega)).trans (hHA y hy))
      refine hK.out _ _ hK9 (fun hHeld => ?_)
      clear hK K hK9
      try simp only [Act.put, List.getElem_toArray, List.getElem_cons_succ, List.getElem_cons_zero, List.setIfInBounds_toArray, List.set_cons_zero, List.set_cons_succ]
      refine wpAnyH_take (i := 8) (oi := _) (v := ?_) rfl (by kernel_rfl) (by kernel_rfl) (by kernel_rfl) (fun _ _ _ h => h) (Or.inl ⟨by rfl, ?_⟩) (by assumption) ?_
      rotate_left
      · intro w hSw; clear hSw; first | (go_simp; done) | (go_simp; with_reducible rfl)
      simp only [Act.put, List.getElem_toArray, List.getElem_cons_succ, List.getElem_cons_zero, List.setIfInBounds_toArray, List.set_cons_zero, List.set_cons_succ]
      have hszZ := hgZ0.size
      try simp only [World.size_alloc, World.size_drew] at hszZ
      have hown2 : OwnI wZ w.heap.size 3 (.slice (some ⟨gr, 0, none⟩) row'.length c2) row' := by rw [hr20]; exact hGZ.own x _ _ hvs hrow
      have hcell := OwnI.cellAt hown2 3 (by rw [hr20]; omega)
      have hfz := OwnI.frozenAt hown2 3
      have hset := OwnI.set hown2 3 y
      rw [hr20] at hset
      have hsg := grownBy_set (World.grownBy.refl wZ (some gr)) 3 (.int .i64 y)
      have hU := hGZ.upd (k := x) (by rw [HRL.out]; omega) hvs hset hsg
      have hc9 := hcZ.set ⟨gr, 3, none⟩ (.int .i64 y) (by dsimp only; omega)
      have hgr9 := grownBy_new hgZ gr 3 (.int .i64 y) hBr
      have HU := Lib.hid hU
      have HC9 := Lib.hid hc9
      have HGR9 := Lib.hid hgr9
      have HR20 := Lib.hid hr20
      obtain ⟨old, hold⟩ : ∃ z, z = row'[3]'(by rw [hr20]; omega) := ⟨_, rfl⟩
      rw [← hold] at hcell
      clear hU hc9 hgr9 hold hown2 hset hsg hGZ hcZ hgZ hr20
      refine wpAnyH_ready (rs := [9]) (by kernel_rfl) (by simp) ?_
      refine AllReadyH.cons (o := _) rfl (fun K hK => ?_) AllReadyH.nil
      go_simp
      refine hK.out _ _ (fun y hy => (cell_farE (by dsimp only; omega)).trans (hHeld y hy)) (fun hHeld => ?_)
      clear hK K
      try simp only [Act.put, List.getElem_toArray, List.getElem_cons_succ, List.getElem_cons_zero, List.setIfInBounds_toArray, List.set_cons_zero, List.set_cons_succ]
      refine wpAnyH_done (by kernel_rfl) ?_ _
      refine NoPanic.normal ?_
      go_wp2
      go_ret
      obtain ⟨A9, c9, e9, hk9⟩ := HU.out.stays (b := b) (by omega)
      rw [List.length_set, HRL.out] at e9
      injection e9 with e91 e92 e93
      subst e91 e93
      exact ⟨_, _, _, by rw [List.length_set, HRL.out]; rfl, hk9, shp_small (by rw [List.length_set, HRL.out]; exact Nat.le_refl _) (fun y r hy => by
        have := HSH.out.set x (by rw [List.length_set]; exact HR20.out) y r hy
        omega), HC9.out.mono (by omega), HGR9.out⟩
    · go_simp
      refine hK.out _ _ (fun y hy => ((Below_al (Below.refl w2.drew.heap.size w2.drew) (.cells #[.int .i64 0, .int .i64 10, .int .i64 (-1)] 3 (0, 0))).cell (p := ⟨g, y, none⟩) (by dsimp only; (try simp only [World.size_drew]); omega)).trans (hHeld y hy)) (fun hHeld => ?_)
      clear hK K
      try simp only [Act.put, List.getElem_toArray, List.getElem_cons_succ, List.getElem_cons_zero, List.setIfInBounds_toArray, List.set_cons_zero, List.set_cons_succ]
      refine wpAnyH_ready (rs := [2]) (by kernel_rfl) (by simp) ?_
      refine AllReadyH.cons (o := _) rfl (fun K hK => ?_) AllReadyH.nil
      go_simp
      refine (pick_any b (k + 13) 12 _ (HC2.out.drew.alloc (.cells #[.int .i64 0, .int .i64 10, .int .i64 (-1)] 3 (0, 0))) (by omega) (by omega) (by omega)).mono ?_
      rintro e wA ⟨zi, rfl, ⟨zi0, zi1⟩, hcA, hgA⟩
      go_wp2_with fail
      obtain ⟨x, rfl⟩ : ∃ x : Nat, zi = (x : Int) := ⟨zi.toNat, by omega⟩
      have hszA := hgA.size
      try simp only [World.size_alloc, World.size_drew] at hszA
      have x24 : (x : Int) < 24 := by omega
      have x24n : x < 24 := by omega
      have hGX := HG2.out
      obtain ⟨g', c', A', n', c2, row', ev, hcl, hrow, hn', hvs, hown⟩ := hGX.at_ (k := x) (by rw [HRL.out]; omega)
      injection ev with ev evn evc
      injection ev with ev
      injection ev with ev
      subst ev
      clear evn evc
      have hr20 := HSH.out x row' hrow
      rw [hr20] at hn'
      subst hn'
      obtain ⟨gr, cr2, er, hBr, hgr⟩ := hown.pos (by rw [hr20]; omega)
      rw [hr20] at er
      injection er with er1' er2' er3'
      subst er1' er3'
      clear er2'
      
      clear hGX
      have hgg : gr ≠ g := by
        rcases HG2.out.sep x _ hvs with e | e
        · cases e
        · exact fun e2 => e (by rw [e2]; rfl)
      refine hK.out _ _ (fun y hy => (grown_eq hgA (by dsimp only; (try simp only [World.size_alloc, World.size_drew]); omega) (fun e => by injection e with e; dsimp only at e; omega)).trans (hHeld y hy)) (fun hHeld => ?_)
      clear hK K
      try simp only [Act.put, List.getElem_toArray, List.getElem_cons_succ, List.getElem_cons_zero, List.setIfInBounds_toArray, List.set_cons_zero, List.set_cons_succ]
      refine wpAnyH_take (i := 3) (oi := _) (v := ?_) rfl (by kernel_rfl) (by kernel_rfl) (by kernel_rfl) (fun _ _ _ h => h) (Or.inl ⟨by rfl, ?_⟩) (by assumption) ?_
      rotate_left
      · intro w hSw; clear hSw; first | (go_simp; done) | (go_simp; with_reducible rfl)
      simp only [Act.put, List.getElem_toArray, List.getElem_cons_succ, List.getElem_cons_zero, List.setIfInBounds_toArray, List.set_cons_zero, List.set_cons_succ]
      refine wpAnyH_take (i := 4) (oi := _) (v := ?_) rfl (by kernel_rfl) (by kernel_rfl) (by kernel_rfl) (fun _ _ _ h => h) (Or.inl ⟨by rfl, ?_⟩) (by assumption) ?_
      rotate_left
      · intro w9 hSw; have h8 := hSw.at_ (y := x) (by omega) hcl; clear hSw; first | (go_simp; done) | (go_simp; with_reducible rfl)
      simp only [Act.put, List.getElem_toArray, List.getElem_cons_succ, List.getElem_cons_zero, List.setIfInBounds_toArray, List.set_cons_zero, List.set_cons_succ]
      refine wpAnyH_ready (rs := [7]) (by kernel_rfl) (by simp) ?_
      refine AllReadyH.cons (o := _) rfl (fun K hK => ?_) AllReadyH.nil
      have hrd : RdI wA (some ⟨w2.heap.size, 0, none⟩) [0, 10, -1] := (RdI.blk (zs := [0, 10, -1]) (heap_hit w2.drew (.cells #[.int .i64 0, .int .i64 10, .int .i64 (-1)] 3 (0, 0)) w2.heap.size rfl)).grown hgA (fun cb off e e2 => by cases e; injection e2 with e2; omega)
      go_simp
      refine (among_any b (k + 14) _ 3 3 [0, 10, -1] _ hcA (by omega) hrd (by omega) (by simp) (by omega) (fun cb off e => by injection e with e; injection e with e; omega)).mono ?_
      rintro e wZ ⟨y, rfl, -, hcZ, hgZ0⟩
      go_wp2_with fail
      have hGA := ((show GG w2.drew w.heap.size _ rows vs from HG2.out.below (Below.refl _ _).drew).below (Below_al (Below.refl _ _) (.cells #[.int .i64 0, .int .i64 10, .int .i64 (-1)] 3 (0, 0)))).beside HG2.out.glt hgA (fun k hk => by injection hk with hk; omega)
      have hGZ := hGA.beside hGA.glt hgZ0 (fun k hk => by injection hk with hk; omega)
      have hgZ := grownBy_trans (grownBy_trans (grownBy_below HGR2.out (Below_al ((Below.refl _ _).drew) (.cells #[.int .i64 0, .int .i64 10, .int .i64 (-1)] 3 (0, 0)))) hgA) hgZ0
      have hK9 := (fun y hy => (grown_eq hgZ0 (by dsimp only; (try simp only [World.size_alloc, World.size_drew]); omega) (fun e => by injection e with e; dsimp only at e; omega)).trans (hHeld y hy))
      refine hK.out _ _ hK9 (fun hHeld => ?_)
      clear hK K hK9
      try simp only [Act.put, List.getElem_toArray, List.getElem_cons_succ, List.getElem_cons_zero, List.setIfInBounds_toArray, List.set_cons_zero, List.set_cons_succ]
      refine wpAnyH_take (i := 8) (oi := _) (v := ?_) rfl (by kernel_rfl) (by kernel_rfl) (by kernel_rfl) (fun _ _ _ h => h) (Or.inl ⟨by rfl, ?_⟩) (by assumption) ?_
      rotate_left
      · intro w hSw; clear hSw; first | (go_simp; done) | (go_simp; with_reducible rfl)
      simp only [Act.put, List.getElem_toArray, List.getElem_cons_succ, List.getElem_cons_zero, List.setIfInBounds_toArray, List.set_cons_zero, List.set_cons_succ]
      have hszZ := hgZ0.size
      try simp only [World.size_alloc, World.size_drew] at hszZ
      have hown2 : OwnI wZ w.heap.size 3 (.slice (some ⟨gr, 0, none⟩) row'.length c2) row' := by rw [hr20]; exact hGZ.own x _ _ hvs hrow
      have hcell := OwnI.cellAt hown2 3 (by rw [hr20]; omega)
      have hfz := OwnI.frozenAt hown2 3
      have hset := OwnI.set hown2 3 y
      rw [hr20] at hset
      have hsg := grownBy_set (World.grownBy.refl wZ (some gr)) 3 (.int .i64 y)
      have hU := hGZ.upd (k := x) (by rw [HRL.out]; omega) hvs hset hsg
      have hc9 := hcZ.set ⟨gr, 3, none⟩ (.int .i64 y) (by dsimp only; omega)
      have hgr9 := grownBy_new hgZ gr 3 (.int .i64 y) hBr
      have HU := Lib.hid hU
      have HC9 := Lib.hid hc9
      have HGR9 := Lib.hid hgr9
      have HR20 := Lib.hid hr20
      obtain ⟨old, hold⟩ : ∃ z, z = row'[3]'(by rw [hr20]; omega) := ⟨_, rfl⟩
      rw [← hold] at hcell
      clear hU hc9 hgr9 hold hown2 hset hsg hGZ hcZ hgZ hr20
      refine wpAnyH_ready (rs := [9]) (by kernel_rfl) (by simp) ?_
      refine AllReadyH.cons (o := _) rfl (fun K hK => ?_) AllReadyH.nil
      go_simp
      refine hK.out _ _ (fun y hy => (cell_farE (by dsimp only; omega)).trans (hHeld y hy)) (fun hHeld => ?_)
      clear hK K
      try simp only [Act.put, List.getElem_toArray, List.getElem_cons_succ, List.getElem_cons_zero, List.setIfInBounds_toArray, List.set_cons_zero, List.set_cons_succ]
      refine wpAnyH_done (by kernel_rfl) ?_ _
      refine NoPanic.normal ?_
      go_wp2
      go_ret
      obtain ⟨A9, c9, e9, hk9⟩ := HU.out.stays (b := b) (by omega)
      rw [List.length_set, HRL.out] at e9
      injection e9 with e91 e92 e93
      subst e91 e93
      exact ⟨_, _, _, by rw [List.length_set, HRL.out]; rfl, hk9, shp_small (by rw [List.length_set, HRL.out]; exact Nat.le_refl _) (fun y r hy => by
        have := HSH.out.set x (by rw [List.length_set]; exact HR20.out) y r hy
        omega), HC9.out.mono (by omega), HGR9.out⟩
  · have HC2 := Lib.hid hc2
    clear hc2
    go_wp2
    go_ret
    obtain ⟨A9, c9, e9, hk9⟩ := HG2.out.stays (b := b) (by omega)
    rw [HRL.out] at e9
    injection e9 with e91 e92 e93
    subst e91 e93
    have hl9 : (rows.drop 1).length = 23 := by rw [List.length_drop, HRL.out]
    exact ⟨_, _, _, by rw [hl9]; rfl, fun w'' hg => (hk9 w'' hg).tail, shp_small (by omega) (fun y r hy => by rw [List.getElem?_drop] at hy; have := HSH.out _ r hy; omega), HC2.out.mono (by omega), HGR2.out⟩
  · have HC2 := Lib.hid hc2
    clear hc2 z0 z1
    have hGX := HG2.out
    obtain ⟨g', c', A', n', c2, row', ev, hcl, hrow, hn', hvs, hown⟩ := hGX.at_ (k := 2) (by rw [HRL.out]; omega)
    injection ev with ev evn evc
    injection ev with ev
    injection ev with ev
    subst ev
    clear evn evc
    have hr20 := HSH.out 2 row' hrow
    rw [hr20] at hn'
    subst hn'
    obtain ⟨gr, cr2, er, hBr, hgr⟩ := hown.pos (by rw [hr20]; omega)
    rw [hr20] at er
    injection er with er1' er2' er3'
    subst er1' er3'
    clear er2'
    have hgg : gr ≠ g := by
      rcases HG2.out.sep 2 _ hvs with e | e
      · cases e
      · exact fun e2 => e (by rw [e2]; rfl)
    have hgz2 : w1.heap.size ≤ w2.heap.size := hs12
    have hl20 : row'.length ≤ 20 := by omega
    have HR20 := Lib.hid hr20
    have HOWN := Lib.hid hown
    have HVS := Lib.hid hvs
    have hGAL := HG2.out.below (Below_al (Below.refl _ _) (.cells #[.int .i64 1] 3))
    have HGAL := Lib.hid hGAL
    have hout := hGAL.out
    rw [HRL.out] at hout
    have HOUT := Lib.hid hout
    clear hout
    clear hr20 hown hvs hrow hGX hGAL
    go_wp2_with (first | (at_builtin; refine wp_appIat rfl _ _ rfl w.heap.size _ row' rfl (HOWN.out.alloc _) _ _ rfl (cell_of (heap_hit _ _ _ rfl) 0) (by omega) (by simp; omega) ?_; intro v9 w9 hO9 hG9 hL9 hA9; obtain ⟨A9, c9, e9, -⟩ := hO9.form; obtain ⟨n9, hn9⟩ : ∃ n9, n9 = (row' ++ [(1 : Int)]).length := ⟨_, rfl⟩; rw [← hn9] at e9; subst e9; have hc9 := grown_cell (keep_cell hcl (Below_al (Below.refl _ _) (.cells #[.int .i64 1] 3))) hG9 (fun e => by have e3 : some gr = some g := e; injection e3 with e3; omega); have hf9 := World.ownsRow.frozenAt (World.ownsRow.kept HOUT.out hG9 (.inr (fun e => by have e3 : some g = some gr := e; injection e3 with e3; omega))) 2; have HN9 := Lib.hid hn9; clear hn9) | fail)
    have hU := HGAL.out.repl HRL.out (k := 2) (by rw [HRL.out]; omega) HVS.out hO9 hG9 hA9
    have HU := Lib.hid hU
    have hG9' : (w2.alloc (.cells #[.int .i64 1] 3)).grownBy w9 (some gr) := hG9
    have hcu := ((HC2.out.alloc (.cells #[.int .i64 1] 3)).other hG9' (by omega)).set ⟨g, 2, none⟩ (.slice A9 n9 c9) (by dsimp only; omega)
    have hgu := grownBy_new (grownBy_fresh (grownBy_below HGR2.out (Below_al (Below.refl _ _) (.cells #[.int .i64 1] 3))) hG9' hBr) g 2 (.slice A9 n9 c9) hgB
    have HCU := Lib.hid hcu
    have HGU := Lib.hid hgu
    have hl9 : (row' ++ [(1 : Int)]).length = 21 := by rw [List.length_append, HR20.out]; rfl
    clear hU hcu hgu hc9 hf9 hO9 hG9 hL9 hA9 hG9'
    go_wp2
    go_ret
    obtain ⟨A8, c8, e8, hk8⟩ := HU.out.stays (b := b) (by omega)
    have hlr : (rows.set 2 (row' ++ [(1 : Int)])).length = 24 := by rw [List.length_set]; exact HRL.out
    rw [hlr] at e8
    injection e8 with e81 e82 e83
    subst e81 e83
    exact ⟨_, _, _, by rw [hlr]; rfl, hk8, shp_small (by omega) (fun y r hy => by
      rw [List.getElem?_set] at hy
      split at hy
      · split at hy
        · injection hy with hy
          rw [← hy]; omega
        · cases hy
      · have := HSH.out y r hy; omega), HCU.out.mono (by omega), HGU.out⟩
  · have b0 : (z == 0) = false := by rw [beq_eq_false_iff_ne]; omega
    have b1 : (z == 1) = false := by rw [beq_eq_false_iff_ne]; omega
    have b2 : (z == 2) = false := by rw [beq_eq_false_iff_ne]; omega
    have b3 : (z == 3) = false := by rw [beq_eq_false_iff_ne]; omega
    have HC2 := Lib.hid hc2
    clear hc2
    go_wp2
    go_ret
    obtain ⟨A9, c9, e9, hk9⟩ := HG2.out.stays (b := b) (by omega)
    rw [HRL.out] at e9
    injection e9 with e91 e92 e93
    subst e91 e93
    exact ⟨_, _, _, by rw [HRL.out]; rfl, hk9, shp_small (by have := HRL.out; omega) (fun y r hy => by have := HSH.out y r hy; omega), HC2.out.mono (by omega), HGR2.out⟩
end Go.Proofs.YtenaadmifppphaaGreatDoor
/-! ### PicD3 -/
namespace Go.Proofs.YtenaadmifppphaaGreatDoor
open Go.ChangeShapes Go.WideShapes Go.ChangeAt Go.RowKit
set_option linter.unusedVariables false
set_option linter.unusedSimpArgs false
def DrawPic (w : World) (e : Ending) (w' : World) : Prop := ∃ A c rows, e = .returned (.slice A rows.length c) ∧ RdG w' A rows ∧ Small rows ∧ Below w.heap.size w w'
set_option maxHeartbeats 4000000 in
theorem DrawIsValidPicture_any (A : Option Addr) (n c : Nat) (w : World) (h : RdU w A n) (hn : n ≤ 65536) : Calls Tryz.prog 18 #[.slice A n c] w (DrawPic w) := by
  go_enter Tryz.func18, Tryz.ntmps18
  have hB := Below.refl w.heap.size w
  replace hB := Below_al hB (.cells #[.slice A n c, .int .i64 0, .int .u64 0] 44)
  have hc : Cur (w.alloc (.cells #[.slice A n c, .int .i64 0, .int .u64 0] 44)) (w.heap.size) 0 := curStart h hn (heap_hit _ _ _ (by simp)) hB (by omega)
  go_wp2_with fail
  refine (anyPicture_any (w.heap.size) 0 _ hc (by omega)).mono ?_
  rintro e v1 ⟨A1, c1, rows, rfl, hk, hs, -, hg⟩
  have HK := Lib.hid (hk _ (World.grownBy.refl _ _))
  have HG := Lib.hid (drawEnd hg hB (by omega))
  clear hk hg hc hB
  go_wp2
  go_ret
  exact ⟨_, _, rows, rfl, HK.out, hs, HG.out⟩
theorem DrawLetterText_any (A : Option Addr) (n c : Nat) (w : World) (h : RdU w A n) (hn : n ≤ 65536) : Calls Tryz.prog 5 #[.slice A n c] w (DrawPic w) := by
  go_enter Tryz.func5, Tryz.ntmps5
  go_wp2_with fail
  refine (DrawIsValidPicture_any A n c _ h hn).mono ?_
  rintro e v1 ⟨A1, c1, rows, rfl, hr, hs, hb⟩
  go_wp2
  go_ret
  exact ⟨_, _, rows, rfl, hr, hs, hb⟩
end Go.Proofs.YtenaadmifppphaaGreatDoor
/-! ### CurB -/
namespace Go.Proofs.YtenaadmifppphaaGreatDoor
open Go.ChangeShapes Go.WideShapes Go.ChangeAt Go.RowKit
set_option linter.unusedVariables false
set_option linter.unusedSimpArgs false
set_option maxHeartbeats 2000000 in
theorem pick_wide (b k : Nat) (n : Int) (w : World) (h : Cur w b k) (hk : k ≤ 900000) (hn : 1 ≤ n) (hn2 : n ≤ 65536) : Calls Tryz.prog 33 #[.pointer (some ⟨b, 0, none⟩), .int .i64 n] w (Drawn w b (k + 2) fun z => 0 ≤ z ∧ z < n) := by
  by_cases hs : n ≤ 200
  · exact (pick_any b k n w h (by omega) hn hs).mono fun e w' ⟨z, he, hz, hc, hg⟩ => ⟨z, he, hz, hc.mono (by omega), hg⟩
  · have h1 : ¬ n ≤ 1 := by omega
    have h2 : 200 < n := by omega
    have h3 : n ≠ 0 := by omega
    go_enter Tryz.func33, Tryz.ntmps33
    go_wp2_with fail
    refine (next_any b k _ h (by omega)).mono ?_
    rintro e w1 ⟨z, rfl, hz, hc, hg⟩
    have hz0 := hz.1
    have hz1 := hz.2
    go_wp2_with fail
    refine (next_any b (k + 1) _ hc (by omega)).mono ?_
    rintro e w2 ⟨y, rfl, hy, hc2, hg2⟩
    have hy0 := hy.1
    have hy1 := hy.2
    have hm := emod_small (x := z * 256 + y) (n := n) (by omega) (by omega)
    have hz00 : ¬ z * 256 + y < 0 := by omega
    have hg3 := grownBy_trans hg hg2
    go_wp2
    go_ret
    exact ⟨_, rfl, hm, hc2, hg3⟩
/-- A text that is drawn. -/
def DrawnS (w : World) (b k : Nat) (p : ByteArray → Prop) (e : Ending) (w' : World) : Prop := ∃ s : ByteArray, e = .returned (.string s) ∧ p s ∧ Cur w' b k ∧ w.grownBy w' (some b)
theorem Cur.drewN {w : World} {b k : Nat} (h : Cur w b k) (n : Nat) : Cur (w.drewN n) b k := h
theorem grownBy_drewN {w w' : World} {row : Option Nat} (h : w.grownBy w' row) (n : Nat) : w.grownBy (w'.drewN n) row := ⟨h.os, h.tape, h.output, h.size, h.block⟩
theorem cut1 (s : ByteArray) (i j : Nat) : (s.extract i j).size ≤ j - i := by
  rw [ByteArray.size_extract]
  omega
set_option maxHeartbeats 4000000 in
set_option maxRecDepth 20000 in
theorem spoilt_any (b k : Nat) (t u : ByteArray) (w : World) (h : Cur w b k) (hk : k ≤ 800000) (ht : t.size ≤ 65536) (hu : 1 ≤ u.size) (hu2 : u.size ≤ 200) :
    Calls Tryz.prog 31 #[.pointer (some ⟨b, 0, none⟩), .string t, .string u] w (DrawnS w b (k + 4) fun s => s.size ≤ t.size + 1) := by
  have iu : (1 : Int) ≤ (u.size : Int) := by omega
  cases he : t.toList.isEmpty
  · have htp : 1 ≤ t.size := by
      rcases Nat.eq_zero_or_pos t.size with h0 | h0
      · exfalso
        have : t = ⟨#[]⟩ := by
          apply ByteArray.ext
          exact Array.eq_empty_of_size_eq_zero h0
        rw [this] at he
        simp at he
      · exact h0
    go_enter Tryz.func31, Tryz.ntmps31
    go_wp2_with fail
    refine (pick_wide b k (t.size : Int) _ h (by omega) (by omega) (by omega)).mono ?_
    rintro e w1 ⟨z1, rfl, ⟨a1, b1⟩, hc1, hg1⟩
    obtain ⟨i, rfl⟩ : ∃ i : Nat, z1 = (i : Int) := ⟨z1.toNat, by omega⟩
    go_wp2_with fail
    refine (pick_any b (k + 2) (u.size : Int) _ hc1 (by omega) (by omega) (by omega)).mono ?_
    rintro e w2 ⟨z2, rfl, ⟨a2, b2⟩, hc2, hg2⟩
    obtain ⟨j, rfl⟩ : ∃ j : Nat, z2 = (j : Int) := ⟨z2.toNat, by omega⟩
    have hg3 := grownBy_trans hg1 hg2
    clear hg1 hg2 hc1
    have ij : (j : Int) ≤ (u.size : Int) := by omega
    have ii : (i : Int) ≤ (t.size : Int) := by omega
    have ii1 : (i : Int) + 1 ≤ (t.size : Int) := by omega
    have hx1 : (1 : Int) ≤ ((u.extract j u.size).size : Int) := by rw [ByteArray.size_extract]; omega
    go_wp2_with fail
    refine (pick_any b (k + 2 + 1) 3 _ hc2 (by omega) (by omega) (by omega)).mono ?_
    rintro e w3 ⟨z3, rfl, ⟨a3, b3⟩, hc3, hg4⟩
    have hg5 := grownBy_trans hg3 hg4
    obtain ⟨W, hW⟩ : ∃ W, W = (u.extract j u.size).extract 0 1 := ⟨_, rfl⟩
    have hWs : W.size ≤ 1 := by rw [hW]; have := cut1 (u.extract j u.size) 0 1; omega
    obtain ⟨P, hP⟩ : ∃ P, P = t.extract 0 i := ⟨_, rfl⟩
    have hPs : P.size ≤ i := by rw [hP]; have := cut1 t 0 i; omega
    obtain ⟨R0, hR0⟩ : ∃ P, P = t.extract i t.size := ⟨_, rfl⟩
    have hR0s : R0.size ≤ t.size - i := by rw [hR0]; exact cut1 t i t.size
    obtain ⟨R1, hR1⟩ : ∃ P, P = t.extract (i + 1) t.size := ⟨_, rfl⟩
    have hR1s : R1.size ≤ t.size - (i + 1) := by rw [hR1]; exact cut1 t (i + 1) t.size
    have hz : z3 = 0 ∨ z3 = 1 ∨ 1 < z3 := by omega
    have HC := Lib.hid hc3
    have HG := Lib.hid hg5
    have s1 : P.size + W.size ≤ 9223372036854775807 := by omega
    have s2 : (P ++ W).size + R0.size ≤ 9223372036854775807 := by rw [ByteArray.size_append]; omega
    have s3 : (P ++ W).size + R1.size ≤ 9223372036854775807 := by rw [ByteArray.size_append]; omega
    have s4 : P.size + R1.size ≤ 9223372036854775807 := by omega
    rw [← hW]
    clear hc3 hg5 hg3 hg4 hc2 hW
    rcases hz with rfl | rfl | hz
    · clear a3 b3
      go_wp2_with fail
      go_quiet (fail)
      go_wp2
      go_ret
      refine ⟨_, rfl, ?_, (HC.out.mono (by omega)).drewN nq, grownBy_drewN HG.out nq⟩
      dsimp only
      rw [ByteArray.size_append, ByteArray.size_append]
      have q1 := cut1 t 0 i
      have q2 := cut1 t i t.size
      omega
    · clear a3 b3
      go_wp2_with fail
      go_quiet (fail)
      go_wp2
      go_ret
      refine ⟨_, rfl, ?_, (HC.out.mono (by omega)).drewN nq, grownBy_drewN HG.out nq⟩
      dsimp only
      rw [ByteArray.size_append, ByteArray.size_append]
      have q1 := cut1 t 0 i
      have q2 := cut1 t (i + 1) t.size
      omega
    · have n0 : ¬ z3 = 0 := by omega
      have n1 : ¬ z3 = 1 := by omega
      have d0 : (z3 == 0) = false := by simpa using n0
      have d1 : (z3 == 1) = false := by simpa using n1
      go_wp2_with fail
      go_quiet (fail)
      go_wp2
      go_ret
      refine ⟨_, rfl, ?_, (HC.out.mono (by omega)).drewN nq, grownBy_drewN HG.out nq⟩
      dsimp only
      rw [ByteArray.size_append]
      have q1 := cut1 t 0 i
      have q2 := cut1 t (i + 1) t.size
      omega
  · go_enter Tryz.func31, Tryz.ntmps31
    go_wp2
    go_ret
    refine ⟨_, rfl, ?_, h.mono (by omega), World.grownBy.refl _ _⟩
    have := cut1 u 0 1
    omega
set_option maxHeartbeats 1000000 in
theorem of_three (b k g : Nat) (a0 a1 a2 : ByteArray) (T : TypeId) (w : World) (h : Cur w b k) (hk : k ≤ 900000) (hg : w.heap[g]? = some (.cells #[.string a0, .string a1, .string a2] T (0, 0))) (hne : g ≠ b) (h0 : a0.size ≤ 2) (h1 : a1.size ≤ 2) (h2 : a2.size ≤ 2) :
    Calls Tryz.prog 34 #[.pointer (some ⟨b, 0, none⟩), .slice (some ⟨g, 0, none⟩) 3 3] w (DrawnS w b (k + 1) fun s => s.size ≤ 2) := by
  go_enter Tryz.func34, Tryz.ntmps34
  go_wp2_with fail
  refine (pick_any b k 3 _ h (by omega) (by omega) (by omega)).mono ?_
  rintro e w1 ⟨z, rfl, ⟨z0, z1⟩, hc, hgr⟩
  have hg1 := heap_keepG hg hgr (fun e => by injection e with e; exact hne e.symm)
  have c0 := cell_of hg1 0
  have c1 := cell_of hg1 1
  have c2 := cell_of hg1 2
  have HC := Lib.hid hc
  have HG := Lib.hid hgr
  have hz : z = 0 ∨ z = 1 ∨ z = 2 := by omega
  clear hg hg1 hc hgr z0 z1 h
  rcases hz with rfl | rfl | rfl
  · go_wp2
    go_ret
    exact ⟨_, rfl, h0, HC.out, HG.out⟩
  · go_wp2
    go_ret
    exact ⟨_, rfl, h1, HC.out, HG.out⟩
  · go_wp2
    go_ret
    exact ⟨_, rfl, h2, HC.out, HG.out⟩
end Go.Proofs.YtenaadmifppphaaGreatDoor
/-! ### PicLaw -/
namespace Go.Proofs.YtenaadmifppphaaGreatDoor
open Go.ChangeShapes Go.WideShapes Go.ChangeAt Go.RowKit
set_option linter.unusedVariables false
theorem letNo_U (v : Int) (h0 : 0 ≤ v) (h9 : v ≤ 9) : letNo (letU v) = v := by
  obtain ⟨n, rfl⟩ : ∃ n : Nat, v = n := ⟨v.toNat, by omega⟩
  have h : ∀ n, n < 10 → letNo (letU ((n : Nat) : Int)) = ((n : Nat) : Int) := by decide
  exact h n (by omega)
theorem pic_t_len (rows : List (List Int)) : (textT letC [] rows 24).length = 480 := by rw [textT_len]; rfl
section
variable {rows : List (List Int)} (h : picOk rows = true)
include h
theorem pic_picP : picP (textT letC [] rows 24) 24 = rows := by
  have hl := picOk_24 h
  apply List.ext_getElem?
  intro y
  by_cases hy : y < 24
  · have hr : rows[y]? = some rows[y] := List.getElem?_eq_getElem (by omega)
    obtain ⟨row, hrow⟩ : ∃ row, rows[y]? = some row := ⟨_, hr⟩
    rw [picP_at _ hy, hrow]
    congr 1
    unfold rowP
    rw [textT_cut letC rows y 24 hy row hrow]
    have hg := picOk_row h hrow
    have h20 := rowG_20 hg
    apply List.ext_getElem?
    intro x
    by_cases hx : x < 20
    · have hv : row[x]? = some row[x] := List.getElem?_eq_getElem (by omega)
      obtain ⟨v, hvv⟩ : ∃ v, row[x]? = some v := ⟨_, hv⟩
      have hb := cellG_bd (rowG_cell hg hvv)
      simp only [rowT, List.map_map, List.getElem?_map, List.getElem?_range hx, Option.map_some, Function.comp, List.getD_eq_getElem?_getD, hvv, Option.getD_some, letC]
      rw [letNo_U v hb.1 hb.2]
    · rw [List.getElem?_eq_none (by rw [List.length_map, rowT_len]; omega), List.getElem?_eq_none (by omega)]
  · rw [List.getElem?_eq_none (by rw [picP_len]; omega), List.getElem?_eq_none (by omega)]
theorem pic_rdOk : rdOk (textT letC [] rows 24) = true := by rw [rd_pic (pic_t_len rows), pic_picP h]; exact h
theorem pic_letterT : letterT rows = joinL (textT letC [] rows 24) 24 := by
  have := textT_P (pic_rdOk h) 24 (Nat.le_refl _)
  rw [pic_picP h] at this
  unfold letterT
  rw [h]
  exact this
theorem pic_runT : runT rows = runsL (textT letC [] rows 24) := by unfold runT; rw [h]; rfl
theorem pic_letters : plOk ⟨(letterT rows).toArray⟩ = true ∧ plRows ⟨(letterT rows).toArray⟩ = rows := by
  have ht := pic_t_len rows
  obtain ⟨e1, e2⟩ := all_join ht 24 (Nat.le_refl _) []
  rw [List.append_nil] at e1 e2
  rw [List.take_of_length_le (by omega)] at e1
  have hd : (⟨(letterT rows).toArray⟩ : ByteArray).data.toList = joinL (textT letC [] rows 24) 24 := by rw [dtl, pic_letterT h]
  have h1 : plOk ⟨(letterT rows).toArray⟩ = true := by
    unfold plOk linesOk
    rw [hd, e1, pic_rdOk h]
    simp only [joinL_len _ ht 24 (Nat.le_refl _), Bool.and_true, decide_true, Bool.true_and, List.all_eq_true, List.mem_range, beq_iff_eq, Nat.reduceMul]
    exact e2
  refine ⟨h1, ?_⟩
  unfold plRows
  rw [h1, hd, e1]
  exact pic_picP h
theorem pic_runs : prOk ⟨(runT rows).toArray⟩ = true ∧ prRows ⟨(runT rows).toArray⟩ = rows := by
  have hr := pic_rdOk h
  obtain ⟨hp, hl⟩ := rd_plain hr
  have hd : decI (runsL (textT letC [] rows 24)) = some (textT letC [] rows 24, 0) := by
    have := decI_runs _ (textT letC [] rows 24) (Nat.le_refl _) hp [] (by simp; omega)
    simpa [decI] using this
  have hs : prs (⟨(runT rows).toArray⟩ : ByteArray).data.toList = some (textT letC [] rows 24) := by
    rw [dtl, pic_runT h]
    exact prs_some.2 ⟨by rw [hd]; rfl, hr, rfl⟩
  obtain ⟨h1, h2⟩ := pr_some hs
  exact ⟨h1, by rw [h2]; exact pic_picP h⟩
theorem pic_short : (runT rows).length ≤ (letterT rows).length := by
  have ht := pic_t_len rows
  rw [pic_runT h, pic_letterT h, joinL_len _ ht 24 (Nat.le_refl _)]
  have := runsL_le _ (textT letC [] rows 24) (Nat.le_refl _)
  omega
end
end Go.Proofs.YtenaadmifppphaaGreatDoor
/-! ### PicT -/
namespace Go.Proofs.YtenaadmifppphaaGreatDoor
open Go.ChangeShapes Go.WideShapes Go.ChangeAt Go.RowKit
set_option linter.unusedVariables false
set_option linter.unusedSimpArgs false
def DrawTx (w : World) (e : Ending) (w' : World) : Prop := ∃ s : ByteArray, e = .returned (.string s) ∧ s.size ≤ 100000 ∧ Below w.heap.size w w'
theorem letterT_size (rows : List (List Int)) : (⟨(letterT rows).toArray⟩ : ByteArray).size ≤ 600 := by
  show (letterT rows).toArray.size ≤ _
  rw [List.size_toArray]
  unfold letterT
  cases picOk rows
  · simp
  · show (textT letC [10] rows 24).length ≤ _
    rw [textT_len]
    simp
theorem runT_size (rows : List (List Int)) : (⟨(runT rows).toArray⟩ : ByteArray).size ≤ 600 := by
  show (runT rows).toArray.size ≤ _
  rw [List.size_toArray]
  unfold runT
  cases picOk rows
  · simp
  · show (runsL (textT letC [] rows 24)).length ≤ _
    have h1 := runsL_le _ (textT letC [] rows 24) (Nat.le_refl _)
    have h2 : (textT letC [] rows 24).length = 480 := by rw [textT_len]; rfl
    omega
set_option maxHeartbeats 8000000 in
set_option maxRecDepth 20000 in
theorem DrawParseLetters_any (A : Option Addr) (n c : Nat) (w : World) (h : RdU w A n) (hn : n ≤ 65536) : Calls Tryz.prog 14 #[.slice A n c] w (DrawTx w) := by
  go_enter Tryz.func14, Tryz.ntmps14
  have hB := Below.refl w.heap.size w
  replace hB := Below_al hB (.cells #[.slice A n c, .int .i64 0, .int .u64 0] 44)
  have hc : Cur (w.alloc (.cells #[.slice A n c, .int .i64 0, .int .u64 0] 44)) (w.heap.size) 0 := curStart h hn (heap_hit _ _ _ (by simp)) hB (by omega)
  go_wp2_with fail
  refine (picture_any (w.heap.size) 0 _ hc (by omega)).mono ?_
  rintro e v1 ⟨v, rows, vs, rfl, hG, hrl, hsh, hc1, hg1⟩
  obtain ⟨Ap, cp, rfl, hrd⟩ := hG.rd
  have hsm : Small rows := shp_small (by omega) (fun y row hy => by have := hsh y row hy; omega)
  have HB := Lib.hid hB
  clear hG hsh hc hB hrl
  go_wp2_with fail
  refine (specLetterText_any Ap cp rows _ hrd hsm).mono ?_
  rintro e v2 ⟨rfl, hx⟩
  have hc2 := hc1.below hx
  have hg2 := grownBy_below hg1 hx
  have hsz := letterT_size rows
  obtain ⟨s, hsd⟩ : ∃ s : ByteArray, s = ⟨(letterT rows).toArray⟩ := ⟨_, rfl⟩
  obtain ⟨ok, hok⟩ : ∃ ok, ok = picOk rows := ⟨_, rfl⟩
  rw [← hsd] at hsz ⊢
  rw [← hok]
  clear hx hrd hsm hc1 hg1 hsd hok
  go_wp2_with fail
  refine (one_any (w.heap.size) (0 + 12) 4 _ hc2 (by omega) (by omega) (by omega)).mono ?_
  rintro e v3 ⟨x, rfl, hc3, hg3⟩
  have hg4 := grownBy_trans hg2 hg3
  clear hc2 hg2 hg3
  cases x
  · have HG := Lib.hid (drawEnd hg4 HB.out (by omega))
    clear hg4 hc3
    go_wp2
    go_ret
    exact ⟨s, rfl, by omega, HG.out⟩
  · go_wp2_with fail
    refine (spoilt_any (w.heap.size) (0 + 12 + 1) s _ _ hc3 (by omega) (by omega) (by decide) (by decide)).mono ?_
    rintro e v4 ⟨s2, rfl, hs2, hc4, hg5⟩
    have HG := Lib.hid (drawEnd (grownBy_trans hg4 hg5) HB.out (by omega))
    clear hg4 hc3 hc4 hg5
    go_wp2
    go_ret
    exact ⟨s2, rfl, by omega, HG.out⟩
set_option maxHeartbeats 8000000 in
set_option maxRecDepth 20000 in
theorem DrawParseRuns_any (A : Option Addr) (n c : Nat) (w : World) (h : RdU w A n) (hn : n ≤ 65536) : Calls Tryz.prog 16 #[.slice A n c] w (DrawTx w) := by
  go_enter Tryz.func16, Tryz.ntmps16
  have hB := Below.refl w.heap.size w
  replace hB := Below_al hB (.cells #[.slice A n c, .int .i64 0, .int .u64 0] 44)
  have hc : Cur (w.alloc (.cells #[.slice A n c, .int .i64 0, .int .u64 0] 44)) (w.heap.size) 0 := curStart h hn (heap_hit _ _ _ (by simp)) hB (by omega)
  go_wp2_with fail
  refine (picture_any (w.heap.size) 0 _ hc (by omega)).mono ?_
  rintro e v1 ⟨v, rows, vs, rfl, hG, hrl, hsh, hc1, hg1⟩
  obtain ⟨Ap, cp, rfl, hrd⟩ := hG.rd
  have hsm : Small rows := shp_small (by omega) (fun y row hy => by have := hsh y row hy; omega)
  have HB := Lib.hid hB
  clear hG hsh hc hB hrl
  go_wp2_with fail
  refine (specRunText_any Ap cp rows _ hrd hsm).mono ?_
  rintro e v2 ⟨rfl, hx⟩
  have hc2 := hc1.below hx
  have hg2 := grownBy_below hg1 hx
  have hsz := runT_size rows
  obtain ⟨s, hsd⟩ : ∃ s : ByteArray, s = ⟨(runT rows).toArray⟩ := ⟨_, rfl⟩
  obtain ⟨ok, hok⟩ : ∃ ok, ok = picOk rows := ⟨_, rfl⟩
  rw [← hsd] at hsz ⊢
  rw [← hok]
  clear hx hrd hsm hc1 hg1 hsd hok
  go_wp2_with fail
  refine (pick_any (w.heap.size) (0 + 12) 8 _ hc2 (by omega) (by omega) (by omega)).mono ?_
  rintro e v3 ⟨z, rfl, ⟨z0, z1⟩, hc3, hg3⟩
  have hg4 := grownBy_trans hg2 hg3
  clear hc2 hg2 hg3
  have hz : z = 0 ∨ z = 1 ∨ 1 < z := by omega
  rcases hz with rfl | rfl | hz
  · clear z0 z1
    go_wp2_with fail
    refine (spoilt_any (w.heap.size) (0 + 12 + 1) s _ _ hc3 (by omega) (by omega) (by decide) (by decide)).mono ?_
    rintro e v4 ⟨s2, rfl, hs2, hc4, hg5⟩
    have HG := Lib.hid (drawEnd (grownBy_trans hg4 hg5) HB.out (by omega))
    clear hg4 hc3 hc4 hg5
    go_wp2
    go_ret
    exact ⟨s2, rfl, by omega, HG.out⟩
  · clear z0 z1
    go_wp2_with fail
    have hlt3 := hc3.lt
    refine (of_three (w.heap.size) (0 + 12 + 1) v3.heap.size _ _ _ _ _ (hc3.alloc _) (by omega) (heap_hit _ _ _ rfl) (by omega) (by decide) (by decide) (by decide)).mono ?_
    rintro e v4 ⟨s2, rfl, hs3, hc4, hg5⟩
    have hsum : s.size + s2.size ≤ 9223372036854775807 := by omega
    have HG := Lib.hid (drawEnd (grownBy_trans (grownBy_below hg4 (Below_al (Below.refl _ _) _)) hg5) HB.out (by omega))
    clear hg4 hc3 hc4 hg5 hlt3
    go_wp2
    go_ret
    exact ⟨_, rfl, by rw [ByteArray.size_append]; omega, HG.out⟩
  · have n0 : ¬ z = 0 := by omega
    have n1 : ¬ z = 1 := by omega
    have d0 : (z == 0) = false := by simpa using n0
    have d1 : (z == 1) = false := by simpa using n1
    have HG := Lib.hid (drawEnd hg4 HB.out (by omega))
    clear hg4 hc3
    go_wp2
    go_ret
    exact ⟨s, rfl, by omega, HG.out⟩
end Go.Proofs.YtenaadmifppphaaGreatDoor
/-! ### KeyP -/
namespace Go.Proofs.YtenaadmifppphaaGreatDoor
open Go.ChangeShapes Go.WideShapes Go.ChangeAt Go.RowKit
set_option linter.unusedVariables false
set_option linter.unusedSimpArgs false
set_option maxHeartbeats 1000000 in
theorem rInts_any (A A' : Option Addr) (c c' : Nat) (xs ys : List Int) (w : World) (h1 : RdI w A xs) (h2 : RdI w A' ys) (hx : xs.length ≤ 1099511627776) (hy : ys.length ≤ 1099511627776) :
    Calls Tryz.prog 28 #[.slice A xs.length c, .slice A' ys.length c'] w fun e w' => e = .returned (.bool (decide (xs = ys))) ∧ Below w.heap.size w w' := by
  by_cases hl : xs.length = ys.length
  · have hd : ((xs.length : Int) != (ys.length : Int)) = false := by simp [hl]
    have HL := Lib.hid hl
    clear hl
    go_enter Tryz.func28, Tryz.ntmps28
    go_wp2_with fail
    clear hd
    go_loopw [5] (fun i wr => ∃ k : Nat, k ≤ xs.length ∧ i = .int .i64 k ∧ (∀ j, j < k → xs[j]? = ys[j]?) ∧ Below w.heap.size w wr) (fun i _ => xs.length - (intOf i).toNat)
    case atStart => exact ⟨0, Nat.zero_le _, rfl, fun j hj => absurd hj (by omega), Below.refl _ _⟩
    case round =>
      obtain ⟨k, hk, rfl, hall, hb⟩ := hrel
      have HA := Lib.hid hall
      clear hall
      by_cases hlt : k < xs.length
      · have hl := HL.out
        obtain ⟨b, off, rfl, hc1, -⟩ := (h1.below hb).at_ hlt
        obtain ⟨b', off', rfl, hc2, -⟩ := (h2.below hb).at_ (by omega : k < ys.length)
        obtain ⟨x, ex⟩ : ∃ x, x = xs[k] := ⟨_, rfl⟩
        obtain ⟨y, ey⟩ : ∃ y, y = ys[k] := ⟨_, rfl⟩
        rw [← ex] at hc1
        rw [← ey] at hc2
        have i1 : (k : Int) < (xs.length : Int) := by omega
        have i2 : (k : Int) < (ys.length : Int) := by omega
        have d1 : decide (k < xs.length) = true := by simpa using hlt
        have EX := Lib.hid ex
        have EY := Lib.hid ey
        clear ex ey
        by_cases hxy : x = y
        · have hn : (x != y) = false := by simpa using hxy
          have HXY := Lib.hid hxy
          clear hxy
          go_wp2
          go_region
          go_wp2
          go_roundw
          case rel =>
            refine ⟨k + 1, by omega, by go_num, fun j hj => ?_, hb.drew⟩
            by_cases e : j = k
            · subst e
              rw [List.getElem?_eq_getElem hlt, List.getElem?_eq_getElem (by omega), ← EX.out, ← EY.out, HXY.out]
            · exact HA.out j (by omega)
          case measure => simp [intOf]; omega
        · have hn : (x != y) = true := by simpa using hxy
          go_wp2
          go_region
          go_wp2
          go_ret
          refine ⟨retB ?_, hb.drew⟩
          symm
          rw [decide_eq_false_iff_not]
          intro e
          subst e
          exact hxy (by rw [EX.out, EY.out])
      · have hk' : k = xs.length := by omega
        have d1 : decide (k < xs.length) = false := by simpa using hlt
        go_wp2
        go_ret
        refine ⟨retB ?_, hb⟩
        symm
        rw [decide_eq_true_iff]
        apply List.ext_getElem? 
        intro j
        by_cases hj : j < k
        · exact HA.out j hj
        · have hl := HL.out
          rw [List.getElem?_eq_none (by omega), List.getElem?_eq_none (by omega)]
  · have hd : ((xs.length : Int) != (ys.length : Int)) = true := by simp; omega
    go_enter Tryz.func28, Tryz.ntmps28
    go_wp2
    go_ret
    refine ⟨retB ?_, Below.refl _ _⟩
    symm
    rw [decide_eq_false_iff_not]
    intro e
    exact hl (by rw [e])
theorem rInts_same {B B' : Nat} {v v' : Value} (xs : List Int) (w : World) (h1 : OwnI w B 3 v xs) (h2 : OwnI w B' 3 v' xs) (hx : xs.length ≤ 1099511627776) :
    Calls Tryz.prog 28 #[v, v'] w fun e w' => e = .returned (.bool true) ∧ Below w.heap.size w w' := by
  obtain ⟨A, c, rfl, hr⟩ := h1.form
  obtain ⟨A', c', rfl, hr'⟩ := h2.form
  exact (rInts_any A A' c c' xs xs w hr hr' hx hx).mono fun _ _ ⟨he, hw⟩ => ⟨by rw [he]; simp, hw⟩
theorem rBig_any (A : Option Addr) (n c : Nat) (w : World) : Calls Tryz.prog 4 #[.slice A n c] w fun e w' => e = .returned (.bool (decide (65536 < n))) ∧ w = w' := by
  by_cases h : 65536 < n
  · have d : decide (65536 < n) = true := by simpa using h
    have d2 : (65536 : Int) < (n : Int) := by omega
    rw [d]
    go_enter Tryz.func4, Tryz.ntmps4
    go_wp2
    go_ret
    exact ⟨by simp [h], rfl⟩
  · have d : decide (65536 < n) = false := by simpa using h
    have d2 : ¬ (65536 : Int) < (n : Int) := by omega
    rw [d]
    go_enter Tryz.func4, Tryz.ntmps4
    go_wp2
    go_ret
    exact ⟨by simp [h], rfl⟩
theorem reads {w : World} {B n c : Nat} {T : TypeId} {A : Option Addr} {zs : List Int} (h : OwnI w B T (.slice A n c) zs) : RdI w A zs := by
  obtain ⟨A', c', e, hr⟩ := h.form
  injection e with e1 _ _
  subst e1
  exact hr
end Go.Proofs.YtenaadmifppphaaGreatDoor
/-! ### RTab -/
namespace Go.Proofs.YtenaadmifppphaaGreatDoor
open Go.ChangeShapes Go.WideShapes Go.ChangeAt Go.RowKit
set_option linter.unusedVariables false
set_option linter.unusedSimpArgs false
theorem keep2R {a w w' : World} {p q : Addr} {u v : Value} (h : w.cell? p = some u ∧ w.cell? q = some v ∧ Below a.heap.size a w) (hb : Below w.heap.size w w') : w'.cell? p = some u ∧ w'.cell? q = some v ∧ Below a.heap.size a w' :=
  ⟨keep_cell h.1 hb, keep_cell h.2.1 hb, Below_then h.2.2 hb⟩
set_option maxHeartbeats 1000000 in
theorem rTable_same (A A' : Option Addr) (c c' : Nat) (rows : List (List Int)) (w : World) (h1 : RdG w A rows) (h2 : RdG w A' rows) (hs : Small rows) :
    Calls Tryz.prog 13 #[.slice A rows.length c, .slice A' rows.length c'] w fun e w' => e = .returned (.bool true) ∧ Below w.heap.size w w' := by
  have hl := hs.len
  have hd : ((rows.length : Int) != (rows.length : Int)) = false := by simp
  go_enter Tryz.func13, Tryz.ntmps13
  go_wp2_with fail
  clear hd
  go_loopw [5] (fun i wr => ∃ k : Nat, k ≤ rows.length ∧ i = .int .i64 k ∧ Below w.heap.size w wr) (fun i _ => rows.length - (intOf i).toNat)
  case atStart => exact ⟨0, by omega, rfl, Below.refl _ _⟩
  case round =>
    obtain ⟨k, hk, rfl, hb⟩ := hrel
    by_cases hlt : k < rows.length
    · obtain ⟨row, hrow⟩ := row_at hlt
      obtain ⟨b, off, B, d, rfl, hc1, hr1, -⟩ := (h1.below hb).atv hrow
      obtain ⟨b', off', B', d', rfl, hc2, hr2, -⟩ := (h2.below hb).atv hrow
      have hx := hs.row40 hrow
      have i1 : (k : Int) < (rows.length : Int) := by omega
      have d1 : decide (k < rows.length) = true := by simpa using hlt
      have K' := Lib.hid (fun (w' : World) (hb' : Below wr.heap.size wr w') => ((rInts_any B B' d d' row row w' (hr1.below hb') (hr2.below hb') hx hx).mono fun e w'' h => ⟨by rw [h.1]; simp, h.2⟩ : Calls Tryz.prog 28 #[.slice B row.length d, .slice B' row.length d'] w' fun e w'' => e = .returned (.bool true) ∧ Below w'.heap.size w' w''))
      clear hr1 hr2 hrow
      go_wp2_with fail
      go_region_held3 (fun w' => w'.cell? ⟨b, off + k, none⟩ = some (.slice B row.length d : Value) ∧ w'.cell? ⟨b', off' + k, none⟩ = some (.slice B' row.length d' : Value) ∧ Below wr.heap.size wr w') (first | assumption | exact keep2R (by assumption) (by assumption) | exact ⟨hc1, hc2, Below.refl _ _⟩ | exact ⟨hc1, hc2, (Below.refl _ _).drew⟩) (first | (go_at_call 28; obtain ⟨-, -, sb⟩ : _ ∧ _ ∧ Below wr.heap.size wr _ := (by assumption); refine (K'.out _ sb).mono ?_; rintro e w1 ⟨rfl, hb1⟩))
      go_wp2
      go_roundw
      case rel =>
        obtain ⟨-, -, sb⟩ : _ ∧ _ ∧ Below wr.heap.size wr _ := (by assumption)
        exact ⟨k + 1, by omega, by go_num, Below_then hb sb⟩
      case measure => simp [intOf]; omega
    · obtain rfl : k = rows.length := by omega
      have d1 : decide (rows.length < rows.length) = false := by simp
      go_wp2
      go_ret
      exact ⟨rfl, hb⟩
end Go.Proofs.YtenaadmifppphaaGreatDoor
/-! ### Code -/
namespace Go.Proofs.YtenaadmifppphaaGreatDoor
open Go.ChangeShapes Go.WideShapes Go.ChangeAt Go.RowKit Go.Joins Go.Deep
set_option linter.unusedVariables false
set_option linter.unusedSimpArgs false
set_option maxRecDepth 100000
section
variable {H : Type} {enc : TypeId × Value → H} {w : World} {base : Nat} {spare : Nat → Bool} {held : Bool} {r : Reach} {b0 : Nat} {v : Value} {d : DataW H} {p : List MemPlace}
theorem openCode (hv : Value.okWide Tryz.prog w r b0 22 v) (h : DataW.Trod enc Tryz.prog w base spare held 22 v d p) :
    ∃ A n c, v = .slice A n c ∧ RdU w A n := by
  obtain ⟨fuel, h⟩ := h
  have hv1 : ∃ A n c, v = .slice A n c := by
    simp only [Value.okWide, Tryz.underlying22] at hv
    cases v <;> simp_all [Cell.okWide, Cell.ok]
  obtain ⟨A, n, c, rfl⟩ := hv1
  refine ⟨A, n, c, rfl, ?_⟩
  rcases open_ints Tryz.underlying22 (by kernel_rfl : Tryz.prog.underlying 5 = some (.int .u8)) (by kernel_rfl) h with ⟨hcs, -⟩ | ⟨a, len, cap, zs, hcs, -, hl, hm, hz, -, hcell, hw⟩
  · simp [Value.cells] at hcs
    obtain ⟨rfl, rfl, rfl⟩ := hcs
    exact .inl rfl
  · simp [Value.cells] at hcs
    obtain ⟨rfl, rfl, rfl⟩ := hcs
    have hge : n ≤ zs.length := by rw [hz]; split <;> omega
    by_cases h0 : n = 0
    · exact .inl h0
    · have hs : a.spot = none := by
        have h1 := hcell 0 (by omega)
        rw [Addr.add, if_pos rfl] at h1
        simp only [World.cell?] at h1
        split at h1
        · split at h1
          · cases h1
          · next hh => simpa using hh
        · cases h1
      obtain ⟨b, off, sp⟩ := a
      simp at hs
      subst hs
      refine .inr ⟨b, off, rfl, fun i hi => ?_⟩
      have h1 := hcell i (by omega)
      have e1 : (Addr.add ⟨b, off, none⟩ i : Addr) = ⟨b, off + i, none⟩ := by
        unfold Addr.add
        split
        · next h => subst h; rfl
        · rfl
      rw [e1] at h1
      have h2 := hw (zs.getD i 0) (by rw [List.getD_eq_getElem?_getD, List.getElem?_eq_getElem (by omega)]; exact List.getElem_mem _)
      refine ⟨_, h1, ?_⟩
      clear hcell hw
      generalize zs.getD i 0 = z at *
      simp [Lit.wf, IntKind.has, IntKind.min, IntKind.max, IntKind.bits, IntKind.signed] at h2
      omega
end
end Go.Proofs.YtenaadmifppphaaGreatDoor
namespace Go.Proofs.YtenaadmifppphaaGreatDoor.fnPictures
open Go.ChangeShapes Go.WideShapes Go.ChangeAt Go.RowKit
set_option linter.unusedVariables false
set_option linter.unusedSimpArgs false
theorem tabHere {W : World} (hL : laidMetH Tryz.prog Rows.fnPicturesRow.laid W) : Lib.TabIs Tryz.prog W "internal/strconv.uint64pow10" .u64 Lib.pow10Tab := tab_of hL
set_option maxHeartbeats 16000000 in
set_option maxRecDepth 100000 in
theorem walk (w : World) (A0 : Option Addr) (n0 c0 : Nat) (u0 : RdU w A0 n0) (htab : MaxAt w ∧ Lib.TabIs Tryz.prog w "internal/strconv.uint64pow10" .u64 Lib.pow10Tab) :
    Calls Tryz.prog 3 #[.slice A0 n0 c0] w fun e w' => e = .returned (.bool true) ∧ Below w.heap.size w w' := by
  have HM := Lib.hid htab.1
  have HI := Lib.hid (itoaAt_tab htab.2)
  clear htab
  by_cases hn : n0 ≤ 65536
  · have hn2 : decide (65536 < n0) = false := by simp; omega
    go_enter Tryz.func3, Tryz.ntmps3
    have hT := Below.refl w.heap.size w
    go_wp2_with fail
    refine (rBig_any A0 n0 c0 _).mono ?_
    rw [hn2]
    rintro e w1 ⟨rfl, rfl⟩
    clear hn2
    go_wp2_with fail
    refine (DrawLetterText_any A0 n0 c0 _ (u0.below hT) hn).mono ?_
    rintro e y1 ⟨A, c, rows, rfl, hr, hs, hx⟩
    replace hT := Below_then hT hx
    clear hx
    obtain ⟨s, hsd⟩ : ∃ s : ByteArray, s = ⟨(letterT rows).toArray⟩ := ⟨_, rfl⟩
    obtain ⟨r, hrd⟩ : ∃ r : ByteArray, r = ⟨(runT rows).toArray⟩ := ⟨_, rfl⟩
    obtain ⟨ok, hok⟩ : ∃ ok, ok = picOk rows := ⟨_, rfl⟩
    have K1 : ∀ w, RdG w A rows → Calls Tryz.prog 6 #[.slice A rows.length c] w fun e w' => e = .returned (.tuple #[.string s, .bool ok]) ∧ Below w.heap.size w w' := fun w h => by rw [hsd, hok]; exact LetterText_any A c rows w h hs
    have K2 : ∀ w, RdG w A rows → ItoaAt w → Calls Tryz.prog 7 #[.slice A rows.length c] w fun e w' => e = .returned (.tuple #[.string r, .bool ok]) ∧ Below w.heap.size w w' := fun w h hI => by rw [hrd, hok]; exact implRunText_any A c rows w h hs hI
    have K3 : ∀ w, RdG w A rows → Calls Tryz.prog 8 #[.slice A rows.length c] w fun e w' => e = .returned (.tuple #[.string s, .bool ok]) ∧ Below w.heap.size w w' := fun w h => by rw [hsd, hok]; exact specLetterText_any A c rows w h hs
    have K4 : ∀ w, RdG w A rows → Calls Tryz.prog 9 #[.slice A rows.length c] w fun e w' => e = .returned (.tuple #[.string r, .bool ok]) ∧ Below w.heap.size w w' := fun w h => by rw [hrd, hok]; exact specRunText_any A c rows w h hs
    have K5 : ∀ w, RdG w A rows → Calls Tryz.prog 10 #[.slice A rows.length c] w fun e w' => e = .returned (.bool ok) ∧ Below w.heap.size w w' := fun w h => by rw [hok]; exact IsValidPicture_any A c rows w h hs
    have K6 : ok = true → ∀ w', MaxAt w' → Calls Tryz.prog 11 #[.string s] w' (GridOk w' rows true) := fun h w' hm => by
      have hp := pic_letters (rows := rows) (by rw [← hok]; exact h)
      have := implParseLetters_any s w' hm
      rw [hsd, hp.1, hp.2] at this
      rw [hsd]
      exact this
    have K7 : ok = true → ∀ w', ItoaAt w' → Calls Tryz.prog 12 #[.string r] w' (GridOk w' rows true) := fun h w' hm => by
      have hp := pic_runs (rows := rows) (by rw [← hok]; exact h)
      have := implParseRuns_any r w' hm
      rw [hrd, hp.1, hp.2] at this
      rw [hrd]
      exact this
    have K8 : ok = true → r.size ≤ s.size := fun h => by
      have hp := pic_short (rows := rows) (by rw [← hok]; exact h)
      rw [hsd, hrd]
      show (runT rows).toArray.size ≤ (letterT rows).toArray.size
      rw [List.size_toArray, List.size_toArray]
      exact hp
    have K1' := Lib.hid K1
    have K2' := Lib.hid K2
    have K3' := Lib.hid K3
    have K4' := Lib.hid K4
    have K5' := Lib.hid K5
    have K6' := Lib.hid K6
    have K7' := Lib.hid K7
    have K8' := Lib.hid K8
    have hes : (s.toList == s.toList) = true := by simp
    have her : (r.toList == r.toList) = true := by simp
    clear K1 K2 K3 K4 K5 K6 K7 K8 hsd hrd hok
    cases ok
    · go_wp2_with fail
      refine (K1'.out _ hr).mono ?_
      rintro e y2 ⟨rfl, hx⟩
      replace hT := Below_then hT hx
      replace hr := hr.below hx
      clear hx
      go_wp2_with fail
      refine (K2'.out _ hr (HI.out.below hT)).mono ?_
      rintro e y3 ⟨rfl, hx⟩
      replace hT := Below_then hT hx
      replace hr := hr.below hx
      clear hx
      go_wp2_with fail
      refine (K3'.out _ hr).mono ?_
      rintro e y4 ⟨rfl, hx⟩
      replace hT := Below_then hT hx
      replace hr := hr.below hx
      clear hx
      go_wp2_with fail
      refine (K4'.out _ hr).mono ?_
      rintro e y5 ⟨rfl, hx⟩
      replace hT := Below_then hT hx
      replace hr := hr.below hx
      clear hx
      go_wp2_with fail
      refine (K5'.out _ hr).mono ?_
      rintro e y6 ⟨rfl, hx⟩
      replace hT := Below_then hT hx
      replace hr := hr.below hx
      clear hx
      go_wp2_with fail
      refine (DrawParseLetters_any A0 n0 c0 _ (u0.below hT) hn).mono ?_
      rintro e z1 ⟨t, rfl, ht, hx⟩
      replace hT := Below_then hT hx
      clear hx
      obtain ⟨P, hPd⟩ : ∃ P, P = plRows t := ⟨_, rfl⟩
      obtain ⟨ok2, hok2⟩ : ∃ b, b = plOk t := ⟨_, rfl⟩
      have hPs : Small P := by rw [hPd]; exact pl_small t
      have K1 : ∀ w', MaxAt w' → Calls Tryz.prog 11 #[.string t] w' (GridOk w' P ok2) := fun w' h => by rw [hPd, hok2]; exact implParseLetters_any t w' h
      have K2 : ∀ w', Calls Tryz.prog 15 #[.string t] w' (GridOk w' P ok2) := fun w' => by rw [hPd, hok2]; exact specParseLetters_any t w'
      have K1' := Lib.hid K1
      have K2' := Lib.hid K2
      clear K1 K2 hPd hok2
      cases ok2
      all_goals
        go_wp2_with fail
        refine (K1'.out _ (HM.out.below hT)).mono ?_
        rintro e z2 ⟨v2, vs2, rfl, hG2, hx⟩
        replace hT := Below_then hT hx
        clear hx
        obtain ⟨B2, d2, rfl, hr2⟩ := hG2.rd
        clear hG2
        go_wp2_with fail
        refine (K2'.out _).mono ?_
        rintro e z3 ⟨v3, vs3, rfl, hG3, hx⟩
        replace hT := Below_then hT hx
        replace hr2 := hr2.below hx
        clear hx
        obtain ⟨B3, d3, rfl, hr3⟩ := hG3.rd
        clear hG3
        go_wp2_with fail
        refine (rTable_same B2 B3 d2 d3 P _ hr2 hr3 hPs).mono ?_
        rintro e z4 ⟨rfl, hx⟩
        replace hT := Below_then hT hx
        clear hx hr2 hr3
        go_wp2_with fail
        refine (DrawParseRuns_any A0 n0 c0 _ (u0.below hT) hn).mono ?_
        rintro e z5 ⟨t2, rfl, ht2, hx⟩
        replace hT := Below_then hT hx
        clear hx
        obtain ⟨P2, hPd2⟩ : ∃ P, P = prRows t2 := ⟨_, rfl⟩
        obtain ⟨ok3, hok3⟩ : ∃ b, b = prOk t2 := ⟨_, rfl⟩
        have hPs2 : Small P2 := by rw [hPd2]; exact pr_small t2
        have K3 : ∀ w', ItoaAt w' → Calls Tryz.prog 12 #[.string t2] w' (GridOk w' P2 ok3) := fun w' h => by rw [hPd2, hok3]; exact implParseRuns_any t2 w' h
        have K4 : ∀ w', Calls Tryz.prog 17 #[.string t2] w' (GridOk w' P2 ok3) := fun w' => by rw [hPd2, hok3]; exact specParseRuns_any t2 w' (by omega)
        have K3' := Lib.hid K3
        have K4' := Lib.hid K4
        clear K3 K4 hPd2 hok3
        cases ok3
        all_goals
          go_wp2_with fail
          refine (K3'.out _ (HI.out.below hT)).mono ?_
          rintro e z6 ⟨v6, vs6, rfl, hG6, hx⟩
          replace hT := Below_then hT hx
          clear hx
          obtain ⟨B6, d6, rfl, hr6⟩ := hG6.rd
          clear hG6
          go_wp2_with fail
          refine (K4'.out _).mono ?_
          rintro e z7 ⟨v7, vs7, rfl, hG7, hx⟩
          replace hT := Below_then hT hx
          replace hr6 := hr6.below hx
          clear hx
          obtain ⟨B7, d7, rfl, hr7⟩ := hG7.rd
          clear hG7
          go_wp2_with fail
          refine (rTable_same B6 B7 d6 d7 P2 _ hr6 hr7 hPs2).mono ?_
          rintro e z8 ⟨rfl, hx⟩
          replace hT := Below_then hT hx
          clear hx hr6 hr7
          go_wp2
          go_ret
          exact ⟨rfl, hT⟩
    · have hlen := K8'.out rfl
      have K6 := Lib.hid (K6'.out rfl)
      have K7 := Lib.hid (K7'.out rfl)
      go_wp2_with fail
      refine (K1'.out _ hr).mono ?_
      rintro e y2 ⟨rfl, hx⟩
      replace hT := Below_then hT hx
      replace hr := hr.below hx
      clear hx
      go_wp2_with fail
      refine (K2'.out _ hr (HI.out.below hT)).mono ?_
      rintro e y3 ⟨rfl, hx⟩
      replace hT := Below_then hT hx
      replace hr := hr.below hx
      clear hx
      go_wp2_with fail
      refine (K3'.out _ hr).mono ?_
      rintro e y4 ⟨rfl, hx⟩
      replace hT := Below_then hT hx
      replace hr := hr.below hx
      clear hx
      go_wp2_with fail
      refine (K4'.out _ hr).mono ?_
      rintro e y5 ⟨rfl, hx⟩
      replace hT := Below_then hT hx
      replace hr := hr.below hx
      clear hx
      go_wp2_with fail
      refine (K5'.out _ hr).mono ?_
      rintro e y6 ⟨rfl, hx⟩
      replace hT := Below_then hT hx
      replace hr := hr.below hx
      clear hx
      go_wp2_with fail
      refine (K6.out _ (HM.out.below hT)).mono ?_
      rintro e y7 ⟨v7, vs7, rfl, hG7, hx⟩
      replace hT := Below_then hT hx
      replace hr := hr.below hx
      clear hx
      obtain ⟨B7, d7, rfl, hr7⟩ := hG7.rd
      clear hG7
      go_wp2_with fail
      refine (K7.out _ (HI.out.below hT)).mono ?_
      rintro e y8 ⟨v8, vs8, rfl, hG8, hx⟩
      replace hT := Below_then hT hx
      replace hr := hr.below hx
      replace hr7 := hr7.below hx
      clear hx
      obtain ⟨B8, d8, rfl, hr8⟩ := hG8.rd
      clear hG8
      have hng : ¬ (s.size : Int) < (r.size : Int) := by omega
      go_wp2_with fail
      refine (rTable_same B7 A d7 c rows _ hr7 hr hs).mono ?_
      rintro e y9 ⟨rfl, hx⟩
      replace hT := Below_then hT hx
      replace hr := hr.below hx
      replace hr8 := hr8.below hx
      clear hx hr7
      go_wp2_with fail
      refine (rTable_same B8 A d8 c rows _ hr8 hr hs).mono ?_
      rintro e ya ⟨rfl, hx⟩
      replace hT := Below_then hT hx
      clear hx hr8 hr
      go_wp2_with fail
      refine (DrawParseLetters_any A0 n0 c0 _ (u0.below hT) hn).mono ?_
      rintro e z1 ⟨t, rfl, ht, hx⟩
      replace hT := Below_then hT hx
      clear hx
      obtain ⟨P, hPd⟩ : ∃ P, P = plRows t := ⟨_, rfl⟩
      obtain ⟨ok2, hok2⟩ : ∃ b, b = plOk t := ⟨_, rfl⟩
      have hPs : Small P := by rw [hPd]; exact pl_small t
      have K1 : ∀ w', MaxAt w' → Calls Tryz.prog 11 #[.string t] w' (GridOk w' P ok2) := fun w' h => by rw [hPd, hok2]; exact implParseLetters_any t w' h
      have K2 : ∀ w', Calls Tryz.prog 15 #[.string t] w' (GridOk w' P ok2) := fun w' => by rw [hPd, hok2]; exact specParseLetters_any t w'
      have K1' := Lib.hid K1
      have K2' := Lib.hid K2
      clear K1 K2 hPd hok2
      cases ok2
      all_goals
        go_wp2_with fail
        refine (K1'.out _ (HM.out.below hT)).mono ?_
        rintro e z2 ⟨v2, vs2, rfl, hG2, hx⟩
        replace hT := Below_then hT hx
        clear hx
        obtain ⟨B2, d2, rfl, hr2⟩ := hG2.rd
        clear hG2
        go_wp2_with fail
        refine (K2'.out _).mono ?_
        rintro e z3 ⟨v3, vs3, rfl, hG3, hx⟩
        replace hT := Below_then hT hx
        replace hr2 := hr2.below hx
        clear hx
        obtain ⟨B3, d3, rfl, hr3⟩ := hG3.rd
        clear hG3
        go_wp2_with fail
        refine (rTable_same B2 B3 d2 d3 P _ hr2 hr3 hPs).mono ?_
        rintro e z4 ⟨rfl, hx⟩
        replace hT := Below_then hT hx
        clear hx hr2 hr3
        go_wp2_with fail
        refine (DrawParseRuns_any A0 n0 c0 _ (u0.below hT) hn).mono ?_
        rintro e z5 ⟨t2, rfl, ht2, hx⟩
        replace hT := Below_then hT hx
        clear hx
        obtain ⟨P2, hPd2⟩ : ∃ P, P = prRows t2 := ⟨_, rfl⟩
        obtain ⟨ok3, hok3⟩ : ∃ b, b = prOk t2 := ⟨_, rfl⟩
        have hPs2 : Small P2 := by rw [hPd2]; exact pr_small t2
        have K3 : ∀ w', ItoaAt w' → Calls Tryz.prog 12 #[.string t2] w' (GridOk w' P2 ok3) := fun w' h => by rw [hPd2, hok3]; exact implParseRuns_any t2 w' h
        have K4 : ∀ w', Calls Tryz.prog 17 #[.string t2] w' (GridOk w' P2 ok3) := fun w' => by rw [hPd2, hok3]; exact specParseRuns_any t2 w' (by omega)
        have K3' := Lib.hid K3
        have K4' := Lib.hid K4
        clear K3 K4 hPd2 hok3
        cases ok3
        all_goals
          go_wp2_with fail
          refine (K3'.out _ (HI.out.below hT)).mono ?_
          rintro e z6 ⟨v6, vs6, rfl, hG6, hx⟩
          replace hT := Below_then hT hx
          clear hx
          obtain ⟨B6, d6, rfl, hr6⟩ := hG6.rd
          clear hG6
          go_wp2_with fail
          refine (K4'.out _).mono ?_
          rintro e z7 ⟨v7, vs7, rfl, hG7, hx⟩
          replace hT := Below_then hT hx
          replace hr6 := hr6.below hx
          clear hx
          obtain ⟨B7, d7, rfl, hr7⟩ := hG7.rd
          clear hG7
          go_wp2_with fail
          refine (rTable_same B6 B7 d6 d7 P2 _ hr6 hr7 hPs2).mono ?_
          rintro e z8 ⟨rfl, hx⟩
          replace hT := Below_then hT hx
          clear hx hr6 hr7
          go_wp2
          go_ret
          exact ⟨rfl, hT⟩
  · have hn2 : decide (65536 < n0) = true := by simp; omega
    have hT := Below.refl w.heap.size w
    go_enter Tryz.func3, Tryz.ntmps3
    go_wp2_with fail
    refine (rBig_any A0 n0 c0 _).mono ?_
    rw [hn2]
    rintro e w1 ⟨rfl, rfl⟩
    go_wp2
    go_ret
    exact ⟨rfl, hT⟩

/-! ### The row's step: written by a program of mine (frame.py) after the kit's shell -/
theorem laidOut : laidOutB Tryz.prog = true := by kernel_rfl
set_option maxRecDepth 100000 in
theorem lifted (os : Os) (started : os.Started) (H : Type) (enc : TypeId × Value → H) :
    ReturnsInHanded {} Tryz.checked os 3 .any (fun w args => (Rows.fnPicturesSpec.pre enc Tryz.prog Tryz.f3 [] false w args ∧ laidMetH Tryz.prog Rows.fnPicturesRow.laid w) ∧ sizedMet enc Tryz.prog Tryz.f3 (OpenSpec.ofChange Rows.fnPicturesSpec) false w args)
      (Rows.fnPicturesSpec.post enc Tryz.prog Tryz.f3 false true false false) := by
  refine returnsInHanded_of_calls (C := Tryz.checked) own started (by kernel_rfl)
    (ChangeSpec.witness_shaped (enc := enc) (C := Tryz.checked) (os := os) (X := fun w _ => laidMetH Tryz.prog Rows.fnPicturesRow.laid w) false (World.laidAll Tryz.prog os Rows.fnPicturesRow.laid) #[.slice none 0 0] 8 (World.laidAll_os _ _ _)
      (World.shaped_of_ZipB (by kernel_rfl) (by kernel_rfl)) (by kernel_rfl) (by kernel_rfl) (by kernel_rfl)
      (by rw [MakeChecks.laidMetH_plain _ _ _ (by kernel_rfl)]; exact laidMet_laidAll _ (by kernel_rfl) (by kernel_rfl))) ?_
  intro w1 tape inp _ hsh _ hok hpre _
  obtain ⟨_, _, _, fn', hfn', _, _, _, _, hv1⟩ := hok
  obtain rfl : fn' = Tryz.f3 := Option.some.inj (hfn'.symm.trans Tryz.func3)
  obtain ⟨⟨⟨ds, gs, before, hw1, hcnd⟩, hL⟩, -⟩ := hpre
  have hw2 := DataW.Whole.of_heap (w' := w1.forCall tape inp) (by rfl) hw1
  have htab0 := And.intro (maxAt_shaped hsh) (tabHere (laidMetH.of_heap (w := (w1.forCall tape inp).memory) (w' := w1.forCall tape inp) (by rfl) hL))
  suffices key : ∀ (W : World) (base : Nat) (args : Array Value), (MaxAt W ∧ Lib.TabIs Tryz.prog W "internal/strconv.uint64pow10" .u64 Lib.pow10Tab) → (∀ (j : Nat) t v, Tryz.f3.params[j]? = some t → args[j]? = some v → Value.okWide Tryz.prog W .any base t v) →
      DataW.Whole enc Tryz.prog Tryz.f3.params.toList Rows.fnPicturesSpec.vars false W args.toList ds gs before →
      Calls Tryz.prog 3 args W fun e W' => ∃ v, e = .returned v ∧ Rows.fnPicturesSpec.post enc Tryz.prog Tryz.f3 false true false false W args v W' from
    (key (w1.forCall tape inp) _ inp.args htab0 hv1 hw2).mono fun e W' ⟨v, he, hp⟩ => by subst he; exact ChangeSpec.post_blind hp
  clear htab0 hw2 hw1 hcnd hL hsh hv1 hfn'
  intro W base args htab hval0 hW
  have hval : ∀ (j : Nat) t v, Tryz.f3.params[j]? = some t → args[j]? = some v → Value.okWide Tryz.prog W .any base t v := hval0
  have hW' := hW
  obtain ⟨p, q, hA0, hV, rfl, hfz, hnd⟩ := hW
  have hA : DataW.TrodAll enc Tryz.prog W 0 (fun _ => true) true Tryz.f3.params.toList args.toList ds p := hA0
  rw [Tryz.params3] at hA hval
  obtain ⟨v0, vs0, d0, ds0, p0, q0, hargs, rfl, rfl, h0, r0⟩ := trodAll_cons hA
  obtain ⟨rfl, rfl, rfl⟩ := trodAll_nil r0
  obtain rfl : args = #[v0] := by cases args; simp_all
  obtain ⟨rfl, rfl⟩ := trodVars_none hV
  have k0 := h0
  have lt0 : ∀ x ∈ p0, x.block < W.heap.size := by obtain ⟨m, hm⟩ := k0; exact DataW.trod_lt m _ _ _ hm
  obtain ⟨A0, n0, c0, rfl, u0⟩ := openCode (hval 0 22 v0 rfl rfl) h0
  clear hA0 hval0
  refine (walk W A0 n0 c0 u0 htab).mono fun e W' ⟨he, bel⟩ => ?_
  subst he
  exact ⟨_, rfl, _, _, _, [], _, [], hW', trodAll_mk1 (shut_bool Tryz.underlying4 _), (trodAll_cons_mk (Below.trod laidOut (by kernel_rfl) (of_decide_eq_true (by kernel_rfl)) k0 bel lt0) trodAll_mk0), rfl, bel.frame _, fun h => by cases h⟩

theorem over : Rows.FnPicturesSaid :=
  OpenClaim.holds_of_wide 3 Tryz.f3 rfl rfl rfl rfl rfl rfl rfl ⟨rfl, rfl, rfl, rfl, rfl⟩ rfl rfl rfl rfl rfl (by kernel_rfl) Tryz.func3 (by kernel_rfl)
    (of_decide_eq_true (by kernel_rfl)) (by unfold Func.isWrapper; first | (rw [if_pos (by decide +kernel)]; kernel_rfl) | (rw [if_neg (by decide +kernel)]; exact ⟨rfl, rfl⟩))
    (fun os started H enc _ => lifted os started H enc)

theorem proved : Rows.FnPicturesCardSaid :=
  Claim7.holds_tied_plain_at .later [] Rows.fnPicturesCard.laidKinds true Rows.fnPicturesCard.stood.harness false
    over (fun _ h => by cases h) (by kernel_rfl) (fun _ h => by cases h) fnPictures_row_tie rfl ⟨rfl, rfl⟩ (by kernel_rfl) rfl
    (fun f fn hf hfn => by
      obtain rfl : f = 3 := Option.some.inj ((show Tryz.prog.funcNamed Rows.fnPicturesRow.func = some 3 by kernel_rfl).symm.trans hf) |>.symm
      obtain rfl : fn = Tryz.f3 := (Option.some.inj (Tryz.func3.symm.trans hfn)).symm
      exact ⟨by kernel_rfl, fun j t ht => by
        rw [Tryz.params3] at ht
        have hm : t ∈ ([22] : List TypeId) := by simpa using Array.mem_of_getElem? ht
        have hall : (([22] : List TypeId).all fun u => !Tryz.prog.wantsStandIn u) = true := by kernel_rfl
        exact (show Tryz.prog.wantsStandIn t = false by simpa using List.all_eq_true.1 hall t hm)⟩)
    (by kernel_rfl)
#print axioms proved

end Go.Proofs.YtenaadmifppphaaGreatDoor.fnPictures
