/- What the draws of pictures that may be invalid give. -/
import Derived.Test.YtlbggefccgpgaaaPicD
import Derived.Test.YtlbggefccgpgaaaAppAt
namespace Go.Proofs.Ytlbggefccgpgaaa
open Go.ChangeShapes Go.WideShapes Go.ChangeAt Go.RowKit
set_option linter.unusedVariables false
set_option linter.unusedSimpArgs false
/-- Behind an append to one row, and the store of what it gives. -/
theorem GG.repl {w w' : World} {B g n c k : Nat} {u u' : Value} {rows : List (List Int)} {vs : List Value} {row' : List Int} (h : GG w B (.slice (some ⟨g, 0, none⟩) n c) rows vs) (hn : rows.length = n) (hk : k < rows.length) (hu : vs[k]? = some u)
    (ho : OwnI w' B 3 u' row') (hg : w.grownBy w' u.ownBlock) (hat : u'.ownBlock = u.ownBlock ∨ u'.ownBlock = some w.heap.size) :
    GG (w'.setCell ⟨g, k, none⟩ u') B (.slice (some ⟨g, 0, none⟩) n c) (rows.set k row') (vs.set k u') := by
  subst hn
  have hout := World.ownsRow.kept h.out hg (ob_symm (h.sep k u hu))
  obtain ⟨h1, h2⟩ := World.ownsRow.stored hout k u'
  have hlv : k < vs.length := by rw [h.len]; exact hk
  have hgl := (h.outer g rfl).2
  have hug : u'.ownBlock = none ∨ u'.ownBlock ≠ some g := by
    rcases hat with e | e
    · rw [e]; exact h.sep k u hu
    · rw [e]; exact .inr (fun e2 => by injection e2 with e2; omega)
  have hxu : ∀ (i : Nat) (x : Value), i ≠ k → vs[i]? = some x → x.ownBlock = none ∨ x.ownBlock ≠ u.ownBlock := fun i x hi hx => by
    rcases Nat.lt_or_ge i k with hik | hik
    · exact h.apart i k x u hik hx hu
    · exact ob_symm (h.apart k i u x (by omega) hu hx)
  have hxu' : ∀ (i : Nat) (x : Value), i ≠ k → vs[i]? = some x → x.ownBlock = none ∨ x.ownBlock ≠ u'.ownBlock := fun i x hi hx => by
    rcases hat with e | e
    · rw [e]; exact hxu i x hi hx
    · rw [e]
      cases e3 : x.ownBlock with
      | none => exact .inl rfl
      | some b => exact .inr (fun e2 => by injection e2 with e2; have := (h.hi i x hx b e3).2; omega)
  refine ⟨by rw [List.length_set]; exact h1, fun i x r e1 e2 => ?_, fun i j x y hij e1 e2 => ?_, fun i x e1 => ?_⟩
  · rw [List.getElem?_set] at e1 e2
    by_cases e : k = i
    · subst e
      rw [if_pos rfl, if_pos hlv] at e1
      rw [if_pos rfl, if_pos hk] at e2
      injection e1 with e1
      injection e2 with e2
      subst e1 e2
      exact ho.other h2 hug
    · rw [if_neg e] at e1 e2
      exact ((h.own i x r e1 e2).other hg (hxu i x (fun e3 => e e3.symm) e1)).other h2 (h.sep i x e1)
  · rw [List.getElem?_set] at e1 e2
    by_cases e : k = i
    · subst e
      rw [if_pos rfl, if_pos hlv] at e1
      rw [if_neg (by omega)] at e2
      injection e1 with e1
      subst e1
      exact ob_symm (hxu' j y (by omega) e2)
    · rw [if_neg e] at e1
      by_cases e' : k = j
      · subst e'
        rw [if_pos rfl, if_pos hlv] at e2
        injection e2 with e2
        subst e2
        exact hxu' i x (by omega) e1
      · rw [if_neg e'] at e2
        exact h.apart i j x y hij e1 e2
  · rw [List.getElem?_set] at e1
    by_cases e : k = i
    · subst e
      rw [if_pos rfl, if_pos hlv] at e1
      injection e1 with e1
      subst e1
      exact hug
    · rw [if_neg e] at e1
      exact h.sep i x e1
/-- A picture that may be invalid: it stays while the cursor turns. -/
def AnyPic (w : World) (b k : Nat) (e : Ending) (w' : World) : Prop := ∃ A c rows, e = .returned (.slice A rows.length c) ∧ (∀ w'', w'.grownBy w'' (some b) → RdG w'' A rows) ∧ Small rows ∧ Cur w' b k ∧ w.grownBy w' (some b)
theorem GG.stays {w : World} {B b : Nat} {v : Value} {rows : List (List Int)} {vs : List Value} (h : GG w B v rows vs) (hb : b < B) : ∃ A c, v = .slice A rows.length c ∧ ∀ w'', w.grownBy w'' (some b) → RdG w'' A rows := by
  obtain ⟨A, c, rfl, -⟩ := h.rd
  refine ⟨A, c, rfl, fun w'' hg => ?_⟩
  obtain ⟨A2, c2, e, hr⟩ := (h.beside h.glt hg (fun k hk => by injection hk with hk; omega)).rd
  injection e with e
  subst e
  exact hr
theorem shp_small {rows : List (List Int)} (hl : rows.length ≤ 24) (h : ∀ (y : Nat) (row : List Int), rows[y]? = some row → row.length ≤ 21) : Small rows := ⟨by omega, fun r hr => by
  obtain ⟨i, hi⟩ := List.getElem?_of_mem hr
  have := h i r hi
  omega⟩
theorem RdG.tail {w : World} {g : Nat} {rows : List (List Int)} (h : RdG w (some ⟨g, 0, none⟩) rows) : RdG w (some ⟨g, 1, none⟩) (rows.drop 1) := by
  obtain ⟨hs, hl, hr, hv⟩ := h
  refine ⟨hs.drop 1, by rw [List.length_drop, List.length_drop, hl], ?_, fun i v row h1 h2 => ?_⟩
  · rcases hr with h0 | ⟨b, off, e, hc⟩
    · subst h0; exact .inl rfl
    · injection e with e
      injection e with e1 e2
      subst e1 e2
      refine .inr ⟨g, 1, rfl, fun i hi => ?_⟩
      rw [List.length_drop] at hi
      have := hc (1 + i) (by omega)
      rw [Nat.zero_add] at this
      rw [this]
      simp [Nat.add_comm]
  · rw [List.getElem?_drop] at h1 h2
    exact hv _ v row h1 h2
/-- The outer row's cells are what they were. -/
def SameO (w0 : World) (g : Nat) (w : World) : Prop := ∀ y : Nat, y < 24 → w.cell? ⟨g, y, none⟩ = w0.cell? ⟨g, y, none⟩
theorem SameO.at_ {w0 w : World} {g y : Nat} {u : Value} (h : SameO w0 g w) (hy : y < 24) (hu : w0.cell? ⟨g, y, none⟩ = some u) : w.cell? ⟨g, y, none⟩ = some u := (h y hy).trans hu
theorem grown_eq {w w' : World} {p : Addr} {row : Option Nat} (hg : w.grownBy w' row) (hlt : p.block < w.heap.size) (hne : row ≠ some p.block) : w'.cell? p = w.cell? p := World.cell?_of_block (hg.block _ hlt (fun e => hne e.symm))
theorem cell_farE {w : World} {p q : Addr} {v : Value} (hne : p.block ≠ q.block) : (w.setCell q v).cell? p = w.cell? p := World.cell?_of_block (heap_far _ _ _ _ hne)
theorem cell_far {w : World} {p q : Addr} {v u : Value} (h : w.cell? p = some u) (hne : p.block ≠ q.block) : (w.setCell q v).cell? p = some u := (cell_farE hne).trans h
theorem anyTincture_any (b k : Nat) (w : World) (h : Cur w b k) (hk : k ≤ 800000) : Calls Try.prog 29 #[.pointer (some ⟨b, 0, none⟩)] w (Drawn w b (k + 2) fun z => True) := by
  have hbl := h.lt
  go_enter Try.func29, Try.ntmps29
  go_wp2_with fail
  refine (one_any b k 16 _ h (by omega) (by omega) (by omega)).mono ?_
  rintro e w1 ⟨x, rfl, hc, hg⟩
  cases x
  · go_wp2_with fail
    refine (tincture_any b (k + 1) _ hc (by omega)).mono ?_
    rintro e w2 ⟨z, rfl, -, hc2, hg2⟩
    have hgg := grownBy_trans hg hg2
    go_wp2
    go_ret
    exact ⟨z, rfl, trivial, hc2, hgg⟩
  · go_wp2_with fail
    refine (among_new b (k + 1) 5 5 _ [0, 10, -1, 9, 1] 3 _ hc (by omega) (by omega) (by simp) (by omega) (by simp)).mono ?_
    rintro e w2 ⟨z, rfl, -, hc2, hg2⟩
    have hgg := grownBy_trans hg hg2
    go_wp2
    go_ret
    exact ⟨z, rfl, trivial, hc2, hgg⟩
set_option maxHeartbeats 8000000 in
set_option maxRecDepth 100000 in
theorem anyPicture_any (b k : Nat) (w : World) (h : Cur w b k) (hk : k ≤ 700000) : Calls Try.prog 33 #[.pointer (some ⟨b, 0, none⟩)] w (AnyPic w b (k + 15)) := by
  have hbl := h.lt
  go_enter Try.func33, Try.ntmps33
  go_wp2_with fail
  refine (picture_any b k _ h (by omega)).mono ?_
  rintro e w1 ⟨v, rows, vs, rfl, hG, hrl, hsh, hc, hg⟩
  obtain ⟨A0, cg, e0, -, hfm⟩ := ownsRow_form hG.out
  obtain ⟨g, rfl, hgB, hglt, hcg, -⟩ := hfm (by omega)
  rw [hrl] at e0
  subst e0
  have hcg2 : 24 ≤ cg := by omega
  have hcg1 : ¬ cg = 1 := by omega
  have HG := Lib.hid hG
  have HRL := Lib.hid hrl
  have HSH := Lib.hid hsh
  clear hG hrl hsh hfm hcg
  go_wp2_with fail
  refine (pick_any b (k + 12) 30 _ hc (by omega) (by omega) (by omega)).mono ?_
  rintro e w2 ⟨z, rfl, ⟨z0, z1⟩, hc2, hg2⟩
  have hG2 := HG.out.beside HG.out.glt hg2 (fun k hk => by injection hk with hk; omega)
  have hgr2 := grownBy_trans hg hg2
  have HG2 := Lib.hid hG2
  have HGR2 := Lib.hid hgr2
  have hs12 := hg2.size
  clear hG2 hgr2 hc hg hg2 HG
  have hz : z = 0 ∨ z = 1 ∨ z = 2 ∨ z = 3 ∨ 3 < z := by omega
  rcases hz with rfl | rfl | rfl | rfl | hz
  · clear z0 z1
    have hGX := HG2.out
    obtain ⟨g', c', A', n', c2, row', ev, hcl, hrow, hn', hvs, hown⟩ := hGX.at_ (k := 23) (by rw [HRL.out]; omega)
    injection ev with ev evn evc
    injection ev with ev
    injection ev with ev
    subst ev
    clear evn evc
    have hr20 := HSH.out 23 row' hrow
    rw [hr20] at hn'
    subst hn'
    obtain ⟨gr, cr2, er, hBr, hgr⟩ := hown.pos (by rw [hr20]; omega)
    rw [hr20] at er
    injection er with er1' er2' er3'
    subst er1' er3'
    clear er2'
    clear hGX
    have HC2 := Lib.hid hc2
    have hgz2 : w1.heap.size ≤ w2.heap.size := hs12
    have hgg : gr ≠ g := by
      rcases HG2.out.sep 23 _ hvs with e | e
      · cases e
      · exact fun e2 => e (by rw [e2]; rfl)
    clear hc2 hown
    go_wp2_with fail
    refine wp_region_noPanic ?_
    refine wp_region_held_drew (S := (fun w' => w'.cell? ⟨g, 23, none⟩ = some (.slice (some ⟨gr, 0, none⟩) 20 c2 : Value))) (by kernel_rfl) (show _ from hcl) (fun hHeld => ?_)
    refine wpAnyH_take (i := 0) (oi := _) (v := ?_) rfl (by kernel_rfl) (by kernel_rfl) (by kernel_rfl) (fun _ _ _ h => h) (Or.inl ⟨by rfl, ?_⟩) (by assumption) ?_
    rotate_left
    · intro w hSw; clear hSw; first | (go_simp; done) | (go_simp; with_reducible rfl)
    simp only [Act.put, List.getElem_toArray, List.getElem_cons_succ, List.getElem_cons_zero, List.setIfInBounds_toArray, List.set_cons_zero, List.set_cons_succ]
    refine wpAnyH_take (i := 1) (oi := _) (v := ?_) rfl (by kernel_rfl) (by kernel_rfl) (by kernel_rfl) (fun _ _ _ h => h) (Or.inl ⟨by rfl, ?_⟩) (by assumption) ?_
    rotate_left
    · intro w hSw; clear hSw; first | (go_simp; done) | (go_simp; with_reducible rfl)
    simp only [Act.put, List.getElem_toArray, List.getElem_cons_succ, List.getElem_cons_zero, List.setIfInBounds_toArray, List.set_cons_zero, List.set_cons_succ]
    refine wpAnyH_take (i := 2) (oi := _) (v := ?_) rfl (by kernel_rfl) (by kernel_rfl) (by kernel_rfl) (fun _ _ _ h => h) (Or.inl ⟨by rfl, ?_⟩) (by assumption) ?_
    rotate_left
    · intro w hSw; (try dsimp only at hSw); first | (go_simp; done) | (go_simp; with_reducible rfl)
    simp only [Act.put, List.getElem_toArray, List.getElem_cons_succ, List.getElem_cons_zero, List.setIfInBounds_toArray, List.set_cons_zero, List.set_cons_succ]
    refine wpAnyH_take (i := 3) (oi := _) (v := ?_) rfl (by kernel_rfl) (by kernel_rfl) (by kernel_rfl) (fun _ _ _ h => h) (Or.inl ⟨by rfl, ?_⟩) (by assumption) ?_
    rotate_left
    · intro w hSw; clear hSw; first | (go_simp; done) | (go_simp; with_reducible rfl)
    simp only [Act.put, List.getElem_toArray, List.getElem_cons_succ, List.getElem_cons_zero, List.setIfInBounds_toArray, List.set_cons_zero, List.set_cons_succ]
    refine wpAnyH_take (i := 5) (oi := _) (v := ?_) rfl (by kernel_rfl) (by kernel_rfl) (by kernel_rfl) (fun _ _ _ h => h) (Or.inl ⟨by rfl, ?_⟩) (by assumption) ?_
    rotate_left
    · intro w hSw; clear hSw; first | (go_simp; done) | (go_simp; with_reducible rfl)
    simp only [Act.put, List.getElem_toArray, List.getElem_cons_succ, List.getElem_cons_zero, List.setIfInBounds_toArray, List.set_cons_zero, List.set_cons_succ]
    refine wpAnyH_ready (rs := [4, 6]) (by kernel_rfl) (by simp) ?_
    refine AllReadyH.cons (o := _) rfl (fun K hK => ?_) (AllReadyH.cons (o := _) rfl (fun K hK => ?_) AllReadyH.nil)
    · go_simp
      refine (pick_any b (k + 13) 20 _ HC2.out.drew (by omega) (by omega) (by omega)).mono ?_
      rintro e wA ⟨zi, rfl, ⟨zi0, zi1⟩, hcA, hgA⟩
      go_wp2_with fail
      obtain ⟨x, rfl⟩ : ∃ x : Nat, zi = (x : Int) := ⟨zi.toNat, by omega⟩
      have hszA := hgA.size
      try simp only [World.size_alloc, World.size_drew] at hszA
      refine hK.out _ _ (grown_cell hHeld hgA (fun e => by injection e with e; dsimp only at e; omega)) (fun hHeld => ?_)
      clear hK K
      try simp only [Act.put, List.getElem_toArray, List.getElem_cons_succ, List.getElem_cons_zero, List.setIfInBounds_toArray, List.set_cons_zero, List.set_cons_succ]
      have hHA := hHeld
      refine wpAnyH_ready (rs := [6]) (by kernel_rfl) (by simp) ?_
      refine AllReadyH.cons (o := _) rfl (fun K hK => ?_) AllReadyH.nil
      go_simp
      refine hK.out _ _ (keep_cell hHeld (Below_al (Below.refl _ _) (.cells #[.int .i64 0, .int .i64 1] 3 (0, 0)))) (fun hHeld => ?_)
      clear hK K
      try simp only [Act.put, List.getElem_toArray, List.getElem_cons_succ, List.getElem_cons_zero, List.setIfInBounds_toArray, List.set_cons_zero, List.set_cons_succ]
      refine wpAnyH_ready (rs := [7]) (by kernel_rfl) (by simp) ?_
      refine AllReadyH.cons (o := _) rfl (fun K hK => ?_) AllReadyH.nil
      go_simp
      refine (among_new b (k + 14) 2 2 _ [0, 1] 3 _ hcA (by omega) (by omega) (by simp) (by omega) rfl).mono ?_
      rintro e wZ ⟨y, rfl, -, hcZ, hgZ0⟩
      go_wp2_with fail
      have hGA := (show GG w2.drew w.heap.size _ rows vs from HG2.out.below (Below.refl _ _).drew).beside HG2.out.glt hgA (fun k hk => by injection hk with hk; omega)
      have hGZ := hGA.beside hGA.glt hgZ0 (fun k hk => by injection hk with hk; omega)
      have hgZ := grownBy_trans (grownBy_trans HGR2.out (grownBy_undrew hgA)) hgZ0
      have hK9 := (grown_cell hHA hgZ0 (fun e => by injection e with e; dsimp only at e; omega))
      refine hK.out _ _ hK9 (fun hHeld => ?_)
      clear hK K hK9
      try simp only [Act.put, List.getElem_toArray, List.getElem_cons_succ, List.getElem_cons_zero, List.setIfInBounds_toArray, List.set_cons_zero, List.set_cons_succ]
      refine wpAnyH_take (i := 8) (oi := _) (v := ?_) rfl (by kernel_rfl) (by kernel_rfl) (by kernel_rfl) (fun _ _ _ h => h) (Or.inl ⟨by rfl, ?_⟩) (by assumption) ?_
      rotate_left
      · intro w hSw; clear hSw; first | (go_simp; done) | (go_simp; with_reducible rfl)
      simp only [Act.put, List.getElem_toArray, List.getElem_cons_succ, List.getElem_cons_zero, List.setIfInBounds_toArray, List.set_cons_zero, List.set_cons_succ]
      have hszZ := hgZ0.size
      try simp only [World.size_alloc, World.size_drew] at hszZ
      have hown2 : OwnI wZ w.heap.size 3 (.slice (some ⟨gr, 0, none⟩) row'.length c2) row' := by rw [hr20]; exact hGZ.own 23 _ _ hvs hrow
      have hcell := OwnI.cellAt hown2 x (by rw [hr20]; omega)
      have hfz := OwnI.frozenAt hown2 x
      have hset := OwnI.set hown2 x y
      rw [hr20] at hset
      have hsg := grownBy_set (World.grownBy.refl wZ (some gr)) x (.int .i64 y)
      have hU := hGZ.upd (k := 23) (by rw [HRL.out]; omega) hvs hset hsg
      have hc9 := hcZ.set ⟨gr, x, none⟩ (.int .i64 y) (by dsimp only; omega)
      have hgr9 := grownBy_new hgZ gr x (.int .i64 y) hBr
      have HU := Lib.hid hU
      have HC9 := Lib.hid hc9
      have HGR9 := Lib.hid hgr9
      have HR20 := Lib.hid hr20
      obtain ⟨old, hold⟩ : ∃ z, z = row'[x]'(by rw [hr20]; omega) := ⟨_, rfl⟩
      rw [← hold] at hcell
      clear hU hc9 hgr9 hold hown2 hset hsg hGZ hcZ hgZ hr20
      refine wpAnyH_ready (rs := [9]) (by kernel_rfl) (by simp) ?_
      refine AllReadyH.cons (o := _) rfl (fun K hK => ?_) AllReadyH.nil
      go_simp
      refine hK.out _ _ (cell_far hHeld (by dsimp only; omega)) (fun hHeld => ?_)
      clear hK K
      try simp only [Act.put, List.getElem_toArray, List.getElem_cons_succ, List.getElem_cons_zero, List.setIfInBounds_toArray, List.set_cons_zero, List.set_cons_succ]
      refine wpAnyH_done (by kernel_rfl) ?_ _
      refine NoPanic.normal ?_
      go_wp2
      go_ret
      obtain ⟨A9, c9, e9, hk9⟩ := HU.out.stays (b := b) (by omega)
      rw [List.length_set, HRL.out] at e9
      injection e9 with e91 e92 e93
      subst e91 e93
      exact ⟨_, _, _, by rw [List.length_set, HRL.out]; rfl, hk9, shp_small (by rw [List.length_set, HRL.out]; exact Nat.le_refl _) (fun y r hy => by
        have := HSH.out.set 23 (by rw [List.length_set]; exact HR20.out) y r hy
        omega), HC9.out.mono (by omega), HGR9.out⟩
    · go_simp
      refine hK.out _ _ (keep_cell hHeld (Below_al (Below.refl _ _) (.cells #[.int .i64 0, .int .i64 1] 3 (0, 0)))) (fun hHeld => ?_)
      clear hK K
      try simp only [Act.put, List.getElem_toArray, List.getElem_cons_succ, List.getElem_cons_zero, List.setIfInBounds_toArray, List.set_cons_zero, List.set_cons_succ]
      refine wpAnyH_ready (rs := [4]) (by kernel_rfl) (by simp) ?_
      refine AllReadyH.cons (o := _) rfl (fun K hK => ?_) AllReadyH.nil
      go_simp
      refine (pick_any b (k + 13) 20 _ (HC2.out.drew.alloc (.cells #[.int .i64 0, .int .i64 1] 3 (0, 0))) (by omega) (by omega) (by omega)).mono ?_
      rintro e wA ⟨zi, rfl, ⟨zi0, zi1⟩, hcA, hgA⟩
      go_wp2_with fail
      obtain ⟨x, rfl⟩ : ∃ x : Nat, zi = (x : Int) := ⟨zi.toNat, by omega⟩
      have hszA := hgA.size
      try simp only [World.size_alloc, World.size_drew] at hszA
      refine hK.out _ _ (grown_cell hHeld hgA (fun e => by injection e with e; dsimp only at e; omega)) (fun hHeld => ?_)
      clear hK K
      try simp only [Act.put, List.getElem_toArray, List.getElem_cons_succ, List.getElem_cons_zero, List.setIfInBounds_toArray, List.set_cons_zero, List.set_cons_succ]
      refine wpAnyH_ready (rs := [7]) (by kernel_rfl) (by simp) ?_
      refine AllReadyH.cons (o := _) rfl (fun K hK => ?_) AllReadyH.nil
      have hrd : RdI wA (some ⟨w2.heap.size, 0, none⟩) [0, 1] := (RdI.blk (zs := [0, 1]) (heap_hit w2.drew (.cells #[.int .i64 0, .int .i64 1] 3 (0, 0)) w2.heap.size rfl)).grown hgA (fun cb off e e2 => by cases e; injection e2 with e2; omega)
      go_simp
      refine (among_any b (k + 14) _ 2 2 [0, 1] _ hcA (by omega) hrd (by omega) (by simp) (by omega) (fun cb off e => by injection e with e; injection e with e; omega)).mono ?_
      rintro e wZ ⟨y, rfl, -, hcZ, hgZ0⟩
      go_wp2_with fail
      have hGA := ((show GG w2.drew w.heap.size _ rows vs from HG2.out.below (Below.refl _ _).drew).below (Below_al (Below.refl _ _) (.cells #[.int .i64 0, .int .i64 1] 3 (0, 0)))).beside HG2.out.glt hgA (fun k hk => by injection hk with hk; omega)
      have hGZ := hGA.beside hGA.glt hgZ0 (fun k hk => by injection hk with hk; omega)
      have hgZ := grownBy_trans (grownBy_trans (grownBy_below HGR2.out (Below_al ((Below.refl _ _).drew) (.cells #[.int .i64 0, .int .i64 1] 3 (0, 0)))) hgA) hgZ0
      have hK9 := (grown_cell hHeld hgZ0 (fun e => by injection e with e; dsimp only at e; omega))
      refine hK.out _ _ hK9 (fun hHeld => ?_)
      clear hK K hK9
      try simp only [Act.put, List.getElem_toArray, List.getElem_cons_succ, List.getElem_cons_zero, List.setIfInBounds_toArray, List.set_cons_zero, List.set_cons_succ]
      refine wpAnyH_take (i := 8) (oi := _) (v := ?_) rfl (by kernel_rfl) (by kernel_rfl) (by kernel_rfl) (fun _ _ _ h => h) (Or.inl ⟨by rfl, ?_⟩) (by assumption) ?_
      rotate_left
      · intro w hSw; clear hSw; first | (go_simp; done) | (go_simp; with_reducible rfl)
      simp only [Act.put, List.getElem_toArray, List.getElem_cons_succ, List.getElem_cons_zero, List.setIfInBounds_toArray, List.set_cons_zero, List.set_cons_succ]
      have hszZ := hgZ0.size
      try simp only [World.size_alloc, World.size_drew] at hszZ
      have hown2 : OwnI wZ w.heap.size 3 (.slice (some ⟨gr, 0, none⟩) row'.length c2) row' := by rw [hr20]; exact hGZ.own 23 _ _ hvs hrow
      have hcell := OwnI.cellAt hown2 x (by rw [hr20]; omega)
      have hfz := OwnI.frozenAt hown2 x
      have hset := OwnI.set hown2 x y
      rw [hr20] at hset
      have hsg := grownBy_set (World.grownBy.refl wZ (some gr)) x (.int .i64 y)
      have hU := hGZ.upd (k := 23) (by rw [HRL.out]; omega) hvs hset hsg
      have hc9 := hcZ.set ⟨gr, x, none⟩ (.int .i64 y) (by dsimp only; omega)
      have hgr9 := grownBy_new hgZ gr x (.int .i64 y) hBr
      have HU := Lib.hid hU
      have HC9 := Lib.hid hc9
      have HGR9 := Lib.hid hgr9
      have HR20 := Lib.hid hr20
      obtain ⟨old, hold⟩ : ∃ z, z = row'[x]'(by rw [hr20]; omega) := ⟨_, rfl⟩
      rw [← hold] at hcell
      clear hU hc9 hgr9 hold hown2 hset hsg hGZ hcZ hgZ hr20
      refine wpAnyH_ready (rs := [9]) (by kernel_rfl) (by simp) ?_
      refine AllReadyH.cons (o := _) rfl (fun K hK => ?_) AllReadyH.nil
      go_simp
      refine hK.out _ _ (cell_far hHeld (by dsimp only; omega)) (fun hHeld => ?_)
      clear hK K
      try simp only [Act.put, List.getElem_toArray, List.getElem_cons_succ, List.getElem_cons_zero, List.setIfInBounds_toArray, List.set_cons_zero, List.set_cons_succ]
      refine wpAnyH_done (by kernel_rfl) ?_ _
      refine NoPanic.normal ?_
      go_wp2
      go_ret
      obtain ⟨A9, c9, e9, hk9⟩ := HU.out.stays (b := b) (by omega)
      rw [List.length_set, HRL.out] at e9
      injection e9 with e91 e92 e93
      subst e91 e93
      exact ⟨_, _, _, by rw [List.length_set, HRL.out]; rfl, hk9, shp_small (by rw [List.length_set, HRL.out]; exact Nat.le_refl _) (fun y r hy => by
        have := HSH.out.set 23 (by rw [List.length_set]; exact HR20.out) y r hy
        omega), HC9.out.mono (by omega), HGR9.out⟩
  · clear z0 z1
    have HC2 := Lib.hid hc2
    have hgz2 : w1.heap.size ≤ w2.heap.size := hs12
    clear hc2
    go_wp2_with fail
    refine wp_region_noPanic ?_
    refine wp_region_held_drew (S := (SameO w2 g)) (by kernel_rfl) (fun y hy => rfl) (fun hHeld => ?_)
    refine wpAnyH_take (i := 0) (oi := _) (v := ?_) rfl (by kernel_rfl) (by kernel_rfl) (by kernel_rfl) (fun _ _ _ h => h) (Or.inl ⟨by rfl, ?_⟩) (by assumption) ?_
    rotate_left
    · intro w hSw; clear hSw; first | (go_simp; done) | (go_simp; with_reducible rfl)
    simp only [Act.put, List.getElem_toArray, List.getElem_cons_succ, List.getElem_cons_zero, List.setIfInBounds_toArray, List.set_cons_zero, List.set_cons_succ]
    refine wpAnyH_take (i := 1) (oi := _) (v := ?_) rfl (by kernel_rfl) (by kernel_rfl) (by kernel_rfl) (fun _ _ _ h => h) (Or.inl ⟨by rfl, ?_⟩) (by assumption) ?_
    rotate_left
    · intro w hSw; clear hSw; first | (go_simp; done) | (go_simp; with_reducible rfl)
    simp only [Act.put, List.getElem_toArray, List.getElem_cons_succ, List.getElem_cons_zero, List.setIfInBounds_toArray, List.set_cons_zero, List.set_cons_succ]
    refine wpAnyH_take (i := 5) (oi := _) (v := ?_) rfl (by kernel_rfl) (by kernel_rfl) (by kernel_rfl) (fun _ _ _ h => h) (Or.inl ⟨by rfl, ?_⟩) (by assumption) ?_
    rotate_left
    · intro w hSw; clear hSw; first | (go_simp; done) | (go_simp; with_reducible rfl)
    simp only [Act.put, List.getElem_toArray, List.getElem_cons_succ, List.getElem_cons_zero, List.setIfInBounds_toArray, List.set_cons_zero, List.set_cons_succ]
    refine wpAnyH_ready (rs := [2, 6]) (by kernel_rfl) (by simp) ?_
    refine AllReadyH.cons (o := _) rfl (fun K hK => ?_) (AllReadyH.cons (o := _) rfl (fun K hK => ?_) AllReadyH.nil)
    · go_simp
      refine (pick_any b (k + 13) 12 _ HC2.out.drew (by omega) (by omega) (by omega)).mono ?_
      rintro e wA ⟨zi, rfl, ⟨zi0, zi1⟩, hcA, hgA⟩
      go_wp2_with fail
      obtain ⟨x, rfl⟩ : ∃ x : Nat, zi = (x : Int) := ⟨zi.toNat, by omega⟩
      have hszA := hgA.size
      try simp only [World.size_alloc, World.size_drew] at hszA
      have x24 : (x : Int) < 24 := by omega
      have x24n : x < 24 := by omega
      have hGX := HG2.out
      obtain ⟨g', c', A', n', c2, row', ev, hcl, hrow, hn', hvs, hown⟩ := hGX.at_ (k := x) (by rw [HRL.out]; omega)
      injection ev with ev evn evc
      injection ev with ev
      injection ev with ev
      subst ev
      clear evn evc
      have hr20 := HSH.out x row' hrow
      rw [hr20] at hn'
      subst hn'
      obtain ⟨gr, cr2, er, hBr, hgr⟩ := hown.pos (by rw [hr20]; omega)
      rw [hr20] at er
      injection er with er1' er2' er3'
      subst er1' er3'
      clear er2'
      
      clear hGX
      have hgg : gr ≠ g := by
        rcases HG2.out.sep x _ hvs with e | e
        · cases e
        · exact fun e2 => e (by rw [e2]; rfl)
      refine hK.out _ _ (fun y hy => (grown_eq hgA (by dsimp only; (try simp only [World.size_alloc, World.size_drew]); omega) (fun e => by injection e with e; dsimp only at e; omega)).trans (hHeld y hy)) (fun hHeld => ?_)
      clear hK K
      try simp only [Act.put, List.getElem_toArray, List.getElem_cons_succ, List.getElem_cons_zero, List.setIfInBounds_toArray, List.set_cons_zero, List.set_cons_succ]
      refine wpAnyH_take (i := 3) (oi := _) (v := ?_) rfl (by kernel_rfl) (by kernel_rfl) (by kernel_rfl) (fun _ _ _ h => h) (Or.inl ⟨by rfl, ?_⟩) (by assumption) ?_
      rotate_left
      · intro w hSw; clear hSw; first | (go_simp; done) | (go_simp; with_reducible rfl)
      simp only [Act.put, List.getElem_toArray, List.getElem_cons_succ, List.getElem_cons_zero, List.setIfInBounds_toArray, List.set_cons_zero, List.set_cons_succ]
      refine wpAnyH_take (i := 4) (oi := _) (v := ?_) rfl (by kernel_rfl) (by kernel_rfl) (by kernel_rfl) (fun _ _ _ h => h) (Or.inl ⟨by rfl, ?_⟩) (by assumption) ?_
      rotate_left
      · intro w9 hSw; have h8 := hSw.at_ (y := x) (by omega) hcl; clear hSw; first | (go_simp; done) | (go_simp; with_reducible rfl)
      simp only [Act.put, List.getElem_toArray, List.getElem_cons_succ, List.getElem_cons_zero, List.setIfInBounds_toArray, List.set_cons_zero, List.set_cons_succ]
      have hHA := hHeld
      refine wpAnyH_ready (rs := [6]) (by kernel_rfl) (by simp) ?_
      refine AllReadyH.cons (o := _) rfl (fun K hK => ?_) AllReadyH.nil
      go_simp
      refine hK.out _ _ (fun y hy => ((Below_al (Below.refl wA.heap.size wA) (.cells #[.int .i64 0, .int .i64 10, .int .i64 (-1)] 3 (0, 0))).cell (p := ⟨g, y, none⟩) (by dsimp only; (try simp only [World.size_drew]); omega)).trans (hHeld y hy)) (fun hHeld => ?_)
      clear hK K
      try simp only [Act.put, List.getElem_toArray, List.getElem_cons_succ, List.getElem_cons_zero, List.setIfInBounds_toArray, List.set_cons_zero, List.set_cons_succ]
      refine wpAnyH_ready (rs := [7]) (by kernel_rfl) (by simp) ?_
      refine AllReadyH.cons (o := _) rfl (fun K hK => ?_) AllReadyH.nil
      go_simp
      refine (among_new b (k + 14) 3 3 _ [0, 10, -1] 3 _ hcA (by omega) (by omega) (by simp) (by omega) rfl).mono ?_
      rintro e wZ ⟨y, rfl, -, hcZ, hgZ0⟩
      go_wp2_with fail
      have hGA := (show GG w2.drew w.heap.size _ rows vs from HG2.out.below (Below.refl _ _).drew).beside HG2.out.glt hgA (fun k hk => by injection hk with hk; omega)
      have hGZ := hGA.beside hGA.glt hgZ0 (fun k hk => by injection hk with hk; omega)
      have hgZ := grownBy_trans (grownBy_trans HGR2.out (grownBy_undrew hgA)) hgZ0
      have hK9 := (fun y hy => (grown_eq hgZ0 (by dsimp only; (try simp only [World.size_alloc, World.size_drew]); omega) (fun e => by injection e with e; dsimp only at e; omega)).trans (hHA y hy))
      refine hK.out _ _ hK9 (fun hHeld => ?_)
      clear hK K hK9
      try simp only [Act.put, List.getElem_toArray, List.getElem_cons_succ, List.getElem_cons_zero, List.setIfInBounds_toArray, List.set_cons_zero, List.set_cons_succ]
      refine wpAnyH_take (i := 8) (oi := _) (v := ?_) rfl (by kernel_rfl) (by kernel_rfl) (by kernel_rfl) (fun _ _ _ h => h) (Or.inl ⟨by rfl, ?_⟩) (by assumption) ?_
      rotate_left
      · intro w hSw; clear hSw; first | (go_simp; done) | (go_simp; with_reducible rfl)
      simp only [Act.put, List.getElem_toArray, List.getElem_cons_succ, List.getElem_cons_zero, List.setIfInBounds_toArray, List.set_cons_zero, List.set_cons_succ]
      have hszZ := hgZ0.size
      try simp only [World.size_alloc, World.size_drew] at hszZ
      have hown2 : OwnI wZ w.heap.size 3 (.slice (some ⟨gr, 0, none⟩) row'.length c2) row' := by rw [hr20]; exact hGZ.own x _ _ hvs hrow
      have hcell := OwnI.cellAt hown2 3 (by rw [hr20]; omega)
      have hfz := OwnI.frozenAt hown2 3
      have hset := OwnI.set hown2 3 y
      rw [hr20] at hset
      have hsg := grownBy_set (World.grownBy.refl wZ (some gr)) 3 (.int .i64 y)
      have hU := hGZ.upd (k := x) (by rw [HRL.out]; omega) hvs hset hsg
      have hc9 := hcZ.set ⟨gr, 3, none⟩ (.int .i64 y) (by dsimp only; omega)
      have hgr9 := grownBy_new hgZ gr 3 (.int .i64 y) hBr
      have HU := Lib.hid hU
      have HC9 := Lib.hid hc9
      have HGR9 := Lib.hid hgr9
      have HR20 := Lib.hid hr20
      obtain ⟨old, hold⟩ : ∃ z, z = row'[3]'(by rw [hr20]; omega) := ⟨_, rfl⟩
      rw [← hold] at hcell
      clear hU hc9 hgr9 hold hown2 hset hsg hGZ hcZ hgZ hr20
      refine wpAnyH_ready (rs := [9]) (by kernel_rfl) (by simp) ?_
      refine AllReadyH.cons (o := _) rfl (fun K hK => ?_) AllReadyH.nil
      go_simp
      refine hK.out _ _ (fun y hy => (cell_farE (by dsimp only; omega)).trans (hHeld y hy)) (fun hHeld => ?_)
      clear hK K
      try simp only [Act.put, List.getElem_toArray, List.getElem_cons_succ, List.getElem_cons_zero, List.setIfInBounds_toArray, List.set_cons_zero, List.set_cons_succ]
      refine wpAnyH_done (by kernel_rfl) ?_ _
      refine NoPanic.normal ?_
      go_wp2
      go_ret
      obtain ⟨A9, c9, e9, hk9⟩ := HU.out.stays (b := b) (by omega)
      rw [List.length_set, HRL.out] at e9
      injection e9 with e91 e92 e93
      subst e91 e93
      exact ⟨_, _, _, by rw [List.length_set, HRL.out]; rfl, hk9, shp_small (by rw [List.length_set, HRL.out]; exact Nat.le_refl _) (fun y r hy => by
        have := HSH.out.set x (by rw [List.length_set]; exact HR20.out) y r hy
        omega), HC9.out.mono (by omega), HGR9.out⟩
    · go_simp
      refine hK.out _ _ (fun y hy => ((Below_al (Below.refl w2.drew.heap.size w2.drew) (.cells #[.int .i64 0, .int .i64 10, .int .i64 (-1)] 3 (0, 0))).cell (p := ⟨g, y, none⟩) (by dsimp only; (try simp only [World.size_drew]); omega)).trans (hHeld y hy)) (fun hHeld => ?_)
      clear hK K
      try simp only [Act.put, List.getElem_toArray, List.getElem_cons_succ, List.getElem_cons_zero, List.setIfInBounds_toArray, List.set_cons_zero, List.set_cons_succ]
      refine wpAnyH_ready (rs := [2]) (by kernel_rfl) (by simp) ?_
      refine AllReadyH.cons (o := _) rfl (fun K hK => ?_) AllReadyH.nil
      go_simp
      refine (pick_any b (k + 13) 12 _ (HC2.out.drew.alloc (.cells #[.int .i64 0, .int .i64 10, .int .i64 (-1)] 3 (0, 0))) (by omega) (by omega) (by omega)).mono ?_
      rintro e wA ⟨zi, rfl, ⟨zi0, zi1⟩, hcA, hgA⟩
      go_wp2_with fail
      obtain ⟨x, rfl⟩ : ∃ x : Nat, zi = (x : Int) := ⟨zi.toNat, by omega⟩
      have hszA := hgA.size
      try simp only [World.size_alloc, World.size_drew] at hszA
      have x24 : (x : Int) < 24 := by omega
      have x24n : x < 24 := by omega
      have hGX := HG2.out
      obtain ⟨g', c', A', n', c2, row', ev, hcl, hrow, hn', hvs, hown⟩ := hGX.at_ (k := x) (by rw [HRL.out]; omega)
      injection ev with ev evn evc
      injection ev with ev
      injection ev with ev
      subst ev
      clear evn evc
      have hr20 := HSH.out x row' hrow
      rw [hr20] at hn'
      subst hn'
      obtain ⟨gr, cr2, er, hBr, hgr⟩ := hown.pos (by rw [hr20]; omega)
      rw [hr20] at er
      injection er with er1' er2' er3'
      subst er1' er3'
      clear er2'
      
      clear hGX
      have hgg : gr ≠ g := by
        rcases HG2.out.sep x _ hvs with e | e
        · cases e
        · exact fun e2 => e (by rw [e2]; rfl)
      refine hK.out _ _ (fun y hy => (grown_eq hgA (by dsimp only; (try simp only [World.size_alloc, World.size_drew]); omega) (fun e => by injection e with e; dsimp only at e; omega)).trans (hHeld y hy)) (fun hHeld => ?_)
      clear hK K
      try simp only [Act.put, List.getElem_toArray, List.getElem_cons_succ, List.getElem_cons_zero, List.setIfInBounds_toArray, List.set_cons_zero, List.set_cons_succ]
      refine wpAnyH_take (i := 3) (oi := _) (v := ?_) rfl (by kernel_rfl) (by kernel_rfl) (by kernel_rfl) (fun _ _ _ h => h) (Or.inl ⟨by rfl, ?_⟩) (by assumption) ?_
      rotate_left
      · intro w hSw; clear hSw; first | (go_simp; done) | (go_simp; with_reducible rfl)
      simp only [Act.put, List.getElem_toArray, List.getElem_cons_succ, List.getElem_cons_zero, List.setIfInBounds_toArray, List.set_cons_zero, List.set_cons_succ]
      refine wpAnyH_take (i := 4) (oi := _) (v := ?_) rfl (by kernel_rfl) (by kernel_rfl) (by kernel_rfl) (fun _ _ _ h => h) (Or.inl ⟨by rfl, ?_⟩) (by assumption) ?_
      rotate_left
      · intro w9 hSw; have h8 := hSw.at_ (y := x) (by omega) hcl; clear hSw; first | (go_simp; done) | (go_simp; with_reducible rfl)
      simp only [Act.put, List.getElem_toArray, List.getElem_cons_succ, List.getElem_cons_zero, List.setIfInBounds_toArray, List.set_cons_zero, List.set_cons_succ]
      refine wpAnyH_ready (rs := [7]) (by kernel_rfl) (by simp) ?_
      refine AllReadyH.cons (o := _) rfl (fun K hK => ?_) AllReadyH.nil
      have hrd : RdI wA (some ⟨w2.heap.size, 0, none⟩) [0, 10, -1] := (RdI.blk (zs := [0, 10, -1]) (heap_hit w2.drew (.cells #[.int .i64 0, .int .i64 10, .int .i64 (-1)] 3 (0, 0)) w2.heap.size rfl)).grown hgA (fun cb off e e2 => by cases e; injection e2 with e2; omega)
      go_simp
      refine (among_any b (k + 14) _ 3 3 [0, 10, -1] _ hcA (by omega) hrd (by omega) (by simp) (by omega) (fun cb off e => by injection e with e; injection e with e; omega)).mono ?_
      rintro e wZ ⟨y, rfl, -, hcZ, hgZ0⟩
      go_wp2_with fail
      have hGA := ((show GG w2.drew w.heap.size _ rows vs from HG2.out.below (Below.refl _ _).drew).below (Below_al (Below.refl _ _) (.cells #[.int .i64 0, .int .i64 10, .int .i64 (-1)] 3 (0, 0)))).beside HG2.out.glt hgA (fun k hk => by injection hk with hk; omega)
      have hGZ := hGA.beside hGA.glt hgZ0 (fun k hk => by injection hk with hk; omega)
      have hgZ := grownBy_trans (grownBy_trans (grownBy_below HGR2.out (Below_al ((Below.refl _ _).drew) (.cells #[.int .i64 0, .int .i64 10, .int .i64 (-1)] 3 (0, 0)))) hgA) hgZ0
      have hK9 := (fun y hy => (grown_eq hgZ0 (by dsimp only; (try simp only [World.size_alloc, World.size_drew]); omega) (fun e => by injection e with e; dsimp only at e; omega)).trans (hHeld y hy))
      refine hK.out _ _ hK9 (fun hHeld => ?_)
      clear hK K hK9
      try simp only [Act.put, List.getElem_toArray, List.getElem_cons_succ, List.getElem_cons_zero, List.setIfInBounds_toArray, List.set_cons_zero, List.set_cons_succ]
      refine wpAnyH_take (i := 8) (oi := _) (v := ?_) rfl (by kernel_rfl) (by kernel_rfl) (by kernel_rfl) (fun _ _ _ h => h) (Or.inl ⟨by rfl, ?_⟩) (by assumption) ?_
      rotate_left
      · intro w hSw; clear hSw; first | (go_simp; done) | (go_simp; with_reducible rfl)
      simp only [Act.put, List.getElem_toArray, List.getElem_cons_succ, List.getElem_cons_zero, List.setIfInBounds_toArray, List.set_cons_zero, List.set_cons_succ]
      have hszZ := hgZ0.size
      try simp only [World.size_alloc, World.size_drew] at hszZ
      have hown2 : OwnI wZ w.heap.size 3 (.slice (some ⟨gr, 0, none⟩) row'.length c2) row' := by rw [hr20]; exact hGZ.own x _ _ hvs hrow
      have hcell := OwnI.cellAt hown2 3 (by rw [hr20]; omega)
      have hfz := OwnI.frozenAt hown2 3
      have hset := OwnI.set hown2 3 y
      rw [hr20] at hset
      have hsg := grownBy_set (World.grownBy.refl wZ (some gr)) 3 (.int .i64 y)
      have hU := hGZ.upd (k := x) (by rw [HRL.out]; omega) hvs hset hsg
      have hc9 := hcZ.set ⟨gr, 3, none⟩ (.int .i64 y) (by dsimp only; omega)
      have hgr9 := grownBy_new hgZ gr 3 (.int .i64 y) hBr
      have HU := Lib.hid hU
      have HC9 := Lib.hid hc9
      have HGR9 := Lib.hid hgr9
      have HR20 := Lib.hid hr20
      obtain ⟨old, hold⟩ : ∃ z, z = row'[3]'(by rw [hr20]; omega) := ⟨_, rfl⟩
      rw [← hold] at hcell
      clear hU hc9 hgr9 hold hown2 hset hsg hGZ hcZ hgZ hr20
      refine wpAnyH_ready (rs := [9]) (by kernel_rfl) (by simp) ?_
      refine AllReadyH.cons (o := _) rfl (fun K hK => ?_) AllReadyH.nil
      go_simp
      refine hK.out _ _ (fun y hy => (cell_farE (by dsimp only; omega)).trans (hHeld y hy)) (fun hHeld => ?_)
      clear hK K
      try simp only [Act.put, List.getElem_toArray, List.getElem_cons_succ, List.getElem_cons_zero, List.setIfInBounds_toArray, List.set_cons_zero, List.set_cons_succ]
      refine wpAnyH_done (by kernel_rfl) ?_ _
      refine NoPanic.normal ?_
      go_wp2
      go_ret
      obtain ⟨A9, c9, e9, hk9⟩ := HU.out.stays (b := b) (by omega)
      rw [List.length_set, HRL.out] at e9
      injection e9 with e91 e92 e93
      subst e91 e93
      exact ⟨_, _, _, by rw [List.length_set, HRL.out]; rfl, hk9, shp_small (by rw [List.length_set, HRL.out]; exact Nat.le_refl _) (fun y r hy => by
        have := HSH.out.set x (by rw [List.length_set]; exact HR20.out) y r hy
        omega), HC9.out.mono (by omega), HGR9.out⟩
  · have HC2 := Lib.hid hc2
    clear hc2
    go_wp2
    go_ret
    obtain ⟨A9, c9, e9, hk9⟩ := HG2.out.stays (b := b) (by omega)
    rw [HRL.out] at e9
    injection e9 with e91 e92 e93
    subst e91 e93
    have hl9 : (rows.drop 1).length = 23 := by rw [List.length_drop, HRL.out]
    exact ⟨_, _, _, by rw [hl9]; rfl, fun w'' hg => (hk9 w'' hg).tail, shp_small (by omega) (fun y r hy => by rw [List.getElem?_drop] at hy; have := HSH.out _ r hy; omega), HC2.out.mono (by omega), HGR2.out⟩
  · have HC2 := Lib.hid hc2
    clear hc2 z0 z1
    have hGX := HG2.out
    obtain ⟨g', c', A', n', c2, row', ev, hcl, hrow, hn', hvs, hown⟩ := hGX.at_ (k := 2) (by rw [HRL.out]; omega)
    injection ev with ev evn evc
    injection ev with ev
    injection ev with ev
    subst ev
    clear evn evc
    have hr20 := HSH.out 2 row' hrow
    rw [hr20] at hn'
    subst hn'
    obtain ⟨gr, cr2, er, hBr, hgr⟩ := hown.pos (by rw [hr20]; omega)
    rw [hr20] at er
    injection er with er1' er2' er3'
    subst er1' er3'
    clear er2'
    have hgg : gr ≠ g := by
      rcases HG2.out.sep 2 _ hvs with e | e
      · cases e
      · exact fun e2 => e (by rw [e2]; rfl)
    have hgz2 : w1.heap.size ≤ w2.heap.size := hs12
    have hl20 : row'.length ≤ 20 := by omega
    have HR20 := Lib.hid hr20
    have HOWN := Lib.hid hown
    have HVS := Lib.hid hvs
    have hGAL := HG2.out.below (Below_al (Below.refl _ _) (.cells #[.int .i64 1] 3))
    have HGAL := Lib.hid hGAL
    have hout := hGAL.out
    rw [HRL.out] at hout
    have HOUT := Lib.hid hout
    clear hout
    clear hr20 hown hvs hrow hGX hGAL
    go_wp2_with (first | (at_builtin; refine wp_appIat rfl _ _ rfl w.heap.size _ row' rfl (HOWN.out.alloc _) _ _ rfl (cell_of (heap_hit _ _ _ rfl) 0) (by omega) (by simp; omega) ?_; intro v9 w9 hO9 hG9 hL9 hA9; obtain ⟨A9, c9, e9, -⟩ := hO9.form; obtain ⟨n9, hn9⟩ : ∃ n9, n9 = (row' ++ [(1 : Int)]).length := ⟨_, rfl⟩; rw [← hn9] at e9; subst e9; have hc9 := grown_cell (keep_cell hcl (Below_al (Below.refl _ _) (.cells #[.int .i64 1] 3))) hG9 (fun e => by have e3 : some gr = some g := e; injection e3 with e3; omega); have hf9 := World.ownsRow.frozenAt (World.ownsRow.kept HOUT.out hG9 (.inr (fun e => by have e3 : some g = some gr := e; injection e3 with e3; omega))) 2; have HN9 := Lib.hid hn9; clear hn9) | fail)
    have hU := HGAL.out.repl HRL.out (k := 2) (by rw [HRL.out]; omega) HVS.out hO9 hG9 hA9
    have HU := Lib.hid hU
    have hG9' : (w2.alloc (.cells #[.int .i64 1] 3)).grownBy w9 (some gr) := hG9
    have hcu := ((HC2.out.alloc (.cells #[.int .i64 1] 3)).other hG9' (by omega)).set ⟨g, 2, none⟩ (.slice A9 n9 c9) (by dsimp only; omega)
    have hgu := grownBy_new (grownBy_fresh (grownBy_below HGR2.out (Below_al (Below.refl _ _) (.cells #[.int .i64 1] 3))) hG9' hBr) g 2 (.slice A9 n9 c9) hgB
    have HCU := Lib.hid hcu
    have HGU := Lib.hid hgu
    have hl9 : (row' ++ [(1 : Int)]).length = 21 := by rw [List.length_append, HR20.out]; rfl
    clear hU hcu hgu hc9 hf9 hO9 hG9 hL9 hA9 hG9'
    go_wp2
    go_ret
    obtain ⟨A8, c8, e8, hk8⟩ := HU.out.stays (b := b) (by omega)
    have hlr : (rows.set 2 (row' ++ [(1 : Int)])).length = 24 := by rw [List.length_set]; exact HRL.out
    rw [hlr] at e8
    injection e8 with e81 e82 e83
    subst e81 e83
    exact ⟨_, _, _, by rw [hlr]; rfl, hk8, shp_small (by omega) (fun y r hy => by
      rw [List.getElem?_set] at hy
      split at hy
      · split at hy
        · injection hy with hy
          rw [← hy]; omega
        · cases hy
      · have := HSH.out y r hy; omega), HCU.out.mono (by omega), HGU.out⟩
  · have b0 : (z == 0) = false := by rw [beq_eq_false_iff_ne]; omega
    have b1 : (z == 1) = false := by rw [beq_eq_false_iff_ne]; omega
    have b2 : (z == 2) = false := by rw [beq_eq_false_iff_ne]; omega
    have b3 : (z == 3) = false := by rw [beq_eq_false_iff_ne]; omega
    have HC2 := Lib.hid hc2
    clear hc2
    go_wp2
    go_ret
    obtain ⟨A9, c9, e9, hk9⟩ := HG2.out.stays (b := b) (by omega)
    rw [HRL.out] at e9
    injection e9 with e91 e92 e93
    subst e91 e93
    exact ⟨_, _, _, by rw [HRL.out]; rfl, hk9, shp_small (by have := HRL.out; omega) (fun y r hy => by have := HSH.out y r hy; omega), HC2.out.mono (by omega), HGR2.out⟩
end Go.Proofs.Ytlbggefccgpgaaa
