/- Contracts: Clusters of the program. -/
import Derived.Test.YtjodoljgpdbimaaClusM
import Derived.Test.YtjodoljgpdbimaaShelf
import Derived.Lib.OwnBridge
import Derived.Sort.OwnSorted
import Derived.Deep.RegionHeld3
import Derived.Laws.MakeOwn
namespace Go.Proofs.Ytjodoljgpdbimaa
open Go.ChangeShapes Go.WideShapes Go.ChangeAt Go.RowKit Go.Sort
set_option linter.unusedVariables false
set_option linter.unusedSimpArgs false
theorem OwnI.drew' {w : World} {B : Nat} {T : TypeId} {v : Value} {zs : List Int} (h : OwnI w B T v zs) : OwnI w.drew B T v zs := h.below (Below.refl _ _).drew
theorem OwnI.rdv' {w : World} {B c n : Nat} {T : TypeId} {A : Option Addr} {zs : List Int} (h : OwnI w B T (.slice A n c) zs) : RdI w A zs := by
  obtain ⟨A', c', e, hr⟩ := h.form
  injection e with e1 e2 e3
  rw [e1]
  exact hr
abbrev sortI (zs : List Int) : List Int := zs.mergeSort fun x y => decide (x ≤ y)
theorem sortI_any (B : Nat) (v : Value) (zs : List Int) (w : World) (h : OwnI w B 3 v zs) (hl : zs.length ≤ 1048576) :
    Calls Try.prog 38 #[v] w fun e w' => e = .returned (.tuple #[]) ∧ OwnI w' B 3 v (sortI zs) ∧ w.grownBy w' v.ownBlock := by
  have h0 := h
  have hsl : (sortI zs).length = zs.length := List.length_mergeSort _
  obtain ⟨hlen, ⟨h1, h2⟩ | ⟨g, cap, cur, rfl, hB, hh, hn, hm, hs, ht⟩⟩ := h
  · have hz : zs = [] := List.eq_nil_of_length_eq_zero h2
    subst h1 hz
    refine (Try.slices_Sort_int_none none 0 w).mono ?_
    rintro e w' ⟨rfl, rfl⟩
    exact ⟨rfl, by simpa [sortI] using h0, World.grownBy.refl _ _⟩
  · rw [Nat.mul_one] at ht
    have hH : Holds (Value.int .i64) w g 0 zs.toArray := by
      intro j hj
      have hj' : j < zs.length := by simpa using hj
      refine ⟨?_, by simp [World.frozen?, hh]⟩
      have h3 : (cur.toList.take zs.length)[j]? = (iv zs)[j]? := by rw [ht]
      rw [List.getElem?_take_of_lt hj', Array.getElem?_toList] at h3
      simp only [World.cell?, hh, Nat.zero_add]
      simp [h3, iv, hj']
    refine (Try.slices_Sort_int g 0 cap zs w hH (heap_lt hh) (by omega)).mono ?_
    rintro e w' ⟨rfl, n, os, rfl⟩
    have hgs := heap_lt hh
    have hcur : zs.length ≤ cur.size := by omega
    have hb : (grow (putRow (Value.int .i64) (Sort.ahead w n) g 0 (sortI zs).toArray) os).heap[g]? = some (.cells (putCells (Value.int .i64) 0 (sortI zs).toArray cur) 3 (0, 0)) := by
      rw [heap_grow_old _ _ (by simpa using hgs)]
      simp [putRow, mapBlock, Sort.ahead, Array.getElem?_modify, hh, onCells]
    refine ⟨rfl, ?_, ⟨rfl, rfl, rfl, by simp, fun k hk hne => ?_⟩⟩
    · refine ⟨by simp [iv, hsl], .inr ⟨g, cap, _, by rw [hsl], hB, hb, by rw [hsl]; exact hn, hm, by simp [putCells, hs], ?_⟩⟩
      rw [hsl, Nat.mul_one]
      apply List.ext_getElem?
      intro j
      by_cases hj : j < zs.length
      · rw [List.getElem?_take_of_lt hj, Array.getElem?_toList]
        simp [putCells, hj, iv, hsl, show j < cur.size by omega]
      · rw [List.getElem?_take_eq_none (by omega), List.getElem?_eq_none (by simp [iv, hsl]; omega)]
    · rw [heap_grow_old _ _ (by simpa using hk)]
      have : g ≠ k := fun e => hne (by simp [Value.ownBlock, e])
      simp [putRow, mapBlock, Sort.ahead, Array.getElem?_modify, this]
/-! ### What has been seen: a row of flags -/
def bs (n : Nat) (S : List Nat) : List Value := (List.range n).map fun j => .bool (decide (j ∈ S))
theorem bs_len (n : Nat) (S : List Nat) : (bs n S).length = n := by simp [bs]
theorem bs_at {n j : Nat} {S : List Nat} (h : j < n) : (bs n S)[j]? = some (.bool (decide (j ∈ S))) := by simp [bs, h]
theorem bs_eq {n : Nat} {S S' : List Nat} (h : ∀ j, j ∈ S ↔ j ∈ S') : bs n S = bs n S' := by
  unfold bs
  refine List.map_congr_left fun j _ => ?_
  rw [decide_eq_decide.2 (h j)]
theorem bs_set {n j : Nat} {S : List Nat} (h : j < n) : bs n (S ++ [j]) = (bs n S).take j ++ ([.bool true] ++ (bs n S).drop (j + 1)) := by
  apply List.ext_getElem?
  intro i
  by_cases hi : i < n
  · rw [bs_at hi]
    by_cases e : i < j
    · rw [List.getElem?_append_left (by rw [List.length_take, bs_len]; omega), List.getElem?_take_of_lt e, bs_at hi]
      have : i ≠ j := by omega
      simp [this]
    · have hl : ((bs n S).take j).length = j := by rw [List.length_take, bs_len]; omega
      rw [List.getElem?_append_right (by omega), hl]
      by_cases e2 : i = j
      · subst e2
        simp
      · obtain ⟨d, rfl⟩ : ∃ d, i = j + 1 + d := ⟨i - j - 1, by omega⟩
        rw [show j + 1 + d - j = d + 1 from by omega]
        simp only [List.singleton_append, List.getElem?_cons_succ, List.getElem?_drop]
        rw [bs_at hi]
        have : j + 1 + d ≠ j := by omega
        simp [this]
  · rw [List.getElem?_eq_none (by rw [bs_len]; omega), List.getElem?_eq_none]
    simp [bs_len]
    omega
structure Sn (w : World) (gs n : Nat) (S : List Nat) : Prop where
  blk : w.heap[gs]? = some (.cells (bs n S).toArray 4 (0, 0))
theorem Sn.below {w w' : World} {gs n : Nat} {S : List Nat} (h : Sn w gs n S) (hb : Below w.heap.size w w') : Sn w' gs n S := ⟨heap_keepB h.blk hb⟩
theorem Sn.other {w w' : World} {gs n : Nat} {S : List Nat} {row : Option Nat} (h : Sn w gs n S) (hg : w.grownBy w' row) (hne : row ≠ some gs) : Sn w' gs n S := ⟨heap_keepG h.blk hg hne⟩
theorem Sn.cell {w : World} {gs n j : Nat} {S : List Nat} (h : Sn w gs n S) (hj : j < n) : w.cell? ⟨gs, j, none⟩ = some (.bool (decide (j ∈ S))) := by
  rw [cell_of h.blk]
  simpa using bs_at hj
theorem Sn.cong {w : World} {gs n : Nat} {S S' : List Nat} (h : Sn w gs n S) (e : ∀ j, j ∈ S ↔ j ∈ S') : Sn w gs n S' := ⟨by rw [← bs_eq e]; exact h.blk⟩
theorem Sn.made {w : World} {n : Nat} : Sn (w.alloc (.cells (bs n []).toArray 4)) w.heap.size n [] := ⟨heap_hit _ _ _ rfl⟩
theorem makeB {n : Nat} (hn : n ≤ 16) (w : World) : (Instr.makeSlice 68 (.int .i64 (n : Int)) (.int .i64 (n : Int))).run Try.prog w = .ok (.slice (some ⟨w.heap.size, 0, none⟩) n n) (w.alloc (.cells (bs n []).toArray 4)) := by
  obtain ⟨i, hi, hz0, hz1, hz2⟩ := info_parts (show (Try.prog.info? 4).map (fun i => (i.zero, i.size, i.bytes)) = some (some (.bool false), 1, 1) by kernel_rfl)
  have h := run_make (P := Try.prog) w 68 4 i (.bool false) Try.underlying68 hi hz0 .i64 .i64 (n : Int) (n : Int) (by omega) (Int.le_refl _) (by rw [hz2]; omega) (by omega)
  rw [h]
  have : madeCells (Value.cells (.bool false)) ((n : Int).toNat * i.size) = (bs n []).toArray := by
    rw [hz1]
    apply Array.ext'
    simp [madeCells, bs, Value.cells, Array.toList_map, Array.toList_range]
    intro a _
    rw [Nat.mod_one]
    rfl
  rw [this]
  simp
section
variable {ops : Array Oper} {rest : List Oper} {op : Oper} {a : Act} {w : World} {Q : Exit → Act → World → Prop}
/-- A flag is raised. -/
theorem stB (hgd : op.guard = none) (x y : Operand) (ho : op.op = .store 4 x y) (gs j n : Nat) (hx : a.eval x = .pointer (some ⟨gs, j, none⟩)) (hy : a.eval y = .bool true) (S : List Nat) (hg : Sn w gs n S) (hj : j < n)
    (hK : ∀ w', Sn w' gs n (S ++ [j]) → w.grownBy w' (some gs) → wpList Try.prog ops Q rest (a.put op.dst undef) w') : wpList Try.prog ops Q (op :: rest) a w := by
  refine wpList_plain hgd fun _ hK2 => ?_
  have hb := hg.blk
  have e1 : bs n S = (bs n S).take j ++ ([Value.bool (decide (j ∈ S))] ++ (bs n S).drop (j + 1)) := by
    have hl : j < (bs n S).length := by rw [bs_len]; exact hj
    have h2 : (bs n S)[j] = .bool (decide (j ∈ S)) := by
      have := bs_at (S := S) hj
      rw [List.getElem?_eq_getElem hl] at this
      exact Option.some.inj this
    rw [← h2]
    simp
  have ho2 : ((bs n S).take j).length = j := by rw [List.length_take, bs_len]; omega
  rw [e1] at hb
  have hs := heap_setCells (g := gs) (T := 4) [.bool true] w ((bs n S).take j) [.bool (decide (j ∈ S))] ((bs n S).drop (j + 1)) rfl hb
  rw [← bs_set hj, ho2] at hs
  have hl : ((bs n S).take j ++ ([Value.bool (decide (j ∈ S))] ++ (bs n S).drop (j + 1))).toArray[j]? = some (Value.bool (decide (j ∈ S))) := by rw [← e1]; simpa using bs_at hj
  have hst : (storeVar 4 ⟨gs, j, none⟩ (.bool true)).run Try.prog w = .ok () (w.setCells gs j [.bool true]) := by
    have := run_storeCells_cells (P := Try.prog) gs j [.bool true] 0 w (fun i hi => by
      simp at hi
      subst hi
      simp only [World.cell?, hb, Nat.add_zero]
      rw [hl]
      rfl) (fun i hi => by simp [World.frozen?, hb]) (fun u hu => by simp at hu; subst hu; rfl)
    have hq : (Try.prog.info? 4).map (·.size) = some 1 := by kernel_rfl
    cases hq2 : Try.prog.info? 4 with
    | none => simp [hq2] at hq
    | some ii =>
      have hs' : ii.size = 1 := by simpa [hq2] using hq
      simp only [Nat.add_zero] at this
      simp [storeVar, sizeOf, typeInfo, hq2, Value.cells, hs', this]
  unfold Oper.wp execOp
  simp only [ho, hx, hy, Instr.storeAt, Instr.sureAddr, Sem.run_bind, Sem.run_pure, Result.andThen_ok, hst]
  exact hK2 _ _ (hK _ ⟨hs⟩ (grownBy_setCells _ _ (World.grownBy.refl _ _)))
end
/-- Within a group's search: what has been seen, the group, and that nothing else is touched. -/
structure InS (W0 : World) (gs n D : Nat) (S g : List Nat) (u : Value) (w : World) : Prop where
  seen : Sn w gs n (S ++ g)
  own : OwnI w D 3 u (natI g)
  grown : W0.grownBy w (some gs)
theorem InS.below {W0 w w' : World} {gs n D : Nat} {S g : List Nat} {u : Value} (h : InS W0 gs n D S g u w) (hb : Below w.heap.size w w') : InS W0 gs n D S g u w' := ⟨h.seen.below hb, h.own.below hb, grownBy_below h.grown hb⟩
theorem grownBy_far {W0 w w' : World} {gs : Nat} {row : Option Nat} (h : W0.grownBy w (some gs)) (hg : w.grownBy w' row) (hr : ∀ b, row = some b → W0.heap.size ≤ b) : W0.grownBy w' (some gs) :=
  ⟨hg.os.trans h.os, hg.tape.trans h.tape, hg.output.trans h.output, Nat.le_trans h.size hg.size, fun k hk hne => (hg.block k (by have := h.size; omega) (fun e => by have := hr k e.symm; omega)).trans (h.block k hk hne)⟩
theorem InS.app {W0 w w' w'' : World} {gs n D j : Nat} {S g : List Nat} {u u' : Value} (h : InS W0 gs n D S g u w) (ho : OwnI w' D 3 u' (natI (g ++ [j]))) (hg : w.grownBy w' u.ownBlock) (hs : Sn w'' gs n (S ++ g ++ [j])) (hg2 : w'.grownBy w'' (some gs)) (hD : gs < D) (hW : W0.heap.size ≤ D) : InS W0 gs n D S (g ++ [j]) u' w'' :=
  ⟨by rw [← List.append_assoc]; exact hs, ho.other hg2 (by
    cases e : u'.ownBlock with
    | none => exact .inl rfl
    | some b => exact .inr fun e2 => by injection e2 with e2; have := (ho.lt b e).1; omega), grownBy_trans (grownBy_far h.grown hg fun b hb => by have := (h.own.lt b hb).1; omega) hg2⟩
set_option maxHeartbeats 8000000 in
set_option maxRecDepth 20000 in
theorem implClusters_yes (A : Option Addr) (c : Nat) (rows : List ArmsD) (lim : Int) (w : World) (h : RdR 15 w A (acs rows)) (hl : rows.length ≤ 1048576) (ho : listOk 16 rows = true) (hlim : 0 ≤ lim ∧ lim ≤ 10) :
    Calls Try.prog 12 #[.slice A rows.length c, .int .i64 lim] w (GridOk w (clR rows lim rows.length) true) := by
  have KL := fun (w' : World) (hb : Below w.heap.size w w') => areArms_any A c 16 rows w' (h.below hb) hl (by omega)
  rw [ho] at KL
  have KL' := Lib.hid KL
  have KI := fun w => inside_any lim 0 10 w
  rw [decide_eq_true hlim] at KI
  have KI' := Lib.hid KI
  have HO := Lib.hid ho
  have HH := Lib.hid h
  have h16 := listOk_le ho
  have hmk := fun w => makeB h16 w
  clear KL KI ho h hlim
  go_enter Try.func12, Try.ntmps12
  go_wp2_with fail
  refine (KL'.out _ (Below.refl _ _)).mono ?_
  rintro e w1 ⟨rfl, hT1⟩
  have hw1 := hT1.size
  go_wp2_with (go_at_call 36; refine (KI'.out _).mono ?_; rintro e wq ⟨rfl, rfl⟩)
  go_cut [6, 7] (fun v1 v2 wx => ∃ (g0 gs : Nat), v1 = .slice (some ⟨g0, 0, none⟩) 0 0 ∧ v2 = .slice (some ⟨gs, 0, none⟩) rows.length rows.length ∧ GG wx w.heap.size (.slice (some ⟨g0, 0, none⟩) 0 0) [] [] ∧ Sn wx gs rows.length [] ∧ g0 ≠ gs ∧ w.heap.size ≤ gs ∧ Below w.heap.size w wx)
  case first =>
    refine wp_region_noPanic ?_
    refine wp_region_held_drew (S := (fun w' => Below w1.heap.size w1 w')) (by kernel_rfl) (Below.refl _ _).drew (fun hHeld => ?_)
    refine wpAnyH_take (i := 1) (oi := _) (v := ?_) rfl (by kernel_rfl) (by kernel_rfl) (by kernel_rfl) (fun _ _ _ h => h) (Or.inl ⟨by rfl, ?_⟩) (by assumption) ?_
    rotate_left
    · intro w hSw; clear hSw; first | (go_simp; done) | (go_simp; with_reducible rfl)
    simp only [Act.put, List.getElem_toArray, List.getElem_cons_succ, List.getElem_cons_zero, List.setIfInBounds_toArray, List.set_cons_zero, List.set_cons_succ]
    refine wpAnyH_take (i := 2) (oi := _) (v := ?_) rfl (by kernel_rfl) (by kernel_rfl) (by kernel_rfl) (fun _ _ _ h => h) (Or.inl ⟨by rfl, ?_⟩) (by assumption) ?_
    rotate_left
    · intro w hSw; clear hSw; first | (go_simp; done) | (go_simp; with_reducible rfl)
    simp only [Act.put, List.getElem_toArray, List.getElem_cons_succ, List.getElem_cons_zero, List.setIfInBounds_toArray, List.set_cons_zero, List.set_cons_succ]
    refine wpAnyH_ready (rs := [0, 3]) (by kernel_rfl) (by simp) ?_
    refine AllReadyH.cons (o := _) rfl (fun K hK => ?_) (AllReadyH.cons (o := _) rfl (fun K hK => ?_) AllReadyH.nil)
    · go_simp
      have hG0 := GG.none0 w1.drew w.heap.size w1.drew.heap.size rfl hw1
      refine hK.out _ _ (Below_then hHeld (Below_al (Below.refl _ _) (.cells #[] 50 (0, 0)))) (fun hHeld => ?_)
      clear hK K
      try simp only [Act.put, List.getElem_toArray, List.getElem_cons_succ, List.getElem_cons_zero, List.setIfInBounds_toArray, List.set_cons_zero, List.set_cons_succ]
      refine wpAnyH_take (i := 4) (oi := _) (v := ?_) rfl (by kernel_rfl) (by kernel_rfl) (by kernel_rfl) (fun _ _ _ h => h) (Or.inl ⟨by rfl, ?_⟩) (by assumption) ?_
      rotate_left
      · intro w hSw; clear hSw; first | (go_simp; done) | (go_simp; with_reducible rfl)
      simp only [Act.put, List.getElem_toArray, List.getElem_cons_succ, List.getElem_cons_zero, List.setIfInBounds_toArray, List.set_cons_zero, List.set_cons_succ]
      refine wpAnyH_ready (rs := [3]) (by kernel_rfl) (by simp) ?_
      refine AllReadyH.cons (o := _) rfl (fun K hK => ?_) AllReadyH.nil
      go_simp
      have hS0 : Sn ((w1.drew.alloc (.cells #[] 50 (0, 0))).alloc (.cells (bs rows.length []).toArray 4 (0, 0))) (w1.heap.size + 1) rows.length [] := ⟨heap_hit _ _ _ (by simp)⟩
      replace hG0 := hG0.below (Below_al (Below.refl _ _) (.cells (bs rows.length []).toArray 4 (0, 0)))
      refine hK.out _ _ (Below_then hHeld (Below_al (Below.refl _ _) (.cells (bs rows.length []).toArray 4 (0, 0)))) (fun hHeld => ?_)
      clear hK K
      try simp only [Act.put, List.getElem_toArray, List.getElem_cons_succ, List.getElem_cons_zero, List.setIfInBounds_toArray, List.set_cons_zero, List.set_cons_succ]
      refine wpAnyH_take (i := 5) (oi := _) (v := ?_) rfl (by kernel_rfl) (by kernel_rfl) (by kernel_rfl) (fun _ _ _ h => h) (Or.inl ⟨by rfl, ?_⟩) (by assumption) ?_
      rotate_left
      · intro w hSw; clear hSw; first | (go_simp; done) | (go_simp; with_reducible rfl)
      simp only [Act.put, List.getElem_toArray, List.getElem_cons_succ, List.getElem_cons_zero, List.setIfInBounds_toArray, List.set_cons_zero, List.set_cons_succ]
      refine wpAnyH_done (by kernel_rfl) ?_ _
      refine NoPanic.normal ?_
      go_wp2_with fail
      go_meet
      exact ⟨w1.heap.size, w1.heap.size + 1, rfl, rfl, hG0, hS0, by omega, by omega, Below_then hT1 (Below_al (Below_al (Below.refl _ _).drew _) _)⟩
    · go_simp
      have hS0 : Sn (w1.drew.alloc (.cells (bs rows.length []).toArray 4 (0, 0))) w1.heap.size rows.length [] := ⟨heap_hit _ _ _ (by simp)⟩
      refine hK.out _ _ (Below_then hHeld (Below_al (Below.refl _ _) (.cells (bs rows.length []).toArray 4 (0, 0)))) (fun hHeld => ?_)
      clear hK K
      try simp only [Act.put, List.getElem_toArray, List.getElem_cons_succ, List.getElem_cons_zero, List.setIfInBounds_toArray, List.set_cons_zero, List.set_cons_succ]
      refine wpAnyH_ready (rs := [0]) (by kernel_rfl) (by simp) ?_
      refine AllReadyH.cons (o := _) rfl (fun K hK => ?_) AllReadyH.nil
      go_simp
      have hG0 := GG.none0 (w1.drew.alloc (.cells (bs rows.length []).toArray 4 (0, 0))) w.heap.size (w1.heap.size + 1) (by simp) (by omega)
      replace hS0 := hS0.below (Below_al (Below.refl _ _) (.cells #[] 50 (0, 0)))
      refine hK.out _ _ (Below_then hHeld (Below_al (Below.refl _ _) (.cells #[] 50 (0, 0)))) (fun hHeld => ?_)
      clear hK K
      try simp only [Act.put, List.getElem_toArray, List.getElem_cons_succ, List.getElem_cons_zero, List.setIfInBounds_toArray, List.set_cons_zero, List.set_cons_succ]
      refine wpAnyH_take (i := 4) (oi := _) (v := ?_) rfl (by kernel_rfl) (by kernel_rfl) (by kernel_rfl) (fun _ _ _ h => h) (Or.inl ⟨by rfl, ?_⟩) (by assumption) ?_
      rotate_left
      · intro w hSw; clear hSw; first | (go_simp; done) | (go_simp; with_reducible rfl)
      simp only [Act.put, List.getElem_toArray, List.getElem_cons_succ, List.getElem_cons_zero, List.setIfInBounds_toArray, List.set_cons_zero, List.set_cons_succ]
      refine wpAnyH_take (i := 5) (oi := _) (v := ?_) rfl (by kernel_rfl) (by kernel_rfl) (by kernel_rfl) (fun _ _ _ h => h) (Or.inl ⟨by rfl, ?_⟩) (by assumption) ?_
      rotate_left
      · intro w hSw; clear hSw; first | (go_simp; done) | (go_simp; with_reducible rfl)
      simp only [Act.put, List.getElem_toArray, List.getElem_cons_succ, List.getElem_cons_zero, List.setIfInBounds_toArray, List.set_cons_zero, List.set_cons_succ]
      refine wpAnyH_done (by kernel_rfl) ?_ _
      refine NoPanic.normal ?_
      go_wp2_with fail
      go_meet
      exact ⟨w1.heap.size + 1, w1.heap.size, rfl, rfl, hG0, hS0, by omega, by omega, Below_then hT1 (Below_al (Below_al (Below.refl _ _).drew _) _)⟩
  case rest =>
  obtain ⟨g0, gs, rfl, rfl, hG, hS, hne, hgs, hT⟩ := hcut
  have hAP : Ap (.slice (some ⟨gs, 0, none⟩) rows.length rows.length) (.slice (some ⟨g0, 0, none⟩) 0 0) [] := ⟨.inr (by simp [Value.ownBlock]; omega), fun i u hu => by simp at hu⟩
  have hmk' := Lib.hid hmk
  clear hne hT1 hmk hw1
  go_wp2_with fail
  go_loopw [6, 26] (fun o i wr => ∃ (k : Nat) (v : Value) (vs : List Value), k ≤ rows.length ∧ i = .int .i64 k ∧ o = v ∧ GG wr w.heap.size v (clR rows lim k) vs ∧ Sn wr gs rows.length (clC rows lim k).2 ∧ Ap (.slice (some ⟨gs, 0, none⟩) rows.length rows.length) v vs ∧ Below w.heap.size w wr) (fun _ i _ => rows.length - (intOf i).toNat)
  case atStart => exact ⟨0, _, [], Nat.zero_le _, rfl, rfl, hG, hS, hAP, hT⟩
  case round =>
    clear hG hS hAP hT
    obtain ⟨k, v, vs, hk, rfl, hov, hG, hS, hAP, hb⟩ := hrel
    replace hov := hov.symm
    subst hov
    have HAP := Lib.hid hAP
    clear hAP
    by_cases hlt : k < rows.length
    · have i1 : (k : Int) < (rows.length : Int) := by omega
      have d1 : decide (k < rows.length) = true := by simpa using hlt
      have HK := Lib.hid hlt
      have hck := hS.cell hlt
      have hgsl := heap_lt hS.blk
      cases hm : decide (k ∈ (clC rows lim k).2)
      · rw [hm] at hck
        have hni : k ∉ (clC rows lim k).2 := of_decide_eq_false hm
        have HNI := Lib.hid hni
        clear hm
        have hO0 : OwnI (wr.alloc (.cells #[.int .i64 (k : Int)] 3)) wr.heap.size 3 (.slice (some ⟨wr.heap.size, 0, none⟩) 1 1) (natI [k]) := OwnI.blk (zs := natI [k]) (heap_hit _ _ _ rfl) (Nat.le_refl _) (by simp [maxLen, natI])
        have hS0 := hS.below (Below_al (Below.refl _ _) (.cells #[.int .i64 (k : Int)] 3))
        have hgr0 : wr.grownBy (wr.alloc (.cells #[.int .i64 (k : Int)] 3)) (some gs) := grownBy_of (Below_al (Below.refl _ _) _)
        have hI0 : ∀ w', Sn w' gs rows.length ((clC rows lim k).2 ++ [k]) → (wr.alloc (.cells #[.int .i64 (k : Int)] 3)).grownBy w' (some gs) → InS wr gs rows.length wr.heap.size (clC rows lim k).2 [k] (.slice (some ⟨wr.heap.size, 0, none⟩) 1 1) w' := fun w' hs' hg' => ⟨hs', hO0.other hg' (.inr (by simp [Value.ownBlock]; omega)), grownBy_trans hgr0 hg'⟩
        have HI0 := Lib.hid hI0
        clear hO0 hgr0 hI0
        go_wp2_with (first | (refine stB rfl _ _ rfl gs k rows.length rfl rfl (clC rows lim k).2 hS0 HK.out ?_; intro w3 hs3 hg3; have hI := HI0.out _ hs3 hg3; clear hs3 hg3 hS0 hck) | fail)
        obtain ⟨W0, hW0⟩ : ∃ W0, W0 = wr := ⟨_, rfl⟩
        obtain ⟨D, hD⟩ : ∃ D, D = wr.heap.size := ⟨_, rfl⟩
        have hGB : ∀ w', W0.grownBy w' (some gs) → GG w' w.heap.size v (clR rows lim k) vs ∧ Below w.heap.size w w' := fun w' hb' => by
          rw [hW0] at hb'
          exact ⟨hG.other HAP.out hb', hb.grown hb' hb.size (fun b e => by injection e with e; omega)⟩
        have hGV : ∀ b, v.ownBlock = some b → b < D := fun b hb' => by rw [hD]; exact (hG.outer b hb').2
        have hGU : ∀ (i : Nat) (u : Value), vs[i]? = some u → ∀ b, u.ownBlock = some b → b < D := fun i u hu b hb' => by rw [hD]; exact (hG.hi i u hu b hb').2
        have hrow : ∀ w', W0.grownBy w' (some gs) → RdR 15 w' A (acs rows) := fun w' hb' => HH.out.below (hGB w' hb').2
        have hws := hb.size
        have hgp0 := gp_start rows lim (S := (clC rows lim k).2) hlt hni
        have hDW : D = W0.heap.size := by rw [hD, hW0]
        have HDW := Lib.hid (Nat.le_of_eq hDW)
        have HDW' := Lib.hid (Nat.le_of_eq hDW.symm)
        rw [← hD] at hgsl hws hI
        rw [← hW0] at hI
        have HGS := Lib.hid hgsl
        have HWD := Lib.hid hws
        have HGB := Lib.hid hGB
        have HGV := Lib.hid hGV
        have HGU := Lib.hid hGU
        have HROW := Lib.hid hrow
        rw [← hD]
        clear hD hW0 hGB hGV hGU hrow hDW hG hb hni hlt HI0 hS hgsl hws
        go_wp2_with fail
        go_loopw [9, 10] (fun u i wi => ∃ (q : Nat) (g : List Nat) (u' : Value), q ≤ g.length ∧ i = .int .i64 q ∧ u = u' ∧ Gp rows lim (clC rows lim k).2 g q ∧ bfs rows.length (nearR rows lim) (clC rows lim k).2 (rows.length - q) q g = bfs rows.length (nearR rows lim) (clC rows lim k).2 rows.length 0 [k] ∧ InS W0 gs rows.length D (clC rows lim k).2 g u' wi) (fun _ i _ => rows.length - (intOf i).toNat)
        case atStart => exact ⟨0, [k], _, Nat.zero_le _, rfl, rfl, hgp0, rfl, hI⟩
        case round =>
          clear hI hgp0
          obtain ⟨q, g, u, hq, rfl, hou, hgp, hbf, hI⟩ := hrel
          replace hou := hou.symm
          subst hou
          have hgn := hgp.len
          have hgl : (natI g).length ≤ 16 := by rw [natI_len]; omega
          by_cases hlt2 : q < (natI g).length
          · have i2 : (q : Int) < ((natI g).length : Int) := by omega
            have d2 : decide (q < (natI g).length) = true := by simpa using hlt2
            have hqg : q < g.length := by rw [natI_len] at hlt2; exact hlt2
            obtain ⟨x, hx⟩ : ∃ x, g[q]? = some x := ⟨_, List.getElem?_eq_getElem hqg⟩
            have hxl : x < rows.length := hgp.lt x (List.mem_of_getElem? hx)
            have hqn : q < rows.length := by omega
            obtain ⟨ax, hax⟩ := arms_at hxl
            have HST := Lib.hid (bfs_step rows lim hgp hx hbf)
            have hGL : ∀ j, j < rows.length → (sw rows lim (clC rows lim k).2 x j g).length ≤ rows.length := fun j hj => by
              refine nodup_le rows.length _ (sweep_nodup _ _ _ _ _ hgp.nd) fun y hy => ?_
              rcases sweep_sub _ _ _ _ _ _ hy with h | h
              · exact hgp.lt y h
              · omega
            have HGL := Lib.hid hGL
            have HX := Lib.hid hx
            have HXL := Lib.hid hxl
            have HAX := Lib.hid hax
            obtain ⟨A2, c2, rfl, -⟩ := hI.own.form
            clear hGL hx hxl hax hgp hbf hqg hgn hgl
            go_wp2_with fail
            go_loopw [9, 46] (fun u i wi => ∃ (j : Nat) (u' : Value), j ≤ rows.length ∧ i = .int .i64 j ∧ u = u' ∧ InS W0 gs rows.length D (clC rows lim k).2 (sw rows lim (clC rows lim k).2 x j g) u' wi) (fun _ i _ => rows.length - (intOf i).toNat)
            case atStart => exact ⟨0, _, Nat.zero_le _, rfl, rfl, hI⟩
            case round =>
              clear hI
              obtain ⟨j, u, hj, rfl, hou, hI⟩ := hrel
              replace hou := hou.symm
              subst hou
              by_cases hlt3 : j < rows.length
              · have i3 : (j : Int) < (rows.length : Int) := by omega
                have d3 : decide (j < rows.length) = true := by simpa using hlt3
                obtain ⟨aj, haj⟩ := arms_at hlt3
                obtain ⟨G, hGd⟩ : ∃ G, G = sw rows lim (clC rows lim k).2 x j g := ⟨_, rfl⟩
                rw [← hGd] at hI
                have HG := Lib.hid hGd
                have hxq : G[q]? = some x := by rw [hGd]; exact sw_at rows lim HX.out
                have hGl : (natI G).length ≤ 1048576 := by
                  have := HGL.out j hlt3
                  rw [← hGd] at this
                  rw [natI_len]
                  omega
                have hqG : q < (natI G).length := by rw [natI_len]; exact (List.getElem?_eq_some_iff.1 hxq).1
                have iq : (q : Int) < ((natI G).length : Int) := by omega
                obtain ⟨gu, cu, rfl, hgu, hgu2⟩ := hI.own.pos (by omega)
                have hcq : wr.cell? ⟨gu, q, none⟩ = some (.int .i64 (x : Int)) := by
                  obtain ⟨b', o', e', hc', -⟩ := hI.own.rdv'.atv (natI_get hxq)
                  injection e' with e'
                  injection e' with e1 e2 _
                  subst e1
                  rw [← e2] at hc'
                  rw [Nat.zero_add] at hc'
                  exact hc'
                obtain ⟨b, off, hA, hrj, hbl⟩ := (HROW.out _ hI.grown).arms haj
                obtain ⟨b', off', hA', hrx, -⟩ := (HROW.out _ hI.grown).arms HAX.out
                have hAA := hA.symm.trans hA'
                injection hAA with hAA
                injection hAA with e1 e2 _
                subst e1 e2
                have ix : (x : Int) < (rows.length : Int) := by have := HXL.out; omega
                have HAJ := Lib.hid haj
                have hcs := hI.seen.cell hlt3
                rw [hA]
                have HA := Lib.hid hA
                clear hGd haj hxq hA hA'
                cases hm : decide (j ∈ (clC rows lim k).2 ++ G)
                · rw [hm] at hcs
                  have hnm := of_decide_eq_false hm
                  have hnS : j ∉ (clC rows lim k).2 := fun h => hnm (List.mem_append_left _ h)
                  have hnG : j ∉ G := fun h => hnm (List.mem_append_right _ h)
                  have HNS := Lib.hid hnS
                  have HNM := Lib.hid hnG
                  have KD := Lib.hid (fun w => differencesC ax aj w (listOk_at HO.out HAX.out) (listOk_at HO.out HAJ.out))
                  have hnr : nearR rows lim x j = decide (df ax aj ≤ lim) := nearR_at HAX.out HAJ.out
                  have HNR := Lib.hid hnr
                  obtain ⟨d, hd⟩ : ∃ d, d = df ax aj := ⟨_, rfl⟩
                  rw [← hd] at KD HNR
                  clear hm hnm hnS hnG hnr hd
                  cases hle : decide (d ≤ lim)
                  · have hsk := sw_skip rows lim (S := (clC rows lim k).2) (g := g) (x := x) (k := j) (.inr (.inr (by rw [HNR.out]; exact hle)))
                    have HSK := Lib.hid hsk
                    clear hsk
                    go_wp2_with fail
                    refine wp_region_noPanic ?_
                    refine wp_region_held_drew (S := (fun w' => w'.cell? ⟨gs, j, none⟩ = some (.bool false) ∧ w'.cell? ⟨gu, q, none⟩ = some (.int .i64 (x : Int)) ∧ w'.rangeAt b (off + x * 15) (ac ax) ∧ w'.rangeAt b (off + j * 15) (ac aj) ∧ InS W0 gs rows.length D (clC rows lim k).2 G (.slice (some ⟨gu, 0, none⟩) (natI G).length cu) w')) (by kernel_rfl) ⟨hcs, hcq, hrx, hrj, hI.below (Below.refl _ _).drew⟩ (fun hHeld => ?_)
                    refine wpAnyH_take (i := 0) (oi := _) (v := ?_) rfl (by kernel_rfl) (by kernel_rfl) (by kernel_rfl) (fun _ _ _ h => h) (Or.inl ⟨by rfl, ?_⟩) (by assumption) ?_
                    rotate_left
                    · intro w hSw; clear hSw; first | (go_simp; done) | (go_simp; with_reducible rfl)
                    simp only [Act.put, List.getElem_toArray, List.getElem_cons_succ, List.getElem_cons_zero, List.setIfInBounds_toArray, List.set_cons_zero, List.set_cons_succ]
                    refine wpAnyH_take (i := 1) (oi := _) (v := ?_) rfl (by kernel_rfl) (by kernel_rfl) (by kernel_rfl) (fun _ _ _ h => h) (Or.inl ⟨by rfl, ?_⟩) (by assumption) ?_
                    rotate_left
                    · intro w hSw; clear hSw; first | (go_simp; done) | (go_simp; with_reducible rfl)
                    simp only [Act.put, List.getElem_toArray, List.getElem_cons_succ, List.getElem_cons_zero, List.setIfInBounds_toArray, List.set_cons_zero, List.set_cons_succ]
                    refine wpAnyH_take (i := 2) (oi := _) (v := ?_) rfl (by kernel_rfl) (by kernel_rfl) (by kernel_rfl) (fun _ _ _ h => h) (Or.inl ⟨by rfl, ?_⟩) (by assumption) ?_
                    rotate_left
                    · intro w hSw; clear hSw; first | (go_simp; done) | (go_simp; with_reducible rfl)
                    simp only [Act.put, List.getElem_toArray, List.getElem_cons_succ, List.getElem_cons_zero, List.setIfInBounds_toArray, List.set_cons_zero, List.set_cons_succ]
                    refine wpAnyH_take (i := 3) (oi := _) (v := ?_) rfl (by kernel_rfl) (by kernel_rfl) (by kernel_rfl) (fun _ _ _ h => h) (Or.inl ⟨by rfl, ?_⟩) (by assumption) ?_
                    rotate_left
                    · intro w9 hSw; (try dsimp only at hSw); have hq9 := hSw.1; clear hSw; first | (go_simp; done) | (go_simp; with_reducible rfl)
                    simp only [Act.put, List.getElem_toArray, List.getElem_cons_succ, List.getElem_cons_zero, List.setIfInBounds_toArray, List.set_cons_zero, List.set_cons_succ]
                    refine wpAnyH_take (i := 4) (oi := _) (v := ?_) rfl (by kernel_rfl) (by kernel_rfl) (by kernel_rfl) (fun _ _ _ h => h) (Or.inl ⟨by rfl, ?_⟩) (by assumption) ?_
                    rotate_left
                    · intro w hSw; clear hSw; first | (go_simp; done) | (go_simp; with_reducible rfl)
                    simp only [Act.put, List.getElem_toArray, List.getElem_cons_succ, List.getElem_cons_zero, List.setIfInBounds_toArray, List.set_cons_zero, List.set_cons_succ]
                    refine wpAnyH_take (i := 5) (oi := _) (v := ?_) rfl (by kernel_rfl) (by kernel_rfl) (by kernel_rfl) (fun _ _ _ h => h) (Or.inl ⟨by rfl, ?_⟩) (by assumption) ?_
                    rotate_left
                    · intro w hSw; clear hSw; first | (go_simp; done) | (go_simp; with_reducible rfl)
                    simp only [Act.put, List.getElem_toArray, List.getElem_cons_succ, List.getElem_cons_zero, List.setIfInBounds_toArray, List.set_cons_zero, List.set_cons_succ]
                    refine wpAnyH_take (i := 6) (oi := _) (v := ?_) rfl (by kernel_rfl) (by kernel_rfl) (by kernel_rfl) (fun _ _ _ h => h) (Or.inl ⟨by rfl, ?_⟩) (by assumption) ?_
                    rotate_left
                    · intro w hSw; clear hSw; first | (go_simp; done) | (go_simp; with_reducible rfl)
                    simp only [Act.put, List.getElem_toArray, List.getElem_cons_succ, List.getElem_cons_zero, List.setIfInBounds_toArray, List.set_cons_zero, List.set_cons_succ]
                    refine wpAnyH_take (i := 7) (oi := _) (v := ?_) rfl (by kernel_rfl) (by kernel_rfl) (by kernel_rfl) (fun _ _ _ h => h) (Or.inl ⟨by rfl, ?_⟩) (by assumption) ?_
                    rotate_left
                    · intro w hSw; clear hSw; first | (go_simp; done) | (go_simp; with_reducible rfl)
                    simp only [Act.put, List.getElem_toArray, List.getElem_cons_succ, List.getElem_cons_zero, List.setIfInBounds_toArray, List.set_cons_zero, List.set_cons_succ]
                    refine wpAnyH_take (i := 8) (oi := _) (v := ?_) rfl (by kernel_rfl) (by kernel_rfl) (by kernel_rfl) (fun _ _ _ h => h) (Or.inl ⟨by rfl, ?_⟩) (by assumption) ?_
                    rotate_left
                    · intro w hSw; clear hSw; first | (go_simp; done) | (go_simp; with_reducible rfl)
                    simp only [Act.put, List.getElem_toArray, List.getElem_cons_succ, List.getElem_cons_zero, List.setIfInBounds_toArray, List.set_cons_zero, List.set_cons_succ]
                    refine wpAnyH_take (i := 9) (oi := _) (v := ?_) rfl (by kernel_rfl) (by kernel_rfl) (by kernel_rfl) (fun _ _ _ h => h) (Or.inl ⟨by rfl, ?_⟩) (by assumption) ?_
                    rotate_left
                    · intro w hSw; clear hSw; first | (go_simp; done) | (go_simp; with_reducible rfl)
                    simp only [Act.put, List.getElem_toArray, List.getElem_cons_succ, List.getElem_cons_zero, List.setIfInBounds_toArray, List.set_cons_zero, List.set_cons_succ]
                    refine wpAnyH_take (i := 10) (oi := _) (v := ?_) rfl (by kernel_rfl) (by kernel_rfl) (by kernel_rfl) (fun _ _ _ h => h) (Or.inl ⟨by rfl, ?_⟩) (by assumption) ?_
                    rotate_left
                    · intro w9 hSw; (try dsimp only at hSw); have hq9 := hSw.2.1; clear hSw; first | (go_simp; done) | (go_simp; with_reducible rfl)
                    simp only [Act.put, List.getElem_toArray, List.getElem_cons_succ, List.getElem_cons_zero, List.setIfInBounds_toArray, List.set_cons_zero, List.set_cons_succ]
                    refine wpAnyH_take (i := 11) (oi := _) (v := ?_) rfl (by kernel_rfl) (by kernel_rfl) (by kernel_rfl) (fun _ _ _ h => h) (Or.inl ⟨by rfl, ?_⟩) (by assumption) ?_
                    rotate_left
                    · intro w hSw; clear hSw; first | (go_simp; done) | (go_simp; with_reducible rfl)
                    simp only [Act.put, List.getElem_toArray, List.getElem_cons_succ, List.getElem_cons_zero, List.setIfInBounds_toArray, List.set_cons_zero, List.set_cons_succ]
                    refine wpAnyH_take (i := 12) (oi := _) (v := _) rfl ?g1_1 ?g2_1 ?g3_1 (fun _ _ _ h => h) (yieldsIf_load_mid ?g4_1 _ _ rfl b ?oo_1 ?g5_1 (ac ax) _ ?g6_1 Try.underlying31 rfl (info_ac ax)) ?g7_1 ?_
                    case g5_1 => rfl
                    case g1_1 => kernel_rfl
                    case g2_1 => kernel_rfl
                    case g3_1 => kernel_rfl
                    case g6_1 => exact (fun _ h => h.2.2.1)
                    case g4_1 => kernel_rfl
                    case g7_1 => assumption
                    simp only [Act.put, List.getElem_toArray, List.getElem_cons_succ, List.getElem_cons_zero, List.setIfInBounds_toArray, List.set_cons_zero, List.set_cons_succ]
                    refine wpAnyH_take (i := 13) (oi := _) (v := ?_) rfl (by kernel_rfl) (by kernel_rfl) (by kernel_rfl) (fun _ _ _ h => h) (Or.inl ⟨by rfl, ?_⟩) (by assumption) ?_
                    rotate_left
                    · intro w hSw; clear hSw; first | (go_simp; done) | (go_simp; with_reducible rfl)
                    simp only [Act.put, List.getElem_toArray, List.getElem_cons_succ, List.getElem_cons_zero, List.setIfInBounds_toArray, List.set_cons_zero, List.set_cons_succ]
                    refine wpAnyH_take (i := 14) (oi := _) (v := ?_) rfl (by kernel_rfl) (by kernel_rfl) (by kernel_rfl) (fun _ _ _ h => h) (Or.inl ⟨by rfl, ?_⟩) (by assumption) ?_
                    rotate_left
                    · intro w hSw; clear hSw; first | (go_simp; done) | (go_simp; with_reducible rfl)
                    simp only [Act.put, List.getElem_toArray, List.getElem_cons_succ, List.getElem_cons_zero, List.setIfInBounds_toArray, List.set_cons_zero, List.set_cons_succ]
                    refine wpAnyH_take (i := 15) (oi := _) (v := ?_) rfl (by kernel_rfl) (by kernel_rfl) (by kernel_rfl) (fun _ _ _ h => h) (Or.inl ⟨by rfl, ?_⟩) (by assumption) ?_
                    rotate_left
                    · intro w hSw; clear hSw; first | (go_simp; done) | (go_simp; with_reducible rfl)
                    simp only [Act.put, List.getElem_toArray, List.getElem_cons_succ, List.getElem_cons_zero, List.setIfInBounds_toArray, List.set_cons_zero, List.set_cons_succ]
                    refine wpAnyH_take (i := 16) (oi := _) (v := _) rfl ?g1_2 ?g2_2 ?g3_2 (fun _ _ _ h => h) (yieldsIf_load_mid ?g4_2 _ _ rfl b ?oo_2 ?g5_2 (ac aj) _ ?g6_2 Try.underlying31 rfl (info_ac aj)) ?g7_2 ?_
                    case g5_2 => rfl
                    case g1_2 => kernel_rfl
                    case g2_2 => kernel_rfl
                    case g3_2 => kernel_rfl
                    case g6_2 => exact (fun _ h => h.2.2.2.1)
                    case g4_2 => kernel_rfl
                    case g7_2 => assumption
                    simp only [Act.put, List.getElem_toArray, List.getElem_cons_succ, List.getElem_cons_zero, List.setIfInBounds_toArray, List.set_cons_zero, List.set_cons_succ]
                    refine wpAnyH_take (i := 18) (oi := _) (v := ?_) rfl (by kernel_rfl) (by kernel_rfl) (by kernel_rfl) (fun _ _ _ h => h) (Or.inl ⟨by rfl, ?_⟩) (by assumption) ?_
                    rotate_left
                    · intro w hSw; clear hSw; first | (go_simp; done) | (go_simp; with_reducible rfl)
                    simp only [Act.put, List.getElem_toArray, List.getElem_cons_succ, List.getElem_cons_zero, List.setIfInBounds_toArray, List.set_cons_zero, List.set_cons_succ]
                    refine wpAnyH_ready (rs := [17]) (by kernel_rfl) (by simp) ?_
                    refine AllReadyH.cons (o := _) rfl (fun K hK => ?_) AllReadyH.nil
                    (try dsimp only at hHeld)
                    go_simp
                    refine (KD.out _).mono ?_
                    rintro e wn ⟨rfl, hbn⟩
                    go_wp2_with fail
                    refine hK.out _ _ ⟨keep_cell hHeld.1 hbn, keep_cell hHeld.2.1 hbn, rangeAt_below hHeld.2.2.1 hbn, rangeAt_below hHeld.2.2.2.1 hbn, hHeld.2.2.2.2.below hbn⟩ (fun hHeld => ?_)
                    clear hK K hbn
                    try simp only [Act.put, List.getElem_toArray, List.getElem_cons_succ, List.getElem_cons_zero, List.setIfInBounds_toArray, List.set_cons_zero, List.set_cons_succ]
                    refine wpAnyH_take (i := 19) (oi := _) (v := ?_) rfl (by kernel_rfl) (by kernel_rfl) (by kernel_rfl) (fun _ _ _ h => h) (Or.inl ⟨by rfl, ?_⟩) (by assumption) ?_
                    rotate_left
                    · intro w hSw; clear hSw; first | (go_simp; done) | (go_simp; with_reducible rfl)
                    simp only [Act.put, List.getElem_toArray, List.getElem_cons_succ, List.getElem_cons_zero, List.setIfInBounds_toArray, List.set_cons_zero, List.set_cons_succ]
                    refine wpAnyH_take (i := 20) (oi := _) (v := ?_) rfl (by kernel_rfl) (by kernel_rfl) (by kernel_rfl) (fun _ _ _ h => h) (Or.inl ⟨by rfl, ?_⟩) (by assumption) ?_
                    rotate_left
                    · intro w hSw; clear hSw; first | (go_simp; done) | (go_simp; with_reducible rfl)
                    simp only [Act.put, List.getElem_toArray, List.getElem_cons_succ, List.getElem_cons_zero, List.setIfInBounds_toArray, List.set_cons_zero, List.set_cons_succ]
                    (try dsimp only at hHeld)
                    obtain ⟨-, -, -, -, hI3⟩ := hHeld
                    refine wpAnyH_done (by kernel_rfl) ?_ _
                    refine NoPanic.normal ?_
                    go_wp2_with fail
                    go_roundw
                    case rel => exact ⟨j + 1, _, by omega, by go_num, rfl, by rw [HSK.out, ← HG.out]; exact hI3⟩
                    case measure => simp [intOf]; omega
                  · have had := sw_add rows lim (S := (clC rows lim k).2) (g := g) (x := x) (k := j) HNS.out (by rw [← HG.out]; exact HNM.out) (by rw [HNR.out]; exact hle)
                    have HAD := Lib.hid had
                    clear had
                    go_wp2_with fail
                    refine wp_region_noPanic ?_
                    refine wp_region_held_drew (S := (fun w' => w'.cell? ⟨gs, j, none⟩ = some (.bool false) ∧ w'.cell? ⟨gu, q, none⟩ = some (.int .i64 (x : Int)) ∧ w'.rangeAt b (off + x * 15) (ac ax) ∧ w'.rangeAt b (off + j * 15) (ac aj) ∧ InS W0 gs rows.length D (clC rows lim k).2 G (.slice (some ⟨gu, 0, none⟩) (natI G).length cu) w')) (by kernel_rfl) ⟨hcs, hcq, hrx, hrj, hI.below (Below.refl _ _).drew⟩ (fun hHeld => ?_)
                    refine wpAnyH_take (i := 0) (oi := _) (v := ?_) rfl (by kernel_rfl) (by kernel_rfl) (by kernel_rfl) (fun _ _ _ h => h) (Or.inl ⟨by rfl, ?_⟩) (by assumption) ?_
                    rotate_left
                    · intro w hSw; clear hSw; first | (go_simp; done) | (go_simp; with_reducible rfl)
                    simp only [Act.put, List.getElem_toArray, List.getElem_cons_succ, List.getElem_cons_zero, List.setIfInBounds_toArray, List.set_cons_zero, List.set_cons_succ]
                    refine wpAnyH_take (i := 1) (oi := _) (v := ?_) rfl (by kernel_rfl) (by kernel_rfl) (by kernel_rfl) (fun _ _ _ h => h) (Or.inl ⟨by rfl, ?_⟩) (by assumption) ?_
                    rotate_left
                    · intro w hSw; clear hSw; first | (go_simp; done) | (go_simp; with_reducible rfl)
                    simp only [Act.put, List.getElem_toArray, List.getElem_cons_succ, List.getElem_cons_zero, List.setIfInBounds_toArray, List.set_cons_zero, List.set_cons_succ]
                    refine wpAnyH_take (i := 2) (oi := _) (v := ?_) rfl (by kernel_rfl) (by kernel_rfl) (by kernel_rfl) (fun _ _ _ h => h) (Or.inl ⟨by rfl, ?_⟩) (by assumption) ?_
                    rotate_left
                    · intro w hSw; clear hSw; first | (go_simp; done) | (go_simp; with_reducible rfl)
                    simp only [Act.put, List.getElem_toArray, List.getElem_cons_succ, List.getElem_cons_zero, List.setIfInBounds_toArray, List.set_cons_zero, List.set_cons_succ]
                    refine wpAnyH_take (i := 3) (oi := _) (v := ?_) rfl (by kernel_rfl) (by kernel_rfl) (by kernel_rfl) (fun _ _ _ h => h) (Or.inl ⟨by rfl, ?_⟩) (by assumption) ?_
                    rotate_left
                    · intro w9 hSw; (try dsimp only at hSw); have hq9 := hSw.1; clear hSw; first | (go_simp; done) | (go_simp; with_reducible rfl)
                    simp only [Act.put, List.getElem_toArray, List.getElem_cons_succ, List.getElem_cons_zero, List.setIfInBounds_toArray, List.set_cons_zero, List.set_cons_succ]
                    refine wpAnyH_take (i := 4) (oi := _) (v := ?_) rfl (by kernel_rfl) (by kernel_rfl) (by kernel_rfl) (fun _ _ _ h => h) (Or.inl ⟨by rfl, ?_⟩) (by assumption) ?_
                    rotate_left
                    · intro w hSw; clear hSw; first | (go_simp; done) | (go_simp; with_reducible rfl)
                    simp only [Act.put, List.getElem_toArray, List.getElem_cons_succ, List.getElem_cons_zero, List.setIfInBounds_toArray, List.set_cons_zero, List.set_cons_succ]
                    refine wpAnyH_take (i := 5) (oi := _) (v := ?_) rfl (by kernel_rfl) (by kernel_rfl) (by kernel_rfl) (fun _ _ _ h => h) (Or.inl ⟨by rfl, ?_⟩) (by assumption) ?_
                    rotate_left
                    · intro w hSw; clear hSw; first | (go_simp; done) | (go_simp; with_reducible rfl)
                    simp only [Act.put, List.getElem_toArray, List.getElem_cons_succ, List.getElem_cons_zero, List.setIfInBounds_toArray, List.set_cons_zero, List.set_cons_succ]
                    refine wpAnyH_take (i := 6) (oi := _) (v := ?_) rfl (by kernel_rfl) (by kernel_rfl) (by kernel_rfl) (fun _ _ _ h => h) (Or.inl ⟨by rfl, ?_⟩) (by assumption) ?_
                    rotate_left
                    · intro w hSw; clear hSw; first | (go_simp; done) | (go_simp; with_reducible rfl)
                    simp only [Act.put, List.getElem_toArray, List.getElem_cons_succ, List.getElem_cons_zero, List.setIfInBounds_toArray, List.set_cons_zero, List.set_cons_succ]
                    refine wpAnyH_take (i := 7) (oi := _) (v := ?_) rfl (by kernel_rfl) (by kernel_rfl) (by kernel_rfl) (fun _ _ _ h => h) (Or.inl ⟨by rfl, ?_⟩) (by assumption) ?_
                    rotate_left
                    · intro w hSw; clear hSw; first | (go_simp; done) | (go_simp; with_reducible rfl)
                    simp only [Act.put, List.getElem_toArray, List.getElem_cons_succ, List.getElem_cons_zero, List.setIfInBounds_toArray, List.set_cons_zero, List.set_cons_succ]
                    refine wpAnyH_take (i := 8) (oi := _) (v := ?_) rfl (by kernel_rfl) (by kernel_rfl) (by kernel_rfl) (fun _ _ _ h => h) (Or.inl ⟨by rfl, ?_⟩) (by assumption) ?_
                    rotate_left
                    · intro w hSw; clear hSw; first | (go_simp; done) | (go_simp; with_reducible rfl)
                    simp only [Act.put, List.getElem_toArray, List.getElem_cons_succ, List.getElem_cons_zero, List.setIfInBounds_toArray, List.set_cons_zero, List.set_cons_succ]
                    refine wpAnyH_take (i := 9) (oi := _) (v := ?_) rfl (by kernel_rfl) (by kernel_rfl) (by kernel_rfl) (fun _ _ _ h => h) (Or.inl ⟨by rfl, ?_⟩) (by assumption) ?_
                    rotate_left
                    · intro w hSw; clear hSw; first | (go_simp; done) | (go_simp; with_reducible rfl)
                    simp only [Act.put, List.getElem_toArray, List.getElem_cons_succ, List.getElem_cons_zero, List.setIfInBounds_toArray, List.set_cons_zero, List.set_cons_succ]
                    refine wpAnyH_take (i := 10) (oi := _) (v := ?_) rfl (by kernel_rfl) (by kernel_rfl) (by kernel_rfl) (fun _ _ _ h => h) (Or.inl ⟨by rfl, ?_⟩) (by assumption) ?_
                    rotate_left
                    · intro w9 hSw; (try dsimp only at hSw); have hq9 := hSw.2.1; clear hSw; first | (go_simp; done) | (go_simp; with_reducible rfl)
                    simp only [Act.put, List.getElem_toArray, List.getElem_cons_succ, List.getElem_cons_zero, List.setIfInBounds_toArray, List.set_cons_zero, List.set_cons_succ]
                    refine wpAnyH_take (i := 11) (oi := _) (v := ?_) rfl (by kernel_rfl) (by kernel_rfl) (by kernel_rfl) (fun _ _ _ h => h) (Or.inl ⟨by rfl, ?_⟩) (by assumption) ?_
                    rotate_left
                    · intro w hSw; clear hSw; first | (go_simp; done) | (go_simp; with_reducible rfl)
                    simp only [Act.put, List.getElem_toArray, List.getElem_cons_succ, List.getElem_cons_zero, List.setIfInBounds_toArray, List.set_cons_zero, List.set_cons_succ]
                    refine wpAnyH_take (i := 12) (oi := _) (v := _) rfl ?g1_1 ?g2_1 ?g3_1 (fun _ _ _ h => h) (yieldsIf_load_mid ?g4_1 _ _ rfl b ?oo_1 ?g5_1 (ac ax) _ ?g6_1 Try.underlying31 rfl (info_ac ax)) ?g7_1 ?_
                    case g5_1 => rfl
                    case g1_1 => kernel_rfl
                    case g2_1 => kernel_rfl
                    case g3_1 => kernel_rfl
                    case g6_1 => exact (fun _ h => h.2.2.1)
                    case g4_1 => kernel_rfl
                    case g7_1 => assumption
                    simp only [Act.put, List.getElem_toArray, List.getElem_cons_succ, List.getElem_cons_zero, List.setIfInBounds_toArray, List.set_cons_zero, List.set_cons_succ]
                    refine wpAnyH_take (i := 13) (oi := _) (v := ?_) rfl (by kernel_rfl) (by kernel_rfl) (by kernel_rfl) (fun _ _ _ h => h) (Or.inl ⟨by rfl, ?_⟩) (by assumption) ?_
                    rotate_left
                    · intro w hSw; clear hSw; first | (go_simp; done) | (go_simp; with_reducible rfl)
                    simp only [Act.put, List.getElem_toArray, List.getElem_cons_succ, List.getElem_cons_zero, List.setIfInBounds_toArray, List.set_cons_zero, List.set_cons_succ]
                    refine wpAnyH_take (i := 14) (oi := _) (v := ?_) rfl (by kernel_rfl) (by kernel_rfl) (by kernel_rfl) (fun _ _ _ h => h) (Or.inl ⟨by rfl, ?_⟩) (by assumption) ?_
                    rotate_left
                    · intro w hSw; clear hSw; first | (go_simp; done) | (go_simp; with_reducible rfl)
                    simp only [Act.put, List.getElem_toArray, List.getElem_cons_succ, List.getElem_cons_zero, List.setIfInBounds_toArray, List.set_cons_zero, List.set_cons_succ]
                    refine wpAnyH_take (i := 15) (oi := _) (v := ?_) rfl (by kernel_rfl) (by kernel_rfl) (by kernel_rfl) (fun _ _ _ h => h) (Or.inl ⟨by rfl, ?_⟩) (by assumption) ?_
                    rotate_left
                    · intro w hSw; clear hSw; first | (go_simp; done) | (go_simp; with_reducible rfl)
                    simp only [Act.put, List.getElem_toArray, List.getElem_cons_succ, List.getElem_cons_zero, List.setIfInBounds_toArray, List.set_cons_zero, List.set_cons_succ]
                    refine wpAnyH_take (i := 16) (oi := _) (v := _) rfl ?g1_2 ?g2_2 ?g3_2 (fun _ _ _ h => h) (yieldsIf_load_mid ?g4_2 _ _ rfl b ?oo_2 ?g5_2 (ac aj) _ ?g6_2 Try.underlying31 rfl (info_ac aj)) ?g7_2 ?_
                    case g5_2 => rfl
                    case g1_2 => kernel_rfl
                    case g2_2 => kernel_rfl
                    case g3_2 => kernel_rfl
                    case g6_2 => exact (fun _ h => h.2.2.2.1)
                    case g4_2 => kernel_rfl
                    case g7_2 => assumption
                    simp only [Act.put, List.getElem_toArray, List.getElem_cons_succ, List.getElem_cons_zero, List.setIfInBounds_toArray, List.set_cons_zero, List.set_cons_succ]
                    refine wpAnyH_take (i := 18) (oi := _) (v := ?_) rfl (by kernel_rfl) (by kernel_rfl) (by kernel_rfl) (fun _ _ _ h => h) (Or.inl ⟨by rfl, ?_⟩) (by assumption) ?_
                    rotate_left
                    · intro w hSw; clear hSw; first | (go_simp; done) | (go_simp; with_reducible rfl)
                    simp only [Act.put, List.getElem_toArray, List.getElem_cons_succ, List.getElem_cons_zero, List.setIfInBounds_toArray, List.set_cons_zero, List.set_cons_succ]
                    refine wpAnyH_ready (rs := [17]) (by kernel_rfl) (by simp) ?_
                    refine AllReadyH.cons (o := _) rfl (fun K hK => ?_) AllReadyH.nil
                    (try dsimp only at hHeld)
                    go_simp
                    refine (KD.out _).mono ?_
                    rintro e wn ⟨rfl, hbn⟩
                    go_wp2_with fail
                    refine hK.out _ _ ⟨keep_cell hHeld.1 hbn, keep_cell hHeld.2.1 hbn, rangeAt_below hHeld.2.2.1 hbn, rangeAt_below hHeld.2.2.2.1 hbn, hHeld.2.2.2.2.below hbn⟩ (fun hHeld => ?_)
                    clear hK K hbn
                    try simp only [Act.put, List.getElem_toArray, List.getElem_cons_succ, List.getElem_cons_zero, List.setIfInBounds_toArray, List.set_cons_zero, List.set_cons_succ]
                    refine wpAnyH_take (i := 19) (oi := _) (v := ?_) rfl (by kernel_rfl) (by kernel_rfl) (by kernel_rfl) (fun _ _ _ h => h) (Or.inl ⟨by rfl, ?_⟩) (by assumption) ?_
                    rotate_left
                    · intro w hSw; clear hSw; first | (go_simp; done) | (go_simp; with_reducible rfl)
                    simp only [Act.put, List.getElem_toArray, List.getElem_cons_succ, List.getElem_cons_zero, List.setIfInBounds_toArray, List.set_cons_zero, List.set_cons_succ]
                    refine wpAnyH_take (i := 20) (oi := _) (v := ?_) rfl (by kernel_rfl) (by kernel_rfl) (by kernel_rfl) (fun _ _ _ h => h) (Or.inl ⟨by rfl, ?_⟩) (by assumption) ?_
                    rotate_left
                    · intro w hSw; clear hSw; first | (go_simp; done) | (go_simp; with_reducible rfl)
                    simp only [Act.put, List.getElem_toArray, List.getElem_cons_succ, List.getElem_cons_zero, List.setIfInBounds_toArray, List.set_cons_zero, List.set_cons_succ]
                    (try dsimp only at hHeld)
                    obtain ⟨-, -, -, -, hI3⟩ := hHeld
                    refine wpAnyH_done (by kernel_rfl) ?_ _
                    refine NoPanic.normal ?_
                    have hs3 : D ≤ wn.heap.size := by have := hI3.grown.size; have := HDW.out; omega
                    have hlG : (natI G).length ≤ 1099511627776 := by omega
                    have hI4 := hI3.below (Below_al (Below.refl _ _) (.cells #[.int .i64 (j : Int)] 3))
                    have hneu := ownBlock_ne (b := gs) hI4.own (.inl HGS.out)
                    go_wp2_with (first | (at_builtin; refine wp_appI rfl _ _ rfl D _ (natI G) rfl hI4.own _ _ rfl (cell_of (heap_hit _ _ _ rfl) 0) ?c1 ?c2 ?_; rotate_left 2; intro v' w9 hO9 hG9 hL9; have hsn9 := hI4.seen.other hG9 hneu) | (refine stB rfl _ _ rfl gs j rows.length rfl rfl ((clC rows lim k).2 ++ G) hsn9 hlt3 ?_; intro w10 hs10 hg10; have hI10 := hI4.app (j := j) (by rw [natI_app]; exact hO9) hG9 hs10 hg10 HGS.out HDW'.out; clear hs10 hg10) | fail)
                    try (case c1 => exact hlG)
                    try (case c2 => (simp; omega))
                    clear hG9 hL9 hI3 hI4 hsn9 hO9
                    go_wp2
                    go_roundw
                    case rel => exact ⟨j + 1, _, by omega, by go_num, rfl, by rw [HAD.out, ← HG.out]; exact hI10⟩
                    case measure => simp [intOf]; omega
                · rw [hm] at hcs
                  have hsk := sw_skip rows lim (S := (clC rows lim k).2) (g := g) (x := x) (k := j) (by
                    rcases List.mem_append.1 (of_decide_eq_true hm) with h | h
                    · exact .inl h
                    · exact .inr (.inl (by rw [← HG.out]; exact h)))
                  have HSK := Lib.hid hsk
                  clear hm hsk
                  go_wp2_with fail
                  refine wp_region_noPanic ?_
                  refine wp_region_held_drew (S := (fun w' => w'.cell? ⟨gs, j, none⟩ = some (.bool true) ∧ w'.cell? ⟨gu, q, none⟩ = some (.int .i64 (x : Int)) ∧ w'.rangeAt b (off + x * 15) (ac ax) ∧ w'.rangeAt b (off + j * 15) (ac aj) ∧ InS W0 gs rows.length D (clC rows lim k).2 G (.slice (some ⟨gu, 0, none⟩) (natI G).length cu) w')) (by kernel_rfl) ⟨hcs, hcq, hrx, hrj, hI.below (Below.refl _ _).drew⟩ (fun hHeld => ?_)
                  refine wpAnyH_take (i := 0) (oi := _) (v := ?_) rfl (by kernel_rfl) (by kernel_rfl) (by kernel_rfl) (fun _ _ _ h => h) (Or.inl ⟨by rfl, ?_⟩) (by assumption) ?_
                  rotate_left
                  · intro w hSw; clear hSw; first | (go_simp; done) | (go_simp; with_reducible rfl)
                  simp only [Act.put, List.getElem_toArray, List.getElem_cons_succ, List.getElem_cons_zero, List.setIfInBounds_toArray, List.set_cons_zero, List.set_cons_succ]
                  refine wpAnyH_take (i := 1) (oi := _) (v := ?_) rfl (by kernel_rfl) (by kernel_rfl) (by kernel_rfl) (fun _ _ _ h => h) (Or.inl ⟨by rfl, ?_⟩) (by assumption) ?_
                  rotate_left
                  · intro w hSw; clear hSw; first | (go_simp; done) | (go_simp; with_reducible rfl)
                  simp only [Act.put, List.getElem_toArray, List.getElem_cons_succ, List.getElem_cons_zero, List.setIfInBounds_toArray, List.set_cons_zero, List.set_cons_succ]
                  refine wpAnyH_take (i := 2) (oi := _) (v := ?_) rfl (by kernel_rfl) (by kernel_rfl) (by kernel_rfl) (fun _ _ _ h => h) (Or.inl ⟨by rfl, ?_⟩) (by assumption) ?_
                  rotate_left
                  · intro w hSw; clear hSw; first | (go_simp; done) | (go_simp; with_reducible rfl)
                  simp only [Act.put, List.getElem_toArray, List.getElem_cons_succ, List.getElem_cons_zero, List.setIfInBounds_toArray, List.set_cons_zero, List.set_cons_succ]
                  refine wpAnyH_take (i := 3) (oi := _) (v := ?_) rfl (by kernel_rfl) (by kernel_rfl) (by kernel_rfl) (fun _ _ _ h => h) (Or.inl ⟨by rfl, ?_⟩) (by assumption) ?_
                  rotate_left
                  · intro w9 hSw; (try dsimp only at hSw); have hq9 := hSw.1; clear hSw; first | (go_simp; done) | (go_simp; with_reducible rfl)
                  simp only [Act.put, List.getElem_toArray, List.getElem_cons_succ, List.getElem_cons_zero, List.setIfInBounds_toArray, List.set_cons_zero, List.set_cons_succ]
                  refine wpAnyH_take (i := 4) (oi := _) (v := ?_) rfl (by kernel_rfl) (by kernel_rfl) (by kernel_rfl) (fun _ _ _ h => h) (Or.inl ⟨by rfl, ?_⟩) (by assumption) ?_
                  rotate_left
                  · intro w hSw; clear hSw; first | (go_simp; done) | (go_simp; with_reducible rfl)
                  simp only [Act.put, List.getElem_toArray, List.getElem_cons_succ, List.getElem_cons_zero, List.setIfInBounds_toArray, List.set_cons_zero, List.set_cons_succ]
                  refine wpAnyH_take (i := 5) (oi := _) (v := ?_) rfl (by kernel_rfl) (by kernel_rfl) (by kernel_rfl) (fun _ _ _ h => h) (Or.inl ⟨by rfl, ?_⟩) (by assumption) ?_
                  rotate_left
                  · intro w hSw; clear hSw; first | (go_simp; done) | (go_simp; with_reducible rfl)
                  simp only [Act.put, List.getElem_toArray, List.getElem_cons_succ, List.getElem_cons_zero, List.setIfInBounds_toArray, List.set_cons_zero, List.set_cons_succ]
                  refine wpAnyH_take (i := 6) (oi := _) (v := _) rfl (by kernel_rfl) (by kernel_rfl) (by kernel_rfl) (fun _ _ _ h => h) (Or.inr ⟨by kernel_rfl, rfl⟩) (by assumption) ?_
                  simp only [Act.put, List.getElem_toArray, List.getElem_cons_succ, List.getElem_cons_zero, List.setIfInBounds_toArray, List.set_cons_zero, List.set_cons_succ]
                  refine wpAnyH_take (i := 7) (oi := _) (v := _) rfl (by kernel_rfl) (by kernel_rfl) (by kernel_rfl) (fun _ _ _ h => h) (Or.inr ⟨by kernel_rfl, rfl⟩) (by assumption) ?_
                  simp only [Act.put, List.getElem_toArray, List.getElem_cons_succ, List.getElem_cons_zero, List.setIfInBounds_toArray, List.set_cons_zero, List.set_cons_succ]
                  refine wpAnyH_take (i := 8) (oi := _) (v := _) rfl (by kernel_rfl) (by kernel_rfl) (by kernel_rfl) (fun _ _ _ h => h) (Or.inr ⟨by kernel_rfl, rfl⟩) (by assumption) ?_
                  simp only [Act.put, List.getElem_toArray, List.getElem_cons_succ, List.getElem_cons_zero, List.setIfInBounds_toArray, List.set_cons_zero, List.set_cons_succ]
                  refine wpAnyH_take (i := 9) (oi := _) (v := _) rfl (by kernel_rfl) (by kernel_rfl) (by kernel_rfl) (fun _ _ _ h => h) (Or.inr ⟨by kernel_rfl, rfl⟩) (by assumption) ?_
                  simp only [Act.put, List.getElem_toArray, List.getElem_cons_succ, List.getElem_cons_zero, List.setIfInBounds_toArray, List.set_cons_zero, List.set_cons_succ]
                  refine wpAnyH_take (i := 10) (oi := _) (v := _) rfl (by kernel_rfl) (by kernel_rfl) (by kernel_rfl) (fun _ _ _ h => h) (Or.inr ⟨by kernel_rfl, rfl⟩) (by assumption) ?_
                  simp only [Act.put, List.getElem_toArray, List.getElem_cons_succ, List.getElem_cons_zero, List.setIfInBounds_toArray, List.set_cons_zero, List.set_cons_succ]
                  refine wpAnyH_take (i := 11) (oi := _) (v := _) rfl (by kernel_rfl) (by kernel_rfl) (by kernel_rfl) (fun _ _ _ h => h) (Or.inr ⟨by kernel_rfl, rfl⟩) (by assumption) ?_
                  simp only [Act.put, List.getElem_toArray, List.getElem_cons_succ, List.getElem_cons_zero, List.setIfInBounds_toArray, List.set_cons_zero, List.set_cons_succ]
                  refine wpAnyH_take (i := 12) (oi := _) (v := _) rfl (by kernel_rfl) (by kernel_rfl) (by kernel_rfl) (fun _ _ _ h => h) (Or.inr ⟨by kernel_rfl, rfl⟩) (by assumption) ?_
                  simp only [Act.put, List.getElem_toArray, List.getElem_cons_succ, List.getElem_cons_zero, List.setIfInBounds_toArray, List.set_cons_zero, List.set_cons_succ]
                  refine wpAnyH_take (i := 13) (oi := _) (v := _) rfl (by kernel_rfl) (by kernel_rfl) (by kernel_rfl) (fun _ _ _ h => h) (Or.inr ⟨by kernel_rfl, rfl⟩) (by assumption) ?_
                  simp only [Act.put, List.getElem_toArray, List.getElem_cons_succ, List.getElem_cons_zero, List.setIfInBounds_toArray, List.set_cons_zero, List.set_cons_succ]
                  refine wpAnyH_take (i := 14) (oi := _) (v := _) rfl (by kernel_rfl) (by kernel_rfl) (by kernel_rfl) (fun _ _ _ h => h) (Or.inr ⟨by kernel_rfl, rfl⟩) (by assumption) ?_
                  simp only [Act.put, List.getElem_toArray, List.getElem_cons_succ, List.getElem_cons_zero, List.setIfInBounds_toArray, List.set_cons_zero, List.set_cons_succ]
                  refine wpAnyH_take (i := 15) (oi := _) (v := _) rfl (by kernel_rfl) (by kernel_rfl) (by kernel_rfl) (fun _ _ _ h => h) (Or.inr ⟨by kernel_rfl, rfl⟩) (by assumption) ?_
                  simp only [Act.put, List.getElem_toArray, List.getElem_cons_succ, List.getElem_cons_zero, List.setIfInBounds_toArray, List.set_cons_zero, List.set_cons_succ]
                  refine wpAnyH_take (i := 16) (oi := _) (v := _) rfl (by kernel_rfl) (by kernel_rfl) (by kernel_rfl) (fun _ _ _ h => h) (Or.inr ⟨by kernel_rfl, rfl⟩) (by assumption) ?_
                  simp only [Act.put, List.getElem_toArray, List.getElem_cons_succ, List.getElem_cons_zero, List.setIfInBounds_toArray, List.set_cons_zero, List.set_cons_succ]
                  refine wpAnyH_take (i := 17) (oi := _) (v := _) rfl (by kernel_rfl) (by kernel_rfl) (by kernel_rfl) (fun _ _ _ h => h) (Or.inr ⟨by kernel_rfl, rfl⟩) (by assumption) ?_
                  simp only [Act.put, List.getElem_toArray, List.getElem_cons_succ, List.getElem_cons_zero, List.setIfInBounds_toArray, List.set_cons_zero, List.set_cons_succ]
                  refine wpAnyH_take (i := 18) (oi := _) (v := _) rfl (by kernel_rfl) (by kernel_rfl) (by kernel_rfl) (fun _ _ _ h => h) (Or.inr ⟨by kernel_rfl, rfl⟩) (by assumption) ?_
                  simp only [Act.put, List.getElem_toArray, List.getElem_cons_succ, List.getElem_cons_zero, List.setIfInBounds_toArray, List.set_cons_zero, List.set_cons_succ]
                  refine wpAnyH_take (i := 19) (oi := _) (v := _) rfl (by kernel_rfl) (by kernel_rfl) (by kernel_rfl) (fun _ _ _ h => h) (Or.inr ⟨by kernel_rfl, rfl⟩) (by assumption) ?_
                  simp only [Act.put, List.getElem_toArray, List.getElem_cons_succ, List.getElem_cons_zero, List.setIfInBounds_toArray, List.set_cons_zero, List.set_cons_succ]
                  refine wpAnyH_take (i := 20) (oi := _) (v := ?_) rfl (by kernel_rfl) (by kernel_rfl) (by kernel_rfl) (fun _ _ _ h => h) (Or.inl ⟨by rfl, ?_⟩) (by assumption) ?_
                  rotate_left
                  · intro w hSw; clear hSw; first | (go_simp; done) | (go_simp; with_reducible rfl)
                  simp only [Act.put, List.getElem_toArray, List.getElem_cons_succ, List.getElem_cons_zero, List.setIfInBounds_toArray, List.set_cons_zero, List.set_cons_succ]
                  (try dsimp only at hHeld)
                  obtain ⟨-, -, -, -, hI3⟩ := hHeld
                  refine wpAnyH_done (by kernel_rfl) ?_ _
                  refine NoPanic.normal ?_
                  go_wp2_with fail
                  go_roundw
                  case rel => exact ⟨j + 1, _, by omega, by go_num, rfl, by rw [HSK.out, ← HG.out]; exact hI3⟩
                  case measure => simp [intOf]; omega
              · obtain rfl : j = rows.length := by omega
                have d3 : decide (rows.length < rows.length) = false := by simp
                obtain ⟨h1, h2, h3⟩ := HST.out
                go_wp2_with fail
                go_roundw
                case rel => exact ⟨q + 1, _, _, h2, by go_num, rfl, h1, h3, hI⟩
                case measure => simp [intOf]; omega
          · obtain rfl : q = (natI g).length := by rw [natI_len] at *; omega
            have d2 : decide ((natI g).length < (natI g).length) = false := by simp
            have hge : g = bfs rows.length (nearR rows lim) (clC rows lim k).2 rows.length 0 [k] := bfs_end rows lim (natI_len g) hbf
            rw [bfs_same rows.length (nearR rows lim) (nearR_comm rows lim) (nearR_lt rows lim) (clC_closed rows lim (Nat.le_of_lt HK.out)) (clC_lt rows lim (Nat.le_of_lt HK.out)) HNI.out] at hge
            replace hge : g = grpL rows lim k := hge
            have hsrt : sortI (natI g) = rowC (grpL rows lim k) := by rw [← hge]; exact sortI_put (natI_nodup hgp.nd)
            have HGE := Lib.hid hge
            have HSRT := Lib.hid hsrt
            have hgl2 : (natI g).length ≤ 1048576 := by omega
            have KS := Lib.hid (fun (w : World) (v : Value) (h : OwnI w D 3 v (natI g)) => sortI_any D v (natI g) w h hgl2)
            have hown := hI.own
            have hseen := hI.seen
            have hgrown := hI.grown
            obtain ⟨A2, c2, rfl, -⟩ := hI.own.form
            clear hge hgp hbf hsrt hgn hq hI
            obtain ⟨u, hu⟩ : ∃ u, u = Value.slice A2 (natI g).length c2 := ⟨_, rfl⟩
            have HU := Lib.hid hu
            have hubl : ∀ b, u.ownBlock = some b → D ≤ b := fun b hb => (hown.lt b (by rw [← hu]; exact hb)).1
            have HUBL := Lib.hid hubl
            clear hubl hu
            go_wp2_with fail
            refine (KS.out _ _ hown).mono ?_
            rintro e w5 ⟨rfl, hO5, hG5⟩
            rw [← HU.out] at hO5 hG5 ⊢
            obtain ⟨R, hR⟩ : ∃ R, R = rowC (grpL rows lim k) := ⟨_, rfl⟩
            rw [HSRT.out, ← hR] at hO5
            have hRl : R.length ≤ 1048576 := by rw [hR]; have := rowC_len (grpL rows lim k); have := grpL_len rows lim HK.out; omega
            have HR := Lib.hid hR
            have hune : u.ownBlock ≠ some gs := fun e => by have := HUBL.out gs e; have := HGS.out; omega
            have hsn5 := hseen.other hG5 hune
            have hgr5 := grownBy_far hgrown hG5 (fun b hb => by have := HUBL.out b hb; have := HDW'.out; omega)
            obtain ⟨hG6, hT6⟩ := HGB.out _ hgr5
            have hs5 := hgr5.size
            obtain ⟨Y, hY⟩ : ∃ Y, Y = clR rows lim k := ⟨_, rfl⟩
            have hYl : Y.length ≤ 1048576 := by rw [hY]; have := clR_len rows lim k (by have := HK.out; omega); have := HK.out; omega
            rw [← hY] at hG6
            have HY := Lib.hid hY
            have q1 : ∀ (i : Nat) (u' : Value), vs[i]? = some u' → u'.ownBlock = none ∨ u'.ownBlock ≠ u.ownBlock := fun i u' hu' => ob_lt_ne (HGU.out i u' hu') HUBL.out
            have q2 : u.ownBlock = none ∨ u.ownBlock ≠ v.ownBlock := ob_gt_ne HUBL.out HGV.out
            have Q1 := Lib.hid q1
            have Q2 := Lib.hid q2
            have hBw := hT6.size
            clear q1 q2 hown hseen hgrown hG5 hR hY hune
            obtain ⟨A3, c3, hu3, -⟩ := hO5.form
            clear HU
            subst hu3
            have hsn6 := hsn5.below (Below_al (Below.refl _ _) (.cells #[.slice A3 R.length c3] 50))
            go_wp2_with (first | (at_builtin; refine wp_appGAt rfl _ _ rfl w.heap.size v Y vs rfl (hG6.below (Below_al (Below.refl _ _) _)) _ _ R rfl (cell_of (heap_hit _ _ _ rfl) 0) (OwnI.base (hO5.alloc _) ?c0) Q1.out Q2.out hYl ?c4 ?_; rotate_left 2; intro v' w9 hG9 hR9 hL9 hA9) | fail)
            try (case c0 => have := HWD.out; omega)
            try (case c4 => (simp; omega))
            have hT9 := (Below_al hT6 _).trans hL9
            have hgsz := heap_lt hsn5.blk
            have hvne : v.ownBlock ≠ some gs := fun e => by
              rcases HAP.out.out with h | h
              · simp [Value.ownBlock] at h
              · exact h (by rw [e]; rfl)
            have hsn9 := hsn6.other hR9 hvne
            have hAp9 : Ap (.slice (some ⟨gs, 0, none⟩) rows.length rows.length) v' (vs ++ [.slice A3 R.length c3]) := by
              refine ⟨?_, fun i u1 hu1 => ?_⟩
              · rcases hA9 with e | e
                · rw [e]; exact HAP.out.out
                · refine .inr fun e2 => ?_
                  rw [e] at e2
                  simp [Value.ownBlock] at e2
                  omega
              · by_cases hi : i < vs.length
                · rw [List.getElem?_append_left hi] at hu1
                  exact HAP.out.own i u1 hu1
                · rw [List.getElem?_append_right (by omega)] at hu1
                  have hi0 : i - vs.length = 0 := by
                    have := (List.getElem?_eq_some_iff.1 hu1).1
                    simp at this
                    omega
                  rw [hi0] at hu1
                  simp at hu1
                  subst hu1
                  exact ob_gt_ne HUBL.out (fun b hb => by simp [Value.ownBlock] at hb; have := HGS.out; omega)
            clear hR9 hL9 hA9 hG6 hO5 hT6 hsn5 hsn6
            go_wp2_with fail
            go_roundw
            case rel => exact ⟨k + 1, v', _, HK.out, by go_num, rfl, by rw [clR_add rows lim HNI.out, ← HY.out, ← HR.out]; exact hG9, by rw [clC_add rows lim HNI.out, ← HGE.out]; exact hsn9, hAp9, hT9⟩
            case measure => simp [intOf]; have := HK.out; omega
      · rw [hm] at hck
        have hin : k ∈ (clC rows lim k).2 := of_decide_eq_true hm
        have HIN := Lib.hid hin
        clear hm hin
        go_wp2_with fail
        go_roundw
        case rel => exact ⟨k + 1, v, vs, by omega, by go_num, rfl, by rw [clR_skip rows lim HIN.out]; exact hG, by rw [clC_skip rows lim HIN.out]; exact hS, HAP.out, hb⟩
        case measure => simp [intOf]; omega
    · obtain rfl : k = rows.length := by omega
      have d1 : decide (rows.length < rows.length) = false := by simp
      go_wp2
      go_ret2
      exact ⟨_, vs, rfl, hG, hb⟩
end Go.Proofs.Ytjodoljgpdbimaa
