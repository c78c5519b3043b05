/- Contracts: all features, in ascending order. -/
import Derived.Test.YtlonnkmfjijddaaGreatDoorSlib
import Derived.Test.YtlonnkmfjijddaaGreatDoorFeatQ
import Derived.Test.YtlonnkmfjijddaaGreatDoorRow
import Derived.Deep.RegionHeld3
import Derived.Maps.AppendAt
import Derived.Deep.MidRow
namespace Go.Proofs.YtlonnkmfjijddaaGreatDoor
open Go.ChangeShapes Go.WideShapes Go.ChangeAt Go.RowKit
set_option linter.unusedVariables false
set_option linter.unusedSimpArgs false
def kc (k : UInt8 × Nat × Nat) : List Value := [.string ⟨#[k.1]⟩, .int .i64 (k.2.1 : Nat), .int .i64 (k.2.2 : Nat)]
theorem raw_sorted : sortB (rawK 6) = FEATS := merge_unique FEATS_asc raw_nodup raw_mem
theorem rawK_len (k : Nat) (hk : k ≤ 6) : (rawK k).length ≤ 78 := by
  have h : ∀ k, k < 7 → (rawK k).length ≤ 78 := by
    intro k hk
    match k, hk with
    | 0, _ => exact Nat.zero_le _
    | 1, _ => exact (by decide : 9 ≤ 78)
    | 2, _ => exact (by decide : 17 ≤ 78)
    | 3, _ => exact (by decide : 21 ≤ 78)
    | 4, _ => exact (by decide : 29 ≤ 78)
    | 5, _ => exact (by decide : 37 ≤ 78)
    | 6, _ => exact (by decide : 50 ≤ 78)
  exact h k (by omega)
theorem raw_len : (rawK 6).length = 50 := by rfl
theorem decD_len {n : Nat} (h : n < 100) : (Lib.decDigits n).length ≤ 2 := by
  rw [dg2_eq h]
  unfold dg2
  split <;> simp
theorem itoaC (n : Nat) (hn : n < 100) (w : World) : Calls Tryz.prog 43 #[.int .i64 n] w fun e w' => e = .returned (.string ⟨(Lib.decDigits n).toArray⟩) ∧ w' = w := Tryz.strconv_Itoa_small n hn w
theorem ne_at {v v' : Value} {b n : Nat} (hat : v'.ownBlock = v.ownBlock ∨ v'.ownBlock = some n) (hne : v.ownBlock ≠ some b) (hb : b < n) : v'.ownBlock ≠ some b := by
  rcases hat with e | e
  · rw [e]; exact hne
  · rw [e]; intro h; injection h with h; omega
theorem step_appT {ops : Array Oper} {o : Oper} {a : Act} {w : World} {K : Act → World → Prop} {Q : Exit → Act → World → Prop} {E : Prop} (hgd : o.guard = none) (s x : Operand) (ho : o.op = .call { callee := .builtin .append, args := #[s, x], argTypes := #[40, 40] })
    (B : Nat) (v : Value) (zs : List ByteArray) (hs : a.eval s = v) (hown : OwnS w B 9 v zs) (b : Nat) (z : ByteArray) (hx : a.eval x = .slice (some ⟨b, 0, none⟩) 1 1) (hc : w.cell? ⟨b, 0, none⟩ = some (.string z))
    (hl : zs.length ≤ 1099511627776) (hB : B ≤ w.heap.size)
    (h : ∀ v' w', OwnS w' B 9 v' (zs ++ [z]) → w.grownBy w' v.ownBlock → Below B w w' → (v'.ownBlock = v.ownBlock ∨ v'.ownBlock = some w.heap.size) → K (a.put o.dst v') w') :
    if Region.wanted o (yielded ops a.tmps) = true then Oper.wp Tryz.prog o a w K Q else E := by
  have hw : Region.wanted o (yielded ops a.tmps) = true := by simp [Region.wanted, hgd]
  rw [if_pos hw]
  obtain ⟨i0, hi, hz0, hz1, hz2⟩ := info_parts info_str
  obtain ⟨v', w', hr, h1, h2, _, h3⟩ := run_append_own_at (P := Tryz.prog) w B 40 o.type 9 i0 (.string ⟨#[]⟩) 1 16 Tryz.underlying40 hi hz0 hz1 hz2 rfl (by decide) v zs.length (sv zs) hown ⟨b, 0, none⟩ 1 1 [.string z] rfl (by
    intro j u hj
    match j, hj with
    | 0, hj => simp at hj; subst hj; simpa [Addr.add] using hc
    | j + 1, hj => simp at hj) (fun u hu => by simp at hu; subst hu; rfl) (by unfold maxLen; omega) (by omega) hB
  unfold Oper.wp execOp
  simp only [ho, resolve, invoke, builtin, Sem.run_bind, Sem.run_pure, Result.andThen_ok, List.map_toArray, List.map_cons, List.map_nil, hs, hx, hr]
  refine h v' w' ?_ h2 (grown_below hown hB h2) h3
  unfold OwnS
  rw [sv_append, List.length_append]
  exact h1
def kindsA : Array Value := (kinds.map kc).flatten.toArray
/-- What stands while features are collected: the row, the kinds' block, the kind in its box. -/
structure Mid (B N1 D : Nat) (c : UInt8) (lo hi : Nat) (W0 : World) (u : Value) (zs : List ByteArray) (w : World) : Prop where
  own : OwnS w B 9 u zs
  box : w.heap[D]? = some (.cells (kc (c, lo, hi)).toArray 80 (0, 0))
  kin : w.heap[N1]? = some (.cells kindsA 80 (0, 0))
  neD : u.ownBlock ≠ some D
  neN : u.ownBlock ≠ some N1
  bel : Below B W0 w
  siz : B ≤ w.heap.size
theorem Mid.drew {B N1 D : Nat} {c : UInt8} {lo hi : Nat} {W0 w : World} {u : Value} {zs : List ByteArray} (h : Mid B N1 D c lo hi W0 u zs w) : Mid B N1 D c lo hi W0 u zs w.drew := ⟨h.own.below (Below.refl _ _).drew, h.box, h.kin, h.neD, h.neN, h.bel.drew, h.siz⟩
theorem Mid.alloc {B N1 D : Nat} {c : UInt8} {lo hi : Nat} {W0 w : World} {u : Value} {zs : List ByteArray} (h : Mid B N1 D c lo hi W0 u zs w) (o : Obj) : Mid B N1 D c lo hi W0 u zs (w.alloc o) :=
  ⟨h.own.alloc o, heap_keepA h.box o, heap_keepA h.kin o, h.neD, h.neN, h.bel.alloc h.siz o, by have := h.siz; simp; omega⟩
theorem Mid.app {B N1 D : Nat} {c : UInt8} {lo hi : Nat} {W0 w w' : World} {u u' : Value} {zs zs' : List ByteArray} (h : Mid B N1 D c lo hi W0 u zs w) (ho : OwnS w' B 9 u' zs') (hg : w.grownBy w' u.ownBlock) (hb : Below B w w') (hat : u'.ownBlock = u.ownBlock ∨ u'.ownBlock = some w.heap.size) : Mid B N1 D c lo hi W0 u' zs' w' :=
  ⟨ho, heap_keepG h.box hg h.neD, heap_keepG h.kin hg h.neN, ne_at hat h.neD (heap_lt h.box), ne_at hat h.neN (heap_lt h.kin), h.bel.trans hb, by have := hg.size; have := h.siz; omega⟩
section
variable {ops : Array Oper} {rest : List Oper} {op : Oper} {a : Act} {w : World} {Q : Exit → Act → World → Prop}
theorem info_kc (k : UInt8 × Nat × Nat) : (Tryz.prog.info? 80).map (·.size) = some (kc k).length := by
  have : (Tryz.prog.info? 80).map (·.size) = some 3 := by kernel_rfl
  exact this
theorem ldK (hgd : op.guard = none) (x : Operand) (ho : op.op = .load 80 x) (b o : Nat) (hx : a.eval x = .pointer (some ⟨b, o, none⟩)) (k : UInt8 × Nat × Nat) (hc : w.rangeAt b o (kc k))
    (h : wpList Tryz.prog ops Q rest (a.put op.dst (.agg (kc k).toArray)) w) : wpList Tryz.prog ops Q (op :: rest) a w :=
  wpList_load_mid hgd _ x ho b o hx (kc k) _ hc Tryz.underlying80 rfl (info_kc k) h
theorem stK (hgd : op.guard = none) (x y : Operand) (ho : op.op = .store 80 x y) (g : Nat) (hx : a.eval x = .pointer (some ⟨g, 0, none⟩)) (k : UInt8 × Nat × Nat) (hy : a.eval y = .agg (kc k).toArray) (cs : Array Value) (hg : w.heap[g]? = some (.cells cs 80 (0, 0))) (hs : cs.size = 3)
    (h : ∀ w', w'.heap[g]? = some (.cells (kc k).toArray 80 (0, 0)) → w.grownBy w' (some g) → w'.heap.size = w.heap.size → wpList Tryz.prog ops Q rest (a.put op.dst undef) w') : wpList Tryz.prog ops Q (op :: rest) a w := by
  have hs' : OwnR 3 w g g 80 [] cs.toList := ⟨by simpa using hg, Nat.le_refl _, fun row h => by cases h⟩
  have hk : cs.toList.length = 3 := by rw [Array.length_toList]; exact hs
  refine wpList_store_mid hgd _ x y ho g 0 (kc k).toArray hx hy ?_ (by simpa using info_kc k) (all_oneCell_toArray (fun v hv => by
    simp only [kc, List.mem_cons, List.not_mem_nil, or_false] at hv
    rcases hv with rfl | rfl | rfl <;> rfl)) (h _ ?_ ?_ ?_)
  · have hsp : OwnR 3 w g g 80 [] (cs.toList ++ []) := by rw [List.append_nil]; exact hs'
    have := hsp.there hk
    rw [List.length_nil, Nat.zero_mul] at this
    simpa [kc] using this
  · have h0 : w.heap[g]? = some (.cells ([] ++ (cs.toList ++ [])).toArray 80 (0, 0)) := by simpa using hg
    have := heap_setCells (kc k) w [] cs.toList [] (by rw [hk]; rfl) h0
    simpa using this
  · rw [List.toList_toArray]
    exact grownBy_setCells _ _ (World.grownBy.refl _ _)
  · rw [List.toList_toArray, size_setCells]
end
theorem kin_range {w : World} {b k : Nat} {x : UInt8 × Nat × Nat} (h : w.heap[b]? = some (.cells kindsA 80 (0, 0))) (hk : kinds[k]? = some x) : w.rangeAt b (k * 3) (kc x) := fun j v hv => by
  rw [cell_of h]
  have hw : ∀ row ∈ kinds.map kc, row.length = 3 := by
    intro row hr
    obtain ⟨y, -, rfl⟩ := List.mem_map.1 hr
    rfl
  have := flat_at hw (show (kinds.map kc)[k]? = some (kc x) by rw [List.getElem?_map, hk]; rfl) j v hv
  unfold kindsA
  rw [List.getElem?_toArray]
  exact this
theorem kinds_bd {k c lo hi} (h : kinds[k]? = some (c, lo, hi)) : lo ≤ hi ∧ hi ≤ 12 ∧ k < 6 := by
  have h1 : ∀ x ∈ kinds, x.2.1 ≤ x.2.2 ∧ x.2.2 ≤ 12 := by decide
  have h2 := h1 _ (List.mem_of_getElem? h)
  exact ⟨h2.1, h2.2, (List.getElem?_eq_some_iff.1 h).1⟩
/-- What stands between two kinds. -/
structure Mid0 (B N1 : Nat) (W0 : World) (u : Value) (zs : List ByteArray) (w : World) : Prop where
  own : OwnS w B 9 u zs
  kin : w.heap[N1]? = some (.cells kindsA 80 (0, 0))
  neN : u.ownBlock ≠ some N1
  bel : Below B W0 w
  siz : B ≤ w.heap.size
theorem Mid.out {B N1 D : Nat} {c : UInt8} {lo hi : Nat} {W0 w : World} {u : Value} {zs : List ByteArray} (h : Mid B N1 D c lo hi W0 u zs w) : Mid0 B N1 W0 u zs w := ⟨h.own, h.kin, h.neN, h.bel, h.siz⟩
/-- Texts in new memory. -/
def StrsIn (w : World) (zs : List ByteArray) (e : Ending) (w' : World) : Prop := ∃ v, e = .returned v ∧ OwnS w' w.heap.size 9 v zs ∧ Below w.heap.size w w'
set_option maxHeartbeats 4000000 in
theorem allFeatures_any (w : World) : Calls Tryz.prog 20 #[] w (StrsIn w FEATS) := by
  go_enter Tryz.func20, Tryz.ntmps20
  go_wp2_with fail
  have hM0 : Mid0 w.heap.size (w.heap.size + 1) w (.slice (some ⟨w.heap.size, 0, none⟩) 0 0) [] ((w.alloc (.cells #[] 9)).alloc (.cells kindsA 80)) :=
    ⟨(OwnS.blk (zs := []) (heap_hit _ _ _ rfl) (Nat.le_refl _) (by simp [maxLen])).alloc _, heap_hit _ _ _ (by simp), by simp [Value.ownBlock], Below_al (Below_al (Below.refl _ _) _) _, by simp; omega⟩
  go_loopw [1, 14] (fun o i wr => ∃ (k : Nat) (u : Value), k ≤ 6 ∧ i = .int .i64 k ∧ o = u ∧ Mid0 w.heap.size (w.heap.size + 1) w u (rawK k) wr) (fun _ i _ => 6 - (intOf i).toNat)
  case atStart => exact ⟨0, _, Nat.zero_le _, rfl, rfl, hM0⟩
  case round =>
    clear hM0
    obtain ⟨k, u, hk, rfl, hou, hM⟩ := hrel
    replace hou := hou.symm
    subst hou
    by_cases hlt : k < 6
    · obtain ⟨x, hx⟩ : ∃ x, kinds[k]? = some x := ⟨_, List.getElem?_eq_getElem (by simpa [kinds] using hlt)⟩
      obtain ⟨c, lo, hi⟩ := x
      obtain ⟨hlo, hhi, -⟩ := kinds_bd hx
      have hr := kin_range hM.kin hx
      have HX := Lib.hid hx
      have HM := Lib.hid hM
      have i1 : (k : Int) < 6 := by omega
      clear hx hM
      go_wp2_with (first | (refine ldK rfl _ rfl (w.heap.size + 1) _ rfl (c, lo, hi) hr ?_) | (refine stK rfl _ _ rfl wr.heap.size rfl (c, lo, hi) rfl _ (heap_hit _ _ _ rfl) rfl ?_; intro wn hn1 hn2 hn3; have c1 : wn.cell? ⟨wr.heap.size, 1, none⟩ = some (.int .i64 lo) := cell_of hn1 1) | fail)
      have hsz : wn.heap.size = wr.heap.size + 1 := by rw [hn3]; simp
      have hMw := HM.out
      have hg0 : wr.grownBy wn (some wr.heap.size) := below_grownBy (Below_al (Below.refl _ _) _) hn2
      have hneD : u.ownBlock ≠ some wr.heap.size := fun e => by have := (hMw.own.lt _ e).2; omega
      have hM1 : Mid w.heap.size (w.heap.size + 1) wr.heap.size c lo hi w u (rawK k) wn :=
        ⟨hMw.own.other hg0 (.inr hneD), hn1, heap_keepG hMw.kin hg0 (fun e => by injection e with e; have := heap_lt hMw.kin; omega), hneD, hMw.neN, hMw.bel.grown hg0 hMw.siz (fun b hb => by injection hb with hb; have := hMw.siz; omega), by have := hMw.siz; omega⟩
      obtain ⟨D, hD⟩ : ∃ D, D = wr.heap.size := ⟨_, rfl⟩
      rw [← hD] at hM1
      rw [← hD]
      clear hD hMw hg0 hneD hn1 hn2 hn3 hsz c1 hr HM
      go_loopw [1, 4] (fun o i wi => ∃ (j : Nat) (u : Value), j ≤ hi + 1 - lo ∧ i = .int .i64 (lo + j : Nat) ∧ o = u ∧ Mid w.heap.size (w.heap.size + 1) D c lo hi w u (rawK k ++ rowK (c, lo, hi) j) wi) (fun _ i _ => hi + 1 - (intOf i).toNat)
      case atStart => exact ⟨0, _, Nat.zero_le _, rfl, rfl, by simpa [rowK] using hM1⟩
      case round =>
        clear hM1
        obtain ⟨j, u, hj, rfl, hou, hM⟩ := hrel
        replace hou := hou.symm
        subst hou
        have c2 : wr.cell? ⟨D, 2, none⟩ = some (.int .i64 hi) := cell_of hM.box 2
        obtain ⟨n, hn⟩ : ∃ n, n = lo + j := ⟨_, rfl⟩
        rw [← hn]
        by_cases hj2 : j < hi + 1 - lo
        · have j1 : (n : Int) ≤ (hi : Int) := by omega
          have d2 : decide (n ≤ hi) = true := by rw [decide_eq_true_iff]; omega
          have hzl : (rawK k ++ rowK (c, lo, hi) j).length ≤ 1099511627776 := by
            have h1 : (rawK k).length ≤ 78 := rawK_len k (by omega)
            simp [rowK]
            omega
          have HN := Lib.hid hn
          obtain ⟨zs, hzs⟩ : ∃ zs, zs = rawK k ++ rowK (c, lo, hi) j := ⟨_, rfl⟩
          rw [← hzs] at hM hzl
          have HZS := Lib.hid hzs
          clear hn hzs
          go_wp2_with fail
          have hMa := hM.drew.alloc (.cells #[.string (ftB c n)] 9 (0, 0))
          refine wp_region_noPanic ?_
          refine wp_region_held_drew (S := (fun w' => w'.cell? ⟨D, 0, none⟩ = some (.string ⟨#[c]⟩))) (by kernel_rfl) (cell_of hM.box 0) (fun hHeld => ?_)
          refine wpAnyH_take (i := 0) (oi := _) (v := ?_) rfl (by kernel_rfl) (by kernel_rfl) (by kernel_rfl) (fun _ _ _ h => h) (Or.inl ⟨by rfl, ?_⟩) (by assumption) ?_
          rotate_left
          · intro w hSw; clear hSw; first | (go_simp; done) | (go_simp; with_reducible rfl)
          simp only [Act.put, List.getElem_toArray, List.getElem_cons_succ, List.getElem_cons_zero, List.setIfInBounds_toArray, List.set_cons_zero, List.set_cons_succ]
          refine wpAnyH_take (i := 1) (oi := _) (v := ?_) rfl (by kernel_rfl) (by kernel_rfl) (by kernel_rfl) (fun _ _ _ h => h) (Or.inl ⟨by rfl, ?_⟩) (by assumption) ?_
          rotate_left
          · intro w hSw; clear hSw; first | (go_simp; done) | (go_simp; with_reducible rfl)
          simp only [Act.put, List.getElem_toArray, List.getElem_cons_succ, List.getElem_cons_zero, List.setIfInBounds_toArray, List.set_cons_zero, List.set_cons_succ]
          refine wpAnyH_take (i := 2) (oi := _) (v := ?_) rfl (by kernel_rfl) (by kernel_rfl) (by kernel_rfl) (fun _ _ _ h => h) (Or.inl ⟨by rfl, ?_⟩) (by assumption) ?_
          rotate_left
          · intro w hSw; (try dsimp only at hSw); first | (go_simp; done) | (go_simp; with_reducible rfl)
          simp only [Act.put, List.getElem_toArray, List.getElem_cons_succ, List.getElem_cons_zero, List.setIfInBounds_toArray, List.set_cons_zero, List.set_cons_succ]
          refine wpAnyH_take (i := 3) (oi := _) (v := ?_) rfl (by kernel_rfl) (by kernel_rfl) (by kernel_rfl) (fun _ _ _ h => h) (Or.inl ⟨by rfl, ?_⟩) (by assumption) ?_
          rotate_left
          · intro w hSw; clear hSw; first | (go_simp; done) | (go_simp; with_reducible rfl)
          simp only [Act.put, List.getElem_toArray, List.getElem_cons_succ, List.getElem_cons_zero, List.setIfInBounds_toArray, List.set_cons_zero, List.set_cons_succ]
          refine wpAnyH_ready (rs := [4]) (by kernel_rfl) (by simp) ?_
          refine AllReadyH.cons (o := _) rfl (fun K hK => ?_) AllReadyH.nil
          go_simp
          refine (itoaC n (by omega) _).mono ?_
          rintro e w2 ⟨rfl, rfl⟩
          go_wp2_with fail
          refine hK.out _ _ hHeld (fun hHeld => ?_)
          clear hK K
          try simp only [Act.put, List.getElem_toArray, List.getElem_cons_succ, List.getElem_cons_zero, List.setIfInBounds_toArray, List.set_cons_zero, List.set_cons_succ]
          refine wpAnyH_take (i := 5) (oi := _) (v := ?_) rfl (by kernel_rfl) (by kernel_rfl) (by kernel_rfl) (fun _ _ _ h => h) (Or.inl ⟨by rfl, ?_⟩) (by assumption) ?_
          rotate_left
          · intro w hSw; clear hSw; go_simp; rw [if_neg (by have := decD_len (n := n) (by omega); omega), ftB_app]
          simp only [Act.put, List.getElem_toArray, List.getElem_cons_succ, List.getElem_cons_zero, List.setIfInBounds_toArray, List.set_cons_zero, List.set_cons_succ]
          refine wpAnyH_ready (rs := [6]) (by kernel_rfl) (by simp) ?_
          refine AllReadyH.cons (o := _) rfl (fun K hK => ?_) AllReadyH.nil
          go_simp
          refine hK.out _ _ (keep_cell hHeld (Below_al (Below.refl _ _) (.cells #[.string (ftB c n)] 9 (0, 0)))) (fun hHeld => ?_)
          clear hK K
          try simp only [Act.put, List.getElem_toArray, List.getElem_cons_succ, List.getElem_cons_zero, List.setIfInBounds_toArray, List.set_cons_zero, List.set_cons_succ]
          refine wpAnyH_ready (rs := [7]) (by kernel_rfl) (by simp) ?_
          refine AllReadyH.cons (o := _) rfl (fun K hK => ?_) AllReadyH.nil
          refine step_appT rfl (.tmp 26) (.tmp 32) rfl w.heap.size u zs (by first | rfl | simp [Act.eval, Act.put]) hMa.own _ (ftB c n) (by first | rfl | simp [Act.eval, Act.put]) (cell_of (heap_hit _ _ _ rfl) 0) hzl hMa.siz ?_
          intro v9 w9 hO9 hG9 hL9 hat9
          have hM9 := hMa.app hO9 hG9 hL9 hat9
          refine hK.out _ _ (cell_of hM9.box 0) (fun hHeld => ?_)
          clear hK K
          try simp only [Act.put, List.getElem_toArray, List.getElem_cons_succ, List.getElem_cons_zero, List.setIfInBounds_toArray, List.set_cons_zero, List.set_cons_succ]
          refine wpAnyH_take (i := 8) (oi := _) (v := ?_) rfl (by kernel_rfl) (by kernel_rfl) (by kernel_rfl) (fun _ _ _ h => h) (Or.inl ⟨by rfl, ?_⟩) (by assumption) ?_
          rotate_left
          · intro w hSw; clear hSw; first | (go_simp; done) | (go_simp; with_reducible rfl)
          simp only [Act.put, List.getElem_toArray, List.getElem_cons_succ, List.getElem_cons_zero, List.setIfInBounds_toArray, List.set_cons_zero, List.set_cons_succ]
          refine wpAnyH_done (by kernel_rfl) ?_ _
          refine NoPanic.normal ?_
          clear c2
          go_wp2
          go_roundw
          case rel => exact ⟨j + 1, _, by omega, by have := HN.out; congr 1; omega, rfl, by rw [rowK_snoc, ← List.append_assoc, ← HZS.out, ← HN.out]; exact hM9⟩
          case measure => have := HN.out; simp [intOf]; omega
        · obtain rfl : j = hi + 1 - lo := by omega
          have j1 : ¬ (n : Int) ≤ (hi : Int) := by omega
          have d2 : decide (n ≤ hi) = false := by rw [decide_eq_false_iff_not]; omega
          clear hn
          go_wp2
          go_roundw
          case rel => exact ⟨k + 1, _, by omega, by go_num, rfl, by rw [rawK_snoc HX.out]; exact hM.out⟩
          case measure => simp [intOf]; omega
    · obtain rfl : k = 6 := by omega
      go_wp2_with fail
      refine (sortS_any _ _ _ _ hM.own (by rw [raw_len]; omega)).mono ?_
      rintro e w5 ⟨rfl, hO, hg⟩
      have hb5 := hM.bel.grown hg hM.siz (fun b hb => (hM.own.lt b hb).1)
      rw [raw_sorted] at hO
      clear hM hg
      go_wp2
      go_ret
      exact ⟨_, rfl, hO, hb5⟩
end Go.Proofs.YtlonnkmfjijddaaGreatDoor
