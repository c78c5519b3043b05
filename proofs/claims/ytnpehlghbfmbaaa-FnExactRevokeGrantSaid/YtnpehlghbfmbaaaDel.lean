/- Contract: slices.Delete of one grant out of a row of the call's own. -/
import Derived.Test.YtnpehlghbfmbaaaRev
namespace Go.Proofs.Ytnpehlghbfmbaaa
open Go.ChangeShapes Go.WideShapes Go.ChangeAt Go.RowKit
set_option linter.unusedVariables false
set_option linter.unusedSimpArgs false
theorem zeroG (w : World) : (zeroValue 54).run Try.prog w = .ok (.agg z18.toArray) w := by kernel_rfl
theorem z18_one : ∀ v ∈ z18, v.oneCell' = true := by
  intro v hv
  simp only [z18, List.mem_cons, List.not_mem_nil, or_false] at hv
  rcases hv with rfl | rfl | rfl | rfl | rfl | rfl | rfl | rfl | rfl | rfl | rfl | rfl | rfl | rfl | rfl | rfl | rfl | rfl <;> rfl
theorem zc18 : (Builtin.zeroCells (Value.agg z18.toArray).cells 1).toList = z18 := by kernel_rfl
theorem run_clearG (w : World) (ty : TypeId) (g o c : Nat) (h : w.there g o 18) : (Builtin.clear_ #[32] ty #[.slice (some ⟨g, o, none⟩) 1 c]).run Try.prog w = .ok (.tuple #[]) (w.setCells g o z18) := by
  have hst := run_storeCells_cells (P := Try.prog) g o z18 0 w (fun j hj => by simpa using (h j hj).1) (fun j hj => by simpa using (h j hj).2) z18_one
  simp only [Nat.add_zero] at hst
  have hz : ∀ w, (zeroValue 54).run Try.prog w = .ok (Value.agg z18.toArray) w := zeroG
  have hzc := zc18
  generalize Value.agg z18.toArray = zv at hz hzc
  generalize z18 = Z at *
  simp [Builtin.clear_, run_underlying Try.underlying32, hz, hzc, hst]
def DelPost (w : World) (B g c : Nat) (rows' : List GrantD) (e : Ending) (w' : World) : Prop := e = .returned (.slice (some ⟨g, 0, none⟩) rows'.length c) ∧ OwnGr w' B (.slice (some ⟨g, 0, none⟩) rows'.length c) rows' ∧ w.grownBy w' (some g)
set_option maxHeartbeats 8000000 in
set_option maxRecDepth 20000 in
theorem deleteG_any (B g c k m : Nat) (rows : List GrantD) (w : World) (h : OwnGr w B (.slice (some ⟨g, 0, none⟩) rows.length c) rows) (hn : rows.length = k + 1 + m) (hl : rows.length ≤ 1048576) :
    Calls Try.prog 31 #[.slice (some ⟨g, 0, none⟩) (k + 1 + m) c, .int .i64 k, .int .i64 (k + 1)] w (DelPost w B g c (rows.take k ++ rows.drop (k + 1))) := by
  obtain ⟨i0, hi, hz0, hz1, hz2⟩ := info_parts info_gcz
  have hw := gcs_wid rows
  obtain ⟨y, hy⟩ := grant_at (rows := rows) (k := k) (by omega)
  have hfl : (gcs (rows.drop (k + 1))).flatten.length = m * 18 := by rw [flat_len (gcs_wid _), gcs_len, List.length_drop]; omega
  have hpl : (gcs (rows.take k)).flatten.length = k * 18 := by rw [flat_len (gcs_wid _), gcs_len, List.length_take]; omega
  have hsp : (gcs rows).flatten = (gcs (rows.take k)).flatten ++ (gc y ++ (gcs (rows.drop (k + 1))).flatten) := by
    have := flat_split (gcs_at hy)
    rw [this]
    simp [gcs, List.map_take, List.map_drop]
  have hlen : (rows.take k ++ rows.drop (k + 1)).length = k + m := by rw [List.length_append, List.length_take, List.length_drop]; omega
  obtain ⟨hl0, ⟨e, -⟩ | ⟨g', cap, cur, e, hB, hh, hnc, hcm, hcs, htk⟩⟩ := h
  · cases e
  injection e with e1 _ e3
  injection e1 with e1
  injection e1 with e1
  subst e1 e3
  obtain ⟨rest, hrest⟩ : ∃ rest, cur.toList = (gcs (rows.take k)).flatten ++ ((gc y ++ (gcs (rows.drop (k + 1))).flatten) ++ rest) := ⟨cur.toList.drop (rows.length * 18), by rw [← List.append_assoc, ← hsp, ← htk, List.take_append_drop]⟩
  have hnc' : k + 1 + m ≤ c := by omega
  have hbl := hh
  have hcell : ∀ j u, (gcs (rows.drop (k + 1))).flatten[j]? = some u → w.cell? ⟨g, (k + 1) * 18 + j, none⟩ = some u := fun j u hj => by
    rw [cell_of hh, ← Array.getElem?_toList, hrest, List.getElem?_append_right (by omega), hpl, List.append_assoc, List.getElem?_append_right (by rw [gc_len]; omega), gc_len, show (k + 1) * 18 + j - k * 18 - 18 = j from by omega, List.getElem?_append_left (List.getElem?_eq_some_iff.1 hj).1]
    exact hj
  obtain ⟨adr, hif, hnw⟩ : ∃ adr : Addr, (if c = k + 1 then some (⟨g, 0, none⟩ : Addr) else some ⟨g, (k + 1) * 18, none⟩) = some adr ∧ ∀ j u, (gcs (rows.drop (k + 1))).flatten[j]? = some u → w.cell? (adr.add j) = some u := by
    by_cases hc : c = k + 1
    · refine ⟨_, if_pos hc, fun j u hj => ?_⟩
      have := (List.getElem?_eq_some_iff.1 hj).1
      omega
    · exact ⟨_, if_neg hc, fun j u hj => by rw [add_at]; exact hcell j u hj⟩
  have hon : ∀ u ∈ (gcs (rows.drop (k + 1))).flatten, u.oneCell' = true := by
    intro u hu
    obtain ⟨r, hr, hu⟩ := List.mem_flatten.1 hu
    simp only [gcs, List.mem_map] at hr
    obtain ⟨x, -, rfl⟩ := hr
    exact gc_one x u hu
  have hth : ∀ j, j < (gcs (rows.drop (k + 1))).flatten.length → (w.cell? ⟨g, 0 + k * 18 + j, none⟩).isSome = true ∧ w.frozen? ⟨g, 0 + k * 18 + j, none⟩ = false := fun j hj => block_there (o := 0) (n := c * 18) hh (by omega) (0 + k * 18 + j) (by omega) |> fun h => by simpa using h
  -- what is there behind the two stores
  have h1 : (w.drew.setCells g (0 + k * 18) (gcs (rows.drop (k + 1))).flatten).heap[g]? = some (.cells ((gcs (rows.take k)).flatten ++ ((gcs (rows.drop (k + 1))).flatten ++ ((gc y ++ (gcs (rows.drop (k + 1))).flatten) ++ rest).drop (m * 18))).toArray 54 (0, 0)) := by
    have hb : w.drew.heap[g]? = some (.cells ((gcs (rows.take k)).flatten ++ (((gc y ++ (gcs (rows.drop (k + 1))).flatten) ++ rest).take (m * 18) ++ ((gc y ++ (gcs (rows.drop (k + 1))).flatten) ++ rest).drop (m * 18))).toArray 54 (0, 0)) := by
      rw [show w.drew.heap[g]? = w.heap[g]? from rfl, hh, List.take_append_drop]
      congr 2
      apply Array.ext'
      rw [List.toList_toArray]
      exact hrest
    have := heap_setCells (T := 54) (gcs (rows.drop (k + 1))).flatten w.drew _ _ _ (by rw [List.length_take, hfl]; simp only [List.length_append, gc_len, hfl]; omega) hb
    rw [hpl] at this
    rw [Nat.zero_add]
    exact this
  have hfin : ∀ w1 : World, w1 = w.drew.setCells g (0 + k * 18) (gcs (rows.drop (k + 1))).flatten → w1.there g ((k + m) * 18) 18 ∧ OwnGr (w1.setCells g ((k + m) * 18) z18) B (.slice (some ⟨g, 0, none⟩) (k + m) c) (rows.take k ++ rows.drop (k + 1)) ∧ w.grownBy (w1.setCells g ((k + m) * 18) z18) (some g) := by
    rintro w1 rfl
    obtain ⟨X, hX⟩ : ∃ X, X = ((gc y ++ (gcs (rows.drop (k + 1))).flatten) ++ rest).drop (m * 18) := ⟨_, rfl⟩
    have hXl : X.length = (gc y).length + rest.length := by rw [hX, List.length_drop, List.length_append, List.length_append, hfl]; omega
    rw [gc_len] at hXl
    have hcl : cur.toList.length = c * 18 := by simpa using hcs
    rw [hrest] at hcl
    simp only [List.length_append, hpl, hfl, gc_len] at hcl
    rw [← hX] at h1
    have h2 : (w.drew.setCells g (0 + k * 18) (gcs (rows.drop (k + 1))).flatten).heap[g]? = some (.cells (((gcs (rows.take k)).flatten ++ (gcs (rows.drop (k + 1))).flatten) ++ (X.take 18 ++ X.drop 18)).toArray 54 (0, 0)) := by
      rw [h1, List.take_append_drop, List.append_assoc]
    have h3 := heap_setCells (T := 54) z18 _ _ _ _ (by rw [List.length_take]; simp only [z18, List.length_cons, List.length_nil]; omega) h2
    rw [show ((gcs (rows.take k)).flatten ++ (gcs (rows.drop (k + 1))).flatten).length = (k + m) * 18 from by rw [List.length_append, hpl, hfl]; omega] at h3
    refine ⟨block_there h2 (by simp only [List.size_toArray, List.length_append, hpl, hfl, List.length_take, List.length_drop]; omega), ?_, grownBy_setCells _ _ (grownBy_setCells _ _ ⟨rfl, rfl, rfl, Nat.le_refl _, fun _ _ _ => rfl⟩)⟩
    unfold OwnGr
    rw [hlen]
    have hff : (gcs (rows.take k ++ rows.drop (k + 1))).flatten = (gcs (rows.take k)).flatten ++ (gcs (rows.drop (k + 1))).flatten := by rw [gcs_append, List.flatten_append]
    refine ⟨by rw [hff, List.length_append, hpl, hfl]; omega, .inr ⟨g, c, _, rfl, hB, h3, by omega, hcm, ?_, ?_⟩⟩
    · simp only [List.size_toArray, List.length_append, hpl, hfl, List.length_drop, z18, List.length_cons, List.length_nil]
      omega
    · rw [List.toList_toArray, hff, show (k + m) * 18 = ((gcs (rows.take k)).flatten ++ (gcs (rows.drop (k + 1))).flatten).length from by rw [List.length_append, hpl, hfl]; omega]
      exact List.take_left
  have HFIN := Lib.hid hfin
  have HFL := Lib.hid hfl
  have HNW := Lib.hid hnw
  have HON := Lib.hid hon
  have HTH := Lib.hid hth
  unfold DelPost
  rw [hlen]
  unfold maxLen at hcm
  have a1 : k ≤ c := by omega
  have a2 : k + 1 ≤ c := by omega
  have a4 : (k : Int) + 1 ≤ (k : Int) + 1 + (m : Int) := by omega
  have a5 : ((k : Int) + 1).toNat = k + 1 := by omega
  have a6 : (0 : Int) ≤ (k : Int) + 1 := by omega
  have a7 : ((k : Int) == (k : Int) + 1) = false := by simp; omega
  have a8 : ¬ c = k + m := by omega
  have a9 : k + 1 + m - (k + m) = 1 := by omega
  have b1 : (k : Int) + (m : Int) ≤ (k : Int) + 1 + (m : Int) := by omega
  have b2 : k + 1 + m - (k + 1) = m := by omega
  have b3 : ((k : Int) + (m : Int)).toNat = k + m := by omega
  have b4 : ((k : Int) + 1 + (m : Int)).toNat = k + 1 + m := by omega
  have b5 : (0 : Int) ≤ (k : Int) + (m : Int) := by omega
  have b6 : k + 1 ≤ k + 1 + m := by omega
  have b7 : (k : Int) ≤ (k : Int) + 1 := by omega
  clear hfin hfl hnw hon hth h1 hbl hcell hrest hh hcs htk hl0 hsp hpl hlen hw hy hn hl hz0 hz2
  go_enter Try.func31, Try.ntmps31
  go_wp2_with fail
  refine wp_region_held_drew (S := (fun _ => True)) (by kernel_rfl) trivial (fun hHeld => ?_)
  refine wpAnyH_take (i := 0) (oi := _) (v := ?_) rfl (by kernel_rfl) (by kernel_rfl) (by kernel_rfl) (fun _ _ _ h => h) (Or.inl ⟨by rfl, ?_⟩) (by assumption) ?_
  rotate_left
  · intro w hSw; clear hSw; first | (go_simp; done) | (go_simp; with_reducible rfl)
  simp only [Act.put, List.getElem_toArray, List.getElem_cons_succ, List.getElem_cons_zero, List.setIfInBounds_toArray, List.set_cons_zero, List.set_cons_succ]
  refine wpAnyH_take (i := 1) (oi := _) (v := ?_) rfl (by kernel_rfl) (by kernel_rfl) (by kernel_rfl) (fun _ _ _ h => h) (Or.inl ⟨by rfl, ?_⟩) (by assumption) ?_
  rotate_left
  · intro w hSw; clear hSw; first | (go_simp; done) | (go_simp; with_reducible rfl)
  simp only [Act.put, List.getElem_toArray, List.getElem_cons_succ, List.getElem_cons_zero, List.setIfInBounds_toArray, List.set_cons_zero, List.set_cons_succ]
  refine wpAnyH_take (i := 2) (oi := _) (v := ?_) rfl (by kernel_rfl) (by kernel_rfl) (by kernel_rfl) (fun _ _ _ h => h) (Or.inl ⟨by rfl, ?_⟩) (by assumption) ?_
  rotate_left
  · intro w hSw; clear hSw; first | (go_simp; done) | (go_simp; with_reducible rfl)
  simp only [Act.put, List.getElem_toArray, List.getElem_cons_succ, List.getElem_cons_zero, List.setIfInBounds_toArray, List.set_cons_zero, List.set_cons_succ]
  refine wpAnyH_take (i := 3) (oi := _) (v := ?_) rfl (by kernel_rfl) (by kernel_rfl) (by kernel_rfl) (fun _ _ _ h => h) (Or.inl ⟨by rfl, ?_⟩) (by assumption) ?_
  rotate_left
  · intro w hSw; clear hSw; first | (go_simp; done) | (go_simp; with_reducible rfl)
  simp only [Act.put, List.getElem_toArray, List.getElem_cons_succ, List.getElem_cons_zero, List.setIfInBounds_toArray, List.set_cons_zero, List.set_cons_succ]
  refine wpAnyH_take (i := 4) (oi := _) (v := ?_) rfl (by kernel_rfl) (by kernel_rfl) (by kernel_rfl) (fun _ _ _ h => h) (Or.inl ⟨by rfl, ?_⟩) (by assumption) ?_
  rotate_left
  · intro w hSw; clear hSw; first | (go_simp; done) | (go_simp; with_reducible rfl)
  simp only [Act.put, List.getElem_toArray, List.getElem_cons_succ, List.getElem_cons_zero, List.setIfInBounds_toArray, List.set_cons_zero, List.set_cons_succ]
  refine wpAnyH_take (i := 5) (oi := _) (v := ?_) rfl (by kernel_rfl) (by kernel_rfl) (by kernel_rfl) (fun _ _ _ h => h) (Or.inl ⟨by rfl, ?_⟩) (by assumption) ?_
  rotate_left
  · intro w hSw; clear hSw; first | (go_simp; done) | (go_simp; with_reducible rfl)
  simp only [Act.put, List.getElem_toArray, List.getElem_cons_succ, List.getElem_cons_zero, List.setIfInBounds_toArray, List.set_cons_zero, List.set_cons_succ]
  refine wpAnyH_ready (rs := [6]) (by kernel_rfl) (by simp) ?_
  refine AllReadyH.cons (o := _) rfl (fun K hK => ?_) AllReadyH.nil
  refine step_append_room rfl (.tmp 22) (.tmp 25) 32 rfl 54 i0 18 Try.underlying32 hi hz1 g 0 k c (by first | rfl | simp [Act.eval, Act.put]) adr m (c - (k + 1)) (gcs (rows.drop (k + 1))).flatten (by first | rfl | simp [Act.eval, Act.put]) HFL.out HNW.out HON.out (by omega) HTH.out ?_
  refine hK.out _ _ trivial (fun _ => ?_)
  clear hK K
  try simp only [Act.put, List.getElem_toArray, List.getElem_cons_succ, List.getElem_cons_zero, List.setIfInBounds_toArray, List.set_cons_zero, List.set_cons_succ]
  refine wpAnyH_take (i := 7) (oi := _) (v := ?_) rfl (by kernel_rfl) (by kernel_rfl) (by kernel_rfl) (fun _ _ _ h => h) (Or.inl ⟨by rfl, ?_⟩) (by assumption) ?_
  rotate_left
  · intro w hSw; clear hSw; first | (go_simp; done) | (go_simp; with_reducible rfl)
  simp only [Act.put, List.getElem_toArray, List.getElem_cons_succ, List.getElem_cons_zero, List.setIfInBounds_toArray, List.set_cons_zero, List.set_cons_succ]
  refine wpAnyH_done (by kernel_rfl) ?_ _
  obtain ⟨hthr, hO, hgr⟩ := HFIN.out _ rfl
  rw [Nat.zero_add] at hthr hO hgr
  have hcl := fun ty => run_clearG _ ty g ((k + m) * 18) (c - (k + m)) hthr
  go_wp2_with (first | (simp only [hcl]) | fail)
  go_ret
  exact ⟨rfl, hO, hgr⟩
end Go.Proofs.Ytnpehlghbfmbaaa
