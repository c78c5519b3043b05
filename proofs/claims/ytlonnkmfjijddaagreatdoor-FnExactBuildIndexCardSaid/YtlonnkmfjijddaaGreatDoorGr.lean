/- Contracts: grants: the laws' own helpers. -/
import Derived.Test.YtlonnkmfjijddaaGreatDoorRArms2
import Derived.Test.YtlonnkmfjijddaaGreatDoorRAOpen
namespace Go.Proofs.YtlonnkmfjijddaaGreatDoor
open Go.ChangeShapes Go.WideShapes Go.ChangeAt Go.RowKit
set_option linter.unusedVariables false
set_option linter.unusedSimpArgs false

theorem rangeAt_blk {w : World} {g : Nat} {cs : List Value} {T : TypeId} (h : w.heap[g]? = some (.cells cs.toArray T (0, 0))) : w.rangeAt g 0 cs := fun j v hv => by
  rw [Nat.zero_add, cell_of h]
  simpa using hv
theorem rangeAt_part {w : World} {b o : Nat} {pre cs : List Value} (h : w.rangeAt b o (pre ++ cs)) : w.rangeAt b (o + pre.length) cs := fun j v hv => by
  have := h (pre.length + j) v (by rw [List.getElem?_append_right (by omega), Nat.add_sub_cancel_left]; exact hv)
  rwa [← Nat.add_assoc] at this
theorem heap_setCells_far {g k : Nat} (hk : k ≠ g) : ∀ (vs : List Value) (o : Nat) (w : World), (w.setCells g o vs).heap[k]? = w.heap[k]?
  | [], _, _ => rfl
  | v :: vs, o, w => by
    rw [World.setCells, heap_setCells_far hk vs, heap_far _ _ _ _ hk]
theorem OwnR.far {K : Nat} {w : World} {B g : Nat} {T : TypeId} {rows : List (List Value)} {rest : List Value} (h : OwnR K w B g T rows rest) (p : Addr) (v : Value) (hne : g ≠ p.block) : OwnR K (w.setCell p v) B g T rows rest := ⟨(heap_far _ _ _ _ hne).trans h.blk, h.low, h.wid⟩
theorem OwnR.base {K : Nat} {w : World} {B B' g : Nat} {T : TypeId} {rows : List (List Value)} {rest : List Value} (h : OwnR K w B g T rows rest) (hB : B' ≤ B) : OwnR K w B' g T rows rest := ⟨h.blk, Nat.le_trans hB h.low, h.wid⟩
/-- A grant: number, name, year, arms. -/
structure GrantD where
  n : Int
  s : ByteArray
  y : Int
  a : ArmsD
def z15 : List Value := [.int .i64 0, .int .i64 0, .int .i64 0, .int .i64 0, .int .i64 0, .int .i64 0, .int .i64 0, .int .i64 0, .int .i64 0, .int .i64 0, .int .i64 0, .int .i64 0, .int .i64 0, .int .i64 0, .int .i64 0]
def z18 : List Value := [.int .i64 0, .string ⟨#[]⟩, .int .i64 0, .int .i64 0, .int .i64 0, .int .i64 0, .int .i64 0, .int .i64 0, .int .i64 0, .int .i64 0, .int .i64 0, .int .i64 0, .int .i64 0, .int .i64 0, .int .i64 0, .int .i64 0, .int .i64 0, .int .i64 0]
def gp (g : GrantD) : List Value := [.int .i64 g.n, .string g.s, .int .i64 g.y]
/-- The cells of a grant. -/
def gc (g : GrantD) : List Value := gp g ++ ac g.a
theorem gc_len (g : GrantD) : (gc g).length = 18 := rfl
theorem gc_one (g : GrantD) : ∀ v ∈ gc g, v.oneCell' = true := by
  intro v hv
  rcases List.mem_append.1 hv with h | h
  · simp only [gp, List.mem_cons, List.not_mem_nil, or_false] at h
    rcases h with rfl | rfl | rfl <;> rfl
  · exact ac_one g.a v h
def gcs (rows : List GrantD) : List (List Value) := rows.map gc
theorem gcs_at {rows : List GrantD} {k : Nat} {g : GrantD} (h : rows[k]? = some g) : (gcs rows)[k]? = some (gc g) := by simp [gcs, h]
theorem gcs_len (rows : List GrantD) : (gcs rows).length = rows.length := by simp [gcs]
theorem grant_at {rows : List GrantD} {k : Nat} (h : k < rows.length) : ∃ g, rows[k]? = some g := ⟨_, List.getElem?_eq_getElem h⟩
theorem gcs_wid (rows : List GrantD) : ∀ row ∈ gcs rows, row.length = 18 := by
  intro row h
  simp only [gcs, List.mem_map] at h
  obtain ⟨a, -, rfl⟩ := h
  rfl
theorem RdR.grants {w : World} {A : Option Addr} {rows : List GrantD} (h : RdR 18 w A (gcs rows)) {k : Nat} {g : GrantD} (hk : rows[k]? = some g) :
    ∃ b off, A = some ⟨b, off, none⟩ ∧ w.rangeAt b (off + k * 18) (gc g) ∧ b < w.heap.size := h k _ (gcs_at hk)
theorem gc_cells {w : World} {g : GrantD} {b o : Nat} (h : w.rangeAt b o (gc g)) : w.cell? ⟨b, o, none⟩ = some (.int .i64 g.n) ∧ w.cell? ⟨b, o + 1, none⟩ = some (.string g.s) ∧ w.cell? ⟨b, o + 2, none⟩ = some (.int .i64 g.y) ∧ w.rangeAt b (o + 3) (ac g.a) :=
  ⟨h 0 _ rfl, h 1 _ rfl, h 2 _ rfl, rangeAt_part (pre := gp g) h⟩
theorem gblk_cells {w : World} {g : GrantD} {b : Nat} {T : TypeId} (h : w.heap[b]? = some (.cells (gc g).toArray T (0, 0))) : w.cell? ⟨b, 0, none⟩ = some (.int .i64 g.n) ∧ w.cell? ⟨b, 1, none⟩ = some (.string g.s) ∧ w.cell? ⟨b, 2, none⟩ = some (.int .i64 g.y) ∧ w.rangeAt b 3 (ac g.a) := by
  have h1 := gc_cells (rangeAt_blk h)
  rwa [Nat.zero_add, Nat.zero_add, Nat.zero_add] at h1
section
variable {P : Program} {ops : Array Oper} {rest : List Oper} {op : Oper} {a : Act} {w : World} {Q : Exit → Act → World → Prop}
/-- A part of a block of the call's own is stored. -/
theorem wpList_store_part (hgd : op.guard = none) (ty : TypeId) (x y : Operand) (ho : op.op = .store ty x y) (g : Nat) (T : TypeId) (pre old post row : List Value) (hg : w.heap[g]? = some (.cells (pre ++ (old ++ post)).toArray T (0, 0))) (hl : row.length = old.length)
    (o : Nat) (hx : a.eval x = .pointer (some ⟨g, o, none⟩)) (he : o = pre.length) (hy : a.eval y = .agg row.toArray) (hi : (P.info? ty).map (·.size) = some row.length) (h1 : ∀ v ∈ row, v.oneCell' = true)
    (hK : ∀ w', w'.heap[g]? = some (.cells (pre ++ (row ++ post)).toArray T (0, 0)) → w'.heap.size = w.heap.size → (∀ B W, B ≤ g → Below B W w → Below B W w') → (∀ k, k ≠ g → w'.heap[k]? = w.heap[k]?) → wpList P ops Q rest (a.put op.dst undef) w') : wpList P ops Q (op :: rest) a w := by
  subst he
  refine wpList_store_mid hgd ty x y ho g _ row.toArray hx hy ?_ (by simpa using hi) (all_oneCell_toArray h1) (hK _ ?_ ?_ ?_ ?_)
  · exact block_there hg (by simp; omega)
  · rw [List.toList_toArray]
    exact heap_setCells row w pre old post hl hg
  · rw [List.toList_toArray, size_setCells]
  · intro B W hB hW
    rw [List.toList_toArray]
    exact Below.setCells hB _ _ hW
  · intro k hk
    rw [List.toList_toArray]
    exact heap_setCells_far hk _ _ _
end
theorem info_gc (g : GrantD) : (Tryz.prog.info? 49).map (·.size) = some (gc g).length := by
  rw [gc_len]
  kernel_rfl
theorem info_gcz : (Tryz.prog.info? 49).map (fun i => (i.zero, i.size, i.bytes)) = some (some (.agg #[.int .i64 0, .string ⟨#[]⟩, .int .i64 0, .int .i64 0, .int .i64 0, .int .i64 0, .int .i64 0, .int .i64 0, .int .i64 0, .int .i64 0, .int .i64 0, .int .i64 0, .int .i64 0, .int .i64 0, .int .i64 0, .int .i64 0, .int .i64 0, .int .i64 0]), 18, 152) := by kernel_rfl
theorem info_gcL (g : GrantD) : (Tryz.prog.info? 71).map (·.size) = some (gc g).length := by
  rw [gc_len]
  kernel_rfl
section
variable {ops : Array Oper} {rest : List Oper} {op : Oper} {a : Act} {w : World} {Q : Exit → Act → World → Prop}
theorem ldA (hgd : op.guard = none) (x : Operand) (ho : op.op = .load 47 x) (b o : Nat) (hx : a.eval x = .pointer (some ⟨b, o, none⟩)) (ad : ArmsD) (hc : w.rangeAt b o (ac ad))
    (h : wpList Tryz.prog ops Q rest (a.put op.dst (.agg (ac ad).toArray)) w) : wpList Tryz.prog ops Q (op :: rest) a w :=
  wpList_load_mid hgd _ x ho b o hx (ac ad) _ hc Tryz.underlying47 rfl (info_ac ad) h
theorem ldAL (hgd : op.guard = none) (x : Operand) (ho : op.op = .load 69 x) (b o : Nat) (hx : a.eval x = .pointer (some ⟨b, o, none⟩)) (ad : ArmsD) (hc : w.rangeAt b o (ac ad))
    (h : wpList Tryz.prog ops Q rest (a.put op.dst (.agg (ac ad).toArray)) w) : wpList Tryz.prog ops Q (op :: rest) a w :=
  wpList_load_mid hgd _ x ho b o hx (ac ad) _ hc Tryz.underlying69 rfl (info_acL ad) h
theorem ldG (hgd : op.guard = none) (x : Operand) (ho : op.op = .load 49 x) (b o : Nat) (hx : a.eval x = .pointer (some ⟨b, o, none⟩)) (g : GrantD) (hc : w.rangeAt b o (gc g))
    (h : wpList Tryz.prog ops Q rest (a.put op.dst (.agg (gc g).toArray)) w) : wpList Tryz.prog ops Q (op :: rest) a w :=
  wpList_load_mid hgd _ x ho b o hx (gc g) _ hc Tryz.underlying49 rfl (info_gc g) h
theorem ldGL (hgd : op.guard = none) (x : Operand) (ho : op.op = .load 71 x) (b o : Nat) (hx : a.eval x = .pointer (some ⟨b, o, none⟩)) (g : GrantD) (hc : w.rangeAt b o (gc g))
    (h : wpList Tryz.prog ops Q rest (a.put op.dst (.agg (gc g).toArray)) w) : wpList Tryz.prog ops Q (op :: rest) a w :=
  wpList_load_mid hgd _ x ho b o hx (gc g) _ hc Tryz.underlying71 rfl (info_gcL g) h
/-- A grant stored into a variable of the call's own that holds the zero grant. -/
theorem stG (hgd : op.guard = none) (x y : Operand) (ho : op.op = .store 49 x y) (b : Nat) (hx : a.eval x = .pointer (some ⟨b, 0, none⟩)) (g : GrantD) (hy : a.eval y = .agg (gc g).toArray) (old : List Value) (hg : w.heap[b]? = some (.cells old.toArray 49 (0, 0))) (hl : 18 = old.length)
    (hK : ∀ w', w'.heap[b]? = some (.cells (gc g).toArray 49 (0, 0)) → w'.heap.size = w.heap.size → (∀ B W, B ≤ b → Below B W w → Below B W w') → (∀ k, k ≠ b → w'.heap[k]? = w.heap[k]?) → wpList Tryz.prog ops Q rest (a.put op.dst undef) w') : wpList Tryz.prog ops Q (op :: rest) a w :=
  wpList_store_part hgd _ x y ho b 49 [] old [] (gc g) (by simpa using hg) (by rw [gc_len]; exact hl) 0 hx rfl hy (info_gc g) (gc_one g) fun w' h1 h2 h3 h4 => hK w' (by simpa using h1) h2 h3 h4
end
set_option maxHeartbeats 2000000 in
theorem toGrantC (g : GrantD) (w : World) : Calls Tryz.prog 36 #[.agg (gc g).toArray] w fun e w' => e = .returned (.agg (gc g).toArray) ∧ Below w.heap.size w w' := by
  show Calls Tryz.prog 36 #[.agg #[.int .i64 g.n, .string g.s, .int .i64 g.y, .int .i64 g.a.d, .int .i64 g.a.l, .int .i64 g.a.p, .int .i64 g.a.q, .int .i64 g.a.o, .int .i64 g.a.li, .int .i64 g.a.t, .int .i64 g.a.c1, .int .i64 g.a.k1, .int .i64 g.a.a1, .int .i64 g.a.t1, .int .i64 g.a.c2, .int .i64 g.a.k2, .int .i64 g.a.a2, .int .i64 g.a.t2]] w _
  go_enter Tryz.func36, Tryz.ntmps36
  go_wp2_with fail
  refine (toArmsC g.a _).mono ?_
  rintro e w1 ⟨rfl, hb1⟩
  have hF3 : w1.heap[w.heap.size + 1 + 1]? = some (.cells (gp g ++ (z15 ++ [])).toArray 49 (0, 0)) := heap_keepB (heap_hit _ _ _ (by simp)) hb1
  have hF2 : w1.heap[w.heap.size + 1]? = some (.cells z18.toArray 49 (0, 0)) := heap_keepB (heap_keepA (heap_hit _ _ _ (by simp)) _) hb1
  have hT : Below w.heap.size w w1 := by (repeat (first | exact Below.refl _ _ | assumption | refine Below_al ?_ _ | refine Below.drew ?_ | refine Below_then ?_ (by assumption) | refine Below.setCell ?_ (by first | omega | (simp; done) | (simp; omega)) _))
  clear hb1
  go_wp2_with (first | (refine wpList_store_part rfl 47 _ _ rfl (w.heap.size + 1 + 1) 49 (gp g) _ [] (ac g.a) hF3 (ac_len g.a) _ rfl rfl rfl (info_ac g.a) (ac_one g.a) ?_; intro w4 h41 h42 h43 h44; have hT := h43 _ _ (by omega) hT; have hF2 := (h44 _ (by omega)).trans hF2; have h45 : w4.heap[w.heap.size + 1 + 1]? = some (.cells (gc g).toArray 49 (0, 0)) := by rw [h41, List.append_nil]; rfl) | (refine ldG rfl _ rfl _ _ rfl g (rangeAt_blk (by assumption)) ?_) | (refine stG rfl _ _ rfl (w.heap.size + 1) rfl g rfl _ (by assumption) rfl ?_; intro w5 h51 h52 h53 h54; have hT := h53 _ _ (by omega) hT) | fail)
  exact bodyPost_ret (v := .agg (gc g).toArray) (results_cell_row Tryz.results36 _ _ (w.heap.size + 1) 49 (gc g).toArray (0, 0) _ rfl h51 Tryz.underlying49 rfl (info_gc g)) rfl ⟨rfl, hT⟩
def ToGr (w : World) (rows : List GrantD) (e : Ending) (w' : World) : Prop :=
  ∃ g, e = .returned (.slice (some ⟨g, 0, none⟩) rows.length rows.length) ∧ OwnR 18 w' w.heap.size g 49 (gcs rows) [] ∧ Below w.heap.size w w'
set_option maxHeartbeats 1000000 in
theorem toGrantS_any (A : Option Addr) (c : Nat) (rows : List GrantD) (w : World) (h : RdR 18 w A (gcs rows)) (hl : rows.length ≤ 1048576) : Calls Tryz.prog 18 #[.slice A rows.length c] w (ToGr w rows) := by
  obtain ⟨i0, hi, hz0, hz1, hz2⟩ := info_parts info_gcz
  go_enter Tryz.func18, Tryz.ntmps18
  go_wp2_with (first | (at_make; refine wpList_make_full _ rfl _ _ 29 rfl w.heap.size 49 i0 _ 18 Tryz.underlying29 hi hz0 hz1 .i64 .i64 _ _ rows.length rfl rfl rfl rfl ?c1 ?c2 (Nat.le_refl _) ?_) | fail)
  case c1 => rw [hz2]; omega
  case c2 => unfold maxLen; omega
  intro w1 hown hgr
  obtain ⟨left, hln, hblk⟩ : ∃ left : List Value, left.length = rows.length * 18 ∧ w1.heap[w.heap.size]? = some (.cells left.toArray 49 (0, 0)) := ⟨_, by rw [Array.length_toList, size_madeCells], blk_of_ownsK hown⟩
  have hst : OwnR 18 w1 w.heap.size w.heap.size 49 (gcs (rows.take 0)) left := ⟨by simpa [gcs] using hblk, Nat.le_refl _, gcs_wid _⟩
  have hb1 := below_of_none hgr
  clear hown hgr hblk
  go_wp2_with fail
  go_loopw [4] (fun i wr => ∃ (k : Nat) (lf : List Value), k ≤ rows.length ∧ i = .int .i64 k ∧ OwnR 18 wr w.heap.size w.heap.size 49 (gcs (rows.take k)) lf ∧ lf.length = (rows.length - k) * 18 ∧ Below w.heap.size w wr) (fun i _ => rows.length - (intOf i).toNat)
  case atStart => exact ⟨0, left, Nat.zero_le _, rfl, hst, hln, hb1⟩
  case round =>
    clear hst hb1 hln
    obtain ⟨k, lf, hk, rfl, hst, hlf, hb⟩ := hrel
    by_cases hlt : k < rows.length
    · obtain ⟨a, ha⟩ := grant_at hlt
      obtain ⟨b, off, rfl, hr, -⟩ := (h.below hb).grants ha
      have i1 : (k : Int) < (rows.length : Int) := by omega
      have d1 : decide (k < rows.length) = true := by simpa using hlt
      have HA := Lib.hid ha
      have HST := Lib.hid hst
      clear ha hst
      go_wp2_with (refine ldGL rfl _ rfl b _ rfl a hr ?_)
      refine (toGrantC a _).mono ?_
      rintro e w2 ⟨rfl, hb2⟩
      have hst := HST.out.below hb2
      have hb3 := Below_then hb hb2
      have htl : (gcs (rows.take k)).length = k := by rw [gcs_len, List.length_take]; omega
      clear hb2
      go_wp2_with (refine wpList_store_snoc rfl _ _ _ rfl 18 w.heap.size w.heap.size 49 (gcs (rows.take k)) lf (gc a) hst (gc_len a) (by omega) _ rfl (by rw [htl]) rfl (info_gc a) (gc_one a) ?_)
      intro w4 hst4 hW
      have hb4 := hW _ hb3
      have HST4 := Lib.hid hst4
      clear hst hst4 hW hb3 htl
      go_wp2
      go_roundw
      case rel =>
        refine ⟨k + 1, lf.drop 18, by omega, by go_num, ?_, ?_, hb4⟩
        · have := HST4.out
          rw [List.take_add_one, HA.out]
          simpa [gcs] using this
        · rw [List.length_drop]
          omega
      case measure => simp [intOf]; omega
    · obtain rfl : k = rows.length := by omega
      have d1 : decide (rows.length < rows.length) = false := by simp
      rw [List.take_length] at hst
      have : lf = [] := List.eq_nil_of_length_eq_zero (by simpa using hlf)
      subst this
      go_wp2
      go_ret
      exact ⟨_, rfl, hst, hb⟩
/-- A register in new memory. -/
def ToReg (w : World) (rows : List GrantD) (e : Ending) (w' : World) : Prop :=
  ∃ g, e = .returned (.agg #[.slice (some ⟨g, 0, none⟩) rows.length rows.length]) ∧ OwnR 18 w' w.heap.size g 49 (gcs rows) [] ∧ Below w.heap.size w w'
theorem toRegister_any (A : Option Addr) (c : Nat) (rows : List GrantD) (w : World) (h : RdR 18 w A (gcs rows)) (hl : rows.length ≤ 1048576) : Calls Tryz.prog 6 #[.agg #[.slice A rows.length c]] w (ToReg w rows) := by
  have K := fun (w' : World) (hb : Below w.heap.size w w') => toGrantS_any A c rows w' (h.below hb) hl
  have K' := Lib.hid K
  clear K h
  go_enter Tryz.func6, Tryz.ntmps6
  go_wp2_with fail
  refine (K'.out _ (by (repeat (first | exact Below.refl _ _ | assumption | refine Below_al ?_ _ | refine Below.drew ?_ | refine Below_then ?_ (by assumption) | refine Below.setCell ?_ (by first | omega | (simp; done) | (simp; omega)) _)))).mono ?_
  rintro e w1 ⟨g, rfl, ho, hb⟩
  obtain ⟨hc1, hf1⟩ := bcell hb
  have hz : w.heap.size + 1 + 1 < w1.heap.size := Nat.lt_of_lt_of_le (by first | omega | (simp; done) | (simp; omega)) hb.size
  have hz1 : w.heap.size + 1 < w1.heap.size := by omega
  have hlow : w.heap.size + 1 + 1 + 1 ≤ g := by have := ho.low; simpa using this
  have ho2 := (ho.far ⟨w.heap.size + 1 + 1, 0, none⟩ (.slice (some ⟨g, 0, none⟩) rows.length rows.length) (by simp; omega)).far ⟨w.heap.size + 1, 0, none⟩ (.slice (some ⟨g, 0, none⟩) rows.length rows.length) (by simp; omega)
  have HO := Lib.hid (ho2.base (B' := w.heap.size) (by simp; omega))
  clear ho ho2 hlow
  go_wp2
  exact bodyPost_ret (v := .agg #[.slice (some ⟨g, 0, none⟩) rows.length rows.length]) (by simp [results, Tryz.results6, go_sem, hc1, hz, hz1]) rfl ⟨_, rfl, HO.out, by (repeat (first | exact Below.refl _ _ | assumption | refine Below_al ?_ _ | refine Below.drew ?_ | refine Below_then ?_ (by assumption) | refine Below.setCell ?_ (by first | omega | (simp; done) | (simp; omega)) _))⟩
set_option maxHeartbeats 4000000 in
theorem eqGrantC (g : GrantD) (w : World) : Calls Tryz.prog 49 #[.agg (gc g).toArray, .agg (gc g).toArray] w fun e w' => e = .returned (.bool true) ∧ Below w.heap.size w w' := by
  show Calls Tryz.prog 49 #[.agg #[.int .i64 g.n, .string g.s, .int .i64 g.y, .int .i64 g.a.d, .int .i64 g.a.l, .int .i64 g.a.p, .int .i64 g.a.q, .int .i64 g.a.o, .int .i64 g.a.li, .int .i64 g.a.t, .int .i64 g.a.c1, .int .i64 g.a.k1, .int .i64 g.a.a1, .int .i64 g.a.t1, .int .i64 g.a.c2, .int .i64 g.a.k2, .int .i64 g.a.a2, .int .i64 g.a.t2], .agg #[.int .i64 g.n, .string g.s, .int .i64 g.y, .int .i64 g.a.d, .int .i64 g.a.l, .int .i64 g.a.p, .int .i64 g.a.q, .int .i64 g.a.o, .int .i64 g.a.li, .int .i64 g.a.t, .int .i64 g.a.c1, .int .i64 g.a.k1, .int .i64 g.a.a1, .int .i64 g.a.t1, .int .i64 g.a.c2, .int .i64 g.a.k2, .int .i64 g.a.a2, .int .i64 g.a.t2]] w _
  go_enter Tryz.func49, Tryz.ntmps49
  go_wp2_with fail
  refine (eqArmsC g.a _).mono ?_
  rintro e w1 ⟨rfl, hb1⟩
  go_wp2
  go_ret
  exact ⟨rfl, by (repeat (first | exact Below.refl _ _ | assumption | refine Below_al ?_ _ | refine Below.drew ?_ | refine Below_then ?_ (by assumption) | refine Below.setCell ?_ (by first | omega | (simp; done) | (simp; omega)) _))⟩
theorem heldRRg {a w w' : World} {b o b' o' : Nat} {u u' : List Value} (h : w.rangeAt b o u ∧ w.rangeAt b' o' u' ∧ Below a.heap.size a w) (hb : Below w.heap.size w w') : w'.rangeAt b o u ∧ w'.rangeAt b' o' u' ∧ Below a.heap.size a w' :=
  ⟨rangeAt_below h.1 hb, rangeAt_below h.2.1 hb, Below_then h.2.2 hb⟩
set_option maxHeartbeats 1000000 in
theorem eqGrantS_same (A A' : Option Addr) (c c' : Nat) (rows : List GrantD) (w : World) (h1 : RdR 18 w A (gcs rows)) (h2 : RdR 18 w A' (gcs rows)) (hl : rows.length ≤ 1048576) :
    Calls Tryz.prog 25 #[.slice A rows.length c, .slice A' rows.length c'] w fun e w' => e = .returned (.bool true) ∧ Below w.heap.size w w' := by
  have hd : ((rows.length : Int) != (rows.length : Int)) = false := by simp
  go_enter Tryz.func25, Tryz.ntmps25
  go_wp2_with fail
  clear hd
  go_loopw [5] (fun i wr => ∃ k : Nat, k ≤ rows.length ∧ i = .int .i64 k ∧ Below w.heap.size w wr) (fun i _ => rows.length - (intOf i).toNat)
  case atStart => exact ⟨0, by omega, rfl, Below.refl _ _⟩
  case round =>
    obtain ⟨k, hk, rfl, hb⟩ := hrel
    by_cases hlt : k < rows.length
    · obtain ⟨a, ha⟩ := grant_at hlt
      obtain ⟨b, off, rfl, hr1, -⟩ := (h1.below hb).grants ha
      obtain ⟨b', off', rfl, hr2, -⟩ := (h2.below hb).grants ha
      have i1 : (k : Int) < (rows.length : Int) := by omega
      have d1 : decide (k < rows.length) = true := by simpa using hlt
      clear h1 h2
      go_wp2_with fail
      refine wp_region_noPanic ?_
      refine wp_region_held_drew (S := (fun w' => w'.rangeAt b (off + k * 18) (gc a) ∧ w'.rangeAt b' (off' + k * 18) (gc a) ∧ Below wr.heap.size wr w')) (by kernel_rfl) ⟨hr1, hr2, (Below.refl _ _).drew⟩ (fun hHeld => ?_)
      refine wpAnyH_take (i := 0) (oi := _) (v := ?_) rfl (by kernel_rfl) (by kernel_rfl) (by kernel_rfl) (fun _ _ _ h => h) (Or.inl ⟨by rfl, ?_⟩) (by assumption) ?_
      rotate_left
      · intro w hSw; clear hSw; first | (go_simp; done) | (go_simp; with_reducible rfl)
      simp only [Act.put, List.getElem_toArray, List.getElem_cons_succ, List.getElem_cons_zero, List.setIfInBounds_toArray, List.set_cons_zero, List.set_cons_succ]
      refine wpAnyH_take (i := 1) (oi := _) (v := ?_) rfl (by kernel_rfl) (by kernel_rfl) (by kernel_rfl) (fun _ _ _ h => h) (Or.inl ⟨by rfl, ?_⟩) (by assumption) ?_
      rotate_left
      · intro w hSw; clear hSw; first | (go_simp; done) | (go_simp; with_reducible rfl)
      simp only [Act.put, List.getElem_toArray, List.getElem_cons_succ, List.getElem_cons_zero, List.setIfInBounds_toArray, List.set_cons_zero, List.set_cons_succ]
      refine wpAnyH_take (i := 2) (oi := _) (v := ?_) rfl (by kernel_rfl) (by kernel_rfl) (by kernel_rfl) (fun _ _ _ h => h) (Or.inl ⟨by rfl, ?_⟩) (by assumption) ?_
      rotate_left
      · intro w hSw; clear hSw; first | (go_simp; done) | (go_simp; with_reducible rfl)
      simp only [Act.put, List.getElem_toArray, List.getElem_cons_succ, List.getElem_cons_zero, List.setIfInBounds_toArray, List.set_cons_zero, List.set_cons_succ]
      refine wpAnyH_take (i := 3) (oi := _) (v := _) rfl ?g1_1 ?g2_1 ?g3_1 (fun _ _ _ h => h) (yieldsIf_load_mid ?g4_1 _ _ rfl b ?oo_1 ?g5_1 (gc a) _ ?g6_1 Tryz.underlying49 rfl (info_gc a)) ?g7_1 ?_
      case g5_1 => rfl
      case g1_1 => kernel_rfl
      case g2_1 => kernel_rfl
      case g3_1 => kernel_rfl
      case g6_1 => exact (fun _ h => h.1)
      case g4_1 => kernel_rfl
      case g7_1 => assumption
      simp only [Act.put, List.getElem_toArray, List.getElem_cons_succ, List.getElem_cons_zero, List.setIfInBounds_toArray, List.set_cons_zero, List.set_cons_succ]
      refine wpAnyH_take (i := 4) (oi := _) (v := ?_) rfl (by kernel_rfl) (by kernel_rfl) (by kernel_rfl) (fun _ _ _ h => h) (Or.inl ⟨by rfl, ?_⟩) (by assumption) ?_
      rotate_left
      · intro w hSw; clear hSw; first | (go_simp; done) | (go_simp; with_reducible rfl)
      simp only [Act.put, List.getElem_toArray, List.getElem_cons_succ, List.getElem_cons_zero, List.setIfInBounds_toArray, List.set_cons_zero, List.set_cons_succ]
      refine wpAnyH_take (i := 5) (oi := _) (v := ?_) rfl (by kernel_rfl) (by kernel_rfl) (by kernel_rfl) (fun _ _ _ h => h) (Or.inl ⟨by rfl, ?_⟩) (by assumption) ?_
      rotate_left
      · intro w hSw; clear hSw; first | (go_simp; done) | (go_simp; with_reducible rfl)
      simp only [Act.put, List.getElem_toArray, List.getElem_cons_succ, List.getElem_cons_zero, List.setIfInBounds_toArray, List.set_cons_zero, List.set_cons_succ]
      refine wpAnyH_take (i := 6) (oi := _) (v := ?_) rfl (by kernel_rfl) (by kernel_rfl) (by kernel_rfl) (fun _ _ _ h => h) (Or.inl ⟨by rfl, ?_⟩) (by assumption) ?_
      rotate_left
      · intro w hSw; clear hSw; first | (go_simp; done) | (go_simp; with_reducible rfl)
      simp only [Act.put, List.getElem_toArray, List.getElem_cons_succ, List.getElem_cons_zero, List.setIfInBounds_toArray, List.set_cons_zero, List.set_cons_succ]
      refine wpAnyH_take (i := 7) (oi := _) (v := _) rfl ?g1_2 ?g2_2 ?g3_2 (fun _ _ _ h => h) (yieldsIf_load_mid ?g4_2 _ _ rfl b' ?oo_2 ?g5_2 (gc a) _ ?g6_2 Tryz.underlying49 rfl (info_gc a)) ?g7_2 ?_
      case g5_2 => rfl
      case g1_2 => kernel_rfl
      case g2_2 => kernel_rfl
      case g3_2 => kernel_rfl
      case g6_2 => exact (fun _ h => h.2.1)
      case g4_2 => kernel_rfl
      case g7_2 => assumption
      simp only [Act.put, List.getElem_toArray, List.getElem_cons_succ, List.getElem_cons_zero, List.setIfInBounds_toArray, List.set_cons_zero, List.set_cons_succ]
      refine wpAnyH_ready (rs := [8]) (by kernel_rfl) (by simp) ?_
      refine AllReadyH.cons (o := _) rfl (fun K hK => ?_) AllReadyH.nil
      go_simp
      refine (eqGrantC a _).mono ?_
      rintro e w1 ⟨rfl, hb1⟩
      go_wp2_with fail
      refine hK.out _ _ (heldRRg hHeld hb1) (fun hHeld => ?_)
      clear hK K
      try simp only [Act.put, List.getElem_toArray, List.getElem_cons_succ, List.getElem_cons_zero, List.setIfInBounds_toArray, List.set_cons_zero, List.set_cons_succ]
      refine wpAnyH_take (i := 9) (oi := _) (v := ?_) rfl (by kernel_rfl) (by kernel_rfl) (by kernel_rfl) (fun _ _ _ h => h) (Or.inl ⟨by rfl, ?_⟩) (by assumption) ?_
      rotate_left
      · intro w hSw; clear hSw; first | (go_simp; done) | (go_simp; with_reducible rfl)
      simp only [Act.put, List.getElem_toArray, List.getElem_cons_succ, List.getElem_cons_zero, List.setIfInBounds_toArray, List.set_cons_zero, List.set_cons_succ]
      refine wpAnyH_done (by kernel_rfl) ?_ _
      refine NoPanic.normal ?_
      go_wp2
      go_roundw
      case rel =>
        obtain ⟨-, -, sb⟩ : _ ∧ _ ∧ Below wr.heap.size wr _ := (by assumption)
        exact ⟨k + 1, by omega, by go_num, Below_then hb sb⟩
      case measure => simp [intOf]; omega
    · obtain rfl : k = rows.length := by omega
      have d1 : decide (rows.length < rows.length) = false := by simp
      go_wp2
      go_ret
      exact ⟨rfl, hb⟩
theorem eqRegister_same (A A' : Option Addr) (c c' : Nat) (rows : List GrantD) (w : World) (h1 : RdR 18 w A (gcs rows)) (h2 : RdR 18 w A' (gcs rows)) (hl : rows.length ≤ 1048576) :
    Calls Tryz.prog 9 #[.agg #[.slice A rows.length c], .agg #[.slice A' rows.length c']] w fun e w' => e = .returned (.bool true) ∧ Below w.heap.size w w' := by
  have K := fun (w' : World) (hb : Below w.heap.size w w') => eqGrantS_same A A' c c' rows w' (h1.below hb) (h2.below hb) hl
  have K' := Lib.hid K
  clear K h1 h2
  go_enter Tryz.func9, Tryz.ntmps9
  go_wp2_with fail
  refine (K'.out _ (by (repeat (first | exact Below.refl _ _ | assumption | refine Below_al ?_ _ | refine Below.drew ?_ | refine Below_then ?_ (by assumption) | refine Below.setCell ?_ (by first | omega | (simp; done) | (simp; omega)) _)))).mono ?_
  rintro e w1 ⟨rfl, hb1⟩
  go_wp2
  go_ret
  exact ⟨rfl, by (repeat (first | exact Below.refl _ _ | assumption | refine Below_al ?_ _ | refine Below.drew ?_ | refine Below_then ?_ (by assumption) | refine Below.setCell ?_ (by first | omega | (simp; done) | (simp; omega)) _))⟩
theorem szGrant_any (g : GrantD) (left : Int) (w : World) (h0 : 0 ≤ left) (h1 : left ≤ 1048576) (hs : g.s.size ≤ maxLen) :
    Calls Tryz.prog 30 #[.agg (gc g).toArray, .int .i64 left] w fun e w' => e = .returned (.int .i64 (if (g.s.size : Int) ≤ left then left - g.s.size else -1)) ∧ Below w.heap.size w w' := by
  unfold maxLen at hs
  show Calls Tryz.prog 30 #[.agg #[.int .i64 g.n, .string g.s, .int .i64 g.y, .int .i64 g.a.d, .int .i64 g.a.l, .int .i64 g.a.p, .int .i64 g.a.q, .int .i64 g.a.o, .int .i64 g.a.li, .int .i64 g.a.t, .int .i64 g.a.c1, .int .i64 g.a.k1, .int .i64 g.a.a1, .int .i64 g.a.t1, .int .i64 g.a.c2, .int .i64 g.a.k2, .int .i64 g.a.a2, .int .i64 g.a.t2], .int .i64 left] w _
  by_cases h : (g.s.size : Int) ≤ left
  all_goals
    go_enter Tryz.func30, Tryz.ntmps30
    go_wp2
    go_ret
    exact ⟨by first | rfl | simp, by (repeat (first | exact Below.refl _ _ | assumption | refine Below_al ?_ _ | refine Below.drew ?_ | refine Below_then ?_ (by assumption) | refine Below.setCell ?_ (by first | omega | (simp; done) | (simp; omega)) _))⟩
def SzR (w : World) (rows : List GrantD) (left : Int) (e : Ending) (w' : World) : Prop :=
  ∃ z : Int, e = .returned (.int .i64 z) ∧ (z = -1 ∨ (0 ≤ z ∧ z ≤ left ∧ rows.length ≤ 1048576)) ∧ Below w.heap.size w w'
set_option maxHeartbeats 1000000 in
theorem szGrantS_any (A : Option Addr) (c : Nat) (rows : List GrantD) (left : Int) (w : World) (h : RdR 18 w A (gcs rows)) (h0 : 0 ≤ left) (h1 : left ≤ 1048576) (hm : rows.length ≤ maxLen) (hr : ∀ g ∈ rows, g.s.size ≤ maxLen) :
    Calls Tryz.prog 13 #[.slice A rows.length c, .int .i64 left] w (SzR w rows left) := by
  unfold maxLen at hm
  have HR := Lib.hid hr
  clear hr
  by_cases hl : (rows.length : Int) ≤ left
  · go_enter Tryz.func13, Tryz.ntmps13
    go_wp2_with fail
    go_loopw [1, 5] (fun s i wr => ∃ (k : Nat) (z : Int), k ≤ rows.length ∧ i = .int .i64 k ∧ s = .int .i64 z ∧ 0 ≤ z ∧ z ≤ left ∧ Below w.heap.size w wr) (fun _ i _ => rows.length - (intOf i).toNat)
    case atStart => exact ⟨0, left - rows.length, by omega, rfl, rfl, by omega, by omega, Below.refl _ _⟩
    case round =>
      obtain ⟨k, z, hk, rfl, rfl, hz0, hz1, hb⟩ := hrel
      by_cases hlt : k < rows.length
      · obtain ⟨g, hg⟩ := grant_at hlt
        obtain ⟨b, off, rfl, hr1, -⟩ := (h.below hb).grants hg
        have d1 : decide (k < rows.length) = true := by simpa using hlt
        have i1 : (k : Int) < (rows.length : Int) := by omega
        have K := fun w => szGrant_any g z w hz0 (by omega) (HR.out g (List.mem_of_getElem? hg))
        obtain ⟨y, hy⟩ : ∃ y : Int, y = if (g.s.size : Int) ≤ z then z - g.s.size else -1 := ⟨_, rfl⟩
        rw [← hy] at K
        have K' := Lib.hid K
        clear K hg h
        by_cases hn : (g.s.size : Int) ≤ z
        · rw [if_pos hn] at hy
          have y0 : 0 ≤ y := by omega
          have y1 : y ≤ left := by omega
          clear hn hy
          go_wp2_with (first | (refine ldGL rfl _ rfl b _ rfl g hr1 ?_) | fail)
          refine (K'.out _).mono ?_
          rintro e w2 ⟨rfl, hb2⟩
          have hb3 := Below_then hb hb2
          clear hb2
          go_wp2
          go_roundw
          case rel => exact ⟨k + 1, y, by omega, by go_num, rfl, y0, y1, hb3⟩
          case measure => simp [intOf]; omega
        · rw [if_neg hn] at hy
          subst hy
          clear hn
          go_wp2_with (first | (refine ldGL rfl _ rfl b _ rfl g hr1 ?_) | fail)
          refine (K'.out _).mono ?_
          rintro e w2 ⟨rfl, hb2⟩
          go_wp2
          go_ret
          exact ⟨_, rfl, .inl rfl, Below_then hb hb2⟩
      · obtain rfl : k = rows.length := by omega
        have d1 : decide (rows.length < rows.length) = false := by simp
        go_wp2
        go_ret
        exact ⟨z, rfl, .inr ⟨hz0, hz1, by omega⟩, hb⟩
  · have hn : left - (rows.length : Int) < 0 := by omega
    go_enter Tryz.func13, Tryz.ntmps13
    go_wp2
    go_ret
    exact ⟨_, rfl, .inl rfl, Below.refl _ _⟩
theorem szRegister_any (A : Option Addr) (c : Nat) (rows : List GrantD) (left : Int) (w : World) (h : RdR 18 w A (gcs rows)) (h0 : 0 ≤ left) (h1 : left ≤ 1048576) (hm : rows.length ≤ maxLen) (hr : ∀ g ∈ rows, g.s.size ≤ maxLen) :
    Calls Tryz.prog 4 #[.agg #[.slice A rows.length c], .int .i64 left] w (SzR w rows left) := by
  have K := fun (w' : World) (hb : Below w.heap.size w w') => szGrantS_any A c rows left w' (h.below hb) h0 h1 hm hr
  have K' := Lib.hid K
  clear K h hr
  go_enter Tryz.func4, Tryz.ntmps4
  go_wp2_with fail
  refine (K'.out _ (by (repeat (first | exact Below.refl _ _ | assumption | refine Below_al ?_ _ | refine Below.drew ?_ | refine Below_then ?_ (by assumption) | refine Below.setCell ?_ (by first | omega | (simp; done) | (simp; omega)) _)))).mono ?_
  rintro e w1 ⟨z, rfl, hz, hb1⟩
  rcases hz with rfl | ⟨z0, z1, z2⟩
  · go_wp2
    go_ret
    exact ⟨_, rfl, .inl rfl, by (repeat (first | exact Below.refl _ _ | assumption | refine Below_al ?_ _ | refine Below.drew ?_ | refine Below_then ?_ (by assumption) | refine Below.setCell ?_ (by first | omega | (simp; done) | (simp; omega)) _))⟩
  · have hn : ¬ z < 0 := by omega
    go_wp2
    go_ret
    exact ⟨z, rfl, .inr ⟨z0, z1, z2⟩, by (repeat (first | exact Below.refl _ _ | assumption | refine Below_al ?_ _ | refine Below.drew ?_ | refine Below_then ?_ (by assumption) | refine Below.setCell ?_ (by first | omega | (simp; done) | (simp; omega)) _))⟩
end Go.Proofs.YtlonnkmfjijddaaGreatDoor
