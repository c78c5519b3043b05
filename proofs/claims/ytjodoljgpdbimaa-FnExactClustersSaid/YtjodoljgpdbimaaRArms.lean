/- Contracts: slices of arms: the laws' own helpers. -/
import Derived.Test.YtjodoljgpdbimaaRow
import Derived.Test.YtjodoljgpdbimaaToArms
import Derived.Test.YtjodoljgpdbimaaAOpen
import Derived.Test.YtjodoljgpdbimaaGMem
namespace Go.Proofs.Ytjodoljgpdbimaa
open Go.ChangeShapes Go.WideShapes Go.ChangeAt Go.RowKit
set_option linter.unusedVariables false

/-- The cells of arms. -/
def ac (a : ArmsD) : List Value := [.int .i64 a.d, .int .i64 a.l, .int .i64 a.p, .int .i64 a.q, .int .i64 a.o, .int .i64 a.li, .int .i64 a.t, .int .i64 a.c1, .int .i64 a.k1, .int .i64 a.a1, .int .i64 a.t1, .int .i64 a.c2, .int .i64 a.k2, .int .i64 a.a2, .int .i64 a.t2]
theorem ac_len (a : ArmsD) : (ac a).length = 15 := rfl
theorem ac_one (a : ArmsD) : ∀ v ∈ ac a, v.oneCell' = true := by
  intro v hv
  simp only [ac, List.mem_cons, List.not_mem_nil, or_false] at hv
  rcases hv with rfl | rfl | rfl | rfl | rfl | rfl | rfl | rfl | rfl | rfl | rfl | rfl | rfl | rfl | rfl <;> rfl
def acs (rows : List ArmsD) : List (List Value) := rows.map ac
theorem acs_at {rows : List ArmsD} {k : Nat} {a : ArmsD} (h : rows[k]? = some a) : (acs rows)[k]? = some (ac a) := by simp [acs, h]
theorem acs_len (rows : List ArmsD) : (acs rows).length = rows.length := by simp [acs]
theorem arms_at {rows : List ArmsD} {k : Nat} (h : k < rows.length) : ∃ a, rows[k]? = some a := ⟨_, List.getElem?_eq_getElem h⟩
theorem acs_wid (rows : List ArmsD) : ∀ row ∈ acs rows, row.length = 15 := by
  intro row h
  simp only [acs, List.mem_map] at h
  obtain ⟨a, -, rfl⟩ := h
  rfl
theorem RdR.arms {w : World} {A : Option Addr} {rows : List ArmsD} (h : RdR 15 w A (acs rows)) {k : Nat} {a : ArmsD} (hk : rows[k]? = some a) :
    ∃ b off, A = some ⟨b, off, none⟩ ∧ w.rangeAt b (off + k * 15) (ac a) ∧ b < w.heap.size := h k _ (acs_at hk)
theorem info_ac (a : ArmsD) : (Try.prog.info? 31).map (·.size) = some (ac a).length := by
  rw [ac_len]
  kernel_rfl
theorem info_acz : (Try.prog.info? 31).map (fun i => (i.zero, i.size, i.bytes)) = some (some (.agg #[.int .i64 0, .int .i64 0, .int .i64 0, .int .i64 0, .int .i64 0, .int .i64 0, .int .i64 0, .int .i64 0, .int .i64 0, .int .i64 0, .int .i64 0, .int .i64 0, .int .i64 0, .int .i64 0, .int .i64 0]), 15, 120) := by kernel_rfl
theorem ld_ac (a : ArmsD) (b o : Nat) (w : World) (h : w.rangeAt b o (ac a)) : (Instr.loadAt 31 (.pointer (some ⟨b, o, none⟩))).run Try.prog w = .ok (.agg (ac a).toArray) w :=
  run_loadAt_mid w b o _ (ac a) _ h Try.underlying31 rfl (info_ac a)
theorem info_acL (a : ArmsD) : (Try.prog.info? 27).map (·.size) = some (ac a).length := by
  rw [ac_len]
  kernel_rfl
theorem ld_acL (a : ArmsD) (b o : Nat) (w : World) (h : w.rangeAt b o (ac a)) : (Instr.loadAt 27 (.pointer (some ⟨b, o, none⟩))).run Try.prog w = .ok (.agg (ac a).toArray) w :=
  run_loadAt_mid w b o _ (ac a) _ h Try.underlying27 rfl (info_acL a)
theorem toArmsC (a : ArmsD) (w : World) : Calls Try.prog 6 #[.agg (ac a).toArray] w fun e w' => e = .returned (.agg (ac a).toArray) ∧ Below w.heap.size w w' := toArms_any a w
section
variable {P : Program} {ops : Array Oper} {rest : List Oper} {op : Oper} {a : Act} {w : World} {Q : Exit → Act → World → Prop}
/-- One row more is stored: the world behind it is whatever has it. -/
theorem wpList_store_snoc (hgd : op.guard = none) (ty : TypeId) (x y : Operand) (ho : op.op = .store ty x y) (K B g : Nat) (T : TypeId) (rows : List (List Value)) (left row : List Value) (h : OwnR K w B g T rows left) (hr : row.length = K) (hl : K ≤ left.length)
    (o : Nat) (hx : a.eval x = .pointer (some ⟨g, o, none⟩)) (he : o = rows.length * K) (hy : a.eval y = .agg row.toArray) (hi : (P.info? ty).map (·.size) = some row.length) (h1 : ∀ v ∈ row, v.oneCell' = true)
    (hK : ∀ w', OwnR K w' B g T (rows ++ [row]) (left.drop K) → (∀ W, Below B W w → Below B W w') → wpList P ops Q rest (a.put op.dst undef) w') : wpList P ops Q (op :: rest) a w := by
  subst he
  have hs : OwnR K w B g T rows (left.take K ++ left.drop K) := by rw [List.take_append_drop]; exact h
  have hk : (left.take K).length = K := by rw [List.length_take]; omega
  refine wpList_store_mid hgd ty x y ho g _ row.toArray hx hy ?_ (by simpa using hi) (all_oneCell_toArray h1) (hK _ ?_ ?_)
  · rw [List.size_toArray, hr]
    exact hs.there hk
  · rw [List.toList_toArray]
    exact hs.snoc row hr hk
  · intro W hW
    rw [List.toList_toArray]
    exact Below.setCells h.low _ _ hW
end
theorem blk_of_ownsK {w : World} {B g n size : Nat} {T : TypeId} {xs : List Value} (h : w.ownsRow B T size (.slice (some ⟨g, 0, none⟩) n n) n xs) : w.heap[g]? = some (.cells xs.toArray T (0, 0)) := by
  obtain ⟨hl, h | ⟨g', cap, cur, e, hB, hh, hn, hm, hs, ht⟩⟩ := h
  · cases h.1
  · injection e with e1 e2 e3
    injection e1 with e1
    injection e1 with e1
    subst e1 e3
    rw [hh]
    rw [List.take_of_length_le (by simp [hs])] at ht
    rw [← ht]
def ToA (w : World) (rows : List ArmsD) (e : Ending) (w' : World) : Prop :=
  ∃ g, e = .returned (.slice (some ⟨g, 0, none⟩) rows.length rows.length) ∧ OwnR 15 w' w.heap.size g 31 (acs rows) [] ∧ Below w.heap.size w w'
set_option maxHeartbeats 1000000 in
theorem toArmsS_any (A : Option Addr) (c : Nat) (rows : List ArmsD) (w : World) (h : RdR 15 w A (acs rows)) (hl : rows.length ≤ 1048576) : Calls Try.prog 11 #[.slice A rows.length c] w (ToA w rows) := by
  obtain ⟨i0, hi, hz0, hz1, hz2⟩ := info_parts info_acz
  go_enter Try.func11, Try.ntmps11
  go_wp2_with (first | (at_make; refine wpList_make_full _ rfl _ _ 42 rfl w.heap.size 31 i0 _ 15 Try.underlying42 hi hz0 hz1 .i64 .i64 _ _ rows.length rfl rfl rfl rfl ?c1 ?c2 (Nat.le_refl _) ?_) | fail)
  case c1 => rw [hz2]; omega
  case c2 => unfold maxLen; omega
  intro w1 hown hgr
  obtain ⟨left, hln, hblk⟩ : ∃ left : List Value, left.length = rows.length * 15 ∧ w1.heap[w.heap.size]? = some (.cells left.toArray 31 (0, 0)) := ⟨_, by rw [Array.length_toList, size_madeCells], blk_of_ownsK hown⟩
  have hst : OwnR 15 w1 w.heap.size w.heap.size 31 (acs (rows.take 0)) left := ⟨by simpa [acs] using hblk, Nat.le_refl _, acs_wid _⟩
  have hb1 := below_of_none hgr
  clear hown hgr hblk
  go_wp2_with fail
  go_loopw [4] (fun i wr => ∃ (k : Nat) (lf : List Value), k ≤ rows.length ∧ i = .int .i64 k ∧ OwnR 15 wr w.heap.size w.heap.size 31 (acs (rows.take k)) lf ∧ lf.length = (rows.length - k) * 15 ∧ Below w.heap.size w wr) (fun i _ => rows.length - (intOf i).toNat)
  case atStart => exact ⟨0, left, Nat.zero_le _, rfl, hst, hln, hb1⟩
  case round =>
    clear hst hb1 hln
    obtain ⟨k, lf, hk, rfl, hst, hlf, hb⟩ := hrel
    by_cases hlt : k < rows.length
    · obtain ⟨a, ha⟩ := arms_at hlt
      obtain ⟨b, off, rfl, hr, -⟩ := (h.below hb).arms ha
      have i1 : (k : Int) < (rows.length : Int) := by omega
      have d1 : decide (k < rows.length) = true := by simpa using hlt
      have HA := Lib.hid ha
      have HST := Lib.hid hst
      clear ha hst
      go_wp2_with (refine wpList_load_mid rfl _ _ rfl b _ rfl (ac a) _ hr Try.underlying27 rfl (info_acL a) ?_)
      refine (toArmsC a _).mono ?_
      rintro e w2 ⟨rfl, hb2⟩
      have hst := HST.out.below hb2
      have hb3 := Below_then hb hb2
      have htl : (acs (rows.take k)).length = k := by rw [acs_len, List.length_take]; omega
      clear hb2
      go_wp2_with (refine wpList_store_snoc rfl _ _ _ rfl 15 w.heap.size w.heap.size 31 (acs (rows.take k)) lf (ac a) hst (ac_len a) (by omega) _ rfl (by rw [htl]) rfl (info_ac a) (ac_one a) ?_)
      intro w4 hst4 hW
      have hb4 := hW _ hb3
      have HST4 := Lib.hid hst4
      clear hst hst4 hW hb3 htl
      go_wp2
      go_roundw
      case rel =>
        refine ⟨k + 1, lf.drop 15, by omega, by go_num, ?_, ?_, hb4⟩
        · have := HST4.out
          rw [List.take_add_one, HA.out]
          simpa [acs] using this
        · rw [List.length_drop]
          omega
      case measure => simp [intOf]; omega
    · obtain rfl : k = rows.length := by omega
      have d1 : decide (rows.length < rows.length) = false := by simp
      rw [List.take_length] at hst
      have : lf = [] := List.eq_nil_of_length_eq_zero (by simpa using hlf)
      subst this
      go_wp2
      go_ret
      exact ⟨_, rfl, hst, hb⟩
end Go.Proofs.Ytjodoljgpdbimaa
