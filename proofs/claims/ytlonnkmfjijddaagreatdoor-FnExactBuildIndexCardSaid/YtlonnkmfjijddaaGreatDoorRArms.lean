/- Contracts: slices of arms: the laws' own helpers. -/
import Derived.Test.YtlonnkmfjijddaaGreatDoorRow
import Derived.Test.YtlonnkmfjijddaaGreatDoorToArms
import Derived.Test.YtlonnkmfjijddaaGreatDoorAOpen
import Derived.Test.YtlonnkmfjijddaaGreatDoorGMem
namespace Go.Proofs.YtlonnkmfjijddaaGreatDoor
open Go.ChangeShapes Go.WideShapes Go.ChangeAt Go.RowKit
set_option linter.unusedVariables false

/-- The cells of arms. -/
def ac (a : ArmsD) : List Value := [.int .i64 a.d, .int .i64 a.l, .int .i64 a.p, .int .i64 a.q, .int .i64 a.o, .int .i64 a.li, .int .i64 a.t, .int .i64 a.c1, .int .i64 a.k1, .int .i64 a.a1, .int .i64 a.t1, .int .i64 a.c2, .int .i64 a.k2, .int .i64 a.a2, .int .i64 a.t2]
theorem ac_len (a : ArmsD) : (ac a).length = 15 := rfl
theorem ac_one (a : ArmsD) : ∀ v ∈ ac a, v.oneCell' = true := by
  intro v hv
  simp only [ac, List.mem_cons, List.not_mem_nil, or_false] at hv
  rcases hv with rfl | rfl | rfl | rfl | rfl | rfl | rfl | rfl | rfl | rfl | rfl | rfl | rfl | rfl | rfl <;> rfl
def acs (rows : List ArmsD) : List (List Value) := rows.map ac
theorem acs_at {rows : List ArmsD} {k : Nat} {a : ArmsD} (h : rows[k]? = some a) : (acs rows)[k]? = some (ac a) := by simp [acs, h]
theorem acs_len (rows : List ArmsD) : (acs rows).length = rows.length := by simp [acs]
theorem arms_at {rows : List ArmsD} {k : Nat} (h : k < rows.length) : ∃ a, rows[k]? = some a := ⟨_, List.getElem?_eq_getElem h⟩
theorem acs_wid (rows : List ArmsD) : ∀ row ∈ acs rows, row.length = 15 := by
  intro row h
  simp only [acs, List.mem_map] at h
  obtain ⟨a, -, rfl⟩ := h
  rfl
theorem RdR.arms {w : World} {A : Option Addr} {rows : List ArmsD} (h : RdR 15 w A (acs rows)) {k : Nat} {a : ArmsD} (hk : rows[k]? = some a) :
    ∃ b off, A = some ⟨b, off, none⟩ ∧ w.rangeAt b (off + k * 15) (ac a) ∧ b < w.heap.size := h k _ (acs_at hk)
theorem info_ac (a : ArmsD) : (Tryz.prog.info? 47).map (·.size) = some (ac a).length := by
  rw [ac_len]
  kernel_rfl
theorem info_acz : (Tryz.prog.info? 47).map (fun i => (i.zero, i.size, i.bytes)) = some (some (.agg #[.int .i64 0, .int .i64 0, .int .i64 0, .int .i64 0, .int .i64 0, .int .i64 0, .int .i64 0, .int .i64 0, .int .i64 0, .int .i64 0, .int .i64 0, .int .i64 0, .int .i64 0, .int .i64 0, .int .i64 0]), 15, 120) := by kernel_rfl
theorem ld_ac (a : ArmsD) (b o : Nat) (w : World) (h : w.rangeAt b o (ac a)) : (Instr.loadAt 47 (.pointer (some ⟨b, o, none⟩))).run Tryz.prog w = .ok (.agg (ac a).toArray) w :=
  run_loadAt_mid w b o _ (ac a) _ h Tryz.underlying47 rfl (info_ac a)
theorem info_acL (a : ArmsD) : (Tryz.prog.info? 69).map (·.size) = some (ac a).length := by
  rw [ac_len]
  kernel_rfl
theorem ld_acL (a : ArmsD) (b o : Nat) (w : World) (h : w.rangeAt b o (ac a)) : (Instr.loadAt 69 (.pointer (some ⟨b, o, none⟩))).run Tryz.prog w = .ok (.agg (ac a).toArray) w :=
  run_loadAt_mid w b o _ (ac a) _ h Tryz.underlying69 rfl (info_acL a)
theorem toArmsC (a : ArmsD) (w : World) : Calls Tryz.prog 55 #[.agg (ac a).toArray] w fun e w' => e = .returned (.agg (ac a).toArray) ∧ Below w.heap.size w w' := toArms_any a w
section
variable {P : Program} {ops : Array Oper} {rest : List Oper} {op : Oper} {a : Act} {w : World} {Q : Exit → Act → World → Prop}
/-- One row more is stored: the world behind it is whatever has it. -/
theorem wpList_store_snoc (hgd : op.guard = none) (ty : TypeId) (x y : Operand) (ho : op.op = .store ty x y) (K B g : Nat) (T : TypeId) (rows : List (List Value)) (left row : List Value) (h : OwnR K w B g T rows left) (hr : row.length = K) (hl : K ≤ left.length)
    (o : Nat) (hx : a.eval x = .pointer (some ⟨g, o, none⟩)) (he : o = rows.length * K) (hy : a.eval y = .agg row.toArray) (hi : (P.info? ty).map (·.size) = some row.length) (h1 : ∀ v ∈ row, v.oneCell' = true)
    (hK : ∀ w', OwnR K w' B g T (rows ++ [row]) (left.drop K) → (∀ W, Below B W w → Below B W w') → wpList P ops Q rest (a.put op.dst undef) w') : wpList P ops Q (op :: rest) a w := by
  subst he
  have hs : OwnR K w B g T rows (left.take K ++ left.drop K) := by rw [List.take_append_drop]; exact h
  have hk : (left.take K).length = K := by rw [List.length_take]; omega
  refine wpList_store_mid hgd ty x y ho g _ row.toArray hx hy ?_ (by simpa using hi) (all_oneCell_toArray h1) (hK _ ?_ ?_)
  · rw [List.size_toArray, hr]
    exact hs.there hk
  · rw [List.toList_toArray]
    exact hs.snoc row hr hk
  · intro W hW
    rw [List.toList_toArray]
    exact Below.setCells h.low _ _ hW
end
theorem blk_of_ownsK {w : World} {B g n size : Nat} {T : TypeId} {xs : List Value} (h : w.ownsRow B T size (.slice (some ⟨g, 0, none⟩) n n) n xs) : w.heap[g]? = some (.cells xs.toArray T (0, 0)) := by
  obtain ⟨hl, h | ⟨g', cap, cur, e, hB, hh, hn, hm, hs, ht⟩⟩ := h
  · cases h.1
  · injection e with e1 e2 e3
    injection e1 with e1
    injection e1 with e1
    subst e1 e3
    rw [hh]
    rw [List.take_of_length_le (by simp [hs])] at ht
    rw [← ht]
end Go.Proofs.YtlonnkmfjijddaaGreatDoor
