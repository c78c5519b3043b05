/- Memory: slices of structs: rows of K cells, one behind the other. No program in sight. -/
import Derived.Test.YtenaadmifppphaaGreatDoorMem3
import Derived.Deep.MidRow
import Derived.Deep.Slices
namespace Go.Proofs.YtenaadmifppphaaGreatDoor
open Go.RowKit
set_option linter.unusedVariables false

theorem rangeAt_below {w w' : World} {b o : Nat} {cs : List Value} (h : w.rangeAt b o cs) (hb : Below w.heap.size w w') : w'.rangeAt b o cs := fun j v hv => keep_cell (h j v hv) hb
/-- The slice at address A holds the rows, K cells each. -/
def RdR (K : Nat) (w : World) (A : Option Addr) (rows : List (List Value)) : Prop :=
  ∀ (i : Nat) (row : List Value), rows[i]? = some row → ∃ b off, A = some ⟨b, off, none⟩ ∧ w.rangeAt b (off + i * K) row ∧ b < w.heap.size
theorem RdR.nil (K : Nat) (w : World) (A : Option Addr) : RdR K w A [] := fun i row h => by simp at h
theorem RdR.below {K : Nat} {w w' : World} {A : Option Addr} {rows : List (List Value)} (h : RdR K w A rows) (hb : Below w.heap.size w w') : RdR K w' A rows := fun i row hr => by
  obtain ⟨b, off, hA, h1, h2⟩ := h i row hr
  exact ⟨b, off, hA, rangeAt_below h1 hb, Nat.lt_of_lt_of_le h2 hb.size⟩
theorem RdR.alloc {K : Nat} {w : World} {A : Option Addr} {rows : List (List Value)} (h : RdR K w A rows) (o : Obj) : RdR K (w.alloc o) A rows := h.below (Below_al (Below.refl _ _) o)

/-! ### Rows laid flat -/
theorem flat_len {K : Nat} : ∀ {rows : List (List Value)}, (∀ row ∈ rows, row.length = K) → rows.flatten.length = rows.length * K
  | [], _ => by simp
  | r :: rs, h => by
    rw [List.flatten_cons, List.length_append, flat_len (fun row hr => h row (List.mem_cons_of_mem _ hr)), h r (List.mem_cons_self ..), List.length_cons, Nat.succ_mul]
    omega
theorem flat_split {rows : List (List Value)} {k : Nat} {row : List Value} (h : rows[k]? = some row) : rows.flatten = (rows.take k).flatten ++ (row ++ (rows.drop (k + 1)).flatten) := by
  obtain ⟨hk, rfl⟩ := List.getElem?_eq_some_iff.1 h
  conv => lhs; rw [← List.take_append_drop k rows]
  rw [List.flatten_append, List.drop_eq_getElem_cons hk, List.flatten_cons]
theorem flat_pre {K : Nat} {rows : List (List Value)} (hw : ∀ row ∈ rows, row.length = K) {k : Nat} (hk : k ≤ rows.length) : (rows.take k).flatten.length = k * K := by
  rw [flat_len fun row hr => hw row (List.mem_of_mem_take hr), List.length_take, Nat.min_eq_left hk]
theorem flat_at {K : Nat} {rows : List (List Value)} (hw : ∀ row ∈ rows, row.length = K) {k : Nat} {row : List Value} (h : rows[k]? = some row) (j : Nat) (v : Value) (hj : row[j]? = some v) : rows.flatten[k * K + j]? = some v := by
  have hk : k < rows.length := (List.getElem?_eq_some_iff.1 h).1
  rw [flat_split h, List.getElem?_append_right (by rw [flat_pre hw (by omega)]; omega), flat_pre hw (by omega), show k * K + j - k * K = j from by omega, List.getElem?_append_left (List.getElem?_eq_some_iff.1 hj).1]
  exact hj
theorem flat_set {K : Nat} {rows : List (List Value)} (hw : ∀ row ∈ rows, row.length = K) {k : Nat} (hk : k < rows.length) (row' : List Value) : (rows.set k row').flatten = (rows.take k).flatten ++ (row' ++ (rows.drop (k + 1)).flatten) := by
  rw [List.set_eq_take_append_cons_drop, if_pos hk, List.flatten_append, List.flatten_cons]

/-! ### A block known whole, of which a part is stored -/
theorem heap_setCells {g : Nat} {T : TypeId} : ∀ (vs : List Value) (w : World) (pre old post : List Value), vs.length = old.length → w.heap[g]? = some (.cells (pre ++ (old ++ post)).toArray T (0, 0)) →
    (w.setCells g pre.length vs).heap[g]? = some (.cells (pre ++ (vs ++ post)).toArray T (0, 0))
  | [], w, pre, old, post, hl, h => by
    have : old = [] := List.eq_nil_of_length_eq_zero (by simpa using hl.symm)
    subst this
    exact h
  | v :: vs, w, pre, old, post, hl, h => by
    match old, hl with
    | x :: old, hl =>
      rw [World.setCells]
      have h1 := heap_set w g pre.length _ T v h
      have e : (pre ++ (x :: old ++ post)).toArray.setIfInBounds pre.length v = ((pre ++ [v]) ++ (old ++ post)).toArray := by
        simp
      rw [e] at h1
      have h2 := heap_setCells vs _ (pre ++ [v]) old post (by simpa using hl) h1
      simp only [List.length_append, List.length_cons, List.length_nil, Nat.zero_add] at h2
      rw [h2]
      simp
theorem Below.setCells {B : Nat} {a : World} {g : Nat} (hg : B ≤ g) : ∀ (vs : List Value) (o : Nat) {w : World}, Below B a w → Below B a (w.setCells g o vs)
  | [], _, _, h => h
  | v :: vs, o, _, h => by
    rw [World.setCells]
    exact Below.setCells hg vs (o + 1) (h.setCell hg v)
theorem size_setCells (g : Nat) : ∀ (vs : List Value) (o : Nat) (w : World), (w.setCells g o vs).heap.size = w.heap.size
  | [], _, _ => rfl
  | v :: vs, o, w => by
    rw [World.setCells, size_setCells g vs]
    simp [World.setCell]
theorem grownBy_setCells {w : World} {g : Nat} : ∀ (vs : List Value) (o : Nat) {wr : World}, w.grownBy wr (some g) → w.grownBy (wr.setCells g o vs) (some g)
  | [], _, _, h => h
  | v :: vs, o, _, h => by
    rw [World.setCells]
    exact grownBy_setCells vs (o + 1) (grownBy_set h o v)

/-- A block g of the call's own that holds the rows, K cells each, and then the rest. -/
structure OwnR (K : Nat) (w : World) (B g : Nat) (T : TypeId) (rows : List (List Value)) (rest : List Value) : Prop where
  blk : w.heap[g]? = some (.cells (rows.flatten ++ rest).toArray T (0, 0))
  low : B ≤ g
  wid : ∀ row ∈ rows, row.length = K
theorem OwnR.below {K : Nat} {w w' : World} {B g : Nat} {T : TypeId} {rows : List (List Value)} {rest : List Value} (h : OwnR K w B g T rows rest) (hb : Below w.heap.size w w') : OwnR K w' B g T rows rest := ⟨heap_keepB h.blk hb, h.low, h.wid⟩
theorem OwnR.grown {K : Nat} {w w' : World} {B g : Nat} {T : TypeId} {rows : List (List Value)} {rest : List Value} {row : Option Nat} (h : OwnR K w B g T rows rest) (hg : w.grownBy w' row) (hne : row ≠ some g) : OwnR K w' B g T rows rest := ⟨heap_keepG h.blk hg hne, h.low, h.wid⟩
theorem OwnR.range {K : Nat} {w : World} {B g : Nat} {T : TypeId} {rows : List (List Value)} {rest : List Value} (h : OwnR K w B g T rows rest) {k : Nat} {row : List Value} (hk : rows[k]? = some row) : w.rangeAt g (k * K) row := fun j v hv => by
  have h1 := flat_at h.wid hk j v hv
  rw [cell_of h.blk, List.getElem?_toArray, List.getElem?_append_left (List.getElem?_eq_some_iff.1 h1).1]
  exact h1
theorem OwnR.rd {K : Nat} {w : World} {B g : Nat} {T : TypeId} {rows : List (List Value)} {rest : List Value} (h : OwnR K w B g T rows rest) : RdR K w (some ⟨g, 0, none⟩) rows := fun i row hr =>
  ⟨g, 0, rfl, by rw [Nat.zero_add]; exact h.range hr, heap_lt h.blk⟩
theorem block_there {w : World} {g : Nat} {cs : Array Value} {T : TypeId} (h : w.heap[g]? = some (.cells cs T (0, 0))) {o n : Nat} (hn : o + n ≤ cs.size) : w.there g o n := fun j hj => by
  refine ⟨?_, frozen_of h _⟩
  rw [cell_of h, Array.getElem?_eq_getElem (by omega)]
  rfl
/-- One row more, stored where the rest begins. -/
theorem OwnR.snoc {K : Nat} {w : World} {B g : Nat} {T : TypeId} {rows : List (List Value)} {old rest : List Value} (h : OwnR K w B g T rows (old ++ rest)) (row : List Value) (hr : row.length = K) (ho : old.length = K) :
    OwnR K (w.setCells g (rows.length * K) row) B g T (rows ++ [row]) rest := by
  refine ⟨?_, h.low, fun r hr' => ?_⟩
  · have := heap_setCells (T := T) row w rows.flatten old rest (by omega) h.blk
    rw [flat_len h.wid] at this
    rw [this, List.flatten_append]
    simp
  · rcases List.mem_append.1 hr' with h1 | h1
    · exact h.wid r h1
    · simp at h1
      subst h1
      exact hr
theorem OwnR.there {K : Nat} {w : World} {B g : Nat} {T : TypeId} {rows : List (List Value)} {old rest : List Value} (h : OwnR K w B g T rows (old ++ rest)) (ho : old.length = K) : w.there g (rows.length * K) K :=
  block_there h.blk (by simp [-List.length_flatten, flat_len h.wid, ho])

/-! ### A block of which only its size is known -/
/-- Block g has N cells that may be written. -/
def Blk (w : World) (g N : Nat) : Prop := ∃ (cur : Array Value) (T : TypeId), w.heap[g]? = some (.cells cur T (0, 0)) ∧ cur.size = N
theorem Blk.cell {w : World} {g N i : Nat} (h : Blk w g N) (hi : i < N) : ∃ v, w.cell? ⟨g, i, none⟩ = some v := by
  obtain ⟨cur, T, h1, h2⟩ := h
  exact ⟨cur[i]'(by omega), by rw [cell_of h1, Array.getElem?_eq_getElem (by omega)]⟩
theorem Blk.frozen {w : World} {g N : Nat} (h : Blk w g N) (i : Nat) : w.frozen? ⟨g, i, none⟩ = false := by
  obtain ⟨cur, T, h1, h2⟩ := h
  exact frozen_of h1 i
theorem Blk.set {w : World} {g N : Nat} (h : Blk w g N) (i : Nat) (v : Value) : Blk (w.setCell ⟨g, i, none⟩ v) g N := by
  obtain ⟨cur, T, h1, h2⟩ := h
  exact ⟨_, T, heap_set w g i cur T v h1, by simpa using h2⟩
theorem Blk.lt {w : World} {g N : Nat} (h : Blk w g N) : g < w.heap.size := by
  obtain ⟨cur, T, h1, h2⟩ := h
  exact heap_lt h1
theorem OwnR.toBlk {K : Nat} {w : World} {B g : Nat} {T : TypeId} {rows : List (List Value)} (h : OwnR K w B g T rows []) : Blk w g (rows.length * K) :=
  ⟨_, T, h.blk, by simp [-List.length_flatten, flat_len h.wid]⟩
section
variable {P : Program} {ops : Array Oper} {rest : List Oper} {op : Oper} {a : Act} {w : World} {Q : Exit → Act → World → Prop}
/-- One cell stored into a block of which only its size is known: the world behind it is whatever has it still. -/
theorem wpList_store_blk (hgd : op.guard = none) (ty : TypeId) (x y : Operand) (ho : op.op = .store ty x y) (g N i : Nat) (v : Value) (hb : Blk w g N) (hi : i < N) (hx : a.eval x = .pointer (some ⟨g, i, none⟩)) (hy : a.eval y = v)
    (hv : v.cells = #[v]) (hs : (P.info? ty).map (·.size) = some 1) (h1 : v.oneCell' = true)
    (h : ∀ w', Blk w' g N → w.grownBy w' (some g) → wpList P ops Q rest (a.put op.dst undef) w') : wpList P ops Q (op :: rest) a w := by
  refine wpList_plain hgd fun _ hK => ?_
  have hst : (storeVar ty ⟨g, i, none⟩ v).run P w = .ok () (w.setCells g i [v]) := by
    have := run_storeCells_cells (P := P) g i [v] 0 w (fun j hj => by simp at hj; subst hj; obtain ⟨u, hu⟩ := hb.cell hi; simp [hu]) (fun j hj => by simp at hj; subst hj; simp [hb.frozen]) (fun u hu => by simp at hu; subst hu; exact h1)
    cases hq : P.info? ty with
    | none => simp [hq] at hs
    | some ii =>
      have hs' : ii.size = 1 := by simpa [hq] using hs
      simp only [Nat.add_zero] at this
      simp [storeVar, sizeOf, typeInfo, hq, hv, hs', this]
  unfold Oper.wp execOp
  simp only [ho, hx, hy, Instr.storeAt, Instr.sureAddr, Sem.run_bind, Sem.run_pure, Result.andThen_ok, hst]
  exact hK _ _ (h _ (by simpa [World.setCells] using hb.set i v) (grownBy_setCells [v] i (World.grownBy.refl _ _)))
end
end Go.Proofs.YtenaadmifppphaaGreatDoor
