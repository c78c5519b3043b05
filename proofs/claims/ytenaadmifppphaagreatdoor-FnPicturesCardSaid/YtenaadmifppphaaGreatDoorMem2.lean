/- Memory: slices that read as a list; rows that a call owns, told by their numbers. No program in sight. -/
import Derived.Test.YtenaadmifppphaaGreatDoorMem
namespace Go.Proofs.YtenaadmifppphaaGreatDoor
open Go.RowKit

/-- The slice at address A holds the cells xs. -/
def Rd (w : World) (A : Option Addr) (xs : List Value) : Prop :=
  xs = [] ∨ ∃ b off, A = some ⟨b, off, none⟩ ∧ ∀ (i : Nat) (h : i < xs.length), w.cell? ⟨b, off + i, none⟩ = some xs[i]
def iv (zs : List Int) : List Value := zs.map (Value.int .i64)
theorem iv_len (zs : List Int) : (iv zs).length = zs.length := by simp [iv]
theorem iv_get (zs : List Int) (i : Nat) (h : i < (iv zs).length) : (iv zs)[i] = .int .i64 (zs[i]'(by simpa [iv] using h)) := by simp [iv]
theorem iv_append (xs ys : List Int) : iv (xs ++ ys) = iv xs ++ iv ys := by simp [iv]
theorem iv_inj {xs ys : List Int} (h : iv xs = iv ys) : xs = ys := by
  unfold iv at h
  exact List.map_inj_right (by intro a b e; injection e) |>.1 h
def RdI (w : World) (A : Option Addr) (zs : List Int) : Prop := Rd w A (iv zs)
theorem Rd.nil (w : World) (A : Option Addr) : Rd w A [] := .inl rfl
theorem RdI.nil (w : World) (A : Option Addr) : RdI w A [] := .inl rfl
theorem Rd.below {w w' : World} {A : Option Addr} {xs : List Value} (h : Rd w A xs) (hb : Below w.heap.size w w') : Rd w' A xs := by
  rcases h with h | ⟨b, off, hA, hc⟩
  · exact .inl h
  · exact .inr ⟨b, off, hA, fun i hi => keep_cell (hc i hi) hb⟩
theorem Rd.alloc {w : World} {A : Option Addr} {xs : List Value} (h : Rd w A xs) (o : Obj) : Rd (w.alloc o) A xs := h.below (Below_al (Below.refl _ _) o)
theorem Rd.drew {w : World} {A : Option Addr} {xs : List Value} (h : Rd w A xs) : Rd w.drew A xs := h
theorem RdI.below {w w' : World} {A : Option Addr} {xs : List Int} (h : RdI w A xs) (hb : Below w.heap.size w w') : RdI w' A xs := Rd.below h hb
theorem RdI.alloc {w : World} {A : Option Addr} {xs : List Int} (h : RdI w A xs) (o : Obj) : RdI (w.alloc o) A xs := Rd.alloc h o
theorem RdI.at_ {w : World} {A : Option Addr} {zs : List Int} (h : RdI w A zs) {k : Nat} (hk : k < zs.length) :
    ∃ b off, A = some ⟨b, off, none⟩ ∧ w.cell? ⟨b, off + k, none⟩ = some (.int .i64 zs[k]) ∧ b < w.heap.size := by
  rcases h with h | ⟨b, off, hA, hc⟩
  · have := congrArg List.length h
    simp [iv] at this
    subst this
    simp at hk
  · have h1 := hc k (by rw [iv_len]; exact hk)
    rw [iv_get] at h1
    exact ⟨b, off, hA, h1, World.block_lt_of_cell? w _ h1⟩

/-- A row of the call's own: v holds the cells xs, in a block from B on (or is nil and empty). -/
def Own (w : World) (B : Nat) (T : TypeId) (size : Nat) (v : Value) (n : Nat) (xs : List Value) : Prop := w.ownsRow B T size v n xs
def OwnI (w : World) (B : Nat) (T : TypeId) (v : Value) (zs : List Int) : Prop := w.ownsRow B T 1 v zs.length (iv zs)
theorem ownsRow_form {w : World} {B size n : Nat} {T : TypeId} {v : Value} {xs : List Value} (h : w.ownsRow B T size v n xs) :
    ∃ A c, v = .slice A n c ∧ Rd w A xs ∧ (0 < n → ∃ g, A = some ⟨g, 0, none⟩ ∧ B ≤ g ∧ g < w.heap.size ∧ n ≤ c ∧ c ≤ maxLen ∧ ∃ cur, w.heap[g]? = some (.cells cur T (0, 0)) ∧ cur.size = c * size ∧ cur.toList.take (n * size) = xs) := by
  obtain ⟨hl, h | ⟨g, cap, cur, rfl, hB, hh, hn, hm, hs, ht⟩⟩ := h
  · obtain ⟨rfl, rfl⟩ := h
    have : xs = [] := List.eq_nil_of_length_eq_zero (by simpa using hl)
    subst this
    exact ⟨none, 0, rfl, .inl rfl, fun h => absurd h (by omega)⟩
  · refine ⟨_, cap, rfl, .inr ⟨g, 0, rfl, fun i hi => ?_⟩, fun _ => ⟨g, rfl, hB, heap_lt hh, hn, hm, cur, hh, hs, ht⟩⟩
    rw [Nat.zero_add, cell_of hh]
    have hi' : i < n * size := by omega
    have h1 : cur.toList[i]? = xs[i]? := by rw [← ht, List.getElem?_take_of_lt hi']
    rw [← Array.getElem?_toList, h1, List.getElem?_eq_getElem hi]
theorem OwnI.form {w : World} {B : Nat} {T : TypeId} {v : Value} {zs : List Int} (h : OwnI w B T v zs) :
    ∃ A c, v = .slice A zs.length c ∧ RdI w A zs := by
  obtain ⟨A, c, hv, hr, _⟩ := ownsRow_form h
  exact ⟨A, c, hv, hr⟩
theorem ownsRow_below {w w' : World} {B size n : Nat} {T : TypeId} {v : Value} {xs : List Value} (h : w.ownsRow B T size v n xs) (hb : Below w.heap.size w w') : w'.ownsRow B T size v n xs := by
  obtain ⟨hl, h | ⟨g, cap, cur, rfl, hB, hh, r⟩⟩ := h
  · exact ⟨hl, .inl h⟩
  · exact ⟨hl, .inr ⟨g, cap, cur, rfl, hB, (hb.block g (heap_lt hh)).trans hh, r⟩⟩
theorem ownsRow_base {w : World} {B B' size n : Nat} {T : TypeId} {v : Value} {xs : List Value} (h : w.ownsRow B T size v n xs) (hB : B' ≤ B) : w.ownsRow B' T size v n xs := by
  obtain ⟨hl, h | ⟨g, cap, cur, rfl, hB2, r⟩⟩ := h
  · exact ⟨hl, .inl h⟩
  · exact ⟨hl, .inr ⟨g, cap, cur, rfl, by omega, r⟩⟩
theorem OwnI.below {w w' : World} {B : Nat} {T : TypeId} {v : Value} {zs : List Int} (h : OwnI w B T v zs) (hb : Below w.heap.size w w') : OwnI w' B T v zs := ownsRow_below h hb
theorem OwnI.base {w : World} {B B' : Nat} {T : TypeId} {v : Value} {zs : List Int} (h : OwnI w B T v zs) (hB : B' ≤ B) : OwnI w B' T v zs := ownsRow_base h hB
theorem OwnI.nil (w : World) (B : Nat) (T : TypeId) : OwnI w B T (.slice none 0 0) [] := World.ownsRow_nil _ _ _ _
/-- A block that is known whole, as a row of the call's own. -/
theorem OwnI.blk {w : World} {B g : Nat} {T : TypeId} {zs : List Int} (h : w.heap[g]? = some (.cells (ints zs) T (0, 0))) (hB : B ≤ g) (hm : zs.length ≤ maxLen) : OwnI w B T (.slice (some ⟨g, 0, none⟩) zs.length zs.length) zs :=
  ⟨by simp [iv], .inr ⟨g, zs.length, _, rfl, hB, h, Nat.le_refl _, hm, by simp [size_ints], by rw [toList_ints, Nat.mul_one]; exact List.take_of_length_le (by simp)⟩⟩
/-- It stays where another row is written. -/
theorem OwnI.other {w w' : World} {B : Nat} {T : TypeId} {v : Value} {zs : List Int} {row : Option Nat} (h : OwnI w B T v zs) (hg : w.grownBy w' row) (hne : v.ownBlock = none ∨ v.ownBlock ≠ row) : OwnI w' B T v zs := World.ownsRow.kept h hg hne
theorem OwnI.lt {w : World} {B : Nat} {T : TypeId} {v : Value} {zs : List Int} (h : OwnI w B T v zs) : ∀ k, v.ownBlock = some k → B ≤ k ∧ k < w.heap.size := World.ownsRow.lt h
theorem heap_keepB {w w' : World} {b : Nat} {o : Obj} (h : w.heap[b]? = some o) (hb : Below w.heap.size w w') : w'.heap[b]? = some o := (hb.block b (heap_lt h)).trans h
theorem heap_keepA {w : World} {b : Nat} {o : Obj} (h : w.heap[b]? = some o) (o' : Obj) : (w.alloc o').heap[b]? = some o := heap_keepB h (Below_al (Below.refl _ _) o')
theorem heap_keepG {w w' : World} {b : Nat} {o : Obj} {row : Option Nat} (h : w.heap[b]? = some o) (hg : w.grownBy w' row) (hne : row ≠ some b) : w'.heap[b]? = some o := (hg.block b (heap_lt h) (fun e => hne e.symm)).trans h
theorem OwnI.alloc {w : World} {B : Nat} {T : TypeId} {v : Value} {zs : List Int} (h : OwnI w B T v zs) (o : Obj) : OwnI (w.alloc o) B T v zs := h.below (Below_al (Below.refl _ _) o)
theorem ownBlock_ne {w : World} {B b : Nat} {T : TypeId} {v : Value} {zs : List Int} (h : OwnI w B T v zs) (hb : b < B ∨ w.heap.size ≤ b) : v.ownBlock ≠ some b := fun e => by have := World.ownsRow.lt h b e; omega
theorem OwnI.apart {w w' : World} {B B' : Nat} {T T' : TypeId} {v v' : Value} {zs zs' : List Int} (h : OwnI w B T v zs) (h' : OwnI w' B' T' v' zs') (hs : w.heap.size ≤ B') : v.ownBlock = none ∨ v.ownBlock ≠ v'.ownBlock := by
  cases e : v.ownBlock with
  | none => exact .inl rfl
  | some k =>
    refine .inr fun e' => ?_
    have h1 := World.ownsRow.lt h k e
    have h2 := World.ownsRow.lt h' k e'.symm
    omega
/-- The numbers k, k + 1 .. -/
def marks (k : Int) : Nat → List Int
  | 0 => []
  | n + 1 => k :: marks (k + 1) n
theorem marks_len (n : Nat) : ∀ k, (marks k n).length = n := by
  induction n with
  | zero => intro k; rfl
  | succ n ih => intro k; simp [marks, ih]
theorem marks_get (n : Nat) : ∀ (k : Int) (i : Nat) (h : i < (marks k n).length), (marks k n)[i] = k + i := by
  induction n with
  | zero => intro k i h; simp [marks] at h
  | succ n ih =>
    intro k i h
    cases i with
    | zero => simp [marks]
    | succ i =>
      simp only [marks, List.getElem_cons_succ]
      rw [ih]
      omega
def markL (k0 : Int) (zs : List Int) (k : Nat) : List Int := marks k0 k ++ zs.drop k
theorem marks_snoc (n : Nat) : ∀ k, marks k (n + 1) = marks k n ++ [k + (n : Int)] := by
  induction n with
  | zero => intro k; simp [marks]
  | succ n ih =>
    intro k
    rw [marks, ih (k + 1)]
    simp only [marks, List.cons_append]
    congr 3
    omega
theorem markL_len (k0 : Int) (zs : List Int) (k : Nat) (h : k ≤ zs.length) : (markL k0 zs k).length = zs.length := by simp [markL, marks_len]; omega
theorem markL_zero (k0 : Int) (zs : List Int) : markL k0 zs 0 = zs := rfl
theorem markL_all (k0 : Int) (zs : List Int) : markL k0 zs zs.length = marks k0 zs.length := by simp [markL]
theorem markL_set (k0 : Int) (zs : List Int) (k : Nat) (h : k < zs.length) : (markL k0 zs k).set k (k0 + k) = markL k0 zs (k + 1) := by
  unfold markL
  rw [List.set_append_right _ _ (by rw [marks_len]; omega), marks_len, Nat.sub_self, List.drop_eq_getElem_cons h, List.set_cons_zero, marks_snoc]
  simp
theorem iv_set (zs : List Int) (k : Nat) (v : Int) : (iv zs).set k (.int .i64 v) = iv (zs.set k v) := by simp [iv, List.map_set]
theorem grownBy_set {w wr : World} {g : Nat} (h : w.grownBy wr (some g)) (i : Nat) (u : Value) : w.grownBy (wr.setCell ⟨g, i, none⟩ u) (some g) :=
  ⟨h.os, h.tape, h.output, by simpa [World.setCell] using h.size, fun k hk hne => by rw [heap_far _ _ _ _ (by intro e; exact hne (by rw [e]))]; exact h.block k hk hne⟩
theorem grownBy_below {w w1 w2 : World} {row : Option Nat} (h : w.grownBy w1 row) (hb : Below w1.heap.size w1 w2) : w.grownBy w2 row :=
  ⟨hb.os.trans h.os, hb.tape.trans h.tape, hb.output.trans h.output, Nat.le_trans h.size hb.size, fun k hk hne => (hb.block k (by have := h.size; omega)).trans (h.block k hk hne)⟩
theorem below_grownBy {w w1 w2 : World} {row : Option Nat} (hb : Below w.heap.size w w1) (h : w1.grownBy w2 row) : w.grownBy w2 row :=
  ⟨h.os.trans hb.os, h.tape.trans hb.tape, h.output.trans hb.output, Nat.le_trans hb.size h.size, fun k hk hne => (h.block k (by have := hb.size; omega) hne).trans (hb.block k hk)⟩
theorem grownBy_trans {w w1 w2 : World} {row : Option Nat} (h : w.grownBy w1 row) (h' : w1.grownBy w2 row) : w.grownBy w2 row :=
  ⟨h'.os.trans h.os, h'.tape.trans h.tape, h'.output.trans h.output, Nat.le_trans h.size h'.size, fun k hk hne => (h'.block k (by have := h.size; omega) hne).trans (h.block k hk hne)⟩
theorem grownBy_of {w w1 : World} {row : Option Nat} (hb : Below w.heap.size w w1) : w.grownBy w1 row := ⟨hb.os, hb.tape, hb.output, hb.size, fun k hk _ => hb.block k hk⟩
theorem below_of_none {w w1 : World} (h : w.grownBy w1 none) : Below w.heap.size w w1 := ⟨h.os, h.tape, h.output, h.size, fun k hk => h.block k hk (by simp)⟩
/-- What a row of the call's own is, where it has elements. -/
theorem OwnI.pos {w : World} {B : Nat} {T : TypeId} {v : Value} {zs : List Int} (h : OwnI w B T v zs) (hp : 0 < zs.length) : ∃ g c, v = .slice (some ⟨g, 0, none⟩) zs.length c ∧ B ≤ g ∧ g < w.heap.size := by
  obtain ⟨A, c, rfl, _, hf⟩ := ownsRow_form h
  obtain ⟨g, rfl, hB, hl, _⟩ := hf hp
  exact ⟨g, c, rfl, hB, hl⟩
theorem OwnI.set {w : World} {B g c : Nat} {T : TypeId} {zs : List Int} (h : OwnI w B T (.slice (some ⟨g, 0, none⟩) zs.length c) zs) (k : Nat) (u : Int) : OwnI (w.setCell ⟨g, k, none⟩ (.int .i64 u)) B T (.slice (some ⟨g, 0, none⟩) zs.length c) (zs.set k u) := by
  have h1 := World.ownsRow.stored h k (.int .i64 u)
  unfold OwnI
  rw [List.length_set, ← iv_set]
  exact h1.1
theorem OwnI.cellAt {w : World} {B g c : Nat} {T : TypeId} {zs : List Int} (h : OwnI w B T (.slice (some ⟨g, 0, none⟩) zs.length c) zs) (k : Nat) (hk : k < zs.length) : w.cell? ⟨g, k, none⟩ = some (.int .i64 zs[k]) := by
  rw [World.ownsRow.cellAt h k (by omega), List.getElem?_eq_getElem (by rw [iv_len]; exact hk), iv_get]
theorem OwnI.frozenAt {w : World} {B g c : Nat} {T : TypeId} {zs : List Int} (h : OwnI w B T (.slice (some ⟨g, 0, none⟩) zs.length c) zs) (k : Nat) : w.frozen? ⟨g, k, none⟩ = false := World.ownsRow.frozenAt h k
def copyL (zs : List Int) (k : Nat) : List Int := zs.take k ++ List.replicate (zs.length - k) 0
theorem copyL_len (zs : List Int) (k : Nat) (h : k ≤ zs.length) : (copyL zs k).length = zs.length := by simp [copyL]; omega
theorem copyL_zero (zs : List Int) : copyL zs 0 = List.replicate zs.length 0 := by simp [copyL]
theorem copyL_all (zs : List Int) : copyL zs zs.length = zs := by simp [copyL]
theorem copyL_set (zs : List Int) (k : Nat) (h : k < zs.length) : (copyL zs k).set k (zs[k]) = copyL zs (k + 1) := by
  unfold copyL
  have hl : (zs.take k).length = k := by simp; omega
  rw [List.set_append_right _ _ (by omega), hl, Nat.sub_self, show zs.length - k = (zs.length - (k + 1)) + 1 from by omega, List.replicate_succ, List.set_cons_zero, List.take_succ_eq_append_getElem h, List.append_assoc]
  rfl
theorem iv_replicate (n : Nat) : iv (List.replicate n 0) = List.replicate n (Value.int .i64 0) := by simp [iv]
theorem made_ints (n : Nat) : (madeCells #[Value.int .i64 0] n).toList = iv (List.replicate n 0) := by
  rw [iv_replicate]
  exact toList_madeCells_one _ _
/-- What 'held' answers. -/
def heldR (zs : List Int) (k0 : Int) : Int := if zs = marks k0 zs.length then k0 + zs.length else -1
theorem heldR_marks (k0 : Int) (n : Nat) : heldR (marks k0 n) k0 = k0 + n := by
  unfold heldR
  rw [marks_len, if_pos rfl]
end Go.Proofs.YtenaadmifppphaaGreatDoor
