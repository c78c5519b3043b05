/- Slices of texts: what is read, rows of the call's own, append of one. -/
import Derived.Test.YtlonnkmfjijddaaGreatDoorApp
import Derived.Test.YtlonnkmfjijddaaGreatDoorMark
namespace Go.Proofs.YtlonnkmfjijddaaGreatDoor
open Go.ChangeShapes Go.WideShapes Go.ChangeAt Go.RowKit
set_option linter.unusedVariables false
def strs (xs : List ByteArray) : Array Value := (xs.map Value.string).toArray
theorem size_strs (xs : List ByteArray) : (strs xs).size = xs.length := by simp [strs]
theorem toList_strs (xs : List ByteArray) : (strs xs).toList = xs.map Value.string := by simp [strs]
def sv (zs : List ByteArray) : List Value := zs.map (Value.string)
theorem sv_len (zs : List ByteArray) : (sv zs).length = zs.length := by simp [sv]
theorem sv_get (zs : List ByteArray) (i : Nat) (h : i < (sv zs).length) : (sv zs)[i] = .string (zs[i]'(by simpa [sv] using h)) := by simp [sv]
theorem sv_append (xs ys : List ByteArray) : sv (xs ++ ys) = sv xs ++ sv ys := by simp [sv]
theorem sv_inj {xs ys : List ByteArray} (h : sv xs = sv ys) : xs = ys := by
  unfold sv at h
  exact List.map_inj_right (by intro a b e; injection e) |>.1 h
def RdS (w : World) (A : Option Addr) (zs : List ByteArray) : Prop := Rd w A (sv zs)
theorem RdS.nil (w : World) (A : Option Addr) : RdS w A [] := .inl rfl
theorem RdS.below {w w' : World} {A : Option Addr} {xs : List ByteArray} (h : RdS w A xs) (hb : Below w.heap.size w w') : RdS w' A xs := Rd.below h hb
theorem RdS.alloc {w : World} {A : Option Addr} {xs : List ByteArray} (h : RdS w A xs) (o : Obj) : RdS (w.alloc o) A xs := Rd.alloc h o
theorem RdS.at_ {w : World} {A : Option Addr} {zs : List ByteArray} (h : RdS w A zs) {k : Nat} (hk : k < zs.length) :
    ∃ b off, A = some ⟨b, off, none⟩ ∧ w.cell? ⟨b, off + k, none⟩ = some (.string zs[k]) ∧ b < w.heap.size := by
  rcases h with h | ⟨b, off, hA, hc⟩
  · have := congrArg List.length h
    simp [sv] at this
    subst this
    simp at hk
  · have h1 := hc k (by rw [sv_len]; exact hk)
    rw [sv_get] at h1
    exact ⟨b, off, hA, h1, World.block_lt_of_cell? w _ h1⟩

def OwnS (w : World) (B : Nat) (T : TypeId) (v : Value) (zs : List ByteArray) : Prop := w.ownsRow B T 1 v zs.length (sv zs)
theorem OwnS.form {w : World} {B : Nat} {T : TypeId} {v : Value} {zs : List ByteArray} (h : OwnS w B T v zs) :
    ∃ A c, v = .slice A zs.length c ∧ RdS w A zs := by
  obtain ⟨A, c, hv, hr, _⟩ := ownsRow_form h
  exact ⟨A, c, hv, hr⟩
theorem OwnS.below {w w' : World} {B : Nat} {T : TypeId} {v : Value} {zs : List ByteArray} (h : OwnS w B T v zs) (hb : Below w.heap.size w w') : OwnS w' B T v zs := ownsRow_below h hb
theorem OwnS.base {w : World} {B B' : Nat} {T : TypeId} {v : Value} {zs : List ByteArray} (h : OwnS w B T v zs) (hB : B' ≤ B) : OwnS w B' T v zs := ownsRow_base h hB
theorem OwnS.nil (w : World) (B : Nat) (T : TypeId) : OwnS w B T (.slice none 0 0) [] := World.ownsRow_nil _ _ _ _
theorem OwnS.blk {w : World} {B g : Nat} {T : TypeId} {zs : List ByteArray} (h : w.heap[g]? = some (.cells (strs zs) T (0, 0))) (hB : B ≤ g) (hm : zs.length ≤ maxLen) : OwnS w B T (.slice (some ⟨g, 0, none⟩) zs.length zs.length) zs :=
  ⟨by simp [sv], .inr ⟨g, zs.length, _, rfl, hB, h, Nat.le_refl _, hm, by simp [size_strs], by rw [toList_strs, Nat.mul_one]; exact List.take_of_length_le (by simp)⟩⟩
theorem OwnS.other {w w' : World} {B : Nat} {T : TypeId} {v : Value} {zs : List ByteArray} {row : Option Nat} (h : OwnS w B T v zs) (hg : w.grownBy w' row) (hne : v.ownBlock = none ∨ v.ownBlock ≠ row) : OwnS w' B T v zs := World.ownsRow.kept h hg hne
theorem OwnS.lt {w : World} {B : Nat} {T : TypeId} {v : Value} {zs : List ByteArray} (h : OwnS w B T v zs) : ∀ k, v.ownBlock = some k → B ≤ k ∧ k < w.heap.size := World.ownsRow.lt h
theorem OwnS.alloc {w : World} {B : Nat} {T : TypeId} {v : Value} {zs : List ByteArray} (h : OwnS w B T v zs) (o : Obj) : OwnS (w.alloc o) B T v zs := h.below (Below_al (Below.refl _ _) o)
theorem ownBlock_neS {w : World} {B b : Nat} {T : TypeId} {v : Value} {zs : List ByteArray} (h : OwnS w B T v zs) (hb : b < B ∨ w.heap.size ≤ b) : v.ownBlock ≠ some b := fun e => by have := World.ownsRow.lt h b e; omega
theorem OwnS.apart {w w' : World} {B B' : Nat} {T T' : TypeId} {v v' : Value} {zs zs' : List ByteArray} (h : OwnS w B T v zs) (h' : OwnS w' B' T' v' zs') (hs : w.heap.size ≤ B') : v.ownBlock = none ∨ v.ownBlock ≠ v'.ownBlock := by
  cases e : v.ownBlock with
  | none => exact .inl rfl
  | some k =>
    refine .inr fun e' => ?_
    have h1 := World.ownsRow.lt h k e
    have h2 := World.ownsRow.lt h' k e'.symm
    omega
theorem sv_set (zs : List ByteArray) (k : Nat) (v : ByteArray) : (sv zs).set k (.string v) = sv (zs.set k v) := by simp [sv, List.map_set]
theorem OwnS.pos {w : World} {B : Nat} {T : TypeId} {v : Value} {zs : List ByteArray} (h : OwnS w B T v zs) (hp : 0 < zs.length) : ∃ g c, v = .slice (some ⟨g, 0, none⟩) zs.length c ∧ B ≤ g ∧ g < w.heap.size := by
  obtain ⟨A, c, rfl, _, hf⟩ := ownsRow_form h
  obtain ⟨g, rfl, hB, hl, _⟩ := hf hp
  exact ⟨g, c, rfl, hB, hl⟩
theorem OwnS.set {w : World} {B g c : Nat} {T : TypeId} {zs : List ByteArray} (h : OwnS w B T (.slice (some ⟨g, 0, none⟩) zs.length c) zs) (k : Nat) (u : ByteArray) : OwnS (w.setCell ⟨g, k, none⟩ (.string u)) B T (.slice (some ⟨g, 0, none⟩) zs.length c) (zs.set k u) := by
  have h1 := World.ownsRow.stored h k (.string u)
  unfold OwnS
  rw [List.length_set, ← sv_set]
  exact h1.1
theorem OwnS.cellAt {w : World} {B g c : Nat} {T : TypeId} {zs : List ByteArray} (h : OwnS w B T (.slice (some ⟨g, 0, none⟩) zs.length c) zs) (k : Nat) (hk : k < zs.length) : w.cell? ⟨g, k, none⟩ = some (.string zs[k]) := by
  rw [World.ownsRow.cellAt h k (by omega), List.getElem?_eq_getElem (by rw [sv_len]; exact hk), sv_get]
theorem OwnS.frozenAt {w : World} {B g c : Nat} {T : TypeId} {zs : List ByteArray} (h : OwnS w B T (.slice (some ⟨g, 0, none⟩) zs.length c) zs) (k : Nat) : w.frozen? ⟨g, k, none⟩ = false := World.ownsRow.frozenAt h k
theorem RdS.atv {w : World} {A : Option Addr} {zs : List ByteArray} (h : RdS w A zs) {k : Nat} {v : ByteArray} (hv : zs[k]? = some v) :
    ∃ b off, A = some ⟨b, off, none⟩ ∧ w.cell? ⟨b, off + k, none⟩ = some (.string v) ∧ b < w.heap.size := by
  obtain ⟨hk, rfl⟩ := List.getElem?_eq_some_iff.1 hv
  exact h.at_ hk
theorem info_str : (Tryz.prog.info? 9).map (fun i => (i.zero, i.size, i.bytes)) = some (some (.string ⟨#[]⟩), 1, 16) := by kernel_rfl
section
variable {w : World} {ops : Array Oper} {rest : List Oper} {o : Oper} {a : Act} {Q : Exit → Act → World → Prop}
theorem wp_appT (hgd : o.guard = none) (s x : Operand) (ho : o.op = .call { callee := .builtin .append, args := #[s, x], argTypes := #[40, 40] })
    (B : Nat) (v : Value) (zs : List ByteArray) (hs : a.eval s = v) (hown : OwnS w B 9 v zs) (b : Nat) (z : ByteArray) (hx : a.eval x = .slice (some ⟨b, 0, none⟩) 1 1) (hc : w.cell? ⟨b, 0, none⟩ = some (.string z))
    (hl : zs.length ≤ 1099511627776) (hB : B ≤ w.heap.size)
    (h : ∀ v' w', OwnS w' B 9 v' (zs ++ [z]) → w.grownBy w' v.ownBlock → Below B w w' → wpList Tryz.prog ops Q rest (a.put o.dst v') w') : wpList Tryz.prog ops Q (o :: rest) a w := by
  obtain ⟨i0, hi, hz0, hz1, hz2⟩ := info_parts info_str
  refine wpList_append_own w hgd s x 40 ho B 9 i0 (.string ⟨#[]⟩) 1 16 Tryz.underlying40 hi hz0 hz1 hz2 rfl (by decide) v zs.length (sv zs) hs hown ⟨b, 0, none⟩ 1 1 [.string z] hx rfl ?_ (fun u hu => by simp at hu; subst hu; rfl) (by unfold maxLen; omega) (by omega) hB fun v' w' h1 h2 _ => h v' w' ?_ h2 (grown_below hown hB h2)
  · intro j u hj
    match j, hj with
    | 0, hj => simp at hj; subst hj; simpa [Addr.add] using hc
    | j + 1, hj => simp at hj
  · unfold OwnS
    rw [sv_append, List.length_append]
    exact h1
end
end Go.Proofs.YtlonnkmfjijddaaGreatDoor
