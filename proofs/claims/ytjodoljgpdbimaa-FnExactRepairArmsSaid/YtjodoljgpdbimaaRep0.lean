/- The findings on arms, both sides: none where no rule is broken. -/
import Derived.Test.YtjodoljgpdbimaaRepP
namespace Go.Proofs.Ytjodoljgpdbimaa
open Go.ChangeShapes Go.WideShapes Go.ChangeAt Go.RowKit
set_option linter.unusedVariables false
set_option linter.unusedSimpArgs false
def OwnF (w : World) (B : Nat) (v : Value) (n : Nat) : Prop := ∃ xs, w.ownsRow B 76 3 v n xs
theorem OwnF.below {w w' : World} {B : Nat} {v : Value} {n : Nat} (h : OwnF w B v n) (hb : Below w.heap.size w w') : OwnF w' B v n := h.elim fun xs h => ⟨xs, ownsRow_below h hb⟩
theorem OwnF.none0 (w : World) (B g : Nat) (hg : g = w.heap.size) (hB : B ≤ g) : OwnF (w.alloc (.cells #[] 76)) B (.slice (some ⟨g, 0, none⟩) 0 0) 0 :=
  ⟨[], rfl, .inr ⟨g, 0, #[], rfl, hB, heap_hit _ _ _ hg, Nat.le_refl _, by simp [maxLen], rfl, rfl⟩⟩
section
variable {w : World} {ops : Array Oper} {rest : List Oper} {o : Oper} {a : Act} {Q : Exit → Act → World → Prop}
theorem wp_appF (hgd : o.guard = none) (s x : Operand) (ho : o.op = .call { callee := .builtin .append, args := #[s, x], argTypes := #[53, 53] })
    (B : Nat) (v : Value) (n : Nat) (hs : a.eval s = v) (h : OwnF w B v n) (b : Nat) (p q r : Int) (hx : a.eval x = .slice (some ⟨b, 0, none⟩) 1 1) (hc : w.heap[b]? = some (.cells #[.int .i64 p, .int .i64 q, .int .i64 r] 76 (0, 0)))
    (hl : n ≤ 100) (hB : B ≤ w.heap.size)
    (hK : ∀ v' w', OwnF w' B v' (n + 1) → w.grownBy w' v.ownBlock → Below B w w' → (v'.ownBlock = v.ownBlock ∨ v'.ownBlock = some w.heap.size) → wpList Try.prog ops Q rest (a.put o.dst v') w') : wpList Try.prog ops Q (o :: rest) a w := by
  obtain ⟨i0, hi, hz0, hz1, hz2⟩ := info_parts (show (Try.prog.info? 76).map (fun i => (i.zero, i.size, i.bytes)) = some (some (.agg #[.int .i64 0, .int .i64 0, .int .i64 0]), 3, 24) by kernel_rfl)
  obtain ⟨xs, h⟩ := h
  refine wpList_append_own_at w hgd s x 53 ho B 76 i0 (.agg #[.int .i64 0, .int .i64 0, .int .i64 0]) 3 24 Try.underlying53 hi hz0 hz1 hz2 rfl (by decide) v n xs hs h ⟨b, 0, none⟩ 1 1 [.int .i64 p, .int .i64 q, .int .i64 r] hx rfl ?_ (fun y hy => ?_) (by unfold maxLen; omega) (by omega) hB fun v' w' h2 h3 _ h4 => hK v' w' ⟨_, h2⟩ h3 (grown_below h hB h3) h4
  · intro j y hj
    match j, hj with
    | 0, hj => simp at hj; subst hj; simpa [Addr.add] using cell_of hc 0
    | 1, hj => simp at hj; subst hj; simpa [Addr.add] using cell_of hc 1
    | 2, hj => simp at hj; subst hj; simpa [Addr.add] using cell_of hc 2
    | j + 3, hj => simp at hj
  · simp at hy
    rcases hy with rfl | rfl | rfl <;> rfl
end
theorem RdI.grown {w w' : World} {A : Option Addr} {zs : List Int} {row : Option Nat} (h : RdI w A zs) (hg : w.grownBy w' row) (hne : ∀ cb off, A = some ⟨cb, off, none⟩ → row ≠ some cb) : RdI w' A zs := by
  rcases h with h | ⟨b, off, hA, hc⟩
  · exact .inl h
  · refine .inr ⟨b, off, hA, fun i hi => ?_⟩
    have h1 := hc i hi
    have hlt := World.block_lt_of_cell? w _ h1
    rw [World.cell?_of_block (a := ⟨b, off + i, none⟩) (hg.block b hlt (fun e => hne b off hA e.symm))]
    exact h1
/-- While findings are gathered. -/
structure Fnd (W0 : World) (A4 : Option Addr) (zs : List Int) (v : Value) (n : Nat) (w : World) : Prop where
  own : OwnF w W0.heap.size v n
  rd : RdI w A4 zs
  ap : ∀ cb off, A4 = some ⟨cb, off, none⟩ → v.ownBlock ≠ some cb
  lt : ∀ cb off, A4 = some ⟨cb, off, none⟩ → cb < w.heap.size
  low : Below W0.heap.size W0 w
theorem Fnd.below {W0 w w' : World} {A4 : Option Addr} {zs : List Int} {v : Value} {n : Nat} (h : Fnd W0 A4 zs v n w) (hb : Below w.heap.size w w') : Fnd W0 A4 zs v n w' :=
  ⟨h.own.below hb, h.rd.below hb, h.ap, fun cb off e => Nat.lt_of_lt_of_le (h.lt cb off e) hb.size, Below_then h.low hb⟩
theorem Fnd.alloc {W0 w : World} {A4 : Option Addr} {zs : List Int} {v : Value} {n : Nat} (h : Fnd W0 A4 zs v n w) (o : Obj) : Fnd W0 A4 zs v n (w.alloc o) := h.below (Below_al (Below.refl _ _) o)
theorem Fnd.app {W0 w w' : World} {A4 : Option Addr} {zs : List Int} {v v' : Value} {n : Nat} (h : Fnd W0 A4 zs v n w) (ho : OwnF w' W0.heap.size v' (n + 1)) (hg : w.grownBy w' v.ownBlock) (hb : Below W0.heap.size w w') (hat : v'.ownBlock = v.ownBlock ∨ v'.ownBlock = some w.heap.size) : Fnd W0 A4 zs v' (n + 1) w' :=
  ⟨ho, h.rd.grown hg (fun cb off e => h.ap cb off e), fun cb off e => by
    rcases hat with h1 | h1
    · rw [h1]; exact h.ap cb off e
    · rw [h1]; intro e2; injection e2 with e2; have := h.lt cb off e; omega, fun cb off e => Nat.lt_of_lt_of_le (h.lt cb off e) hb.size, h.low.trans hb⟩
def FndOk (w : World) (a : ArmsD) (e : Ending) (w' : World) : Prop := ∃ A n c, e = .returned (.slice A n c) ∧ decide (n = 0) = okR a ∧ Below w.heap.size w w'
theorem OwnF.form {w : World} {B : Nat} {v : Value} {n : Nat} (h : OwnF w B v n) : ∃ A c, v = .slice A n c := by
  obtain ⟨xs, h⟩ := h
  obtain ⟨A, c, hv, -⟩ := ownsRow_form h
  exact ⟨A, c, hv⟩
theorem ne_none (c k a t : Int) : (!groupNone c k a t) = ne4 c k a t 0 0 0 0 := by
  unfold groupNone ne4
  by_cases h : c = 0 ∧ k = 0 ∧ a = 0 ∧ t = 0
  · simp [h]
  · simp [h]
/-@LAWS@-/
section
variable {ops : Array Oper} {rest : List Oper} {op : Oper} {a : Act} {w : World} {Q : Exit → Act → World → Prop}
theorem wpList_load_w {P : Program} (hw : Region.wanted op (yielded ops a.tmps) = true) (ty : TypeId) (x : Operand) (ho : op.op = .load ty x) (b o : Nat) (hx : a.eval x = .pointer (some ⟨b, o, none⟩)) (cs : List Value) (d : TypeDesc) (hc : w.rangeAt b o cs)
    (hu : P.underlying ty = some d) (hd : d.isRow = true) (hi : (P.info? ty).map (·.size) = some cs.length)
    (h : wpList P ops Q rest (a.put op.dst (.agg cs.toArray)) w) : wpList P ops Q (op :: rest) a w := by
  unfold wpList
  rw [if_pos hw]
  exact .inl (wp_load_mid ty x ho b o hx cs d hc hu hd hi h)
theorem ldAw (hw : Region.wanted op (yielded ops a.tmps) = true) (x : Operand) (ho : op.op = .load 31 x) (b o : Nat) (hx : a.eval x = .pointer (some ⟨b, o, none⟩)) (ad : ArmsD) (hc : w.rangeAt b o (ac ad))
    (h : wpList Try.prog ops Q rest (a.put op.dst (.agg (ac ad).toArray)) w) : wpList Try.prog ops Q (op :: rest) a w :=
  wpList_load_w hw _ x ho b o hx (ac ad) _ hc Try.underlying31 rfl (info_ac ad) h
theorem ldFw (hw : Region.wanted op (yielded ops a.tmps) = true) (x : Operand) (ho : op.op = .load 28 x) (b o : Nat) (hx : a.eval x = .pointer (some ⟨b, o, none⟩)) (p q r s : Int) (hc : w.rangeAt b o [.int .i64 p, .int .i64 q, .int .i64 r, .int .i64 s])
    (h : wpList Try.prog ops Q rest (a.put op.dst (.agg #[.int .i64 p, .int .i64 q, .int .i64 r, .int .i64 s])) w) : wpList Try.prog ops Q (op :: rest) a w :=
  wpList_load_w hw _ x ho b o hx [.int .i64 p, .int .i64 q, .int .i64 r, .int .i64 s] _ hc Try.underlying28 rfl (by kernel_rfl) h
theorem ldIw (hw : Region.wanted op (yielded ops a.tmps) = true) (x : Operand) (ho : op.op = .load 3 x) (b o : Nat) (hx : a.eval x = .pointer (some ⟨b, o, none⟩)) (z : Int) (hc : w.cell? ⟨b, o, none⟩ = some (.int .i64 z))
    (h : wpList Try.prog ops Q rest (a.put op.dst (.int .i64 z)) w) : wpList Try.prog ops Q (op :: rest) a w := by
  have hr : (Instr.loadAt 3 (.pointer (some ⟨b, o, none⟩))).run Try.prog w = .ok (.int .i64 z) w := by go_simp
  unfold wpList
  rw [if_pos hw]
  left
  unfold Oper.wp execOp
  simp only [ho, hx, Sem.run_bind, hr, Sem.run_pure, Result.andThen_ok]
  exact h
end
end Go.Proofs.Ytjodoljgpdbimaa
