/- Arms in a box: what is read of them; comparison of their parts. -/
import Derived.Test.YtlonnkmfjijddaaGreatDoorRArms
import Derived.Test.YtlonnkmfjijddaaGreatDoorApp
import Derived.Maps.AppendAt
namespace Go.Proofs.YtlonnkmfjijddaaGreatDoor
open Go.ChangeShapes Go.WideShapes Go.ChangeAt Go.RowKit
set_option linter.unusedVariables false
set_option linter.unusedSimpArgs false
theorem rangeAt_blk15 {w : World} {g : Nat} {cs : List Value} {T : TypeId} (h : w.heap[g]? = some (.cells cs.toArray T (0, 0))) : w.rangeAt g 0 cs := fun j v hv => by
  rw [Nat.zero_add, cell_of h]
  simpa using hv
def neI (x y : Int) : Bool := decide (x ≠ y)
def ne4 (p q r s p' q' r' s' : Int) : Bool := decide (¬ (p = p' ∧ q = q' ∧ r = r' ∧ s = s'))
set_option maxHeartbeats 1000000 in
theorem ne4_runF (p q r s p' q' r' s' : Int) (w : World) : (binOp .neq 43 (.agg #[.int .i64 p, .int .i64 q, .int .i64 r, .int .i64 s]) (.agg #[.int .i64 p', .int .i64 q', .int .i64 r', .int .i64 s'])).run Tryz.prog w = .ok (.bool (ne4 p q r s p' q' r' s')) w := by
  unfold ne4
  by_cases h1 : p = p' <;> by_cases h2 : q = q' <;> by_cases h3 : r = r' <;> by_cases h4 : s = s' <;> (go_simp; done) <;> simp [h1, h2, h3, h4]
set_option maxHeartbeats 1000000 in
theorem ne4_runG (p q r s p' q' r' s' : Int) (w : World) : (binOp .neq 45 (.agg #[.int .i64 p, .int .i64 q, .int .i64 r, .int .i64 s]) (.agg #[.int .i64 p', .int .i64 q', .int .i64 r', .int .i64 s'])).run Tryz.prog w = .ok (.bool (ne4 p q r s p' q' r' s')) w := by
  unfold ne4
  by_cases h1 : p = p' <;> by_cases h2 : q = q' <;> by_cases h3 : r = r' <;> by_cases h4 : s = s' <;> (go_simp; done) <;> simp [h1, h2, h3, h4]
theorem part_rng {w : World} {b o : Nat} {cs : List Value} (h : w.rangeAt b o cs) (k n : Nat) : w.rangeAt b (o + k) ((cs.drop k).take n) := fun j v hv => by
  have hj := (List.getElem?_eq_some_iff.1 hv).1
  rw [List.length_take] at hj
  rw [List.getElem?_take_of_lt (by omega), List.getElem?_drop] at hv
  rw [show o + k + j = o + (k + j) from by omega]
  exact h _ _ hv
section
variable {ops : Array Oper} {rest : List Oper} {op : Oper} {a : Act} {w : World} {Q : Exit → Act → World → Prop}
theorem wpList_neqF (hgd : op.guard = none) (x y : Operand) (r0 : TypeId) (ho : op.op = .binOp .neq 43 x y r0) (p q r s p' q' r' s' : Int) (hx : a.eval x = .agg #[.int .i64 p, .int .i64 q, .int .i64 r, .int .i64 s]) (hy : a.eval y = .agg #[.int .i64 p', .int .i64 q', .int .i64 r', .int .i64 s']) (b : Bool) (hb : b = ne4 p q r s p' q' r' s')
    (h : wpList Tryz.prog ops Q rest (a.put op.dst (.bool b)) w) : wpList Tryz.prog ops Q (op :: rest) a w := by
  subst hb
  refine wpList_plain hgd fun _ hK => ?_
  have hr := ne4_runF p q r s p' q' r' s' w
  have hg := run_eqGuard_agg (P := Tryz.prog) w .neq 43 x y #[.int .i64 p, .int .i64 q, .int .i64 r, .int .i64 s] #[.int .i64 p', .int .i64 q', .int .i64 r', .int .i64 s'] (by kernel_rfl)
  unfold Oper.wp execOp
  simp only [ho, hx, hy, Sem.run_bind, hg, hr, Sem.run_pure, Result.andThen_ok]
  exact hK _ _ h
theorem wpList_neqG (hgd : op.guard = none) (x y : Operand) (r0 : TypeId) (ho : op.op = .binOp .neq 45 x y r0) (p q r s p' q' r' s' : Int) (hx : a.eval x = .agg #[.int .i64 p, .int .i64 q, .int .i64 r, .int .i64 s]) (hy : a.eval y = .agg #[.int .i64 p', .int .i64 q', .int .i64 r', .int .i64 s']) (b : Bool) (hb : b = ne4 p q r s p' q' r' s')
    (h : wpList Tryz.prog ops Q rest (a.put op.dst (.bool b)) w) : wpList Tryz.prog ops Q (op :: rest) a w := by
  subst hb
  refine wpList_plain hgd fun _ hK => ?_
  have hr := ne4_runG p q r s p' q' r' s' w
  have hg := run_eqGuard_agg (P := Tryz.prog) w .neq 45 x y #[.int .i64 p, .int .i64 q, .int .i64 r, .int .i64 s] #[.int .i64 p', .int .i64 q', .int .i64 r', .int .i64 s'] (by kernel_rfl)
  unfold Oper.wp execOp
  simp only [ho, hx, hy, Sem.run_bind, hg, hr, Sem.run_pure, Result.andThen_ok]
  exact hK _ _ h
theorem wpList_neqI (hgd : op.guard = none) (x y : Operand) (r0 : TypeId) (ho : op.op = .binOp .neq 3 x y r0) (p p' : Int) (hx : a.eval x = .int .i64 p) (hy : a.eval y = .int .i64 p') (b : Bool) (hb : b = neI p p')
    (h : wpList Tryz.prog ops Q rest (a.put op.dst (.bool b)) w) : wpList Tryz.prog ops Q (op :: rest) a w := by
  subst hb
  refine wpList_plain hgd fun _ hK => ?_
  have hr : (binOp .neq 3 (.int .i64 p) (.int .i64 p')).run Tryz.prog w = .ok (.bool (neI p p')) w := by unfold neI; by_cases h : p = p' <;> go_simp <;> simp [h]
  unfold Oper.wp execOp
  simp only [ho, hx, hy, Sem.run_bind, eqGuard_at_int, hr, Sem.run_pure, Result.andThen_ok]
  exact hK _ _ h
theorem wpList_eqlI (hgd : op.guard = none) (x y : Operand) (r0 : TypeId) (ho : op.op = .binOp .eql 3 x y r0) (p p' : Int) (hx : a.eval x = .int .i64 p) (hy : a.eval y = .int .i64 p') (b : Bool) (hb : b = neI p p')
    (h : wpList Tryz.prog ops Q rest (a.put op.dst (.bool (!b))) w) : wpList Tryz.prog ops Q (op :: rest) a w := by
  subst hb
  refine wpList_plain hgd fun _ hK => ?_
  have hr : (binOp .eql 3 (.int .i64 p) (.int .i64 p')).run Tryz.prog w = .ok (.bool (!neI p p')) w := by unfold neI; by_cases h : p = p' <;> go_simp <;> simp [h]
  unfold Oper.wp execOp
  simp only [ho, hx, hy, Sem.run_bind, eqGuard_at_int, hr, Sem.run_pure, Result.andThen_ok]
  exact hK _ _ h
theorem wp_appIat (hgd : op.guard = none) (s x : Operand) (ho : op.op = .call { callee := .builtin .append, args := #[s, x], argTypes := #[51, 51] })
    (B : Nat) (v : Value) (zs : List Int) (hs : a.eval s = v) (hown : OwnI w B 3 v zs) (b : Nat) (z : Int) (hx : a.eval x = .slice (some ⟨b, 0, none⟩) 1 1) (hc : w.cell? ⟨b, 0, none⟩ = some (.int .i64 z))
    (hl : zs.length ≤ 1099511627776) (hB : B ≤ w.heap.size)
    (h : ∀ v' w', OwnI w' B 3 v' (zs ++ [z]) → w.grownBy w' v.ownBlock → Below B w w' → (v'.ownBlock = v.ownBlock ∨ v'.ownBlock = some w.heap.size) → wpList Tryz.prog ops Q rest (a.put op.dst v') w') : wpList Tryz.prog ops Q (op :: rest) a w := by
  obtain ⟨i0, hi, hz0, hz1, hz2⟩ := info_parts info_int
  refine wpList_append_own_at w hgd s x 51 ho B 3 i0 (.int .i64 0) 1 8 Tryz.underlying51 hi hz0 hz1 hz2 rfl (by decide) v zs.length (iv zs) hs hown ⟨b, 0, none⟩ 1 1 [.int .i64 z] hx rfl ?_ (fun u hu => by simp at hu; subst hu; rfl) (by unfold maxLen; omega) (by omega) hB fun v' w' h1 h2 _ h3 => h v' w' ?_ h2 (grown_below hown hB h2) h3
  · intro j u hj
    match j, hj with
    | 0, hj => simp at hj; subst hj; simpa [Addr.add] using hc
    | j + 1, hj => simp at hj
  · unfold OwnI
    rw [iv_append, List.length_append]
    exact h1
theorem ldFl (hgd : op.guard = none) (x : Operand) (ho : op.op = .load 43 x) (b o : Nat) (hx : a.eval x = .pointer (some ⟨b, o, none⟩)) (p q r s : Int) (hc : w.rangeAt b o [.int .i64 p, .int .i64 q, .int .i64 r, .int .i64 s])
    (h : wpList Tryz.prog ops Q rest (a.put op.dst (.agg #[.int .i64 p, .int .i64 q, .int .i64 r, .int .i64 s])) w) : wpList Tryz.prog ops Q (op :: rest) a w :=
  wpList_load_mid hgd _ x ho b o hx _ _ hc Tryz.underlying43 rfl (by kernel_rfl) h
theorem ldGp (hgd : op.guard = none) (x : Operand) (ho : op.op = .load 45 x) (b o : Nat) (hx : a.eval x = .pointer (some ⟨b, o, none⟩)) (p q r s : Int) (hc : w.rangeAt b o [.int .i64 p, .int .i64 q, .int .i64 r, .int .i64 s])
    (h : wpList Tryz.prog ops Q rest (a.put op.dst (.agg #[.int .i64 p, .int .i64 q, .int .i64 r, .int .i64 s])) w) : wpList Tryz.prog ops Q (op :: rest) a w :=
  wpList_load_mid hgd _ x ho b o hx _ _ hc Tryz.underlying45 rfl (by kernel_rfl) h
end
/-- What is read of arms in a box. -/
structure Box15 (w : World) (b : Nat) (a : ArmsD) : Prop where
  all : w.rangeAt b 0 (ac a)
theorem Box15.f {w : World} {b : Nat} {a : ArmsD} (h : Box15 w b a) : w.rangeAt b 0 [.int .i64 a.d, .int .i64 a.l, .int .i64 a.p, .int .i64 a.q] := part_rng h.all 0 4
theorem Box15.g {w : World} {b : Nat} {a : ArmsD} (h : Box15 w b a) : w.rangeAt b 7 [.int .i64 a.c1, .int .i64 a.k1, .int .i64 a.a1, .int .i64 a.t1] := (Nat.zero_add 7) ▸ part_rng h.all 7 4
theorem Box15.r {w : World} {b : Nat} {a : ArmsD} (h : Box15 w b a) : w.rangeAt b 11 [.int .i64 a.c2, .int .i64 a.k2, .int .i64 a.a2, .int .i64 a.t2] := (Nat.zero_add 11) ▸ part_rng h.all 11 4
theorem Box15.o {w : World} {b : Nat} {a : ArmsD} (h : Box15 w b a) : w.cell? ⟨b, 4, none⟩ = some (.int .i64 a.o) := by simpa using h.all 4 _ rfl
theorem Box15.li {w : World} {b : Nat} {a : ArmsD} (h : Box15 w b a) : w.cell? ⟨b, 5, none⟩ = some (.int .i64 a.li) := by simpa using h.all 5 _ rfl
theorem Box15.t {w : World} {b : Nat} {a : ArmsD} (h : Box15 w b a) : w.cell? ⟨b, 6, none⟩ = some (.int .i64 a.t) := by simpa using h.all 6 _ rfl
theorem Box15.lt {w : World} {b : Nat} {a : ArmsD} (h : Box15 w b a) : b < w.heap.size := World.block_lt_of_cell? w _ (h.all 0 _ rfl)
theorem Box15.below {w w' : World} {B b : Nat} {a : ArmsD} (h : Box15 w b a) (hb : Below B w w') (hB : b < B) : Box15 w' b a := ⟨fun j v hv => by
  rw [World.cell?_of_block (a := ⟨b, 0 + j, none⟩) (hb.block b hB)]
  exact h.all j v hv⟩

section
variable {ops : Array Oper} {rest : List Oper} {op : Oper} {a : Act} {w : World} {Q : Exit → Act → World → Prop}
theorem ldI (hgd : op.guard = none) (x : Operand) (ho : op.op = .load 3 x) (b o : Nat) (hx : a.eval x = .pointer (some ⟨b, o, none⟩)) (z : Int) (hc : w.cell? ⟨b, o, none⟩ = some (.int .i64 z))
    (h : wpList Tryz.prog ops Q rest (a.put op.dst (.int .i64 z)) w) : wpList Tryz.prog ops Q (op :: rest) a w := by
  refine wpList_plain hgd fun _ hK => ?_
  have hr : (Instr.loadAt 3 (.pointer (some ⟨b, o, none⟩))).run Tryz.prog w = .ok (.int .i64 z) w := by go_simp
  unfold Oper.wp execOp
  simp only [ho, hx, Sem.run_bind, hr, Sem.run_pure, Result.andThen_ok]
  exact hK _ _ h
end
theorem Box15.cell {w : World} {b : Nat} {a : ArmsD} (h : Box15 w b a) (i : Nat) (z : Int) (hz : (ac a)[i]? = some (.int .i64 z)) : w.cell? ⟨b, i, none⟩ = some (.int .i64 z) := by simpa using h.all i _ hz
end Go.Proofs.YtlonnkmfjijddaaGreatDoor
