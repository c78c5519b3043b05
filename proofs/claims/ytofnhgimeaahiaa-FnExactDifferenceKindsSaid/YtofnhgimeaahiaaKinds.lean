/- Contracts: DifferenceKinds of both sides. -/
import Derived.Test.YtofnhgimeaahiaaFree
import Derived.Deep.DeepCutAuto
import Derived.Maps.AppendAt
namespace Go.Proofs.Ytofnhgimeaahiaa
open Go.ChangeShapes Go.WideShapes Go.ChangeAt Go.RowKit
set_option linter.unusedVariables false
set_option linter.unusedSimpArgs false
def neI (x y : Int) : Bool := decide (x ≠ y)
def ne4 (p q r s p' q' r' s' : Int) : Bool := decide (¬ (p = p' ∧ q = q' ∧ r = r' ∧ s = s'))
/-- One kind of difference, if it is there. -/
def oneK (q : Bool) (k : Int) : List Int := bif q then [k] else []
def kindL (a b : ArmsD) : List Int :=
  oneK (ne4 a.d a.l a.p a.q b.d b.l b.p b.q) 1 ++ (bif neI a.o b.o then [2] else oneK (neI a.li b.li) 3 ++ oneK (neI a.t b.t) 4) ++ oneK (ne4 a.c1 a.k1 a.a1 a.t1 b.c1 b.k1 b.a1 b.t1) 5 ++ oneK (ne4 a.c2 a.k2 a.a2 a.t2 b.c2 b.k2 b.a2 b.t2) 6
theorem oneK_len (q : Bool) (k : Int) : (oneK q k).length ≤ 1 := by cases q <;> simp [oneK]
theorem kindL_len (a b : ArmsD) : (kindL a b).length ≤ 6 := by
  unfold kindL
  generalize ne4 a.d a.l a.p a.q b.d b.l b.p b.q = q1
  generalize neI a.o b.o = q2
  generalize neI a.li b.li = q3
  generalize neI a.t b.t = q4
  generalize ne4 a.c1 a.k1 a.a1 a.t1 b.c1 b.k1 b.a1 b.t1 = q5
  generalize ne4 a.c2 a.k2 a.a2 a.t2 b.c2 b.k2 b.a2 b.t2 = q6
  cases q1 <;> cases q2 <;> cases q3 <;> cases q4 <;> cases q5 <;> cases q6 <;> decide
def kindOk (a b : ArmsD) : Bool := armsOk a && armsOk b
def kindR (a b : ArmsD) : List Int := bif kindOk a b then kindL a b else []
theorem kindR_len (a b : ArmsD) : (kindR a b).length ≤ 6 := by
  unfold kindR
  cases kindOk a b
  · simp
  · exact kindL_len a b
set_option maxHeartbeats 1000000 in
theorem ne4_runF (p q r s p' q' r' s' : Int) (w : World) : (binOp .neq 31 (.agg #[.int .i64 p, .int .i64 q, .int .i64 r, .int .i64 s]) (.agg #[.int .i64 p', .int .i64 q', .int .i64 r', .int .i64 s'])).run Try.prog w = .ok (.bool (ne4 p q r s p' q' r' s')) w := by
  unfold ne4
  by_cases h1 : p = p' <;> by_cases h2 : q = q' <;> by_cases h3 : r = r' <;> by_cases h4 : s = s' <;> (go_simp; done) <;> simp [h1, h2, h3, h4]
set_option maxHeartbeats 1000000 in
theorem ne4_runG (p q r s p' q' r' s' : Int) (w : World) : (binOp .neq 32 (.agg #[.int .i64 p, .int .i64 q, .int .i64 r, .int .i64 s]) (.agg #[.int .i64 p', .int .i64 q', .int .i64 r', .int .i64 s'])).run Try.prog w = .ok (.bool (ne4 p q r s p' q' r' s')) w := by
  unfold ne4
  by_cases h1 : p = p' <;> by_cases h2 : q = q' <;> by_cases h3 : r = r' <;> by_cases h4 : s = s' <;> (go_simp; done) <;> simp [h1, h2, h3, h4]
theorem part_rng {w : World} {b o : Nat} {cs : List Value} (h : w.rangeAt b o cs) (k n : Nat) : w.rangeAt b (o + k) ((cs.drop k).take n) := fun j v hv => by
  have hj := (List.getElem?_eq_some_iff.1 hv).1
  rw [List.length_take] at hj
  rw [List.getElem?_take_of_lt (by omega), List.getElem?_drop] at hv
  rw [show o + k + j = o + (k + j) from by omega]
  exact h _ _ hv
section
variable {ops : Array Oper} {rest : List Oper} {op : Oper} {a : Act} {w : World} {Q : Exit → Act → World → Prop}
theorem wpList_neqF (hgd : op.guard = none) (x y : Operand) (r0 : TypeId) (ho : op.op = .binOp .neq 31 x y r0) (p q r s p' q' r' s' : Int) (hx : a.eval x = .agg #[.int .i64 p, .int .i64 q, .int .i64 r, .int .i64 s]) (hy : a.eval y = .agg #[.int .i64 p', .int .i64 q', .int .i64 r', .int .i64 s']) (b : Bool) (hb : b = ne4 p q r s p' q' r' s')
    (h : wpList Try.prog ops Q rest (a.put op.dst (.bool b)) w) : wpList Try.prog ops Q (op :: rest) a w := by
  subst hb
  refine wpList_plain hgd fun _ hK => ?_
  have hr := ne4_runF p q r s p' q' r' s' w
  have hg := run_eqGuard_agg (P := Try.prog) w .neq 31 x y #[.int .i64 p, .int .i64 q, .int .i64 r, .int .i64 s] #[.int .i64 p', .int .i64 q', .int .i64 r', .int .i64 s'] (by kernel_rfl)
  unfold Oper.wp execOp
  simp only [ho, hx, hy, Sem.run_bind, hg, hr, Sem.run_pure, Result.andThen_ok]
  exact hK _ _ h
theorem wpList_neqG (hgd : op.guard = none) (x y : Operand) (r0 : TypeId) (ho : op.op = .binOp .neq 32 x y r0) (p q r s p' q' r' s' : Int) (hx : a.eval x = .agg #[.int .i64 p, .int .i64 q, .int .i64 r, .int .i64 s]) (hy : a.eval y = .agg #[.int .i64 p', .int .i64 q', .int .i64 r', .int .i64 s']) (b : Bool) (hb : b = ne4 p q r s p' q' r' s')
    (h : wpList Try.prog ops Q rest (a.put op.dst (.bool b)) w) : wpList Try.prog ops Q (op :: rest) a w := by
  subst hb
  refine wpList_plain hgd fun _ hK => ?_
  have hr := ne4_runG p q r s p' q' r' s' w
  have hg := run_eqGuard_agg (P := Try.prog) w .neq 32 x y #[.int .i64 p, .int .i64 q, .int .i64 r, .int .i64 s] #[.int .i64 p', .int .i64 q', .int .i64 r', .int .i64 s'] (by kernel_rfl)
  unfold Oper.wp execOp
  simp only [ho, hx, hy, Sem.run_bind, hg, hr, Sem.run_pure, Result.andThen_ok]
  exact hK _ _ h
theorem wpList_neqI (hgd : op.guard = none) (x y : Operand) (r0 : TypeId) (ho : op.op = .binOp .neq 3 x y r0) (p p' : Int) (hx : a.eval x = .int .i64 p) (hy : a.eval y = .int .i64 p') (b : Bool) (hb : b = neI p p')
    (h : wpList Try.prog ops Q rest (a.put op.dst (.bool b)) w) : wpList Try.prog ops Q (op :: rest) a w := by
  subst hb
  refine wpList_plain hgd fun _ hK => ?_
  have hr : (binOp .neq 3 (.int .i64 p) (.int .i64 p')).run Try.prog w = .ok (.bool (neI p p')) w := by unfold neI; by_cases h : p = p' <;> go_simp <;> simp [h]
  unfold Oper.wp execOp
  simp only [ho, hx, hy, Sem.run_bind, eqGuard_at_int, hr, Sem.run_pure, Result.andThen_ok]
  exact hK _ _ h
theorem wpList_eqlI (hgd : op.guard = none) (x y : Operand) (r0 : TypeId) (ho : op.op = .binOp .eql 3 x y r0) (p p' : Int) (hx : a.eval x = .int .i64 p) (hy : a.eval y = .int .i64 p') (b : Bool) (hb : b = neI p p')
    (h : wpList Try.prog ops Q rest (a.put op.dst (.bool (!b))) w) : wpList Try.prog ops Q (op :: rest) a w := by
  subst hb
  refine wpList_plain hgd fun _ hK => ?_
  have hr : (binOp .eql 3 (.int .i64 p) (.int .i64 p')).run Try.prog w = .ok (.bool (!neI p p')) w := by unfold neI; by_cases h : p = p' <;> go_simp <;> simp [h]
  unfold Oper.wp execOp
  simp only [ho, hx, hy, Sem.run_bind, eqGuard_at_int, hr, Sem.run_pure, Result.andThen_ok]
  exact hK _ _ h
theorem wp_appIat (hgd : op.guard = none) (s x : Operand) (ho : op.op = .call { callee := .builtin .append, args := #[s, x], argTypes := #[28, 28] })
    (B : Nat) (v : Value) (zs : List Int) (hs : a.eval s = v) (hown : OwnI w B 3 v zs) (b : Nat) (z : Int) (hx : a.eval x = .slice (some ⟨b, 0, none⟩) 1 1) (hc : w.cell? ⟨b, 0, none⟩ = some (.int .i64 z))
    (hl : zs.length ≤ 1099511627776) (hB : B ≤ w.heap.size)
    (h : ∀ v' w', OwnI w' B 3 v' (zs ++ [z]) → w.grownBy w' v.ownBlock → Below B w w' → (v'.ownBlock = v.ownBlock ∨ v'.ownBlock = some w.heap.size) → wpList Try.prog ops Q rest (a.put op.dst v') w') : wpList Try.prog ops Q (op :: rest) a w := by
  obtain ⟨i0, hi, hz0, hz1, hz2⟩ := info_parts info_int
  refine wpList_append_own_at w hgd s x 28 ho B 3 i0 (.int .i64 0) 1 8 Try.underlying28 hi hz0 hz1 hz2 rfl (by decide) v zs.length (iv zs) hs hown ⟨b, 0, none⟩ 1 1 [.int .i64 z] hx rfl ?_ (fun u hu => by simp at hu; subst hu; rfl) (by unfold maxLen; omega) (by omega) hB fun v' w' h1 h2 _ h3 => h v' w' ?_ h2 (grown_below hown hB h2) h3
  · intro j u hj
    match j, hj with
    | 0, hj => simp at hj; subst hj; simpa [Addr.add] using hc
    | j + 1, hj => simp at hj
  · unfold OwnI
    rw [iv_append, List.length_append]
    exact h1
theorem ldFl (hgd : op.guard = none) (x : Operand) (ho : op.op = .load 31 x) (b o : Nat) (hx : a.eval x = .pointer (some ⟨b, o, none⟩)) (p q r s : Int) (hc : w.rangeAt b o [.int .i64 p, .int .i64 q, .int .i64 r, .int .i64 s])
    (h : wpList Try.prog ops Q rest (a.put op.dst (.agg #[.int .i64 p, .int .i64 q, .int .i64 r, .int .i64 s])) w) : wpList Try.prog ops Q (op :: rest) a w :=
  wpList_load_mid hgd _ x ho b o hx _ _ hc Try.underlying31 rfl (by kernel_rfl) h
theorem ldGp (hgd : op.guard = none) (x : Operand) (ho : op.op = .load 32 x) (b o : Nat) (hx : a.eval x = .pointer (some ⟨b, o, none⟩)) (p q r s : Int) (hc : w.rangeAt b o [.int .i64 p, .int .i64 q, .int .i64 r, .int .i64 s])
    (h : wpList Try.prog ops Q rest (a.put op.dst (.agg #[.int .i64 p, .int .i64 q, .int .i64 r, .int .i64 s])) w) : wpList Try.prog ops Q (op :: rest) a w :=
  wpList_load_mid hgd _ x ho b o hx _ _ hc Try.underlying32 rfl (by kernel_rfl) h
end
/-- What is read of arms in a box. -/
structure Box15 (w : World) (b : Nat) (a : ArmsD) : Prop where
  all : w.rangeAt b 0 (ac a)
theorem Box15.f {w : World} {b : Nat} {a : ArmsD} (h : Box15 w b a) : w.rangeAt b 0 [.int .i64 a.d, .int .i64 a.l, .int .i64 a.p, .int .i64 a.q] := part_rng h.all 0 4
theorem Box15.g {w : World} {b : Nat} {a : ArmsD} (h : Box15 w b a) : w.rangeAt b 7 [.int .i64 a.c1, .int .i64 a.k1, .int .i64 a.a1, .int .i64 a.t1] := (Nat.zero_add 7) ▸ part_rng h.all 7 4
theorem Box15.r {w : World} {b : Nat} {a : ArmsD} (h : Box15 w b a) : w.rangeAt b 11 [.int .i64 a.c2, .int .i64 a.k2, .int .i64 a.a2, .int .i64 a.t2] := (Nat.zero_add 11) ▸ part_rng h.all 11 4
theorem Box15.o {w : World} {b : Nat} {a : ArmsD} (h : Box15 w b a) : w.cell? ⟨b, 4, none⟩ = some (.int .i64 a.o) := by simpa using h.all 4 _ rfl
theorem Box15.li {w : World} {b : Nat} {a : ArmsD} (h : Box15 w b a) : w.cell? ⟨b, 5, none⟩ = some (.int .i64 a.li) := by simpa using h.all 5 _ rfl
theorem Box15.t {w : World} {b : Nat} {a : ArmsD} (h : Box15 w b a) : w.cell? ⟨b, 6, none⟩ = some (.int .i64 a.t) := by simpa using h.all 6 _ rfl
theorem Box15.lt {w : World} {b : Nat} {a : ArmsD} (h : Box15 w b a) : b < w.heap.size := World.block_lt_of_cell? w _ (h.all 0 _ rfl)
theorem Box15.below {w w' : World} {B b : Nat} {a : ArmsD} (h : Box15 w b a) (hb : Below B w w') (hB : b < B) : Box15 w' b a := ⟨fun j v hv => by
  rw [World.cell?_of_block (a := ⟨b, 0 + j, none⟩) (hb.block b hB)]
  exact h.all j v hv⟩

theorem boxes15 (a b : ArmsD) (w : World) : ∀ w', Below ((w.alloc (.cells (ac a).toArray 34)).alloc (.cells (ac b).toArray 34)).heap.size ((w.alloc (.cells (ac a).toArray 34)).alloc (.cells (ac b).toArray 34)) w' → Box15 w' w.heap.size a ∧ Box15 w' (w.heap.size + 1) b := fun w' hb =>
  ⟨Box15.below ⟨rangeAt_blk (heap_keepA (heap_hit _ _ _ rfl) _)⟩ hb (by simp; omega), Box15.below ⟨rangeAt_blk (heap_hit _ _ _ (by simp))⟩ hb (by simp)⟩
theorem boxesH (a b : ArmsD) (w : World) : ∀ w', Below ((w.alloc (.cells (ac a).toArray 34)).alloc (.cells (ac b).toArray 34)).heap.size ((w.alloc (.cells (ac a).toArray 34)).alloc (.cells (ac b).toArray 34)) w' → w'.heap[w.heap.size]? = some (.cells (ac a).toArray 34 (0, 0)) ∧ w'.heap[w.heap.size + 1]? = some (.cells (ac b).toArray 34 (0, 0)) := fun w' hb =>
  ⟨heap_keepB (heap_keepA (heap_hit _ _ _ rfl) _) hb, heap_keepB (heap_hit _ _ _ (by simp)) hb⟩
section
variable {ops : Array Oper} {rest : List Oper} {op : Oper} {a : Act} {w : World} {Q : Exit → Act → World → Prop}
theorem ldI (hgd : op.guard = none) (x : Operand) (ho : op.op = .load 3 x) (b o : Nat) (hx : a.eval x = .pointer (some ⟨b, o, none⟩)) (z : Int) (hc : w.cell? ⟨b, o, none⟩ = some (.int .i64 z))
    (h : wpList Try.prog ops Q rest (a.put op.dst (.int .i64 z)) w) : wpList Try.prog ops Q (op :: rest) a w := by
  refine wpList_plain hgd fun _ hK => ?_
  have hr : (Instr.loadAt 3 (.pointer (some ⟨b, o, none⟩))).run Try.prog w = .ok (.int .i64 z) w := by go_simp
  unfold Oper.wp execOp
  simp only [ho, hx, Sem.run_bind, hr, Sem.run_pure, Result.andThen_ok]
  exact hK _ _ h
end
theorem ne_at {v v' : Value} {b n : Nat} (hat : v'.ownBlock = v.ownBlock ∨ v'.ownBlock = some n) (hne : v.ownBlock ≠ some b) (hb : b < n) : v'.ownBlock ≠ some b := by
  rcases hat with e | e
  · rw [e]; exact hne
  · rw [e]; intro h; injection h with h; omega
/-- What the closure has done: the variable holds a row with one kind more, if it is to be noted. -/
structure Noted (w : World) (B p : Nat) (zs : List Int) (w' : World) : Prop where
  row : ∃ v, w'.heap[p]? = some (.cells #[v] 28 (0, 0)) ∧ OwnI w' B 3 v zs ∧ v.ownBlock ≠ some p
  below : Below B w w'
set_option maxHeartbeats 1000000 in
theorem note_any (B p : Nat) (zs : List Int) (q : Bool) (k : Int) (w w0 : World) (h : Noted w0 B p zs w) (hB : B ≤ p) (hp : p < w.heap.size) (hl : zs.length ≤ 1048576) :
    Calls Try.prog 34 #[.bool q, .int .i64 k, .pointer (some ⟨p, 0, none⟩)] w fun e w' => e = .returned (.tuple #[]) ∧ Noted w0 B p (zs ++ oneK q k) w' ∧ w.heap.size ≤ w'.heap.size := by
  obtain ⟨⟨v, hh, ho, hv⟩, hb⟩ := h
  have hc := cell_of hh 0
  have hf := frozen_of hh 0
  have HN := Lib.hid hh
  cases q
  · clear hh
    go_enter Try.func34, Try.ntmps34
    go_wp2
    go_end0
    exact ⟨rfl, ⟨⟨v, HN.out, by simpa [oneK] using ho, hv⟩, hb⟩, Nat.le_refl _⟩
  · have HO := Lib.hid ho
    have HV := Lib.hid hv
    have HL := Lib.hid hl
    clear hh ho hv hl
    go_enter Try.func34, Try.ntmps34
    have hBw : B ≤ (w.alloc (.cells #[.int .i64 k] 3)).heap.size := by simp; omega
    have HBW := Lib.hid hBw
    clear hBw
    go_wp2_with (first | (at_builtin; refine wp_appIat rfl _ _ rfl B v zs rfl (HO.out.alloc _) _ _ rfl (cell_of (heap_hit _ _ _ rfl) 0) (by have := HL.out; omega) HBW.out ?_; intro v' w9 hO9 hG9 hL9 hA9; have hh9 := heap_keepG (heap_keepA HN.out _) hG9 HV.out; have hc9 := cell_of hh9 0; have hf9 := frozen_of hh9 0; obtain ⟨A9, c9, ev9, -⟩ := hO9.form; subst ev9) | fail)
    go_end0
    have hne := ne_at hA9 HV.out (by simp; omega)
    have hO9' : OwnI w9 B 3 (.slice A9 (zs.length + 1) c9) (zs ++ oneK true k) := by simpa [oneK] using hO9
    replace hne : (Value.slice A9 (zs.length + 1) c9).ownBlock ≠ some p := by simpa using hne
    refine ⟨rfl, ⟨⟨_, heap_set _ _ 0 _ _ _ hh9, OwnI.other hO9' (grownBy_set (World.grownBy.refl _ _) 0 _) (.inr hne), hne⟩, ?_⟩, ?_⟩
    · exact (hb.trans ((Below_al (Below.refl _ w) _).mono (by omega) |>.trans hL9)).setCell (by dsimp only; omega) _
    · have := hL9.size
      simp at this ⊢
      omega
end Go.Proofs.Ytofnhgimeaahiaa
