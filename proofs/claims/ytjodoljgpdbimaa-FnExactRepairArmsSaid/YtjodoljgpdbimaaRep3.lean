/- RepairArms of the program. -/
import Derived.Test.YtjodoljgpdbimaaRep
import Derived.Test.YtjodoljgpdbimaaDiff
namespace Go.Proofs.Ytjodoljgpdbimaa
open Go.ChangeShapes Go.WideShapes Go.ChangeAt Go.RowKit
set_option linter.unusedVariables false
set_option linter.unusedSimpArgs false
def tri (a : ArmsD) (x y z : Int) : ArmsD := { a with t := x, t1 := y, t2 := z }
def chN (a : ArmsD) (x y z : Int) : Nat := (if x = a.t then 0 else 1) + (if y = a.t1 then 0 else 1) + (if z = a.t2 then 0 else 1)
def zA : ArmsD := ⟨0, 0, 0, 0, 0, 0, 0, 0, 0, 0, 0, 0, 0, 0, 0⟩
abbrev RS := Nat × ArmsD
def stR (a : ArmsD) (x y : Int) (S : RS) (z : Int) : RS := if chN a x y z < S.1 ∧ okR (tri a x y z) = true then (chN a x y z, tri a x y z) else S
def rZ (a : ArmsD) (x y : Int) (S : RS) (zs : List Int) : RS := zs.foldl (stR a x y) S
def rY (a : ArmsD) (x : Int) (zs : List Int) (S : RS) (ys : List Int) : RS := ys.foldl (fun S y => rZ a x y S zs) S
def rX (a : ArmsD) (ys zs : List Int) (S : RS) (xs : List Int) : RS := xs.foldl (fun S x => rY a x zs S ys) S
theorem foldl_take {α β : Type} (f : β → α → β) (S : β) (l : List α) {k : Nat} {x : α} (h : l[k]? = some x) : (l.take (k + 1)).foldl f S = f ((l.take k).foldl f S) x := by
  rw [List.take_add_one, h, List.foldl_append]
  rfl
theorem foldl_inv {α β : Type} {f : β → α → β} {P : β → Prop} (hf : ∀ S x, P S → P (f S x)) : ∀ (l : List α) (S : β), P S → P (l.foldl f S)
  | [], _, h => h
  | x :: l, S, h => foldl_inv hf l _ (hf S x h)
theorem chN_le (a : ArmsD) (x y z : Int) : chN a x y z ≤ 3 := by
  unfold chN
  repeat' split
  all_goals omega
theorem stR_le {a : ArmsD} {x y : Int} {S : RS} (z : Int) (h : S.1 ≤ 4) : (stR a x y S z).1 ≤ 4 := by
  unfold stR
  split
  · have := chN_le a x y z; show chN a x y z ≤ 4; omega
  · exact h
theorem rZ_le {a : ArmsD} {x y : Int} {S : RS} (zs : List Int) (h : S.1 ≤ 4) : (rZ a x y S zs).1 ≤ 4 := foldl_inv (P := fun S : RS => S.1 ≤ 4) (fun S z h => stR_le z h) zs S h
theorem rY_le {a : ArmsD} {x : Int} {zs : List Int} {S : RS} (ys : List Int) (h : S.1 ≤ 4) : (rY a x zs S ys).1 ≤ 4 := foldl_inv (P := fun S : RS => S.1 ≤ 4) (fun S y h => rZ_le zs h) ys S h
theorem rX_le {a : ArmsD} {ys zs : List Int} {S : RS} (xs : List Int) (h : S.1 ≤ 4) : (rX a ys zs S xs).1 ≤ 4 := foldl_inv (P := fun S : RS => S.1 ≤ 4) (fun S x h => rY_le ys h) xs S h
def finR (a : ArmsD) : RS := rX a (chL a.t1) (chL a.t2) (4, zA) (chL a.t)
def repOk (a : ArmsD) : Bool := armsOk a && decide ((finR a).1 < 4)
def repA (a : ArmsD) : ArmsD := bif repOk a then (finR a).2 else zA
def repN (a : ArmsD) : Nat := bif repOk a then (finR a).1 else 0
def RepIs (w : World) (a : ArmsD) (e : Ending) (w' : World) : Prop := e = .returned (.tuple #[.agg (ac (repA a)).toArray, .int .i64 (repN a : Int), .bool (repOk a)]) ∧ Below w.heap.size w w'
/-- What is best lies in block D; all else stays. -/
structure RepSt (W : World) (D : Nat) (S : RS) (w : World) : Prop where
  best : w.heap[D]? = some (.cells (ac S.2).toArray 31 (0, 0))
  grown : W.grownBy w (some D)
theorem RepSt.below {W w w' : World} {D : Nat} {S : RS} (h : RepSt W D S w) (hb : Below w.heap.size w w') : RepSt W D S w' := ⟨heap_keepB h.best hb, grownBy_below h.grown hb⟩
theorem RepSt.fresh {W w w' : World} {D g : Nat} {S : RS} (h : RepSt W D S w) (hg : w.grownBy w' (some g)) (hW : W.heap.size ≤ g) (hD : D ≠ g) : RepSt W D S w' :=
  ⟨heap_keepG h.best hg (fun e => hD (by injection e with e; exact e.symm)), ⟨hg.os.trans h.grown.os, hg.tape.trans h.grown.tape, hg.output.trans h.grown.output, Nat.le_trans h.grown.size hg.size, fun k hk hne => (hg.block k (by have := h.grown.size; omega) (fun e => by injection e with e; omega)).trans (h.grown.block k hk hne)⟩⟩
theorem RepSt.into {W W' w : World} {D : Nat} {S : RS} (h : RepSt W D S W') (hb : W'.grownBy w (some D)) (hbest : w.heap[D]? = some (.cells (ac S.2).toArray 31 (0, 0))) : RepSt W D S w := ⟨hbest, grownBy_trans h.grown hb⟩
section
variable {ops : Array Oper} {rest : List Oper} {op : Oper} {a : Act} {w : World} {Q : Exit → Act → World → Prop}
theorem setCells_grownR (g : Nat) : ∀ (vs : List Value) (o : Nat) (w : World), w.grownBy (w.setCells g o vs) (some g) := fun vs o w => grownBy_setCells vs o (World.grownBy.refl _ _)
/-- Arms stored into a block that is known whole. -/
theorem stAw (hgd : op.guard = none) (x y : Operand) (ho : op.op = .store 31 x y) (g : Nat) (hx : a.eval x = .pointer (some ⟨g, 0, none⟩)) (ad : ArmsD) (hy : a.eval y = .agg (ac ad).toArray) (old : Array Value) (hg : w.heap[g]? = some (.cells old 31 (0, 0))) (hl : old.size = 15)
    (hK : ∀ w', w'.heap[g]? = some (.cells (ac ad).toArray 31 (0, 0)) → w.grownBy w' (some g) → wpList Try.prog ops Q rest (a.put op.dst undef) w') : wpList Try.prog ops Q (op :: rest) a w := by
  have hs := heap_setCells (g := g) (T := 31) (ac ad) w [] old.toList [] (by simp [hl, ac_len]) (by simpa using hg)
  refine wpList_store_mid hgd _ x y ho g 0 (ac ad).toArray hx hy ?_ (by simpa using info_ac ad) (all_oneCell_toArray (ac_one ad)) (hK _ ?_ (by rw [List.toList_toArray]; exact setCells_grownR g _ _ _))
  · exact block_there hg (by simp [hl, ac_len])
  · simpa using hs
end
theorem RepSt.low {B : Nat} {X W w : World} {D : Nat} {S : RS} (h : RepSt W D S w) (hb : Below B X W) (hB : B ≤ D) (hs : B ≤ W.heap.size) : Below B X w := hb.grown h.grown hs fun k e => by injection e with e; omega
theorem RepSt.rd {W w : World} {D g : Nat} {S : RS} {zs : List Int} (h : RepSt W D S w) (hx : RdI W (some ⟨g, 0, none⟩) zs) (hne : D ≠ g) : RdI w (some ⟨g, 0, none⟩) zs := hx.grown h.grown fun cb off e => by injection e with e; injection e with e _ _; rw [← e]; exact fun e2 => hne (by injection e2)
theorem RepSt.start {W : World} {D : Nat} {S : RS} {w : World} (h : RepSt W D S w) : RepSt w D S w := ⟨h.best, World.grownBy.refl _ _⟩
theorem RepSt.up {W W' w : World} {D : Nat} {S S' : RS} (h : RepSt W D S W') (h' : RepSt W' D S' w) : RepSt W D S' w := ⟨h'.best, grownBy_trans h.grown h'.grown⟩
theorem chL_pos (x : Int) : 0 < (chL x).length := by unfold chL; split <;> decide
theorem chN_num (a : ArmsD) (x y z : Int) : numI (x != a.t) + numI (y != a.t1) + numI (z != a.t2) = (chN a x y z : Int) := by
  have e : ∀ u v : Int, numI (u != v) = ((if u = v then 0 else 1 : Nat) : Int) := fun u v => by
    unfold numI
    by_cases h : u = v
    · subst h; simp
    · simp [h]
  unfold chN
  rw [e, e, e]
  omega
theorem fin_take {α : Type} {l : List α} {k : Nat} (h : k = l.length) : l.take k = l := by subst h; exact List.take_length
/-- Within the innermost round: the copy b lies in block g. -/
structure InSt (W : World) (D : Nat) (S : RS) (g : Nat) (b : ArmsD) (w : World) : Prop where
  st : RepSt W D S w
  blk : w.heap[g]? = some (.cells (ac b).toArray 31 (0, 0))
  far : W.heap.size ≤ g
  ne : D ≠ g
theorem InSt.store {W : World} {D : Nat} {S : RS} {g : Nat} {b b' : ArmsD} {w w' : World} (h : InSt W D S g b w) (hg : w'.heap[g]? = some (.cells (ac b').toArray 31 (0, 0))) (hw : w.grownBy w' (some g)) : InSt W D S g b' w' := ⟨h.st.fresh hw h.far h.ne, hg, h.far, h.ne⟩
theorem InSt.below {W : World} {D : Nat} {S : RS} {g : Nat} {b : ArmsD} {w w' : World} (h : InSt W D S g b w) (hb : Below w.heap.size w w') : InSt W D S g b w' := ⟨h.st.below hb, heap_keepB h.blk hb, h.far, h.ne⟩
section
variable {ops : Array Oper} {rest : List Oper} {op : Oper} {a : Act} {w : World} {Q : Exit → Act → World → Prop}
/-- One number of arms that lie in a block. -/
theorem stI1 (hgd : op.guard = none) (x y : Operand) (ho : op.op = .store 3 x y) (g o : Nat) (hx : a.eval x = .pointer (some ⟨g, o, none⟩)) (z : Int) (hy : a.eval y = .int .i64 z) (b b' : ArmsD) (hg : w.heap[g]? = some (.cells (ac b).toArray 31 (0, 0)))
    (pre post : List Value) (u : Value) (e1 : ac b = pre ++ ([u] ++ post)) (e2 : ac b' = pre ++ ([.int .i64 z] ++ post)) (ho2 : pre.length = o)
    (hK : ∀ w', w'.heap[g]? = some (.cells (ac b').toArray 31 (0, 0)) → w.grownBy w' (some g) → wpList Try.prog ops Q rest (a.put op.dst undef) w') : wpList Try.prog ops Q (op :: rest) a w := by
  refine wpList_plain hgd fun _ hK2 => ?_
  rw [e1] at hg
  have hs := heap_setCells (g := g) (T := 31) [.int .i64 z] w pre [u] post rfl hg
  have hl : ((pre ++ ([u] ++ post)).toArray : Array Value)[pre.length]? = some u := by simp
  have hst : (storeVar 3 ⟨g, o, none⟩ (.int .i64 z)).run Try.prog w = .ok () (w.setCells g o [.int .i64 z]) := by
    subst ho2
    have := run_storeCells_cells (P := Try.prog) g pre.length [.int .i64 z] 0 w (fun j hj => by simp at hj; subst hj; simp [World.cell?, hg]) (fun j hj => by simp at hj; subst hj; simp [World.frozen?, hg]) (fun u hu => by simp at hu; subst hu; rfl)
    have hq : (Try.prog.info? 3).map (·.size) = some 1 := by kernel_rfl
    cases hq2 : Try.prog.info? 3 with
    | none => simp [hq2] at hq
    | some ii =>
      have hs' : ii.size = 1 := by simpa [hq2] using hq
      simp only [Nat.add_zero] at this
      simp [storeVar, sizeOf, typeInfo, hq2, Value.cells, hs', this]
  unfold Oper.wp execOp
  simp only [ho, hx, hy, Instr.storeAt, Instr.sureAddr, Sem.run_bind, Sem.run_pure, Result.andThen_ok, hst]
  refine hK2 _ _ (hK _ ?_ (grownBy_setCells _ _ (World.grownBy.refl _ _)))
  subst ho2
  rw [e2]
  exact hs
end
set_option maxHeartbeats 8000000 in
set_option maxRecDepth 20000 in
theorem implRepair_yes (a : ArmsD) (ga : armsOk a = true) (w : World) : Calls Try.prog 7 #[.agg (ac a).toArray] w (RepIs w a) := by
  have KV := fun w => IsValidArmsC a w
  rw [ga] at KV
  have KV' := Lib.hid KV
  obtain ⟨T0, hT0⟩ : ∃ T0, T0 = (w.alloc (.cells (ac a).toArray 31)).alloc (.cells (ac zA).toArray 31) := ⟨_, rfl⟩
  have hsz : T0.heap.size = w.heap.size + 2 := by rw [hT0]; simp
  have HHa := Lib.hid (show ∀ w', Below T0.heap.size T0 w' → w'.heap[w.heap.size]? = some (.cells (ac a).toArray 31 (0, 0)) from fun w' hb => heap_keepB (heap_keepB (heap_hit _ _ _ rfl) (Below_al (Below.refl _ _) _)) (hT0 ▸ hb))
  have HHz := Lib.hid (show ∀ w', Below T0.heap.size T0 w' → w'.heap[w.heap.size + 1]? = some (.cells (ac zA).toArray 31 (0, 0)) from fun w' hb => heap_keepB (by rw [hT0]; exact heap_hit _ _ _ (by simp)) hb)
  have HB := Lib.hid (show ∀ w', Below T0.heap.size T0 w' → Box15 w' w.heap.size a from fun w' hb => box15 a w w' (Below_then (Below_al (Below.refl _ _) _) (hT0 ▸ hb)))
  have HTw := Lib.hid (show Below w.heap.size w T0 from by rw [hT0]; (repeat (first | exact Below.refl _ _ | assumption | refine Below_al ?_ _ | refine Below.drew ?_ | refine Below_then ?_ (by assumption) | refine Below.setCell ?_ (by first | omega | (simp; done) | (simp; omega)) _)))
  obtain ⟨xs, hxs⟩ : ∃ xs, xs = chL a.t := ⟨_, rfl⟩
  obtain ⟨ys, hys⟩ : ∃ ys, ys = chL a.t1 := ⟨_, rfl⟩
  obtain ⟨zs, hzs⟩ : ∃ zs, zs = chL a.t2 := ⟨_, rfl⟩
  have hl1 : xs.length ≤ 9 := hxs ▸ chL_len _
  have hl2 : ys.length ≤ 9 := hys ▸ chL_len _
  have hl3 : zs.length ≤ 9 := hzs ▸ chL_len _
  have hp1 : 0 < xs.length := hxs ▸ chL_pos _
  have hp2 : 0 < ys.length := hys ▸ chL_pos _
  have hp3 : 0 < zs.length := hzs ▸ chL_pos _
  have K1 := Lib.hid (fun w => hxs ▸ choices_any a.t w : ∀ w, Calls Try.prog 25 #[.int .i64 a.t] w (IntsIn w xs))
  have K2 := Lib.hid (fun w => hys ▸ choices_any a.t1 w : ∀ w, Calls Try.prog 25 #[.int .i64 a.t1] w (IntsIn w ys))
  have K3 := Lib.hid (fun w => hzs ▸ choices_any a.t2 w : ∀ w, Calls Try.prog 25 #[.int .i64 a.t2] w (IntsIn w zs))
  have HFin := Lib.hid (show finR a = rX a ys zs (4, zA) xs from by rw [hxs, hys, hzs]; rfl)
  clear KV hxs hys hzs
  go_enter Try.func7, Try.ntmps7
  go_wp2_with (first | (refine ldAw (by kernel_rfl) _ rfl w.heap.size _ rfl a (rangeAt_blk (heap_keepB (heap_hit _ _ _ rfl) (Below_al (Below.refl _ _) _))) ?_) | fail)
  refine (KV'.out _).mono ?_
  rintro e w1 ⟨rfl, hb1⟩
  have HL1 := Lib.hid (show Below T0.heap.size T0 w1 from by rw [hT0]; exact hb1)
  clear hb1
  go_wp2_with (first | (refine ldIw (by kernel_rfl) _ rfl w.heap.size 6 rfl _ ((HB.out _ (Below_then HL1.out (Below_al (Below.refl _ _) _))).cell 6 _ rfl) ?_) | fail)
  refine (K1.out _).mono ?_
  rintro e w2 ⟨v, rfl, hO, hb2⟩
  obtain ⟨g1, k1, rfl, hg1, hg1'⟩ := hO.pos hp1
  obtain ⟨A5, k5, e5, hr⟩ := hO.form
  injection e5 with e5 _ _
  subst e5
  rw [World.size_alloc] at hg1
  have HL2 := Lib.hid (Below_then HL1.out (Below_then (Below_al (Below.refl _ _) _) hb2))
  have HR1 := Lib.hid hr
  obtain ⟨D, hD⟩ : ∃ D, D = w1.heap.size := ⟨_, rfl⟩
  have hS1 := (RepSt.mk (by rw [hD]; exact heap_keepB (heap_hit _ _ _ rfl) hb2) (World.grownBy.refl _ _) : RepSt w2 D (4, zA) w2)
  have hDw : T0.heap.size ≤ D := by have := HL1.out.size; omega
  have hD2 : D < w2.heap.size := heap_lt hS1.best
  rw [← hD] at hg1 ⊢
  clear hO hr hb2 hD hT0
  go_wp2_with fail
  go_loopw [6, 24] (fun l i wr => ∃ (k : Nat) (S : RS), k ≤ xs.length ∧ i = .int .i64 k ∧ l = .int .i64 (S.1 : Nat) ∧ S.1 ≤ 4 ∧ S = rX a ys zs (4, zA) (xs.take k) ∧ RepSt w2 D S wr) (fun _ i _ => xs.length - (intOf i).toNat)
  case atStart => exact ⟨0, (4, zA), Nat.zero_le _, rfl, rfl, Nat.le_refl 4, rfl, hS1⟩
  case round =>
    obtain ⟨k, S, hk, rfl, rfl, hS4, hSe, hst⟩ := hrel
    have HSe := Lib.hid hSe
    clear hSe hS1
    by_cases hlt : k < xs.length
    · have i1 : (k : Int) < (xs.length : Int) := by omega
      have d1 : decide (k < xs.length) = true := by simpa using hlt
      obtain ⟨x, hxk⟩ : ∃ x, xs[k]? = some x := ⟨_, List.getElem?_eq_getElem hlt⟩
      obtain ⟨b, off, e, hc, -⟩ := (hst.rd HR1.out (by omega)).atv hxk
      injection e with e
      injection e with e1 e2 _
      subst e1 e2
      rw [Nat.zero_add] at hc
      have HX := Lib.hid hxk
      have hlow := hst.low HL2.out hDw (by omega)
      clear hxk
      go_wp2_with (first | (refine ldIw (by kernel_rfl) _ rfl w.heap.size 10 rfl _ ((HB.out _ hlow).cell 10 _ rfl) ?_) | fail)
      refine (K2.out _).mono ?_
      rintro e w3 ⟨v, rfl, hO, hb3⟩
      obtain ⟨g2, k2, rfl, hg2, hg2'⟩ := hO.pos hp2
      obtain ⟨A6, k6, e6, hr⟩ := hO.form
      injection e6 with e6 _ _
      subst e6
      have hz2 := hst.grown.size
      have hst1 := hst.below hb3
      have HR2 := Lib.hid hr
      have HL3 := Lib.hid (Below_then hlow hb3)
      have hDg2 : D < g2 := by omega
      have hD3 : D < w3.heap.size := by omega
      have hs2 := hst1.start
      clear hO hr hb3 hlow hc hst hz2
      go_wp2_with fail
      go_loopw [6, 33] (fun l i wr2 => ∃ (k2 : Nat) (S2 : RS), k2 ≤ ys.length ∧ i = .int .i64 k2 ∧ l = .int .i64 (S2.1 : Nat) ∧ S2.1 ≤ 4 ∧ S2 = rY a x zs S (ys.take k2) ∧ RepSt w3 D S2 wr2) (fun _ i _ => ys.length - (intOf i).toNat)
      case atStart => exact ⟨0, S, Nat.zero_le _, rfl, rfl, hS4, rfl, hs2⟩
      case round =>
        obtain ⟨m, S2, hm, rfl, rfl, hS24, hSe2, hst⟩ := hrel
        have HSe2 := Lib.hid hSe2
        clear hSe2 hs2
        by_cases hlt2 : m < ys.length
        · have i2 : (m : Int) < (ys.length : Int) := by omega
          have d2 : decide (m < ys.length) = true := by simpa using hlt2
          obtain ⟨y, hyk⟩ : ∃ y, ys[m]? = some y := ⟨_, List.getElem?_eq_getElem hlt2⟩
          obtain ⟨b, off, e, hc, -⟩ := (hst.rd HR2.out (by omega)).atv hyk
          injection e with e
          injection e with e1 e2 _
          subst e1 e2
          rw [Nat.zero_add] at hc
          have HY := Lib.hid hyk
          have hlow := hst.low HL3.out hDw (by omega)
          clear hyk
          go_wp2_with (first | (refine ldIw (by kernel_rfl) _ rfl w.heap.size 14 rfl _ ((HB.out _ hlow).cell 14 _ rfl) ?_) | fail)
          refine (K3.out _).mono ?_
          rintro e w4 ⟨v, rfl, hO, hb4⟩
          obtain ⟨g3, k3, rfl, hg3, hg3'⟩ := hO.pos hp3
          obtain ⟨A7, k7, e7, hr⟩ := hO.form
          injection e7 with e7 _ _
          subst e7
          have hz3 := hst.grown.size
          have hst2 := hst.below hb4
          have HR3 := Lib.hid hr
          have HL4 := Lib.hid (Below_then hlow hb4)
          have hDg3 : D < g3 := by omega
          have hD4 : D < w4.heap.size := by omega
          have hs3 := hst2.start
          clear hO hr hb4 hlow hc hst hz3
          go_wp2_with fail
          go_loopw [6, 42] (fun l i wr3 => ∃ (k3 : Nat) (S3 : RS), k3 ≤ zs.length ∧ i = .int .i64 k3 ∧ l = .int .i64 (S3.1 : Nat) ∧ S3.1 ≤ 4 ∧ S3 = rZ a x y S2 (zs.take k3) ∧ RepSt w4 D S3 wr3) (fun _ i _ => zs.length - (intOf i).toNat)
          case atStart => exact ⟨0, S2, Nat.zero_le _, rfl, rfl, hS24, rfl, hs3⟩
          case round =>
            obtain ⟨n, S3, hn, rfl, rfl, hS34, hSe3, hst⟩ := hrel
            have HSe3 := Lib.hid hSe3
            clear hSe3 hs3
            by_cases hlt3 : n < zs.length
            · have i3 : (n : Int) < (zs.length : Int) := by omega
              have d3 : decide (n < zs.length) = true := by simpa using hlt3
              obtain ⟨z, hzk⟩ : ∃ z, zs[n]? = some z := ⟨_, List.getElem?_eq_getElem hlt3⟩
              obtain ⟨b, off, e, hc, -⟩ := (hst.rd HR3.out (by omega)).atv hzk
              injection e with e
              injection e with e1 e2 _
              subst e1 e2
              rw [Nat.zero_add] at hc
              have HZ := Lib.hid hzk
              have hlow := hst.low HL4.out hDw (by omega)
              have hfar := hst.grown.size
              have hne : D ≠ wr.heap.size := by omega
              clear hzk
              go_upto_region 15 with (first | (refine ldAw (by kernel_rfl) _ rfl w.heap.size _ rfl a (rangeAt_blk (HHa.out _ hlow)) ?_) | (refine stAw rfl _ _ rfl wr.heap.size rfl a rfl _ (heap_hit _ _ _ rfl) rfl ?_; intro w9 hg9 hw9; have hI : InSt w4 D S3 wr.heap.size a w9 := ⟨(hst.below (Below_al (Below.refl _ _) _)).fresh hw9 hfar hne, hg9, hfar, hne⟩; clear hg9 hw9) | (refine stI1 rfl _ _ rfl wr.heap.size 6 rfl x rfl a { a with t := x } hI.blk ((ac a).take 6) ((ac a).drop 7) (.int .i64 a.t) rfl rfl rfl ?_; intro w9 hg9 hw9; replace hI := hI.store hg9 hw9; clear hg9 hw9) | (refine stI1 rfl _ _ rfl wr.heap.size 10 rfl y rfl { a with t := x } { a with t := x, t1 := y } hI.blk ((ac { a with t := x }).take 10) ((ac a).drop 11) (.int .i64 a.t1) rfl rfl rfl ?_; intro w9 hg9 hw9; replace hI := hI.store hg9 hw9; clear hg9 hw9) | (refine stI1 rfl _ _ rfl wr.heap.size 14 rfl z rfl { a with t := x, t1 := y } (tri a x y z) hI.blk ((ac { a with t := x, t1 := y }).take 14) [] (.int .i64 a.t2) rfl rfl rfl ?_; intro w9 hg9 hw9; replace hI := hI.store hg9 hw9; clear hg9 hw9) | fail)
              have hlow9 := hI.st.low HL4.out hDw (by omega)
              have hc6 := (HB.out _ hlow9).cell 6 _ rfl
              have hc10 := (HB.out _ hlow9).cell 10 _ rfl
              have hc14 := (HB.out _ hlow9).cell 14 _ rfl
              have n1 := numI_bd (x != a.t)
              have n2 := numI_bd (y != a.t1)
              have n3 := numI_bd (z != a.t2)
              go_quiet ((go_at_call 26; exact Calls.quiet_of_same (number_any' _ _)))
              have e9 : IntKind.i64.wrap (IntKind.i64.wrap (numI (x != a.t) + numI (y != a.t1)) + numI (z != a.t2)) = (chN a x y z : Int) := by
                rw [IntWalk.i64_in (numI (x != a.t) + numI (y != a.t1)) ⟨by omega, by omega⟩, IntWalk.i64_in _ ⟨by omega, by omega⟩, chN_num]
              rw [e9]
              obtain ⟨w10, hw10⟩ : ∃ w10, w10 = w9.drewN nq := ⟨_, rfl⟩
              have hI := hI.below (Below_drewD (Below.refl _ _) nq)
              rw [← hw10] at hI ⊢
              obtain ⟨c, hcN⟩ : ∃ c, c = chN a x y z := ⟨_, rfl⟩
              have hc3 : c ≤ 3 := hcN ▸ chN_le a x y z
              rw [← hcN]
              have HN := Lib.hid hcN
              clear hw10 hcN e9 n1 n2 n3 hc6 hc10 hc14 hlow9 hc hst
              have hlow := hI.st.low HL4.out hDw (by omega)
              have HStep := Lib.hid (show rZ a x y S2 (zs.take (n + 1)) = stR a x y S3 z from by rw [HSe3.out]; exact foldl_take _ _ _ HZ.out)
              by_cases h4 : c < S3.1
              · have i4 : (c : Int) < (S3.1 : Int) := by omega
                have d4 : decide ((c : Int) < (S3.1 : Int)) = true := by simpa using h4
                have K5 := Lib.hid (fun w => findings_any (tri a x y z) w)
                go_wp2_with (first | (refine ldAw (by kernel_rfl) _ rfl wr.heap.size _ rfl (tri a x y z) (rangeAt_blk hI.blk) ?_) | fail)
                refine (K5.out _).mono ?_
                rintro e w11 ⟨A, q, c9, rfl, hq, hb11⟩
                have hI := hI.below hb11
                clear hlow hb11
                cases hok : okR (tri a x y z)
                · rw [hok] at hq
                  have d5 : ((q : Int) == 0) = false := by
                    have : q ≠ 0 := by simpa using hq
                    simpa using this
                  have HQ := Lib.hid (show S3 = rZ a x y S2 (zs.take (n + 1)) from by rw [HStep.out, stR, if_neg (by rw [hok]; simp)])
                  clear hq hok
                  go_wp2_with fail
                  go_roundw
                  case rel => exact ⟨n + 1, S3, by omega, by go_num, rfl, hS34, HQ.out, hI.st⟩
                  case measure => simp [intOf]; omega
                · rw [hok] at hq
                  obtain rfl : q = 0 := by simpa using hq
                  have HQ := Lib.hid (show ((c, tri a x y z) : RS) = rZ a x y S2 (zs.take (n + 1)) from by rw [HStep.out, stR, if_pos ⟨by rw [← HN.out]; exact h4, hok⟩, ← HN.out])
                  clear hq hok
                  go_wp2_with (first | (refine ldAw (by kernel_rfl) _ rfl wr.heap.size _ rfl (tri a x y z) (rangeAt_blk hI.blk) ?_) | (refine stAw rfl _ _ rfl D rfl (tri a x y z) rfl _ hI.st.best (by simp [ac_len]) ?_; intro w12 hbest hgr12; have hst4 : RepSt w4 D (c, tri a x y z) w12 := ⟨hbest, grownBy_trans hI.st.grown hgr12⟩; clear hbest hgr12) | fail)
                  go_roundw
                  case rel => exact ⟨n + 1, (c, tri a x y z), by omega, by go_num, rfl, (by show c ≤ 4; omega), HQ.out, hst4⟩
                  case measure => simp [intOf]; omega
              · have d4 : decide ((c : Int) < (S3.1 : Int)) = false := by simp; omega
                have HQ := Lib.hid (show S3 = rZ a x y S2 (zs.take (n + 1)) from by rw [HStep.out, stR, if_neg (by rw [← HN.out]; exact fun h => h4 h.1)])
                go_wp2_with fail
                go_roundw
                case rel => exact ⟨n + 1, S3, by omega, by go_num, rfl, hS34, HQ.out, hI.st⟩
                case measure => simp [intOf]; omega
            · obtain rfl : n = zs.length := by omega
              have d3 : decide (zs.length < zs.length) = false := by simp
              have HQ := Lib.hid (show S3 = rY a x zs S (ys.take (m + 1)) from by
                rw [HSe3.out, List.take_length, HSe2.out]
                exact (show rY a x zs S (ys.take (m + 1)) = rZ a x y (rY a x zs S (ys.take m)) zs from foldl_take _ _ _ HY.out).symm)
              go_wp2_with fail
              go_roundw
              case rel => exact ⟨m + 1, S3, by omega, by go_num, rfl, hS34, HQ.out, hst2.up hst⟩
              case measure => simp [intOf]; omega
        · obtain rfl : m = ys.length := by omega
          have d2 : decide (ys.length < ys.length) = false := by simp
          have HQ := Lib.hid (show S2 = rX a ys zs (4, zA) (xs.take (k + 1)) from by
            rw [HSe2.out, List.take_length, HSe.out]
            exact (show rX a ys zs (4, zA) (xs.take (k + 1)) = rY a x zs (rX a ys zs (4, zA) (xs.take k)) ys from foldl_take _ _ _ HX.out).symm)
          go_wp2_with fail
          go_roundw
          case rel => exact ⟨k + 1, S2, by omega, by go_num, rfl, hS24, HQ.out, hst1.up hst⟩
          case measure => simp [intOf]; omega
    · obtain rfl : k = xs.length := by omega
      have d1 : decide (xs.length < xs.length) = false := by simp
      have HS := Lib.hid (show finR a = S from by rw [HFin.out, HSe.out, List.take_length])
      have hlow := hst.low HL2.out hDw (by omega)
      have hz := HHz.out _ hlow
      have hTw := Below_then HTw.out hlow
      by_cases h4 : S.1 = 4
      · have d4 : ((S.1 : Int) == 4) = true := by simp; omega
        have HO := Lib.hid (show repOk a = false from by unfold repOk; rw [HS.out, h4]; simp)
        clear h4
        go_wp2_with (first | (refine stAw rfl _ _ rfl (w.heap.size + 1) rfl zA rfl _ hz (by simp [ac_len]) ?_; intro w12 hres hgr12) | fail)
        have hld := run_loadVar_mid (P := Try.prog) w12 (w.heap.size + 1) 0 31 (ac zA) _ (rangeAt_blk hres) Try.underlying31 rfl (info_ac zA)
        exact bodyPost_ret (v := .tuple #[.agg (ac zA).toArray, .int .i64 0, .bool false]) (by simp [results, Try.results7, go_sem, World.cell?, hres, ac, zA]) rfl ⟨by unfold repA repN; rw [HO.out]; rfl, hTw.grown hgr12 hTw.size (by intro k e; injection e with e; omega)⟩
      · have d4 : ((S.1 : Int) == 4) = false := by simp; omega
        have HO := Lib.hid (show repOk a = true from by unfold repOk; rw [HS.out, ga]; simp; omega)
        clear h4
        go_wp2_with (first | (refine ldAw (by kernel_rfl) _ rfl D _ rfl S.2 (rangeAt_blk hst.best) ?_) | (refine stAw rfl _ _ rfl (w.heap.size + 1) rfl S.2 rfl _ hz (by simp [ac_len]) ?_; intro w12 hres hgr12) | fail)
        have hld := run_loadVar_mid (P := Try.prog) w12 (w.heap.size + 1) 0 31 (ac S.2) _ (rangeAt_blk hres) Try.underlying31 rfl (info_ac S.2)
        exact bodyPost_ret (v := .tuple #[.agg (ac S.2).toArray, .int .i64 (S.1 : Nat), .bool true]) (by simp [results, Try.results7, go_sem, World.cell?, hres, ac, zA]) rfl ⟨by unfold repA repN; rw [HO.out, HS.out]; rfl, hTw.grown hgr12 hTw.size (by intro k e; injection e with e; omega)⟩
set_option maxHeartbeats 4000000 in
set_option maxRecDepth 20000 in
theorem implRepair_no (a : ArmsD) (ga : armsOk a = false) (w : World) : Calls Try.prog 7 #[.agg (ac a).toArray] w (RepIs w a) := by
  have KV := fun w => IsValidArmsC a w
  rw [ga] at KV
  have KV' := Lib.hid KV
  obtain ⟨T0, hT0⟩ : ∃ T0, T0 = (w.alloc (.cells (ac a).toArray 31)).alloc (.cells (ac zA).toArray 31) := ⟨_, rfl⟩
  have hsz : T0.heap.size = w.heap.size + 2 := by rw [hT0]; simp
  have HHz := Lib.hid (show ∀ w', Below T0.heap.size T0 w' → w'.heap[w.heap.size + 1]? = some (.cells (ac zA).toArray 31 (0, 0)) from fun w' hb => heap_keepB (by rw [hT0]; exact heap_hit _ _ _ (by simp)) hb)
  have HTw := Lib.hid (show Below w.heap.size w T0 from by rw [hT0]; (repeat (first | exact Below.refl _ _ | assumption | refine Below_al ?_ _ | refine Below.drew ?_ | refine Below_then ?_ (by assumption) | refine Below.setCell ?_ (by first | omega | (simp; done) | (simp; omega)) _)))
  have HO := Lib.hid (show repOk a = false from by unfold repOk; rw [ga]; rfl)
  clear KV
  go_enter Try.func7, Try.ntmps7
  go_wp2_with (first | (refine ldAw (by kernel_rfl) _ rfl w.heap.size _ rfl a (rangeAt_blk (heap_keepB (heap_hit _ _ _ rfl) (Below_al (Below.refl _ _) _))) ?_) | fail)
  refine (KV'.out _).mono ?_
  rintro e w1 ⟨rfl, hb1⟩
  have hlow : Below T0.heap.size T0 w1 := by rw [hT0]; exact hb1
  have hz := HHz.out _ hlow
  have hTw := Below_then HTw.out hlow
  clear hb1 hT0
  go_wp2_with (first | (refine stAw rfl _ _ rfl (w.heap.size + 1) rfl zA rfl _ hz (by simp [ac_len]) ?_; intro w12 hres hgr12) | fail)
  exact bodyPost_ret (v := .tuple #[.agg (ac zA).toArray, .int .i64 0, .bool false]) (by simp [results, Try.results7, go_sem, World.cell?, hres, ac, zA]) rfl ⟨by unfold repA repN; rw [HO.out]; rfl, hTw.grown hgr12 hTw.size (by intro k e; injection e with e; omega)⟩
theorem implRepair_any (a : ArmsD) (w : World) : Calls Try.prog 7 #[.agg (ac a).toArray] w (RepIs w a) := by
  cases ga : armsOk a
  · exact implRepair_no a ga w
  · exact implRepair_yes a ga w
end Go.Proofs.Ytjodoljgpdbimaa
