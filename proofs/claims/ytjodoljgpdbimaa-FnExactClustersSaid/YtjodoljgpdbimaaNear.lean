/- Contracts: NearestArms, both sides. -/
import Derived.Test.YtjodoljgpdbimaaIdx
import Derived.Test.YtjodoljgpdbimaaRArms2
namespace Go.Proofs.Ytjodoljgpdbimaa
open Go.ChangeShapes Go.WideShapes Go.ChangeAt Go.RowKit
set_option linter.unusedVariables false
set_option linter.unusedSimpArgs false

theorem rangeAt_blk {w : World} {g : Nat} {cs : List Value} {T : TypeId} (h : w.heap[g]? = some (.cells cs.toArray T (0, 0))) : w.rangeAt g 0 cs := fun j v hv => by
  rw [Nat.zero_add, cell_of h]
  simpa using hv
theorem OwnR.fresh {K : Nat} {w : World} {B g : Nat} {T : TypeId} {cs : Array Value} (h : w.heap[g]? = some (.cells cs T (0, 0))) (hB : B ≤ g) : OwnR K w B g T [] cs.toList := ⟨by simpa using h, hB, fun row h => by cases h⟩
theorem OwnR.one {K : Nat} {w : World} {B g : Nat} {T : TypeId} {row left : List Value} (h : OwnR K w B g T ([] ++ [row]) left) : w.rangeAt g 0 row := by
  have := h.range (k := 0) (row := row) rfl
  rwa [Nat.zero_mul] at this
theorem blk_cells {w : World} {a : ArmsD} {g : Nat} {T : TypeId} (h : w.heap[g]? = some (.cells (ac a).toArray T (0, 0))) : w.cell? ⟨g, 0, none⟩ = some (.int .i64 a.d) ∧ w.cell? ⟨g, 1, none⟩ = some (.int .i64 a.l) ∧ w.cell? ⟨g, 2, none⟩ = some (.int .i64 a.p) ∧ w.cell? ⟨g, 3, none⟩ = some (.int .i64 a.q) ∧ w.cell? ⟨g, 4, none⟩ = some (.int .i64 a.o) ∧ w.cell? ⟨g, 5, none⟩ = some (.int .i64 a.li) ∧ w.cell? ⟨g, 6, none⟩ = some (.int .i64 a.t) ∧ w.cell? ⟨g, 7, none⟩ = some (.int .i64 a.c1) ∧ w.cell? ⟨g, 8, none⟩ = some (.int .i64 a.k1) ∧ w.cell? ⟨g, 9, none⟩ = some (.int .i64 a.a1) ∧ w.cell? ⟨g, 10, none⟩ = some (.int .i64 a.t1) ∧ w.cell? ⟨g, 11, none⟩ = some (.int .i64 a.c2) ∧ w.cell? ⟨g, 12, none⟩ = some (.int .i64 a.k2) ∧ w.cell? ⟨g, 13, none⟩ = some (.int .i64 a.a2) ∧ w.cell? ⟨g, 14, none⟩ = some (.int .i64 a.t2) :=
  ⟨cell_of h 0, cell_of h 1, cell_of h 2, cell_of h 3, cell_of h 4, cell_of h 5, cell_of h 6, cell_of h 7, cell_of h 8, cell_of h 9, cell_of h 10, cell_of h 11, cell_of h 12, cell_of h 13, cell_of h 14⟩
section
variable {ops : Array Oper} {rest : List Oper} {op : Oper} {a : Act} {w : World} {Q : Exit → Act → World → Prop}
theorem ldA (hgd : op.guard = none) (x : Operand) (ho : op.op = .load 31 x) (b o : Nat) (hx : a.eval x = .pointer (some ⟨b, o, none⟩)) (ad : ArmsD) (hc : w.rangeAt b o (ac ad))
    (h : wpList Try.prog ops Q rest (a.put op.dst (.agg (ac ad).toArray)) w) : wpList Try.prog ops Q (op :: rest) a w :=
  wpList_load_mid hgd _ x ho b o hx (ac ad) _ hc Try.underlying31 rfl (info_ac ad) h
/-- Arms stored into a variable of the call's own. -/
theorem stA (hgd : op.guard = none) (x y : Operand) (ho : op.op = .store 31 x y) (g : Nat) (hx : a.eval x = .pointer (some ⟨g, 0, none⟩)) (ad : ArmsD) (hy : a.eval y = .agg (ac ad).toArray) (cs : Array Value) (hg : w.heap[g]? = some (.cells cs 31 (0, 0))) (hs : 15 ≤ cs.size)
    (h : ∀ w', w'.rangeAt g 0 (ac ad) → w'.heap.size = w.heap.size → (∀ B W, B ≤ g → Below B W w → Below B W w') → wpList Try.prog ops Q rest (a.put op.dst undef) w') : wpList Try.prog ops Q (op :: rest) a w := by
  have hs' : OwnR 15 w g g 31 [] cs.toList := OwnR.fresh hg (Nat.le_refl _)
  have hsp : OwnR 15 w g g 31 [] (cs.toList.take 15 ++ cs.toList.drop 15) := by rw [List.take_append_drop]; exact hs'
  have hk : (cs.toList.take 15).length = 15 := by rw [List.length_take, Array.length_toList]; omega
  refine wpList_store_mid hgd _ x y ho g 0 (ac ad).toArray hx hy ?_ (by simpa using info_ac ad) (all_oneCell_toArray (ac_one ad)) (h _ ?_ ?_ ?_)
  · have := hsp.there hk
    rw [List.length_nil, Nat.zero_mul] at this
    simpa [ac_len] using this
  · have := (hsp.snoc (ac ad) (ac_len ad) hk).one
    rw [List.length_nil, Nat.zero_mul] at this
    simpa using this
  · rw [List.toList_toArray, size_setCells]
  · intro B W hB hW
    exact Below.setCells hB _ _ hW
end
theorem l15CountC (a b : ArmsD) (w : World) (ga : armsOk a = true) (gb : armsOk b = true) : Calls Try.prog 33 #[.agg (ac a).toArray, .agg (ac b).toArray] w fun e w' => e = .returned (.int .i64 (df a b)) ∧ Below w.heap.size w w' := l15Count_any a b w ga gb
theorem differencesC (a b : ArmsD) (w : World) (ga : armsOk a = true) (gb : armsOk b = true) : Calls Try.prog 37 #[.agg (ac a).toArray, .agg (ac b).toArray] w fun e w' => e = .returned (.int .i64 (df a b)) ∧ Below w.heap.size w w' := differences_any a b w ga gb
theorem df_comm (a b : ArmsD) : df a b = df b a := by
  have e1 : ∀ x y : Int, numI (x != y) = numI (y != x) := fun x y => by
    by_cases h : x = y
    · subst h; rfl
    · rw [numI_no h, numI_no (fun e => h e.symm)]
  have e2 : ∀ xs ys : List Int, decide (xs = ys) = decide (ys = xs) := fun xs ys => by
    by_cases h : xs = ys
    · subst h; rfl
    · rw [decide_eq_false h, decide_eq_false (fun e => h e.symm)]
  have e3 : ∀ c k a t c2 k2 a2 t2, gd c k a t c2 k2 a2 t2 = gd c2 k2 a2 t2 c k a t := fun c k a t c2 k2 a2 t2 => by
    by_cases h1 : c = 0 ∧ k = 0 ∧ a = 0 ∧ t = 0
    · by_cases h2 : c2 = 0 ∧ k2 = 0 ∧ a2 = 0 ∧ t2 = 0
      · obtain ⟨rfl, rfl, rfl, rfl⟩ := h1
        obtain ⟨rfl, rfl, rfl, rfl⟩ := h2
        rfl
      · obtain ⟨rfl, rfl, rfl, rfl⟩ := h1
        rw [gd_n1 _ _ _ _ h2, gd_n2 _ _ _ _ h2]
    · by_cases h2 : c2 = 0 ∧ k2 = 0 ∧ a2 = 0 ∧ t2 = 0
      · obtain ⟨rfl, rfl, rfl, rfl⟩ := h2
        rw [gd_n1 _ _ _ _ h1, gd_n2 _ _ _ _ h1]
      · rw [gd_not h1 h2, gd_not h2 h1, e1 c c2, e1 a a2, e1 t t2]
        by_cases hk : k = k2
        · subst hk; rfl
        · rw [if_neg hk, if_neg (fun e => hk e.symm)]
  unfold df fdA gdOn gdAr fd
  rw [e1 a.d b.d, e1 a.l b.l, e2 (tinL a.d a.p a.q), e3 a.c1, e3 a.c2, e1 a.li b.li, e1 a.t b.t]
  by_cases ho : a.o = b.o
  · rw [if_pos ho, if_pos ho.symm]
  · rw [if_neg ho, if_neg (fun e => ho e.symm)]
/-- How far the arms number i of a list differ from arms. -/
def dist (rows : List ArmsD) (a : ArmsD) (i : Nat) : Int := match rows[i]? with | some b => df b a | none => 0
theorem dist_at {rows : List ArmsD} {a b : ArmsD} {i : Nat} (h : rows[i]? = some b) : dist rows a i = df b a := by simp [dist, h]
/-- The first of the nearest among the first k. -/
def bestTo (f : Nat → Int) : Nat → Nat
  | 0 => 0
  | k + 1 => if f k < f (bestTo f k) then k else bestTo f k
theorem bestTo_lt (f : Nat → Int) (n : Nat) (hn : 0 < n) : ∀ k, k ≤ n → bestTo f k < n
  | 0, _ => hn
  | k + 1, h => by
    rw [bestTo]
    split
    · omega
    · exact bestTo_lt f n hn k (by omega)
theorem bestTo_one (f : Nat → Int) : bestTo f 1 = 0 := by simp [bestTo]
theorem bestTo_yes {f : Nat → Int} {k : Nat} (h : f k < f (bestTo f k)) : bestTo f (k + 1) = k := by rw [bestTo, if_pos h]
theorem bestTo_no {f : Nat → Int} {k : Nat} (h : ¬ f k < f (bestTo f k)) : bestTo f (k + 1) = bestTo f k := by rw [bestTo, if_neg h]
def nearOk (rows : List ArmsD) (a : ArmsD) : Bool := listOk 16 rows && armsOk a && decide (0 < rows.length)
def nearI (rows : List ArmsD) (a : ArmsD) : Int := bif nearOk rows a then (bestTo (dist rows a) rows.length : Nat) else 0
def nearD (rows : List ArmsD) (a : ArmsD) : Int := bif nearOk rows a then dist rows a (bestTo (dist rows a) rows.length) else 0
theorem heldR3 {a w w' : World} {b o b' o' b2 o2 : Nat} {u u' u2 : List Value} (h : w.rangeAt b o u ∧ w.rangeAt b' o' u' ∧ w.rangeAt b2 o2 u2 ∧ Below a.heap.size a w) (hb : Below w.heap.size w w') : w'.rangeAt b o u ∧ w'.rangeAt b' o' u' ∧ w'.rangeAt b2 o2 u2 ∧ Below a.heap.size a w' :=
  ⟨rangeAt_below h.1 hb, rangeAt_below h.2.1 hb, rangeAt_below h.2.2.1 hb, Below_then h.2.2.2 hb⟩


end Go.Proofs.Ytjodoljgpdbimaa
