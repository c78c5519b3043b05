/- The cursor's fields. -/
import Derived.Test.YtenaadmifppphaaGreatDoorCur
import Derived.Test.YtenaadmifppphaaGreatDoorRow
import Derived.Test.YtenaadmifppphaaGreatDoorBits
namespace Go.Proofs.YtenaadmifppphaaGreatDoor
open Go.ChangeShapes Go.WideShapes Go.ChangeAt Go.RowKit
set_option linter.unusedVariables false
set_option linter.unusedSimpArgs false
theorem grownBy_new {w w1 : World} {row : Option Nat} (h : w.grownBy w1 row) (g i : Nat) (v : Value) (hg : w.heap.size ≤ g) : w.grownBy (w1.setCell ⟨g, i, none⟩ v) row :=
  ⟨h.os, h.tape, h.output, by simpa [World.setCell] using h.size, fun k hk hne => by rw [heap_far _ _ _ _ (by dsimp only; omega)]; exact h.block k hk hne⟩
theorem grownBy_undrew {w w' : World} {row : Option Nat} (h : w.drew.grownBy w' row) : w.grownBy w' row := ⟨h.os, h.tape, h.output, h.size, h.block⟩
theorem grownBy_drew {w w' : World} {row : Option Nat} (h : w.grownBy w' row) : w.grownBy w'.drew row := ⟨h.os, h.tape, h.output, h.size, h.block⟩
theorem fieldOk_one {p : Int} (h0 : 1 ≤ p) (h1 : p ≤ 9) : fieldOk 0 0 p 0 = true := by
  unfold fieldOk
  rw [decide_eq_true_iff]
  omega
theorem fieldOk_two {d l p s : Int} (hd0 : 0 ≤ d) (hd1 : d < 7) (hl : 0 ≤ l ∧ l ≤ 4) (h0 : 1 ≤ p) (h1 : p ≤ 9) (hs0 : 0 ≤ s) (hs1 : s < 8) : fieldOk (1 + d) l p (IntKind.i64.wrap (1 + (IntKind.i64.wrap (p + s)).tmod 9)) = true := by
  have e1 : IntKind.i64.wrap (p + s) = p + s := wraps_i64 _ (by omega) (by omega)
  rw [e1, Int.tmod_eq_emod_of_nonneg (by omega), show IntKind.i64.wrap (1 + (p + s) % 9) = 1 + (p + s) % 9 from wraps_i64 _ (by omega) (by omega)]
  unfold fieldOk
  rw [decide_eq_true_iff]
  omega
theorem info_fd : (Tryz.prog.info? 59).map (·.size) = some 4 := by kernel_rfl
theorem grownBy_fresh {w w1 w2 : World} {row : Option Nat} {g : Nat} (h : w.grownBy w1 row) (h2 : w1.grownBy w2 (some g)) (hg : w.heap.size ≤ g) : w.grownBy w2 row :=
  ⟨h2.os.trans h.os, h2.tape.trans h.tape, h2.output.trans h.output, Nat.le_trans h.size h2.size, fun k hk hne => (h2.block k (by have := h.size; omega) (fun e => by injection e with e; omega)).trans (h.block k hk hne)⟩
theorem setCells_grown (g : Nat) : ∀ (vs : List Value) (o : Nat) (w : World), w.grownBy (w.setCells g o vs) (some g) := fun vs o w => grownBy_setCells vs o (World.grownBy.refl _ _)
section
variable {P : Program} {ops : Array Oper} {rest : List Oper} {op : Oper} {a : Act} {w : World} {Q : Exit → Act → World → Prop}
/-- A struct stored into a block of which all is known. -/
theorem wpList_store_whole (hgd : op.guard = none) (ty : TypeId) (x y : Operand) (ho : op.op = .store ty x y) (g : Nat) (hx : a.eval x = .pointer (some ⟨g, 0, none⟩)) (T : TypeId) (old new : Array Value) (hg : w.heap[g]? = some (.cells old T (0, 0))) (hl : new.size = old.size)
    (hy : a.eval y = .agg new) (hi : (P.info? ty).map (·.size) = some new.size) (h1 : ∀ v ∈ new.toList, v.oneCell' = true)
    (hK : ∀ w', w'.heap[g]? = some (.cells new T (0, 0)) → w.grownBy w' (some g) → wpList P ops Q rest (a.put op.dst undef) w') : wpList P ops Q (op :: rest) a w := by
  have hs := heap_setCells (g := g) (T := T) new.toList w [] old.toList [] (by simpa using hl) (by simpa using hg)
  refine wpList_store_mid hgd ty x y ho g 0 new hx hy ?_ hi ?_ (hK _ ?_ (setCells_grown g _ _ _))
  · exact block_there hg (by omega)
  · have := all_oneCell_toArray h1
    simpa using this
  · simpa using hs
end
section
variable {ops : Array Oper} {rest : List Oper} {op : Oper} {a : Act} {w : World} {Q : Exit → Act → World → Prop}
theorem stF (hgd : op.guard = none) (x y : Operand) (ho : op.op = .store 59 x y) (g : Nat) (hx : a.eval x = .pointer (some ⟨g, 0, none⟩)) (d l p q : Int) (old : Array Value) (hg : w.heap[g]? = some (.cells old 59 (0, 0))) (hl : old.size = 4)
    (hy : a.eval y = .agg #[.int .i64 d, .int .i64 l, .int .i64 p, .int .i64 q])
    (hK : ∀ w', w'.heap[g]? = some (.cells #[.int .i64 d, .int .i64 l, .int .i64 p, .int .i64 q] 59 (0, 0)) → w.grownBy w' (some g) → wpList Tryz.prog ops Q rest (a.put op.dst undef) w') : wpList Tryz.prog ops Q (op :: rest) a w :=
  wpList_store_whole hgd _ x y ho g hx _ old _ hg (by simp [hl]) hy info_fd (by simp [Value.oneCell']) hK
theorem ldF (hgd : op.guard = none) (x : Operand) (ho : op.op = .load 59 x) (g : Nat) (hx : a.eval x = .pointer (some ⟨g, 0, none⟩)) (d l p q : Int) (hg : w.heap[g]? = some (.cells #[.int .i64 d, .int .i64 l, .int .i64 p, .int .i64 q] 59 (0, 0)))
    (h : wpList Tryz.prog ops Q rest (a.put op.dst (.agg #[.int .i64 d, .int .i64 l, .int .i64 p, .int .i64 q])) w) : wpList Tryz.prog ops Q (op :: rest) a w :=
  wpList_load_mid hgd _ x ho g 0 hx [.int .i64 d, .int .i64 l, .int .i64 p, .int .i64 q] _ (fun j v hv => by rw [Nat.zero_add, cell_of hg]; simpa using hv) Tryz.underlying59 rfl info_fd h
end
/-- A field is drawn. -/
def FieldDrawn (w : World) (b k : Nat) (ok : Prop) (e : Ending) (w' : World) : Prop := ∃ d l p q : Int, e = .returned (.agg #[.int .i64 d, .int .i64 l, .int .i64 p, .int .i64 q]) ∧ (ok → fieldOk d l p q = true) ∧ Cur w' b k ∧ w.grownBy w' (some b)

set_option maxHeartbeats 4000000 in
theorem field_any (b k : Nat) (w : World) (h : Cur w b k) (hk : k ≤ 900000) : Calls Tryz.prog 47 #[.pointer (some ⟨b, 0, none⟩)] w (FieldDrawn w b (k + 5) True) := by
  have hc := h
  have hG := World.grownBy.refl w (some b)
  have hlb := h.lt
  go_enter Tryz.func47, Tryz.ntmps47
  replace hc := hc.alloc (.cells #[.int .i64 0, .int .i64 0, .int .i64 0, .int .i64 0] 59)
  replace hG := grownBy_below hG (Below_al (Below.refl _ _) (.cells #[.int .i64 0, .int .i64 0, .int .i64 0, .int .i64 0] 59))
  have hR : (w.alloc (.cells #[.int .i64 0, .int .i64 0, .int .i64 0, .int .i64 0] 59)).heap[w.heap.size]? = some (.cells #[.int .i64 0, .int .i64 0, .int .i64 0, .int .i64 0] 59 (0, 0)) := heap_hit _ _ _ rfl
  have cR0 := cell_of hR 0
  have cR1 := cell_of hR 1
  have cR2 := cell_of hR 2
  have cR3 := cell_of hR 3
  have zR := frozen_of hR
  go_wp2_with fail
  clear cR0 cR1 cR2 cR3 zR
  refine (tincture_any b k _ hc (by omega)).mono ?_
  rintro e v1 ⟨p, rfl, ⟨hp0, hp1⟩, hc2, hg⟩
  have hlt := hc.lt
  try simp only [World.size_alloc, World.size_setCell, World.size_drew] at hlt
  have hsv1 := hg.size
  try simp only [World.size_alloc, World.size_setCell, World.size_drew] at hsv1
  replace hR := heap_keepG hR hg (fun e => by injection e with e; omega)
  replace hG := grownBy_trans hG hg
  replace hc := hc2
  clear hg hc2 hlt
  replace hR := heap_keepA hR (.cells #[.int .i64 0, .int .i64 0, .int .i64 p, .int .i64 0] 59)
  replace hc := hc.alloc (.cells #[.int .i64 0, .int .i64 0, .int .i64 p, .int .i64 0] 59)
  replace hG := grownBy_below hG (Below_al (Below.refl _ _) (.cells #[.int .i64 0, .int .i64 0, .int .i64 p, .int .i64 0] 59))
  have hF : (v1.alloc (.cells #[.int .i64 0, .int .i64 0, .int .i64 p, .int .i64 0] 59)).heap[v1.heap.size]? = some (.cells #[.int .i64 0, .int .i64 0, .int .i64 p, .int .i64 0] 59 (0, 0)) := heap_hit _ _ _ rfl
  have cR0 := cell_of hR 0
  have cR1 := cell_of hR 1
  have cR2 := cell_of hR 2
  have cR3 := cell_of hR 3
  have zR := frozen_of hR
  have cF0 := cell_of hF 0
  have cF1 := cell_of hF 1
  have cF2 := cell_of hF 2
  have cF3 := cell_of hF 3
  have zF := frozen_of hF
  go_wp2_with fail
  clear cR0 cR1 cR2 cR3 zR cF0 cF1 cF2 cF3 zF
  refine (one_any b (k + 1) 2 _ hc (by omega) (by omega) (by omega)).mono ?_
  rintro e v2 ⟨x, rfl, hc2, hg⟩
  have hlt := hc.lt
  try simp only [World.size_alloc, World.size_setCell, World.size_drew] at hlt
  have hsv2 := hg.size
  try simp only [World.size_alloc, World.size_setCell, World.size_drew] at hsv2
  replace hR := heap_keepG hR hg (fun e => by injection e with e; omega)
  replace hF := heap_keepG hF hg (fun e => by injection e with e; omega)
  replace hG := grownBy_trans hG hg
  replace hc := hc2
  clear hg hc2 hlt
  cases x
  · skip
    have cR0 := cell_of hR 0
    have cR1 := cell_of hR 1
    have cR2 := cell_of hR 2
    have cR3 := cell_of hR 3
    have zR := frozen_of hR
    have cF0 := cell_of hF 0
    have cF1 := cell_of hF 1
    have cF2 := cell_of hF 2
    have cF3 := cell_of hF 3
    have zF := frozen_of hF
    go_wp2_with fail
    clear cR0 cR1 cR2 cR3 zR cF0 cF1 cF2 cF3 zF
    refine (pick_any b (k + 2) 7 _ hc (by omega) (by omega) (by omega)).mono ?_
    rintro e v3 ⟨d, rfl, ⟨hd0, hd1⟩, hc2, hg⟩
    have hlt := hc.lt
    try simp only [World.size_alloc, World.size_setCell, World.size_drew] at hlt
    have hsv3 := hg.size
    try simp only [World.size_alloc, World.size_setCell, World.size_drew] at hsv3
    replace hR := heap_keepG hR hg (fun e => by injection e with e; omega)
    replace hF := heap_keepG hF hg (fun e => by injection e with e; omega)
    replace hG := grownBy_trans hG hg
    replace hc := hc2
    clear hg hc2 hlt
    have cR0' := cell_of hR 0
    have cR1' := cell_of hR 1
    have cR2' := cell_of hR 2
    have cR3' := cell_of hR 3
    have zR' := frozen_of hR
    have cF0' := cell_of hF 0
    have cF1' := cell_of hF 1
    have cF2' := cell_of hF 2
    have cF3' := cell_of hF 3
    have zF' := frozen_of hF
    replace hF : (v3.setCell ⟨v1.heap.size, 0, none⟩ (.int .i64 (1 + d))).heap[v1.heap.size]? = some (.cells #[.int .i64 (1 + d), .int .i64 0, .int .i64 p, .int .i64 0] 59 (0, 0)) := heap_set _ _ _ _ _ _ hF
    replace hR := (heap_far v3 _ ⟨v1.heap.size, 0, none⟩ (.int .i64 (1 + d)) (by dsimp only; omega)).trans hR
    have hlt := hc.lt
    replace hc := hc.set ⟨v1.heap.size, 0, none⟩ (.int .i64 (1 + d)) (by dsimp only; omega)
    replace hG := grownBy_new hG v1.heap.size 0 (.int .i64 (1 + d)) (by omega)
    clear hlt
    have cR0 := cell_of hR 0
    have cR1 := cell_of hR 1
    have cR2 := cell_of hR 2
    have cR3 := cell_of hR 3
    have zR := frozen_of hR
    have cF0 := cell_of hF 0
    have cF1 := cell_of hF 1
    have cF2 := cell_of hF 2
    have cF3 := cell_of hF 3
    have zF := frozen_of hF
    go_wp2_with fail
    clear cR0' cR1' cR2' cR3' zR' cF0' cF1' cF2' cF3' zF' cR0 cR1 cR2 cR3 zR cF0 cF1 cF2 cF3 zF
    refine (among_new b (k + 3) 6 6 _ [0, 0, 1, 2, 3, 4] 3 _ hc (by omega) (by omega) (by simp) (by omega) (by simp)).mono ?_
    rintro e v4 ⟨l, rfl, hl, hc2, hg⟩
    have hlt := hc.lt
    try simp only [World.size_alloc, World.size_setCell, World.size_drew] at hlt
    have hsv4 := hg.size
    try simp only [World.size_alloc, World.size_setCell, World.size_drew] at hsv4
    replace hR := heap_keepG hR hg (fun e => by injection e with e; omega)
    replace hF := heap_keepG hF hg (fun e => by injection e with e; omega)
    replace hG := grownBy_trans hG hg
    replace hc := hc2
    clear hg hc2 hlt
    have cR0' := cell_of hR 0
    have cR1' := cell_of hR 1
    have cR2' := cell_of hR 2
    have cR3' := cell_of hR 3
    have zR' := frozen_of hR
    have cF0' := cell_of hF 0
    have cF1' := cell_of hF 1
    have cF2' := cell_of hF 2
    have cF3' := cell_of hF 3
    have zF' := frozen_of hF
    replace hF : (v4.setCell ⟨v1.heap.size, 1, none⟩ (.int .i64 l)).heap[v1.heap.size]? = some (.cells #[.int .i64 (1 + d), .int .i64 l, .int .i64 p, .int .i64 0] 59 (0, 0)) := heap_set _ _ _ _ _ _ hF
    replace hR := (heap_far v4 _ ⟨v1.heap.size, 1, none⟩ (.int .i64 l) (by dsimp only; omega)).trans hR
    have hlt := hc.lt
    replace hc := hc.set ⟨v1.heap.size, 1, none⟩ (.int .i64 l) (by dsimp only; omega)
    replace hG := grownBy_new hG v1.heap.size 1 (.int .i64 l) (by omega)
    clear hlt
    have hl0 : 0 ≤ l ∧ l ≤ 4 := by simp at hl; omega
    have cR0 := cell_of hR 0
    have cR1 := cell_of hR 1
    have cR2 := cell_of hR 2
    have cR3 := cell_of hR 3
    have zR := frozen_of hR
    have cF0 := cell_of hF 0
    have cF1 := cell_of hF 1
    have cF2 := cell_of hF 2
    have cF3 := cell_of hF 3
    have zF := frozen_of hF
    go_wp2_with fail
    clear cR0' cR1' cR2' cR3' zR' cF0' cF1' cF2' cF3' zF' cR0 cR1 cR2 cR3 zR cF0 cF1 cF2 cF3 zF
    rename_i KK hKK
    refine wp_region_any (by kernel_rfl) ?_
    try (change wpAny _ _ _ _ _ _ _ (World.drew _))
    replace hR := (show ((v4.setCell ⟨v1.heap.size, 1, none⟩ (.int .i64 l)).drew).heap[w.heap.size]? = _ from hR)
    replace hF := (show ((v4.setCell ⟨v1.heap.size, 1, none⟩ (.int .i64 l)).drew).heap[v1.heap.size]? = _ from hF)
    replace hc := (show Cur (v4.setCell ⟨v1.heap.size, 1, none⟩ (.int .i64 l)).drew b (k + 4) from hc)
    replace hG := grownBy_drew hG
    refine wpAny_take (i := 0) (v := ?_) rfl (by kernel_rfl) (by kernel_rfl) (by kernel_rfl) (fun _ _ _ h => h) (Or.inl ⟨by rfl, ?_⟩) ?_
    rotate_left
    · intro w; first | (go_simp; done) | (go_simp; with_reducible rfl)
    refine wpAny_take (i := 2) (v := ?_) rfl (by kernel_rfl) (by kernel_rfl) (by kernel_rfl) (fun _ _ _ h => h) (Or.inl ⟨by rfl, ?_⟩) ?_
    rotate_left
    · intro w; first | (go_simp; done) | (go_simp; with_reducible rfl)
    refine wpAny_ready (rs := [1, 3]) (by kernel_rfl) (by simp) ?_
    refine AllReady.cons rfl (fun K hK => ?_) ?_
    · skip
      have cR0 := cell_of hR 0
      have cR1 := cell_of hR 1
      have cR2 := cell_of hR 2
      have cR3 := cell_of hR 3
      have zR := frozen_of hR
      have cF0 := cell_of hF 0
      have cF1 := cell_of hF 1
      have cF2 := cell_of hF 2
      have cF3 := cell_of hF 3
      have zF := frozen_of hF
      go_simp
      clear cR0 cR1 cR2 cR3 zR cF0 cF1 cF2 cF3 zF
      refine hK _ _ ?_
      clear hK K
      refine wpAny_ready (rs := [3]) (by kernel_rfl) (by simp) ?_
      refine AllReady.cons rfl (fun K hK => ?_) AllReady.nil
      go_simp
      refine (pick_any b (k + 4) 8 _ hc (by omega) (by omega) (by omega)).mono ?_
      rintro e v5 ⟨s, rfl, ⟨hs0, hs1⟩, hc2, hg⟩
      have hlt := hc.lt
      try simp only [World.size_alloc, World.size_setCell, World.size_drew] at hlt
      have hsv5 := hg.size
      try simp only [World.size_alloc, World.size_setCell, World.size_drew] at hsv5
      replace hR := heap_keepG hR hg (fun e => by injection e with e; omega)
      replace hF := heap_keepG hF hg (fun e => by injection e with e; omega)
      replace hG := grownBy_trans hG hg
      replace hc := hc2
      clear hg hc2 hlt
      go_wp2_with fail
      try (refine hK _ _ ?_; clear hK K)
      refine wpAny_take (i := 4) (v := ?_) rfl (by kernel_rfl) (by kernel_rfl) (by kernel_rfl) (fun _ _ _ h => h) (Or.inl ⟨by rfl, ?_⟩) ?_
      rotate_left
      · intro w; first | (go_simp; done) | (go_simp; with_reducible rfl)
      refine wpAny_take (i := 5) (v := ?_) rfl (by kernel_rfl) (by kernel_rfl) (by kernel_rfl) (fun _ _ _ h => h) (Or.inl ⟨by rfl, ?_⟩) ?_
      rotate_left
      · intro w; first | (go_simp; done) | (go_simp; with_reducible rfl)
      refine wpAny_take (i := 6) (v := ?_) rfl (by kernel_rfl) (by kernel_rfl) (by kernel_rfl) (fun _ _ _ h => h) (Or.inl ⟨by rfl, ?_⟩) ?_
      rotate_left
      · intro w; first | (go_simp; done) | (go_simp; with_reducible rfl)
      refine wpAny_take (i := 7) (v := ?_) rfl (by kernel_rfl) (by kernel_rfl) (by kernel_rfl) (fun _ _ _ h => h) (Or.inl ⟨by rfl, ?_⟩) ?_
      rotate_left
      · intro w; first | (go_simp; done) | (go_simp; with_reducible rfl)
      refine wpAny_ready (rs := [8]) (by kernel_rfl) (by simp) ?_
      refine AllReady.cons rfl (fun K hK => ?_) AllReady.nil
      have cR0' := cell_of hR 0
      have cR1' := cell_of hR 1
      have cR2' := cell_of hR 2
      have cR3' := cell_of hR 3
      have zR' := frozen_of hR
      have cF0' := cell_of hF 0
      have cF1' := cell_of hF 1
      have cF2' := cell_of hF 2
      have cF3' := cell_of hF 3
      have zF' := frozen_of hF
      replace hF : (v5.setCell ⟨v1.heap.size, 3, none⟩ (.int .i64 (IntKind.i64.wrap (1 + (IntKind.i64.wrap (p + s)).tmod 9)))).heap[v1.heap.size]? = some (.cells #[.int .i64 (1 + d), .int .i64 l, .int .i64 p, .int .i64 (IntKind.i64.wrap (1 + (IntKind.i64.wrap (p + s)).tmod 9))] 59 (0, 0)) := heap_set _ _ _ _ _ _ hF
      replace hR := (heap_far v5 _ ⟨v1.heap.size, 3, none⟩ (.int .i64 (IntKind.i64.wrap (1 + (IntKind.i64.wrap (p + s)).tmod 9))) (by dsimp only; omega)).trans hR
      have hlt := hc.lt
      replace hc := hc.set ⟨v1.heap.size, 3, none⟩ (.int .i64 (IntKind.i64.wrap (1 + (IntKind.i64.wrap (p + s)).tmod 9))) (by dsimp only; omega)
      replace hG := grownBy_new hG v1.heap.size 3 (.int .i64 (IntKind.i64.wrap (1 + (IntKind.i64.wrap (p + s)).tmod 9))) (by omega)
      clear hlt
      go_simp
      clear cR0' cR1' cR2' cR3' zR' cF0' cF1' cF2' cF3' zF'
      refine hK _ _ ?_
      clear hK K
      refine wpAny_done (by kernel_rfl) ?_ _
      refine hKK _ _ ?_
      have hlt := hc.lt
      go_wp2_with (first | (refine ldF rfl _ rfl (v1.heap.size) rfl _ _ _ _ hF ?_) | (refine stF rfl _ _ rfl (w.heap.size) rfl _ _ _ _ _ hR rfl rfl ?_; intro w9 h9 g9) | fail)
      replace hc := hc.other g9 (by omega)
      replace hG := grownBy_fresh hG g9 (by omega)
      exact bodyPost_ret (v := .agg #[.int .i64 (1 + d), .int .i64 l, .int .i64 p, .int .i64 (IntKind.i64.wrap (1 + (IntKind.i64.wrap (p + s)).tmod 9))]) (results_cell_row Tryz.results47 _ _ (w.heap.size) 59 #[.int .i64 (1 + d), .int .i64 l, .int .i64 p, .int .i64 (IntKind.i64.wrap (1 + (IntKind.i64.wrap (p + s)).tmod 9))] (0, 0) _ rfl h9 Tryz.underlying59 rfl info_fd) rfl ⟨_, _, _, _, rfl, fun _ => fieldOk_two hd0 hd1 hl0 hp0 hp1 hs0 hs1, hc.mono (by omega), hG⟩
    · skip
      refine AllReady.cons rfl (fun K hK => ?_) AllReady.nil
      go_simp
      refine (pick_any b (k + 4) 8 _ hc (by omega) (by omega) (by omega)).mono ?_
      rintro e v5 ⟨s, rfl, ⟨hs0, hs1⟩, hc2, hg⟩
      have hlt := hc.lt
      try simp only [World.size_alloc, World.size_setCell, World.size_drew] at hlt
      have hsv5 := hg.size
      try simp only [World.size_alloc, World.size_setCell, World.size_drew] at hsv5
      replace hR := heap_keepG hR hg (fun e => by injection e with e; omega)
      replace hF := heap_keepG hF hg (fun e => by injection e with e; omega)
      replace hG := grownBy_trans hG hg
      replace hc := hc2
      clear hg hc2 hlt
      go_wp2_with fail
      try (refine hK _ _ ?_; clear hK K)
      refine wpAny_ready (rs := [1]) (by kernel_rfl) (by simp) ?_
      refine AllReady.cons rfl (fun K hK => ?_) AllReady.nil
      have cR0 := cell_of hR 0
      have cR1 := cell_of hR 1
      have cR2 := cell_of hR 2
      have cR3 := cell_of hR 3
      have zR := frozen_of hR
      have cF0 := cell_of hF 0
      have cF1 := cell_of hF 1
      have cF2 := cell_of hF 2
      have cF3 := cell_of hF 3
      have zF := frozen_of hF
      go_simp
      clear cR0 cR1 cR2 cR3 zR cF0 cF1 cF2 cF3 zF
      refine hK _ _ ?_
      clear hK K
      refine wpAny_take (i := 4) (v := ?_) rfl (by kernel_rfl) (by kernel_rfl) (by kernel_rfl) (fun _ _ _ h => h) (Or.inl ⟨by rfl, ?_⟩) ?_
      rotate_left
      · intro w; first | (go_simp; done) | (go_simp; with_reducible rfl)
      refine wpAny_take (i := 5) (v := ?_) rfl (by kernel_rfl) (by kernel_rfl) (by kernel_rfl) (fun _ _ _ h => h) (Or.inl ⟨by rfl, ?_⟩) ?_
      rotate_left
      · intro w; first | (go_simp; done) | (go_simp; with_reducible rfl)
      refine wpAny_take (i := 6) (v := ?_) rfl (by kernel_rfl) (by kernel_rfl) (by kernel_rfl) (fun _ _ _ h => h) (Or.inl ⟨by rfl, ?_⟩) ?_
      rotate_left
      · intro w; first | (go_simp; done) | (go_simp; with_reducible rfl)
      refine wpAny_take (i := 7) (v := ?_) rfl (by kernel_rfl) (by kernel_rfl) (by kernel_rfl) (fun _ _ _ h => h) (Or.inl ⟨by rfl, ?_⟩) ?_
      rotate_left
      · intro w; first | (go_simp; done) | (go_simp; with_reducible rfl)
      refine wpAny_ready (rs := [8]) (by kernel_rfl) (by simp) ?_
      refine AllReady.cons rfl (fun K hK => ?_) AllReady.nil
      have cR0' := cell_of hR 0
      have cR1' := cell_of hR 1
      have cR2' := cell_of hR 2
      have cR3' := cell_of hR 3
      have zR' := frozen_of hR
      have cF0' := cell_of hF 0
      have cF1' := cell_of hF 1
      have cF2' := cell_of hF 2
      have cF3' := cell_of hF 3
      have zF' := frozen_of hF
      replace hF : (v5.setCell ⟨v1.heap.size, 3, none⟩ (.int .i64 (IntKind.i64.wrap (1 + (IntKind.i64.wrap (p + s)).tmod 9)))).heap[v1.heap.size]? = some (.cells #[.int .i64 (1 + d), .int .i64 l, .int .i64 p, .int .i64 (IntKind.i64.wrap (1 + (IntKind.i64.wrap (p + s)).tmod 9))] 59 (0, 0)) := heap_set _ _ _ _ _ _ hF
      replace hR := (heap_far v5 _ ⟨v1.heap.size, 3, none⟩ (.int .i64 (IntKind.i64.wrap (1 + (IntKind.i64.wrap (p + s)).tmod 9))) (by dsimp only; omega)).trans hR
      have hlt := hc.lt
      replace hc := hc.set ⟨v1.heap.size, 3, none⟩ (.int .i64 (IntKind.i64.wrap (1 + (IntKind.i64.wrap (p + s)).tmod 9))) (by dsimp only; omega)
      replace hG := grownBy_new hG v1.heap.size 3 (.int .i64 (IntKind.i64.wrap (1 + (IntKind.i64.wrap (p + s)).tmod 9))) (by omega)
      clear hlt
      go_simp
      clear cR0' cR1' cR2' cR3' zR' cF0' cF1' cF2' cF3' zF'
      refine hK _ _ ?_
      clear hK K
      refine wpAny_done (by kernel_rfl) ?_ _
      refine hKK _ _ ?_
      have hlt := hc.lt
      go_wp2_with (first | (refine ldF rfl _ rfl (v1.heap.size) rfl _ _ _ _ hF ?_) | (refine stF rfl _ _ rfl (w.heap.size) rfl _ _ _ _ _ hR rfl rfl ?_; intro w9 h9 g9) | fail)
      replace hc := hc.other g9 (by omega)
      replace hG := grownBy_fresh hG g9 (by omega)
      exact bodyPost_ret (v := .agg #[.int .i64 (1 + d), .int .i64 l, .int .i64 p, .int .i64 (IntKind.i64.wrap (1 + (IntKind.i64.wrap (p + s)).tmod 9))]) (results_cell_row Tryz.results47 _ _ (w.heap.size) 59 #[.int .i64 (1 + d), .int .i64 l, .int .i64 p, .int .i64 (IntKind.i64.wrap (1 + (IntKind.i64.wrap (p + s)).tmod 9))] (0, 0) _ rfl h9 Tryz.underlying59 rfl info_fd) rfl ⟨_, _, _, _, rfl, fun _ => fieldOk_two hd0 hd1 hl0 hp0 hp1 hs0 hs1, hc.mono (by omega), hG⟩
  · skip
    have hlt := hc.lt
    go_wp2_with (first | (refine ldF rfl _ rfl (v1.heap.size) rfl _ _ _ _ hF ?_) | (refine stF rfl _ _ rfl (w.heap.size) rfl _ _ _ _ _ hR rfl rfl ?_; intro w9 h9 g9) | fail)
    replace hc := hc.other g9 (by omega)
    replace hG := grownBy_fresh hG g9 (by omega)
    exact bodyPost_ret (v := .agg #[.int .i64 0, .int .i64 0, .int .i64 p, .int .i64 0]) (results_cell_row Tryz.results47 _ _ (w.heap.size) 59 #[.int .i64 0, .int .i64 0, .int .i64 p, .int .i64 0] (0, 0) _ rfl h9 Tryz.underlying59 rfl info_fd) rfl ⟨_, _, _, _, rfl, fun _ => fieldOk_one hp0 hp1, hc.mono (by omega), hG⟩

end Go.Proofs.YtenaadmifppphaaGreatDoor
