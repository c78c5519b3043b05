/- The cursor of the draws: each draw gives some number within its bounds; nothing but the cursor's block turns. -/
import Derived.Test.YtenaadmifppphaaGreatDoorMem3
import Derived.Test.YtenaadmifppphaaGreatDoorFields
namespace Go.Proofs.YtenaadmifppphaaGreatDoor
open Go.ChangeShapes Go.WideShapes Go.ChangeAt Go.RowKit
set_option linter.unusedVariables false
set_option linter.unusedSimpArgs false
/-- n bytes at A, in an elder block than b. -/
def CodeAt (w : World) (A : Option Addr) (n b : Nat) : Prop :=
  n = 0 ∨ ∃ cb off, A = some ⟨cb, off, none⟩ ∧ cb < b ∧ ∀ i, i < n → ∃ z : Int, w.cell? ⟨cb, off + i, none⟩ = some (.int .u8 z) ∧ 0 ≤ z ∧ z ≤ 255
/-- The cursor lies in block b and has made k steps at most. -/
def Cur (w : World) (b k : Nat) : Prop :=
  ∃ (A : Option Addr) (n c : Nat) (a s : Int), w.heap[b]? = some (.cells #[.slice A n c, .int .i64 a, .int .u64 s] 44 (0, 0)) ∧ 0 ≤ a ∧ a ≤ (k : Int) ∧ n ≤ 65536 ∧ CodeAt w A n b
theorem grown_cell {w w' : World} {p : Addr} {u : Value} {row : Option Nat} (h : w.cell? p = some u) (hg : w.grownBy w' row) (hne : row ≠ some p.block) : w'.cell? p = some u := by
  rw [World.cell?_of_block (hg.block _ (World.block_lt_of_cell? w p h) (fun e => hne e.symm))]
  exact h
theorem CodeAt.grown {w w' : World} {A : Option Addr} {n b : Nat} {row : Option Nat} (h : CodeAt w A n b) (hg : w.grownBy w' row) (hne : row = none ∨ row = some b ∨ ∀ cb off, A = some ⟨cb, off, none⟩ → row ≠ some cb) : CodeAt w' A n b := by
  rcases h with h | ⟨cb, off, hA, h1, h2⟩
  · exact .inl h
  · refine .inr ⟨cb, off, hA, h1, fun i hi => ?_⟩
    obtain ⟨z, h3, h4⟩ := h2 i hi
    refine ⟨z, grown_cell h3 hg ?_, h4⟩
    rcases hne with e | e | e
    · rw [e]; simp
    · rw [e]; intro e'; injection e' with e'; dsimp only at e'; omega
    · exact e cb off hA
theorem Cur.mono {w : World} {b k k' : Nat} (h : Cur w b k) (hk : k ≤ k') : Cur w b k' := by
  obtain ⟨A, n, c, a, s, h1, h2, h3, h4, h5⟩ := h
  exact ⟨A, n, c, a, s, h1, h2, by omega, h4, h5⟩
theorem Cur.below {w w' : World} {b k : Nat} (h : Cur w b k) (hb : Below w.heap.size w w') : Cur w' b k := by
  obtain ⟨A, n, c, a, s, h1, h2, h3, h4, h5⟩ := h
  exact ⟨A, n, c, a, s, heap_keepB h1 hb, h2, h3, h4, h5.grown (grownBy_of (row := none) hb) (.inl rfl)⟩
theorem Cur.alloc {w : World} {b k : Nat} (h : Cur w b k) (o : Obj) : Cur (w.alloc o) b k := h.below (Below_al (Below.refl _ _) o)
theorem Cur.drew {w : World} {b k : Nat} (h : Cur w b k) : Cur w.drew b k := h
theorem Cur.other {w w' : World} {b k g : Nat} (h : Cur w b k) (hg : w.grownBy w' (some g)) (hb : b < g) : Cur w' b k := by
  obtain ⟨A, n, c, a, s, h1, h2, h3, h4, h5⟩ := h
  refine ⟨A, n, c, a, s, heap_keepG h1 hg (fun e => by injection e with e; omega), h2, h3, h4, ?_⟩
  rcases h5 with h | ⟨cb, off, hA, h6, h7⟩
  · exact .inl h
  · refine .inr ⟨cb, off, hA, h6, fun i hi => ?_⟩
    obtain ⟨z, h8, h9⟩ := h7 i hi
    exact ⟨z, grown_cell h8 hg (fun e => by injection e with e; dsimp only at e; omega), h9⟩
theorem Cur.set {w : World} {b k : Nat} (h : Cur w b k) (p : Addr) (v : Value) (hp : b < p.block) : Cur (w.setCell p v) b k :=
  h.other (g := p.block) ⟨rfl, rfl, rfl, by simp, fun i hi hne => heap_far _ _ _ _ (fun e => hne (by rw [e]))⟩ hp
theorem Cur.lt {w : World} {b k : Nat} (h : Cur w b k) : b < w.heap.size := by
  obtain ⟨A, n, c, a, s, h1, -⟩ := h
  exact heap_lt h1
/-- Some number is drawn. -/
def Drawn (w : World) (b k : Nat) (p : Int → Prop) (e : Ending) (w' : World) : Prop := ∃ z, e = .returned (.int .i64 z) ∧ p z ∧ Cur w' b k ∧ w.grownBy w' (some b)
theorem wraps_u64c (n : Int) (h0 : 0 ≤ n) (h1 : n < 2 ^ 63) : IntKind.u64.wrap n = n := by
  have : (2 : Int) ^ 63 = 9223372036854775808 := by decide
  have e : IntKind.u64.wrap n = n % 18446744073709551616 := rfl
  rw [e]
  omega
theorem low8 (v : Int) : 0 ≤ wrap64 (bits BinOp.and IntKind.u64 (IntKind.u64.wrap v / 1099511627776) 255) ∧ wrap64 (bits BinOp.and IntKind.u64 (IntKind.u64.wrap v / 1099511627776) 255) ≤ 255 := by
  have e : IntKind.u64.wrap v = v % 18446744073709551616 := rfl
  rw [e]
  obtain ⟨x, hx⟩ : ∃ x : Nat, (x : Int) = v % 18446744073709551616 / 1099511627776 := ⟨(v % 18446744073709551616 / 1099511627776).toNat, by omega⟩
  have hb : x < 16777216 := by omega
  rw [← hx]
  have h1 := (bits_nat .u64 63 (by decide) wraps_u64c x 255 (by omega) (by decide)).1
  have h2 : x &&& 255 ≤ 255 := Nat.and_le_right
  rw [show ((255 : Nat) : Int) = 255 from rfl] at h1
  rw [h1, IntWalk.wrap64_in _ ⟨by omega, by omega⟩]
  omega
set_option maxHeartbeats 1000000 in
theorem next_any (b k : Nat) (w : World) (h : Cur w b k) (hk : k ≤ 1099511627776) : Calls Tryz.prog 51 #[.pointer (some ⟨b, 0, none⟩)] w (Drawn w b (k + 1) fun z => 0 ≤ z ∧ z ≤ 255) := by
  obtain ⟨A, n, c, a, s, hh, ha0, hak, hn, hcode⟩ := h
  obtain ⟨j, rfl⟩ : ∃ j : Nat, a = (j : Int) := ⟨a.toNat, by omega⟩
  have c0 := cell_of hh 0
  have c1 := cell_of hh 1
  have c2 := cell_of hh 2
  have f1 := frozen_of hh 1
  have f2 := frozen_of hh 2
  have hfin : ∀ (v : Int) (q1 q2 : Nat), Cur ((((w.drewN q1).setCell ⟨b, 1, none⟩ (.int .i64 (j + 1))).setCell ⟨b, 2, none⟩ (.int .u64 v)).drewN q2) b (k + 1) ∧ w.grownBy ((((w.drewN q1).setCell ⟨b, 1, none⟩ (.int .i64 (j + 1))).setCell ⟨b, 2, none⟩ (.int .u64 v)).drewN q2) (some b) := by
    intro v q1 q2
    have hg0 : w.grownBy (w.drewN q1) (some b) := ⟨rfl, rfl, rfl, Nat.le_refl _, fun _ _ _ => rfl⟩
    have hg := grownBy_set (grownBy_set hg0 1 (.int .i64 (j + 1))) 2 (.int .u64 v)
    have hg2 : w.grownBy ((((w.drewN q1).setCell ⟨b, 1, none⟩ (.int .i64 (j + 1))).setCell ⟨b, 2, none⟩ (.int .u64 v)).drewN q2) (some b) := ⟨hg.os, hg.tape, hg.output, hg.size, hg.block⟩
    exact ⟨⟨A, n, c, j + 1, v, heap_set _ _ _ _ _ _ (heap_set (w.drewN q1) _ _ _ _ _ hh), by omega, by omega, hn, hcode.grown hg2 (.inr (.inl rfl))⟩, hg2⟩
  have HFIN := Lib.hid hfin
  clear hfin hh
  by_cases hlt : j < n
  · rcases hcode with h0 | ⟨cb, off, rfl, hne, hb⟩
    · omega
    obtain ⟨z, hz, hz0, hz1⟩ := hb j hlt
    have hne' : cb ≠ b := by omega
    have i1 : (j : Int) < (n : Int) := by omega
    have i2 : (j : Int) + 1 ≤ (n : Int) := by omega
    have d1 : decide (j < n) = true := by simpa using hlt
    clear hb
    go_enter Tryz.func51, Tryz.ntmps51
    go_wp2_with fail
    go_quiet (fail)
    go_wp2_with fail
    go_quiet (fail)
    go_wp2_with fail
    go_quiet (fail)
    go_wp2
    go_ret
    exact ⟨z, rfl, ⟨hz0, hz1⟩, (HFIN.out _ _ _).1, (HFIN.out _ _ _).2⟩
  · have i1 : ¬ (j : Int) < (n : Int) := by omega
    have d1 : decide (j < n) = false := by simpa using hlt
    have i2 : ¬ (j : Int) + 1 ≤ (n : Int) := by omega
    clear hcode
    go_enter Tryz.func51, Tryz.ntmps51
    go_wp2_with fail
    go_quiet (fail)
    go_wp2_with fail
    go_quiet (fail)
    go_wp2
    go_ret
    exact ⟨_, rfl, low8 _, (HFIN.out _ _ _).1, (HFIN.out _ _ _).2⟩
theorem emod_small {x n : Int} (h0 : 0 ≤ x) (hn : 1 < n) : 0 ≤ x % n ∧ x % n < n := ⟨Int.emod_nonneg _ (by omega), Int.emod_lt_of_pos _ (by omega)⟩
set_option maxHeartbeats 1000000 in
theorem pick_any (b k : Nat) (n : Int) (w : World) (h : Cur w b k) (hk : k ≤ 1000000) (hn : 1 ≤ n) (hn2 : n ≤ 200) : Calls Tryz.prog 33 #[.pointer (some ⟨b, 0, none⟩), .int .i64 n] w (Drawn w b (k + 1) fun z => 0 ≤ z ∧ z < n) := by
  by_cases h1 : n ≤ 1
  · go_enter Tryz.func33, Tryz.ntmps33
    go_wp2
    go_ret
    exact ⟨0, rfl, by omega, h.mono (by omega), World.grownBy.refl _ _⟩
  · have h2 : ¬ 200 < n := by omega
    have h3 : n ≠ 0 := by omega
    go_enter Tryz.func33, Tryz.ntmps33
    go_wp2_with fail
    refine (next_any b k _ h (by omega)).mono ?_
    rintro e w1 ⟨z, rfl, hz, hc, hg⟩
    have hz0 := hz.1
    have hz1 := hz.2
    have hm := emod_small (n := n) hz0 (by omega)
    have hz00 : ¬ z < 0 := by omega
    go_wp2
    go_ret
    exact ⟨_, rfl, hm, hc, hg⟩
theorem one_any (b k : Nat) (n : Int) (w : World) (h : Cur w b k) (hk : k ≤ 1000000) (hn : 1 ≤ n) (hn2 : n ≤ 200) : Calls Tryz.prog 30 #[.pointer (some ⟨b, 0, none⟩), .int .i64 n] w fun e w' => ∃ x, e = .returned (.bool x) ∧ Cur w' b (k + 1) ∧ w.grownBy w' (some b) := by
  go_enter Tryz.func30, Tryz.ntmps30
  go_wp2_with fail
  refine (pick_any b k n _ h hk hn hn2).mono ?_
  rintro e w1 ⟨z, rfl, hz, hc, hg⟩
  go_wp2
  go_ret
  exact ⟨_, rfl, hc, hg⟩
set_option maxHeartbeats 1000000 in
theorem among_any (b k : Nat) (A : Option Addr) (n c : Nat) (zs : List Int) (w : World) (h : Cur w b k) (hk : k ≤ 1000000) (hr : RdI w A zs) (hn : 1 ≤ n) (hn2 : n ≤ zs.length) (hn3 : n ≤ 200) (hb : ∀ cb off, A = some ⟨cb, off, none⟩ → cb ≠ b) :
    Calls Tryz.prog 53 #[.pointer (some ⟨b, 0, none⟩), .slice A n c] w (Drawn w b (k + 1) fun z => z ∈ zs) := by
  obtain ⟨x0, off, rfl, -, hx0⟩ := hr.at_ (k := 0) (by omega)
  have hnb := hb _ _ rfl
  have HR := Lib.hid hr
  clear hr hb
  go_enter Tryz.func53, Tryz.ntmps53
  go_wp2_with fail
  refine (pick_any b k n _ h hk (by omega) (by omega)).mono ?_
  rintro e w1 ⟨z, rfl, ⟨hz0, hz1⟩, hc, hg⟩
  obtain ⟨j, rfl⟩ : ∃ j : Nat, z = (j : Int) := ⟨z.toNat, by omega⟩
  obtain ⟨b', off', e2, hcl, -⟩ := HR.out.at_ (k := j) (by omega)
  injection e2 with e2
  injection e2 with e21 e22
  subst e21 e22
  have hc1 := grown_cell hcl hg (fun e => by injection e with e; exact hnb e.symm)
  have hm : zs[j]'(by omega) ∈ zs := List.getElem_mem _
  obtain ⟨y, hy⟩ : ∃ y, y = zs[j]'(by omega) := ⟨_, rfl⟩
  rw [← hy] at hc1 hm
  have HM := Lib.hid hm
  clear hcl hy hm
  have j2 : j < n := by omega
  go_wp2
  go_ret
  exact ⟨_, rfl, HM.out, hc, hg⟩
theorem RdI.blk {w : World} {g : Nat} {zs : List Int} {T : TypeId} (h : w.heap[g]? = some (.cells (ints zs) T (0, 0))) : RdI w (some ⟨g, 0, none⟩) zs :=
  .inr ⟨g, 0, rfl, fun i hi => by
    rw [iv_len] at hi
    rw [Nat.zero_add, ints_cell h i hi, iv_get]⟩
theorem RdI.grown {w w' : World} {A : Option Addr} {zs : List Int} {row : Option Nat} (h : RdI w A zs) (hg : w.grownBy w' row) (hne : ∀ cb off, A = some ⟨cb, off, none⟩ → row ≠ some cb) : RdI w' A zs := by
  rcases h with h | ⟨b, off, hA, hc⟩
  · exact .inl h
  · exact .inr ⟨b, off, hA, fun i hi => grown_cell (hc i hi) hg (hne b off hA)⟩
/-- What was built last, drawn from. -/
theorem among_new (b k n c g : Nat) (zs : List Int) (T : TypeId) (w : World) (h : Cur w b k) (hk : k ≤ 1000000) (hn : 1 ≤ n) (hn2 : n ≤ zs.length) (hn3 : n ≤ 200) (hgz : g = w.heap.size) :
    Calls Tryz.prog 53 #[.pointer (some ⟨b, 0, none⟩), .slice (some ⟨g, 0, none⟩) n c] (w.alloc (.cells (ints zs) T (0, 0))) fun e w' => ∃ z, e = .returned (.int .i64 z) ∧ z ∈ zs ∧ Cur w' b (k + 1) ∧ w.grownBy w' (some b) :=
  (among_any b k _ n c zs _ (h.alloc _) hk (RdI.blk (heap_hit _ _ _ hgz)) hn hn2 hn3 (fun cb off e => by injection e with e; injection e with e; have := h.lt; omega)).mono fun e w' ⟨z, h1, h2, h3, h4⟩ => ⟨z, h1, h2, h3, below_grownBy (Below_al (Below.refl _ _) _) h4⟩
theorem tincture_any (b k : Nat) (w : World) (h : Cur w b k) (hk : k ≤ 1000000) : Calls Tryz.prog 49 #[.pointer (some ⟨b, 0, none⟩)] w (Drawn w b (k + 1) fun z => 1 ≤ z ∧ z ≤ 9) := by
  go_enter Tryz.func49, Tryz.ntmps49
  go_wp2_with fail
  refine (pick_any b k 9 _ h hk (by omega) (by omega)).mono ?_
  rintro e w1 ⟨z, rfl, ⟨hz0, hz1⟩, hc, hg⟩
  go_wp2
  go_ret
  exact ⟨_, rfl, by omega, hc, hg⟩
end Go.Proofs.YtenaadmifppphaaGreatDoor
