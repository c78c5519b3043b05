/- Contracts: the tinctures of arms, both sides. -/
import Derived.Test.YtjodoljgpdbimaaBox15
import Derived.Test.YtjodoljgpdbimaaArms
import Derived.Test.YtjodoljgpdbimaaInts
namespace Go.Proofs.Ytjodoljgpdbimaa
open Go.ChangeShapes Go.WideShapes Go.ChangeAt Go.RowKit
set_option linter.unusedVariables false
set_option linter.unusedSimpArgs false
theorem box15 (a : ArmsD) (w : World) : ∀ w', Below (w.alloc (.cells (ac a).toArray 31)).heap.size (w.alloc (.cells (ac a).toArray 31)) w' → Box15 w' w.heap.size a := fun w' hb =>
  Box15.below ⟨rangeAt_blk15 (heap_hit _ _ _ rfl)⟩ hb (by simp)
/-- Numbers in new memory. -/
def IntsIn (w : World) (zs : List Int) (e : Ending) (w' : World) : Prop := ∃ v, e = .returned v ∧ OwnI w' w.heap.size 3 v zs ∧ Below w.heap.size w w'
def tinF (d p q : Int) : List Int := if d = 0 then [p] else [p, q]
def nz (z : Int) : List Int := if z = 0 then [] else [z]
def tinsL (a : ArmsD) : List Int := tinF a.d a.p a.q ++ nz a.t ++ nz a.t1 ++ nz a.t2
theorem tinF_len (d p q : Int) : (tinF d p q).length ≤ 2 := by unfold tinF; split <;> simp
theorem nz_len (z : Int) : (nz z).length ≤ 1 := by unfold nz; split <;> simp
theorem arms_facts {a : ArmsD} (h : armsOk a = true) : (0 ≤ a.d ∧ a.d ≤ 7) ∧ (0 ≤ a.l ∧ a.l ≤ 4) ∧ (1 ≤ a.p ∧ a.p ≤ 9) ∧ (a.d = 0 ∧ a.l = 0 ∧ a.q = 0 ∨ a.d ≠ 0 ∧ 1 ≤ a.q ∧ a.q ≤ 9) ∧
    ((a.o = 0 ∧ a.li = 0 ∧ a.t = 0 ∧ a.c1 = 0 ∧ a.k1 = 0 ∧ a.a1 = 0 ∧ a.t1 = 0) ∨ ((1 ≤ a.o ∧ a.o ≤ 7) ∧ (0 ≤ a.li ∧ a.li ≤ 4) ∧ (1 ≤ a.t ∧ a.t ≤ 9))) ∧
    ((a.c1 = 0 ∧ a.k1 = 0 ∧ a.a1 = 0 ∧ a.t1 = 0) ∨ ((1 ≤ a.c1 ∧ a.c1 ≤ 6) ∧ (1 ≤ a.k1 ∧ a.k1 ≤ 8) ∧ (1 ≤ a.t1 ∧ a.t1 ≤ 9))) ∧
    ((a.c2 = 0 ∧ a.k2 = 0 ∧ a.a2 = 0 ∧ a.t2 = 0) ∨ ((1 ≤ a.c2 ∧ a.c2 ≤ 6) ∧ (1 ≤ a.k2 ∧ a.k2 ≤ 8) ∧ (1 ≤ a.t2 ∧ a.t2 ≤ 9))) := by
  unfold armsOk at h
  rw [Bool.and_eq_true, Bool.and_eq_true] at h
  obtain ⟨⟨h1, h2⟩, h3⟩ := h
  simp only [fieldOk, decide_eq_true_eq] at h1
  simp only [groupAny, groupNone, groupOk, Bool.or_eq_true, decide_eq_true_eq] at h2
  refine ⟨h1.1, h1.2.1, h1.2.2.1, by omega, ?_, ?_, by omega⟩
  · split at h3
    · simp only [groupNone, Bool.and_eq_true, decide_eq_true_eq] at h3
      exact .inl ⟨by assumption, by omega, by omega, by omega, by omega, by omega, by omega⟩
    · simp only [ordOk, Bool.and_eq_true, decide_eq_true_eq] at h3
      exact .inr (by omega)
  · split at h3
    · simp only [groupNone, Bool.and_eq_true, decide_eq_true_eq] at h3
      exact .inl (by omega)
    · simp only [groupAny, groupNone, groupOk, ordOk, Bool.and_eq_true, Bool.or_eq_true, decide_eq_true_eq] at h3
      omega

theorem fieldTins_any (d l p q : Int) (w : World) : Calls Try.prog 51 #[.agg #[.int .i64 d, .int .i64 l, .int .i64 p, .int .i64 q]] w (IntsIn w (tinF d p q)) := by
  unfold tinF
  by_cases h : d = 0
  · rw [if_pos h]
    have h1 : (d == 0) = true := by simpa using h
    clear h
    go_enter Try.func51, Try.ntmps51
    go_wp2
    go_ret
    exact ⟨_, rfl, OwnI.blk (zs := [p]) (heap_hit _ _ _ (by simp)) (by omega) (by simp [maxLen]), by (repeat (first | exact Below.refl _ _ | assumption | refine Below_al ?_ _ | refine Below.drew ?_ | refine Below_then ?_ (by assumption) | refine Below.setCell ?_ (by first | omega | (simp; done) | (simp; omega)) _))⟩
  · rw [if_neg h]
    have h1 : (d == 0) = false := by simpa using h
    clear h
    go_enter Try.func51, Try.ntmps51
    go_wp2
    go_ret
    exact ⟨_, rfl, OwnI.blk (zs := [p, q]) (heap_hit _ _ _ (by simp)) (by omega) (by simp [maxLen]), by (repeat (first | exact Below.refl _ _ | assumption | refine Below_al ?_ _ | refine Below.drew ?_ | refine Below_then ?_ (by assumption) | refine Below.setCell ?_ (by first | omega | (simp; done) | (simp; omega)) _))⟩

theorem l3Tins_any (d l p q : Int) (w : World) : Calls Try.prog 64 #[.agg #[.int .i64 d, .int .i64 l, .int .i64 p, .int .i64 q]] w (IntsIn w (tinF d p q)) := by
  unfold tinF
  by_cases h : d = 0
  · rw [if_pos h]
    have h1 : (d == 0) = true := by simpa using h
    clear h
    go_enter Try.func64, Try.ntmps64
    go_wp2
    go_ret
    exact ⟨_, rfl, OwnI.blk (zs := [p]) (heap_hit _ _ _ (by simp)) (by omega) (by simp [maxLen]), by (repeat (first | exact Below.refl _ _ | assumption | refine Below_al ?_ _ | refine Below.drew ?_ | refine Below_then ?_ (by assumption) | refine Below.setCell ?_ (by first | omega | (simp; done) | (simp; omega)) _))⟩
  · rw [if_neg h]
    have h1 : (d == 0) = false := by simpa using h
    clear h
    go_enter Try.func64, Try.ntmps64
    go_wp2
    go_ret
    exact ⟨_, rfl, OwnI.blk (zs := [p, q]) (heap_hit _ _ _ (by simp)) (by omega) (by simp [maxLen]), by (repeat (first | exact Below.refl _ _ | assumption | refine Below_al ?_ _ | refine Below.drew ?_ | refine Below_then ?_ (by assumption) | refine Below.setCell ?_ (by first | omega | (simp; done) | (simp; omega)) _))⟩


/-- What stands while tinctures are collected. -/
structure TinI (W0 : World) (G : Nat) (ts : List Int) (u : Value) (zs : List Int) (w : World) : Prop where
  own : OwnI w W0.heap.size 3 u zs
  arr : w.heap[G]? = some (.cells (ints ts) 3 (0, 0))
  ne : u.ownBlock ≠ some G
  bel : Below W0.heap.size W0 w
theorem TinI.app {W0 w w' : World} {G : Nat} {ts zs zs' : List Int} {u u' : Value} (h : TinI W0 G ts u zs w) (o : Obj) (ho : OwnI w' W0.heap.size 3 u' zs') (hg : (w.alloc o).grownBy w' u.ownBlock) (hb : Below W0.heap.size (w.alloc o) w') (hat : u'.ownBlock = u.ownBlock ∨ u'.ownBlock = some (w.alloc o).heap.size) : TinI W0 G ts u' zs' w' :=
  ⟨ho, heap_keepG (heap_keepA h.arr o) hg h.ne, by
    rcases hat with e | e
    · rw [e]; exact h.ne
    · rw [e]; intro e2; injection e2 with e2; have := heap_lt h.arr; simp at e2; omega, (Below_al h.bel o).trans hb⟩
end Go.Proofs.Ytjodoljgpdbimaa
