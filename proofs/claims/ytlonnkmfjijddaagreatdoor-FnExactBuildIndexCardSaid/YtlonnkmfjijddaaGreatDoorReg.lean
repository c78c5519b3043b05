/- Contracts: which registers are valid. -/
import Derived.Test.YtlonnkmfjijddaaGreatDoorNames
import Derived.Test.YtlonnkmfjijddaaGreatDoorDiff3
import Derived.Test.YtlonnkmfjijddaaGreatDoorGrOpen
namespace Go.Proofs.YtlonnkmfjijddaaGreatDoor
open Go.ChangeShapes Go.WideShapes Go.ChangeAt Go.RowKit
set_option linter.unusedVariables false
set_option linter.unusedSimpArgs false

/-- The first of n for which p holds, or -1. -/
def firstI (p : Nat → Bool) (n : Nat) : Int := match (List.range n).find? p with | some i => i | none => -1
theorem firstI_yes {p : Nat → Bool} {n k : Nat} (hk : k < n) (hp : p k = true) (h : ∀ j, j < k → p j = false) : firstI p n = k := by
  have : (List.range n).find? p = some k := by
    rw [List.find?_range_eq_some]
    exact ⟨hp, by simpa using hk, fun j hj => by simp [h j hj]⟩
  simp [firstI, this]
theorem firstI_no {p : Nat → Bool} {n : Nat} (h : ∀ j, j < n → p j = false) : firstI p n = -1 := by
  have : (List.range n).find? p = none := by
    rw [List.find?_eq_none]
    intro x hx
    simp at hx
    simp [h x hx]
  simp [firstI, this]
def anyN (p : Nat → Bool) (n : Nat) : Bool := (List.range n).any p
theorem firstI_any (p : Nat → Bool) (n : Nat) : decide (0 ≤ firstI p n) = anyN p n := by
  unfold firstI anyN
  cases h : (List.range n).find? p with
  | none =>
    have := List.find?_eq_none.1 h
    have h2 : (List.range n).any p = false := by
      rw [List.any_eq_false]
      intro x hx
      exact this x hx
    simp [h2]
  | some i =>
    have h1 := List.find?_some h
    have h2 := List.mem_of_find?_eq_some h
    have h3 : (List.range n).any p = true := List.any_eq_true.2 ⟨i, h2, h1⟩
    simp [h3]
theorem anyN_yes {p : Nat → Bool} {n k : Nat} (hk : k < n) (h : p k = true) : anyN p n = true := List.any_eq_true.2 ⟨k, by simpa using hk, h⟩
theorem anyN_no {p : Nat → Bool} {n : Nat} (h : ∀ j, j < n → p j = false) : anyN p n = false := by
  unfold anyN
  rw [List.any_eq_false]
  intro x hx
  simp at hx
  simp [h x hx]
theorem conflictC (a b : ArmsD) (w : World) (ga : armsOk a = true) (gb : armsOk b = true) : Calls Tryz.prog 42 #[.agg (ac a).toArray, .agg (ac b).toArray] w fun e w' => e = .returned (.bool (confl a b)) ∧ Below w.heap.size w w' := conflict_any a b w ga gb
theorem l15ConflictC (a b : ArmsD) (w : World) (ga : armsOk a = true) (gb : armsOk b = true) : Calls Tryz.prog 32 #[.agg (ac a).toArray, .agg (ac b).toArray] w fun e w' => e = .returned (.bool (confl a b)) ∧ Below w.heap.size w w' := l15Conflict_any a b w ga gb

def grantOk (g : GrantD) : Bool := decide (1 ≤ g.n ∧ g.n ≤ 999) && nameOk g.s && decide (1000 ≤ g.y ∧ g.y ≤ 2999) && armsOk g.a
theorem grantOk_arms {g : GrantD} (h : grantOk g = true) : armsOk g.a = true := by
  unfold grantOk at h
  rw [Bool.and_eq_true] at h
  exact h.2
def prevOk (rows : List GrantD) (i : Nat) (g : GrantD) : Bool := match i with
  | 0 => true
  | j + 1 => match rows[j]? with
    | none => true
    | some h => decide (h.n < g.n ∧ h.y ≤ g.y)
def confAt (rows : List GrantD) (g : GrantD) (k : Nat) : Bool := match rows[k]? with | some h => confl h.a g.a | none => false
theorem confAt_at {rows : List GrantD} {g h : GrantD} {k : Nat} (hk : rows[k]? = some h) : confAt rows g k = confl h.a g.a := by simp [confAt, hk]
def goodAt (rows : List GrantD) (i : Nat) : Bool := match rows[i]? with
  | none => true
  | some g => grantOk g && prevOk rows i g && !(anyN (confAt rows g) i)
theorem goodAt_at {rows : List GrantD} {g : GrantD} {i : Nat} (h : rows[i]? = some g) : goodAt rows i = (grantOk g && prevOk rows i g && !(anyN (confAt rows g) i)) := by simp [goodAt, h]
/-- A valid register. -/
def regOk (rows : List GrantD) : Bool := decide (rows.length ≤ 12) && (List.range rows.length).all (goodAt rows)
theorem regOk_bad {rows : List GrantD} {i : Nat} (hi : i < rows.length) (h : goodAt rows i = false) : regOk rows = false := by
  rw [regOk, Bool.and_eq_false_iff]
  exact .inr (List.all_eq_false.2 ⟨i, by simpa using hi, by rw [h]; simp⟩)
theorem regOk_good {rows : List GrantD} (h : ∀ i, i < rows.length → goodAt rows i = true) : regOk rows = decide ((rows.length : Int) ≤ 12) := by
  have : (List.range rows.length).all (goodAt rows) = true := List.all_eq_true.2 fun i hi => h i (by simpa using hi)
  rw [regOk, this, Bool.and_true]
  by_cases hl : rows.length ≤ 12
  · rw [decide_eq_true hl, decide_eq_true (by omega)]
  · rw [decide_eq_false hl, decide_eq_false (by omega)]
theorem regOk_long {rows : List GrantD} (h : ¬ rows.length ≤ 12) : regOk rows = false := by rw [regOk, decide_eq_false h, Bool.false_and]
theorem regOk_len {rows : List GrantD} (h : regOk rows = true) : rows.length ≤ 12 := by
  unfold regOk at h
  rw [Bool.and_eq_true, decide_eq_true_iff] at h
  exact h.1
theorem good_arms {rows : List GrantD} {g : GrantD} {i : Nat} (hg : rows[i]? = some g) (h : goodAt rows i = true) : armsOk g.a = true := by
  rw [goodAt_at hg, Bool.and_eq_true, Bool.and_eq_true] at h
  exact grantOk_arms h.1.1
theorem regOk_arms {rows : List GrantD} (h : regOk rows = true) {g : GrantD} {i : Nat} (hg : rows[i]? = some g) : armsOk g.a = true := by
  have hi := (List.getElem?_eq_some_iff.1 hg).1
  unfold regOk at h
  rw [Bool.and_eq_true] at h
  exact good_arms hg (List.all_eq_true.1 h.2 i (by simpa using hi))
set_option maxHeartbeats 4000000 in
theorem l16GrantC (g : GrantD) (w : World) (hs : g.s.size ≤ maxLen) : Calls Tryz.prog 31 #[.agg (gc g).toArray] w fun e w' => e = .returned (.bool (grantOk g)) ∧ Below w.heap.size w w' := by
  have KN := fun w => l16Name_any g.s w hs
  have KA := fun w => l5Good_any g.a w
  unfold grantOk
  generalize nameOk g.s = q at *
  generalize armsOk g.a = p at *
  have KN' := Lib.hid KN
  have KA' := Lib.hid KA
  clear KN KA hs
  show Calls Tryz.prog 31 #[.agg #[.int .i64 g.n, .string g.s, .int .i64 g.y, .int .i64 g.a.d, .int .i64 g.a.l, .int .i64 g.a.p, .int .i64 g.a.q, .int .i64 g.a.o, .int .i64 g.a.li, .int .i64 g.a.t, .int .i64 g.a.c1, .int .i64 g.a.k1, .int .i64 g.a.a1, .int .i64 g.a.t1, .int .i64 g.a.c2, .int .i64 g.a.k2, .int .i64 g.a.a2, .int .i64 g.a.t2]] w _
  by_cases h1 : 1 ≤ g.n ∧ g.n ≤ 999
  · obtain ⟨h1a, h1b⟩ := h1
    by_cases h3 : 1000 ≤ g.y ∧ g.y ≤ 2999
    · obtain ⟨h3a, h3b⟩ := h3
      rw [decide_eq_true (show 1 ≤ g.n ∧ g.n ≤ 999 from ⟨h1a, h1b⟩), decide_eq_true (show 1000 ≤ g.y ∧ g.y ≤ 2999 from ⟨h3a, h3b⟩)]
      cases q
      all_goals cases p
      all_goals
        go_enter Tryz.func31, Tryz.ntmps31
        go_wp2_with (first | (go_at_call 50; refine (l1In_any _ _ _ _).mono ?_; rintro e wq ⟨rfl, rfl⟩) | (go_at_call 51; refine (KN'.out _).mono ?_; rintro e w1 ⟨rfl, hb1⟩; obtain ⟨hc1, hf1⟩ := bcell hb1; have hz1 : w.heap.size < w1.heap.size := Nat.lt_of_lt_of_le (by first | omega | (simp; done) | (simp; omega)) hb1.size) | (go_at_call 52; refine (KA'.out _).mono ?_; rintro e w2 ⟨rfl, hb2⟩) | fail)
        go_ret
        exact ⟨rfl, by (repeat (first | exact Below.refl _ _ | assumption | refine Below_al ?_ _ | refine Below.drew ?_ | refine Below_then ?_ (by assumption) | refine Below.setCell ?_ (by first | omega | (simp; done) | (simp; omega)) _))⟩
    · rw [decide_eq_true (show 1 ≤ g.n ∧ g.n ≤ 999 from ⟨h1a, h1b⟩), decide_eq_false h3]
      have h3c : decide (1000 ≤ g.y ∧ g.y ≤ 2999) = false := decide_eq_false h3
      have H3 := Lib.hid h3c
      clear h3 h3c
      cases q
      all_goals
        go_enter Tryz.func31, Tryz.ntmps31
        go_wp2_with (first | (go_at_call 50; refine (l1In_any _ _ _ _).mono ?_; (try rw [H3.out]); rintro e wq ⟨rfl, rfl⟩) | (go_at_call 51; refine (KN'.out _).mono ?_; rintro e w1 ⟨rfl, hb1⟩; obtain ⟨hc1, hf1⟩ := bcell hb1; have hz1 : w.heap.size < w1.heap.size := Nat.lt_of_lt_of_le (by first | omega | (simp; done) | (simp; omega)) hb1.size) | fail)
        go_ret
        exact ⟨rfl, by (repeat (first | exact Below.refl _ _ | assumption | refine Below_al ?_ _ | refine Below.drew ?_ | refine Below_then ?_ (by assumption) | refine Below.setCell ?_ (by first | omega | (simp; done) | (simp; omega)) _))⟩
  · rw [decide_eq_false h1]
    have h1c : decide (1 ≤ g.n ∧ g.n ≤ 999) = false := decide_eq_false h1
    have H1 := Lib.hid h1c
    clear h1 h1c
    go_enter Tryz.func31, Tryz.ntmps31
    go_wp2_with (first | (go_at_call 50; refine (l1In_any _ _ _ _).mono ?_; (try rw [H1.out]); rintro e wq ⟨rfl, rfl⟩) | fail)
    go_ret
    exact ⟨rfl, by (repeat (first | exact Below.refl _ _ | assumption | refine Below_al ?_ _ | refine Below.drew ?_ | refine Below_then ?_ (by assumption) | refine Below.setCell ?_ (by first | omega | (simp; done) | (simp; omega)) _))⟩
end Go.Proofs.YtlonnkmfjijddaaGreatDoor
