/- Rules of tincture: what clashes, which arms break no rule; both sides. -/
import Derived.Test.YtjodoljgpdbimaaTins
import Derived.Test.YtjodoljgpdbimaaNear
import Derived.Maps.AppendAt
namespace Go.Proofs.Ytjodoljgpdbimaa
open Go.ChangeShapes Go.WideShapes Go.ChangeAt Go.RowKit
set_option linter.unusedVariables false
set_option linter.unusedSimpArgs false
def clsI (x : Int) : Int := if x ≤ 2 then 1 else if x ≤ 7 then 2 else 3
def clashB (x y : Int) : Bool := (x == y) || ((clsI x == clsI y) && (clsI x != 3))
def brk (x : Int) (zs : List Int) : Bool := zs.all (clashB x)
/-- The three rules: whether they are broken. -/
def br1 (a : ArmsD) : Bool := (a.o != 0) && brk a.t (tinF a.d a.p a.q)
def br2 (a : ArmsD) : Bool := (!groupNone a.c1 a.k1 a.a1 a.t1) && clashB a.t1 a.t
def br3 (a : ArmsD) : Bool := (!groupNone a.c2 a.k2 a.a2 a.t2) && brk a.t2 (tinF a.d a.p a.q)
def okR (a : ArmsD) : Bool := !(br1 a) && !(br2 a) && !(br3 a)
theorem class_any (x : Int) (w : World) : Calls Try.prog 69 #[.int .i64 x] w fun e w' => e = .returned (.int .i64 (clsI x)) ∧ w = w' := by
  unfold clsI
  by_cases h1 : x ≤ 2
  · rw [if_pos h1]
    go_enter Try.func69, Try.ntmps69
    go_wp2
    go_ret
    exact ⟨rfl, rfl⟩
  · rw [if_neg h1]
    by_cases h2 : x ≤ 7
    · rw [if_pos h2]
      go_enter Try.func69, Try.ntmps69
      go_wp2
      go_ret
      exact ⟨rfl, rfl⟩
    · rw [if_neg h2]
      go_enter Try.func69, Try.ntmps69
      go_wp2
      go_ret
      exact ⟨rfl, rfl⟩
theorem clash_any (x y : Int) (w : World) : Calls Try.prog 53 #[.int .i64 x, .int .i64 y] w fun e w' => e = .returned (.bool (clashB x y)) ∧ w = w' := by
  have K1 := Lib.hid (fun w => class_any x w)
  have K2 := Lib.hid (fun w => class_any y w)
  unfold clashB
  obtain ⟨p, hp⟩ : ∃ p, p = clsI x := ⟨_, rfl⟩
  obtain ⟨q, hq⟩ : ∃ q, q = clsI y := ⟨_, rfl⟩
  rw [← hp] at K1 ⊢
  rw [← hq] at K2 ⊢
  clear hp hq
  cases h1 : (x == y)
  · cases h2 : (p == q)
    · go_enter Try.func53, Try.ntmps53
      go_wp2_with (first | (go_at_call 69; first | ((with_reducible refine (K1.out _).mono ?_); rintro e w' ⟨rfl, rfl⟩) | ((with_reducible refine (K2.out _).mono ?_); rintro e w' ⟨rfl, rfl⟩)) | fail)
      go_ret
      exact ⟨rfl, rfl⟩
    · cases h3 : (p != 3)
      · go_enter Try.func53, Try.ntmps53
        go_wp2_with (first | (go_at_call 69; first | ((with_reducible refine (K1.out _).mono ?_); rintro e w' ⟨rfl, rfl⟩) | ((with_reducible refine (K2.out _).mono ?_); rintro e w' ⟨rfl, rfl⟩)) | fail)
        go_ret
        exact ⟨rfl, rfl⟩
      · go_enter Try.func53, Try.ntmps53
        go_wp2_with (first | (go_at_call 69; first | ((with_reducible refine (K1.out _).mono ?_); rintro e w' ⟨rfl, rfl⟩) | ((with_reducible refine (K2.out _).mono ?_); rintro e w' ⟨rfl, rfl⟩)) | fail)
        go_ret
        exact ⟨rfl, rfl⟩
  · go_enter Try.func53, Try.ntmps53
    go_wp2_with (first | (go_at_call 69; first | ((with_reducible refine (K1.out _).mono ?_); rintro e w' ⟨rfl, rfl⟩) | ((with_reducible refine (K2.out _).mono ?_); rintro e w' ⟨rfl, rfl⟩)) | fail)
    go_ret
    exact ⟨rfl, rfl⟩
theorem brk_no {x : Int} {zs : List Int} {k : Nat} {z : Int} (hz : zs[k]? = some z) (h : clashB x z = false) : brk x zs = false := by
  unfold brk
  rw [List.all_eq_false]
  exact ⟨z, List.mem_of_getElem? hz, by rw [h]; simp⟩
theorem brk_yes {x : Int} {zs : List Int} (h : ∀ j z, j < zs.length → zs[j]? = some z → clashB x z = true) : brk x zs = true := by
  unfold brk
  rw [List.all_eq_true]
  intro z hz
  obtain ⟨j, hj⟩ := List.getElem?_of_mem hz
  exact h j z (List.getElem?_eq_some_iff.1 hj).1 hj
theorem breaks_any (x : Int) (A : Option Addr) (c : Nat) (zs : List Int) (w : World) (h : RdI w A zs) (hl : zs.length ≤ 100) :
    Calls Try.prog 52 #[.int .i64 x, .slice A zs.length c] w fun e w' => e = .returned (.bool (brk x zs)) ∧ Below w.heap.size w w' := by
  go_enter Try.func52, Try.ntmps52
  go_wp2_with fail
  go_loopw [9] (fun i wr => ∃ k : Nat, k ≤ zs.length ∧ i = .int .i64 k ∧ (∀ j z, j < k → zs[j]? = some z → clashB x z = true) ∧ w = wr) (fun i _ => zs.length - (intOf i).toNat)
  case atStart => exact ⟨0, Nat.zero_le _, rfl, fun j z hj => by omega, rfl⟩
  case round =>
    obtain ⟨k, hk, rfl, hall, rfl⟩ := hrel
    have HA := Lib.hid hall
    clear hall
    by_cases hlt : k < zs.length
    · have i1 : (k : Int) < (zs.length : Int) := by omega
      have d1 : decide (k < zs.length) = true := by simpa using hlt
      obtain ⟨z, hz⟩ : ∃ z, zs[k]? = some z := ⟨_, List.getElem?_eq_getElem hlt⟩
      obtain ⟨b, off, rfl, hc, -⟩ := h.atv hz
      have HZ := Lib.hid hz
      have K := fun w => clash_any x z w
      clear hz
      cases hq : clashB x z
      · have HN := Lib.hid (brk_no HZ.out hq)
        rw [hq] at K
        have K' := Lib.hid K
        clear K hq
        go_wp2_with fail
        refine (K'.out _).mono ?_
        rintro e w1 ⟨rfl, rfl⟩
        go_wp2
        go_ret
        exact ⟨by rw [HN.out]; rfl, Below.refl _ _⟩
      · rw [hq] at K
        have K' := Lib.hid K
        have hn : ∀ j z, j < k + 1 → zs[j]? = some z → clashB x z = true := fun j z' hj hz' => by
          by_cases e : j = k
          · subst e
            rw [HZ.out] at hz'
            injection hz' with hz'
            subst hz'
            exact hq
          · exact HA.out j z' (by omega) hz'
        have HN := Lib.hid hn
        clear K hq hn
        go_wp2_with fail
        refine (K'.out _).mono ?_
        rintro e w1 ⟨rfl, rfl⟩
        go_wp2
        go_roundw
        case rel => exact ⟨k + 1, by omega, by go_num, HN.out, trivial⟩
        case measure => simp [intOf]; omega
    · obtain rfl : k = zs.length := by omega
      have d1 : decide (zs.length < zs.length) = false := by simp
      have HN := Lib.hid (brk_yes fun j z hj hz => HA.out j z hj hz)
      go_wp2
      go_ret
      exact ⟨by rw [HN.out]; rfl, Below.refl _ _⟩
theorem l2Class_any (x : Int) (w : World) : Calls Try.prog 65 #[.int .i64 x] w fun e w' => e = .returned (.int .i64 (clsI x)) ∧ w = w' := by
  unfold clsI
  by_cases h1 : x ≤ 2
  · rw [if_pos h1]
    go_enter Try.func65, Try.ntmps65
    go_wp2
    go_ret
    exact ⟨rfl, rfl⟩
  · rw [if_neg h1]
    by_cases h2 : x ≤ 7
    · rw [if_pos h2]
      go_enter Try.func65, Try.ntmps65
      go_wp2
      go_ret
      exact ⟨rfl, rfl⟩
    · rw [if_neg h2]
      go_enter Try.func65, Try.ntmps65
      go_wp2
      go_ret
      exact ⟨rfl, rfl⟩
theorem l2Clash_any (x y : Int) (w : World) : Calls Try.prog 47 #[.int .i64 x, .int .i64 y] w fun e w' => e = .returned (.bool (clashB x y)) ∧ w = w' := by
  have K1 := Lib.hid (fun w => l2Class_any x w)
  have K2 := Lib.hid (fun w => l2Class_any y w)
  unfold clashB
  obtain ⟨p, hp⟩ : ∃ p, p = clsI x := ⟨_, rfl⟩
  obtain ⟨q, hq⟩ : ∃ q, q = clsI y := ⟨_, rfl⟩
  rw [← hp] at K1 ⊢
  rw [← hq] at K2 ⊢
  clear hp hq
  cases h1 : (x == y)
  · cases h2 : (p == q)
    · go_enter Try.func47, Try.ntmps47
      go_wp2_with (first | (go_at_call 65; first | ((with_reducible refine (K1.out _).mono ?_); rintro e w' ⟨rfl, rfl⟩) | ((with_reducible refine (K2.out _).mono ?_); rintro e w' ⟨rfl, rfl⟩)) | fail)
      go_ret
      exact ⟨rfl, rfl⟩
    · cases h3 : (p != 3)
      · go_enter Try.func47, Try.ntmps47
        go_wp2_with (first | (go_at_call 65; first | ((with_reducible refine (K1.out _).mono ?_); rintro e w' ⟨rfl, rfl⟩) | ((with_reducible refine (K2.out _).mono ?_); rintro e w' ⟨rfl, rfl⟩)) | fail)
        go_ret
        exact ⟨rfl, rfl⟩
      · go_enter Try.func47, Try.ntmps47
        go_wp2_with (first | (go_at_call 65; first | ((with_reducible refine (K1.out _).mono ?_); rintro e w' ⟨rfl, rfl⟩) | ((with_reducible refine (K2.out _).mono ?_); rintro e w' ⟨rfl, rfl⟩)) | fail)
        go_ret
        exact ⟨rfl, rfl⟩
  · go_enter Try.func47, Try.ntmps47
    go_wp2_with (first | (go_at_call 65; first | ((with_reducible refine (K1.out _).mono ?_); rintro e w' ⟨rfl, rfl⟩) | ((with_reducible refine (K2.out _).mono ?_); rintro e w' ⟨rfl, rfl⟩)) | fail)
    go_ret
    exact ⟨rfl, rfl⟩
theorem box4 (d l p q : Int) (w : World) : (w.alloc (.cells #[.int .i64 d, .int .i64 l, .int .i64 p, .int .i64 q] 28)).rangeAt w.heap.size 0 [.int .i64 d, .int .i64 l, .int .i64 p, .int .i64 q] := fun j v hv => by
  rw [Nat.zero_add, cell_of (heap_hit _ _ _ rfl)]
  simpa using hv
theorem l8OnField_any (d l p q x : Int) (w : World) :
    Calls Try.prog 46 #[.agg #[.int .i64 d, .int .i64 l, .int .i64 p, .int .i64 q], .int .i64 x] w fun e w' => e = .returned (.bool (brk x (tinF d p q))) ∧ Below w.heap.size w w' := by
  have KT := Lib.hid (fun w => l3Tins_any d l p q w)
  have hlen := tinF_len d p q
  obtain ⟨zs, hzs⟩ : ∃ zs, zs = tinF d p q := ⟨_, rfl⟩
  rw [← hzs] at KT hlen ⊢
  have hX := box4 d l p q w
  clear hzs
  go_enter Try.func46, Try.ntmps46
  go_wp2_with (first | (refine ldFl rfl _ rfl w.heap.size 0 rfl _ _ _ _ hX ?_) | fail)
  refine (KT.out _).mono ?_
  rintro e w1 ⟨v, rfl, hO, hb1⟩
  have hT : Below w.heap.size w w1 := by (repeat (first | exact Below.refl _ _ | assumption | refine Below_al ?_ _ | refine Below.drew ?_ | refine Below_then ?_ (by assumption) | refine Below.setCell ?_ (by first | omega | (simp; done) | (simp; omega)) _))
  obtain ⟨A, c, rfl, hr⟩ := hO.form
  have HR := Lib.hid hr
  clear hO hr hb1 hX
  go_wp2_with fail
  go_loopw [6] (fun i wr => ∃ k : Nat, k ≤ zs.length ∧ i = .int .i64 k ∧ (∀ j z, j < k → zs[j]? = some z → clashB x z = true) ∧ w1 = wr) (fun i _ => zs.length - (intOf i).toNat)
  case atStart => exact ⟨0, Nat.zero_le _, rfl, fun j z hj => by omega, rfl⟩
  case round =>
    obtain ⟨k, hk, rfl, hall, rfl⟩ := hrel
    have HA := Lib.hid hall
    clear hall
    by_cases hlt : k < zs.length
    · have i1 : (k : Int) < (zs.length : Int) := by omega
      have d1 : decide (k < zs.length) = true := by simpa using hlt
      obtain ⟨z, hz⟩ : ∃ z, zs[k]? = some z := ⟨_, List.getElem?_eq_getElem hlt⟩
      obtain ⟨b, off, rfl, hc, -⟩ := HR.out.atv hz
      have HZ := Lib.hid hz
      have K := fun w => l2Clash_any x z w
      clear hz
      cases hq : clashB x z
      · have HN := Lib.hid (brk_no HZ.out hq)
        rw [hq] at K
        have K' := Lib.hid K
        clear K hq
        go_wp2_with fail
        refine (K'.out _).mono ?_
        rintro e w1 ⟨rfl, rfl⟩
        go_wp2
        go_ret
        exact ⟨by rw [HN.out]; rfl, hT⟩
      · rw [hq] at K
        have K' := Lib.hid K
        have hn : ∀ j z, j < k + 1 → zs[j]? = some z → clashB x z = true := fun j z' hj hz' => by
          by_cases e : j = k
          · subst e
            rw [HZ.out] at hz'
            injection hz' with hz'
            subst hz'
            exact hq
          · exact HA.out j z' (by omega) hz'
        have HN := Lib.hid hn
        clear K hq hn
        go_wp2_with fail
        refine (K'.out _).mono ?_
        rintro e w1 ⟨rfl, rfl⟩
        go_wp2
        go_roundw
        case rel => exact ⟨k + 1, by omega, by go_num, HN.out, trivial⟩
        case measure => simp [intOf]; omega
    · obtain rfl : k = zs.length := by omega
      have d1 : decide (zs.length < zs.length) = false := by simp
      have HN := Lib.hid (brk_yes fun j z hj hz => HA.out j z hj hz)
      go_wp2
      go_ret
      exact ⟨by rw [HN.out]; rfl, hT⟩
/-! ### choices -/
def ALLT : List Int := [1, 2, 3, 4, 5, 6, 7, 8, 9]
def chL (x : Int) : List Int := if x = 0 then [0] else ALLT
theorem chL_len (x : Int) : (chL x).length ≤ 9 := by unfold chL; split <;> decide
theorem choices_any (x : Int) (w : World) : Calls Try.prog 25 #[.int .i64 x] w (IntsIn w (chL x)) := by
  unfold chL
  by_cases h : x = 0
  · rw [if_pos h]
    have h1 : (x == 0) = true := by simpa using h
    clear h
    go_enter Try.func25, Try.ntmps25
    go_wp2
    go_ret
    exact ⟨_, rfl, OwnI.blk (zs := [0]) (heap_hit _ _ _ rfl) (Nat.le_refl _) (by simp [maxLen]), by (repeat (first | exact Below.refl _ _ | assumption | refine Below_al ?_ _ | refine Below.drew ?_ | refine Below_then ?_ (by assumption) | refine Below.setCell ?_ (by first | omega | (simp; done) | (simp; omega)) _))⟩
  · rw [if_neg h]
    have h1 : (x == 0) = false := by simpa using h
    clear h
    go_enter Try.func25, Try.ntmps25
    go_wp2
    go_ret
    exact ⟨_, rfl, OwnI.blk (zs := ALLT) (heap_hit _ _ _ rfl) (Nat.le_refl _) (by simp [maxLen, ALLT]), by (repeat (first | exact Below.refl _ _ | assumption | refine Below_al ?_ _ | refine Below.drew ?_ | refine Below_then ?_ (by assumption) | refine Below.setCell ?_ (by first | omega | (simp; done) | (simp; omega)) _))⟩
theorem l8Choices_any (b : Bool) (w : World) : Calls Try.prog 19 #[.bool b] w (IntsIn w (bif b then ALLT else [0])) := by
  cases b
  · go_enter Try.func19, Try.ntmps19
    go_wp2
    go_ret
    exact ⟨_, rfl, OwnI.blk (zs := [0]) (heap_hit _ _ _ rfl) (Nat.le_refl _) (by simp [maxLen]), by (repeat (first | exact Below.refl _ _ | assumption | refine Below_al ?_ _ | refine Below.drew ?_ | refine Below_then ?_ (by assumption) | refine Below.setCell ?_ (by first | omega | (simp; done) | (simp; omega)) _))⟩
  · go_enter Try.func19, Try.ntmps19
    go_wp2_with fail
    go_loopw [3, 4] (fun o x wr => ∃ (k : Nat) (v : Value), k ≤ 9 ∧ x = .int .i64 ((k : Int) + 1) ∧ o = v ∧ OwnI wr w.heap.size 3 v (ALLT.take k) ∧ Below w.heap.size w wr) (fun _ x _ => 10 - (intOf x).toNat)
    case atStart => exact ⟨0, _, by omega, rfl, rfl, OwnI.blk (zs := []) (heap_hit _ _ _ rfl) (Nat.le_refl _) (by simp [maxLen]), by (repeat (first | exact Below.refl _ _ | assumption | refine Below_al ?_ _ | refine Below.drew ?_ | refine Below_then ?_ (by assumption) | refine Below.setCell ?_ (by first | omega | (simp; done) | (simp; omega)) _))⟩
    case round =>
      obtain ⟨k, v, hk, rfl, hov, hO, hb⟩ := hrel
      replace hov := hov.symm
      subst hov
      by_cases hlt : k < 9
      · have i1 : (k : Int) + 1 ≤ 9 := by omega
        have HO := Lib.hid hO
        have hsz := hb.size
        have hn : ALLT.take (k + 1) = ALLT.take k ++ [(k : Int) + 1] := by
          have : ∀ k : Nat, k < 9 → ALLT.take (k + 1) = ALLT.take k ++ [(k : Int) + 1] := by decide
          exact this k hlt
        have HN := Lib.hid hn
        have hl : (ALLT.take k).length ≤ 9 := by rw [List.length_take]; exact Nat.le_trans (Nat.min_le_right _ _) (by decide)
        clear hO hn
        go_wp2_with (first | (at_builtin; refine wp_appI rfl _ _ rfl w.heap.size _ (ALLT.take k) rfl (HO.out.alloc _) _ _ rfl (cell_of (heap_hit _ _ _ rfl) 0) ?c1 ?c2 ?_; rotate_left 2; intro v' w9 hO9 hG9 hL9) | fail)
        try (case c1 => omega)
        try (case c2 => (simp; omega))
        have hT9 := (Below.alloc hb hsz (.cells #[.int .i64 ((k : Int) + 1)] 3)).trans hL9
        rw [← HN.out] at hO9
        clear hG9 hL9
        go_wp2
        go_roundw
        case rel => exact ⟨k + 1, _, by omega, by go_num, rfl, hO9, hT9⟩
        case measure => simp [intOf]; omega
      · obtain rfl : k = 9 := by omega
        have HO := Lib.hid hO
        clear hO
        go_wp2
        go_ret
        exact ⟨_, rfl, HO.out, hb⟩
end Go.Proofs.Ytjodoljgpdbimaa
