/- Contracts: slices.IndexFunc, slices.ContainsFunc over slices of arms; which lists of arms are valid. -/
import Derived.Test.YtjodoljgpdbimaaRArms
import Derived.Test.YtjodoljgpdbimaaDiff3
namespace Go.Proofs.Ytjodoljgpdbimaa
open Go.ChangeShapes Go.WideShapes Go.ChangeAt Go.RowKit
set_option linter.unusedVariables false

/-- The first of n for which p holds, or -1. -/
def firstI (p : Nat → Bool) (n : Nat) : Int := match (List.range n).find? p with | some i => i | none => -1
theorem firstI_yes {p : Nat → Bool} {n k : Nat} (hk : k < n) (hp : p k = true) (h : ∀ j, j < k → p j = false) : firstI p n = k := by
  have : (List.range n).find? p = some k := by
    rw [List.find?_range_eq_some]
    exact ⟨hp, by simpa using hk, fun j hj => by simp [h j hj]⟩
  simp [firstI, this]
theorem firstI_no {p : Nat → Bool} {n : Nat} (h : ∀ j, j < n → p j = false) : firstI p n = -1 := by
  have : (List.range n).find? p = none := by
    rw [List.find?_eq_none]
    intro x hx
    simp at hx
    simp [h x hx]
  simp [firstI, this]
def anyN (p : Nat → Bool) (n : Nat) : Bool := (List.range n).any p
theorem firstI_any (p : Nat → Bool) (n : Nat) : decide (0 ≤ firstI p n) = anyN p n := by
  unfold firstI anyN
  cases h : (List.range n).find? p with
  | none =>
    have := List.find?_eq_none.1 h
    have h2 : (List.range n).any p = false := by
      rw [List.any_eq_false]
      intro x hx
      exact this x hx
    simp [h2]
  | some i =>
    have h1 := List.find?_some h
    have h2 := List.mem_of_find?_eq_some h
    have h3 : (List.range n).any p = true := List.any_eq_true.2 ⟨i, h2, h1⟩
    simp [h3]
theorem anyN_all {α : Type} (rows : List α) (f : α → Bool) (p : Nat → Bool) (h : ∀ k a, rows[k]? = some a → p k = !f a) : anyN p rows.length = !rows.all f := by
  unfold anyN
  rw [Bool.eq_iff_iff]
  simp only [List.any_eq_true, List.mem_range, Bool.not_eq_true', List.all_eq_false]
  constructor
  · rintro ⟨i, hi, hp⟩
    have := h i _ (List.getElem?_eq_getElem hi)
    rw [hp] at this
    exact ⟨_, List.getElem_mem hi, by simpa using this.symm⟩
  · rintro ⟨a, ha, hf⟩
    obtain ⟨i, hi, rfl⟩ := List.getElem_of_mem ha
    refine ⟨i, hi, ?_⟩
    rw [h i _ (List.getElem?_eq_getElem hi)]
    simpa using hf
set_option maxHeartbeats 1000000 in
theorem idxA_any (cl : FuncId) (caps : Array Value) (A : Option Addr) (c : Nat) (rows : List ArmsD) (p : Nat → Bool) (w : World) (h : RdR 15 w A (acs rows)) (hl : rows.length ≤ 1048576)
    (hcf : ∀ args w, (callFunc cl args).run Try.prog w = .ok (.enter cl args) w)
    (hcl : ∀ (k : Nat) (a : ArmsD) (w' : World), rows[k]? = some a → Below w.heap.size w w' → Calls Try.prog cl (#[.agg (ac a).toArray] ++ caps) w' fun e w'' => e = .returned (.bool (p k)) ∧ Below w'.heap.size w' w'') :
    Calls Try.prog 71 #[.slice A rows.length c, .func (.func cl) #[] caps] w fun e w' => e = .returned (.int .i64 (firstI p rows.length)) ∧ Below w.heap.size w w' := by
  have HC := Lib.hid hcl
  clear hcl
  go_enter Try.func71, Try.ntmps71
  go_wp2_with fail
  go_loopw [8] (fun i wr => ∃ k : Nat, k ≤ rows.length ∧ i = .int .i64 k ∧ (∀ j, j < k → p j = false) ∧ Below w.heap.size w wr) (fun i _ => rows.length - (intOf i).toNat)
  case atStart => exact ⟨0, Nat.zero_le _, rfl, fun j hj => absurd hj (by omega), Below.refl _ _⟩
  case round =>
    obtain ⟨k, hk, rfl, hall, hb⟩ := hrel
    have HALL := Lib.hid hall
    clear hall
    by_cases hlt : k < rows.length
    · obtain ⟨a, ha⟩ := arms_at hlt
      obtain ⟨b, off, rfl, hr, -⟩ := (h.below hb).arms ha
      have i1 : (k : Int) < (rows.length : Int) := by omega
      have d1 : decide (k < rows.length) = true := by simpa using hlt
      have K := fun w' hw => HC.out k a w' ha hw
      have HA := Lib.hid ha
      obtain ⟨q, hq⟩ : ∃ q, q = p k := ⟨_, rfl⟩
      rw [← hq] at K
      have HQ := Lib.hid hq
      have K' := Lib.hid K
      clear K ha hq
      cases q
      · go_wp2_with (refine wpList_load_mid rfl _ _ rfl b _ rfl (ac a) _ hr Try.underlying31 rfl (info_ac a) ?_)
        refine (K'.out _ hb).mono ?_
        rintro e w2 ⟨rfl, hb2⟩
        have hb3 := Below_then hb hb2
        clear hb2
        go_wp2
        go_roundw
        case rel =>
          refine ⟨k + 1, by omega, by go_num, fun j hj => ?_, hb3⟩
          by_cases e : j = k
          · subst e
            exact HQ.out.symm
          · exact HALL.out j (by omega)
        case measure => simp [intOf]; omega
      · go_wp2_with (first | (refine wpList_load_mid rfl _ _ rfl b _ rfl (ac a) _ hr Try.underlying31 rfl (info_ac a) ?_))
        refine (K'.out _ hb).mono ?_
        rintro e w2 ⟨rfl, hb2⟩
        have hb3 := Below_then hb hb2
        clear hb2
        go_wp2
        go_ret
        exact ⟨retI (firstI_yes hlt HQ.out.symm HALL.out).symm, hb3⟩
    · obtain rfl : k = rows.length := by omega
      have d1 : decide (rows.length < rows.length) = false := by simp
      go_wp2
      go_ret
      exact ⟨retI (firstI_no HALL.out).symm, hb⟩
theorem hasA_any (cl : FuncId) (caps : Array Value) (A : Option Addr) (c : Nat) (rows : List ArmsD) (p : Nat → Bool) (w : World) (h : RdR 15 w A (acs rows)) (hl : rows.length ≤ 1048576)
    (hcf : ∀ args w, (callFunc cl args).run Try.prog w = .ok (.enter cl args) w)
    (hcl : ∀ (k : Nat) (a : ArmsD) (w' : World), rows[k]? = some a → Below w.heap.size w w' → Calls Try.prog cl (#[.agg (ac a).toArray] ++ caps) w' fun e w'' => e = .returned (.bool (p k)) ∧ Below w'.heap.size w' w'') :
    Calls Try.prog 56 #[.slice A rows.length c, .func (.func cl) #[] caps] w fun e w' => e = .returned (.bool (anyN p rows.length)) ∧ Below w.heap.size w w' := by
  have K := idxA_any cl caps A c rows p w h hl hcf hcl
  have e := firstI_any p rows.length
  generalize firstI p rows.length = z at *
  rw [← e]
  have K' := Lib.hid K
  clear K hcl hcf h e
  go_enter Try.func56, Try.ntmps56
  go_wp2_with fail
  refine (K'.out).mono ?_
  rintro e w2 ⟨rfl, hb2⟩
  go_wp2
  go_ret
  exact ⟨rfl, hb2⟩
def listOk (m : Nat) (rows : List ArmsD) : Bool := decide (rows.length ≤ m) && rows.all armsOk
theorem listOk_le {m : Nat} {rows : List ArmsD} (h : listOk m rows = true) : rows.length ≤ m := by
  simp [listOk] at h
  exact h.1
theorem listOk_at {m : Nat} {rows : List ArmsD} (h : listOk m rows = true) {k : Nat} {a : ArmsD} (hk : rows[k]? = some a) : armsOk a = true := by
  simp [listOk] at h
  exact h.2 a (List.mem_of_getElem? hk)
theorem listOk_at' {m : Nat} {rows : List ArmsD} (h : listOk m rows = true) {k : Nat} (hk : k < rows.length) : armsOk rows[k] = true := listOk_at h (List.getElem?_eq_getElem hk)
theorem IsValidArmsC (a : ArmsD) (w : World) : Calls Try.prog 24 #[.agg (ac a).toArray] w fun e w' => e = .returned (.bool (armsOk a)) ∧ Below w.heap.size w w' := IsValidArms_any a w
theorem l5GoodC (a : ArmsD) (w : World) : Calls Try.prog 18 #[.agg (ac a).toArray] w fun e w' => e = .returned (.bool (armsOk a)) ∧ Below w.heap.size w w' := l5Good_any a w
theorem cf_areArms (args : Array Value) (w : World) : (callFunc 57 args).run Try.prog w = .ok (.enter 57 args) w := by kernel_rfl
theorem areArms_cl (a : ArmsD) (w : World) : Calls Try.prog 57 #[.agg (ac a).toArray] w fun e w' => e = .returned (.bool (!armsOk a)) ∧ Below w.heap.size w w' := by
  have K := fun w => IsValidArmsC a w
  generalize armsOk a = x at *
  have K' := Lib.hid K
  clear K
  go_enter Try.func57, Try.ntmps57
  go_wp2_with (first | (refine wpList_load_row rfl _ _ rfl w.heap.size rfl 31 (ac a).toArray (0, 0) _ (heap_hit _ _ _ rfl) Try.underlying31 rfl (info_ac a) ?_) | fail)
  refine (K'.out _).mono ?_
  rintro e w1 ⟨rfl, hb1⟩
  go_wp2
  go_ret
  exact ⟨rfl, by (repeat (first | exact Below.refl _ _ | assumption | refine Below_al ?_ _ | refine Below.drew ?_ | refine Below_then ?_ (by assumption) | refine Below.setCell ?_ (by first | omega | (simp; done) | (simp; omega)) _))⟩
theorem areArms_any (A : Option Addr) (c m : Nat) (rows : List ArmsD) (w : World) (h : RdR 15 w A (acs rows)) (hl : rows.length ≤ 1048576) (hm : m ≤ 1048576) :
    Calls Try.prog 35 #[.slice A rows.length c, .int .i64 m] w fun e w' => e = .returned (.bool (listOk m rows)) ∧ Below w.heap.size w w' := by
  have K := fun (w' : World) (hb : Below w.heap.size w w') => hasA_any 57 #[] A c rows (fun k => match rows[k]? with | some a => !armsOk a | none => false) w' (h.below hb) hl cf_areArms fun k a w' hk _ => by rw [hk]; exact areArms_cl a w'
  have e := anyN_all rows armsOk (fun k => match rows[k]? with | some a => !armsOk a | none => false) fun k a hk => by rw [hk]
  rw [e] at K
  have el : listOk m rows = (decide ((rows.length : Int) ≤ (m : Int)) && rows.all armsOk) := by simp [listOk]
  rw [el]
  generalize rows.all armsOk = x at *
  have K' := Lib.hid K
  clear K e el h
  by_cases h1 : (rows.length : Int) ≤ (m : Int)
  all_goals
    go_enter Try.func35, Try.ntmps35
    go_wp2_with (first | (go_at_call 56; refine (K'.out _ (by (repeat (first | exact Below.refl _ _ | assumption | refine Below_al ?_ _ | refine Below.drew ?_ | refine Below_then ?_ (by assumption) | refine Below.setCell ?_ (by first | omega | (simp; done) | (simp; omega)) _)))).mono ?_; rintro e w1 ⟨rfl, hb1⟩) | fail)
    go_ret
    exact ⟨by first | (simp [*]; done) | (simp [*]; omega), by (repeat (first | exact Below.refl _ _ | assumption | refine Below_al ?_ _ | refine Below.drew ?_ | refine Below_then ?_ (by assumption) | refine Below.setCell ?_ (by first | omega | (simp; done) | (simp; omega)) _))⟩
set_option maxHeartbeats 1000000 in
theorem l15List_any (A : Option Addr) (c : Nat) (rows : List ArmsD) (w : World) (h : RdR 15 w A (acs rows)) (hl : rows.length ≤ 1048576) :
    Calls Try.prog 30 #[.slice A rows.length c] w fun e w' => e = .returned (.bool (listOk 16 rows)) ∧ Below w.heap.size w w' := by
  go_enter Try.func30, Try.ntmps30
  go_wp2_with fail
  go_loopw [3] (fun i wr => ∃ k : Nat, k ≤ rows.length ∧ k ≤ 17 ∧ i = .int .i64 k ∧ (∀ j a, j < k → rows[j]? = some a → armsOk a = true) ∧ Below w.heap.size w wr) (fun i _ => rows.length - (intOf i).toNat)
  case atStart => exact ⟨0, Nat.zero_le _, by omega, rfl, fun j a hj => absurd hj (by omega), Below.refl _ _⟩
  case round =>
    obtain ⟨k, hk, hk17, rfl, hall, hb⟩ := hrel
    have HALL := Lib.hid hall
    clear hall
    have fin : ¬ (k < rows.length ∧ k ≤ 16) → listOk 16 rows = decide ((rows.length : Int) ≤ 16) := by
      intro hn
      by_cases hlen : rows.length ≤ 16
      · have hall : rows.all armsOk = true := by
          rw [List.all_eq_true]
          intro a ha
          obtain ⟨j, hj, rfl⟩ := List.getElem_of_mem ha
          exact HALL.out j _ (by omega) (List.getElem?_eq_getElem hj)
        have : (rows.length : Int) ≤ 16 := by omega
        simp [listOk, hlen, hall, this]
      · have : ¬ (rows.length : Int) ≤ 16 := by omega
        simp [listOk, hlen, this]
    have FIN := Lib.hid fin
    clear fin
    by_cases hlt : k < rows.length
    · by_cases h16 : k ≤ 16
      · obtain ⟨a, ha⟩ := arms_at hlt
        obtain ⟨b, off, rfl, hr, -⟩ := (h.below hb).arms ha
        have i1 : (k : Int) < (rows.length : Int) := by omega
        have i2 : (k : Int) ≤ 16 := by omega
        have K := fun w => l5GoodC a w
        have HA := Lib.hid ha
        clear ha
        cases q : armsOk a
        · rw [q] at K
          have K' := Lib.hid K
          have Q := Lib.hid q
          clear K q
          go_wp2_with (first | (refine wpList_load_mid rfl _ _ rfl b _ rfl (ac a) _ hr Try.underlying31 rfl (info_ac a) ?_))
          refine (K'.out _).mono ?_
          rintro e w2 ⟨rfl, hb2⟩
          go_wp2
          go_ret
          refine ⟨retB ?_, Below_then hb hb2⟩
          symm
          simp only [listOk, Bool.and_eq_false_iff, List.all_eq_false]
          exact .inr ⟨a, List.mem_of_getElem? HA.out, by rw [Q.out]; simp⟩
        · rw [q] at K
          have K' := Lib.hid K
          have Q := Lib.hid q
          clear K q
          go_wp2_with (first | (refine wpList_load_mid rfl _ _ rfl b _ rfl (ac a) _ hr Try.underlying31 rfl (info_ac a) ?_))
          refine (K'.out _).mono ?_
          rintro e w2 ⟨rfl, hb2⟩
          have hb3 := Below_then hb hb2
          clear hb2
          go_wp2
          go_roundw
          case rel =>
            refine ⟨k + 1, by omega, by omega, by go_num, fun j a' hj ha' => ?_, hb3⟩
            by_cases e : j = k
            · subst e
              rw [HA.out] at ha'
              injection ha' with ha'
              subst ha'
              exact Q.out
            · exact HALL.out j a' (by omega) ha'
          case measure => simp [intOf]; omega
      · have i1 : (k : Int) < (rows.length : Int) := by omega
        have i2 : ¬ (k : Int) ≤ 16 := by omega
        go_wp2
        go_ret
        exact ⟨retB (FIN.out (by omega)).symm, hb⟩
    · have i1 : ¬ (k : Int) < (rows.length : Int) := by omega
      go_wp2
      go_ret
      exact ⟨retB (FIN.out (by omega)).symm, hb⟩
end Go.Proofs.Ytjodoljgpdbimaa
