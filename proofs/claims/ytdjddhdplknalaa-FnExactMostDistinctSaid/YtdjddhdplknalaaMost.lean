/- Contracts: MostDistinct, both sides. -/
import Derived.Test.YtdjddhdplknalaaFree
import Derived.Test.YtdjddhdplknalaaDist
namespace Go.Proofs.Ytdjddhdplknalaa
open Go.ChangeShapes Go.WideShapes Go.ChangeAt Go.RowKit
set_option linter.unusedVariables false
set_option linter.unusedSimpArgs false
def natI (l : List Nat) : List Int := l.map fun (k : Nat) => (k : Int)
theorem natI_len (l : List Nat) : (natI l).length = l.length := by simp [natI]
theorem natI_app (a b : List Nat) : natI (a ++ b) = natI a ++ natI b := by simp [natI]
theorem natI_at {l : List Nat} {k : Nat} (h : k < l.length) : (natI l)[k]'(by rw [natI_len]; exact h) = (l[k] : Int) := by simp [natI]
/-- Two of a list conflict. -/
def cfR (rows : List ArmsD) (k i : Nat) : Bool := match rows[k]?, rows[i]? with | some a, some b => confl a b | _, _ => false
theorem cfR_at {rows : List ArmsD} {k i : Nat} {a b : ArmsD} (ha : rows[k]? = some a) (hb : rows[i]? = some b) : cfR rows k i = confl a b := by simp [cfR, ha, hb]
def mdL (rows : List ArmsD) : List Int := bif listOk 10 rows then natI (dstL (cfR rows) rows.length [] 0 []) else []
theorem mdL_best (rows : List ArmsD) (h : listOk 10 rows = true) : mdL rows = natI (bestI (cfR rows) rows.length (2 ^ rows.length)) := by
  unfold mdL
  rw [h, bestI_dst]
  rfl
set_option maxHeartbeats 1000000 in
theorem idxI_any (cl : FuncId) (caps : Array Value) (A : Option Addr) (c : Nat) (zs : List Int) (p : Nat → Bool) (w : World) (h : RdI w A zs) (hl : zs.length ≤ 1048576)
    (hcf : ∀ args w, (callFunc cl args).run Try.prog w = .ok (.enter cl args) w)
    (hcl : ∀ (k : Nat) (a : Int) (w' : World), zs[k]? = some a → Below w.heap.size w w' → Calls Try.prog cl (#[.int .i64 a] ++ caps) w' fun e w'' => e = .returned (.bool (p k)) ∧ Below w'.heap.size w' w'') :
    Calls Try.prog 66 #[.slice A zs.length c, .func (.func cl) #[] caps] w fun e w' => e = .returned (.int .i64 (firstI p zs.length)) ∧ Below w.heap.size w w' := by
  have HC := Lib.hid hcl
  clear hcl
  go_enter Try.func66, Try.ntmps66
  go_wp2_with fail
  go_loopw [8] (fun i wr => ∃ k : Nat, k ≤ zs.length ∧ i = .int .i64 k ∧ (∀ j, j < k → p j = false) ∧ Below w.heap.size w wr) (fun i _ => zs.length - (intOf i).toNat)
  case atStart => exact ⟨0, Nat.zero_le _, rfl, fun j hj => absurd hj (by omega), Below.refl _ _⟩
  case round =>
    obtain ⟨k, hk, rfl, hall, hb⟩ := hrel
    have HALL := Lib.hid hall
    clear hall
    by_cases hlt : k < zs.length
    · obtain ⟨b, off, rfl, c1, -⟩ := (h.below hb).at_ hlt
      have i1 : (k : Int) < (zs.length : Int) := by omega
      have d1 : decide (k < zs.length) = true := by simpa using hlt
      obtain ⟨z, hz⟩ : ∃ z, z = zs[k] := ⟨_, rfl⟩
      rw [← hz] at c1
      have K := fun w' hw => HC.out k z w' (by rw [hz]; exact List.getElem?_eq_getElem hlt) hw
      obtain ⟨q, hq⟩ : ∃ q, q = p k := ⟨_, rfl⟩
      rw [← hq] at K
      have HQ := Lib.hid hq
      have K' := Lib.hid K
      clear K hz hq
      cases q
      · go_wp2_with fail
        refine (K'.out _ hb).mono ?_
        rintro e w2 ⟨rfl, hb2⟩
        have hb3 := Below_then hb hb2
        clear hb2
        go_wp2
        go_roundw
        case rel =>
          refine ⟨k + 1, by omega, by go_num, fun j hj => ?_, hb3⟩
          by_cases e : j = k
          · subst e
            exact HQ.out.symm
          · exact HALL.out j (by omega)
        case measure => simp [intOf]; omega
      · go_wp2_with fail
        refine (K'.out _ hb).mono ?_
        rintro e w2 ⟨rfl, hb2⟩
        have hb3 := Below_then hb hb2
        clear hb2
        go_wp2
        go_ret
        exact ⟨retI (firstI_yes hlt HQ.out.symm HALL.out).symm, hb3⟩
    · obtain rfl : k = zs.length := by omega
      have d1 : decide (zs.length < zs.length) = false := by simp
      go_wp2
      go_ret
      exact ⟨retI (firstI_no HALL.out).symm, hb⟩
theorem hasI_any (cl : FuncId) (caps : Array Value) (A : Option Addr) (c : Nat) (zs : List Int) (p : Nat → Bool) (w : World) (h : RdI w A zs) (hl : zs.length ≤ 1048576)
    (hcf : ∀ args w, (callFunc cl args).run Try.prog w = .ok (.enter cl args) w)
    (hcl : ∀ (k : Nat) (a : Int) (w' : World), zs[k]? = some a → Below w.heap.size w w' → Calls Try.prog cl (#[.int .i64 a] ++ caps) w' fun e w'' => e = .returned (.bool (p k)) ∧ Below w'.heap.size w' w'') :
    Calls Try.prog 39 #[.slice A zs.length c, .func (.func cl) #[] caps] w fun e w' => e = .returned (.bool (anyN p zs.length)) ∧ Below w.heap.size w w' := by
  have K := idxI_any cl caps A c zs p w h hl hcf hcl
  have e := firstI_any p zs.length
  generalize firstI p zs.length = z at *
  rw [← e]
  have K' := Lib.hid K
  clear K hcl hcf h e
  go_enter Try.func39, Try.ntmps39
  go_wp2_with fail
  refine (K'.out).mono ?_
  rintro e w2 ⟨rfl, hb2⟩
  go_wp2
  go_ret
  exact ⟨rfl, hb2⟩
theorem isNaN_any (x : Int) (w : World) : Calls Try.prog 83 #[.int .i64 x] w fun e w' => e = .returned (.bool false) ∧ w' = w := by
  have hx : (x != x) = false := by simp
  go_enter Try.func83, Try.ntmps83
  go_wp2
  go_ret
  exact ⟨by first | rfl | simp, rfl⟩
def cmpI (x y : Int) : Int := if x < y then -1 else if y < x then 1 else 0
theorem cmp_any (x y : Int) (w : World) : Calls Try.prog 67 #[.int .i64 x, .int .i64 y] w fun e w' => e = .returned (.int .i64 (cmpI x y)) ∧ w' = w := by
  unfold cmpI
  by_cases h1 : x < y
  · rw [if_pos h1]
    go_enter Try.func67, Try.ntmps67
    go_wp2_with (go_at_call 83; refine (isNaN_any _ _).mono ?_; rintro e wq ⟨rfl, rfl⟩)
    go_ret
    exact ⟨rfl, rfl⟩
  · rw [if_neg h1]
    by_cases h2 : y < x
    · rw [if_pos h2]
      go_enter Try.func67, Try.ntmps67
      go_wp2_with (go_at_call 83; refine (isNaN_any _ _).mono ?_; rintro e wq ⟨rfl, rfl⟩)
      go_ret
      exact ⟨rfl, rfl⟩
    · rw [if_neg h2]
      go_enter Try.func67, Try.ntmps67
      go_wp2_with (go_at_call 83; refine (isNaN_any _ _).mono ?_; rintro e wq ⟨rfl, rfl⟩)
      go_ret
      exact ⟨rfl, rfl⟩
theorem lexLt_drop {a b : List Nat} {k : Nat} (h : ∀ j : Nat, j < k → a[j]? = b[j]?) (ha : k ≤ a.length) (hb : k ≤ b.length) : lexLt a b = lexLt (a.drop k) (b.drop k) := by
  induction k generalizing a b with
  | zero => rfl
  | succ k ih =>
    match a, b, ha, hb with
    | x :: a, y :: b, ha, hb =>
      have h0 := h 0 (by omega)
      simp at h0
      subst h0
      rw [List.drop_succ_cons, List.drop_succ_cons, ← ih (fun j hj => by simpa using h (j + 1) (by omega)) (by simpa using ha) (by simpa using hb)]
      simp [lexLt]
set_option maxHeartbeats 1000000 in
theorem compare_any (A A' : Option Addr) (c c' : Nat) (xs ys : List Nat) (w : World) (h : RdI w A (natI xs)) (h' : RdI w A' (natI ys)) (hl : xs.length = ys.length) (hx : xs.length ≤ 1048576) :
    Calls Try.prog 42 #[.slice A (natI xs).length c, .slice A' (natI ys).length c'] w fun e w' => (∃ z : Int, e = .returned (.int .i64 z) ∧ decide (z < 0) = lexLt xs ys) ∧ w' = w := by
  have HL := Lib.hid hl
  rw [natI_len, natI_len, ← hl]
  clear hl
  go_enter Try.func42, Try.ntmps42
  go_wp2_with fail
  go_loopw [11] (fun i wr => ∃ k : Nat, k ≤ xs.length ∧ i = .int .i64 k ∧ (∀ j : Nat, j < k → xs[j]? = ys[j]?) ∧ w = wr) (fun i _ => xs.length - (intOf i).toNat)
  case atStart => exact ⟨0, Nat.zero_le _, rfl, fun j hj => absurd hj (by omega), rfl⟩
  case round =>
    obtain ⟨k, hk, rfl, hall, rfl⟩ := hrel
    have HALL := Lib.hid hall
    clear hall
    by_cases hlt : k < xs.length
    · have hlt2 : k < ys.length := by rw [← HL.out]; exact hlt
      obtain ⟨b, off, rfl, c1, -⟩ := h.at_ (k := k) (by rw [natI_len]; exact hlt)
      obtain ⟨b2, off2, rfl, c2, -⟩ := h'.at_ (k := k) (by rw [natI_len]; exact hlt2)
      rw [natI_at hlt] at c1
      rw [natI_at hlt2] at c2
      have i1 : (k : Int) < (xs.length : Int) := by omega
      have d1 : decide (k < xs.length) = true := by simpa using hlt
      obtain ⟨x, hxe⟩ : ∃ x, x = xs[k] := ⟨_, rfl⟩
      obtain ⟨y, hye⟩ : ∃ y, y = ys[k] := ⟨_, rfl⟩
      rw [← hxe] at c1
      rw [← hye] at c2
      have hd : lexLt xs ys = lexLt (xs.drop k) (ys.drop k) := lexLt_drop HALL.out (by omega) (by omega)
      rw [List.drop_eq_getElem_cons hlt, List.drop_eq_getElem_cons hlt2, ← hxe, ← hye, lexLt] at hd
      have HD := Lib.hid hd
      have HX := Lib.hid hxe
      have HY := Lib.hid hye
      have hcm : cmpI x y = if (x : Int) < y then -1 else if (y : Int) < x then 1 else 0 := rfl
      have KC := cmp_any (x : Int) (y : Int) w
      clear hd hxe hye
      rcases Nat.lt_trichotomy x y with q | q | q
      · have e1 : cmpI x y = -1 := by rw [hcm, if_pos (by omega)]
        rw [e1] at KC
        have KC := Lib.hid KC
        clear e1 hcm
        go_wp2_with fail
        refine KC.out.mono ?_
        rintro e wq ⟨rfl, rfl⟩
        go_wp2
        go_ret
        exact ⟨⟨-1, rfl, by rw [HD.out]; simp [q]⟩, rfl⟩
      · subst q
        have e1 : cmpI (x : Int) x = 0 := by rw [hcm, if_neg (by omega), if_neg (by omega)]
        rw [e1] at KC
        have KC := Lib.hid KC
        clear e1 hcm
        go_wp2_with fail
        refine KC.out.mono ?_
        rintro e wq ⟨rfl, rfl⟩
        go_wp2
        go_roundw
        case rel =>
          refine ⟨k + 1, by omega, by go_num, fun j hj => ?_, by first | trivial | rfl⟩
          by_cases e : j = k
          · subst e
            rw [List.getElem?_eq_getElem hlt, List.getElem?_eq_getElem hlt2, ← HX.out, ← HY.out]
          · exact HALL.out j (by omega)
        case measure => simp [intOf]; omega
      · have e1 : cmpI x y = 1 := by rw [hcm, if_neg (by omega), if_pos (by omega)]
        rw [e1] at KC
        have KC := Lib.hid KC
        clear e1 hcm
        go_wp2_with fail
        refine KC.out.mono ?_
        rintro e wq ⟨rfl, rfl⟩
        go_wp2
        go_ret
        exact ⟨⟨1, rfl, by rw [HD.out]; have h1 : ¬ x < y := by omega
                           have h2 : ¬ x = y := by omega
                           simp [h1, h2]⟩, rfl⟩
    · obtain rfl : k = xs.length := by omega
      have d1 : decide (xs.length < xs.length) = false := by simp
      have hd : lexLt xs ys = false := by
        have := lexLt_drop HALL.out (Nat.le_refl _) (by rw [HL.out]; exact Nat.le_refl _)
        rw [this, List.drop_length, HL.out, List.drop_length]
        rfl
      have HD := Lib.hid hd
      clear hd
      go_wp2
      go_ret
      exact ⟨⟨0, rfl, by rw [HD.out]; rfl⟩, rfl⟩
theorem cf_most (args : Array Value) (w : World) : (callFunc 40 args).run Try.prog w = .ok (.enter 40 args) w := by kernel_rfl
set_option maxHeartbeats 2000000 in
theorem most_cl (b off c : Nat) (rows : List ArmsD) (k i D E : Nat) (x y : ArmsD) (w : World) (gx : armsOk x = true) (gy : armsOk y = true) (hk : k < rows.length) (hi : i < rows.length) (hD : w.cell? ⟨D, 0, none⟩ = some (.slice (some ⟨b, off, none⟩) rows.length c)) (hE : w.cell? ⟨E, 0, none⟩ = some (.int .i64 (i : Int)))
    (hx : w.rangeAt b (off + k * 15) (ac x)) (hy : w.rangeAt b (off + i * 15) (ac y)) :
    Calls Try.prog 40 #[.int .i64 (k : Int), .pointer (some ⟨D, 0, none⟩), .pointer (some ⟨E, 0, none⟩)] w fun e w' => e = .returned (.bool (confl x y)) ∧ Below w.heap.size w w' := by
  have K := fun w => conflictC x y w gx gy
  generalize confl x y = q at *
  have K' := Lib.hid K
  have i1 : (k : Int) < (rows.length : Int) := by omega
  have i2 : (i : Int) < (rows.length : Int) := by omega
  clear K gx gy
  go_enter Try.func40, Try.ntmps40
  go_wp2_with fail
  refine wp_region_noPanic ?_
  refine wp_region_held_drew (S := (fun w' => w'.cell? ⟨D, 0, none⟩ = some (.slice (some ⟨b, off, none⟩) rows.length c : Value) ∧ w'.cell? ⟨E, 0, none⟩ = some (.int .i64 (i : Int) : Value) ∧ w'.rangeAt b (off + k * 15) (ac x) ∧ w'.rangeAt b (off + i * 15) (ac y) ∧ Below w.heap.size w w')) (by kernel_rfl) ⟨hD, hE, hx, hy, (Below.refl _ _).drew⟩ (fun hHeld => ?_)
  refine wpAnyH_take (i := 0) (oi := _) (v := ?_) rfl (by kernel_rfl) (by kernel_rfl) (by kernel_rfl) (fun _ _ _ h => h) (Or.inl ⟨by rfl, ?_⟩) (by assumption) ?_
  rotate_left
  · intro w hSw; (try dsimp only at hSw); first | (go_simp; done) | (go_simp; with_reducible rfl)
  simp only [Act.put, List.getElem_toArray, List.getElem_cons_succ, List.getElem_cons_zero, List.setIfInBounds_toArray, List.set_cons_zero, List.set_cons_succ]
  refine wpAnyH_take (i := 1) (oi := _) (v := ?_) rfl (by kernel_rfl) (by kernel_rfl) (by kernel_rfl) (fun _ _ _ h => h) (Or.inl ⟨by rfl, ?_⟩) (by assumption) ?_
  rotate_left
  · intro w hSw; clear hSw; first | (go_simp; done) | (go_simp; with_reducible rfl)
  simp only [Act.put, List.getElem_toArray, List.getElem_cons_succ, List.getElem_cons_zero, List.setIfInBounds_toArray, List.set_cons_zero, List.set_cons_succ]
  refine wpAnyH_take (i := 2) (oi := _) (v := ?_) rfl (by kernel_rfl) (by kernel_rfl) (by kernel_rfl) (fun _ _ _ h => h) (Or.inl ⟨by rfl, ?_⟩) (by assumption) ?_
  rotate_left
  · intro w hSw; clear hSw; first | (go_simp; done) | (go_simp; with_reducible rfl)
  simp only [Act.put, List.getElem_toArray, List.getElem_cons_succ, List.getElem_cons_zero, List.setIfInBounds_toArray, List.set_cons_zero, List.set_cons_succ]
  refine wpAnyH_take (i := 3) (oi := _) (v := _) rfl ?g1_1 ?g2_1 ?g3_1 (fun _ _ _ h => h) (yieldsIf_load_mid ?g4_1 _ _ rfl b ?oo_1 ?g5_1 (ac x) _ ?g6_1 Try.underlying31 rfl (info_ac x)) ?g7_1 ?_
  case g5_1 => rfl
  case g1_1 => kernel_rfl
  case g2_1 => kernel_rfl
  case g3_1 => kernel_rfl
  case g6_1 => exact (fun _ h => h.2.2.1)
  case g4_1 => kernel_rfl
  case g7_1 => assumption
  simp only [Act.put, List.getElem_toArray, List.getElem_cons_succ, List.getElem_cons_zero, List.setIfInBounds_toArray, List.set_cons_zero, List.set_cons_succ]
  refine wpAnyH_take (i := 4) (oi := _) (v := ?_) rfl (by kernel_rfl) (by kernel_rfl) (by kernel_rfl) (fun _ _ _ h => h) (Or.inl ⟨by rfl, ?_⟩) (by assumption) ?_
  rotate_left
  · intro w hSw; (try dsimp only at hSw); first | (go_simp; done) | (go_simp; with_reducible rfl)
  simp only [Act.put, List.getElem_toArray, List.getElem_cons_succ, List.getElem_cons_zero, List.setIfInBounds_toArray, List.set_cons_zero, List.set_cons_succ]
  refine wpAnyH_take (i := 5) (oi := _) (v := ?_) rfl (by kernel_rfl) (by kernel_rfl) (by kernel_rfl) (fun _ _ _ h => h) (Or.inl ⟨by rfl, ?_⟩) (by assumption) ?_
  rotate_left
  · intro w hSw; (try dsimp only at hSw); first | (go_simp; done) | (go_simp; with_reducible rfl)
  simp only [Act.put, List.getElem_toArray, List.getElem_cons_succ, List.getElem_cons_zero, List.setIfInBounds_toArray, List.set_cons_zero, List.set_cons_succ]
  refine wpAnyH_take (i := 6) (oi := _) (v := ?_) rfl (by kernel_rfl) (by kernel_rfl) (by kernel_rfl) (fun _ _ _ h => h) (Or.inl ⟨by rfl, ?_⟩) (by assumption) ?_
  rotate_left
  · intro w hSw; clear hSw; first | (go_simp; done) | (go_simp; with_reducible rfl)
  simp only [Act.put, List.getElem_toArray, List.getElem_cons_succ, List.getElem_cons_zero, List.setIfInBounds_toArray, List.set_cons_zero, List.set_cons_succ]
  refine wpAnyH_take (i := 7) (oi := _) (v := _) rfl ?g1_2 ?g2_2 ?g3_2 (fun _ _ _ h => h) (yieldsIf_load_mid ?g4_2 _ _ rfl b ?oo_2 ?g5_2 (ac y) _ ?g6_2 Try.underlying31 rfl (info_ac y)) ?g7_2 ?_
  case g5_2 => rfl
  case g1_2 => kernel_rfl
  case g2_2 => kernel_rfl
  case g3_2 => kernel_rfl
  case g6_2 => exact (fun _ h => h.2.2.2.1)
  case g4_2 => kernel_rfl
  case g7_2 => assumption
  simp only [Act.put, List.getElem_toArray, List.getElem_cons_succ, List.getElem_cons_zero, List.setIfInBounds_toArray, List.set_cons_zero, List.set_cons_succ]
  refine wpAnyH_ready (rs := [8]) (by kernel_rfl) (by simp) ?_
  refine AllReadyH.cons (o := _) rfl (fun K hK => ?_) AllReadyH.nil
  go_simp
  refine (K'.out _).mono ?_
  rintro e x2 ⟨rfl, hx2⟩
  go_wp2_with fail
  refine hK.out _ _ ⟨keep_cell hHeld.1 hx2, keep_cell hHeld.2.1 hx2, rangeAt_below hHeld.2.2.1 hx2, rangeAt_below hHeld.2.2.2.1 hx2, Below_then hHeld.2.2.2.2 hx2⟩ (fun hHeld => ?_)
  clear hK K
  try simp only [Act.put, List.getElem_toArray, List.getElem_cons_succ, List.getElem_cons_zero, List.setIfInBounds_toArray, List.set_cons_zero, List.set_cons_succ]
  refine wpAnyH_take (i := 9) (oi := _) (v := ?_) rfl (by kernel_rfl) (by kernel_rfl) (by kernel_rfl) (fun _ _ _ h => h) (Or.inl ⟨by rfl, ?_⟩) (by assumption) ?_
  rotate_left
  · intro w hSw; clear hSw; first | (go_simp; done) | (go_simp; with_reducible rfl)
  simp only [Act.put, List.getElem_toArray, List.getElem_cons_succ, List.getElem_cons_zero, List.setIfInBounds_toArray, List.set_cons_zero, List.set_cons_succ]
  refine wpAnyH_done (by kernel_rfl) ?_ _
  refine NoPanic.normal ?_
  have hb := hHeld.2.2.2.2
  clear hHeld
  try (refine hK _ _ ?_; clear hK K)
  go_wp2
  go_ret
  exact ⟨rfl, hb⟩
def ownK (m k : Nat) : List Nat := (List.range k).filter fun i => m.testBit i
theorem ownK_yes {m k : Nat} (h : m.testBit k = true) : ownK m (k + 1) = ownK m k ++ [k] := by simp [ownK, List.range_succ, h]
theorem ownK_no {m k : Nat} (h : m.testBit k = false) : ownK m (k + 1) = ownK m k := by simp [ownK, List.range_succ, h]
theorem ownK_len (m k : Nat) : (ownK m k).length ≤ k := by
  unfold ownK
  exact Nat.le_trans (List.length_filter_le _ _) (by simp)
theorem ownK_lt {m k x : Nat} (h : x ∈ ownK m k) : x < k := by
  unfold ownK at h
  rw [List.mem_filter, List.mem_range] at h
  exact h.1
theorem bestI_len (cf : Nat → Nat → Bool) (n : Nat) : ∀ m, (bestI cf n m).length ≤ n
  | 0 => by simp [bestI]
  | m + 1 => by
    rw [bestI]
    split
    · exact ownK_len m n
    · exact bestI_len cf n m
theorem okB_snoc (cf : Nat → Nat → Bool) (l : List Nat) (k : Nat) : okB cf (l ++ [k]) = (okB cf l && !(l.any fun j => cf j k)) := by
  unfold okB
  rw [Bool.eq_iff_iff]
  simp only [decide_eq_true_iff, Bool.and_eq_true, Bool.not_eq_true', List.pairwise_append, List.any_eq_false]
  constructor
  · rintro ⟨h1, -, h2⟩
    exact ⟨h1, fun x hx => by simpa using h2 x hx k (by simp)⟩
  · rintro ⟨h1, h2⟩
    refine ⟨h1, by simp, fun x hx y hy => ?_⟩
    simp only [List.mem_singleton] at hy
    subst hy
    simpa using h2 x hx
theorem anyN_list (l : List Nat) (f : Nat → Bool) (p : Nat → Bool) (h : ∀ (j x : Nat), l[j]? = some x → p j = f x) : anyN p (natI l).length = l.any f := by
  rw [natI_len]
  unfold anyN
  rw [Bool.eq_iff_iff]
  simp only [List.any_eq_true, List.mem_range]
  constructor
  · rintro ⟨i, hi, hp⟩
    rw [h i _ (List.getElem?_eq_getElem hi)] at hp
    exact ⟨_, List.getElem_mem hi, hp⟩
  · rintro ⟨a, ha, hf⟩
    obtain ⟨i, hi, rfl⟩ := List.getElem_of_mem ha
    exact ⟨i, hi, by rw [h i _ (List.getElem?_eq_getElem hi)]; exact hf⟩
theorem bit_bits (m k : Nat) (h : m < 2 ^ 63) : bits BinOp.and IntKind.i64 ((m : Int) / 2 ^ k) 1 = if m.testBit k then 1 else 0 := by
  have e : ((m : Int) / 2 ^ k) = ((m / 2 ^ k : Nat) : Int) := by simp
  have hlt : m / 2 ^ k < 2 ^ 63 := Nat.lt_of_le_of_lt (Nat.div_le_self _ _) h
  have h1 := (bits_nat .i64 63 (by decide) wraps_i64 (m / 2 ^ k) 1 hlt (by decide)).1
  rw [e, show (1 : Int) = ((1 : Nat) : Int) from rfl, h1, Nat.and_one_is_mod, Nat.testBit_eq_decide_div_mod_eq]
  by_cases hm : m / 2 ^ k % 2 = 1
  · simp [hm]
  · simp [hm]
    omega
set_option maxHeartbeats 8000000 in
theorem implMost_any (A : Option Addr) (c : Nat) (rows : List ArmsD) (w : World) (h : RdR 15 w A (acs rows)) (hl : rows.length ≤ 1048576) :
    Calls Try.prog 13 #[.slice A rows.length c] w (IntsOk w (mdL rows) (listOk 10 rows)) := by
  have KL := fun (w' : World) (hb : Below w.heap.size w w') => areArms_any A c 10 rows w' (h.below hb) hl (by omega)
  have HH := Lib.hid h
  have hD := heap_hit w (.cells #[.slice A rows.length c] 42) _ rfl
  have hT : Below w.heap.size w (w.alloc (.cells #[.slice A rows.length c] 42)) := Below_al (Below.refl _ _) _
  have cD := cell_of hD 0
  clear h
  cases q : listOk 10 rows
  · have e1 : mdL rows = [] := by unfold mdL; rw [q]; rfl
    rw [e1]
    rw [q] at KL
    have KL := Lib.hid KL
    clear q e1 hD
    go_enter Try.func13, Try.ntmps13
    go_wp2_with fail
    refine (KL.out _ hT).mono ?_
    rintro e w1 ⟨rfl, hb1⟩
    have hT := Below_then hT hb1
    clear hb1 cD
    go_wp2
    go_ret2
    exact ⟨_, rfl, OwnI.nil _ _ _, hT⟩
  · have e1 := mdL_best rows q
    rw [e1]
    rw [q] at KL
    have KL := Lib.hid KL
    have HQ := Lib.hid q
    have h10 := listOk_le q
    clear q e1
    have hpow : 2 ^ rows.length ≤ 1024 := Nat.le_trans (Nat.pow_le_pow_right (by decide) h10) (by decide)
    obtain ⟨P, hP⟩ : ∃ P : Nat, P = 2 ^ rows.length := ⟨_, rfl⟩
    have hwr : IntKind.i64.wrap ((2 : Int) ^ rows.length) = (P : Int) := by
      rw [show ((2 : Int) ^ rows.length) = ((2 ^ rows.length : Nat) : Int) by simp, ← hP]
      rw [← hP] at hpow
      exact wraps_i64 _ (by omega) (by omega)
    rw [← hP] at hpow ⊢
    clear hP
    go_enter Try.func13, Try.ntmps13
    go_wp2_with fail
    refine (KL.out _ hT).mono ?_
    rintro e w1 ⟨rfl, hb1⟩
    have hT := Below_then hT hb1
    have hD := heap_keepB hD hb1
    have hlt0 := heap_lt hD
    have hO : OwnI (w1.alloc (.cells #[] 3)) (w.heap.size + 1) 3 (.slice (some ⟨w1.heap.size, 0, none⟩) 0 0) [] := OwnI.none0 _ _ _ rfl hlt0
    have hT := Below_al hT (.cells #[] 3)
    have hD := heap_keepA hD (.cells #[] 3)
    have cD := cell_of hD 0
    clear hb1 hlt0
    go_wp2_with fail
    go_loopw [4, 16] (fun b i wr => ∃ (m : Nat) (v : Value), m ≤ P ∧ i = .int .i64 m ∧ b = v ∧ OwnI wr (w.heap.size + 1) 3 v (natI (bestI (cfR rows) rows.length m)) ∧ wr.heap[w.heap.size]? = some (.cells #[.slice A rows.length c] 42 (0, 0)) ∧ Below w.heap.size w wr) (fun _ i _ => P - (intOf i).toNat)
    case atStart => exact ⟨0, _, Nat.zero_le _, rfl, rfl, by simpa [bestI, natI] using hO, hD, hT⟩
    case round =>
      clear hO hD hT cD hwr
      obtain ⟨m, v, hm, rfl, hov, hO, hD, hT⟩ := hrel
      obtain ⟨wo, rfl⟩ : ∃ x, x = wr := ⟨wr, rfl⟩
      replace hov := hov.symm
      subst hov
      by_cases hlt : m < P
      · have i1 : (m : Int) < (P : Int) := by omega
        have d1 : decide (m < P) = true := by simpa using hlt
        have hD1 := heap_keepA hD (.cells #[] 3)
        have hT1 := Below_al hT (.cells #[] 3)
        have hO1 := hO.alloc (.cells #[] 3)
        have hO0 := hO
        have cD := cell_of hD1 0
        have hU : OwnI (wo.alloc (.cells #[] 3)) wo.heap.size 3 (.slice (some ⟨wo.heap.size, 0, none⟩) 0 0) [] := OwnI.none0 _ _ _ rfl (Nat.le_refl _)
        have hblt : (bestI (cfR rows) rows.length m).length ≤ rows.length := bestI_len _ _ _
        have hbs : bestI (cfR rows) rows.length (m + 1) = if (okB (cfR rows) (ownK m rows.length) && betterB (ownK m rows.length) (bestI (cfR rows) rows.length m)) = true then ownK m rows.length else bestI (cfR rows) rows.length m := rfl
        obtain ⟨bst, hbst⟩ : ∃ bst, bst = bestI (cfR rows) rows.length m := ⟨_, rfl⟩
        rw [← hbst] at hO1 hO0 hblt hbs
        have HBS := Lib.hid hbs
        have hvl := hO1.lt
        have hws : (wo.alloc (.cells #[] 3)).heap.size = wo.heap.size + 1 := by simp
        have HVL := Lib.hid (hO.lt)
        have hst : Below wo.heap.size wo (wo.alloc (.cells #[] 3)) := Below_al (Below.refl _ _) _
        clear hbs hvl hbst hO
        have HO1 := Lib.hid hO1
        have HT1 := Lib.hid hT1
        have HD := Lib.hid hD
        have hTs := hT.size
        have hDl := heap_lt hD
        have HT0 := Lib.hid hT
        have HO0 := Lib.hid hO0
        clear hO1 hO0 hT1 hD hT hD1
        go_wp2_with fail
        go_loopw [6, 7, 22] (fun o d i wr => ∃ (k : Nat) (u : Value), k ≤ rows.length ∧ i = .int .i64 k ∧ o = u ∧ d = .bool (okB (cfR rows) (ownK m k)) ∧ OwnI wr wo.heap.size 3 u (natI (ownK m k)) ∧ Below wo.heap.size wo wr) (fun _ _ i _ => rows.length - (intOf i).toNat)
        case atStart => exact ⟨0, _, Nat.zero_le _, rfl, rfl, rfl, by simpa [ownK, natI] using hU, hst⟩
        case round =>
          clear hU hst cD
          obtain ⟨k, u, hk, rfl, hou, rfl, hU, hQ⟩ := hrel
          replace hou := hou.symm
          subst hou
          have hul := ownK_len m k
          have hD2 : wr.heap[w.heap.size]? = some (.cells #[.slice A rows.length c] 42 (0, 0)) := heap_keepB HD.out hQ
          by_cases hlk : k < rows.length
          · have i2 : (k : Int) < (rows.length : Int) := by omega
            have d2 : decide (k < rows.length) = true := by simpa using hlk
            have hbit := bit_bits m k (by omega)
            have hq1 := Below_al hQ (.cells #[.int .i64 (k : Int)] 3)
            have hU1 := hU.alloc (.cells #[.int .i64 (k : Int)] 3)
            have cE := cell_of (heap_hit wr (.cells #[.int .i64 (k : Int)] 3) _ rfl) 0
            have cD := cell_of (heap_keepA hD2 (.cells #[.int .i64 (k : Int)] 3)) 0
            clear hU hQ
            cases ht : m.testBit k
            · rw [ht, if_neg (by simp)] at hbit
              have HB := Lib.hid (ownK_no ht)
              clear ht
              go_wp2_with fail
              go_roundw
              case rel => exact ⟨k + 1, _, by omega, by go_num, rfl, by rw [HB.out], by rw [HB.out]; exact hU1, hq1⟩
              case measure => simp [intOf]; omega
            · rw [ht, if_pos rfl] at hbit
              have HB := Lib.hid (ownK_yes ht)
              have hok := okB_snoc (cfR rows) (ownK m k) k
              have HOK := Lib.hid hok
              obtain ⟨uA, uc, rfl, hur⟩ := hU1.form
              have hud := hU1.lt
              clear ht hok
              cases hd : okB (cfR rows) (ownK m k)
              · have HDD := Lib.hid hd
                clear hd hud hur
                go_wp2_with (first | (at_builtin; refine wp_appI rfl _ _ rfl wo.heap.size _ (natI (ownK m k)) rfl (hU1.alloc _) _ _ rfl (cell_of (heap_hit _ _ (wr.heap.size + 1) (by simp)) 0) ?c1 ?c2 ?_; rotate_left 2; intro v' w9 hO9 hG9 hL9) | fail)
                try (case c1 => (rw [natI_len]; omega))
                try (case c2 => (have := hq1.size; simp at this ⊢; omega))
                have hq9 := (Below_al hq1 _).trans hL9
                clear hG9 hL9
                go_wp2
                go_roundw
                case rel => exact ⟨k + 1, _, by omega, by go_num, rfl, by rw [HB.out, HOK.out, HDD.out]; rfl, by rw [HB.out, natI_app]; exact hO9, hq9⟩
                case measure => simp [intOf]; omega
              · have HDD := Lib.hid hd
                obtain ⟨y, hy⟩ := arms_at hlk
                have gy := listOk_at HQ.out hy
                have HU1 := Lib.hid hU1
                have hcl : ∀ (j : Nat) (a : Int) (w' : World), (natI (ownK m k))[j]? = some a → Below (wr.alloc (.cells #[.int .i64 (k : Int)] 3)).heap.size (wr.alloc (.cells #[.int .i64 (k : Int)] 3)) w' → Calls Try.prog 40 (#[.int .i64 a] ++ #[.pointer (some ⟨w.heap.size, 0, none⟩), .pointer (some ⟨wr.heap.size, 0, none⟩)]) w' fun e w'' => e = .returned (.bool (match (ownK m k)[j]? with | some x => cfR rows x k | none => false)) ∧ Below w'.heap.size w' w'' := by
                  intro j a w' hj hb
                  have hjl : j < (ownK m k).length := by
                    have := (List.getElem?_eq_some_iff.1 hj).1
                    rwa [natI_len] at this
                  have hj2 : (ownK m k)[j]? = some (ownK m k)[j] := List.getElem?_eq_getElem hjl
                  obtain ⟨x0, hx0⟩ : ∃ x0, x0 = (ownK m k)[j] := ⟨_, rfl⟩
                  rw [← hx0] at hj2
                  have hxk : x0 < k := ownK_lt (List.mem_of_getElem? hj2)
                  have ha : a = (x0 : Int) := by
                    simp only [natI, List.getElem?_map, hj2] at hj
                    exact (Option.some.inj hj).symm
                  subst ha
                  obtain ⟨x, hx⟩ := arms_at (show x0 < rows.length by omega)
                  have hbb := Below_then hq1 hb
                  have hbw : Below w.heap.size w w' := Below_then HT0.out hbb
                  obtain ⟨b, off, rfl, hrx, -⟩ := (HH.out.below hbw).arms hx
                  obtain ⟨b', off', e, hry, -⟩ := (HH.out.below hbw).arms hy
                  have e1 : b = b' := congrArg Addr.block (Option.some.inj e)
                  have e2 : off = off' := congrArg Addr.off (Option.some.inj e)
                  subst e1 e2
                  rw [hj2]
                  simp only
                  rw [cfR_at hx hy]
                  exact most_cl b off c rows x0 k w.heap.size wr.heap.size x y w' (listOk_at HQ.out hx) gy (by omega) hlk (keep_cell cD hb) (keep_cell cE hb) hrx hry
                have KC := hasI_any 40 #[.pointer (some ⟨w.heap.size, 0, none⟩), .pointer (some ⟨wr.heap.size, 0, none⟩)] uA uc (natI (ownK m k)) _ _ hur (by rw [natI_len]; omega) cf_most hcl
                rw [anyN_list (ownK m k) (fun x => cfR rows x k) _ (fun j x hj => by rw [hj])] at KC
                have KC := Lib.hid KC
                clear hd hud hur hcl gy hy hU1
                have hU1 := HU1.out
                clear cE
                obtain ⟨q, hq⟩ : ∃ q, q = (ownK m k).any (fun x => cfR rows x k) := ⟨_, rfl⟩
                rw [← hq] at KC
                have HQA := Lib.hid hq
                clear hq
                go_wp2_with fail
                refine KC.out.mono ?_
                rintro e w5 ⟨rfl, hb5⟩
                have hU5 := hU1.below hb5
                have hq5 := Below_then hq1 hb5
                have cE := keep_cell (cell_of (heap_hit wr (.cells #[.int .i64 (k : Int)] 3) _ rfl) 0) hb5
                have cD := keep_cell cD hb5
                clear hb5 hU1 hq1
                go_wp2_with (first | (at_builtin; refine wp_appI rfl _ _ rfl wo.heap.size _ (natI (ownK m k)) rfl (hU5.alloc _) _ _ rfl (cell_of (heap_hit _ _ _ rfl) 0) ?c1 ?c2 ?_; rotate_left 2; intro v' w9 hO9 hG9 hL9) | fail)
                try (case c1 => (rw [natI_len]; omega))
                try (case c2 => (have := hq5.size; simp; omega))
                have hq9 := (Below_al hq5 _).trans hL9
                clear hG9 hL9
                go_wp2
                go_roundw
                case rel => exact ⟨k + 1, _, by omega, by go_num, rfl, by rw [HB.out, HOK.out, HDD.out, ← HQA.out]; simp, by rw [HB.out, natI_app]; exact hO9, hq9⟩
                case measure => simp [intOf]; omega
          · obtain rfl : k = rows.length := by omega
            have d2 : decide (rows.length < rows.length) = false := by simp
            have hO9 := HO0.out.below hQ
            have hT9 := Below_then HT0.out hQ
            obtain ⟨uA, uc, rfl, hur⟩ := hU.form
            obtain ⟨vA, vc, rfl, hvr⟩ := hO9.form
            have hall : (natI (ownK m rows.length)).length ≤ 1048576 := by rw [natI_len]; omega
            have hbest : ∀ q : Bool, (okB (cfR rows) (ownK m rows.length) && betterB (ownK m rows.length) bst) = q → bestI (cfR rows) rows.length (m + 1) = bif q then ownK m rows.length else bst := fun q hq => by
              rw [HBS.out, hq]
              cases q <;> rfl
            have HBEST := Lib.hid hbest
            have hU9 := OwnI.base hU (B' := w.heap.size + 1) (by omega)
            clear hbest hU hQ
            cases hd : okB (cfR rows) (ownK m rows.length)
            · have HB := Lib.hid (HBEST.out false (by rw [hd]; rfl))
              clear hd hur hvr hU9
              go_wp2
              go_roundw
              case rel => exact ⟨m + 1, _, by omega, by go_num, rfl, by rw [HB.out]; exact hO9, hD2, hT9⟩
              case measure => simp [intOf]; omega
            · have HDD := Lib.hid hd
              clear hd
              by_cases h1 : ((natI bst).length : Int) < ((natI (ownK m rows.length)).length : Int)
              · have HB := Lib.hid (HBEST.out true (by rw [HDD.out, betterB]; rw [natI_len, natI_len] at h1; simp; omega))
                clear hur hvr hO9
                go_wp2
                go_roundw
                case rel => exact ⟨m + 1, _, by omega, by go_num, rfl, by rw [HB.out]; exact hU9, hD2, hT9⟩
                case measure => simp [intOf]; omega
              · by_cases h2 : (ownK m rows.length).length = bst.length
                · have hq : (((natI (ownK m rows.length)).length : Int) == ((natI bst).length : Int)) = true := by rw [natI_len, natI_len, h2]; simp
                  have KC := Lib.hid (compare_any uA vA uc vc (ownK m rows.length) bst wr hur hvr h2 (by omega))
                  have HL := Lib.hid h2
                  clear h2 hur hvr
                  go_wp2_with fail
                  refine KC.out.mono ?_
                  rintro e w9 ⟨⟨z, rfl, hz⟩, rfl⟩
                  cases hx : lexLt (ownK m rows.length) bst
                  · rw [hx] at hz
                    have HB := Lib.hid (HBEST.out false (by rw [HDD.out, betterB, hx]; rw [HL.out]; simp))
                    have hz2 : ¬ z < 0 := by simpa using hz
                    clear hx hz hU9
                    go_wp2
                    go_roundw
                    case rel => exact ⟨m + 1, _, by omega, by go_num, rfl, by rw [HB.out]; exact hO9, hD2, hT9⟩
                    case measure => simp [intOf]; omega
                  · rw [hx] at hz
                    have HB := Lib.hid (HBEST.out true (by rw [HDD.out, betterB, hx]; rw [HL.out]; simp))
                    have hz2 : z < 0 := by simpa using hz
                    clear hx hz hO9
                    go_wp2
                    go_roundw
                    case rel => exact ⟨m + 1, _, by omega, by go_num, rfl, by rw [HB.out]; exact hU9, hD2, hT9⟩
                    case measure => simp [intOf]; omega
                · have hq : (((natI (ownK m rows.length)).length : Int) == ((natI bst).length : Int)) = false := by rw [natI_len, natI_len, beq_eq_false_iff_ne]; omega
                  have HB := Lib.hid (HBEST.out false (by
                    rw [HDD.out, betterB, decide_eq_false h2]
                    rw [natI_len, natI_len] at h1
                    simp
                    omega))
                  clear h2 hur hvr hU9
                  go_wp2
                  go_roundw
                  case rel => exact ⟨m + 1, _, by omega, by go_num, rfl, by rw [HB.out]; exact hO9, hD2, hT9⟩
                  case measure => simp [intOf]; omega
      · obtain rfl : m = P := by omega
        have d1 : decide (m < m) = false := by simp
        clear hpow
        go_wp2
        go_ret2
        exact ⟨_, rfl, OwnI.base hO (by omega), hT⟩
end Go.Proofs.Ytdjddhdplknalaa
