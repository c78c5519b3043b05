/- Contracts: GrantsBetween, GrantsOf, both sides. -/
import Derived.Test.YtgdghkdljfcggaaNums
namespace Go.Proofs.Ytgdghkdljfcggaa
open Go.ChangeShapes Go.WideShapes Go.ChangeAt Go.RowKit
set_option linter.unusedVariables false
set_option linter.unusedSimpArgs false

theorem cf_GrantsBetween (args : Array Value) (w : World) : (callFunc 50 args).run Try.prog w = .ok (.enter 50 args) w := by kernel_rfl
theorem gb_cl (g : GrantD) (D E : Nat) (fr ti : Int) (w : World) (h1 : w.cell? ⟨D, 0, none⟩ = some (.int .i64 fr)) (h2 : w.cell? ⟨E, 0, none⟩ = some (.int .i64 ti)) (l1 : D < w.heap.size) (l2 : E < w.heap.size) :
    Calls Try.prog 50 #[.agg (gc g).toArray, .pointer (some ⟨D, 0, none⟩), .pointer (some ⟨E, 0, none⟩)] w fun e w' => e = .returned (.bool (decide (fr ≤ g.y ∧ g.y ≤ ti))) ∧ Below w.heap.size w w' := by
  have hA := (gblk_cells (heap_hit w (.cells (gc g).toArray 68) _ rfl)).2.2.1
  have h1' := keep_cell h1 (Below_al (Below.refl _ _) (.cells (gc g).toArray 68))
  have h2' := keep_cell h2 (Below_al (Below.refl _ _) (.cells (gc g).toArray 68))
  go_enter Try.func50, Try.ntmps50
  go_wp2_with (first | (go_at_call 39; refine (inside_any _ _ _ _).mono ?_; rintro e w' ⟨rfl, rfl⟩) | fail)
  go_ret
  exact ⟨retB (by simp), by (repeat (first | exact Below.refl _ _ | assumption | refine Below_al ?_ _ | refine Below.drew ?_ | refine Below_then ?_ (by assumption) | refine Below.setCell ?_ (by first | omega | (simp; done) | (simp; omega)) _))⟩
set_option maxHeartbeats 2000000 in
theorem implGrantsBetween_any (A : Option Addr) (c : Nat) (rows : List GrantD) (fr ti : Int) (w : World) (hr : RdR 18 w A (gcs rows)) (hl : rows.length ≤ 1048576) (hs : ∀ g ∈ rows, g.s.size ≤ maxLen) (hcap : rows.length ≤ c) (hcm : c ≤ maxLen) :
    Calls Try.prog 20 #[.agg #[.slice A rows.length c], .int .i64 fr, .int .i64 ti] w (IntsOk w (bif regOk rows then nums rows (fun g => decide (fr ≤ g.y ∧ g.y ≤ ti)) else []) (regOk rows)) := by
  have KV := fun (w' : World) (hb : Below w.heap.size w w') => IsValidRegister_any A c rows w' (hr.below hb) hl hs hcap hcm
  cases q : regOk rows
  · rw [q] at KV
    have KV' := Lib.hid KV
    clear KV q hs hr
    go_enter Try.func20, Try.ntmps20
    go_wp2_with fail
    refine (KV'.out _ (by (repeat (first | exact Below.refl _ _ | assumption | refine Below_al ?_ _ | refine Below.drew ?_ | refine Below_then ?_ (by assumption) | refine Below.setCell ?_ (by first | omega | (simp; done) | (simp; omega)) _)))).mono ?_
    rintro e w1 ⟨rfl, hb1⟩
    go_wp2
    go_ret2
    exact ⟨_, rfl, OwnI.nil _ _ _, by (repeat (first | exact Below.refl _ _ | assumption | refine Below_al ?_ _ | refine Below.drew ?_ | refine Below_then ?_ (by assumption) | refine Below.setCell ?_ (by first | omega | (simp; done) | (simp; omega)) _))⟩
  · rw [q] at KV
    have KV' := Lib.hid KV
    have HH := Lib.hid hr
    clear KV q hs hr
    go_enter Try.func20, Try.ntmps20
    go_wp2_with fail
    refine (KV'.out _ (by (repeat (first | exact Below.refl _ _ | assumption | refine Below_al ?_ _ | refine Below.drew ?_ | refine Below_then ?_ (by assumption) | refine Below.setCell ?_ (by first | omega | (simp; done) | (simp; omega)) _)))).mono ?_
    rintro e w1 ⟨rfl, hb1⟩
    have hT : Below w.heap.size w w1 := by (repeat (first | exact Below.refl _ _ | assumption | refine Below_al ?_ _ | refine Below.drew ?_ | refine Below_then ?_ (by assumption) | refine Below.setCell ?_ (by first | omega | (simp; done) | (simp; omega)) _))
    have c1 : w1.heap[w.heap.size + 1]? = some (.cells #[.int .i64 fr] 3 (0, 0)) := heap_keepB (heap_keepA (heap_hit _ _ _ (by simp)) _) hb1
    have c2 : w1.heap[w.heap.size + 1 + 1]? = some (.cells #[.int .i64 ti] 3 (0, 0)) := heap_keepB (heap_hit _ _ _ (by simp)) hb1

    have hH : w1.heap[w.heap.size]? = some (.cells #[.slice A rows.length c] 29 (0, 0)) := heap_keepB (heap_keepA (heap_keepA (heap_hit _ _ _ rfl) _) _) hb1
    have cH := cell_of hH 0
    have KN := numbers_any 50 #[.pointer (some ⟨w.heap.size + 1, 0, none⟩), .pointer (some ⟨w.heap.size + 1 + 1, 0, none⟩)] A c rows (fun g => decide (fr ≤ g.y ∧ g.y ≤ ti)) w1 (HH.out.below hT) hl cf_GrantsBetween (fun g w' hg hb => gb_cl g _ _ fr ti w' (cell_of (heap_keepB c1 hb) 0) (cell_of (heap_keepB c2 hb) 0) (heap_lt (heap_keepB c1 hb)) (heap_lt (heap_keepB c2 hb)))
    have KN' := Lib.hid KN
    clear KN hb1 hH
    go_wp2_with fail
    refine (KN'.out).mono ?_
    rintro e w2 ⟨v, rfl, hO, hb2⟩
    have hsz := hT.size
    have hT2 := Below_then hT hb2
    clear hb2
    go_wp2
    go_ret2
    exact ⟨_, rfl, OwnI.base hO hsz, hT2⟩
set_option maxHeartbeats 4000000 in
theorem specGrantsBetween_any (A : Option Addr) (c : Nat) (rows : List GrantD) (fr ti : Int) (w : World) (hr : RdR 18 w A (gcs rows)) (hl : rows.length ≤ 1048576) (hs : ∀ g ∈ rows, g.s.size ≤ maxLen) :
    Calls Try.prog 19 #[.agg #[.slice A rows.length c], .int .i64 fr, .int .i64 ti] w (IntsOk w (bif regOk rows then nums rows (fun g => decide (fr ≤ g.y ∧ g.y ≤ ti)) else []) (regOk rows)) := by
  have KV := fun (w' : World) (hb : Below w.heap.size w w') => l16Good_any A c rows w' (hr.below hb) hl hs
  have hO0 : OwnI ((w.alloc (.cells #[.slice A rows.length c] 29)).alloc (.cells #[] 3)) (w.heap.size + 1) 3 (.slice (some ⟨w.heap.size + 1, 0, none⟩) 0 0) [] := OwnI.none0 _ _ _ (by simp) (by omega)
  cases q : regOk rows
  · rw [q] at KV
    have KV' := Lib.hid KV
    clear KV q hs hr
    go_enter Try.func19, Try.ntmps19
    go_wp2_with fail
    refine (KV'.out _ (by (repeat (first | exact Below.refl _ _ | assumption | refine Below_al ?_ _ | refine Below.drew ?_ | refine Below_then ?_ (by assumption) | refine Below.setCell ?_ (by first | omega | (simp; done) | (simp; omega)) _)))).mono ?_
    rintro e w1 ⟨rfl, hb1⟩
    have hO := hO0.below hb1
    clear hO0
    go_wp2
    go_ret2
    exact ⟨_, rfl, OwnI.base hO (by omega), by (repeat (first | exact Below.refl _ _ | assumption | refine Below_al ?_ _ | refine Below.drew ?_ | refine Below_then ?_ (by assumption) | refine Below.setCell ?_ (by first | omega | (simp; done) | (simp; omega)) _))⟩
  · rw [q] at KV
    have KV' := Lib.hid KV
    have HH := Lib.hid hr
    clear KV q hs hr
    go_enter Try.func19, Try.ntmps19
    go_wp2_with fail
    refine (KV'.out _ (by (repeat (first | exact Below.refl _ _ | assumption | refine Below_al ?_ _ | refine Below.drew ?_ | refine Below_then ?_ (by assumption) | refine Below.setCell ?_ (by first | omega | (simp; done) | (simp; omega)) _)))).mono ?_
    rintro e w1 ⟨rfl, hb1⟩
    have hT : Below w.heap.size w w1 := by (repeat (first | exact Below.refl _ _ | assumption | refine Below_al ?_ _ | refine Below.drew ?_ | refine Below_then ?_ (by assumption) | refine Below.setCell ?_ (by first | omega | (simp; done) | (simp; omega)) _))
    have hO := hO0.below hb1
    clear hO0
    have hH : w1.heap[w.heap.size]? = some (.cells #[.slice A rows.length c] 29 (0, 0)) := heap_keepB (heap_keepA (heap_hit _ _ _ rfl) _) hb1
    clear hb1
    go_wp2_with fail
    go_loopw [8, 9] (fun o i wr => ∃ (k : Nat) (v : Value), k ≤ rows.length ∧ i = .int .i64 k ∧ o = v ∧ OwnI wr (w.heap.size + 1) 3 v (nums (rows.take k) (fun g => decide (fr ≤ g.y ∧ g.y ≤ ti))) ∧ wr.heap[w.heap.size]? = some (.cells #[.slice A rows.length c] 29 (0, 0)) ∧ Below w.heap.size w wr) (fun _ i _ => rows.length - (intOf i).toNat)
    case atStart => exact ⟨0, _, Nat.zero_le _, rfl, rfl, by simpa [nums] using hO, hH, hT⟩
    case round =>
      clear hO hH hT
      obtain ⟨k, v, hk, rfl, hov, hO, hH, hb⟩ := hrel
      replace hov := hov.symm
      subst hov
      have cH := cell_of hH 0
      by_cases hlt : k < rows.length
      · obtain ⟨g, hg⟩ := grant_at hlt
        obtain ⟨b, off, rfl, hr, -⟩ := (HH.out.below hb).grants hg
        obtain ⟨cn, cs, cy, -⟩ := gc_cells hr
        have hlen := nums_take rows (fun g => decide (fr ≤ g.y ∧ g.y ≤ ti)) k hk
        have i1 : (k : Int) < (rows.length : Int) := by omega
        have d1 : decide (k < rows.length) = true := by simpa using hlt
        have HG := Lib.hid hg
        have hws := hb.size
        have hHl := heap_lt hH
        have hne := ownBlock_ne (b := w.heap.size) (hO.alloc (.cells #[.int .i64 g.n] 3)) (.inl (Nat.lt_succ_self _))
        cases hq : ((fun g => decide (fr ≤ g.y ∧ g.y ≤ ti)) : GrantD → Bool) g
        · have HQ := Lib.hid hq
          dsimp only at hq
          go_wp2_with (go_at_call 48; refine (l1In_any _ _ _ _).mono ?_; rw [hq]; rintro e wq ⟨rfl, rfl⟩)
          go_roundw
          case rel => exact ⟨k + 1, _, by omega, by go_num, rfl, by rw [nums_no HG.out HQ.out]; exact hO, hH, hb⟩
          case measure => simp [intOf]; omega
        · have HQ := Lib.hid hq
          dsimp only at hq
          go_wp2_with (first | (go_at_call 48; refine (l1In_any _ _ _ _).mono ?_; rw [hq]; rintro e wq ⟨rfl, rfl⟩) | (at_builtin; refine wp_appI rfl _ _ rfl (w.heap.size + 1) _ (nums (rows.take k) (fun g => decide (fr ≤ g.y ∧ g.y ≤ ti))) rfl (hO.alloc _) _ _ rfl (cell_of (heap_hit _ _ _ rfl) 0) ?c1 ?c2 ?_; rotate_left 2; intro v' w9 hO9 hG9 hL9) | fail)
          try (case c1 => omega)
          try (case c2 => (simp; omega))
          have hH9 := heap_keepG (heap_keepA hH _) hG9 hne
          have hT9 := (Below_al hb _).trans (hL9.mono (Nat.le_succ _))
          clear hG9 hL9 hO hH cH hne
          go_wp2
          go_roundw
          case rel => exact ⟨k + 1, _, by omega, by go_num, rfl, by rw [nums_yes HG.out HQ.out]; exact hO9, hH9, hT9⟩
          case measure => simp [intOf]; omega
      · obtain rfl : k = rows.length := by omega
        have d1 : decide (rows.length < rows.length) = false := by simp
        rw [List.take_length] at hO
        go_wp2
        go_ret2
        exact ⟨_, rfl, OwnI.base hO (by omega), hb⟩

theorem cf_GrantsOf (args : Array Value) (w : World) : (callFunc 52 args).run Try.prog w = .ok (.enter 52 args) w := by kernel_rfl
theorem go_cl (g : GrantD) (D : Nat) (nm : ByteArray) (w : World) (h1 : w.cell? ⟨D, 0, none⟩ = some (.string nm)) :
    Calls Try.prog 52 #[.agg (gc g).toArray, .pointer (some ⟨D, 0, none⟩)] w fun e w' => e = .returned (.bool (g.s.toList == nm.toList)) ∧ Below w.heap.size w w' := by
  have hA := (gblk_cells (heap_hit w (.cells (gc g).toArray 68) _ rfl)).2.1
  have h1' := keep_cell h1 (Below_al (Below.refl _ _) (.cells (gc g).toArray 68))
  go_enter Try.func52, Try.ntmps52
  go_wp2
  go_ret
  exact ⟨rfl, by (repeat (first | exact Below.refl _ _ | assumption | refine Below_al ?_ _ | refine Below.drew ?_ | refine Below_then ?_ (by assumption) | refine Below.setCell ?_ (by first | omega | (simp; done) | (simp; omega)) _))⟩
set_option maxHeartbeats 2000000 in
theorem implGrantsOf_any (A : Option Addr) (c : Nat) (rows : List GrantD) (nm : ByteArray) (w : World) (hr : RdR 18 w A (gcs rows)) (hl : rows.length ≤ 1048576) (hs : ∀ g ∈ rows, g.s.size ≤ maxLen) (hcap : rows.length ≤ c) (hcm : c ≤ maxLen) :
    Calls Try.prog 26 #[.agg #[.slice A rows.length c], .string nm] w (IntsOk w (bif regOk rows then nums rows (fun g => g.s.toList == nm.toList) else []) (regOk rows)) := by
  have KV := fun (w' : World) (hb : Below w.heap.size w w') => IsValidRegister_any A c rows w' (hr.below hb) hl hs hcap hcm
  cases q : regOk rows
  · rw [q] at KV
    have KV' := Lib.hid KV
    clear KV q hs hr
    go_enter Try.func26, Try.ntmps26
    go_wp2_with fail
    refine (KV'.out _ (by (repeat (first | exact Below.refl _ _ | assumption | refine Below_al ?_ _ | refine Below.drew ?_ | refine Below_then ?_ (by assumption) | refine Below.setCell ?_ (by first | omega | (simp; done) | (simp; omega)) _)))).mono ?_
    rintro e w1 ⟨rfl, hb1⟩
    go_wp2
    go_ret2
    exact ⟨_, rfl, OwnI.nil _ _ _, by (repeat (first | exact Below.refl _ _ | assumption | refine Below_al ?_ _ | refine Below.drew ?_ | refine Below_then ?_ (by assumption) | refine Below.setCell ?_ (by first | omega | (simp; done) | (simp; omega)) _))⟩
  · rw [q] at KV
    have KV' := Lib.hid KV
    have HH := Lib.hid hr
    clear KV q hs hr
    go_enter Try.func26, Try.ntmps26
    go_wp2_with fail
    refine (KV'.out _ (by (repeat (first | exact Below.refl _ _ | assumption | refine Below_al ?_ _ | refine Below.drew ?_ | refine Below_then ?_ (by assumption) | refine Below.setCell ?_ (by first | omega | (simp; done) | (simp; omega)) _)))).mono ?_
    rintro e w1 ⟨rfl, hb1⟩
    have hT : Below w.heap.size w w1 := by (repeat (first | exact Below.refl _ _ | assumption | refine Below_al ?_ _ | refine Below.drew ?_ | refine Below_then ?_ (by assumption) | refine Below.setCell ?_ (by first | omega | (simp; done) | (simp; omega)) _))
    have c1 : w1.heap[w.heap.size + 1]? = some (.cells #[.string nm] 9 (0, 0)) := heap_keepB (heap_hit _ _ _ (by simp)) hb1

    have hH : w1.heap[w.heap.size]? = some (.cells #[.slice A rows.length c] 29 (0, 0)) := heap_keepB (heap_keepA (heap_hit _ _ _ rfl) _) hb1
    have cH := cell_of hH 0
    have KN := numbers_any 52 #[.pointer (some ⟨w.heap.size + 1, 0, none⟩)] A c rows (fun g => g.s.toList == nm.toList) w1 (HH.out.below hT) hl cf_GrantsOf (fun g w' hg hb => go_cl g _ nm w' (cell_of (heap_keepB c1 hb) 0))
    have KN' := Lib.hid KN
    clear KN hb1 hH
    go_wp2_with fail
    refine (KN'.out).mono ?_
    rintro e w2 ⟨v, rfl, hO, hb2⟩
    have hsz := hT.size
    have hT2 := Below_then hT hb2
    clear hb2
    go_wp2
    go_ret2
    exact ⟨_, rfl, OwnI.base hO hsz, hT2⟩
set_option maxHeartbeats 4000000 in
theorem specGrantsOf_any (A : Option Addr) (c : Nat) (rows : List GrantD) (nm : ByteArray) (w : World) (hr : RdR 18 w A (gcs rows)) (hl : rows.length ≤ 1048576) (hs : ∀ g ∈ rows, g.s.size ≤ maxLen) :
    Calls Try.prog 25 #[.agg #[.slice A rows.length c], .string nm] w (IntsOk w (bif regOk rows then nums rows (fun g => g.s.toList == nm.toList) else []) (regOk rows)) := by
  have KV := fun (w' : World) (hb : Below w.heap.size w w') => l16Good_any A c rows w' (hr.below hb) hl hs
  have hO0 : OwnI ((w.alloc (.cells #[.slice A rows.length c] 29)).alloc (.cells #[] 3)) (w.heap.size + 1) 3 (.slice (some ⟨w.heap.size + 1, 0, none⟩) 0 0) [] := OwnI.none0 _ _ _ (by simp) (by omega)
  cases q : regOk rows
  · rw [q] at KV
    have KV' := Lib.hid KV
    clear KV q hs hr
    go_enter Try.func25, Try.ntmps25
    go_wp2_with fail
    refine (KV'.out _ (by (repeat (first | exact Below.refl _ _ | assumption | refine Below_al ?_ _ | refine Below.drew ?_ | refine Below_then ?_ (by assumption) | refine Below.setCell ?_ (by first | omega | (simp; done) | (simp; omega)) _)))).mono ?_
    rintro e w1 ⟨rfl, hb1⟩
    have hO := hO0.below hb1
    clear hO0
    go_wp2
    go_ret2
    exact ⟨_, rfl, OwnI.base hO (by omega), by (repeat (first | exact Below.refl _ _ | assumption | refine Below_al ?_ _ | refine Below.drew ?_ | refine Below_then ?_ (by assumption) | refine Below.setCell ?_ (by first | omega | (simp; done) | (simp; omega)) _))⟩
  · rw [q] at KV
    have KV' := Lib.hid KV
    have HH := Lib.hid hr
    clear KV q hs hr
    go_enter Try.func25, Try.ntmps25
    go_wp2_with fail
    refine (KV'.out _ (by (repeat (first | exact Below.refl _ _ | assumption | refine Below_al ?_ _ | refine Below.drew ?_ | refine Below_then ?_ (by assumption) | refine Below.setCell ?_ (by first | omega | (simp; done) | (simp; omega)) _)))).mono ?_
    rintro e w1 ⟨rfl, hb1⟩
    have hT : Below w.heap.size w w1 := by (repeat (first | exact Below.refl _ _ | assumption | refine Below_al ?_ _ | refine Below.drew ?_ | refine Below_then ?_ (by assumption) | refine Below.setCell ?_ (by first | omega | (simp; done) | (simp; omega)) _))
    have hO := hO0.below hb1
    clear hO0
    have hH : w1.heap[w.heap.size]? = some (.cells #[.slice A rows.length c] 29 (0, 0)) := heap_keepB (heap_keepA (heap_hit _ _ _ rfl) _) hb1
    clear hb1
    go_wp2_with fail
    go_loopw [6, 7] (fun o i wr => ∃ (k : Nat) (v : Value), k ≤ rows.length ∧ i = .int .i64 k ∧ o = v ∧ OwnI wr (w.heap.size + 1) 3 v (nums (rows.take k) (fun g => g.s.toList == nm.toList)) ∧ wr.heap[w.heap.size]? = some (.cells #[.slice A rows.length c] 29 (0, 0)) ∧ Below w.heap.size w wr) (fun _ i _ => rows.length - (intOf i).toNat)
    case atStart => exact ⟨0, _, Nat.zero_le _, rfl, rfl, by simpa [nums] using hO, hH, hT⟩
    case round =>
      clear hO hH hT
      obtain ⟨k, v, hk, rfl, hov, hO, hH, hb⟩ := hrel
      replace hov := hov.symm
      subst hov
      have cH := cell_of hH 0
      by_cases hlt : k < rows.length
      · obtain ⟨g, hg⟩ := grant_at hlt
        obtain ⟨b, off, rfl, hr, -⟩ := (HH.out.below hb).grants hg
        obtain ⟨cn, cs, cy, -⟩ := gc_cells hr
        have hlen := nums_take rows (fun g => g.s.toList == nm.toList) k hk
        have i1 : (k : Int) < (rows.length : Int) := by omega
        have d1 : decide (k < rows.length) = true := by simpa using hlt
        have HG := Lib.hid hg
        have hws := hb.size
        have hHl := heap_lt hH
        have hne := ownBlock_ne (b := w.heap.size) (hO.alloc (.cells #[.int .i64 g.n] 3)) (.inl (Nat.lt_succ_self _))
        cases hq : ((fun g => g.s.toList == nm.toList) : GrantD → Bool) g
        · have HQ := Lib.hid hq
          dsimp only at hq
          go_wp2_with fail
          go_roundw
          case rel => exact ⟨k + 1, _, by omega, by go_num, rfl, by rw [nums_no HG.out HQ.out]; exact hO, hH, hb⟩
          case measure => simp [intOf]; omega
        · have HQ := Lib.hid hq
          dsimp only at hq
          go_wp2_with (first | fail | (at_builtin; refine wp_appI rfl _ _ rfl (w.heap.size + 1) _ (nums (rows.take k) (fun g => g.s.toList == nm.toList)) rfl (hO.alloc _) _ _ rfl (cell_of (heap_hit _ _ _ rfl) 0) ?c1 ?c2 ?_; rotate_left 2; intro v' w9 hO9 hG9 hL9) | fail)
          try (case c1 => omega)
          try (case c2 => (simp; omega))
          have hH9 := heap_keepG (heap_keepA hH _) hG9 hne
          have hT9 := (Below_al hb _).trans (hL9.mono (Nat.le_succ _))
          clear hG9 hL9 hO hH cH hne
          go_wp2
          go_roundw
          case rel => exact ⟨k + 1, _, by omega, by go_num, rfl, by rw [nums_yes HG.out HQ.out]; exact hO9, hH9, hT9⟩
          case measure => simp [intOf]; omega
      · obtain rfl : k = rows.length := by omega
        have d1 : decide (rows.length < rows.length) = false := by simp
        rw [List.take_length] at hO
        go_wp2
        go_ret2
        exact ⟨_, rfl, OwnI.base hO (by omega), hb⟩
end Go.Proofs.Ytgdghkdljfcggaa
