/- Contracts: the tinctures of arms, both sides. -/
import Derived.Test.YtlonnkmfjijddaaGreatDoorBox15
import Derived.Test.YtlonnkmfjijddaaGreatDoorArms
import Derived.Test.YtlonnkmfjijddaaGreatDoorInts
namespace Go.Proofs.YtlonnkmfjijddaaGreatDoor
open Go.ChangeShapes Go.WideShapes Go.ChangeAt Go.RowKit
set_option linter.unusedVariables false
set_option linter.unusedSimpArgs false
theorem box15 (a : ArmsD) (w : World) : ∀ w', Below (w.alloc (.cells (ac a).toArray 47)).heap.size (w.alloc (.cells (ac a).toArray 47)) w' → Box15 w' w.heap.size a := fun w' hb =>
  Box15.below ⟨rangeAt_blk15 (heap_hit _ _ _ rfl)⟩ hb (by simp)
/-- Numbers in new memory. -/
def IntsIn (w : World) (zs : List Int) (e : Ending) (w' : World) : Prop := ∃ v, e = .returned v ∧ OwnI w' w.heap.size 3 v zs ∧ Below w.heap.size w w'
def tinF (d p q : Int) : List Int := if d = 0 then [p] else [p, q]
def nz (z : Int) : List Int := if z = 0 then [] else [z]
def tinsL (a : ArmsD) : List Int := tinF a.d a.p a.q ++ nz a.t ++ nz a.t1 ++ nz a.t2
theorem tinF_len (d p q : Int) : (tinF d p q).length ≤ 2 := by unfold tinF; split <;> simp
theorem nz_len (z : Int) : (nz z).length ≤ 1 := by unfold nz; split <;> simp
theorem arms_facts {a : ArmsD} (h : armsOk a = true) : (0 ≤ a.d ∧ a.d ≤ 7) ∧ (0 ≤ a.l ∧ a.l ≤ 4) ∧ (1 ≤ a.p ∧ a.p ≤ 9) ∧ (a.d = 0 ∧ a.l = 0 ∧ a.q = 0 ∨ a.d ≠ 0 ∧ 1 ≤ a.q ∧ a.q ≤ 9) ∧
    ((a.o = 0 ∧ a.li = 0 ∧ a.t = 0 ∧ a.c1 = 0 ∧ a.k1 = 0 ∧ a.a1 = 0 ∧ a.t1 = 0) ∨ ((1 ≤ a.o ∧ a.o ≤ 7) ∧ (0 ≤ a.li ∧ a.li ≤ 4) ∧ (1 ≤ a.t ∧ a.t ≤ 9))) ∧
    ((a.c1 = 0 ∧ a.k1 = 0 ∧ a.a1 = 0 ∧ a.t1 = 0) ∨ ((1 ≤ a.c1 ∧ a.c1 ≤ 6) ∧ (1 ≤ a.k1 ∧ a.k1 ≤ 8) ∧ (1 ≤ a.t1 ∧ a.t1 ≤ 9))) ∧
    ((a.c2 = 0 ∧ a.k2 = 0 ∧ a.a2 = 0 ∧ a.t2 = 0) ∨ ((1 ≤ a.c2 ∧ a.c2 ≤ 6) ∧ (1 ≤ a.k2 ∧ a.k2 ≤ 8) ∧ (1 ≤ a.t2 ∧ a.t2 ≤ 9))) := by
  unfold armsOk at h
  rw [Bool.and_eq_true, Bool.and_eq_true] at h
  obtain ⟨⟨h1, h2⟩, h3⟩ := h
  simp only [fieldOk, decide_eq_true_eq] at h1
  simp only [groupAny, groupNone, groupOk, Bool.or_eq_true, decide_eq_true_eq] at h2
  refine ⟨h1.1, h1.2.1, h1.2.2.1, by omega, ?_, ?_, by omega⟩
  · split at h3
    · simp only [groupNone, Bool.and_eq_true, decide_eq_true_eq] at h3
      exact .inl ⟨by assumption, by omega, by omega, by omega, by omega, by omega, by omega⟩
    · simp only [ordOk, Bool.and_eq_true, decide_eq_true_eq] at h3
      exact .inr (by omega)
  · split at h3
    · simp only [groupNone, Bool.and_eq_true, decide_eq_true_eq] at h3
      exact .inl (by omega)
    · simp only [groupAny, groupNone, groupOk, ordOk, Bool.and_eq_true, Bool.or_eq_true, decide_eq_true_eq] at h3
      omega

theorem fieldTins_any (d l p q : Int) (w : World) : Calls Tryz.prog 94 #[.agg #[.int .i64 d, .int .i64 l, .int .i64 p, .int .i64 q]] w (IntsIn w (tinF d p q)) := by
  unfold tinF
  by_cases h : d = 0
  · rw [if_pos h]
    have h1 : (d == 0) = true := by simpa using h
    clear h
    go_enter Tryz.func94, Tryz.ntmps94
    go_wp2
    go_ret
    exact ⟨_, rfl, OwnI.blk (zs := [p]) (heap_hit _ _ _ (by simp)) (by omega) (by simp [maxLen]), by (repeat (first | exact Below.refl _ _ | assumption | refine Below_al ?_ _ | refine Below.drew ?_ | refine Below_then ?_ (by assumption) | refine Below.setCell ?_ (by first | omega | (simp; done) | (simp; omega)) _))⟩
  · rw [if_neg h]
    have h1 : (d == 0) = false := by simpa using h
    clear h
    go_enter Tryz.func94, Tryz.ntmps94
    go_wp2
    go_ret
    exact ⟨_, rfl, OwnI.blk (zs := [p, q]) (heap_hit _ _ _ (by simp)) (by omega) (by simp [maxLen]), by (repeat (first | exact Below.refl _ _ | assumption | refine Below_al ?_ _ | refine Below.drew ?_ | refine Below_then ?_ (by assumption) | refine Below.setCell ?_ (by first | omega | (simp; done) | (simp; omega)) _))⟩

theorem l3Tins_any (d l p q : Int) (w : World) : Calls Tryz.prog 54 #[.agg #[.int .i64 d, .int .i64 l, .int .i64 p, .int .i64 q]] w (IntsIn w (tinF d p q)) := by
  unfold tinF
  by_cases h : d = 0
  · rw [if_pos h]
    have h1 : (d == 0) = true := by simpa using h
    clear h
    go_enter Tryz.func54, Tryz.ntmps54
    go_wp2
    go_ret
    exact ⟨_, rfl, OwnI.blk (zs := [p]) (heap_hit _ _ _ (by simp)) (by omega) (by simp [maxLen]), by (repeat (first | exact Below.refl _ _ | assumption | refine Below_al ?_ _ | refine Below.drew ?_ | refine Below_then ?_ (by assumption) | refine Below.setCell ?_ (by first | omega | (simp; done) | (simp; omega)) _))⟩
  · rw [if_neg h]
    have h1 : (d == 0) = false := by simpa using h
    clear h
    go_enter Tryz.func54, Tryz.ntmps54
    go_wp2
    go_ret
    exact ⟨_, rfl, OwnI.blk (zs := [p, q]) (heap_hit _ _ _ (by simp)) (by omega) (by simp [maxLen]), by (repeat (first | exact Below.refl _ _ | assumption | refine Below_al ?_ _ | refine Below.drew ?_ | refine Below_then ?_ (by assumption) | refine Below.setCell ?_ (by first | omega | (simp; done) | (simp; omega)) _))⟩

set_option maxHeartbeats 4000000 in
set_option maxRecDepth 20000 in
theorem specTins_any (a : ArmsD) (ga : armsOk a = true) (w : World) : Calls Tryz.prog 33 #[.agg (ac a).toArray] w (IntsIn w (tinsL a)) := by
  obtain ⟨f1, f2, f3, f4, f5, f6, f7⟩ := arms_facts ga
  have HB := Lib.hid (box15 a w)
  have KF := Lib.hid (fun w => l3Tins_any a.d a.l a.p a.q w)
  have K1 := Lib.hid (fun w => l4None_any a.c1 a.k1 a.a1 a.t1 w)
  have K2 := Lib.hid (fun w => l4None_any a.c2 a.k2 a.a2 a.t2 w)
  obtain ⟨zf, hzf⟩ : ∃ zf, zf = tinF a.d a.p a.q := ⟨_, rfl⟩
  have hlf : zf.length ≤ 2 := by rw [hzf]; exact tinF_len _ _ _
  have hL : tinsL a = zf ++ nz a.t ++ nz a.t1 ++ nz a.t2 := by rw [hzf]; rfl
  rw [hL]
  have KF' : ∀ w, Calls Tryz.prog 54 #[.agg #[.int .i64 a.d, .int .i64 a.l, .int .i64 a.p, .int .i64 a.q]] w (IntsIn w zf) := fun w => by rw [hzf]; exact KF.out w
  have KFF := Lib.hid KF'
  clear KF KF' hzf hL ga f1 f2 f3 f4
  have cO : (a.o = 0 ∧ a.t = 0 ∧ groupNone a.c1 a.k1 a.a1 a.t1 = true ∧ a.t1 = 0) ∨ (0 < a.o ∧ a.t ≠ 0) := by
    rcases f5 with ⟨h1, h2, h3, h4, h5, h6, h7⟩ | ⟨h1, h2, h3⟩
    · exact .inl ⟨h1, h3, by simp [groupNone, h4, h5, h6, h7], h7⟩
    · exact .inr ⟨by omega, by omega⟩
  have c1 : (groupNone a.c1 a.k1 a.a1 a.t1 = true ∧ a.t1 = 0) ∨ (groupNone a.c1 a.k1 a.a1 a.t1 = false ∧ a.t1 ≠ 0) := by
    rcases f6 with ⟨h1, h2, h3, h4⟩ | ⟨h1, h2, h3⟩
    · exact .inl ⟨by simp [groupNone, h1, h2, h3, h4], h4⟩
    · exact .inr ⟨by simp [groupNone]; omega, by omega⟩
  have c2 : (groupNone a.c2 a.k2 a.a2 a.t2 = true ∧ a.t2 = 0) ∨ (groupNone a.c2 a.k2 a.a2 a.t2 = false ∧ a.t2 ≠ 0) := by
    rcases f7 with ⟨h1, h2, h3, h4⟩ | ⟨h1, h2, h3⟩
    · exact .inl ⟨by simp [groupNone, h1, h2, h3, h4], h4⟩
    · exact .inr ⟨by simp [groupNone]; omega, by omega⟩
  clear f5 f6 f7
  obtain ⟨qo, hqo, eo⟩ : ∃ qo : Bool, qo = decide (0 < a.o) ∧ nz a.t = bif qo then [a.t] else [] := by
    rcases cO with ⟨h1, h2, -⟩ | ⟨h1, h2⟩
    · exact ⟨false, by simp [h1], by simp [nz, h2]⟩
    · exact ⟨true, by simp [h1], by simp [nz, h2]⟩
  obtain ⟨q1, hq1, e1⟩ : ∃ q1 : Bool, groupNone a.c1 a.k1 a.a1 a.t1 = !q1 ∧ nz a.t1 = bif q1 then [a.t1] else [] := by
    rcases c1 with ⟨h1, h2⟩ | ⟨h1, h2⟩
    · exact ⟨false, h1, by simp [nz, h2]⟩
    · exact ⟨true, h1, by simp [nz, h2]⟩
  obtain ⟨q2, hq2, e2⟩ : ∃ q2 : Bool, groupNone a.c2 a.k2 a.a2 a.t2 = !q2 ∧ nz a.t2 = bif q2 then [a.t2] else [] := by
    rcases c2 with ⟨h1, h2⟩ | ⟨h1, h2⟩
    · exact ⟨false, h1, by simp [nz, h2]⟩
    · exact ⟨true, h1, by simp [nz, h2]⟩
  rw [eo, e1, e2]
  rw [hq1] at K1
  rw [hq2] at K2
  have hpo : (0 < a.o) = (qo = true) := by rw [hqo]; simp
  clear cO c1 c2 eo e1 e2 hq1 hq2 hqo
  cases qo <;> cases q1 <;> cases q2
  all_goals
    have hpo2 : (0 < a.o) ∨ ¬ (0 < a.o) := by by_cases h : 0 < a.o; exact .inl h; exact .inr h
    have hoT := hpo
    simp only [Bool.false_eq_true, eq_iff_iff, iff_false, iff_true] at hoT
    clear hpo hpo2
    go_enter Tryz.func33, Tryz.ntmps33
    go_wp2_with (first | (refine ldFl rfl _ rfl w.heap.size 0 rfl _ _ _ _ (HB.out _ (by (repeat (first | exact Below.refl _ _ | assumption | refine Below_al ?_ _ | refine Below.drew ?_ | refine Below_then ?_ (by assumption) | refine Below.setCell ?_ (by first | omega | (simp; done) | (simp; omega)) _)))).f ?_) | fail)
    refine (KFF.out _).mono ?_
    rintro e w1 ⟨u, rfl, hO, hb1⟩
    have hTw : Below w.heap.size w w1 := by (repeat (first | exact Below.refl _ _ | assumption | refine Below_al ?_ _ | refine Below.drew ?_ | refine Below_then ?_ (by assumption) | refine Below.setCell ?_ (by first | omega | (simp; done) | (simp; omega)) _))
    have hT : Below (w.alloc (.cells (ac a).toArray 47)).heap.size (w.alloc (.cells (ac a).toArray 47)) w1 := hb1
    generalize hW0 : w.alloc (.cells (ac a).toArray 47) = W0 at hT HB hO
    have hs0 : w.heap.size ≤ W0.heap.size := by rw [← hW0]; simp
    clear hW0 hb1
    go_wp2_with (first | (refine ldI rfl _ rfl w.heap.size 4 rfl _ ((HB.out _ hT).cell 4 _ rfl) ?_) | (refine ldI rfl _ rfl w.heap.size 6 rfl _ ((HB.out _ hT).cell 6 _ rfl) ?_) | (refine ldI rfl _ rfl w.heap.size 10 rfl _ ((HB.out _ hT).cell 10 _ rfl) ?_) | (refine ldI rfl _ rfl w.heap.size 14 rfl _ ((HB.out _ hT).cell 14 _ rfl) ?_) | (refine ldGp rfl _ rfl w.heap.size 7 rfl _ _ _ _ (HB.out _ hT).g ?_) | (refine ldGp rfl _ rfl w.heap.size 11 rfl _ _ _ _ (HB.out _ hT).r ?_) | (go_at_call 35; first | ((with_reducible refine (K1.out _).mono ?_); rintro e wn ⟨rfl, hbn⟩; replace hT := Below_then hT hbn; replace hTw := Below_then hTw hbn; replace hO := hO.below hbn; clear hbn) | ((with_reducible refine (K2.out _).mono ?_); rintro e wn ⟨rfl, hbn⟩; replace hT := Below_then hT hbn; replace hTw := Below_then hTw hbn; replace hO := hO.below hbn; clear hbn)) | (at_builtin; refine wp_appI rfl _ _ rfl W0.heap.size _ _ rfl (hO.alloc _) _ _ rfl (cell_of (heap_hit _ _ _ rfl) 0) (by first | omega | (simp; done) | (simp; omega)) (by have := hT.size; first | (simp; done) | (simp; omega)) ?_; intro v9 w9 hO9 hG9 hL9; replace hO := hO9; replace hT := (Below_al hT _).trans hL9; replace hTw := (Below_al hTw _).trans (hL9.mono hs0); clear hG9 hL9 hO9) | fail)
    obtain ⟨A6, d6, rfl, -⟩ := hO.form
    go_ret
    refine ⟨_, rfl, ?_, by (repeat (first | exact Below.refl _ _ | assumption | refine Below_al ?_ _ | refine Below.drew ?_ | refine Below_then ?_ (by assumption) | refine Below.setCell ?_ (by first | omega | (simp; done) | (simp; omega)) _))⟩
    simpa using OwnI.base hO hs0

/-- What stands while tinctures are collected. -/
structure TinI (W0 : World) (G : Nat) (ts : List Int) (u : Value) (zs : List Int) (w : World) : Prop where
  own : OwnI w W0.heap.size 3 u zs
  arr : w.heap[G]? = some (.cells (ints ts) 3 (0, 0))
  ne : u.ownBlock ≠ some G
  bel : Below W0.heap.size W0 w
theorem TinI.app {W0 w w' : World} {G : Nat} {ts zs zs' : List Int} {u u' : Value} (h : TinI W0 G ts u zs w) (o : Obj) (ho : OwnI w' W0.heap.size 3 u' zs') (hg : (w.alloc o).grownBy w' u.ownBlock) (hb : Below W0.heap.size (w.alloc o) w') (hat : u'.ownBlock = u.ownBlock ∨ u'.ownBlock = some (w.alloc o).heap.size) : TinI W0 G ts u' zs' w' :=
  ⟨ho, heap_keepG (heap_keepA h.arr o) hg h.ne, by
    rcases hat with e | e
    · rw [e]; exact h.ne
    · rw [e]; intro e2; injection e2 with e2; have := heap_lt h.arr; simp at e2; omega, (Below_al h.bel o).trans hb⟩
set_option maxHeartbeats 4000000 in
set_option maxRecDepth 20000 in
theorem implTins_any (a : ArmsD) (w : World) : Calls Tryz.prog 65 #[.agg (ac a).toArray] w (IntsIn w (tinsL a)) := by
  have HB := Lib.hid (box15 a w)
  have KF := Lib.hid (fun w => fieldTins_any a.d a.l a.p a.q w)
  obtain ⟨ts, hts⟩ : ∃ ts : List Int, ts = [a.t, a.t1, a.t2] := ⟨_, rfl⟩
  have hL : tinsL a = tinF a.d a.p a.q ++ ts.flatMap nz := by rw [hts]; simp [tinsL]
  have hl3 : ts.length = 3 := by rw [hts]; rfl
  have hlf := tinF_len a.d a.p a.q
  rw [hL]
  obtain ⟨zf, hzf⟩ : ∃ zf, zf = tinF a.d a.p a.q := ⟨_, rfl⟩
  rw [← hzf] at hlf KF ⊢
  have HTS := Lib.hid hts
  have HL3 := Lib.hid hl3
  clear hL hts hl3 hzf
  go_enter Tryz.func65, Tryz.ntmps65
  go_wp2_with (first | (refine ldFl rfl _ rfl w.heap.size 0 rfl _ _ _ _ (HB.out _ (by (repeat (first | exact Below.refl _ _ | assumption | refine Below_al ?_ _ | refine Below.drew ?_ | refine Below_then ?_ (by assumption) | refine Below.setCell ?_ (by first | omega | (simp; done) | (simp; omega)) _)))).f ?_) | fail)
  refine (KF.out _).mono ?_
  rintro e w1 ⟨u, rfl, hO, hb1⟩
  have hTw : Below w.heap.size w w1 := by (repeat (first | exact Below.refl _ _ | assumption | refine Below_al ?_ _ | refine Below.drew ?_ | refine Below_then ?_ (by assumption) | refine Below.setCell ?_ (by first | omega | (simp; done) | (simp; omega)) _))
  have hT : Below (w.alloc (.cells (ac a).toArray 47)).heap.size (w.alloc (.cells (ac a).toArray 47)) w1 := hb1
  generalize hW0 : w.alloc (.cells (ac a).toArray 47) = W0 at hT HB hO
  have hs0 : w.heap.size ≤ W0.heap.size := by rw [← hW0]; simp
  have hW0b : Below w.heap.size w W0 := by rw [← hW0]; exact Below_al (Below.refl _ _) _
  clear hW0 hb1
  go_wp2_with (first | (refine ldI rfl _ rfl w.heap.size 6 rfl _ ((HB.out _ hT).cell 6 _ rfl) ?_) | (refine ldI rfl _ rfl w.heap.size 10 rfl _ ((HB.out _ hT).cell 10 _ rfl) ?_) | (refine ldI rfl _ rfl w.heap.size 14 rfl _ ((HB.out _ hT).cell 14 _ rfl) ?_) | fail)
  have hI : TinI W0 w1.heap.size ts u (zf ++ (ts.take 0).flatMap nz) (w1.alloc (.cells #[.int .i64 a.t, .int .i64 a.t1, .int .i64 a.t2] 3)) :=
    ⟨by simpa using hO.alloc _, by rw [HTS.out]; exact heap_hit _ _ _ rfl, ownBlock_ne hO (.inr (Nat.le_refl _)), Below_al hT _⟩
  obtain ⟨G, hG⟩ : ∃ G, G = w1.heap.size := ⟨_, rfl⟩
  rw [← hG] at hI
  rw [← hG]
  clear hG hO hT hTw KF HB
  go_loopw [3, 19] (fun o i wr => ∃ (k : Nat) (u : Value), k ≤ 3 ∧ i = .int .i64 k ∧ o = u ∧ TinI W0 G ts u (zf ++ (ts.take k).flatMap nz) wr) (fun _ i _ => 3 - (intOf i).toNat)
  case atStart => exact ⟨0, _, Nat.zero_le _, rfl, rfl, hI⟩
  case round =>
    clear hI
    obtain ⟨k, u, hk, rfl, hou, hI⟩ := hrel
    replace hou := hou.symm
    subst hou
    by_cases hlt : k < 3
    · obtain ⟨x, hx⟩ : ∃ x, ts[k]? = some x := ⟨_, List.getElem?_eq_getElem (by rw [HL3.out]; exact hlt)⟩
      have c1 : wr.cell? ⟨G, k, none⟩ = some (.int .i64 x) := by rw [cell_of hI.arr, get_ints, hx]; rfl
      have hst : zf ++ (ts.take (k + 1)).flatMap nz = (zf ++ (ts.take k).flatMap nz) ++ nz x := by rw [List.take_add_one, hx]; simp
      have HST := Lib.hid hst
      have i1 : (k : Int) < 3 := by omega
      have hln : (zf ++ (ts.take k).flatMap nz).length ≤ 1099511627776 := by
        have : ∀ l : List Int, (l.flatMap nz).length ≤ l.length := by
          intro l
          induction l with
          | nil => simp
          | cons y l ih => have := nz_len y; simp only [List.flatMap_cons, List.length_append, List.length_cons]; omega
        have h1 := this (ts.take k)
        rw [List.length_take] at h1
        rw [List.length_append]
        omega
      obtain ⟨zs, hzs⟩ : ∃ zs, zs = zf ++ (ts.take k).flatMap nz := ⟨_, rfl⟩
      rw [← hzs] at hI hln hst
      have HZS := Lib.hid hzs
      have hsz := hI.bel.size
      clear hx hst hzs
      by_cases h0 : x = 0
      · have hq : (x != 0) = false := by simpa using h0
        have HX := Lib.hid h0
        clear h0
        go_wp2
        go_roundw
        case rel => exact ⟨k + 1, _, by omega, by go_num, rfl, by rw [HST.out, ← HZS.out, HX.out]; simpa [nz] using hI⟩
        case measure => simp [intOf]; omega
      · have hq : (x != 0) = true := by simpa using h0
        have HX := Lib.hid h0
        clear h0
        go_wp2_with (first | (at_builtin; refine wp_appIat rfl _ _ rfl W0.heap.size u zs rfl (hI.own.alloc _) _ _ rfl (cell_of (heap_hit _ _ _ rfl) 0) hln (by first | omega | (simp; omega)) ?_; intro v' w9 hO9 hG9 hL9 hA9; have hI9 := hI.app _ hO9 hG9 hL9 hA9) | fail)
        go_roundw
        case rel => exact ⟨k + 1, _, by omega, by go_num, rfl, by rw [HST.out, ← HZS.out, nz, if_neg HX.out]; exact hI9⟩
        case measure => simp [intOf]; omega
    · obtain rfl : k = 3 := by omega
      have hO := hI.own
      have hbl := hI.bel
      rw [List.take_of_length_le (by rw [HL3.out]; omega)] at hO
      obtain ⟨A6, d6, rfl, -⟩ := hO.form
      clear hI
      go_wp2
      go_ret
      refine ⟨_, rfl, ?_, hW0b.trans (hbl.mono hs0)⟩
      exact OwnI.base hO hs0
end Go.Proofs.YtlonnkmfjijddaaGreatDoor
