/- Contracts: ParseRuns, both sides. -/
import Derived.Test.YtenaadmifppphaaGreatDoorPL
namespace Go.Proofs.YtenaadmifppphaaGreatDoor
open Go.ChangeShapes Go.WideShapes Go.ChangeAt Go.RowKit
set_option linter.unusedVariables false
set_option linter.unusedSimpArgs false
theorem decD_short (n : Nat) (h : 1 ≤ n) : (Lib.decDigits n).length ≤ n := by
  induction n using Nat.strongRecOn with
  | _ n ih =>
    by_cases h1 : n < 10
    · rw [Lib.decDigits_one h1]; simpa using h
    · rw [decD_step h1, List.length_append]
      have := ih (n / 10) (by omega) (by omega)
      simp
      omega
theorem decD_short2 (n : Nat) (h : 2 ≤ n) : (Lib.decDigits n).length + 1 ≤ n := by
  by_cases h1 : n < 10
  · rw [Lib.decDigits_one h1]; simpa using h
  · rw [decD_step h1, List.length_append]
    have := decD_short (n / 10) (by omega)
    simp
    omega
/-- The short form is not longer. -/
theorem runsL_le : ∀ (k : Nat) (t : List UInt8), t.length ≤ k → (runsL t).length ≤ t.length := by
  intro k
  induction k with
  | zero =>
    intro t h
    have : t = [] := by simpa using h
    subst this
    rw [runsL]; simp
  | succ k ih =>
    intro t h
    match t with
    | [] => rw [runsL]; simp
    | c :: u =>
      obtain ⟨m, r, e1, e2, e3⟩ := runs_cons c u
      have ihr := ih r (by simp at h; omega)
      have hl : (c :: u).length = m + 1 + r.length := by rw [e1]; simp
      rw [e3, List.length_append, List.length_cons, hl]
      by_cases q : m = 0
      · rw [if_pos q]; simp; omega
      · rw [if_neg q]
        have := decD_short2 (m + 1) (by omega)
        omega
/-- What is read of runs. -/
def prs (s : List UInt8) : Option (List UInt8) := match decI s with
  | some p => if rdOk p.1 && decide (runsL p.1 = s) then some p.1 else none
  | none => none
def prOk (s : ByteArray) : Bool := (prs s.data.toList).isSome
def prRows (s : ByteArray) : List (List Int) := match prs s.data.toList with
  | some a => picP a 24
  | none => []
theorem prs_some {s a : List UInt8} : prs s = some a ↔ ((decI s).map (·.1) = some a ∧ rdOk a = true ∧ runsL a = s) := by
  unfold prs
  cases h : decI s with
  | none => simp
  | some p =>
    simp only [Option.map_some, Option.some.injEq]
    by_cases q : (rdOk p.1 && decide (runsL p.1 = s)) = true
    · rw [if_pos q]
      rw [Bool.and_eq_true, decide_eq_true_iff] at q
      constructor
      · intro e
        injection e with e
        subst e
        exact ⟨rfl, q⟩
      · rintro ⟨e, -⟩
        rw [e]
    · rw [if_neg q]
      constructor
      · intro e; cases e
      · rintro ⟨e, h1, h2⟩
        subst e
        exact absurd (by rw [h1, h2]; simp) q
theorem prs_len {s a : List UInt8} (h : prs s = some a) : s.length ≤ 480 ∧ a.length = 480 := by
  obtain ⟨-, h1, h2⟩ := prs_some.1 h
  have hl := (rd_plain h1).2
  have := runsL_le 480 a (by omega)
  rw [h2] at this
  exact ⟨by omega, hl⟩
theorem pr_big {s : ByteArray} (h : 480 < s.size) : prOk s = false ∧ prRows s = [] := by
  have hn : prs s.data.toList = none := by
    cases e : prs s.data.toList with
    | none => rfl
    | some a => have := (prs_len e).1; rw [bytes_len] at this; omega
  exact ⟨by unfold prOk; rw [hn]; rfl, by unfold prRows; rw [hn]⟩
theorem pr_none {s : ByteArray} (h : prs s.data.toList = none) : prOk s = false ∧ prRows s = [] := ⟨by unfold prOk; rw [h]; rfl, by unfold prRows; rw [h]⟩
theorem pr_some {s : ByteArray} {a : List UInt8} (h : prs s.data.toList = some a) : prOk s = true ∧ prRows s = picP a 24 := ⟨by unfold prOk; rw [h]; rfl, by unfold prRows; rw [h]⟩
theorem pr_small (s : ByteArray) : Small (prRows s) := by
  cases h : prs s.data.toList with
  | none => rw [(pr_none h).2]; exact ⟨by simp, fun r hr => by simp at hr⟩
  | some a => rw [(pr_some h).2, ← gridI_all (prs_len h).2]; exact gridI_small _ _
theorem decI_step {s : List UInt8} {k : Nat} {b : UInt8} (h : s[k]? = some b) : (s.take (k + 1)).foldl stepI (some ([], 0)) = stepI ((s.take k).foldl stepI (some ([], 0))) b := by
  rw [List.take_add_one, h, List.foldl_append]
  rfl
theorem decI_dead {s : List UInt8} {k : Nat} (h : (s.take k).foldl stepI (some ([], 0)) = none) : decI s = none := by
  unfold decI
  conv => lhs; rw [← List.take_append_drop k s, List.foldl_append, h]
  exact stepI_none _
theorem prs_dead {s : List UInt8} (h : decI s = none) : prs s = none := by unfold prs; rw [h]
set_option maxHeartbeats 8000000 in
theorem implParseRuns_any (s : ByteArray) (w : World) (hI : ItoaAt w) : Calls Tryz.prog 12 #[.string s] w (GridOk w (prRows s) (prOk s)) := by
  by_cases hz : s.size ≤ 960
  · have hd2 : ¬ (960 : Int) < (s.size : Int) := by omega
    have HI := Lib.hid hI
    have HZ := Lib.hid hz
    clear hI
    go_enter Tryz.func12, Tryz.ntmps12
    go_wp2_with fail
    clear hd2
    go_loopw [4, 5, 15] (fun ov cv iv wr => ∃ (k c : Nat) (v : Value) (o : List UInt8), k ≤ s.size ∧ iv = .int .i64 k ∧ cv = .int .i64 c ∧ ov = v ∧ OwnB wr w.heap.size v o ∧ c ≤ 480 ∧ o.length ≤ 480 ∧ (s.data.toList.take k).foldl stepI (some ([], 0)) = some (o, c) ∧ Below w.heap.size w wr) (fun _ _ iv _ => s.size - (intOf iv).toNat)
    case atStart => exact ⟨0, 0, _, [], Nat.zero_le _, rfl, rfl, rfl, OwnB.empty _ _ (Nat.le_refl _), by omega, by simp, rfl, by (repeat (first | exact Below.refl _ _ | assumption | refine Below_al ?_ _ | refine Below.drew ?_ | refine Below_then ?_ (by assumption) | refine Below.setCell ?_ (by first | omega | (simp; done) | (simp; omega)) _))⟩
    case round =>
      obtain ⟨k, c, v, o, hk, rfl, rfl, hov, hO, hc, hol, hE, hb⟩ := hrel
      replace hov := hov.symm
      subst hov
      obtain ⟨wo, hwo⟩ : ∃ x, x = wr := ⟨wr, rfl⟩
      rw [← hwo] at hO hb ⊢
      clear hwo
      have HE := Lib.hid hE
      have HO := Lib.hid hO
      have HB := Lib.hid hb
      clear hE hO hb
      by_cases hlt : k < s.size
      · have i1 : (k : Int) < (s.size : Int) := by omega
        have d1 : decide (k < s.size) = true := by simpa using hlt
        have hbt := byte_at hlt
        obtain ⟨bb, hbb⟩ : ∃ bb : UInt8, bb = s[k]'hlt := ⟨_, rfl⟩
        rw [← hbb] at hbt
        have hst := decI_step hbt
        rw [HE.out] at hst
        obtain ⟨z, hzz⟩ : ∃ z : Int, z = (bb.toNat : Int) := ⟨_, rfl⟩
        have hzb : ((s[k]'hlt).toNat : Int) = z := by rw [hzz, hbb]
        have HZZ := Lib.hid hzz
        have HST := Lib.hid hst
        clear hbt hst hzz hbb
        by_cases hdig : 48 ≤ z ∧ z ≤ 57
        · have g1 : ¬ z < 48 := by omega
          have g2 : ¬ 57 < z := by omega
          have g3 : 48 ≤ z := by omega
          have g4 : z ≤ 57 := by omega
          have hu : IntKind.u8.wrap (z - 48) = z - 48 := by rw [IntKind.wrap_u8]; omega
          have hw1 : IntKind.i64.wrap (z - 48) = z - 48 := by rw [IntKind.wrap_i64]; omega
          have hw2 : IntKind.i64.wrap (10 * (c : Int)) = 10 * (c : Int) := by rw [IntKind.wrap_i64]; omega
          have hw3 : IntKind.i64.wrap (10 * (c : Int) + (z - 48)) = 10 * (c : Int) + (z - 48) := by rw [IntKind.wrap_i64]; omega
          have hdb : digB bb = true := by simp [digB]; have := HZZ.out; omega
          obtain ⟨c2, hc2⟩ : ∃ c2 : Nat, c2 = 10 * c + (bb.toNat - 48) := ⟨_, rfl⟩
          have hE2 : 10 * (c : Int) + (z - 48) = (c2 : Int) := by rw [hc2]; have := HZZ.out; omega
          have HE2 := Lib.hid hE2
          have HC2 := Lib.hid hc2
          have HDB := Lib.hid hdb
          by_cases hbig : 480 < c2
          · have g5 : (480 : Int) < 10 * (c : Int) + (z - 48) := by omega
            have hnone : prs s.data.toList = none := prs_dead (decI_dead (k := k + 1) (by rw [HST.out]; simp only [stepI]; rw [if_pos HDB.out, ← HC2.out, if_pos hbig]))
            have HN := Lib.hid (pr_none hnone)
            clear hE2 hc2 hdb hdig hbig hnone
            go_wp2_with fail
            go_ret2
            exact ⟨_, _, by rw [HN.out.1]; rfl, by rw [HN.out.2]; exact GG.nil _ _, HB.out⟩
          · have g5 : ¬ (480 : Int) < 10 * (c : Int) + (z - 48) := by omega
            have hnew : (s.data.toList.take (k + 1)).foldl stepI (some ([], 0)) = some (o, c2) := by rw [HST.out]; simp only [stepI]; rw [if_pos HDB.out, ← HC2.out, if_neg hbig]
            have HN := Lib.hid hnew
            have HBG := Lib.hid hbig
            clear hE2 hc2 hdb hdig hbig hnew
            go_wp2_with fail
            go_roundw
            case rel => exact ⟨k + 1, c2, _, o, by omega, by go_num, by rw [HE2.out], rfl, HO.out, by have := HBG.out; omega, hol, HN.out, HB.out⟩
            case measure => simp [intOf]; omega
        · have hdb : digB bb = false := by simp [digB]; have := HZZ.out; omega
          have HDB := Lib.hid hdb
          have g1 : z < 48 ∨ 57 < z := by omega
          obtain ⟨mx, hmx⟩ : ∃ mx : Nat, mx = max c 1 := ⟨_, rfl⟩
          have HMX := Lib.hid hmx
          have emx : max (c : Int) 1 = (mx : Int) := by omega
          have mx0 : 1 ≤ mx := by omega
          have mx4 : mx ≤ 480 := by omega
          clear hdb hdig hmx
          rcases g1 with g1 | g1
          all_goals
            go_wp2_with fail
            clear emx g1
            go_loopw [4, 40] (fun ov jv wr => ∃ (j : Nat) (v2 : Value), j ≤ mx ∧ jv = .int .i64 j ∧ ov = v2 ∧ OwnB wr w.heap.size v2 (o ++ List.replicate j bb) ∧ Below w.heap.size w wr) (fun _ jv _ => mx - (intOf jv).toNat)
            case atStart => exact ⟨0, _, Nat.zero_le _, rfl, rfl, by simpa using HO.out, HB.out⟩
            case round =>
              obtain ⟨j, v2, hj, rfl, hov2, hO2, hb2⟩ := hrel
              replace hov2 := hov2.symm
              subst hov2
              obtain ⟨wi, hwi⟩ : ∃ x, x = wr := ⟨wr, rfl⟩
              rw [← hwi] at hO2 hb2 ⊢
              clear hwi
              have HO2 := Lib.hid hO2
              have HB2 := Lib.hid hb2
              have hsz := hb2.size
              clear hO2 hb2
              by_cases hjl : j < mx
              · have i2 : (j : Int) < (mx : Int) := by omega
                have d2 : decide (j < mx) = true := by simpa using hjl
                have hlen : (o ++ List.replicate j bb).length ≤ 960 := by rw [List.length_append, List.length_replicate]; omega
                go_wp2_with (first | (at_builtin; refine wp_appB bb rfl _ _ rfl w.heap.size _ (o ++ List.replicate j bb) rfl (HO2.out.alloc _) _ _ rfl (cell_of (heap_hit _ _ _ rfl) 0) (by first | rfl | exact HZZ.out) (by omega) (by rw [World.size_alloc]; omega) ?_; intro v' w3 hO3 hg3 hb3; have hbb := (Below_al HB2.out _).trans hb3; clear hg3 hb3) | fail)
                have hO4 : OwnB w3 w.heap.size v' (o ++ List.replicate (j + 1) bb) := by
                  have e : List.replicate (j + 1) bb = List.replicate j bb ++ [bb] := by rw [List.replicate_succ']
                  rw [e, ← List.append_assoc]
                  exact hO3
                clear hO3
                go_roundw
                case rel => exact ⟨j + 1, v', by omega, by go_num, rfl, hO4, hbb⟩
                case measure => simp [intOf]; omega
              · obtain rfl : j = mx := by omega
                have d2 : decide (j < j) = false := by simp
                obtain ⟨o2, ho2⟩ : ∃ o2, o2 = o ++ List.replicate j bb := ⟨_, rfl⟩
                have hst2 : (s.data.toList.take (k + 1)).foldl stepI (some ([], 0)) = if 480 < o2.length then none else some (o2, 0) := by
                  rw [HST.out]
                  simp only [stepI]
                  rw [HDB.out, ← HMX.out, ← ho2]
                  rfl
                rw [← ho2] at HO2
                have HST2 := Lib.hid hst2
                obtain ⟨A3, c3, rfl, -⟩ := ownsRow_form HO2.out
                clear hst2 ho2
                by_cases hbig : 480 < o2.length
                · have g5 : (480 : Int) < (o2.length : Int) := by omega
                  have hnone : prs s.data.toList = none := prs_dead (decI_dead (k := k + 1) (by rw [HST2.out, if_pos hbig]))
                  have HN := Lib.hid (pr_none hnone)
                  clear hbig hnone
                  go_wp2_with fail
                  go_ret2
                  exact ⟨_, _, by rw [HN.out.1]; rfl, by rw [HN.out.2]; exact GG.nil _ _, HB2.out⟩
                · have g5 : ¬ (480 : Int) < (o2.length : Int) := by omega
                  have hnew : (s.data.toList.take (k + 1)).foldl stepI (some ([], 0)) = some (o2, 0) := by rw [HST2.out, if_neg hbig]
                  have HN := Lib.hid hnew
                  have HBG := Lib.hid hbig
                  clear hbig hnew
                  go_wp2_with fail
                  go_roundw
                  case rel => exact ⟨k + 1, 0, _, o2, by omega, by go_num, rfl, rfl, HO2.out, by omega, by have := HBG.out; omega, HN.out, HB2.out⟩
                  case measure => simp [intOf]; omega
      · obtain rfl : k = s.size := by omega
        have d1 : decide (s.size < s.size) = false := by simp
        have hdec : decI s.data.toList = some (o, c) := by
          have := HE.out
          rwa [List.take_of_length_le (by rw [bytes_len]; exact Nat.le_refl _)] at this
        have hprs : prs s.data.toList = if rdOk o && decide (runsL o = s.data.toList) then some o else none := by unfold prs; rw [hdec]
        have hcv := HO.out.conv
        have KP := fun w => pictureOf_any ⟨o.toArray⟩ (by show o.toArray.size ≤ _; rw [List.size_toArray]; omega) w
        rw [dtl] at KP
        have HPRS := Lib.hid hprs
        clear hdec hprs
        cases hok : rdOk o
        · have HN := Lib.hid (pr_none (s := s) (by rw [HPRS.out, hok]; rfl))
          rw [hok] at KP
          have KP' := Lib.hid KP
          clear KP hok
          go_wp2_with fail
          refine (KP'.out _).mono ?_
          rintro e w2 ⟨v2, rfl, hb2, -⟩
          have hT := Below_then HB.out hb2
          clear hcv
          go_wp2
          go_ret2
          exact ⟨_, _, by rw [HN.out.1]; rfl, by rw [HN.out.2]; exact GG.nil _ _, hT⟩
        · rw [hok] at KP
          have KP' := Lib.hid KP
          have KR := fun w hI => implRuns_any ⟨o.toArray⟩ (by show o.toArray.size ≤ _; rw [List.size_toArray]; omega) w hI
          rw [dtl] at KR
          obtain ⟨tx, htx⟩ : ∃ tx : ByteArray, tx = ⟨(runsL o).toArray⟩ := ⟨_, rfl⟩
          rw [← htx] at KR
          have KR' := Lib.hid KR
          have hcase : (prs s.data.toList = some o ∧ (tx.toList == s.toList) = true) ∨ (prs s.data.toList = none ∧ (tx.toList == s.toList) = false) := by
            by_cases e : tx = s
            · left
              refine ⟨?_, eqS_iff.2 e⟩
              rw [HPRS.out, hok, if_pos]
              rw [← e, htx]
              simp
            · right
              refine ⟨?_, eqS_ne e⟩
              rw [HPRS.out, if_neg]
              intro h
              rw [Bool.and_eq_true, decide_eq_true_iff] at h
              refine e ?_
              rw [htx, h.2]
          clear KP KR hok htx
          rcases hcase with ⟨hy, hq⟩ | ⟨hy, hq⟩
          · have HN := Lib.hid (pr_some hy)
            clear hy
            go_wp2_with fail
            refine (KP'.out _).mono ?_
            rintro e w2 ⟨v2, rfl, hb2, hv⟩
            obtain ⟨A, cc, vs, rfl, hG⟩ := hv rfl
            have hT := Below_then HB.out hb2
            have HG := Lib.hid hG
            have hcv2 := (HO.out.below hb2).conv
            have hsz := HB.out.size
            clear hcv hG hv
            go_wp2_with fail
            refine (KR'.out _ (HI.out.below hT)).mono ?_
            rintro e w3 ⟨rfl, hb3⟩
            have hT3 := Below_then hT hb3
            clear hcv2
            go_wp2
            go_ret2
            exact ⟨_, vs, by rw [HN.out.1]; rfl, by rw [HN.out.2]; exact (HG.out.below hb3).base hsz, hT3⟩
          · have HN := Lib.hid (pr_none hy)
            clear hy
            go_wp2_with fail
            refine (KP'.out _).mono ?_
            rintro e w2 ⟨v2, rfl, hb2, hv⟩
            obtain ⟨A, cc, vs, rfl, hG⟩ := hv rfl
            have hT := Below_then HB.out hb2
            have hcv2 := (HO.out.below hb2).conv
            clear hcv hG hv
            go_wp2_with fail
            refine (KR'.out _ (HI.out.below hT)).mono ?_
            rintro e w3 ⟨rfl, hb3⟩
            have hT3 := Below_then hT hb3
            clear hcv2
            go_wp2
            go_ret2
            exact ⟨_, _, by rw [HN.out.1]; rfl, by rw [HN.out.2]; exact GG.nil _ _, hT3⟩
  · have hd : (960 : Int) < (s.size : Int) := by omega
    have HN := Lib.hid (pr_big (s := s) (by omega))
    clear hz hI
    go_enter Tryz.func12, Tryz.ntmps12
    go_wp2
    go_ret2
    exact ⟨_, _, by rw [HN.out.1]; rfl, by rw [HN.out.2]; exact GG.nil _ _, Below.refl _ _⟩
end Go.Proofs.YtenaadmifppphaaGreatDoor
