/- Contracts: ParseRuns of the reference. -/
import Derived.Test.YtenaadmifppphaaGreatDoorPR
namespace Go.Proofs.YtenaadmifppphaaGreatDoor
open Go.ChangeShapes Go.WideShapes Go.ChangeAt Go.RowKit
set_option linter.unusedVariables false
set_option linter.unusedSimpArgs false
/-- One token. -/
theorem decS_tok (f : Nat) (all : List UInt8) {L : List UInt8} {i k : Nat} (hi : i < L.length) (hik : i ≤ k) (hk : k ≤ L.length) (h1 : ∀ j x, i ≤ j → j < k → L[j]? = some x → digB x = true) (h2 : ∀ x, L[k]? = some x → digB x = false) :
    decS (f + 1) all (L.drop i) = if tokOk ((L.drop i).take (k - i)) then (match L.drop k with
      | [] => none
      | c :: t => if 480 < all.length + tokN ((L.drop i).take (k - i)) then none else decS f (all ++ List.replicate (tokN ((L.drop i).take (k - i))) c) t) else none := by
  obtain ⟨t1, t2⟩ := takeWhile_at (p := digB) (L.drop i) (k - i) (by rw [List.length_drop]; omega)
    (fun j x hj hx => by rw [List.getElem?_drop] at hx; exact h1 _ x (by omega) (by omega) hx)
    (fun x hx => by rw [List.getElem?_drop, show i + (k - i) = k by omega] at hx; exact h2 x hx)
  rw [List.drop_drop, show i + (k - i) = k by omega] at t2
  obtain ⟨b, u, hbu⟩ : ∃ b u, L.drop i = b :: u := ⟨_, _, List.drop_eq_getElem_cons hi⟩
  rw [hbu] at t1 t2 ⊢
  rw [decS]
  simp only [t1, t2]
  cases List.drop k L <;> rfl
theorem tok_c {L : List UInt8} {k : Nat} {c : UInt8} (h : L[k]? = some c) : L.drop k = c :: L.drop (k + 1) := by
  obtain ⟨hl, hg⟩ := List.getElem?_eq_some_iff.1 h
  rw [List.drop_eq_getElem_cons hl, hg]
theorem dec_S (t a : List UInt8) : ((decI t).map (·.1) = some a ∧ rdOk a = true ∧ runsL a = t) ↔ (decS (t.length + 481) [] t = some a ∧ rdOk a = true ∧ runsL a = t) :=
  dec_same rdOk (fun t h => rd_plain h) t (t.length + 481) (by omega) a a
theorem prs_S0 {t : List UInt8} (h : decS (t.length + 481) [] t = none) : prs t = none := by
  cases e : prs t with
  | none => rfl
  | some a =>
    have := ((dec_S t a).1 (prs_some.1 e)).1
    rw [h] at this
    cases this
theorem prs_S1 {t a : List UInt8} (h : decS (t.length + 481) [] t = some a) : prs t = if rdOk a && decide (runsL a = t) then some a else none := by
  by_cases q : (rdOk a && decide (runsL a = t)) = true
  · rw [if_pos q]
    rw [Bool.and_eq_true, decide_eq_true_iff] at q
    exact prs_some.2 ((dec_S t a).2 ⟨h, q⟩)
  · rw [if_neg q]
    cases e : prs t with
    | none => rfl
    | some b =>
      have h2 := (dec_S t b).1 (prs_some.1 e)
      rw [h] at h2
      obtain ⟨h3, h4, h5⟩ := h2
      injection h3 with h3
      subst h3
      exact absurd (by rw [h4, h5]; simp) q
theorem ext_list (t : List UInt8) (i m : Nat) : (⟨t.toArray⟩ : ByteArray).extract i m = ⟨((t.drop i).take (m - i)).toArray⟩ := by
  apply ByteArray.ext
  simp [ByteArray.data_extract, List.extract_eq_take_drop]
theorem bytes_beq (a b : List UInt8) : ((⟨a.toArray⟩ : ByteArray).toList == (⟨b.toArray⟩ : ByteArray).toList) = decide (a = b) := by
  by_cases h : a = b
  · subst h; rw [eqS_self]; simp
  · rw [eqS_ne (fun e => h (by have := congrArg (fun s : ByteArray => s.data.toList) e; simpa using this))]; simp [h]
/-- What is read of digits. -/
theorem read_digs {D : List UInt8} (hd : digs D = true) : readOk ⟨D.toArray⟩ = decide (Lib.decDigits (valD D) = D) := by
  unfold readOk nText
  rw [dtl, hd, Bool.true_and, bytes_beq]
theorem digs_of {t : List UInt8} {i k : Nat} (h1 : ∀ j x, i ≤ j → j < k → t[j]? = some x → digB x = true) (m : Nat) (hm : i + m ≤ k) : digs ((t.drop i).take m) = true := by
  unfold digs
  rw [List.all_eq_true]
  intro x hx
  obtain ⟨j, hj⟩ := List.getElem?_of_mem hx
  have hl := (List.getElem?_eq_some_iff.1 hj).1
  rw [List.length_take] at hl
  rw [List.getElem?_take_of_lt (by omega), List.getElem?_drop] at hj
  exact h1 _ x (by omega) (by omega) hj
theorem str_push (a t : List UInt8) (k : Nat) (c : UInt8) (h : t[k]? = some c) : ((⟨a.toArray⟩ : ByteArray) ++ (⟨t.toArray⟩ : ByteArray).extract k (k + 1)) = ⟨(a ++ [c]).toArray⟩ := by
  rw [ext_list]
  apply ByteArray.ext
  have : (t.drop k).take (k + 1 - k) = [c] := by rw [tok_c h, Nat.add_sub_cancel_left]; rfl
  rw [this]
  simp [ByteArray.data_append]
theorem neq_run {a b : ByteArray} {q : Bool} (h : (a.toList == b.toList) = q) : ∀ w, (binOp .neq 9 (.string a) (.string b)).run Tryz.prog w = .ok (.bool (!q)) w := fun w => by
  cases q <;> go_simp
set_option maxRecDepth 100000 in
set_option maxHeartbeats 8000000 in
theorem specParseRuns_t (t : List UInt8) (w : World) (htz : t.length ≤ 1048576) : Calls Tryz.prog 17 #[.string ⟨t.toArray⟩] w (GridOk w (prRows ⟨t.toArray⟩) (prOk ⟨t.toArray⟩)) := by
  have hst : (⟨t.toArray⟩ : ByteArray).size = t.length := by show t.toArray.size = _; simp
  by_cases hz : t.length ≤ 1000
  · have hd : ¬ (1000 : Int) < (t.length : Int) := by omega
    have HZ := Lib.hid hz
    have HST := Lib.hid hst
    clear hst
    go_enter Tryz.func17, Tryz.ntmps17
    go_wp2_with fail
    clear hd
    go_loopw [4, 5] (fun s iv wr => ∃ (i fu : Nat) (a : List UInt8), i ≤ t.length ∧ iv = .int .i64 i ∧ s = .string ⟨a.toArray⟩ ∧ a.length ≤ 480 ∧ t.length - i < fu ∧ decS (t.length + 481) [] t = decS fu a (t.drop i) ∧ Below w.heap.size w wr) (fun _ iv _ => t.length - (intOf iv).toNat)
    case atStart => exact ⟨0, t.length + 481, [], by omega, rfl, rfl, by simp, by omega, rfl, Below.refl _ _⟩
    case round =>
      obtain ⟨i, fu, a, hi, rfl, rfl, hal, hfu, hF, hb⟩ := hrel
      have HF := Lib.hid hF
      have HB := Lib.hid hb
      clear hF hb
      by_cases hlt : i < t.length
      · have i1 : (i : Int) < (t.length : Int) := by omega
        have d1 : decide (i < t.length) = true := by simpa using hlt
        obtain ⟨wo, hwo⟩ : ∃ x, x = wr := ⟨wr, rfl⟩
        rw [← hwo] at HB ⊢
        clear hwo
        go_wp2_with fail
        go_loopw [6] (fun kv wr => ∃ k : Nat, i ≤ k ∧ k ≤ t.length ∧ kv = .int .i64 k ∧ (∀ j x, i ≤ j → j < k → t[j]? = some x → digB x = true) ∧ Below wo.heap.size wo wr) (fun kv _ => t.length - (intOf kv).toNat)
        case atStart => exact ⟨i, Nat.le_refl _, hi, rfl, fun j x h1 h2 => by omega, Below.refl _ _⟩
        case round =>
          obtain ⟨k, hik, hkt, rfl, h1, hQ⟩ := hrel
          have H1 := Lib.hid h1
          clear h1
          by_cases hkl : k < t.length
          · have i2 : (k : Int) < (t.length : Int) := by omega
            have d2 : decide (k < t.length) = true := by simpa using hkl
            obtain ⟨c, hc⟩ : ∃ c : UInt8, t[k]? = some c := ⟨_, List.getElem?_eq_getElem hkl⟩
            obtain ⟨z, hz2⟩ : ∃ z : Int, z = (c.toNat : Int) := ⟨_, rfl⟩
            have hix : ∀ w, (Instr.index 9 (.string ⟨t.toArray⟩) (.int .i64 (k : Int))).run Tryz.prog w = .ok (.int .u8 z) w := fun w => by
              rw [strIdx (s := ⟨t.toArray⟩) (by rw [HST.out]; exact hkl) w, hz2]
              congr 3
              have h3 := byte_at (s := ⟨t.toArray⟩) (k := k) (by rw [HST.out]; exact hkl)
              rw [dtl, hc] at h3
              injection h3 with h3
              rw [h3]
            have HC := Lib.hid hc
            have HZZ := Lib.hid hz2
            clear hc hz2
            by_cases hdig : 48 ≤ z ∧ z ≤ 57
            · have g1 : ¬ z < 48 := by omega
              have g2 : ¬ 57 < z := by omega
              have g3 : 48 ≤ z := by omega
              have g4 : z ≤ 57 := by omega
              have hnew : ∀ j x, i ≤ j → j < k + 1 → t[j]? = some x → digB x = true := fun j x hj1 hj2 hx => by
                by_cases e : j = k
                · subst e
                  rw [HC.out] at hx
                  injection hx with hx
                  rw [← hx]
                  simp [digB]
                  have := HZZ.out
                  omega
                · exact H1.out j x hj1 (by omega) hx
              have HNEW := Lib.hid hnew
              clear hnew hdig
              go_wp2_with fail
              go_roundw
              case rel => exact ⟨k + 1, by omega, by omega, by go_num, HNEW.out, hQ⟩
              case measure => simp [intOf]; omega
            · have hdb : digB c = false := by simp [digB]; have := HZZ.out; omega
              have HCB := Lib.hid hdb
              have hT := Below_then HB.out hQ
              have g1 : z < 48 ∨ 57 < z := by omega
              clear hdig hdb hQ
              rcases g1 with g1 | g1
              all_goals
                obtain ⟨f, rfl⟩ : ∃ f, fu = f + 1 := ⟨fu - 1, by omega⟩
                have htok := decS_tok f a hlt hik (by omega) H1.out (fun x hx => by rw [HC.out] at hx; injection hx with hx; rw [← hx]; exact HCB.out)
                rw [tok_c HC.out, ← HF.out] at htok
                by_cases hki : k = i
                · subst hki
                  rw [Nat.sub_self, List.take_zero, show tokOk [] = true from rfl, show tokN [] = 1 from rfl] at htok
                  have HTOK : Hid (decS (t.length + 481) [] t = if 480 < a.length + 1 then none else decS f (a ++ List.replicate 1 c) (t.drop (k + 1))) := Lib.hid htok
                  have q0 : ¬ (k : Int) < (k : Int) := by omega
                  clear htok
                  have hne : ((k : Int) == (t.length : Int)) = false := by rw [beq_eq_false_iff_ne]; omega
                  by_cases hbig : 480 < a.length + 1
                  · have g5 : (480 : Int) < (a.length : Int) + (1 : Int) := by omega
                    have HN := Lib.hid (pr_none (s := ⟨t.toArray⟩) (by rw [dtl]; exact prs_S0 (by rw [HTOK.out, if_pos hbig])))
                    clear hbig
                    go_wp2_with fail
                    go_ret2
                    exact ⟨_, _, by rw [HN.out.1]; rfl, by rw [HN.out.2]; exact GG.none0 _ _ _ rfl hT.size, Below_al hT _⟩
                  · have g5 : ¬ (480 : Int) < (a.length : Int) + (1 : Int) := by omega
                    have hnew : decS (t.length + 481) [] t = decS f (a ++ List.replicate 1 c) (t.drop (k + 1)) := by rw [HTOK.out, if_neg hbig]
                    have HNEW := Lib.hid hnew
                    have HBG := Lib.hid hbig
                    clear hbig hnew
                    go_wp2_with fail
                    have HTT := Lib.hid hT
                    clear hne g5 hT
                    go_loopw [4, 7] (fun s nv wr => ∃ (j r : Nat), r + j = 1 ∧ nv = .int .i64 (r : Int) ∧ s = .string ⟨(a ++ List.replicate j c).toArray⟩ ∧ Below w.heap.size w wr) (fun _ nv _ => (intOf nv).toNat)
                    case atStart => exact ⟨0, 1, rfl, rfl, by simp, HTT.out⟩
                    case round =>
                      obtain ⟨j, r, hrj, rfl, rfl, hTl⟩ := hrel
                      have HTL := Lib.hid hTl
                      clear hTl
                      have hbg := HBG.out
                      have HRJ := Lib.hid hrj
                      by_cases hjl : 0 < r
                      · have q1 : (0 : Int) < (r : Int) := by omega
                        have f1 : (k : Int) + 1 ≤ (t.length : Int) := by omega
                        have f2 : (a ++ List.replicate j c).length ≤ 480 := by rw [List.length_append, List.length_replicate]; omega
                        obtain ⟨a2, ha2⟩ : ∃ a2, a2 = a ++ List.replicate j c := ⟨_, rfl⟩
                        rw [← ha2] at f2 ⊢
                        have HA2 := Lib.hid ha2
                        clear ha2 hbg hrj
                        go_wp2_with fail
                        go_roundw
                        case rel =>
                          refine ⟨j + 1, r - 1, by have := HRJ.out; omega, by congr 1; unfold wrap64; have := HRJ.out; omega, ?_, HTL.out⟩
                          rw [str_push a2 t k c HC.out, HA2.out, List.replicate_succ', List.append_assoc]
                        case measure => (simp [intOf]; unfold wrap64; have := HRJ.out; omega)
                      · obtain rfl : r = 0 := by omega
                        have HJ := Lib.hid (show j = 1 by omega)
                        clear hrj hjl hbg
                        go_wp2_with fail
                        go_roundw
                        case rel => exact ⟨k + 1, f, a ++ List.replicate j c, by omega, by go_num, rfl, by rw [List.length_append, List.length_replicate]; have := HBG.out; have := HJ.out; omega, by omega, by rw [HJ.out]; exact HNEW.out, HTL.out⟩
                        case measure => simp [intOf]; omega
                · have q0 : (i : Int) < (k : Int) := by omega
                  obtain ⟨m, hm⟩ : ∃ m : Nat, m = min k (i + 4) := ⟨_, rfl⟩
                  obtain ⟨D, hD⟩ : ∃ D, D = (t.drop i).take (m - i) := ⟨_, rfl⟩
                  have hdD : digs D = true := by rw [hD]; exact digs_of H1.out _ (by omega)
                  have hDl : D.length = m - i := by rw [hD, List.length_take, List.length_drop]; omega
                  have KL : ∀ w, Calls Tryz.prog 36 #[.int .i64 (k : Int), .int .i64 ((i : Int) + 4)] w fun e w' => e = .returned (.int .i64 (m : Int)) ∧ w = w' := fun w => (l1Least_any _ _ w).mono fun e w' ⟨h1, h2⟩ => ⟨by rw [h1]; congr 2; omega, h2⟩
                  have hex : (⟨t.toArray⟩ : ByteArray).extract i m = ⟨D.toArray⟩ := by rw [ext_list, hD]
                  have hDs : (⟨D.toArray⟩ : ByteArray).size = D.length := by show D.toArray.size = _; simp
                  have KRd : ∀ w, Calls Tryz.prog 35 #[.string ((⟨t.toArray⟩ : ByteArray).extract i m)] w fun e w' => e = .returned (.tuple #[.int .i64 (readN ⟨D.toArray⟩ : Nat), .bool (readOk ⟨D.toArray⟩)]) ∧ Below w.heap.size w w' := fun w => by
                    rw [hex]
                    refine l1Read_pos ⟨D.toArray⟩ (by rw [hDs]; omega) (by rw [hDs]; omega) (fun _ e => ?_) w
                    have hl0 : 0 < D.length := by omega
                    have hb0 := byte_at (s := ⟨D.toArray⟩) (k := 0) (by rw [hDs]; exact hl0)
                    rw [dtl] at hb0
                    have := List.all_eq_true.1 hdD _ (List.mem_of_getElem? hb0)
                    simp only [digB, decide_eq_true_eq] at this
                    omega
                  have hro := read_digs hdD
                  obtain ⟨x, hx⟩ : ∃ x, x = readN ⟨D.toArray⟩ := ⟨_, rfl⟩
                  rw [← hx] at KRd
                  have hxv : readOk ⟨D.toArray⟩ = true → x = valD D := fun h => by rw [hx, readN, h, dtl]; rfl
                  have HX := Lib.hid hxv
                  have hmi : (i : Int) ≤ (m : Int) := by omega
                  have hmt : (m : Int) ≤ (t.length : Int) := by omega
                  have KL' := Lib.hid KL
                  have hds3 : k - i ≤ 3 → (t.drop i).take (k - i) = D := fun h => by rw [hD]; congr 1; omega
                  have hlen3 : ((t.drop i).take (k - i)).length = k - i := by rw [List.length_take, List.length_drop]; omega
                  have htk3 : k - i ≤ 3 → tokOk ((t.drop i).take (k - i)) = readOk ⟨D.toArray⟩ := fun h => by
                    have hne : D.isEmpty = false := by cases hh : D with | nil => rw [hh] at hDl; simp at hDl; omega | cons a b => rfl
                    rw [hds3 h, tokOk, hne, hro, Bool.false_or, decide_eq_true (show D.length ≤ 3 by omega), Bool.true_and]
                    by_cases q : Lib.decDigits (valD D) = D
                    · rw [decide_eq_true q, q]; simp
                    · rw [decide_eq_false q]; simpa using q
                  have htk4 : 3 < k - i → tokOk ((t.drop i).take (k - i)) = false := fun h => by
                    have hne : ((t.drop i).take (k - i)).isEmpty = false := by cases hh : (t.drop i).take (k - i) with | nil => rw [hh] at hlen3; simp at hlen3; omega | cons a b => rfl
                    rw [tokOk, hne, decide_eq_false (by omega)]
                    rfl
                  have htn3 : k - i ≤ 3 → tokN ((t.drop i).take (k - i)) = valD D := fun h => by
                    have hne : D.isEmpty = false := by cases hh : D with | nil => rw [hh] at hDl; simp at hDl; omega | cons a b => rfl
                    rw [hds3 h, tokN, hne]
                    rfl
                  have hvb : valD D < 10 ^ D.length := valD_lt D hdD
                  have HVB := Lib.hid hvb
                  have T3 := Lib.hid htk3
                  have T4 := Lib.hid htk4
                  have N3 := Lib.hid htn3
                  have HTK := Lib.hid htok
                  have HDL := Lib.hid hDl
                  cases hrr : readOk ⟨D.toArray⟩
                  · rw [hrr] at KRd
                    have KRd' := Lib.hid KRd
                    have HRR := Lib.hid hrr
                    have HN := Lib.hid (pr_none (s := ⟨t.toArray⟩) (by
                      rw [dtl]
                      refine prs_S0 ?_
                      rw [HTK.out]
                      by_cases h3 : k - i ≤ 3
                      · rw [T3.out h3, HRR.out]; rfl
                      · rw [T4.out (by omega)]; rfl))
                    clear htok hm hD hdD hDl KL hex hDs KRd hro hx hxv hds3 hlen3 htk3 htk4 htn3 hvb hrr
                    go_wp2_with (first | (go_at_call 36; refine (KL'.out _).mono ?_; rintro e wq ⟨rfl, rfl⟩) | (go_at_call 35; refine (KRd'.out _).mono ?_; rintro e w3 ⟨rfl, hb3⟩; replace hT := Below_then hT hb3; clear hb3) | fail)
                    go_ret2
                    exact ⟨_, _, by rw [HN.out.1]; rfl, by rw [HN.out.2]; exact GG.none0 _ _ _ rfl hT.size, Below_al hT _⟩
                  · rw [hrr] at KRd
                    have KRd' := Lib.hid KRd
                    have HRR := Lib.hid hrr
                    by_cases h3 : k - i ≤ 3
                    · have q3 : ¬ (i : Int) + 3 < (k : Int) := by omega
                      have hxn := HX.out hrr
                      have hx999 : x ≤ 999 := by
                        have h5 : 10 ^ D.length ≤ 1000 := Nat.le_trans (Nat.pow_le_pow_right (by decide) (show D.length ≤ 3 by omega)) (by decide)
                        omega
                      have HTOK : Hid (decS (t.length + 481) [] t = if 480 < a.length + x then none else decS f (a ++ List.replicate x c) (t.drop (k + 1))) := Lib.hid (by rw [HTK.out, T3.out h3, HRR.out, N3.out h3, ← hxn]; rfl)
                      clear htok hm hD hdD hDl KL hex hDs KRd hro hx hxv hds3 hlen3 htk3 htk4 htn3 hvb hrr h3 hxn
                      have hne : ((k : Int) == (t.length : Int)) = false := by rw [beq_eq_false_iff_ne]; omega
                      by_cases hbig : 480 < a.length + x
                      · have g5 : (480 : Int) < (a.length : Int) + (x : Int) := by omega
                        have HN := Lib.hid (pr_none (s := ⟨t.toArray⟩) (by rw [dtl]; exact prs_S0 (by rw [HTOK.out, if_pos hbig])))
                        clear hbig
                        go_wp2_with (first | (go_at_call 36; refine (KL'.out _).mono ?_; rintro e wq ⟨rfl, rfl⟩) | (go_at_call 35; refine (KRd'.out _).mono ?_; rintro e w3 ⟨rfl, hb3⟩; replace hT := Below_then hT hb3; clear hb3) | fail)
                        go_ret2
                        exact ⟨_, _, by rw [HN.out.1]; rfl, by rw [HN.out.2]; exact GG.none0 _ _ _ rfl hT.size, Below_al hT _⟩
                      · have g5 : ¬ (480 : Int) < (a.length : Int) + (x : Int) := by omega
                        have hnew : decS (t.length + 481) [] t = decS f (a ++ List.replicate x c) (t.drop (k + 1)) := by rw [HTOK.out, if_neg hbig]
                        have HNEW := Lib.hid hnew
                        have HBG := Lib.hid hbig
                        clear hbig hnew
                        go_wp2_with (first | (go_at_call 36; refine (KL'.out _).mono ?_; rintro e wq ⟨rfl, rfl⟩) | (go_at_call 35; refine (KRd'.out _).mono ?_; rintro e w3 ⟨rfl, hb3⟩; replace hT := Below_then hT hb3; clear hb3) | fail)
                        have HTT := Lib.hid hT
                        clear hne g5 hT
                        go_loopw [4, 7] (fun s nv wr => ∃ (j r : Nat), r + j = x ∧ nv = .int .i64 (r : Int) ∧ s = .string ⟨(a ++ List.replicate j c).toArray⟩ ∧ Below w.heap.size w wr) (fun _ nv _ => (intOf nv).toNat)
                        case atStart => exact ⟨0, x, rfl, rfl, by simp, HTT.out⟩
                        case round =>
                          obtain ⟨j, r, hrj, rfl, rfl, hTl⟩ := hrel
                          have HTL := Lib.hid hTl
                          clear hTl
                          have hbg := HBG.out
                          have HRJ := Lib.hid hrj
                          by_cases hjl : 0 < r
                          · have q1 : (0 : Int) < (r : Int) := by omega
                            have f1 : (k : Int) + 1 ≤ (t.length : Int) := by omega
                            have f2 : (a ++ List.replicate j c).length ≤ 480 := by rw [List.length_append, List.length_replicate]; omega
                            obtain ⟨a2, ha2⟩ : ∃ a2, a2 = a ++ List.replicate j c := ⟨_, rfl⟩
                            rw [← ha2] at f2 ⊢
                            have HA2 := Lib.hid ha2
                            clear ha2 hbg hrj
                            go_wp2_with fail
                            go_roundw
                            case rel =>
                              refine ⟨j + 1, r - 1, by have := HRJ.out; omega, by congr 1; unfold wrap64; have := HRJ.out; omega, ?_, HTL.out⟩
                              rw [str_push a2 t k c HC.out, HA2.out, List.replicate_succ', List.append_assoc]
                            case measure => (simp [intOf]; unfold wrap64; have := HRJ.out; omega)
                          · obtain rfl : r = 0 := by omega
                            have HJ := Lib.hid (show j = x by omega)
                            clear hrj hjl hbg
                            go_wp2_with fail
                            go_roundw
                            case rel => exact ⟨k + 1, f, a ++ List.replicate j c, by omega, by go_num, rfl, by rw [List.length_append, List.length_replicate]; have := HBG.out; have := HJ.out; omega, by omega, by rw [HJ.out]; exact HNEW.out, HTL.out⟩
                            case measure => simp [intOf]; omega
                    · have q3 : (i : Int) + 3 < (k : Int) := by omega
                      have HN := Lib.hid (pr_none (s := ⟨t.toArray⟩) (by
                        rw [dtl]
                        refine prs_S0 ?_
                        rw [HTK.out, T4.out (by omega)]; rfl))
                      clear htok hm hD hdD hDl KL hex hDs KRd hro hx hxv hds3 hlen3 htk3 htk4 htn3 hvb hrr h3
                      go_wp2_with (first | (go_at_call 36; refine (KL'.out _).mono ?_; rintro e wq ⟨rfl, rfl⟩) | (go_at_call 35; refine (KRd'.out _).mono ?_; rintro e w3 ⟨rfl, hb3⟩; replace hT := Below_then hT hb3; clear hb3) | fail)
                      go_ret2
                      exact ⟨_, _, by rw [HN.out.1]; rfl, by rw [HN.out.2]; exact GG.none0 _ _ _ rfl hT.size, Below_al hT _⟩
          · obtain rfl : k = t.length := by omega
            have d2 : decide (t.length < t.length) = false := by simp
            have hT := Below_then HB.out hQ
            obtain ⟨f, rfl⟩ : ∃ f, fu = f + 1 := ⟨fu - 1, by omega⟩
            have htok := decS_tok f a hlt hik (Nat.le_refl _) H1.out (fun x hx => by rw [List.getElem?_eq_none (Nat.le_refl _)] at hx; cases hx)
            rw [List.drop_length, ← HF.out] at htok
            have HN := Lib.hid (pr_none (s := ⟨t.toArray⟩) (by
              rw [dtl]
              refine prs_S0 ?_
              rw [htok]
              split <;> rfl))
            have heq : ((t.length : Int) == (t.length : Int)) = true := by simp
            obtain ⟨m, hm⟩ : ∃ m : Nat, m = min t.length (i + 4) := ⟨_, rfl⟩
            obtain ⟨D, hD⟩ : ∃ D, D = (t.drop i).take (m - i) := ⟨_, rfl⟩
            have hdD : digs D = true := by rw [hD]; exact digs_of H1.out _ (by omega)
            have hDl : D.length = m - i := by rw [hD, List.length_take, List.length_drop]; omega
            have KL : ∀ w, Calls Tryz.prog 36 #[.int .i64 (t.length : Int), .int .i64 ((i : Int) + 4)] w fun e w' => e = .returned (.int .i64 (m : Int)) ∧ w = w' := fun w => (l1Least_any _ _ w).mono fun e w' ⟨h1, h2⟩ => ⟨by rw [h1]; congr 2; omega, h2⟩
            have hex : (⟨t.toArray⟩ : ByteArray).extract i m = ⟨D.toArray⟩ := by rw [ext_list, hD]
            have hDs : (⟨D.toArray⟩ : ByteArray).size = D.length := by show D.toArray.size = _; simp
            have KRd : ∀ w, Calls Tryz.prog 35 #[.string ((⟨t.toArray⟩ : ByteArray).extract i m)] w fun e w' => ∃ (x : Nat) (b : Bool), e = .returned (.tuple #[.int .i64 (x : Int), .bool b]) ∧ Below w.heap.size w w' := fun w => by
              rw [hex]
              refine (l1Read_pos ⟨D.toArray⟩ (by rw [hDs]; omega) (by rw [hDs]; omega) (fun _ e => ?_) w).mono fun e w' ⟨h1, h2⟩ => ⟨_, _, h1, h2⟩
              have hl0 : 0 < D.length := by omega
              have hb0 := byte_at (s := ⟨D.toArray⟩) (k := 0) (by rw [hDs]; exact hl0)
              rw [dtl] at hb0
              have := List.all_eq_true.1 hdD _ (List.mem_of_getElem? hb0)
              simp only [digB, decide_eq_true_eq] at this
              omega
            have KL' := Lib.hid KL
            have KRd' := Lib.hid KRd
            have hmi : (i : Int) ≤ (m : Int) := by omega
            have hmt : (m : Int) ≤ (t.length : Int) := by omega
            clear htok hm hD hdD hDl KL hex hDs KRd hQ
            go_wp2_with (first | (go_at_call 36; refine (KL'.out _).mono ?_; rintro e wq ⟨rfl, rfl⟩) | fail)
            refine (KRd'.out _).mono ?_
            rintro e w3 ⟨x, bo, rfl, hb3⟩
            replace hT := Below_then hT hb3
            clear hb3
            cases bo
            all_goals
              go_wp2_with fail
              all_goals
                go_ret2
                exact ⟨_, _, by rw [HN.out.1]; rfl, by rw [HN.out.2]; exact GG.none0 _ _ _ rfl hT.size, Below_al hT _⟩
      · obtain rfl : i = t.length := by omega
        have d1 : decide (t.length < t.length) = false := by simp
        obtain ⟨f, rfl⟩ : ∃ f, fu = f + 1 := ⟨fu - 1, by omega⟩
        have hdec : decS (t.length + 481) [] t = some a := by rw [HF.out, List.drop_length, decS]
        have hprs := prs_S1 hdec
        have HPRS := Lib.hid hprs
        have KP := fun w => l13Read_any ⟨a.toArray⟩ (by show a.toArray.size ≤ _; rw [List.size_toArray]; omega) w
        rw [dtl] at KP
        have HAL := Lib.hid hal
        clear hdec hprs hal hfu
        cases hok : rdOk a
        · have HN := Lib.hid (pr_none (s := ⟨t.toArray⟩) (by rw [dtl, HPRS.out, hok]; rfl))
          rw [hok] at KP
          have KP' := Lib.hid KP
          clear KP hok
          go_wp2_with fail
          refine (KP'.out _).mono ?_
          rintro e w2 ⟨v2, vs2, rfl, -, hb2⟩
          have hT := Below_then HB.out hb2
          go_wp2
          go_ret2
          exact ⟨_, _, by rw [HN.out.1]; rfl, by rw [HN.out.2]; exact GG.none0 _ _ _ rfl hT.size, Below_al hT _⟩
        · rw [hok, cond_true] at KP
          have KP' := Lib.hid KP
          have KR := fun w => l13Runs_any ⟨a.toArray⟩ (by show a.toArray.size ≤ _; rw [List.size_toArray]; have := HAL.out; omega) w
          rw [dtl] at KR
          obtain ⟨tx, htx⟩ : ∃ tx : ByteArray, tx = ⟨(runsL a).toArray⟩ := ⟨_, rfl⟩
          have hbq := bytes_beq (runsL a) t
          rw [← htx] at KR hbq
          have KR' := Lib.hid KR
          have hcase : (prs t = some a ∧ (tx.toList == (⟨t.toArray⟩ : ByteArray).toList) = true) ∨ (prs t = none ∧ (tx.toList == (⟨t.toArray⟩ : ByteArray).toList) = false) := by
            rw [hbq, HPRS.out, hok]
            by_cases e : runsL a = t
            · left; simp [e]
            · right; simp [e]
          clear KP KR hok htx hbq
          rw [show (⟨t.toArray⟩ : ByteArray).toList = t by simp] at hcase
          rcases hcase with ⟨hy, hq⟩ | ⟨hy, hq⟩
          · have HN := Lib.hid (pr_some (s := ⟨t.toArray⟩) (by rw [dtl]; exact hy))
            clear hy
            go_wp2_with fail
            refine (KP'.out _).mono ?_
            rintro e w2 ⟨v2, vs2, rfl, hG, hb2⟩
            have hT := Below_then HB.out hb2
            have HG := Lib.hid hG
            have hsz := HB.out.size
            clear hG
            go_wp2_with fail
            refine (KR'.out _).mono ?_
            rintro e w3 ⟨rfl, hb3⟩
            have hT3 := Below_then hT hb3
            go_wp2
            go_ret2
            exact ⟨_, vs2, by rw [HN.out.1]; rfl, by rw [HN.out.2]; exact (HG.out.below hb3).base hsz, hT3⟩
          · have HN := Lib.hid (pr_none (s := ⟨t.toArray⟩) (by rw [dtl]; exact hy))
            clear hy
            go_wp2_with fail
            refine (KP'.out _).mono ?_
            rintro e w2 ⟨v2, vs2, rfl, -, hb2⟩
            have hT := Below_then HB.out hb2
            go_wp2_with fail
            refine (KR'.out _).mono ?_
            rintro e w3 ⟨rfl, hb3⟩
            have hT3 := Below_then hT hb3
            go_wp2
            go_ret2
            exact ⟨_, _, by rw [HN.out.1]; rfl, by rw [HN.out.2]; exact GG.none0 _ _ _ rfl hT3.size, Below_al hT3 _⟩
  · have hd : (1000 : Int) < (t.length : Int) := by omega
    have HN := Lib.hid (pr_big (s := ⟨t.toArray⟩) (by rw [hst]; omega))
    clear hz hst htz
    go_enter Tryz.func17, Tryz.ntmps17
    go_wp2
    go_ret2
    exact ⟨_, _, by rw [HN.out.1]; rfl, by rw [HN.out.2]; exact GG.none0 _ _ _ rfl (Nat.le_refl _), by (repeat (first | exact Below.refl _ _ | assumption | refine Below_al ?_ _ | refine Below.drew ?_ | refine Below_then ?_ (by assumption) | refine Below.setCell ?_ (by first | omega | (simp; done) | (simp; omega)) _))⟩
theorem specParseRuns_any (s : ByteArray) (w : World) (hs : s.size ≤ 1048576) : Calls Tryz.prog 17 #[.string s] w (GridOk w (prRows s) (prOk s)) := by
  have h := specParseRuns_t s.data.toList w (by rw [bytes_len]; exact hs)
  rwa [show (⟨s.data.toList.toArray⟩ : ByteArray) = s by simp] at h
end Go.Proofs.YtenaadmifppphaaGreatDoor
