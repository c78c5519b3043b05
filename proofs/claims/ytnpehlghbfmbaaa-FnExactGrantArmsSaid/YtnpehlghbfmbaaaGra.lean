/- Contracts: GrantArms. -/
import Derived.Test.YtnpehlghbfmbaaaGrMk
namespace Go.Proofs.Ytnpehlghbfmbaaa
open Go.ChangeShapes Go.WideShapes Go.ChangeAt Go.RowKit
set_option linter.unusedVariables false
set_option linter.unusedSimpArgs false
/-- The next number. -/
def nextN (rows : List GrantD) : Int := match rows.getLast? with | some g => g.n + 1 | none => 1
def gaAll (rows : List GrantD) (s : ByteArray) (y : Int) (a : ArmsD) : List GrantD := rows ++ [⟨nextN rows, s, y, a⟩]
def gaOk (rows : List GrantD) (s : ByteArray) (y : Int) (a : ArmsD) : Bool := regOk rows && regOk (gaAll rows s y a)
def gaRows (rows : List GrantD) (s : ByteArray) (y : Int) (a : ArmsD) : List GrantD := bif gaOk rows s y a then gaAll rows s y a else []
def gaNum (rows : List GrantD) (s : ByteArray) (y : Int) (a : ArmsD) : Int := bif gaOk rows s y a then nextN rows else 0
theorem regOk_grant {rows : List GrantD} (h : regOk rows = true) {g : GrantD} {i : Nat} (hg : rows[i]? = some g) : grantOk g = true := by
  rw [regOk, Bool.and_eq_true] at h
  have h2 := List.all_eq_true.1 h.2 i (by simpa using (List.getElem?_eq_some_iff.1 hg).1)
  rw [goodAt_at hg, Bool.and_eq_true, Bool.and_eq_true] at h2
  exact h2.1.1
theorem grantOk_n {g : GrantD} (h : grantOk g = true) : 1 ≤ g.n ∧ g.n ≤ 999 := by
  simp only [grantOk, Bool.and_eq_true, decide_eq_true_eq] at h
  exact h.1.1.1
theorem nextN_last {rows : List GrantD} {m : Nat} {g : GrantD} (hm : rows.length = m + 1) (hg : rows[m]? = some g) : nextN rows = g.n + 1 := by
  have : rows.getLast? = some g := by rw [List.getLast?_eq_getElem?, hm]; exact hg
  rw [nextN, this]
section
variable {ops : Array Oper} {rest : List Oper} {op : Oper} {a : Act} {w : World} {Q : Exit → Act → World → Prop}
theorem build_run (n : Int) (s : ByteArray) (y : Int) (ad : ArmsD) (w : World) : (Instr.build 54 #[(0, .int .i64 n), (1, .string s), (2, .int .i64 y), (3, .agg (ac ad).toArray)]).run Try.prog w = .ok (.agg (gc ⟨n, s, y, ad⟩).toArray) w := by kernel_rfl
theorem wp_buildG (hgd : op.guard = none) (x0 x1 x2 x3 : Operand) (ho : op.op = .build 54 #[(0, x0), (1, x1), (2, x2), (3, x3)]) (n : Int) (s : ByteArray) (y : Int) (ad : ArmsD) (h0 : a.eval x0 = .int .i64 n) (h1 : a.eval x1 = .string s) (h2 : a.eval x2 = .int .i64 y) (h3 : a.eval x3 = .agg (ac ad).toArray)
    (h : wpList Try.prog ops Q rest (a.put op.dst (.agg (gc ⟨n, s, y, ad⟩).toArray)) w) : wpList Try.prog ops Q (op :: rest) a w := by
  refine wpList_plain hgd fun _ hK => ?_
  have hr := build_run n s y ad w
  unfold Oper.wp execOp
  simp only [ho, List.map_toArray, List.map_cons, List.map_nil, h0, h1, h2, h3, Sem.run_bind, hr, Result.andThen_ok, Sem.run_pure]
  exact hK _ _ h
theorem buildS_run (g : GrantD) (w : World) : (Instr.buildSlice 32 1 #[(0, .agg (gc g).toArray)]).run Try.prog w = .ok (.slice (some ⟨w.heap.size, 0, none⟩) 1 1) (w.alloc (.cells (gc g).toArray 54 (0, 0))) := by kernel_rfl
theorem wp_buildS (hgd : op.guard = none) (x0 : Operand) (ho : op.op = .buildSlice 32 1 #[(0, x0)]) (g : GrantD) (h0 : a.eval x0 = .agg (gc g).toArray)
    (h : wpList Try.prog ops Q rest (a.put op.dst (.slice (some ⟨w.heap.size, 0, none⟩) 1 1)) (w.alloc (.cells (gc g).toArray 54 (0, 0)))) : wpList Try.prog ops Q (op :: rest) a w := by
  refine wpList_plain hgd fun _ hK => ?_
  have hr := buildS_run g w
  unfold Oper.wp execOp
  simp only [ho, List.map_toArray, List.map_cons, List.map_nil, h0, Sem.run_bind, hr, Result.andThen_ok, Sem.run_pure]
  exact hK _ _ h
end
theorem RdR_one {w : World} {b : Nat} {g : GrantD} {T : TypeId} (h : w.heap[b]? = some (.cells (gc g).toArray T (0, 0))) : RdR 18 w (some ⟨b, 0, none⟩) (gcs [g]) := fun i row hr => by
  match i, hr with
  | 0, hr =>
    simp [gcs] at hr
    subst hr
    exact ⟨b, 0, rfl, rangeAt_blk h, heap_lt h⟩
  | i + 1, hr => simp [gcs] at hr
/-- A register in new memory, a number, and whether all is well. -/
def GrOk (w : World) (rows : List GrantD) (z : Int) (ok : Bool) (e : Ending) (w' : World) : Prop := ∃ v, e = .returned (.tuple #[.agg #[v], .int .i64 z, .bool ok]) ∧ OwnGr w' w.heap.size v rows ∧ Below w.heap.size w w'
theorem OwnGr.setOther {w : World} {B : Nat} {v : Value} {rows : List GrantD} (h : OwnGr w B v rows) (p : Addr) (u : Value) (hne : ∀ b, v.ownBlock = some b → b ≠ p.block) : OwnGr (w.setCell p u) B v rows := by
  refine h.other (row := some p.block) ⟨rfl, rfl, rfl, by simp, fun k hk hn => heap_far _ _ _ _ (fun e => hn (by rw [e]))⟩ ?_
  cases e : v.ownBlock with
  | none => exact .inl rfl
  | some b => exact .inr fun e2 => by injection e2 with e2; exact hne b e e2
def ClonePost (w : World) (rows : List GrantD) (e : Ending) (w' : World) : Prop := ∃ v, e = .returned (.agg #[v]) ∧ OwnGr w' w.heap.size v rows ∧ Below w.heap.size w w'
set_option maxHeartbeats 2000000 in
theorem implClone_any (ad : Addr) (c : Nat) (rows : List GrantD) (w : World) (hr : RdR 18 w (some ad) (gcs rows)) (hl : rows.length ≤ 1048576) : Calls Try.prog 25 #[.agg #[.slice (some ad) rows.length c]] w (ClonePost w rows) := by
  have HH := Lib.hid hr
  clear hr
  have hR0 : (((w.alloc (.cells #[.slice (some ad) rows.length c] 34)).alloc (.cells #[.slice none 0 0] 34)).alloc (.cells #[] 54)).heap[w.heap.size + 1]? = some (.cells #[.slice none 0 0] 34 (0, 0)) := heap_keepA (heap_hit _ _ _ (by simp)) _
  go_enter Try.func25, Try.ntmps25
  go_wp2_with (first | (at_builtin; refine wp_appGr rfl _ _ rfl w.heap.size (.slice (some ⟨w.heap.size + 1 + 1, 0, none⟩) 0 0) [] rfl (OwnGr.none0 _ _ _ (by simp) (by omega)) ad rows.length c rows rfl (HH.out.below (by (repeat (first | exact Below.refl _ _ | assumption | refine Below_al ?_ _ | refine Below.drew ?_ | refine Below_then ?_ (by assumption) | refine Below.setCell ?_ (by first | omega | (simp; done) | (simp; omega)) _)))) rfl (by simp) hl (by simp; omega) ?_; intro v' w9 h9 g9 b9 at9; have hR9 := heap_keepG hR0 g9 (by simp [Value.ownBlock]); have c9 := cell_of hR9 0; have f9 := frozen_of hR9; obtain ⟨A9, d9, rfl, -⟩ := h9.form) | fail)
  simp only [List.nil_append] at h9 at9
  have hS := heap_set w9 (w.heap.size + 1) 0 _ _ (.slice A9 rows.length d9) hR9
  have hB9 : Below w.heap.size w w9 := Below.trans (by (repeat (first | exact Below.refl _ _ | assumption | refine Below_al ?_ _ | refine Below.drew ?_ | refine Below_then ?_ (by assumption) | refine Below.setCell ?_ (by first | omega | (simp; done) | (simp; omega)) _))) b9
  have hne : ∀ b, (Value.slice A9 rows.length d9).ownBlock = some b → b ≠ w.heap.size + 1 := fun b hb e => by
    rw [e] at hb
    rcases at9 with h | h
    · rw [h] at hb
      simp [Value.ownBlock] at hb
    · rw [h] at hb
      simp at hb
      try omega
  exact bodyPost_ret (v := .agg #[.slice A9 rows.length d9]) (by simp [results, Try.results25, go_sem, cell_of hS]) rfl ⟨_, rfl, h9.setOther _ _ hne, hB9.setCell (by simp) _⟩
set_option maxHeartbeats 2000000 in
theorem specOwn_any (ad : Addr) (c : Nat) (rows : List GrantD) (w : World) (hr : RdR 18 w (some ad) (gcs rows)) (hl : rows.length ≤ 1048576) : Calls Try.prog 20 #[.agg #[.slice (some ad) rows.length c]] w (ClonePost w rows) := by
  have HH := Lib.hid hr
  clear hr
  have hR0 : (((w.alloc (.cells #[.slice (some ad) rows.length c] 34)).alloc (.cells #[.slice none 0 0] 34)).alloc (.cells #[] 54)).heap[w.heap.size + 1]? = some (.cells #[.slice none 0 0] 34 (0, 0)) := heap_keepA (heap_hit _ _ _ (by simp)) _
  go_enter Try.func20, Try.ntmps20
  go_wp2_with (first | (at_builtin; refine wp_appGr rfl _ _ rfl w.heap.size (.slice (some ⟨w.heap.size + 1 + 1, 0, none⟩) 0 0) [] rfl (OwnGr.none0 _ _ _ (by simp) (by omega)) ad rows.length c rows rfl (HH.out.below (by (repeat (first | exact Below.refl _ _ | assumption | refine Below_al ?_ _ | refine Below.drew ?_ | refine Below_then ?_ (by assumption) | refine Below.setCell ?_ (by first | omega | (simp; done) | (simp; omega)) _)))) rfl (by simp) hl (by simp; omega) ?_; intro v' w9 h9 g9 b9 at9; have hR9 := heap_keepG hR0 g9 (by simp [Value.ownBlock]); have c9 := cell_of hR9 0; have f9 := frozen_of hR9; obtain ⟨A9, d9, rfl, -⟩ := h9.form) | fail)
  simp only [List.nil_append] at h9 at9
  have hS := heap_set w9 (w.heap.size + 1) 0 _ _ (.slice A9 rows.length d9) hR9
  have hB9 : Below w.heap.size w w9 := Below.trans (by (repeat (first | exact Below.refl _ _ | assumption | refine Below_al ?_ _ | refine Below.drew ?_ | refine Below_then ?_ (by assumption) | refine Below.setCell ?_ (by first | omega | (simp; done) | (simp; omega)) _))) b9
  have hne : ∀ b, (Value.slice A9 rows.length d9).ownBlock = some b → b ≠ w.heap.size + 1 := fun b hb e => by
    rw [e] at hb
    rcases at9 with h | h
    · rw [h] at hb
      simp [Value.ownBlock] at hb
    · rw [h] at hb
      simp at hb
      try omega
  exact bodyPost_ret (v := .agg #[.slice A9 rows.length d9]) (by simp [results, Try.results20, go_sem, cell_of hS]) rfl ⟨_, rfl, h9.setOther _ _ hne, hB9.setCell (by simp) _⟩
set_option maxHeartbeats 8000000 in
set_option maxRecDepth 20000 in
theorem implGrantArms_any (ad : Addr) (c : Nat) (rows : List GrantD) (s : ByteArray) (y : Int) (a : ArmsD) (w : World) (hr : RdR 18 w (some ad) (gcs rows)) (hl : rows.length ≤ 1048576) (hs : ∀ g ∈ rows, g.s.size ≤ maxLen) (hcap : rows.length ≤ c) (hcm : c ≤ maxLen) (hsz : s.size ≤ maxLen) :
    Calls Try.prog 10 #[.agg #[.slice (some ad) rows.length c], .string s, .int .i64 y, .agg (ac a).toArray] w (GrOk w (gaRows rows s y a) (gaNum rows s y a) (gaOk rows s y a)) := by
  have KV := fun (w' : World) (hb : Below w.heap.size w w') => IsValidRegister_any (some ad) c rows w' (hr.below hb) hl hs hcap hcm
  have KC := fun (w' : World) (hb : Below w.heap.size w w') => implClone_any ad c rows w' (hr.below hb) hl
  have HS := Lib.hid hs
  have HH := Lib.hid hr
  have KC' := Lib.hid KC
  cases hv : regOk rows
  · have e1 : gaRows rows s y a = [] := by simp [gaRows, gaOk, hv]
    have e2 : gaNum rows s y a = 0 := by simp [gaNum, gaOk, hv]
    have e3 : gaOk rows s y a = false := by simp [gaOk, hv]
    rw [e1, e2, e3]
    rw [hv] at KV
    have KV' := Lib.hid KV
    clear KV KC hs hr hv e1 e2 e3
    go_enter Try.func10, Try.ntmps10
    go_wp2_with fail
    refine (KV'.out _ (by (repeat (first | exact Below.refl _ _ | assumption | refine Below_al ?_ _ | refine Below.drew ?_ | refine Below_then ?_ (by assumption) | refine Below.setCell ?_ (by first | omega | (simp; done) | (simp; omega)) _)))).mono ?_
    rintro e w1 ⟨rfl, hb1⟩
    obtain ⟨hc1, hf1⟩ := bcell hb1
    go_wp2
    exact bodyPost_ret (v := .tuple #[.agg #[.slice none 0 0], .int .i64 0, .bool false]) (by simp [results, Try.results10, go_sem, hc1]) rfl ⟨_, rfl, OwnGr.nil _ _, by (repeat (first | exact Below.refl _ _ | assumption | refine Below_al ?_ _ | refine Below.drew ?_ | refine Below_then ?_ (by assumption) | refine Below.setCell ?_ (by first | omega | (simp; done) | (simp; omega)) _))⟩
  · rw [hv] at KV
    have KV' := Lib.hid KV
    have h12 := regOk_len hv
    obtain ⟨num, hnum⟩ : ∃ num, num = nextN rows := ⟨_, rfl⟩
    have hsz2 : ∀ g ∈ rows ++ [⟨num, s, y, a⟩], (GrantD.s g).size ≤ maxLen := fun g hg => by
      rcases List.mem_append.1 hg with h | h
      · exact HS.out g h
      · simp at h
        rw [h]
        exact hsz
    have KW : ∀ (B : Nat) (v : Value) (w' : World), OwnGr w' B v (rows ++ [⟨num, s, y, a⟩]) → Calls Try.prog 24 #[.agg #[v]] w' fun e w'' => e = .returned (.bool (regOk (rows ++ [⟨num, s, y, a⟩]))) ∧ Below w'.heap.size w' w'' := fun B v w' ho => by
      obtain ⟨A', c', e, hr', hc1, hc2⟩ := ho.form
      have := IsValidRegister_any A' c' (rows ++ [⟨num, s, y, a⟩]) w' hr' (by simp; omega) hsz2 hc1 hc2
      rw [← e] at this
      exact this
    have hga : gaAll rows s y a = rows ++ [⟨num, s, y, a⟩] := by rw [gaAll, hnum]
    have hok : gaOk rows s y a = regOk (rows ++ [⟨num, s, y, a⟩]) := by rw [gaOk, hv, hga, Bool.true_and]
    have hrw : gaRows rows s y a = bif regOk (rows ++ [⟨num, s, y, a⟩]) then rows ++ [⟨num, s, y, a⟩] else [] := by rw [gaRows, hok, hga]
    have hnm : gaNum rows s y a = bif regOk (rows ++ [⟨num, s, y, a⟩]) then num else 0 := by rw [gaNum, hok, hnum]
    rw [hrw, hok, hnm]
    generalize hx : regOk (rows ++ [⟨num, s, y, a⟩]) = x at KW
    have KW' := Lib.hid KW
    have HSZ2 := Lib.hid hsz2
    have hA0 : ∀ w', Below (w.heap.size + 1 + 1 + 1) (((w.alloc (.cells #[.slice (some ad) rows.length c] 34)).alloc (.cells (ac a).toArray 41)).alloc (.cells #[.slice none 0 0] 34)) w' → w'.heap[w.heap.size + 1]? = some (.cells (ac a).toArray 41 (0, 0)) ∧ w'.heap[w.heap.size]? = some (.cells #[.slice (some ad) rows.length c] 34 (0, 0)) ∧ w'.heap[w.heap.size + 1 + 1]? = some (.cells #[.slice none 0 0] 34 (0, 0)) ∧ Below w.heap.size w w' := fun w' hb =>
      ⟨(hb.block _ (by omega)).trans (heap_keepA (heap_hit _ _ _ (by simp)) _), (hb.block _ (by omega)).trans (heap_keepA (heap_keepA (heap_hit _ _ _ rfl) _) _), (hb.block _ (by omega)).trans (heap_hit _ _ _ (by simp)), Below.trans (by (repeat (first | exact Below.refl _ _ | assumption | refine Below_al ?_ _ | refine Below.drew ?_ | refine Below_then ?_ (by assumption) | refine Below.setCell ?_ (by first | omega | (simp; done) | (simp; omega)) _))) (hb.mono (by omega))⟩
    have HA0 := Lib.hid hA0
    clear KV KC hs hr hga hok hrw hnm hsz2 KW hA0
    rcases Nat.eq_zero_or_pos rows.length with h0 | hpos
    · have hn1 : num = 1 := by
        rw [hnum, nextN, List.eq_nil_of_length_eq_zero h0]
        rfl
      subst hn1
      have i0 : ¬ (0 : Int) < (rows.length : Int) := by omega
      have i1 : decide (0 < rows.length) = false := decide_eq_false (by omega)
      clear hnum hv h0
      go_enter Try.func10, Try.ntmps10
      go_wp2_with fail
      refine (KV'.out _ (by (repeat (first | exact Below.refl _ _ | assumption | refine Below_al ?_ _ | refine Below.drew ?_ | refine Below_then ?_ (by assumption) | refine Below.setCell ?_ (by first | omega | (simp; done) | (simp; omega)) _)))).mono ?_
      rintro e w1 ⟨rfl, hb1⟩
      obtain ⟨hA, hF, hR, hT⟩ := HA0.out _ (hb1.mono (by simp))
      have cF := cell_of hF 0
      go_wp2_with fail
      refine (KC'.out _ (by (repeat (first | exact Below.refl _ _ | assumption | refine Below_al ?_ _ | refine Below.drew ?_ | refine Below_then ?_ (by assumption) | refine Below.setCell ?_ (by first | omega | (simp; done) | (simp; omega)) _)))).mono ?_
      rintro e w2 ⟨v2, rfl, hO2, hb2⟩
      obtain ⟨A2, d2, rfl, -⟩ := hO2.form
      have hbw2 := Below_then hb1 hb2
      have hz1 := hb1.size
      have hz2 := hb2.size
      simp only [World.size_alloc] at hz1
      have hbw3 := Below_al hbw2 (.cells #[.slice A2 rows.length d2] 34)
      have hbw4 := Below_al hbw3 (.cells (gc ⟨1, s, y, a⟩).toArray 54)
      clear hA hF hR hT
      obtain ⟨hA, hF, hR, hT⟩ := HA0.out _ (hbw3.mono (by simp))
      obtain ⟨hA4, hF4, hR4, hT4⟩ := HA0.out _ (hbw4.mono (by simp))
      have hX := heap_hit w2 (.cells #[.slice A2 rows.length d2] 34 (0, 0)) _ rfl
      have hX4 := heap_keepA hX (.cells (gc ⟨1, s, y, a⟩).toArray 54)
      have hO4 := (hO2.below (Below_al (Below_al (Below.refl _ _) (.cells #[.slice A2 rows.length d2] 34)) (.cells (gc ⟨1, s, y, a⟩).toArray 54))).base (show w.heap.size ≤ w1.heap.size by omega)
      have hlt2 := hO2.lt
      have hneX : (Value.slice A2 rows.length d2).ownBlock ≠ some w2.heap.size := fun e => by have := (hlt2 _ e).2; omega
      have hneR : (Value.slice A2 rows.length d2).ownBlock ≠ some (w.heap.size + 1 + 1) := fun e => by have := (hlt2 _ e).1; omega
      have cX := cell_of hX 0
      have fX := frozen_of hX
      have HNX := Lib.hid hneX
      have HNR := Lib.hid hneR
      have HLT := Lib.hid hlt2
      have HO4 := Lib.hid hO4
      clear hneX hneR hlt2 hO2 hO4 hF hF4 hR hA4 hb2 hb1
      go_wp2_with (first | (refine ldA rfl _ rfl (w.heap.size + 1) 0 rfl a (rangeAt_blk hA) ?_) | (refine wp_buildG rfl _ _ _ _ rfl (1) s y a rfl rfl rfl rfl ?_) | (refine wp_buildS rfl _ rfl ⟨1, s, y, a⟩ rfl ?_) | (at_builtin; refine wp_appGr rfl _ _ rfl w.heap.size (.slice A2 rows.length d2) rows rfl HO4.out ⟨(w2.alloc (.cells #[.slice A2 rows.length d2] 34)).heap.size, 0, none⟩ 1 1 [⟨1, s, y, a⟩] rfl (RdR_one (heap_hit _ _ _ rfl)) rfl (by omega) (by simp) (by simp; omega) ?_; intro v' w9 h9 g9 b9 at9; have hX9 := heap_keepG hX4 g9 HNX.out; have hR9 := heap_keepG hR4 g9 HNR.out; have hT9 := Below.trans hT4 b9; have cX9 := cell_of hX9 0; have fX9 := frozen_of hX9; obtain ⟨A9, d9, rfl, -⟩ := h9.form) | fail)
      rw [show (rows ++ [(⟨1, s, y, a⟩ : GrantD)]).length = rows.length + 1 from by simp] at h9 at9
      have hne9 : ∀ b, (Value.slice A9 (rows.length + 1) d9).ownBlock = some b → b ≠ w2.heap.size ∧ w.heap.size + 1 + 1 < b := fun b hb => by
        rcases at9 with h | h
        · rw [h] at hb
          have := HLT.out b hb
          omega
        · rw [h] at hb
          injection hb with hb
          simp only [World.size_alloc] at hb
          omega
      have HNE9 := Lib.hid hne9
      have hS : (w9.setCell ⟨w2.heap.size, 0, none⟩ (.slice A9 (rows.length + 1) d9)).heap[w2.heap.size]? = some (.cells #[.slice A9 (rows.length + 1) d9] 34 (0, 0)) := heap_set _ _ _ _ _ _ hX9
      have hR10 := (heap_far w9 _ ⟨w2.heap.size, 0, none⟩ (.slice A9 (rows.length + 1) d9) (by dsimp only; omega)).trans hR9
      have hO9 := h9.setOther ⟨w2.heap.size, 0, none⟩ (.slice A9 (rows.length + 1) d9) (fun b hb => (HNE9.out b hb).1)
      have hT10 := hT9.setCell (p := ⟨w2.heap.size, 0, none⟩) (by dsimp only; omega) (.slice A9 (rows.length + 1) d9)
      clear cX9 fX9 hX9 hR9 h9 hne9 at9 g9 b9 hX hX4 cX fX hA hR4 hT hT4
      refine (KW'.out _ _ _ hO9).mono ?_
      rintro e w5 ⟨rfl, hb5⟩
      have hS5 := heap_keepB hS hb5
      have hR5 := heap_keepB hR10 hb5
      have hO5 := hO9.below hb5
      have hT5 := Below_then hT10 hb5
      have cX5 := cell_of hS5 0
      have cR5 := cell_of hR5 0
      have fR5 := frozen_of hR5
      clear hb5 hO9 hR10 hS
      cases x
      · have hR6 := heap_set _ _ 0 _ _ (.slice none 0 0) hR5
        go_wp2
        exact bodyPost_ret (v := .tuple #[.agg #[.slice none 0 0], .int .i64 0, .bool false]) (by simp [results, Try.results10, go_sem, cell_of hR6]) rfl ⟨_, rfl, OwnGr.nil _ _, hT5.setCell (by dsimp only; omega) _⟩
      · have hR6 := heap_set _ _ 0 _ _ (.slice A9 (rows.length + 1) d9) hR5
        have hO6 := hO5.setOther ⟨w.heap.size + 1 + 1, 0, none⟩ (.slice A9 (rows.length + 1) d9) (fun b hb => by have := (HNE9.out b hb).2; dsimp only; omega)
        go_wp2
        exact bodyPost_ret (v := .tuple #[.agg #[.slice A9 (rows.length + 1) d9], .int .i64 (1), .bool true]) (by simp [results, Try.results10, go_sem, cell_of hR6]) rfl ⟨_, rfl, hO6, hT5.setCell (by dsimp only; omega) _⟩
    · obtain ⟨g, hg⟩ := grant_at (rows := rows) (k := rows.length - 1) (by omega)
      have hn1 := nextN_last (m := rows.length - 1) (by omega) hg
      have hgn := grantOk_n (regOk_grant hv hg)
      have HG := Lib.hid hg
      rw [hn1] at hnum
      subst hnum
      have i0 : (0 : Int) < (rows.length : Int) := by omega
      have i1 : decide (0 < rows.length) = true := decide_eq_true (by omega)
      have i2 : (0 : Int) ≤ (rows.length : Int) - 1 := by omega
      have i3 : (rows.length : Int) - 1 < (rows.length : Int) := by omega
      clear hn1 hv hg hpos
      go_enter Try.func10, Try.ntmps10
      go_wp2_with fail
      refine (KV'.out _ (by (repeat (first | exact Below.refl _ _ | assumption | refine Below_al ?_ _ | refine Below.drew ?_ | refine Below_then ?_ (by assumption) | refine Below.setCell ?_ (by first | omega | (simp; done) | (simp; omega)) _)))).mono ?_
      rintro e w1 ⟨rfl, hb1⟩
      obtain ⟨hA, hF, hR, hT⟩ := HA0.out _ (hb1.mono (by simp))
      obtain ⟨b, off, e, hr1, -⟩ := (HH.out.below hT).grants HG.out
      injection e with e
      subst e
      have cF := cell_of hF 0
      have cG := (gc_cells hr1).1
      go_wp2_with fail
      refine (KC'.out _ (by (repeat (first | exact Below.refl _ _ | assumption | refine Below_al ?_ _ | refine Below.drew ?_ | refine Below_then ?_ (by assumption) | refine Below.setCell ?_ (by first | omega | (simp; done) | (simp; omega)) _)))).mono ?_
      rintro e w2 ⟨v2, rfl, hO2, hb2⟩
      obtain ⟨A2, d2, rfl, -⟩ := hO2.form
      have hbw2 := Below_then hb1 hb2
      have hz1 := hb1.size
      have hz2 := hb2.size
      simp only [World.size_alloc] at hz1
      have hbw3 := Below_al hbw2 (.cells #[.slice A2 rows.length d2] 34)
      have hbw4 := Below_al hbw3 (.cells (gc ⟨g.n + 1, s, y, a⟩).toArray 54)
      clear hA hF hR hT
      obtain ⟨hA, hF, hR, hT⟩ := HA0.out _ (hbw3.mono (by simp))
      obtain ⟨hA4, hF4, hR4, hT4⟩ := HA0.out _ (hbw4.mono (by simp))
      have hX := heap_hit w2 (.cells #[.slice A2 rows.length d2] 34 (0, 0)) _ rfl
      have hX4 := heap_keepA hX (.cells (gc ⟨g.n + 1, s, y, a⟩).toArray 54)
      have hO4 := (hO2.below (Below_al (Below_al (Below.refl _ _) (.cells #[.slice A2 rows.length d2] 34)) (.cells (gc ⟨g.n + 1, s, y, a⟩).toArray 54))).base (show w.heap.size ≤ w1.heap.size by omega)
      have hlt2 := hO2.lt
      have hneX : (Value.slice A2 rows.length d2).ownBlock ≠ some w2.heap.size := fun e => by have := (hlt2 _ e).2; omega
      have hneR : (Value.slice A2 rows.length d2).ownBlock ≠ some (w.heap.size + 1 + 1) := fun e => by have := (hlt2 _ e).1; omega
      have cX := cell_of hX 0
      have fX := frozen_of hX
      have HNX := Lib.hid hneX
      have HNR := Lib.hid hneR
      have HLT := Lib.hid hlt2
      have HO4 := Lib.hid hO4
      clear hneX hneR hlt2 hO2 hO4 hF hF4 hR hA4 hb2 hb1
      go_wp2_with (first | (refine ldA rfl _ rfl (w.heap.size + 1) 0 rfl a (rangeAt_blk hA) ?_) | (refine wp_buildG rfl _ _ _ _ rfl (g.n + 1) s y a rfl rfl rfl rfl ?_) | (refine wp_buildS rfl _ rfl ⟨g.n + 1, s, y, a⟩ rfl ?_) | (at_builtin; refine wp_appGr rfl _ _ rfl w.heap.size (.slice A2 rows.length d2) rows rfl HO4.out ⟨(w2.alloc (.cells #[.slice A2 rows.length d2] 34)).heap.size, 0, none⟩ 1 1 [⟨g.n + 1, s, y, a⟩] rfl (RdR_one (heap_hit _ _ _ rfl)) rfl (by omega) (by simp) (by simp; omega) ?_; intro v' w9 h9 g9 b9 at9; have hX9 := heap_keepG hX4 g9 HNX.out; have hR9 := heap_keepG hR4 g9 HNR.out; have hT9 := Below.trans hT4 b9; have cX9 := cell_of hX9 0; have fX9 := frozen_of hX9; obtain ⟨A9, d9, rfl, -⟩ := h9.form) | fail)
      rw [show (rows ++ [(⟨g.n + 1, s, y, a⟩ : GrantD)]).length = rows.length + 1 from by simp] at h9 at9
      have hne9 : ∀ b, (Value.slice A9 (rows.length + 1) d9).ownBlock = some b → b ≠ w2.heap.size ∧ w.heap.size + 1 + 1 < b := fun b hb => by
        rcases at9 with h | h
        · rw [h] at hb
          have := HLT.out b hb
          omega
        · rw [h] at hb
          injection hb with hb
          simp only [World.size_alloc] at hb
          omega
      have HNE9 := Lib.hid hne9
      have hS : (w9.setCell ⟨w2.heap.size, 0, none⟩ (.slice A9 (rows.length + 1) d9)).heap[w2.heap.size]? = some (.cells #[.slice A9 (rows.length + 1) d9] 34 (0, 0)) := heap_set _ _ _ _ _ _ hX9
      have hR10 := (heap_far w9 _ ⟨w2.heap.size, 0, none⟩ (.slice A9 (rows.length + 1) d9) (by dsimp only; omega)).trans hR9
      have hO9 := h9.setOther ⟨w2.heap.size, 0, none⟩ (.slice A9 (rows.length + 1) d9) (fun b hb => (HNE9.out b hb).1)
      have hT10 := hT9.setCell (p := ⟨w2.heap.size, 0, none⟩) (by dsimp only; omega) (.slice A9 (rows.length + 1) d9)
      clear cX9 fX9 hX9 hR9 h9 hne9 at9 g9 b9 hX hX4 cX fX hA hR4 hT hT4
      refine (KW'.out _ _ _ hO9).mono ?_
      rintro e w5 ⟨rfl, hb5⟩
      have hS5 := heap_keepB hS hb5
      have hR5 := heap_keepB hR10 hb5
      have hO5 := hO9.below hb5
      have hT5 := Below_then hT10 hb5
      have cX5 := cell_of hS5 0
      have cR5 := cell_of hR5 0
      have fR5 := frozen_of hR5
      clear hb5 hO9 hR10 hS
      cases x
      · have hR6 := heap_set _ _ 0 _ _ (.slice none 0 0) hR5
        go_wp2
        exact bodyPost_ret (v := .tuple #[.agg #[.slice none 0 0], .int .i64 0, .bool false]) (by simp [results, Try.results10, go_sem, cell_of hR6]) rfl ⟨_, rfl, OwnGr.nil _ _, hT5.setCell (by dsimp only; omega) _⟩
      · have hR6 := heap_set _ _ 0 _ _ (.slice A9 (rows.length + 1) d9) hR5
        have hO6 := hO5.setOther ⟨w.heap.size + 1 + 1, 0, none⟩ (.slice A9 (rows.length + 1) d9) (fun b hb => by have := (HNE9.out b hb).2; dsimp only; omega)
        go_wp2
        exact bodyPost_ret (v := .tuple #[.agg #[.slice A9 (rows.length + 1) d9], .int .i64 (g.n + 1), .bool true]) (by simp [results, Try.results10, go_sem, cell_of hR6]) rfl ⟨_, rfl, hO6, hT5.setCell (by dsimp only; omega) _⟩
set_option maxHeartbeats 8000000 in
set_option maxRecDepth 20000 in
theorem specGrantArms_any (ad : Addr) (c : Nat) (rows : List GrantD) (s : ByteArray) (y : Int) (a : ArmsD) (w : World) (hr : RdR 18 w (some ad) (gcs rows)) (hl : rows.length ≤ 1048576) (hs : ∀ g ∈ rows, g.s.size ≤ maxLen) (hcap : rows.length ≤ c) (hcm : c ≤ maxLen) (hsz : s.size ≤ maxLen) :
    Calls Try.prog 7 #[.agg #[.slice (some ad) rows.length c], .string s, .int .i64 y, .agg (ac a).toArray] w (GrOk w (gaRows rows s y a) (gaNum rows s y a) (gaOk rows s y a)) := by
  have KV := fun (w' : World) (hb : Below w.heap.size w w') => l16Good_any (some ad) c rows w' (hr.below hb) hl hs
  have KC := fun (w' : World) (hb : Below w.heap.size w w') => specOwn_any ad c rows w' (hr.below hb) hl
  have HS := Lib.hid hs
  have HH := Lib.hid hr
  have KC' := Lib.hid KC
  cases hv : regOk rows
  · have e1 : gaRows rows s y a = [] := by simp [gaRows, gaOk, hv]
    have e2 : gaNum rows s y a = 0 := by simp [gaNum, gaOk, hv]
    have e3 : gaOk rows s y a = false := by simp [gaOk, hv]
    rw [e1, e2, e3]
    rw [hv] at KV
    have KV' := Lib.hid KV
    clear KV KC hs hr hv e1 e2 e3
    go_enter Try.func7, Try.ntmps7
    go_wp2_with fail
    refine (KV'.out _ (by (repeat (first | exact Below.refl _ _ | assumption | refine Below_al ?_ _ | refine Below.drew ?_ | refine Below_then ?_ (by assumption) | refine Below.setCell ?_ (by first | omega | (simp; done) | (simp; omega)) _)))).mono ?_
    rintro e w1 ⟨rfl, hb1⟩
    obtain ⟨hc1, hf1⟩ := bcell hb1
    go_wp2
    exact bodyPost_ret (v := .tuple #[.agg #[.slice none 0 0], .int .i64 0, .bool false]) (by simp [results, Try.results7, go_sem, hc1]) rfl ⟨_, rfl, OwnGr.nil _ _, by (repeat (first | exact Below.refl _ _ | assumption | refine Below_al ?_ _ | refine Below.drew ?_ | refine Below_then ?_ (by assumption) | refine Below.setCell ?_ (by first | omega | (simp; done) | (simp; omega)) _))⟩
  · rw [hv] at KV
    have KV' := Lib.hid KV
    have h12 := regOk_len hv
    obtain ⟨num, hnum⟩ : ∃ num, num = nextN rows := ⟨_, rfl⟩
    have hsz2 : ∀ g ∈ rows ++ [⟨num, s, y, a⟩], (GrantD.s g).size ≤ maxLen := fun g hg => by
      rcases List.mem_append.1 hg with h | h
      · exact HS.out g h
      · simp at h
        rw [h]
        exact hsz
    have KW : ∀ (B : Nat) (v : Value) (w' : World), OwnGr w' B v (rows ++ [⟨num, s, y, a⟩]) → Calls Try.prog 19 #[.agg #[v]] w' fun e w'' => e = .returned (.bool (regOk (rows ++ [⟨num, s, y, a⟩]))) ∧ Below w'.heap.size w' w'' := fun B v w' ho => by
      obtain ⟨A', c', e, hr', hc1, hc2⟩ := ho.form
      have := l16Good_any A' c' (rows ++ [⟨num, s, y, a⟩]) w' hr' (by simp; omega) hsz2
      rw [← e] at this
      exact this
    have hga : gaAll rows s y a = rows ++ [⟨num, s, y, a⟩] := by rw [gaAll, hnum]
    have hok : gaOk rows s y a = regOk (rows ++ [⟨num, s, y, a⟩]) := by rw [gaOk, hv, hga, Bool.true_and]
    have hrw : gaRows rows s y a = bif regOk (rows ++ [⟨num, s, y, a⟩]) then rows ++ [⟨num, s, y, a⟩] else [] := by rw [gaRows, hok, hga]
    have hnm : gaNum rows s y a = bif regOk (rows ++ [⟨num, s, y, a⟩]) then num else 0 := by rw [gaNum, hok, hnum]
    rw [hrw, hok, hnm]
    generalize hx : regOk (rows ++ [⟨num, s, y, a⟩]) = x at KW
    have KW' := Lib.hid KW
    have HSZ2 := Lib.hid hsz2
    have hA0 : ∀ w', Below (w.heap.size + 1 + 1 + 1) (((w.alloc (.cells #[.slice (some ad) rows.length c] 34)).alloc (.cells (ac a).toArray 41)).alloc (.cells #[.slice none 0 0] 34)) w' → w'.heap[w.heap.size + 1]? = some (.cells (ac a).toArray 41 (0, 0)) ∧ w'.heap[w.heap.size]? = some (.cells #[.slice (some ad) rows.length c] 34 (0, 0)) ∧ w'.heap[w.heap.size + 1 + 1]? = some (.cells #[.slice none 0 0] 34 (0, 0)) ∧ Below w.heap.size w w' := fun w' hb =>
      ⟨(hb.block _ (by omega)).trans (heap_keepA (heap_hit _ _ _ (by simp)) _), (hb.block _ (by omega)).trans (heap_keepA (heap_keepA (heap_hit _ _ _ rfl) _) _), (hb.block _ (by omega)).trans (heap_hit _ _ _ (by simp)), Below.trans (by (repeat (first | exact Below.refl _ _ | assumption | refine Below_al ?_ _ | refine Below.drew ?_ | refine Below_then ?_ (by assumption) | refine Below.setCell ?_ (by first | omega | (simp; done) | (simp; omega)) _))) (hb.mono (by omega))⟩
    have HA0 := Lib.hid hA0
    clear KV KC hs hr hga hok hrw hnm hsz2 KW hA0
    rcases Nat.eq_zero_or_pos rows.length with h0 | hpos
    · have hn1 : num = 1 := by
        rw [hnum, nextN, List.eq_nil_of_length_eq_zero h0]
        rfl
      subst hn1
      have i0 : ¬ (0 : Int) < (rows.length : Int) := by omega
      have i1 : decide (0 < rows.length) = false := decide_eq_false (by omega)
      clear hnum hv h0
      go_enter Try.func7, Try.ntmps7
      go_wp2_with fail
      refine (KV'.out _ (by (repeat (first | exact Below.refl _ _ | assumption | refine Below_al ?_ _ | refine Below.drew ?_ | refine Below_then ?_ (by assumption) | refine Below.setCell ?_ (by first | omega | (simp; done) | (simp; omega)) _)))).mono ?_
      rintro e w1 ⟨rfl, hb1⟩
      obtain ⟨hA, hF, hR, hT⟩ := HA0.out _ (hb1.mono (by simp))
      have cF := cell_of hF 0
      go_wp2_with fail
      refine (KC'.out _ (by (repeat (first | exact Below.refl _ _ | assumption | refine Below_al ?_ _ | refine Below.drew ?_ | refine Below_then ?_ (by assumption) | refine Below.setCell ?_ (by first | omega | (simp; done) | (simp; omega)) _)))).mono ?_
      rintro e w2 ⟨v2, rfl, hO2, hb2⟩
      obtain ⟨A2, d2, rfl, -⟩ := hO2.form
      have hbw2 := Below_then hb1 hb2
      have hz1 := hb1.size
      have hz2 := hb2.size
      simp only [World.size_alloc] at hz1
      have hbw3 := Below_al hbw2 (.cells #[.slice A2 rows.length d2] 34)
      have hbw4 := Below_al hbw3 (.cells (gc ⟨1, s, y, a⟩).toArray 54)
      clear hA hF hR hT
      obtain ⟨hA, hF, hR, hT⟩ := HA0.out _ (hbw3.mono (by simp))
      obtain ⟨hA4, hF4, hR4, hT4⟩ := HA0.out _ (hbw4.mono (by simp))
      have hX := heap_hit w2 (.cells #[.slice A2 rows.length d2] 34 (0, 0)) _ rfl
      have hX4 := heap_keepA hX (.cells (gc ⟨1, s, y, a⟩).toArray 54)
      have hO4 := (hO2.below (Below_al (Below_al (Below.refl _ _) (.cells #[.slice A2 rows.length d2] 34)) (.cells (gc ⟨1, s, y, a⟩).toArray 54))).base (show w.heap.size ≤ w1.heap.size by omega)
      have hlt2 := hO2.lt
      have hneX : (Value.slice A2 rows.length d2).ownBlock ≠ some w2.heap.size := fun e => by have := (hlt2 _ e).2; omega
      have hneR : (Value.slice A2 rows.length d2).ownBlock ≠ some (w.heap.size + 1 + 1) := fun e => by have := (hlt2 _ e).1; omega
      have cX := cell_of hX 0
      have fX := frozen_of hX
      have HNX := Lib.hid hneX
      have HNR := Lib.hid hneR
      have HLT := Lib.hid hlt2
      have HO4 := Lib.hid hO4
      clear hneX hneR hlt2 hO2 hO4 hF hF4 hR hA4 hb2 hb1
      go_wp2_with (first | (refine ldA rfl _ rfl (w.heap.size + 1) 0 rfl a (rangeAt_blk hA) ?_) | (refine wp_buildG rfl _ _ _ _ rfl (1) s y a rfl rfl rfl rfl ?_) | (refine wp_buildS rfl _ rfl ⟨1, s, y, a⟩ rfl ?_) | (at_builtin; refine wp_appGr rfl _ _ rfl w.heap.size (.slice A2 rows.length d2) rows rfl HO4.out ⟨(w2.alloc (.cells #[.slice A2 rows.length d2] 34)).heap.size, 0, none⟩ 1 1 [⟨1, s, y, a⟩] rfl (RdR_one (heap_hit _ _ _ rfl)) rfl (by omega) (by simp) (by simp; omega) ?_; intro v' w9 h9 g9 b9 at9; have hX9 := heap_keepG hX4 g9 HNX.out; have hR9 := heap_keepG hR4 g9 HNR.out; have hT9 := Below.trans hT4 b9; have cX9 := cell_of hX9 0; have fX9 := frozen_of hX9; obtain ⟨A9, d9, rfl, -⟩ := h9.form) | fail)
      rw [show (rows ++ [(⟨1, s, y, a⟩ : GrantD)]).length = rows.length + 1 from by simp] at h9 at9
      have hne9 : ∀ b, (Value.slice A9 (rows.length + 1) d9).ownBlock = some b → b ≠ w2.heap.size ∧ w.heap.size + 1 + 1 < b := fun b hb => by
        rcases at9 with h | h
        · rw [h] at hb
          have := HLT.out b hb
          omega
        · rw [h] at hb
          injection hb with hb
          simp only [World.size_alloc] at hb
          omega
      have HNE9 := Lib.hid hne9
      have hS : (w9.setCell ⟨w2.heap.size, 0, none⟩ (.slice A9 (rows.length + 1) d9)).heap[w2.heap.size]? = some (.cells #[.slice A9 (rows.length + 1) d9] 34 (0, 0)) := heap_set _ _ _ _ _ _ hX9
      have hR10 := (heap_far w9 _ ⟨w2.heap.size, 0, none⟩ (.slice A9 (rows.length + 1) d9) (by dsimp only; omega)).trans hR9
      have hO9 := h9.setOther ⟨w2.heap.size, 0, none⟩ (.slice A9 (rows.length + 1) d9) (fun b hb => (HNE9.out b hb).1)
      have hT10 := hT9.setCell (p := ⟨w2.heap.size, 0, none⟩) (by dsimp only; omega) (.slice A9 (rows.length + 1) d9)
      clear cX9 fX9 hX9 hR9 h9 hne9 at9 g9 b9 hX hX4 cX fX hA hR4 hT hT4
      refine (KW'.out _ _ _ hO9).mono ?_
      rintro e w5 ⟨rfl, hb5⟩
      have hS5 := heap_keepB hS hb5
      have hR5 := heap_keepB hR10 hb5
      have hO5 := hO9.below hb5
      have hT5 := Below_then hT10 hb5
      have cX5 := cell_of hS5 0
      have cR5 := cell_of hR5 0
      have fR5 := frozen_of hR5
      clear hb5 hO9 hR10 hS
      cases x
      · have hR6 := heap_set _ _ 0 _ _ (.slice none 0 0) hR5
        go_wp2
        exact bodyPost_ret (v := .tuple #[.agg #[.slice none 0 0], .int .i64 0, .bool false]) (by simp [results, Try.results7, go_sem, cell_of hR6]) rfl ⟨_, rfl, OwnGr.nil _ _, hT5.setCell (by dsimp only; omega) _⟩
      · have hR6 := heap_set _ _ 0 _ _ (.slice A9 (rows.length + 1) d9) hR5
        have hO6 := hO5.setOther ⟨w.heap.size + 1 + 1, 0, none⟩ (.slice A9 (rows.length + 1) d9) (fun b hb => by have := (HNE9.out b hb).2; dsimp only; omega)
        go_wp2
        exact bodyPost_ret (v := .tuple #[.agg #[.slice A9 (rows.length + 1) d9], .int .i64 (1), .bool true]) (by simp [results, Try.results7, go_sem, cell_of hR6]) rfl ⟨_, rfl, hO6, hT5.setCell (by dsimp only; omega) _⟩
    · obtain ⟨g, hg⟩ := grant_at (rows := rows) (k := rows.length - 1) (by omega)
      have hn1 := nextN_last (m := rows.length - 1) (by omega) hg
      have hgn := grantOk_n (regOk_grant hv hg)
      have HG := Lib.hid hg
      rw [hn1] at hnum
      subst hnum
      have i0 : (0 : Int) < (rows.length : Int) := by omega
      have i1 : decide (0 < rows.length) = true := decide_eq_true (by omega)
      have i2 : (0 : Int) ≤ (rows.length : Int) - 1 := by omega
      have i3 : (rows.length : Int) - 1 < (rows.length : Int) := by omega
      clear hn1 hv hg hpos
      go_enter Try.func7, Try.ntmps7
      go_wp2_with fail
      refine (KV'.out _ (by (repeat (first | exact Below.refl _ _ | assumption | refine Below_al ?_ _ | refine Below.drew ?_ | refine Below_then ?_ (by assumption) | refine Below.setCell ?_ (by first | omega | (simp; done) | (simp; omega)) _)))).mono ?_
      rintro e w1 ⟨rfl, hb1⟩
      obtain ⟨hA, hF, hR, hT⟩ := HA0.out _ (hb1.mono (by simp))
      obtain ⟨b, off, e, hr1, -⟩ := (HH.out.below hT).grants HG.out
      injection e with e
      subst e
      have cF := cell_of hF 0
      have cG := (gc_cells hr1).1
      go_wp2_with fail
      refine (KC'.out _ (by (repeat (first | exact Below.refl _ _ | assumption | refine Below_al ?_ _ | refine Below.drew ?_ | refine Below_then ?_ (by assumption) | refine Below.setCell ?_ (by first | omega | (simp; done) | (simp; omega)) _)))).mono ?_
      rintro e w2 ⟨v2, rfl, hO2, hb2⟩
      obtain ⟨A2, d2, rfl, -⟩ := hO2.form
      have hbw2 := Below_then hb1 hb2
      have hz1 := hb1.size
      have hz2 := hb2.size
      simp only [World.size_alloc] at hz1
      have hbw3 := Below_al hbw2 (.cells #[.slice A2 rows.length d2] 34)
      have hbw4 := Below_al hbw3 (.cells (gc ⟨g.n + 1, s, y, a⟩).toArray 54)
      clear hA hF hR hT
      obtain ⟨hA, hF, hR, hT⟩ := HA0.out _ (hbw3.mono (by simp))
      obtain ⟨hA4, hF4, hR4, hT4⟩ := HA0.out _ (hbw4.mono (by simp))
      have hX := heap_hit w2 (.cells #[.slice A2 rows.length d2] 34 (0, 0)) _ rfl
      have hX4 := heap_keepA hX (.cells (gc ⟨g.n + 1, s, y, a⟩).toArray 54)
      have hO4 := (hO2.below (Below_al (Below_al (Below.refl _ _) (.cells #[.slice A2 rows.length d2] 34)) (.cells (gc ⟨g.n + 1, s, y, a⟩).toArray 54))).base (show w.heap.size ≤ w1.heap.size by omega)
      have hlt2 := hO2.lt
      have hneX : (Value.slice A2 rows.length d2).ownBlock ≠ some w2.heap.size := fun e => by have := (hlt2 _ e).2; omega
      have hneR : (Value.slice A2 rows.length d2).ownBlock ≠ some (w.heap.size + 1 + 1) := fun e => by have := (hlt2 _ e).1; omega
      have cX := cell_of hX 0
      have fX := frozen_of hX
      have HNX := Lib.hid hneX
      have HNR := Lib.hid hneR
      have HLT := Lib.hid hlt2
      have HO4 := Lib.hid hO4
      clear hneX hneR hlt2 hO2 hO4 hF hF4 hR hA4 hb2 hb1
      go_wp2_with (first | (refine ldA rfl _ rfl (w.heap.size + 1) 0 rfl a (rangeAt_blk hA) ?_) | (refine wp_buildG rfl _ _ _ _ rfl (g.n + 1) s y a rfl rfl rfl rfl ?_) | (refine wp_buildS rfl _ rfl ⟨g.n + 1, s, y, a⟩ rfl ?_) | (at_builtin; refine wp_appGr rfl _ _ rfl w.heap.size (.slice A2 rows.length d2) rows rfl HO4.out ⟨(w2.alloc (.cells #[.slice A2 rows.length d2] 34)).heap.size, 0, none⟩ 1 1 [⟨g.n + 1, s, y, a⟩] rfl (RdR_one (heap_hit _ _ _ rfl)) rfl (by omega) (by simp) (by simp; omega) ?_; intro v' w9 h9 g9 b9 at9; have hX9 := heap_keepG hX4 g9 HNX.out; have hR9 := heap_keepG hR4 g9 HNR.out; have hT9 := Below.trans hT4 b9; have cX9 := cell_of hX9 0; have fX9 := frozen_of hX9; obtain ⟨A9, d9, rfl, -⟩ := h9.form) | fail)
      rw [show (rows ++ [(⟨g.n + 1, s, y, a⟩ : GrantD)]).length = rows.length + 1 from by simp] at h9 at9
      have hne9 : ∀ b, (Value.slice A9 (rows.length + 1) d9).ownBlock = some b → b ≠ w2.heap.size ∧ w.heap.size + 1 + 1 < b := fun b hb => by
        rcases at9 with h | h
        · rw [h] at hb
          have := HLT.out b hb
          omega
        · rw [h] at hb
          injection hb with hb
          simp only [World.size_alloc] at hb
          omega
      have HNE9 := Lib.hid hne9
      have hS : (w9.setCell ⟨w2.heap.size, 0, none⟩ (.slice A9 (rows.length + 1) d9)).heap[w2.heap.size]? = some (.cells #[.slice A9 (rows.length + 1) d9] 34 (0, 0)) := heap_set _ _ _ _ _ _ hX9
      have hR10 := (heap_far w9 _ ⟨w2.heap.size, 0, none⟩ (.slice A9 (rows.length + 1) d9) (by dsimp only; omega)).trans hR9
      have hO9 := h9.setOther ⟨w2.heap.size, 0, none⟩ (.slice A9 (rows.length + 1) d9) (fun b hb => (HNE9.out b hb).1)
      have hT10 := hT9.setCell (p := ⟨w2.heap.size, 0, none⟩) (by dsimp only; omega) (.slice A9 (rows.length + 1) d9)
      clear cX9 fX9 hX9 hR9 h9 hne9 at9 g9 b9 hX hX4 cX fX hA hR4 hT hT4
      refine (KW'.out _ _ _ hO9).mono ?_
      rintro e w5 ⟨rfl, hb5⟩
      have hS5 := heap_keepB hS hb5
      have hR5 := heap_keepB hR10 hb5
      have hO5 := hO9.below hb5
      have hT5 := Below_then hT10 hb5
      have cX5 := cell_of hS5 0
      have cR5 := cell_of hR5 0
      have fR5 := frozen_of hR5
      clear hb5 hO9 hR10 hS
      cases x
      · have hR6 := heap_set _ _ 0 _ _ (.slice none 0 0) hR5
        go_wp2
        exact bodyPost_ret (v := .tuple #[.agg #[.slice none 0 0], .int .i64 0, .bool false]) (by simp [results, Try.results7, go_sem, cell_of hR6]) rfl ⟨_, rfl, OwnGr.nil _ _, hT5.setCell (by dsimp only; omega) _⟩
      · have hR6 := heap_set _ _ 0 _ _ (.slice A9 (rows.length + 1) d9) hR5
        have hO6 := hO5.setOther ⟨w.heap.size + 1 + 1, 0, none⟩ (.slice A9 (rows.length + 1) d9) (fun b hb => by have := (HNE9.out b hb).2; dsimp only; omega)
        go_wp2
        exact bodyPost_ret (v := .tuple #[.agg #[.slice A9 (rows.length + 1) d9], .int .i64 (g.n + 1), .bool true]) (by simp [results, Try.results7, go_sem, cell_of hR6]) rfl ⟨_, rfl, hO6, hT5.setCell (by dsimp only; omega) _⟩
end Go.Proofs.Ytnpehlghbfmbaaa
