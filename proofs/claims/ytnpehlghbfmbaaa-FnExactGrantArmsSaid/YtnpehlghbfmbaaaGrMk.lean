/- Contracts: marks on registers, to the number; what is held. -/
import Derived.Test.YtnpehlghbfmbaaaGrOwn
namespace Go.Proofs.Ytnpehlghbfmbaaa
open Go.ChangeShapes Go.WideShapes Go.ChangeAt Go.RowKit
set_option linter.unusedVariables false
set_option linter.unusedSimpArgs false
/-- The digits of a number, as a text. -/
def dgB (n : Nat) : ByteArray := if h : n = 0 then ⟨#[]⟩ else dgB (n / 10) ++ ⟨[UInt8.ofNat (48 + (n : Int) % 10).toNat].toArray⟩
termination_by n
decreasing_by omega
theorem dgB_zero : dgB 0 = ⟨#[]⟩ := by rw [dgB]; rfl
theorem dgB_step {n : Nat} (h : n ≠ 0) : dgB n = dgB (n / 10) ++ ⟨[UInt8.ofNat (48 + (n : Int) % 10).toNat].toArray⟩ := by
  rw [dgB]
  simp [h]
theorem bytes_assoc (a b c : ByteArray) : a ++ b ++ c = a ++ (b ++ c) := by
  apply ByteArray.ext
  simp [ByteArray.data_append, Array.append_assoc]
theorem bytes_nil (a : ByteArray) : (⟨#[]⟩ : ByteArray) ++ a = a := by
  apply ByteArray.ext
  simp [ByteArray.data_append]
theorem bytes_end (a : ByteArray) : a ++ (⟨#[]⟩ : ByteArray) = a := by
  apply ByteArray.ext
  simp [ByteArray.data_append]
/-- The text that marks. -/
def mt (k : Int) : ByteArray := (⟨#[109]⟩ : ByteArray) ++ dgB k.toNat
set_option maxHeartbeats 1000000 in
set_option maxRecDepth 20000 in
theorem markTextF (k : Int) (w : World) (h0 : 1 ≤ k) (h1 : k ≤ 1099511627776) : Calls Try.prog 45 #[.int .i64 k] w fun e w' => e = .returned (.string (mt k)) ∧ Below w.heap.size w w' := by
  have hk : ¬ k ≤ 0 := by omega
  unfold mt
  obtain ⟨D, hD⟩ : ∃ D, D = dgB k.toNat := ⟨_, rfl⟩
  rw [← hD]
  have hst : dgB k.toNat ++ (⟨#[]⟩ : ByteArray) = D := by rw [hD, bytes_end]
  clear hD
  go_enter Try.func45, Try.ntmps45
  go_wp2_with fail
  clear hk
  go_loopw [0, 3] (fun z s wr => ∃ (q : Nat) (t : ByteArray), z = .int .i64 q ∧ s = .string t ∧ (t.size : Int) + q ≤ k ∧ dgB q ++ t = D ∧ Below w.heap.size w wr) (fun z _ _ => (intOf z).toNat)
  case atStart => exact ⟨k.toNat, ⟨#[]⟩, by rw [show ((k.toNat : Nat) : Int) = k from by omega], rfl, by simp [ByteArray.size]; omega, hst, Below.refl _ _⟩
  case round =>
    obtain ⟨q, t, rfl, rfl, ht, hdg, hb⟩ := hrel
    by_cases hp : 0 < q
    · have hm0 := Int.emod_nonneg (q : Int) (show (10 : Int) ≠ 0 by decide)
      have hm1 := Int.emod_lt_of_pos (q : Int) (show (0 : Int) < 10 by decide)
      have d0 : (0 : Int) < (q : Int) := by omega
      have d1 : decide (0 < (q : Int)) = true := by simpa using d0
      have d2 : decide (0 < q) = true := by simpa using hp
      rw [dgB_step (by omega)] at hdg
      obtain ⟨t1, ht1⟩ : ∃ t1 : ByteArray, t1 = ⟨[UInt8.ofNat (48 + (q : Int) % 10).toNat].toArray⟩ := ⟨_, rfl⟩
      rw [← ht1] at hdg
      have hcv := conv1 (wr.alloc (.cells #[.int .u8 (48 + (q : Int) % 10)] 5)) wr.heap.size (48 + (q : Int) % 10) (cell_of (heap_hit _ _ _ rfl) 0) (by omega)
      rw [← ht1] at hcv
      have hs1 : t1.size = 1 := by rw [ht1]; rfl
      have hdv : (q : Int) / 10 + 1 ≤ (q : Int) := by omega
      have hd0 : (0 : Int) ≤ (q : Int) / 10 := by omega
      rw [bytes_assoc] at hdg
      have HDG := Lib.hid hdg
      clear ht1 hdg
      go_wp2
      go_roundw
      case rel => exact ⟨q / 10, t1 ++ t, by rw [show ((q / 10 : Nat) : Int) = (q : Int) / 10 from by omega], rfl, by rw [ByteArray.size_append]; omega, HDG.out, Below_al hb _⟩
      case measure => simp [intOf]; omega
    · obtain rfl : q = 0 := by omega
      rw [dgB_zero, bytes_nil] at hdg
      subst hdg
      go_wp2
      go_ret
      exact ⟨rfl, by (repeat (first | exact Below.refl _ _ | assumption | refine Below_al ?_ _ | refine Below.drew ?_ | refine Below_then ?_ (by assumption) | refine Below.setCell ?_ (by first | omega | (simp; done) | (simp; omega)) _))⟩
/-- The grant that marks, from number k on. -/
def mg (k : Int) : GrantD := ⟨k, mt (k + 1), k + 1 + 1, ⟨k + 1 + 1 + 1, k + 1 + 1 + 1 + 1, k + 1 + 1 + 1 + 1 + 1, k + 1 + 1 + 1 + 1 + 1 + 1, k + 1 + 1 + 1 + 1 + 1 + 1 + 1, k + 1 + 1 + 1 + 1 + 1 + 1 + 1 + 1, k + 1 + 1 + 1 + 1 + 1 + 1 + 1 + 1 + 1, k + 1 + 1 + 1 + 1 + 1 + 1 + 1 + 1 + 1 + 1, k + 1 + 1 + 1 + 1 + 1 + 1 + 1 + 1 + 1 + 1 + 1, k + 1 + 1 + 1 + 1 + 1 + 1 + 1 + 1 + 1 + 1 + 1 + 1, k + 1 + 1 + 1 + 1 + 1 + 1 + 1 + 1 + 1 + 1 + 1 + 1 + 1, k + 1 + 1 + 1 + 1 + 1 + 1 + 1 + 1 + 1 + 1 + 1 + 1 + 1 + 1, k + 1 + 1 + 1 + 1 + 1 + 1 + 1 + 1 + 1 + 1 + 1 + 1 + 1 + 1 + 1, k + 1 + 1 + 1 + 1 + 1 + 1 + 1 + 1 + 1 + 1 + 1 + 1 + 1 + 1 + 1 + 1, k + 1 + 1 + 1 + 1 + 1 + 1 + 1 + 1 + 1 + 1 + 1 + 1 + 1 + 1 + 1 + 1 + 1⟩⟩
def mgs (k0 : Int) (n : Nat) : List GrantD := (List.range n).map fun (i : Nat) => mg (k0 + 18 * (i : Int))
theorem mgs_len (k0 : Int) (n : Nat) : (mgs k0 n).length = n := by simp [mgs]
theorem mgs_at (k0 : Int) (n k : Nat) (h : k < n) : (mgs k0 n)[k]? = some (mg (k0 + 18 * k)) := by simp [mgs, h]
theorem mgs_snoc (k0 : Int) (n : Nat) : mgs k0 (n + 1) = mgs k0 n ++ [mg (k0 + 18 * n)] := by simp [mgs, List.range_succ]
/-- Number j of the cells of a grant that marks. -/
def mgc (k : Int) (j : Nat) : Value := (gc (mg k)).getD j (.int .i64 0)
theorem mgc_all (k : Int) : (List.range 18).map (mgc k) = gc (mg k) := rfl
/-- Block g has N cells: first those of pre, then the first j of f; nothing but it has turned since W. -/
structure MBf (W : World) (g N : Nat) (T : TypeId) (pre : List Value) (f : Nat → Value) (j : Nat) (wr : World) : Prop where
  ex : ∃ cur : Array Value, wr.heap[g]? = some (.cells cur T (0, 0)) ∧ cur.size = N ∧ cur.toList.take (pre.length + j) = pre ++ (List.range j).map f
  gr : W.grownBy wr (some g)
theorem MBf.below {W wr w' : World} {g N : Nat} {T : TypeId} {pre : List Value} {f : Nat → Value} {j : Nat} (h : MBf W g N T pre f j wr) (hb : Below wr.heap.size wr w') : MBf W g N T pre f j w' := by
  obtain ⟨cur, h1, h2⟩ := h.ex
  exact ⟨⟨cur, heap_keepB h1 hb, h2⟩, grownBy_below h.gr hb⟩
theorem take_set_one (l : List Value) (i : Nat) (v : Value) (h : i < l.length) : (l.set i v).take (i + 1) = l.take i ++ [v] := by
  rw [List.take_add_one, List.getElem?_set_self h, List.take_set_of_le (Nat.le_refl _)]
  rfl
section
variable {P : Program} {ops : Array Oper} {rest : List Oper} {op : Oper} {a : Act} {w : World} {Q : Exit → Act → World → Prop}
theorem wpList_store_mbf (hgd : op.guard = none) (ty : TypeId) (x y : Operand) (ho : op.op = .store ty x y) (W : World) (g N : Nat) (T : TypeId) (pre : List Value) (f : Nat → Value) (j i : Nat) (v : Value) (hb : MBf W g N T pre f j w) (hx : a.eval x = .pointer (some ⟨g, i, none⟩)) (hi : i = pre.length + j) (hN : i < N) (hy : a.eval y = v) (hv' : v = f j)
    (hv : v.cells = #[v]) (hs : (P.info? ty).map (·.size) = some 1) (h1 : v.oneCell' = true)
    (h : ∀ w', MBf W g N T pre f (j + 1) w' → wpList P ops Q rest (a.put op.dst undef) w') : wpList P ops Q (op :: rest) a w := by
  obtain ⟨cur, e1, e2, e3⟩ := hb.ex
  refine wpList_plain hgd fun _ hK => ?_
  have hst : (storeVar ty ⟨g, i, none⟩ v).run P w = .ok () (w.setCells g i [v]) := by
    have := run_storeCells_cells (P := P) g i [v] 0 w (fun j hj => by simp at hj; subst hj; rw [Nat.add_zero, cell_of e1, Array.getElem?_eq_getElem (by omega)]; rfl) (fun j hj => by simp at hj; subst hj; exact frozen_of e1 _) (fun u hu => by simp at hu; subst hu; exact h1)
    cases hq : P.info? ty with
    | none => simp [hq] at hs
    | some ii =>
      have hs' : ii.size = 1 := by simpa [hq] using hs
      simp only [Nat.add_zero] at this
      simp [storeVar, sizeOf, typeInfo, hq, hv, hs', this]
  unfold Oper.wp execOp
  simp only [ho, hx, hy, Instr.storeAt, Instr.sureAddr, Sem.run_bind, Sem.run_pure, Result.andThen_ok, hst]
  refine hK _ _ (h _ ⟨⟨_, by simpa [World.setCells] using heap_set w g i cur T v e1, by simpa using e2, ?_⟩, grownBy_trans hb.gr (grownBy_setCells [v] i (World.grownBy.refl _ _))⟩)
  have hl : cur.toList.length = N := by simpa using e2
  rw [Array.toList_setIfInBounds, ← Nat.add_assoc, ← hi, take_set_one _ _ _ (by omega), hi, e3, List.range_succ, List.map_append, List.map_cons, List.map_nil, List.append_assoc, hv']
end
def MarkGr (w : World) (B : Nat) (v : Value) (n : Nat) (k0 : Int) (e : Ending) (w' : World) : Prop := e = .returned (.int .i64 (k0 + 18 * n)) ∧ OwnGr w' B v (mgs k0 n) ∧ w.grownBy w' v.ownBlock
set_option maxHeartbeats 8000000 in
set_option maxRecDepth 100000 in
theorem markGrantS_own (B : Nat) (v : Value) (rows : List GrantD) (k0 : Int) (w : World) (h : OwnGr w B v rows) (hn : rows.length ≤ 1048576) (hk0 : 1 ≤ k0) (hk1 : k0 ≤ 1048576) :
    Calls Try.prog 27 #[v, .int .i64 k0] w (MarkGr w B v rows.length k0) := by
  obtain ⟨hl, ⟨rfl, h0⟩ | ⟨g, c, cur, rfl, hB, hh, hnc, hcm, hcs, htk⟩⟩ := h
  · rw [h0]
    go_enter Try.func27, Try.ntmps27
    go_wp2_with fail
    refine wp_loop_rounds 1 ?_
    rw [rounds_succ]
    go_wp2
    go_ret
    exact ⟨retI (by simp), OwnGr.nil _ _, World.grownBy.refl _ _⟩
  · have hI := info_i1
    have hS := info_s1
    have hfin : ∀ wr, MBf w g (c * 18) 54 (gcs (mgs k0 rows.length)).flatten (mgc (k0 + 18 * rows.length)) 0 wr → OwnGr wr B (.slice (some ⟨g, 0, none⟩) rows.length c) (mgs k0 rows.length) ∧ w.grownBy wr (some g) := by
      intro wr hm
      obtain ⟨cur', e1, e2, e3⟩ := hm.ex
      have hfl : (gcs (mgs k0 rows.length)).flatten.length = rows.length * 18 := by rw [flat_len (gcs_wid _), gcs_len, mgs_len]
      refine ⟨?_, hm.gr⟩
      unfold OwnGr
      rw [mgs_len]
      refine ⟨hfl, .inr ⟨g, c, cur', rfl, hB, e1, hnc, hcm, e2, ?_⟩⟩
      rw [← hfl]
      simpa using e3
    have HFIN := Lib.hid hfin
    have hst : MBf w g (c * 18) 54 (gcs (mgs k0 0)).flatten (mgc (k0 + 18 * (0 : Nat))) 0 w := ⟨⟨cur, hh, hcs, by simp [mgs, gcs]⟩, World.grownBy.refl _ _⟩
    clear hfin hh hl htk hcs hcm
    obtain ⟨n, hnn⟩ : ∃ n, n = rows.length := ⟨_, rfl⟩
    rw [← hnn] at HFIN hn hnc ⊢
    clear hnn
    go_enter Try.func27, Try.ntmps27
    go_wp2_with fail
    go_loopw [1, 5] (fun kk i wr => ∃ k : Nat, k ≤ n ∧ i = .int .i64 k ∧ kk = .int .i64 (k0 + 18 * k) ∧ MBf w g (c * 18) 54 (gcs (mgs k0 k)).flatten (mgc (k0 + 18 * k)) 0 wr) (fun _ i _ => n - (intOf i).toNat)
    case atStart => exact ⟨0, Nat.zero_le _, rfl, by simp, hst⟩
    case round =>
      clear hst
      obtain ⟨k, hk, rfl, rfl, hbk⟩ := hrel
      by_cases hlt : k < n
      · have i1 : (k : Int) < (n : Int) := by omega
        have d1 : decide (k < n) = true := by simpa using hlt
        have hpl : (gcs (mgs k0 k)).flatten.length = k * 18 := by rw [flat_len (gcs_wid _), gcs_len, mgs_len]
        have hnx : ∀ wr, MBf w g (c * 18) 54 (gcs (mgs k0 k)).flatten (mgc (k0 + 18 * k)) 18 wr → MBf w g (c * 18) 54 (gcs (mgs k0 (k + 1))).flatten (mgc (k0 + 18 * (k + 1 : Nat))) 0 wr := by
          rintro wr ⟨⟨cur', e1, e2, e3⟩, e4⟩
          refine ⟨⟨cur', e1, e2, ?_⟩, e4⟩
          rw [mgc_all] at e3
          rw [mgs_snoc, gcs_append, List.flatten_append, show (gcs [mg (k0 + 18 * k)]).flatten = gc (mg (k0 + 18 * k)) from by simp [gcs], List.length_append, gc_len]
          simpa using e3
        have HNX := Lib.hid hnx
        obtain ⟨pre, hpre⟩ : ∃ pre, pre = (gcs (mgs k0 k)).flatten := ⟨_, rfl⟩
        rw [← hpre] at hbk hpl HNX
        obtain ⟨K, hK⟩ : ∃ K : Int, K = k0 + 18 * (k : Int) := ⟨_, rfl⟩
        have hKn : K + 18 = k0 + 18 * ((k + 1 : Nat) : Int) := by rw [hK]; omega
        have hKb : 1 ≤ K ∧ K ≤ 20000000 := by omega
        rw [← hK] at hbk HNX ⊢
        clear hnx hpre hK
        go_wp2_with (first | (go_at_call 45; refine (markTextF _ _ (by omega) (by omega)).mono ?_; rintro e w2 ⟨rfl, hb2⟩; replace hbk := hbk.below hb2; clear hb2) | (refine wpList_store_mbf rfl 3 _ _ rfl w g (c * 18) _ pre _ _ _ _ (by assumption) rfl ?hi ?hN rfl rfl rfl hI rfl ?_; (case hi => omega); (case hN => omega); clear hbk; intro wn hbk) | (refine wpList_store_mbf rfl 9 _ _ rfl w g (c * 18) _ pre _ _ _ _ (by assumption) rfl ?hi ?hN rfl rfl rfl hS rfl ?_; (case hi => omega); (case hN => omega); clear hbk; intro wn hbk) | fail)
        go_roundw
        case rel => exact ⟨k + 1, by omega, by go_num, by rw [← hKn]; go_num, HNX.out _ hbk⟩
        case measure => simp [intOf]; omega
      · obtain rfl : k = n := by omega
        have d1 : decide (k < k) = false := by simp
        go_wp2
        go_ret
        exact ⟨rfl, HFIN.out _ hbk⟩
theorem markRegister_own (B : Nat) (v : Value) (rows : List GrantD) (k0 : Int) (w : World) (h : OwnGr w B v rows) (hn : rows.length ≤ 1048576) (hk0 : 1 ≤ k0) (hk1 : k0 ≤ 1048576) :
    Calls Try.prog 12 #[.agg #[v], .int .i64 k0] w (MarkGr w B v rows.length k0) := by
  have K := fun (w' : World) (hb : Below w.heap.size w w') => markGrantS_own B v rows k0 w' (h.below hb) hn hk0 hk1
  have K' := Lib.hid K
  obtain ⟨A, c, rfl, -⟩ := h.form
  clear K h
  go_enter Try.func12, Try.ntmps12
  go_wp2_with fail
  refine (K'.out _ (by (repeat (first | exact Below.refl _ _ | assumption | refine Below_al ?_ _ | refine Below.drew ?_ | refine Below_then ?_ (by assumption) | refine Below.setCell ?_ (by first | omega | (simp; done) | (simp; omega)) _)))).mono ?_
  rintro e w1 ⟨rfl, ho, hg⟩
  go_wp2
  go_ret
  exact ⟨rfl, ho, below_grownBy (by (repeat (first | exact Below.refl _ _ | assumption | refine Below_al ?_ _ | refine Below.drew ?_ | refine Below_then ?_ (by assumption) | refine Below.setCell ?_ (by first | omega | (simp; done) | (simp; omega)) _))) hg⟩
/-- The cells of a grant, one by one. -/
theorem gr18 {w : World} {g : GrantD} {b o : Nat} (h : w.rangeAt b o (gc g)) : w.cell? ⟨b, o, none⟩ = some (.int .i64 g.n) ∧ w.cell? ⟨b, o + 1, none⟩ = some (.string g.s) ∧ w.cell? ⟨b, o + 2, none⟩ = some (.int .i64 g.y) ∧ w.cell? ⟨b, o + 3, none⟩ = some (.int .i64 g.a.d) ∧ w.cell? ⟨b, o + 4, none⟩ = some (.int .i64 g.a.l) ∧ w.cell? ⟨b, o + 5, none⟩ = some (.int .i64 g.a.p) ∧ w.cell? ⟨b, o + 6, none⟩ = some (.int .i64 g.a.q) ∧ w.cell? ⟨b, o + 7, none⟩ = some (.int .i64 g.a.o) ∧ w.cell? ⟨b, o + 8, none⟩ = some (.int .i64 g.a.li) ∧ w.cell? ⟨b, o + 9, none⟩ = some (.int .i64 g.a.t) ∧ w.cell? ⟨b, o + 10, none⟩ = some (.int .i64 g.a.c1) ∧ w.cell? ⟨b, o + 11, none⟩ = some (.int .i64 g.a.k1) ∧ w.cell? ⟨b, o + 12, none⟩ = some (.int .i64 g.a.a1) ∧ w.cell? ⟨b, o + 13, none⟩ = some (.int .i64 g.a.t1) ∧ w.cell? ⟨b, o + 14, none⟩ = some (.int .i64 g.a.c2) ∧ w.cell? ⟨b, o + 15, none⟩ = some (.int .i64 g.a.k2) ∧ w.cell? ⟨b, o + 16, none⟩ = some (.int .i64 g.a.a2) ∧ w.cell? ⟨b, o + 17, none⟩ = some (.int .i64 g.a.t2) :=
  ⟨h 0 _ rfl, h 1 _ rfl, h 2 _ rfl, h 3 _ rfl, h 4 _ rfl, h 5 _ rfl, h 6 _ rfl, h 7 _ rfl, h 8 _ rfl, h 9 _ rfl, h 10 _ rfl, h 11 _ rfl, h 12 _ rfl, h 13 _ rfl, h 14 _ rfl, h 15 _ rfl, h 16 _ rfl, h 17 _ rfl⟩
set_option maxHeartbeats 8000000 in
set_option maxRecDepth 100000 in
theorem heldGrantS_marks (A : Option Addr) (c n : Nat) (k0 : Int) (w : World) (h : RdR 18 w A (gcs (mgs k0 n))) (hn : n ≤ 1048576) (hk0 : 1 ≤ k0) (hk1 : k0 ≤ 1048576) :
    Calls Try.prog 28 #[.slice A n c, .int .i64 k0] w fun e w' => e = .returned (.int .i64 (k0 + 18 * n)) ∧ Below w.heap.size w w' := by
  go_enter Try.func28, Try.ntmps28
  go_wp2_with fail
  go_loopw [1, 5] (fun kk i wr => ∃ k : Nat, k ≤ n ∧ i = .int .i64 k ∧ kk = .int .i64 (k0 + 18 * k) ∧ Below w.heap.size w wr) (fun _ i _ => n - (intOf i).toNat)
  case atStart => exact ⟨0, Nat.zero_le _, rfl, by simp, Below.refl _ _⟩
  case round =>
    obtain ⟨k, hk, rfl, rfl, hb⟩ := hrel
    by_cases hlt : k < n
    · obtain ⟨b, off, rfl, hr, -⟩ := (h.below hb).grants (mgs_at k0 n k hlt)
      have i1 : (k : Int) < (n : Int) := by omega
      have d1 : decide (k < n) = true := by simpa using hlt
      obtain ⟨K0, hK0⟩ : ∃ K0 : Int, K0 = k0 + 18 * (k : Int) := ⟨_, rfl⟩
      have hKn : K0 + 18 = k0 + 18 * ((k + 1 : Nat) : Int) := by rw [hK0]; omega
      have hKb : 1 ≤ K0 ∧ K0 ≤ 20000000 := by omega
      rw [← hK0] at hr ⊢
      have HR := Lib.hid hr
      clear hK0 hr
      have hc := gr18 HR.out
      simp only [mg] at hc
      obtain ⟨c0, c1, c2, c3, c4, c5, c6, c7, c8, c9, c10, c11, c12, c13, c14, c15, c16, c17⟩ := hc
      go_wp2_with fail
      refine wp_region_noPanic ?_
      refine wp_region_held_drew (S := (fun w' => w'.cell? ⟨b, off + k * 18 + 1, none⟩ = some (.string (mt (K0 + 1)) : Value) ∧ Below wr.heap.size wr w')) (by kernel_rfl) ⟨c1, (Below.refl _ _).drew⟩ (fun hHeld => ?_)
      refine wpAnyH_take (i := 0) (oi := _) (v := ?_) rfl (by kernel_rfl) (by kernel_rfl) (by kernel_rfl) (fun _ _ _ h => h) (Or.inl ⟨by rfl, ?_⟩) (by assumption) ?_
      rotate_left
      · intro w hSw; clear hSw; first | (go_simp; done) | (go_simp; with_reducible rfl)
      simp only [Act.put, List.getElem_toArray, List.getElem_cons_succ, List.getElem_cons_zero, List.setIfInBounds_toArray, List.set_cons_zero, List.set_cons_succ]
      refine wpAnyH_take (i := 1) (oi := _) (v := ?_) rfl (by kernel_rfl) (by kernel_rfl) (by kernel_rfl) (fun _ _ _ h => h) (Or.inl ⟨by rfl, ?_⟩) (by assumption) ?_
      rotate_left
      · intro w hSw; clear hSw; first | (go_simp; done) | (go_simp; with_reducible rfl)
      simp only [Act.put, List.getElem_toArray, List.getElem_cons_succ, List.getElem_cons_zero, List.setIfInBounds_toArray, List.set_cons_zero, List.set_cons_succ]
      refine wpAnyH_take (i := 2) (oi := _) (v := ?_) rfl (by kernel_rfl) (by kernel_rfl) (by kernel_rfl) (fun _ _ _ h => h) (Or.inl ⟨by rfl, ?_⟩) (by assumption) ?_
      rotate_left
      · intro w hSw; clear hSw; first | (go_simp; done) | (go_simp; with_reducible rfl)
      simp only [Act.put, List.getElem_toArray, List.getElem_cons_succ, List.getElem_cons_zero, List.setIfInBounds_toArray, List.set_cons_zero, List.set_cons_succ]
      refine wpAnyH_take (i := 3) (oi := _) (v := ?_) rfl (by kernel_rfl) (by kernel_rfl) (by kernel_rfl) (fun _ _ _ h => h) (Or.inl ⟨by rfl, ?_⟩) (by assumption) ?_
      rotate_left
      · intro w hSw; clear hSw; first | (go_simp; done) | (go_simp; with_reducible rfl)
      simp only [Act.put, List.getElem_toArray, List.getElem_cons_succ, List.getElem_cons_zero, List.setIfInBounds_toArray, List.set_cons_zero, List.set_cons_succ]
      refine wpAnyH_take (i := 4) (oi := _) (v := ?_) rfl (by kernel_rfl) (by kernel_rfl) (by kernel_rfl) (fun _ _ _ h => h) (Or.inl ⟨by rfl, ?_⟩) (by assumption) ?_
      rotate_left
      · intro w hSw; (try dsimp only at hSw); first | (go_simp; done) | (go_simp; with_reducible rfl)
      simp only [Act.put, List.getElem_toArray, List.getElem_cons_succ, List.getElem_cons_zero, List.setIfInBounds_toArray, List.set_cons_zero, List.set_cons_succ]
      refine wpAnyH_take (i := 5) (oi := _) (v := ?_) rfl (by kernel_rfl) (by kernel_rfl) (by kernel_rfl) (fun _ _ _ h => h) (Or.inl ⟨by rfl, ?_⟩) (by assumption) ?_
      rotate_left
      · intro w hSw; clear hSw; first | (go_simp; done) | (go_simp; with_reducible rfl)
      simp only [Act.put, List.getElem_toArray, List.getElem_cons_succ, List.getElem_cons_zero, List.setIfInBounds_toArray, List.set_cons_zero, List.set_cons_succ]
      refine wpAnyH_ready (rs := [6]) (by kernel_rfl) (by simp) ?_
      refine AllReadyH.cons (o := _) rfl (fun K hK => ?_) AllReadyH.nil
      go_simp
      refine (markTextF _ _ (by omega) (by omega)).mono ?_
      rintro e w2 ⟨rfl, hb2⟩
      go_wp2_with fail
      refine hK.out _ _ ⟨keep_cell hHeld.1 hb2, Below_then hHeld.2 hb2⟩ (fun hHeld => ?_)
      clear hK K
      try simp only [Act.put, List.getElem_toArray, List.getElem_cons_succ, List.getElem_cons_zero, List.setIfInBounds_toArray, List.set_cons_zero, List.set_cons_succ]
      refine wpAnyH_take (i := 7) (oi := _) (v := ?_) rfl (by kernel_rfl) (by kernel_rfl) (by kernel_rfl) (fun _ _ _ h => h) (Or.inl ⟨by rfl, ?_⟩) (by assumption) ?_
      rotate_left
      · intro w hSw; clear hSw; first | (go_simp; done) | (go_simp; with_reducible rfl)
      simp only [Act.put, List.getElem_toArray, List.getElem_cons_succ, List.getElem_cons_zero, List.setIfInBounds_toArray, List.set_cons_zero, List.set_cons_succ]
      refine wpAnyH_done (by kernel_rfl) ?_ _
      refine NoPanic.normal ?_
      have hb3 := Below_then hb hHeld.2
      have hb2 := hHeld.2
      have hc := gr18 (rangeAt_below HR.out hb2)
      simp only [mg] at hc
      clear c0 c1 c2 c3 c4 c5 c6 c7 c8 c9 c10 c11 c12 c13 c14 c15 c16 c17 hb hb2
      obtain ⟨c0, c1, c2, c3, c4, c5, c6, c7, c8, c9, c10, c11, c12, c13, c14, c15, c16, c17⟩ := hc
      go_wp2_with fail
      go_roundw
      case rel => exact ⟨k + 1, by omega, by go_num, by rw [← hKn]; go_num, hb3⟩
      case measure => simp [intOf]; omega
    · obtain rfl : k = n := by omega
      have d1 : decide (k < k) = false := by simp
      go_wp2
      go_ret
      exact ⟨rfl, hb⟩
theorem heldRegister_marks (B : Nat) (v : Value) (n : Nat) (k0 : Int) (w : World) (h : OwnGr w B v (mgs k0 n)) (hn : n ≤ 1048576) (hk0 : 1 ≤ k0) (hk1 : k0 ≤ 1048576) :
    Calls Try.prog 13 #[.agg #[v], .int .i64 k0] w fun e w' => e = .returned (.int .i64 (k0 + 18 * n)) ∧ Below w.heap.size w w' := by
  obtain ⟨A, c, rfl, hr, -⟩ := h.form
  rw [mgs_len]
  have K := fun (w' : World) (hb : Below w.heap.size w w') => heldGrantS_marks A c n k0 w' (hr.below hb) hn hk0 hk1
  have K' := Lib.hid K
  have hp : ¬ k0 + 18 * (n : Int) < 0 := by omega
  clear K h hr
  go_enter Try.func13, Try.ntmps13
  go_wp2_with fail
  refine (K'.out _ (by (repeat (first | exact Below.refl _ _ | assumption | refine Below_al ?_ _ | refine Below.drew ?_ | refine Below_then ?_ (by assumption) | refine Below.setCell ?_ (by first | omega | (simp; done) | (simp; omega)) _)))).mono ?_
  rintro e w1 ⟨rfl, hb1⟩
  go_wp2
  go_ret
  exact ⟨rfl, by (repeat (first | exact Below.refl _ _ | assumption | refine Below_al ?_ _ | refine Below.drew ?_ | refine Below_then ?_ (by assumption) | refine Below.setCell ?_ (by first | omega | (simp; done) | (simp; omega)) _))⟩
end Go.Proofs.Ytnpehlghbfmbaaa
