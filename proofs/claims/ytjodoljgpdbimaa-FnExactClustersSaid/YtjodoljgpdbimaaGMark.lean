/- Marks on a slice of slices of numbers of the call's own. -/
import Derived.Test.YtjodoljgpdbimaaGrids
namespace Go.Proofs.Ytjodoljgpdbimaa
open Go.ChangeShapes Go.WideShapes Go.ChangeAt Go.RowKit
set_option linter.unusedVariables false
/-- Nothing has turned but blocks from lo on that lie below hi. -/
structure Out (lo hi : Nat) (w w' : World) : Prop where
  os : w'.os = w.os
  tape : w'.tape = w.tape
  output : w'.output = w.output
  size : w.heap.size ≤ w'.heap.size
  block : ∀ k, k < w.heap.size → (k < lo ∨ hi ≤ k) → w'.heap[k]? = w.heap[k]?
theorem Out.refl (lo hi : Nat) (w : World) : Out lo hi w w := ⟨rfl, rfl, rfl, Nat.le_refl _, fun _ _ _ => rfl⟩
theorem Out.grown {lo hi : Nat} {w w1 w2 : World} (h : Out lo hi w w1) {row : Option Nat} (hg : w1.grownBy w2 row) (hr : ∀ k, row = some k → lo ≤ k ∧ k < hi) : Out lo hi w w2 :=
  ⟨hg.os.trans h.os, hg.tape.trans h.tape, hg.output.trans h.output, Nat.le_trans h.size hg.size, fun k hk ho => (hg.block k (Nat.lt_of_lt_of_le hk h.size) (fun e => by have := hr k e.symm; omega)).trans (h.block k hk ho)⟩
theorem Out.below {lo hi B : Nat} {a w w' : World} (hb : Below B a w) (h : Out lo hi w w') (hB : B ≤ lo) (hs : B ≤ w.heap.size) : Below B a w' :=
  hb.trans ⟨h.os, h.tape, h.output, h.size, fun k hk => h.block k (by omega) (.inl (by omega))⟩
theorem Out.own {lo hi : Nat} {w w' : World} {B : Nat} {T : TypeId} {v : Value} {zs : List Int} (h : Out lo hi w w') (ho : OwnI w B T v zs) (hv : ∀ k, v.ownBlock = some k → k < lo ∨ hi ≤ k) : OwnI w' B T v zs := by
  obtain ⟨hl, h1 | ⟨g, cap, cur, rfl, hB, hh, r⟩⟩ := ho
  · exact ⟨hl, .inl h1⟩
  · exact ⟨hl, .inr ⟨g, cap, cur, rfl, hB, (h.block g (heap_lt hh) (hv g rfl)).trans hh, r⟩⟩
theorem Out.heap {lo hi : Nat} {w w' : World} {b : Nat} {o : Obj} (h : Out lo hi w w') (ho : w.heap[b]? = some o) (hv : b < lo ∨ hi ≤ b) : w'.heap[b]? = some o := (h.block b (heap_lt ho) hv).trans ho
theorem OwnG.out {lo hi : Nat} {w w' : World} {B g : Nat} {rows : List (List Int)} {vs rest : List Value} (ho : OwnG w B g rows vs rest) (h : Out lo hi w w') (hg : hi ≤ g) : OwnG w' B g rows vs rest :=
  ⟨h.heap ho.blk (.inr hg), ho.low, ho.len, fun i v row h1 h2 => h.own (ho.own i v row h1 h2) fun k hk => .inr (by have := (ho.own i v row h1 h2).lt k hk; omega), ho.apart⟩
theorem OwnG.hi {w : World} {B g : Nat} {rows : List (List Int)} {vs rest : List Value} (ho : OwnG w B g rows vs rest) : ∀ (i : Nat) (v : Value), vs[i]? = some v → ∀ b, v.ownBlock = some b → b < w.heap.size := fun i v hv b hb => by
  have hi := (List.getElem?_eq_some_iff.1 hv).1
  exact ((ho.own i v _ hv (List.getElem?_eq_getElem (by rw [← ho.len]; exact hi))).lt b hb).2
def totN (rows : List (List Int)) : Nat → Nat
  | 0 => 0
  | k + 1 => totN rows k + (rows.getD k []).length
theorem totN_step {rows : List (List Int)} {k : Nat} {row : List Int} (h : rows[k]? = some row) : totN rows (k + 1) = totN rows k + row.length := by
  rw [totN, List.getD_eq_getElem?_getD, h]; rfl
theorem totN_le {rows : List (List Int)} (h : Small rows) (k : Nat) (hk : k ≤ rows.length) : totN rows k ≤ 1048576 * k := by
  induction k with
  | zero => exact Nat.le_refl _
  | succ k ih =>
    obtain ⟨row, hr⟩ := row_at (rows := rows) (k := k) (by omega)
    rw [totN_step hr]
    have := ih (by omega)
    have := h.row hr
    omega
/-- Rows of the call's own whose contents may have turned, their lengths not. -/
def RowsAny (w : World) (g : Nat) (rows : List (List Int)) (vs : List Value) : Prop :=
  ∀ (i : Nat) (v : Value) (row : List Int), vs[i]? = some v → rows[i]? = some row → ∃ row' : List Int, row'.length = row.length ∧ OwnI w (g + 1) 3 v row'
def MarkG (w : World) (lo hi : Nat) (k0 : Int) (rows : List (List Int)) (e : Ending) (w' : World) : Prop :=
  e = .returned (.int .i64 (k0 + (totN rows rows.length : Nat))) ∧ Out lo hi w w'
set_option maxHeartbeats 1000000 in
theorem markIntSS_any (B g hi : Nat) (rows : List (List Int)) (vs : List Value) (k0 : Int) (w : World) (h : OwnG w B g rows vs []) (hs : Small rows) (hk0 : 0 ≤ k0) (hk1 : k0 ≤ 2199023255552) (hg : g < hi) (hhi : ∀ (i : Nat) (v : Value), vs[i]? = some v → ∀ b, v.ownBlock = some b → b < hi) :
    Calls Try.prog 16 #[.slice (some ⟨g, 0, none⟩) rows.length rows.length, .int .i64 k0] w (MarkG w g hi k0 rows) := by
  have hl := hs.len
  have htot := fun k hk => totN_le hs k hk
  have HTOT := Lib.hid htot
  have HH := Lib.hid h
  have HHI := Lib.hid hhi
  clear htot hhi
  go_enter Try.func16, Try.ntmps16
  go_wp2_with fail
  go_loopw [1, 5] (fun kk i wr => ∃ k : Nat, k ≤ rows.length ∧ i = .int .i64 k ∧ kk = .int .i64 (k0 + (totN rows k : Nat)) ∧ wr.heap[g]? = some (.cells (vs ++ []).toArray 50 (0, 0)) ∧ RowsAny wr g rows vs ∧ Out g hi w wr) (fun _ i _ => rows.length - (intOf i).toNat)
  case atStart => exact ⟨0, Nat.zero_le _, rfl, by simp [totN], h.blk, fun i v row h1 h2 => ⟨row, rfl, h.own i v row h1 h2⟩, Out.refl _ _ _⟩
  case round =>
    clear h
    obtain ⟨k, hk, rfl, rfl, hblk, hrows, hout⟩ := hrel
    have HR := Lib.hid hrows
    have HB := Lib.hid hblk
    have ht := HTOT.out k hk
    clear hrows
    by_cases hlt : k < rows.length
    · obtain ⟨row, hrow⟩ := row_at hlt
      obtain ⟨v, hv⟩ : ∃ v, vs[k]? = some v := ⟨vs[k]'(by have := HH.out.len; omega), List.getElem?_eq_getElem _⟩
      obtain ⟨row', hrl, ho⟩ := HR.out k v row hv hrow
      have hx := hs.row40 hrow
      have hvc : wr.cell? ⟨g, k, none⟩ = some v := by
        rw [cell_of hblk]
        simpa using hv
      have HS := Lib.hid (totN_step hrow)
      have hrowS := Lib.hid hrow
      have K := markIntS_wide (g + 1) v row' (k0 + (totN rows k : Nat)) wr ho (by omega) (by omega) (by omega)
      have K' := Lib.hid K
      have HO := Lib.hid ho
      have HV := Lib.hid hv
      have HRL := Lib.hid hrl
      obtain ⟨A, c, rfl, -⟩ := ho.form
      have i1 : (k : Int) < (rows.length : Int) := by omega
      have d1 : decide (k < rows.length) = true := by simpa using hlt
      generalize totN rows k = p at *
      clear K ho hv hrl hblk hrow
      go_wp2_with fail
      refine (K'.out).mono ?_
      rintro e w2 ⟨rfl, ho2, hg2⟩
      have hb2 := heap_keepG HB.out hg2 (ownBlock_ne HO.out (.inl (Nat.lt_succ_self _)))
      have hout2 := hout.grown hg2 fun b hb => ⟨by have := HO.out.lt b hb; omega, HHI.out k _ HV.out b hb⟩
      have HG2 := Lib.hid hg2
      have HO2 := Lib.hid ho2
      clear hg2 ho2
      go_wp2
      go_roundw
      case rel =>
        refine ⟨k + 1, by omega, by go_num, by rw [HS.out, ← HRL.out]; go_num, hb2, fun j u r h1 h2 => ?_, hout2⟩
        by_cases e : j = k
        · subst e
          rw [HV.out] at h1
          injection h1 with h1
          subst h1
          have hr : r = row := by rw [hrowS.out] at h2; injection h2 with h2; exact h2.symm
          subst hr
          exact ⟨_, by rw [marks_len]; exact HRL.out, HO2.out⟩
        · obtain ⟨r2, hr2, ho3⟩ := HR.out j u r h1 h2
          refine ⟨r2, hr2, ho3.other HG2.out ?_⟩
          rcases Nat.lt_or_ge j k with hjk | hjk
          · exact HH.out.apart j k u _ hjk h1 HV.out
          · rcases HH.out.apart k j _ u (by omega) HV.out h1 with h0 | h0
            · rw [h0]
              cases u.ownBlock with
              | none => exact .inl rfl
              | some b => exact .inr (by simp)
            · exact .inr fun e2 => h0 e2.symm
      case measure => simp [intOf]; omega
    · obtain rfl : k = rows.length := by omega
      have d1 : decide (rows.length < rows.length) = false := by simp
      go_wp2
      go_ret
      exact ⟨rfl, hout⟩
end Go.Proofs.Ytjodoljgpdbimaa
