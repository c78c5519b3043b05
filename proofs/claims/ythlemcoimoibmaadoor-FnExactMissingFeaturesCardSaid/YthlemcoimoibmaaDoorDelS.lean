/- The library's Clone and DeleteFunc over rows of texts of the call's own; the closure of MissingFeatures. -/
import Derived.Test.YthlemcoimoibmaaDoorSlib
import Derived.Test.YthlemcoimoibmaaDoorStrs2
namespace Go.Proofs.YthlemcoimoibmaaDoor
open Go.ChangeShapes Go.WideShapes Go.ChangeAt Go.RowKit Go.Lib Go.Sort
set_option linter.unusedVariables false
set_option linter.unusedSimpArgs false
theorem oneS : OneCell Value.string := fun _ => rfl
theorem cloneS_any (A : Option Addr) (c : Nat) (zs : List ByteArray) (w : World) (h : RdS w A zs) (hl : zs.length ≤ 1048576) :
    Calls Tryd.prog 33 #[.slice A zs.length c] w fun e w' => ∃ v', e = .returned v' ∧ OwnS w' w.heap.size 9 v' zs ∧ Below w.heap.size w w' := by
  by_cases hp : 0 < zs.length
  · obtain ⟨b, off, rfl, -, -⟩ := h.at_ hp
    refine (Tryd.slices_Clone_string b off zs.length c zs w (Nat.le_refl _) (by omega) ?_).mono ?_
    · intro j hj
      obtain ⟨b', off', e, hc, -⟩ := h.at_ hj
      injection e with e
      injection e with e1 e2
      subst e1 e2
      rw [hc]
      simp [List.getD, hj]
    · rintro e w' ⟨v', rfl, hO, -, hb⟩
      rw [List.take_length] at hO
      exact ⟨v', rfl, hO, hb⟩
  · have hz : zs = [] := List.eq_nil_of_length_eq_zero (by omega)
    subst hz
    cases A with
    | none =>
      refine (Tryd.slices_Clone_string_nil 0 c w).mono ?_
      rintro e w' ⟨rfl, rfl⟩
      exact ⟨_, rfl, OwnS.nil _ _ _, Below.refl _ _⟩
    | some a =>
      refine (Tryd.slices_Clone_string_zero a c w).mono ?_
      rintro e w' ⟨v', rfl, hO, -, hb⟩
      exact ⟨v', rfl, hO, hb⟩
theorem idxNil (f : Value) (w : World) : Calls Tryd.prog 52 #[.slice none 0 0, f] w fun e w' => e = .returned (.int .i64 (-1)) ∧ w' = w := by
  go_enter Tryd.func52, Tryd.ntmps52
  go_wp2_with fail
  refine wp_loop_rounds 1 ?_
  rw [rounds_succ]
  go_wp2
  go_ret
  exact ⟨rfl, rfl⟩
theorem delNil (f : Value) (w : World) : Calls Tryd.prog 32 #[.slice none 0 0, f] w fun e w' => e = .returned (.slice none 0 0) ∧ w' = w := by
  go_enter Tryd.func32, Tryd.ntmps32
  go_wp2_with fail
  refine (idxNil f w).mono ?_
  rintro e w' ⟨rfl, rfl⟩
  go_wp2
  go_ret
  exact ⟨rfl, rfl⟩
theorem delS_any (B : Nat) (v : Value) (zs : List ByteArray) (w : World) (h : OwnS w B 9 v zs) (hl : zs.length ≤ 1048576) (p : ByteArray → Bool) (g : Nat) (lb : Array Value)
    (eg : ∀ args w, (callFunc g args).run Tryd.prog w = .ok (.enter g args) w) (hp : PredAt Tryd.prog g lb Value.string p w) (hpo : ∀ blk, v.ownBlock = some blk → PredOver Tryd.prog g lb Value.string p blk 0 zs.length w) :
    Calls Tryd.prog 32 #[v, .func (.func g) #[] lb] w fun e w' => ∃ v', e = .returned v' ∧ OwnS w' B 9 v' (zs.filter fun x => !p x) ∧ Below B w w' := by
  have h0 := h
  obtain ⟨hlen, ⟨h1, h2⟩ | ⟨b, cap, cur, rfl, hB, hh, hn, hm, hs, ht⟩⟩ := h
  · have hz : zs = [] := List.eq_nil_of_length_eq_zero h2
    subst h1 hz
    refine (delNil _ w).mono ?_
    rintro e w' ⟨rfl, rfl⟩
    exact ⟨_, rfl, OwnS.nil _ _ _, Below.refl _ _⟩
  · rw [Nat.mul_one] at ht
    have hH : Holds Value.string w b 0 zs.toArray := by
      intro j hj
      have hj' : j < zs.length := by simpa using hj
      have hc := OwnS.cellAt h0 j hj'
      have hf := OwnS.frozenAt h0 j
      refine ⟨?_, ?_⟩
      · simpa [hj'] using hc
      · simpa using hf
    have hK := Tryd.slices_DeleteFunc Value.string oneS p g lb eg ⟨#[]⟩ Tryd.zeroValue9 b 0 cap zs.toArray w hp (by simpa using hpo b rfl) hH (by simp; omega) (by simpa using hn)
    simp only [List.size_toArray] at hK
    refine hK.mono ?_
    rintro e w' ⟨rfl, q, rfl⟩
    have hf : (zs.filter fun x => !p x).length ≤ zs.length := List.length_filter_le _ _
    have := Lib.ownsRow_putRow (enc := Value.string) (q := q) (k := (zs.filter fun x => !p x).length) (ys := (zs.filter fun x => !p x) ++ List.replicate (zs.length - (zs.filter fun x => !p x).length) ⟨#[]⟩) h0 (by simp; omega) hf
    rw [List.take_left] at this
    exact ⟨_, rfl, this, Lib.below_putRow (Below.refl _ _) hB⟩
theorem gives_miss (n c g B : Nat) (zs : List ByteArray) (x : ByteArray) (W : World) (hn : n = zs.length) (hl : zs.length ≤ 1048576) (hc : W.cell? ⟨B, 0, none⟩ = some (.slice (some ⟨g, 0, none⟩) n c)) (hr : RdS W (some ⟨g, 0, none⟩) zs) :
    FnGives Tryd.prog 34 #[.pointer (some ⟨B, 0, none⟩)] #[.string x] (.bool (hasB zs x)) W := by
  subst hn
  show Calls Tryd.prog 34 #[.string x, .pointer (some ⟨B, 0, none⟩)] W _
  go_enter Tryd.func34, Tryd.ntmps34
  go_wp2_with fail
  refine (hasS_any _ c zs x _ hr hl).mono ?_
  rintro e w' ⟨rfl, rfl⟩
  go_wp2
  go_ret
  exact ⟨rfl, 0, rfl⟩
theorem pred_miss (n c g B : Nat) (zs : List ByteArray) (w : World) (hn : n = zs.length) (hl : zs.length ≤ 1048576) (hB : B < w.heap.size) (hc : w.cell? ⟨B, 0, none⟩ = some (.slice (some ⟨g, 0, none⟩) n c)) (hr : RdS w (some ⟨g, 0, none⟩) zs) :
    PredAt Tryd.prog 34 #[.pointer (some ⟨B, 0, none⟩)] Value.string (hasB zs) w :=
  fun W x hb => gives_miss n c g B zs x W hn hl ((hb.cell (p := ⟨B, 0, none⟩) hB).trans hc) (hr.below hb)
theorem over_miss (n c g B blk size : Nat) (zs : List ByteArray) (w : World) (hn : n = zs.length) (hl : zs.length ≤ 1048576) (hB : B < w.heap.size) (hne : B ≠ blk) (hg : g < w.heap.size) (hgne : g ≠ blk) (hc : w.cell? ⟨B, 0, none⟩ = some (.slice (some ⟨g, 0, none⟩) n c)) (hr : RdS w (some ⟨g, 0, none⟩) zs) :
    PredOver Tryd.prog 34 #[.pointer (some ⟨B, 0, none⟩)] Value.string (hasB zs) blk 0 size w :=
  fun m os dk x _ => gives_miss n c g B zs x _ hn hl (by
    unfold sortWorld
    rw [cell?_grow _ _ _ (by show B < (putRow _ _ _ _ _).heap.size; rw [size_putRow]; exact hB), cell?_putRow_other _ _ blk 0 _ _ (Or.inl hne)]
    exact hc) (by
    rcases hr with hr | ⟨b, off, e, hcell⟩
    · exact .inl hr
    · injection e with e
      injection e with e1 e2
      subst e1 e2
      refine .inr ⟨g, 0, rfl, fun i hi => ?_⟩
      unfold sortWorld
      rw [cell?_grow _ _ _ (by show g < (putRow _ _ _ _ _).heap.size; rw [size_putRow]; exact hg), cell?_putRow_other _ _ blk 0 _ _ (Or.inl hgne)]
      exact hcell i hi)
end Go.Proofs.YthlemcoimoibmaaDoor
