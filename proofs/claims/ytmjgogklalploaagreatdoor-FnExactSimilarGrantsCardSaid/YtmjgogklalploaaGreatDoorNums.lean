/- Contracts: numbers of the grants for which something holds. -/
import Derived.Test.YtmjgogklalploaaGreatDoorReg3
import Derived.Test.YtmjgogklalploaaGreatDoorReg4
import Derived.Test.YtmjgogklalploaaGreatDoorApp
namespace Go.Proofs.YtmjgogklalploaaGreatDoor
open Go.ChangeShapes Go.WideShapes Go.ChangeAt Go.RowKit
set_option linter.unusedVariables false
set_option linter.unusedSimpArgs false

def IntsOk (w : World) (zs : List Int) (ok : Bool) (e : Ending) (w' : World) : Prop := ∃ v, e = .returned (.tuple #[v, .bool ok]) ∧ OwnI w' w.heap.size 3 v zs ∧ Below w.heap.size w w'
def nums (rows : List GrantD) (p : GrantD → Bool) : List Int := (rows.filter p).map GrantD.n
theorem nums_len (rows : List GrantD) (p : GrantD → Bool) : (nums rows p).length ≤ rows.length := by
  unfold nums
  rw [List.length_map]
  exact List.length_filter_le _ _
theorem numsL_len (rows : List GrantD) (p : GrantD → Bool) : (bif regOk rows then nums rows p else []).length ≤ rows.length := by
  cases regOk rows
  · simp
  · exact nums_len rows p
theorem nums_yes {rows : List GrantD} {p : GrantD → Bool} {k : Nat} {g : GrantD} (h : rows[k]? = some g) (hp : p g = true) : nums (rows.take (k + 1)) p = nums (rows.take k) p ++ [g.n] := by
  rw [List.take_add_one, h]
  simp [nums, hp]
theorem nums_no {rows : List GrantD} {p : GrantD → Bool} {k : Nat} {g : GrantD} (h : rows[k]? = some g) (hp : p g = false) : nums (rows.take (k + 1)) p = nums (rows.take k) p := by
  rw [List.take_add_one, h]
  simp [nums, hp]
theorem nums_take (rows : List GrantD) (p : GrantD → Bool) (k : Nat) (hk : k ≤ rows.length) : (nums (rows.take k) p).length ≤ k := by
  have := nums_len (rows.take k) p
  rw [List.length_take] at this
  omega
theorem OwnI.none0 (w : World) (B g : Nat) (hg : g = w.heap.size) (hB : B ≤ g) : OwnI (w.alloc (.cells #[] 3)) B 3 (.slice (some ⟨g, 0, none⟩) 0 0) [] :=
  OwnI.blk (zs := []) (heap_hit _ _ _ hg) hB (by simp [maxLen])
def Fresh (w : World) (zs : List Int) (e : Ending) (w' : World) : Prop := ∃ v, e = .returned v ∧ OwnI w' w.heap.size 3 v zs ∧ Below w.heap.size w w'
set_option maxHeartbeats 4000000 in
theorem numbers_any (cl : FuncId) (caps : Array Value) (A : Option Addr) (c : Nat) (rows : List GrantD) (p : GrantD → Bool) (w : World) (h : RdR 18 w A (gcs rows)) (hl : rows.length ≤ 1048576)
    (hcf : ∀ args w, (callFunc cl args).run Tryz.prog w = .ok (.enter cl args) w)
    (hcl : ∀ (g : GrantD) (w' : World), g ∈ rows → Below w.heap.size w w' → Calls Tryz.prog cl (#[.agg (gc g).toArray] ++ caps) w' fun e w'' => e = .returned (.bool (p g)) ∧ Below w'.heap.size w' w'') :
    Calls Tryz.prog 53 #[.agg #[.slice A rows.length c], .func (.func cl) #[] caps] w (Fresh w (nums rows p)) := by
  have HC := Lib.hid hcl
  have HH := Lib.hid h
  have hO : OwnI ((w.alloc (.cells #[.slice A rows.length c] 37)).alloc (.cells #[] 3)) w.heap.size 3 (.slice (some ⟨w.heap.size + 1, 0, none⟩) 0 0) [] := OwnI.none0 _ _ _ (by simp) (by omega)
  clear hcl
  go_enter Tryz.func53, Tryz.ntmps53
  go_wp2_with fail
  go_loopw [5, 12] (fun o i wr => ∃ (k : Nat) (v : Value), k ≤ rows.length ∧ i = .int .i64 k ∧ o = v ∧ OwnI wr w.heap.size 3 v (nums (rows.take k) p) ∧ Below w.heap.size w wr) (fun _ i _ => rows.length - (intOf i).toNat)
  case atStart => exact ⟨0, _, Nat.zero_le _, rfl, rfl, by simpa [nums] using hO, by (repeat (first | exact Below.refl _ _ | assumption | refine Below_al ?_ _ | refine Below.drew ?_ | refine Below_then ?_ (by assumption) | refine Below.setCell ?_ (by first | omega | (simp; done) | (simp; omega)) _))⟩
  case round =>
    clear hO
    obtain ⟨k, v, hk, rfl, hov, hO, hb⟩ := hrel
    replace hov := hov.symm
    subst hov
    by_cases hlt : k < rows.length
    · obtain ⟨g, hg⟩ := grant_at hlt
      obtain ⟨b, off, rfl, hr, -⟩ := (h.below hb).grants hg
      have hlen := nums_take rows p k hk
      have i1 : (k : Int) < (rows.length : Int) := by omega
      have d1 : decide (k < rows.length) = true := by simpa using hlt
      have K := fun w' hw => HC.out g w' (List.mem_of_getElem? hg) hw
      have HG := Lib.hid hg
      have hws := hb.size
      cases hq : p g
      · rw [hq] at K
        have HQ := Lib.hid hq
        have K' := Lib.hid K
        clear K hg hq
        go_wp2_with (first | (refine ldG rfl _ rfl b _ rfl g hr ?_) | (refine stG rfl _ _ rfl wr.heap.size rfl g rfl z18 (heap_hit _ _ _ rfl) rfl ?_; intro wn hn1 hn2 hn3 hn4; have hbn := hn3 _ _ (Nat.le_refl _) (Below_al (Below.refl _ _) _)) | (refine ldG rfl _ rfl _ _ rfl g (rangeAt_blk hn1) ?_) | fail)
        refine (K'.out _ (Below_then hb hbn)).mono ?_
        rintro e w2 ⟨rfl, hb2⟩
        have hO2 := (hO.below hbn).below hb2
        have hT2 := Below_then (Below_then hb hbn) hb2
        clear hn1 hn2 hn3 hn4 hbn hb2 hO hb hr
        go_wp2
        go_roundw
        case rel => exact ⟨k + 1, _, by omega, by go_num, rfl, by rw [nums_no HG.out HQ.out]; exact hO2, hT2⟩
        case measure => simp [intOf]; omega
      · rw [hq] at K
        have HQ := Lib.hid hq
        have K' := Lib.hid K
        clear K hg hq
        go_wp2_with (first | (refine ldG rfl _ rfl b _ rfl g hr ?_) | (refine stG rfl _ _ rfl wr.heap.size rfl g rfl z18 (heap_hit _ _ _ rfl) rfl ?_; intro wn hn1 hn2 hn3 hn4; have hbn := hn3 _ _ (Nat.le_refl _) (Below_al (Below.refl _ _) _)) | (refine ldG rfl _ rfl _ _ rfl g (rangeAt_blk hn1) ?_) | fail)
        refine (K'.out _ (Below_then hb hbn)).mono ?_
        rintro e w2 ⟨rfl, hb2⟩
        have hO2 := (hO.below hbn).below hb2
        have hT2 := Below_then (Below_then hb hbn) hb2
        have hcn := (gblk_cells (heap_keepB hn1 hb2)).1
        have hs2 := hT2.size
        clear hn1 hn2 hn3 hn4 hbn hb2 hO hb hr
        go_wp2_with (first | (at_builtin; refine wp_appI rfl _ _ rfl w.heap.size _ (nums (rows.take k) p) rfl (hO2.alloc _) _ _ rfl (cell_of (heap_hit _ _ _ rfl) 0) ?c1 ?c2 ?_; rotate_left 2; intro v' w9 hO9 hG9 hL9) | fail)
        case c1 => omega
        case c2 => simp; omega
        have hT9 := (Below_al hT2 _).trans hL9
        clear hG9 hL9 hO2 hcn
        go_wp2
        go_roundw
        case rel => exact ⟨k + 1, _, by omega, by go_num, rfl, by rw [nums_yes HG.out HQ.out]; exact hO9, hT9⟩
        case measure => simp [intOf]; omega
    · obtain rfl : k = rows.length := by omega
      have d1 : decide (rows.length < rows.length) = false := by simp
      rw [List.take_length] at hO
      go_wp2
      go_ret
      exact ⟨_, rfl, hO, hb⟩
end Go.Proofs.YtmjgogklalploaaGreatDoor
