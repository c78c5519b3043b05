/- FnExactBuildIndex: for all arguments BuildIndex of the program returns what BuildIndex of the reference returns, leaves its argument as it is, in memory of its own. No condition. -/
import Derived.Test.YtlonnkmfjijddaaGreatDoorFeat5
import Derived.Test.YtlonnkmfjijddaaGreatDoorList
import Derived.Test.YtlonnkmfjijddaaGreatDoorReg3
import Derived.Test.YtlonnkmfjijddaaGreatDoorReg4
import Derived.Test.YtlonnkmfjijddaaGreatDoorApp
import Derived.Test.YtlonnkmfjijddaaGreatDoorStrs
import Derived.Test.YtlonnkmfjijddaaGreatDoorInts
import Derived.Test.YtlonnkmfjijddaaGreatDoorRow
import Derived.Maps.AppendAt
import Derived.Test.YtlonnkmfjijddaaGreatDoorMark
import Derived.Test.YtlonnkmfjijddaaGreatDoorStrs2
import Derived.Test.YtlonnkmfjijddaaGreatDoorPut
import Derived.Test.YtlonnkmfjijddaaGreatDoorReg2
import Derived.Test.YtlonnkmfjijddaaGreatDoorFeat3
import Derived.Deep.RegionHeld3
import Derived.Test.YtlonnkmfjijddaaGreatDoorRows
import Derived.Test.YtlonnkmfjijddaaGreatDoorGrMark
import Derived.Test.YtlonnkmfjijddaaGreatDoorGrOpen
import Derived.Test.YtlonnkmfjijddaaGreatDoorCards
import Derived.Test.YtlonnkmfjijddaaGreatDoorTie
import Derived.ProofKit
import Derived.LaidMore
import Derived.OpenShut
import Derived.Stop.Joined
import Derived.SevenTiedAt
/-! ### Cnt -/
namespace Go.Proofs.YtlonnkmfjijddaaGreatDoor
open Go.ChangeShapes Go.WideShapes Go.ChangeAt Go.RowKit
set_option linter.unusedVariables false
set_option linter.unusedSimpArgs false
def cnt (a : ArmsD) (zs : List ByteArray) : Int := ((zs.filter (hasB (featL a))).length : Nat)
theorem num0 (w : World) : Calls Tryz.prog 46 #[.bool false] w fun e w' => e = .returned (.int .i64 0) ∧ w' = w := by
  go_enter Tryz.func46, Tryz.ntmps46
  go_wp2
  go_ret
  exact ⟨rfl, rfl⟩
theorem num1 (w : World) : Calls Tryz.prog 46 #[.bool true] w fun e w' => e = .returned (.int .i64 1) ∧ w' = w := by
  go_enter Tryz.func46, Tryz.ntmps46
  go_wp2
  go_ret
  exact ⟨rfl, rfl⟩
set_option maxHeartbeats 4000000 in
theorem shared_any (a : ArmsD) (ga : armsOk a = true) (A : Option Addr) (c : Nat) (zs : List ByteArray) (w : World) (h : RdS w A zs) (hx : zs.length ≤ 1048576) :
    Calls Tryz.prog 23 #[.agg (ac a).toArray, .slice A zs.length c] w fun e w' => e = .returned (.int .i64 (cnt a zs)) ∧ Below w.heap.size w w' := by
  have HB := Lib.hid (fun w' hb => boxR a (w := w) (w' := w') hb)
  have hW : Below w.heap.size w (w.alloc (.cells (ac a).toArray 47)) := Below_al (Below.refl _ _) _
  have KF := Lib.hid (fun w => features_any a ga w)
  have HFL := Lib.hid (featL_len a)
  unfold cnt
  clear ga
  obtain ⟨fs, hfs⟩ : ∃ fs, fs = featL a := ⟨_, rfl⟩
  rw [← hfs] at KF HFL
  rw [← hfs]
  clear hfs
  go_enter Tryz.func23, Tryz.ntmps23
  go_wp2_with (first | (refine ldA15 rfl _ rfl w.heap.size _ rfl a (HB.out _ (Below.refl _ _)) ?_) | fail)
  refine (KF.out _).mono ?_
  rintro e w1 ⟨v, rfl, hO, hb1⟩
  obtain ⟨A', c', rfl, hr⟩ := hO.form
  have hT := Below_then hW hb1
  have hz := h.below hT
  clear hb1 hW hO
  go_wp2_with fail
  go_loopw [5, 13] (fun n i wr => ∃ k : Nat, k ≤ zs.length ∧ i = .int .i64 k ∧ n = .int .i64 (((zs.take k).filter (hasB fs)).length : Nat) ∧ w1 = wr) (fun _ i _ => zs.length - (intOf i).toNat)
  case atStart => exact ⟨0, Nat.zero_le _, rfl, by simp, rfl⟩
  case round =>
    obtain ⟨k, hk, rfl, rfl, rfl⟩ := hrel
    by_cases hlt : k < zs.length
    · obtain ⟨b, off, rfl, c1, -⟩ := hz.at_ hlt
      obtain ⟨x, hxk⟩ : ∃ x, x = zs[k] := ⟨_, rfl⟩
      rw [← hxk] at c1
      have hst : (zs.take (k + 1)).filter (hasB fs) = (zs.take k).filter (hasB fs) ++ [x].filter (hasB fs) := by rw [List.take_succ_eq_append_getElem hlt, List.filter_append, hxk]
      have hln : ((zs.take k).filter (hasB fs)).length ≤ k := by
        have h1 := List.length_filter_le (hasB fs) (zs.take k)
        rw [List.length_take] at h1
        omega
      have hle : ((zs.take (k + 1)).filter (hasB fs)).length = ((zs.take k).filter (hasB fs)).length + ([x].filter (hasB fs)).length := by rw [hst, List.length_append]
      obtain ⟨m, hm⟩ : ∃ m, m = ((zs.take k).filter (hasB fs)).length := ⟨_, rfl⟩
      rw [← hm] at hln hle ⊢
      have HLE := Lib.hid hle
      have i1 : (k : Int) < (zs.length : Int) := by omega
      have d1 : decide (k < zs.length) = true := by simpa using hlt
      have KH := hasS_any A' c' fs x _ hr (by have := HFL.out; omega)
      obtain ⟨q, hq⟩ : ∃ q, q = hasB fs x := ⟨_, rfl⟩
      rw [← hq] at KH
      have KH := Lib.hid KH
      have HQ := Lib.hid hq
      clear hq hxk hst hm hle
      cases q
      · skip
        go_wp2_with fail
        refine KH.out.mono ?_
        rintro e w9 ⟨rfl, rfl⟩
        go_wp2_with fail
        refine (num0 _).mono ?_
        rintro e w9 ⟨rfl, rfl⟩
        go_wp2
        go_roundw
        case rel => exact ⟨k + 1, by omega, by go_num, by rw [HLE.out]; simp [← HQ.out], (by first | trivial | rfl)⟩
        case measure => simp [intOf]; omega
      · skip
        go_wp2_with fail
        refine KH.out.mono ?_
        rintro e w9 ⟨rfl, rfl⟩
        go_wp2_with fail
        refine (num1 _).mono ?_
        rintro e w9 ⟨rfl, rfl⟩
        go_wp2
        go_roundw
        case rel => exact ⟨k + 1, by omega, by go_num, by rw [HLE.out]; simp [← HQ.out], (by first | trivial | rfl)⟩
        case measure => simp [intOf]; omega
    · obtain rfl : k = zs.length := by omega
      have d1 : decide (zs.length < zs.length) = false := by simp
      rw [List.take_length]
      go_wp2
      go_ret
      exact ⟨rfl, hT⟩
end Go.Proofs.YtlonnkmfjijddaaGreatDoor
/-! ### Nums -/
namespace Go.Proofs.YtlonnkmfjijddaaGreatDoor
open Go.ChangeShapes Go.WideShapes Go.ChangeAt Go.RowKit
set_option linter.unusedVariables false
set_option linter.unusedSimpArgs false

def IntsOk (w : World) (zs : List Int) (ok : Bool) (e : Ending) (w' : World) : Prop := ∃ v, e = .returned (.tuple #[v, .bool ok]) ∧ OwnI w' w.heap.size 3 v zs ∧ Below w.heap.size w w'
def nums (rows : List GrantD) (p : GrantD → Bool) : List Int := (rows.filter p).map GrantD.n
theorem nums_len (rows : List GrantD) (p : GrantD → Bool) : (nums rows p).length ≤ rows.length := by
  unfold nums
  rw [List.length_map]
  exact List.length_filter_le _ _
theorem numsL_len (rows : List GrantD) (p : GrantD → Bool) : (bif regOk rows then nums rows p else []).length ≤ rows.length := by
  cases regOk rows
  · simp
  · exact nums_len rows p
theorem nums_yes {rows : List GrantD} {p : GrantD → Bool} {k : Nat} {g : GrantD} (h : rows[k]? = some g) (hp : p g = true) : nums (rows.take (k + 1)) p = nums (rows.take k) p ++ [g.n] := by
  rw [List.take_add_one, h]
  simp [nums, hp]
theorem nums_no {rows : List GrantD} {p : GrantD → Bool} {k : Nat} {g : GrantD} (h : rows[k]? = some g) (hp : p g = false) : nums (rows.take (k + 1)) p = nums (rows.take k) p := by
  rw [List.take_add_one, h]
  simp [nums, hp]
theorem nums_take (rows : List GrantD) (p : GrantD → Bool) (k : Nat) (hk : k ≤ rows.length) : (nums (rows.take k) p).length ≤ k := by
  have := nums_len (rows.take k) p
  rw [List.length_take] at this
  omega
theorem OwnI.none0 (w : World) (B g : Nat) (hg : g = w.heap.size) (hB : B ≤ g) : OwnI (w.alloc (.cells #[] 3)) B 3 (.slice (some ⟨g, 0, none⟩) 0 0) [] :=
  OwnI.blk (zs := []) (heap_hit _ _ _ hg) hB (by simp [maxLen])
def Fresh (w : World) (zs : List Int) (e : Ending) (w' : World) : Prop := ∃ v, e = .returned v ∧ OwnI w' w.heap.size 3 v zs ∧ Below w.heap.size w w'
set_option maxHeartbeats 4000000 in
theorem numbers_any (cl : FuncId) (caps : Array Value) (A : Option Addr) (c : Nat) (rows : List GrantD) (p : GrantD → Bool) (w : World) (h : RdR 18 w A (gcs rows)) (hl : rows.length ≤ 1048576)
    (hcf : ∀ args w, (callFunc cl args).run Tryz.prog w = .ok (.enter cl args) w)
    (hcl : ∀ (g : GrantD) (w' : World), g ∈ rows → Below w.heap.size w w' → Calls Tryz.prog cl (#[.agg (gc g).toArray] ++ caps) w' fun e w'' => e = .returned (.bool (p g)) ∧ Below w'.heap.size w' w'') :
    Calls Tryz.prog 21 #[.agg #[.slice A rows.length c], .func (.func cl) #[] caps] w (Fresh w (nums rows p)) := by
  have HC := Lib.hid hcl
  have HH := Lib.hid h
  have hO : OwnI ((w.alloc (.cells #[.slice A rows.length c] 31)).alloc (.cells #[] 3)) w.heap.size 3 (.slice (some ⟨w.heap.size + 1, 0, none⟩) 0 0) [] := OwnI.none0 _ _ _ (by simp) (by omega)
  clear hcl
  go_enter Tryz.func21, Tryz.ntmps21
  go_wp2_with fail
  go_loopw [5, 12] (fun o i wr => ∃ (k : Nat) (v : Value), k ≤ rows.length ∧ i = .int .i64 k ∧ o = v ∧ OwnI wr w.heap.size 3 v (nums (rows.take k) p) ∧ Below w.heap.size w wr) (fun _ i _ => rows.length - (intOf i).toNat)
  case atStart => exact ⟨0, _, Nat.zero_le _, rfl, rfl, by simpa [nums] using hO, by (repeat (first | exact Below.refl _ _ | assumption | refine Below_al ?_ _ | refine Below.drew ?_ | refine Below_then ?_ (by assumption) | refine Below.setCell ?_ (by first | omega | (simp; done) | (simp; omega)) _))⟩
  case round =>
    clear hO
    obtain ⟨k, v, hk, rfl, hov, hO, hb⟩ := hrel
    replace hov := hov.symm
    subst hov
    by_cases hlt : k < rows.length
    · obtain ⟨g, hg⟩ := grant_at hlt
      obtain ⟨b, off, rfl, hr, -⟩ := (h.below hb).grants hg
      have hlen := nums_take rows p k hk
      have i1 : (k : Int) < (rows.length : Int) := by omega
      have d1 : decide (k < rows.length) = true := by simpa using hlt
      have K := fun w' hw => HC.out g w' (List.mem_of_getElem? hg) hw
      have HG := Lib.hid hg
      have hws := hb.size
      cases hq : p g
      · rw [hq] at K
        have HQ := Lib.hid hq
        have K' := Lib.hid K
        clear K hg hq
        go_wp2_with (first | (refine ldG rfl _ rfl b _ rfl g hr ?_) | (refine stG rfl _ _ rfl wr.heap.size rfl g rfl z18 (heap_hit _ _ _ rfl) rfl ?_; intro wn hn1 hn2 hn3 hn4; have hbn := hn3 _ _ (Nat.le_refl _) (Below_al (Below.refl _ _) _)) | (refine ldG rfl _ rfl _ _ rfl g (rangeAt_blk hn1) ?_) | fail)
        refine (K'.out _ (Below_then hb hbn)).mono ?_
        rintro e w2 ⟨rfl, hb2⟩
        have hO2 := (hO.below hbn).below hb2
        have hT2 := Below_then (Below_then hb hbn) hb2
        clear hn1 hn2 hn3 hn4 hbn hb2 hO hb hr
        go_wp2
        go_roundw
        case rel => exact ⟨k + 1, _, by omega, by go_num, rfl, by rw [nums_no HG.out HQ.out]; exact hO2, hT2⟩
        case measure => simp [intOf]; omega
      · rw [hq] at K
        have HQ := Lib.hid hq
        have K' := Lib.hid K
        clear K hg hq
        go_wp2_with (first | (refine ldG rfl _ rfl b _ rfl g hr ?_) | (refine stG rfl _ _ rfl wr.heap.size rfl g rfl z18 (heap_hit _ _ _ rfl) rfl ?_; intro wn hn1 hn2 hn3 hn4; have hbn := hn3 _ _ (Nat.le_refl _) (Below_al (Below.refl _ _) _)) | (refine ldG rfl _ rfl _ _ rfl g (rangeAt_blk hn1) ?_) | fail)
        refine (K'.out _ (Below_then hb hbn)).mono ?_
        rintro e w2 ⟨rfl, hb2⟩
        have hO2 := (hO.below hbn).below hb2
        have hT2 := Below_then (Below_then hb hbn) hb2
        have hcn := (gblk_cells (heap_keepB hn1 hb2)).1
        have hs2 := hT2.size
        clear hn1 hn2 hn3 hn4 hbn hb2 hO hb hr
        go_wp2_with (first | (at_builtin; refine wp_appI rfl _ _ rfl w.heap.size _ (nums (rows.take k) p) rfl (hO2.alloc _) _ _ rfl (cell_of (heap_hit _ _ _ rfl) 0) ?c1 ?c2 ?_; rotate_left 2; intro v' w9 hO9 hG9 hL9) | fail)
        case c1 => omega
        case c2 => simp; omega
        have hT9 := (Below_al hT2 _).trans hL9
        clear hG9 hL9 hO2 hcn
        go_wp2
        go_roundw
        case rel => exact ⟨k + 1, _, by omega, by go_num, rfl, by rw [nums_yes HG.out HQ.out]; exact hO9, hT9⟩
        case measure => simp [intOf]; omega
    · obtain rfl : k = rows.length := by omega
      have d1 : decide (rows.length < rows.length) = false := by simp
      rw [List.take_length] at hO
      go_wp2
      go_ret
      exact ⟨_, rfl, hO, hb⟩
end Go.Proofs.YtlonnkmfjijddaaGreatDoor
/-! ### BuildP -/
namespace Go.Proofs.YtlonnkmfjijddaaGreatDoor
open Go.ChangeShapes Go.WideShapes Go.ChangeAt Go.RowKit
set_option linter.unusedVariables false
set_option linter.unusedSimpArgs false
theorem featK_mem (c : UInt8) (n : Nat) (h : (c, n) ∈ featK) : ftB c n ∈ FEATS := by
  rw [FEATS_eq]
  exact List.mem_map.2 ⟨(c, n), h, rfl⟩
theorem fi_mem {c : UInt8} {z : Int} {lo hi : Nat} (hz : (lo : Int) ≤ z ∧ z ≤ hi) (h : ∀ n, n < hi + 1 → lo ≤ n → (c, n) ∈ featK) : fi c z ∈ FEATS := featK_mem c _ (h _ (by omega) (by omega))
theorem mem_d : ∀ n, n < 7 + 1 → 0 ≤ n → ((100 : UInt8), n) ∈ featK := by decide
theorem mem_o : ∀ n, n < 7 + 1 → 0 ≤ n → ((111 : UInt8), n) ∈ featK := by decide
theorem mem_t : ∀ n, n < 9 + 1 → 1 ≤ n → ((116 : UInt8), n) ∈ featK := by decide
theorem mem_l : ∀ n, n < 4 + 1 → 1 ≤ n → ((108 : UInt8), n) ∈ featK := by decide
theorem mem_k : ∀ n, n < 8 + 1 → 1 ≤ n → ((107 : UInt8), n) ∈ featK := by decide
theorem mem_n : ∀ n, n < 12 + 1 → 0 ≤ n → ((110 : UInt8), n) ∈ featK := by decide
theorem nz_mem {z x : Int} (h : x ∈ nz z) : x = z ∧ z ≠ 0 := by
  unfold nz at h
  split at h
  · simp at h
  · rename_i hz
    exact ⟨by simpa using h, by simpa using hz⟩
theorem raw2_feats {a : ArmsD} (h : armsOk a = true) {s : ByteArray} (hs : s ∈ raw2 a) : s ∈ FEATS := by
  obtain ⟨f1, f2, f3, f4, f5, f6, f7⟩ := arms_facts h
  unfold raw2 at hs
  simp only [List.mem_append, List.mem_singleton] at hs
  rcases hs with (((((((hs | hs) | hs) | hs) | hs) | hs) | hs) | hs)
  · unfold rawT at hs
    obtain ⟨x, hx, rfl⟩ := List.mem_map.1 hs
    refine fi_mem (lo := 1) (hi := 9) ?_ mem_t
    unfold tinsL at hx
    simp only [List.mem_append] at hx
    rcases hx with ((hx | hx) | hx) | hx
    · unfold tinF at hx
      split at hx
      · simp at hx; omega
      · simp at hx; omega
    · obtain ⟨rfl, hz⟩ := nz_mem hx; omega
    · obtain ⟨rfl, hz⟩ := nz_mem hx; omega
    · obtain ⟨rfl, hz⟩ := nz_mem hx; omega
  · subst hs; exact fi_mem (lo := 0) (hi := 7) (by omega) mem_d
  · subst hs; exact fi_mem (lo := 0) (hi := 7) (by omega) mem_o
  · by_cases q : 0 < a.l
    · rw [decide_eq_true q] at hs
      simp at hs
      subst hs
      exact fi_mem (lo := 1) (hi := 4) (by omega) mem_l
    · rw [decide_eq_false q] at hs
      simp at hs
  · by_cases q : 0 < a.li
    · rw [decide_eq_true q] at hs
      simp at hs
      subst hs
      exact fi_mem (lo := 1) (hi := 4) (by omega) mem_l
    · rw [decide_eq_false q] at hs
      simp at hs
  · cases q : groupNone a.c1 a.k1 a.a1 a.t1
    · rw [q] at hs
      simp at hs
      subst hs
      have : ¬ (a.c1 = 0 ∧ a.k1 = 0 ∧ a.a1 = 0 ∧ a.t1 = 0) := by simpa [groupNone] using q
      exact fi_mem (lo := 1) (hi := 8) (by omega) mem_k
    · rw [q] at hs
      simp at hs
  · cases q : groupNone a.c2 a.k2 a.a2 a.t2
    · rw [q] at hs
      simp at hs
      subst hs
      have : ¬ (a.c2 = 0 ∧ a.k2 = 0 ∧ a.a2 = 0 ∧ a.t2 = 0) := by simpa [groupNone] using q
      exact fi_mem (lo := 1) (hi := 8) (by omega) mem_k
    · rw [q] at hs
      simp at hs
  · subst hs
    exact fi_mem (lo := 0) (hi := 12) (by omega) mem_n
theorem featL_feats {a : ArmsD} (h : armsOk a = true) {s : ByteArray} (hs : s ∈ featL a) : s ∈ FEATS := by
  unfold featL at hs
  rw [putAll_mem] at hs
  exact raw2_feats h hs
/-- A grant has a feature. -/
def hasF (s : ByteArray) (g : GrantD) : Bool := hasB (featL g.a) s
theorem cnt_one (a : ArmsD) (s : ByteArray) : cnt a [s] = if hasB (featL a) s then 1 else 0 := by
  unfold cnt
  by_cases h : hasB (featL a) s = true
  · rw [List.filter_cons_of_pos h, if_pos h]; rfl
  · rw [List.filter_cons_of_neg h, if_neg h]; rfl
theorem hasF_cnt (s : ByteArray) : (fun g : GrantD => decide (cnt g.a [s] = 1)) = hasF s := by
  funext g
  rw [cnt_one]
  unfold hasF
  cases hasB (featL g.a) s <;> rfl
/-- All features of a register, as the reference comes to them. -/
def allR (rows : List GrantD) : List ByteArray := putAll (rows.flatMap fun g => featL g.a)
/-- The features of a register, as the program comes to them. -/
def allI (rows : List GrantD) : List ByteArray := FEATS.filter fun s => decide (0 < (nums rows (hasF s)).length)
theorem all_same {rows : List GrantD} (h : ∀ g ∈ rows, armsOk g.a = true) : allI rows = allR rows := by
  refine ascS_unique _ _ (List.Pairwise.filter _ FEATS_asc) (putAll_asc _) fun x => ?_
  unfold allI allR
  rw [putAll_mem, List.mem_filter, List.mem_flatMap]
  have hp : 0 < (nums rows (hasF x)).length ↔ ∃ g ∈ rows, x ∈ featL g.a := by
    unfold nums
    rw [List.length_map, List.length_pos_iff_exists_mem]
    constructor
    · rintro ⟨g, hg⟩
      rw [List.mem_filter] at hg
      exact ⟨g, hg.1, hasB_iff.1 hg.2⟩
    · rintro ⟨g, hg, hx⟩
      exact ⟨g, List.mem_filter.2 ⟨hg, hasB_iff.2 hx⟩⟩
  rw [decide_eq_true_iff, hp]
  constructor
  · exact fun hh => hh.2
  · rintro ⟨g, hg, hx⟩
    exact ⟨featL_feats (h g hg) hx, g, hg, hx⟩
end Go.Proofs.YtlonnkmfjijddaaGreatDoor
/-! ### GI -/
namespace Go.Proofs.YtlonnkmfjijddaaGreatDoor
open Go.ChangeShapes Go.WideShapes Go.ChangeAt Go.RowKit
set_option linter.unusedVariables false
/-- A line: a text and numbers. -/
abbrev IL := ByteArray × List Int
def lcs : List IL → List Value → List (List Value)
  | l :: ls, u :: us => [.string l.1, u] :: lcs ls us
  | _, _ => []
theorem lcs_len : ∀ (ls : List IL) (us : List Value), us.length = ls.length → (lcs ls us).length = ls.length
  | [], us, _ => by cases us <;> rfl
  | l :: ls, [], h => by simp at h
  | l :: ls, u :: us, h => by rw [lcs, List.length_cons, List.length_cons, lcs_len ls us (by simpa using h)]
theorem lcs_wid : ∀ (ls : List IL) (us : List Value), ∀ row ∈ lcs ls us, row.length = 2
  | [], us, row, h => by cases us <;> simp [lcs] at h
  | l :: ls, [], row, h => by simp [lcs] at h
  | l :: ls, u :: us, row, h => by
    rw [lcs, List.mem_cons] at h
    rcases h with rfl | h
    · rfl
    · exact lcs_wid ls us row h
theorem lcs_at : ∀ (ls : List IL) (us : List Value) (k : Nat) (l : IL) (u : Value), ls[k]? = some l → us[k]? = some u → (lcs ls us)[k]? = some [.string l.1, u]
  | [], us, k, l, u, h, _ => by simp at h
  | l :: ls, [], k, _, u, _, h => by simp at h
  | l :: ls, u :: us, 0, l', u', h, h' => by
    simp at h h'
    subst h h'
    rfl
  | l :: ls, u :: us, k + 1, l', u', h, h' => by
    rw [lcs, List.getElem?_cons_succ]
    exact lcs_at ls us k l' u' (by simpa using h) (by simpa using h')
theorem lcs_snoc : ∀ (ls : List IL) (us : List Value) (l : IL) (u : Value), us.length = ls.length → lcs (ls ++ [l]) (us ++ [u]) = lcs ls us ++ [[.string l.1, u]]
  | [], us, l, u, h => by
    have : us = [] := by simpa using h
    subst this
    rfl
  | l :: ls, [], _, u, h => by simp at h
  | l :: ls, u :: us, l', u', h => by
    rw [List.cons_append, List.cons_append, lcs, lcs, List.cons_append, lcs_snoc ls us l' u' (by simpa using h)]
theorem lcs_setS : ∀ (ls : List IL) (us : List Value) (k : Nat) (l : IL) (u : Value), us[k]? = some u → lcs (ls.set k l) us = (lcs ls us).set k [.string l.1, u]
  | [], us, k, l, u, h => by cases us <;> simp [lcs]
  | l :: ls, [], k, _, u, h => by simp at h
  | l :: ls, u :: us, 0, l', u', h => by
    simp at h
    subst h
    rfl
  | l :: ls, u :: us, k + 1, l', u', h => by
    rw [List.set_cons_succ, lcs, lcs, List.set_cons_succ, lcs_setS ls us k l' u' (by simpa using h)]
theorem lcs_setN : ∀ (ls : List IL) (us : List Value) (k : Nat) (l l' : IL), ls[k]? = some l → l'.1 = l.1 → lcs (ls.set k l') us = lcs ls us
  | [], us, k, l, l', h, _ => by simp at h
  | l :: ls, [], k, _, _, _, _ => by cases k <;> rfl
  | l :: ls, u :: us, 0, l', l2, h, e => by
    simp at h
    subst h
    rw [List.set_cons_zero, lcs, lcs, e]
  | l :: ls, u :: us, k + 1, l', l2, h, e => by
    rw [List.set_cons_succ, lcs, lcs, lcs_setN ls us k l' l2 (by simpa using h) e]
structure GI (w : World) (B : Nat) (v : Value) (ls : List IL) (us : List Value) : Prop where
  len : us.length = ls.length
  out : w.ownsRow B 53 2 v ls.length (lcs ls us).flatten
  own : ∀ (i : Nat) (u : Value) (l : IL), us[i]? = some u → ls[i]? = some l → OwnI w B 3 u l.2
  apart : ∀ (i j : Nat) (u u' : Value), i < j → us[i]? = some u → us[j]? = some u' → u.ownBlock = none ∨ u.ownBlock ≠ u'.ownBlock
  sep : ∀ (i : Nat) (u : Value), us[i]? = some u → u.ownBlock = none ∨ u.ownBlock ≠ v.ownBlock
theorem GI.below {w w' : World} {B : Nat} {v : Value} {ls : List IL} {us : List Value} (h : GI w B v ls us) (hb : Below w.heap.size w w') : GI w' B v ls us :=
  ⟨h.len, ownsRow_below h.out hb, fun i u l h1 h2 => (h.own i u l h1 h2).below hb, h.apart, h.sep⟩
theorem GI.base {w : World} {B B' : Nat} {v : Value} {ls : List IL} {us : List Value} (h : GI w B v ls us) (hB : B' ≤ B) : GI w B' v ls us :=
  ⟨h.len, ownsRow_base h.out hB, fun i u l h1 h2 => OwnI.base (h.own i u l h1 h2) hB, h.apart, h.sep⟩
theorem GI.hi {w : World} {B : Nat} {v : Value} {ls : List IL} {us : List Value} (h : GI w B v ls us) : ∀ (i : Nat) (u : Value), us[i]? = some u → ∀ b, u.ownBlock = some b → B ≤ b ∧ b < w.heap.size := fun i u hu b hb => by
  have hi := (List.getElem?_eq_some_iff.1 hu).1
  exact (h.own i u _ hu (List.getElem?_eq_getElem (by rw [← h.len]; exact hi))).lt b hb
theorem GI.outer {w : World} {B : Nat} {v : Value} {ls : List IL} {us : List Value} (h : GI w B v ls us) : ∀ b, v.ownBlock = some b → B ≤ b ∧ b < w.heap.size := World.ownsRow.lt h.out
/-- It stays where other blocks are written. -/
theorem GI.grown {w w' : World} {B : Nat} {v : Value} {ls : List IL} {us : List Value} {row : Option Nat} (h : GI w B v ls us) (hg : w.grownBy w' row) (hne : ∀ b, row = some b → b < B ∨ w.heap.size ≤ b) : GI w' B v ls us := by
  have ne : ∀ x : Value, (∀ b, x.ownBlock = some b → B ≤ b ∧ b < w.heap.size) → x.ownBlock = none ∨ x.ownBlock ≠ row := fun x hx => by
    cases e : x.ownBlock with
    | none => exact .inl rfl
    | some b => exact .inr fun e2 => by have := hx b e; have := hne b e2.symm; omega
  exact ⟨h.len, World.ownsRow.kept h.out hg (ne v h.outer), fun i u l h1 h2 => (h.own i u l h1 h2).other hg (ne u (h.hi i u h1)), h.apart, h.sep⟩
theorem GI.none0 (w : World) (B g : Nat) (hg : g = w.heap.size) (hB : B ≤ g) : GI (w.alloc (.cells #[] 53)) B (.slice (some ⟨g, 0, none⟩) 0 0) [] [] :=
  ⟨rfl, ⟨rfl, .inr ⟨g, 0, #[], rfl, hB, heap_hit _ _ _ hg, Nat.le_refl _, by simp [maxLen], rfl, rfl⟩⟩, fun i u row h => by simp at h, fun i j u u' _ h => by simp at h, fun i u h => by simp at h⟩
theorem GI.nil (w : World) (B : Nat) : GI w B (.slice none 0 0) [] [] := ⟨rfl, World.ownsRow_nil _ _ _ _, fun i u row h => by simp at h, fun i j u u' _ h => by simp at h, fun i u h => by simp at h⟩
theorem GI.form {w : World} {B : Nat} {v : Value} {ls : List IL} {us : List Value} (h : GI w B v ls us) : ∃ A c, v = .slice A ls.length c := by
  obtain ⟨A, c, hv, -⟩ := ownsRow_form h.out
  exact ⟨A, c, hv⟩
theorem il_at {ls : List IL} {k : Nat} (h : k < ls.length) : ∃ s ns, ls[k]? = some (s, ns) := ⟨_, _, List.getElem?_eq_getElem h⟩
/-- One line of it. -/
theorem GI.at_ {w : World} {B k : Nat} {v : Value} {ls : List IL} {us : List Value} {s : ByteArray} {ns : List Int} (h : GI w B v ls us) (hk : ls[k]? = some (s, ns)) :
    ∃ g c A c', v = .slice (some ⟨g, 0, none⟩) ls.length c ∧ w.cell? ⟨g, k * 2, none⟩ = some (.string s) ∧ w.cell? ⟨g, k * 2 + 1, none⟩ = some (.slice A ns.length c') ∧ w.frozen? ⟨g, k * 2, none⟩ = false ∧ us[k]? = some (.slice A ns.length c') ∧ OwnI w B 3 (.slice A ns.length c') ns := by
  have hlt := (List.getElem?_eq_some_iff.1 hk).1
  have hlv : k < us.length := by rw [h.len]; exact hlt
  obtain ⟨-, h0 | ⟨g, cap, cur, rfl, -, hh, hnc, -, hcs, ht⟩⟩ := h.out
  · omega
  · have hu : us[k]? = some us[k] := List.getElem?_eq_getElem hlv
    have ho := h.own k _ _ hu hk
    obtain ⟨A', c', e', -⟩ := ho.form
    have hcell : ∀ j x, j < 2 → ([.string s, us[k]] : List Value)[j]? = some x → w.cell? ⟨g, k * 2 + j, none⟩ = some x := fun j x hj hx => by
      have h3 := flat_at (lcs_wid ls us) (lcs_at ls us k _ _ hk hu) j x hx
      rw [cell_of hh, ← Array.getElem?_toList]
      rw [← ht, List.getElem?_take_of_lt (by omega)] at h3
      exact h3
    have h1 := hcell 0 _ (by decide) rfl
    have h2 := hcell 1 _ (by decide) rfl
    exact ⟨g, cap, A', c', rfl, h1, by rw [h2, e'], frozen_of hh _, by rw [hu, e'], by rw [← e']; exact ho⟩
/-- Behind a text that is stored. -/
theorem GI.setS {w : World} {B g c k : Nat} {ls : List IL} {us : List Value} {s : ByteArray} {ns : List Int} (h : GI w B (.slice (some ⟨g, 0, none⟩) ls.length c) ls us) (hk : ls[k]? = some (s, ns)) (t : ByteArray) :
    GI (w.setCell ⟨g, k * 2, none⟩ (.string t)) B (.slice (some ⟨g, 0, none⟩) ls.length c) (ls.set k (t, ns)) us := by
  have hlt := (List.getElem?_eq_some_iff.1 hk).1
  have hlv : k < us.length := by rw [h.len]; exact hlt
  have hu : us[k]? = some us[k] := List.getElem?_eq_getElem hlv
  obtain ⟨h1, h2⟩ := World.ownsRow.stored h.out (k * 2) (.string t)
  have hfl : (lcs ls us).flatten.set (k * 2) (.string t) = (lcs (ls.set k (t, ns)) us).flatten := by
    have hp : ((lcs ls us).take k).flatten.length = k * 2 := flat_pre (lcs_wid ls us) (by rw [lcs_len ls us h.len]; omega)
    rw [lcs_setS ls us k _ _ hu, flat_set (lcs_wid ls us) (by rw [lcs_len ls us h.len]; exact hlt), flat_split (lcs_at ls us k _ _ hk hu), List.set_append_right _ _ (by omega), hp, Nat.sub_self]
    rfl
  refine ⟨by rw [List.length_set]; exact h.len, by rw [List.length_set, ← hfl]; exact h1, fun i u l e1 e2 => ?_, h.apart, h.sep⟩
  rw [List.getElem?_set] at e2
  by_cases hi : k = i
  · subst hi
    rw [if_pos rfl, if_pos hlt] at e2
    injection e2 with e2
    subst e2
    exact (h.own k u _ e1 hk).other h2 (h.sep k u e1)
  · rw [if_neg hi] at e2
    exact (h.own i u l e1 e2).other h2 (h.sep i u e1)
/-- Behind numbers that are marked. -/
theorem GI.setN {w w' : World} {B k : Nat} {v u : Value} {ls : List IL} {us : List Value} {s : ByteArray} {ns ms : List Int} (h : GI w B v ls us) (hk : ls[k]? = some (s, ns)) (hu : us[k]? = some u)
    (ho : OwnI w' B 3 u ms) (hg : w.grownBy w' u.ownBlock) : GI w' B v (ls.set k (s, ms)) us := by
  have hlt := (List.getElem?_eq_some_iff.1 hk).1
  have sy : ∀ x : Value, u.ownBlock = none ∨ u.ownBlock ≠ x.ownBlock → x.ownBlock = none ∨ x.ownBlock ≠ u.ownBlock := fun x hx => by
    rcases hx with e | e
    · rw [e]
      cases x.ownBlock with
      | none => exact .inl rfl
      | some b => exact .inr (by simp)
    · exact .inr fun e2 => e e2.symm
  refine ⟨by rw [List.length_set]; exact h.len, ?_, fun i x l e1 e2 => ?_, h.apart, h.sep⟩
  · rw [List.length_set, lcs_setN ls us k (s, ns) (s, ms) hk rfl]
    exact World.ownsRow.kept h.out hg (sy v (h.sep k u hu))
  · rw [List.getElem?_set] at e2
    by_cases hi : k = i
    · subst hi
      rw [if_pos rfl, if_pos hlt] at e2
      injection e2 with e2
      subst e2
      rw [hu] at e1
      injection e1 with e1
      subst e1
      exact ho
    · rw [if_neg hi] at e2
      refine (h.own i x l e1 e2).other hg ?_
      rcases Nat.lt_or_ge i k with hik | hik
      · exact h.apart i k x u hik e1 hu
      · exact sy x (h.apart k i u x (by omega) hu e1)
/-- Behind an append of one line. -/
theorem GI.snoc {w w' : World} {B : Nat} {v v' u : Value} {ls : List IL} {us : List Value} {s : ByteArray} {ns : List Int} (h : GI w B v ls us) (hu : OwnI w B 3 u ns)
    (ha : ∀ (i : Nat) (u' : Value), us[i]? = some u' → u'.ownBlock = none ∨ u'.ownBlock ≠ u.ownBlock) (huv : u.ownBlock = none ∨ u.ownBlock ≠ v.ownBlock)
    (ho : w'.ownsRow B 53 2 v' (ls.length + 1) ((lcs ls us).flatten ++ [.string s, u])) (hg : w.grownBy w' v.ownBlock) (hat : v'.ownBlock = v.ownBlock ∨ v'.ownBlock = some w.heap.size) : GI w' B v' (ls ++ [(s, ns)]) (us ++ [u]) := by
  have hl := h.len
  have sep' : ∀ (x : Value) (r : List Int), OwnI w B 3 x r → (x.ownBlock = none ∨ x.ownBlock ≠ v.ownBlock) → x.ownBlock = none ∨ x.ownBlock ≠ v'.ownBlock := by
    intro x r hx hs
    rcases hs with hs | hs
    · exact .inl hs
    · rcases hat with e | e
      · rw [e]; exact .inr hs
      · cases hb : x.ownBlock with
        | none => exact .inl rfl
        | some b =>
          refine .inr fun e2 => ?_
          rw [e] at e2
          injection e2 with e2
          have := (hx.lt b hb).2
          omega
  have at' : ∀ (i : Nat) (x : Value), (us ++ [u])[i]? = some x → (i < us.length ∧ us[i]? = some x) ∨ (i = us.length ∧ x = u) := by
    intro i x hx
    by_cases hi : i < us.length
    · rw [List.getElem?_append_left hi] at hx
      exact .inl ⟨hi, hx⟩
    · have hl := (List.getElem?_eq_some_iff.1 hx).1
      simp at hl
      obtain rfl : i = us.length := by omega
      rw [List.getElem?_append_right (Nat.le_refl _), Nat.sub_self] at hx
      simp at hx
      exact .inr ⟨rfl, hx.symm⟩
  refine ⟨by simp [hl], by rw [List.length_append, lcs_snoc ls us _ _ hl, List.flatten_append]; exact ho, fun i x r h1 h2 => ?_, fun i j x y hij h1 h2 => ?_, fun i x h1 => ?_⟩
  · rcases at' i x h1 with ⟨hi, hx⟩ | ⟨rfl, rfl⟩
    · rw [List.getElem?_append_left (by omega)] at h2
      exact (h.own i x r hx h2).other hg (h.sep i x hx)
    · rw [hl, List.getElem?_append_right (Nat.le_refl _), Nat.sub_self] at h2
      simp at h2
      subst h2
      exact hu.other hg huv
  · rcases at' i x h1 with ⟨hi, hx⟩ | ⟨rfl, rfl⟩
    · rcases at' j y h2 with ⟨hj, hy⟩ | ⟨rfl, rfl⟩
      · exact h.apart i j x y hij hx hy
      · exact ha i x hx
    · rcases at' j y h2 with ⟨hj, hy⟩ | ⟨e, -⟩
      · omega
      · omega
  · rcases at' i x h1 with ⟨hi, hx⟩ | ⟨rfl, rfl⟩
    · exact sep' x _ (h.own i x _ hx (List.getElem?_eq_getElem (by omega))) (h.sep i x hx)
    · exact sep' _ _ hu huv
section
variable {w : World} {ops : Array Oper} {rest : List Oper} {o : Oper} {a : Act} {Q : Exit → Act → World → Prop}
theorem wp_appL (hgd : o.guard = none) (sl x : Operand) (ho : o.op = .call { callee := .builtin .append, args := #[sl, x], argTypes := #[26, 26] })
    (B : Nat) (v : Value) (ls : List IL) (us : List Value) (hs : a.eval sl = v) (h : GI w B v ls us) (b : Nat) (s : ByteArray) (u : Value) (ns : List Int) (hx : a.eval x = .slice (some ⟨b, 0, none⟩) 1 1) (hc : w.cell? ⟨b, 0, none⟩ = some (.string s)) (hc1 : w.cell? ⟨b, 1, none⟩ = some u)
    (hu : OwnI w B 3 u ns) (ha : ∀ (i : Nat) (u' : Value), us[i]? = some u' → u'.ownBlock = none ∨ u'.ownBlock ≠ u.ownBlock) (huv : u.ownBlock = none ∨ u.ownBlock ≠ v.ownBlock)
    (hl : ls.length ≤ 1048576) (hB : B ≤ w.heap.size)
    (hK : ∀ v' w', GI w' B v' (ls ++ [(s, ns)]) (us ++ [u]) → w.grownBy w' v.ownBlock → Below B w w' → wpList Tryz.prog ops Q rest (a.put o.dst v') w') : wpList Tryz.prog ops Q (o :: rest) a w := by
  obtain ⟨i0, hi, hz0, hz1, hz2⟩ := info_parts (show (Tryz.prog.info? 53).map (fun i => (i.zero, i.size, i.bytes)) = some (some (.agg #[.string ⟨#[]⟩, .slice none 0 0]), 2, 40) by kernel_rfl)
  have h1 : u.oneCell' = true := by
    obtain ⟨A, c, rfl, -⟩ := hu.form
    rfl
  refine wpList_append_own_at w hgd sl x 26 ho B 53 i0 (.agg #[.string ⟨#[]⟩, .slice none 0 0]) 2 40 Tryz.underlying26 hi hz0 hz1 hz2 rfl (by decide) v ls.length _ hs h.out ⟨b, 0, none⟩ 1 1 [.string s, u] hx rfl ?_ (fun y hy => ?_) (by unfold maxLen; omega) (by omega) hB fun v' w' h2 h3 _ h4 => hK v' w' (h.snoc hu ha huv h2 h3 h4) h3 (grown_below h.out hB h3)
  · intro j y hj
    match j, hj with
    | 0, hj => simp at hj; subst hj; simpa [Addr.add] using hc
    | 1, hj => simp at hj; subst hj; simpa [Addr.add] using hc1
    | j + 2, hj => simp at hj
  · simp at hy
    rcases hy with rfl | rfl
    · rfl
    · exact h1
/-- The same; it tells where the new row lies. -/
theorem wp_appLAt (hgd : o.guard = none) (sl x : Operand) (ho : o.op = .call { callee := .builtin .append, args := #[sl, x], argTypes := #[26, 26] })
    (B : Nat) (v : Value) (ls : List IL) (us : List Value) (hs : a.eval sl = v) (h : GI w B v ls us) (b : Nat) (s : ByteArray) (u : Value) (ns : List Int) (hx : a.eval x = .slice (some ⟨b, 0, none⟩) 1 1) (hc : w.cell? ⟨b, 0, none⟩ = some (.string s)) (hc1 : w.cell? ⟨b, 1, none⟩ = some u)
    (hu : OwnI w B 3 u ns) (ha : ∀ (i : Nat) (u' : Value), us[i]? = some u' → u'.ownBlock = none ∨ u'.ownBlock ≠ u.ownBlock) (huv : u.ownBlock = none ∨ u.ownBlock ≠ v.ownBlock)
    (hl : ls.length ≤ 1048576) (hB : B ≤ w.heap.size)
    (hK : ∀ v' w', GI w' B v' (ls ++ [(s, ns)]) (us ++ [u]) → w.grownBy w' v.ownBlock → Below B w w' → (v'.ownBlock = v.ownBlock ∨ v'.ownBlock = some w.heap.size) → wpList Tryz.prog ops Q rest (a.put o.dst v') w') : wpList Tryz.prog ops Q (o :: rest) a w := by
  obtain ⟨i0, hi, hz0, hz1, hz2⟩ := info_parts (show (Tryz.prog.info? 53).map (fun i => (i.zero, i.size, i.bytes)) = some (some (.agg #[.string ⟨#[]⟩, .slice none 0 0]), 2, 40) by kernel_rfl)
  have h1 : u.oneCell' = true := by
    obtain ⟨A, c, rfl, -⟩ := hu.form
    rfl
  refine wpList_append_own_at w hgd sl x 26 ho B 53 i0 (.agg #[.string ⟨#[]⟩, .slice none 0 0]) 2 40 Tryz.underlying26 hi hz0 hz1 hz2 rfl (by decide) v ls.length _ hs h.out ⟨b, 0, none⟩ 1 1 [.string s, u] hx rfl ?_ (fun y hy => ?_) (by unfold maxLen; omega) (by omega) hB fun v' w' h2 h3 _ h4 => hK v' w' (h.snoc hu ha huv h2 h3 h4) h3 (grown_below h.out hB h3) h4
  · intro j y hj
    match j, hj with
    | 0, hj => simp at hj; subst hj; simpa [Addr.add] using hc
    | 1, hj => simp at hj; subst hj; simpa [Addr.add] using hc1
    | j + 2, hj => simp at hj
  · simp at hy
    rcases hy with rfl | rfl
    · rfl
    · exact h1
end
end Go.Proofs.YtlonnkmfjijddaaGreatDoor
/-! ### ILP -/
namespace Go.Proofs.YtlonnkmfjijddaaGreatDoor
open Go.ChangeShapes Go.WideShapes Go.ChangeAt Go.RowKit
set_option linter.unusedVariables false
/-- How many marks the first k lines take. -/
def totI : List IL → Nat → Nat
  | _, 0 => 0
  | [], _ + 1 => 0
  | l :: ls, k + 1 => (1 + l.2.length) + totI ls k
theorem totI_step : ∀ {ls : List IL} {k : Nat} {l : IL}, ls[k]? = some l → totI ls (k + 1) = totI ls k + (1 + l.2.length)
  | [], k, l, h => by simp at h
  | l :: ls, 0, l', h => by
    simp at h
    subst h
    cases ls <;> simp [totI]
  | l :: ls, k + 1, l', h => by
    have h' : ls[k]? = some l' := by simpa using h
    rw [totI, totI_step h', totI]
    omega
theorem totI_zero (ls : List IL) : totI ls 0 = 0 := by cases ls <;> rfl
/-- Each line holds its marks, one line behind the other. -/
def mkI (k0 : Int) : List IL → List IL
  | [] => []
  | l :: ls => (mtX k0, marks (k0 + 1) l.2.length) :: mkI (k0 + 1 + l.2.length) ls
theorem mkI_len : ∀ (ls : List IL) (k0 : Int), (mkI k0 ls).length = ls.length
  | [], _ => rfl
  | l :: ls, k0 => by rw [mkI, List.length_cons, List.length_cons, mkI_len ls]
theorem mkI_at : ∀ (ls : List IL) (k0 : Int) (k : Nat) (l : IL), ls[k]? = some l → (mkI k0 ls)[k]? = some (mtX (k0 + (totI ls k : Nat)), marks (k0 + (totI ls k : Nat) + 1) l.2.length)
  | [], _, k, l, h => by simp at h
  | l :: ls, k0, 0, l', h => by
    simp at h
    subst h
    simp [mkI, totI_zero]
  | l :: ls, k0, k + 1, l', h => by
    have h' : ls[k]? = some l' := by simpa using h
    rw [mkI, List.getElem?_cons_succ, mkI_at ls _ k l' h', totI]
    have e : k0 + 1 + (l.2.length : Int) + (totI ls k : Nat) = k0 + ((1 + l.2.length + totI ls k : Nat) : Int) := by omega
    rw [e]
/-- The first k lines are marked. -/
def partI (k0 : Int) (ls : List IL) (k : Nat) : List IL := (mkI k0 ls).take k ++ ls.drop k
theorem partI_len (k0 : Int) (ls : List IL) (k : Nat) (hk : k ≤ ls.length) : (partI k0 ls k).length = ls.length := by
  rw [partI, List.length_append, List.length_take, List.length_drop, mkI_len]
  omega
theorem partI_zero (k0 : Int) (ls : List IL) : partI k0 ls 0 = ls := by simp [partI]
theorem partI_at (k0 : Int) (ls : List IL) (k i : Nat) (hk : k ≤ ls.length) : (partI k0 ls k)[i]? = if i < k then (mkI k0 ls)[i]? else ls[i]? := by
  have hl : ((mkI k0 ls).take k).length = k := by rw [List.length_take, mkI_len]; omega
  unfold partI
  by_cases h : i < k
  · rw [if_pos h, List.getElem?_append_left (by omega), List.getElem?_take_of_lt h]
  · rw [if_neg h, List.getElem?_append_right (by omega), hl, List.getElem?_drop]
    congr 1
    omega
theorem partI_all (k0 : Int) (ls : List IL) : partI k0 ls ls.length = mkI k0 ls := by
  rw [partI, List.drop_length, List.append_nil, List.take_of_length_le (by rw [mkI_len]; exact Nat.le_refl _)]
theorem partI_here {k0 : Int} {ls : List IL} {k : Nat} {l : IL} (h : ls[k]? = some l) : (partI k0 ls k)[k]? = some l := by
  have hk := (List.getElem?_eq_some_iff.1 h).1
  rw [partI_at _ _ _ _ (by omega), if_neg (Nat.lt_irrefl _), h]
theorem partI_step {k0 : Int} {ls : List IL} {k : Nat} {l : IL} (h : ls[k]? = some l) (x : ByteArray × List Int) (hx : x = (mtX (k0 + (totI ls k : Nat)), marks (k0 + (totI ls k : Nat) + 1) l.2.length)) : (partI k0 ls k).set k x = partI k0 ls (k + 1) := by
  have hk := (List.getElem?_eq_some_iff.1 h).1
  apply List.ext_getElem?
  intro i
  rw [List.getElem?_set, partI_len _ _ _ (by omega), partI_at _ _ _ _ (by omega), partI_at _ _ _ _ (by omega)]
  by_cases e : k = i
  · subst e
    rw [if_pos rfl, if_pos hk, if_pos (by omega), mkI_at _ _ _ _ h, hx]
  · rw [if_neg e]
    by_cases h2 : i < k
    · rw [if_pos h2, if_pos (by omega)]
    · rw [if_neg h2, if_neg (by omega)]
/-- What a law asks of lines. -/
structure SmallI (ls : List IL) : Prop where
  len : ls.length ≤ 1000
  row : ∀ l ∈ ls, l.2.length ≤ 1048576
theorem SmallI.tot {ls : List IL} (h : SmallI ls) : ∀ k, k ≤ ls.length → totI ls k ≤ k * 1048577
  | 0, _ => by rw [totI_zero]; exact Nat.zero_le _
  | k + 1, hk => by
    have ih := SmallI.tot h k (by omega)
    have e : ls[k]? = some ls[k] := List.getElem?_eq_getElem (by omega)
    rw [totI_step e, Nat.succ_mul]
    have := h.row ls[k] (List.getElem_mem _)
    omega
theorem SmallI.at_ {ls : List IL} (h : SmallI ls) {k : Nat} {l : IL} (hk : ls[k]? = some l) : l.2.length ≤ 1048576 := h.row l (List.mem_of_getElem? hk)
end Go.Proofs.YtlonnkmfjijddaaGreatDoor
/-! ### ILaw -/
namespace Go.Proofs.YtlonnkmfjijddaaGreatDoor
open Go.ChangeShapes Go.WideShapes Go.ChangeAt Go.RowKit
set_option linter.unusedVariables false
set_option linter.unusedSimpArgs false
/-- Lines in new memory, and whether all is well. -/
def IdxOk (w : World) (ls : List IL) (ok : Bool) (e : Ending) (w' : World) : Prop := ∃ v us, e = .returned (.tuple #[v, .bool ok]) ∧ GI w' w.heap.size v ls us ∧ Below w.heap.size w w'
/-- All its blocks lie below a number. -/
structure ILt (v : Value) (us : List Value) (h : Nat) : Prop where
  out : ∀ b, v.ownBlock = some b → b < h
  own : ∀ (i : Nat) (u : Value), us[i]? = some u → ∀ b, u.ownBlock = some b → b < h
theorem GI.ilt {w : World} {B : Nat} {v : Value} {ls : List IL} {us : List Value} (h : GI w B v ls us) : ILt v us w.heap.size :=
  ⟨fun b hb => (h.outer b hb).2, fun i u hu b hb => (h.hi i u hu b hb).2⟩
theorem ne_outI {lo hi : Nat} {u : Value} {row : Option Nat} (hr : ∀ k, row = some k → k < lo ∨ hi ≤ k) (hu : ∀ b, u.ownBlock = some b → lo ≤ b ∧ b < hi) : u.ownBlock = none ∨ u.ownBlock ≠ row := by
  cases e : u.ownBlock with
  | none => exact .inl rfl
  | some b =>
    refine .inr fun e2 => ?_
    have := hr b e2.symm
    have := hu b e
    omega
theorem GI.beside {w w' : World} {B h : Nat} {v : Value} {ls : List IL} {us : List Value} (g : GI w B v ls us) (l : ILt v us h) {row : Option Nat} (hg : w.grownBy w' row) (hr : ∀ k, row = some k → k < B ∨ h ≤ k) : GI w' B v ls us :=
  ⟨g.len, World.ownsRow.kept g.out hg (ne_outI hr fun b hb => ⟨(g.outer b hb).1, l.out b hb⟩),
    fun i u r h1 h2 => (g.own i u r h1 h2).other hg (ne_outI hr fun b hb => ⟨(g.hi i u h1 b hb).1, l.own i u h1 b hb⟩), g.apart, g.sep⟩
theorem ownsRow_lower {w w' : World} {B B' : Nat} {T : TypeId} {K : Nat} {v : Value} {n : Nat} {xs : List Value} (hb : Below B w w') (ho : w.ownsRow B' T K v n xs) (hv : ∀ k, v.ownBlock = some k → k < B) : w'.ownsRow B' T K v n xs := by
  obtain ⟨hl, h1 | ⟨g, cap, cur, rfl, hB, hh, r⟩⟩ := ho
  · exact ⟨hl, .inl h1⟩
  · exact ⟨hl, .inr ⟨g, cap, cur, rfl, hB, (hb.block g (hv g rfl)).trans hh, r⟩⟩
theorem GI.lower {w w' : World} {B B' : Nat} {v : Value} {ls : List IL} {us : List Value} (g : GI w B' v ls us) (l : ILt v us B) (hb : Below B w w') : GI w' B' v ls us :=
  ⟨g.len, ownsRow_lower hb g.out l.out, fun i u r h1 h2 => ownsRow_lower hb (g.own i u r h1 h2) (l.own i u h1), g.apart, g.sep⟩
/-! ### The laws' own functions -/
theorem GI.range {w : World} {B k g c : Nat} {ls : List IL} {us : List Value} {s : ByteArray} {ns : List Int} {A : Option Addr} {c' : Nat} (h0 : w.cell? ⟨g, k * 2, none⟩ = some (.string s)) (h1 : w.cell? ⟨g, k * 2 + 1, none⟩ = some (.slice A ns.length c')) :
    w.rangeAt g (k * 2) [.string s, .slice A ns.length c'] := fun j v hv => by
  match j, hv with
  | 0, hv => simp at hv; subst hv; exact h0
  | 1, hv => simp at hv; subst hv; exact h1
  | j + 2, hv => simp at hv
theorem OwnI.rdx {w : World} {B c n : Nat} {T : TypeId} {A : Option Addr} {zs : List Int} (h : OwnI w B T (.slice A n c) zs) : RdI w A zs := by
  obtain ⟨A', c', e, hr⟩ := h.form
  injection e with e1 e2 e3
  rw [e1]
  exact hr
set_option maxHeartbeats 2000000 in
theorem eqIL1 (s : ByteArray) (A1 A2 : Option Addr) (c1 c2 : Nat) (ns : List Int) (w : World) (h1 : RdI w A1 ns) (h2 : RdI w A2 ns) (hn : ns.length ≤ 1048576) :
    Calls Tryz.prog 24 #[.agg #[.string s, .slice A1 ns.length c1], .agg #[.string s, .slice A2 ns.length c2]] w fun e w' => e = .returned (.bool true) ∧ Below w.heap.size w w' := by
  have hs := eqS_self s
  have KE := Lib.hid (fun (w' : World) (hb : Below w.heap.size w w') => ((eqIntS_any A1 A2 c1 c2 ns ns w' (h1.below hb) (h2.below hb) (by omega) (by omega)).mono fun e w'' h => ⟨by rw [h.1]; simp, h.2⟩ : Calls Tryz.prog 48 #[.slice A1 ns.length c1, .slice A2 ns.length c2] w' fun e w'' => e = .returned (.bool true) ∧ Below w'.heap.size w' w''))
  clear h1 h2
  go_enter Tryz.func24, Tryz.ntmps24
  go_wp2_with fail
  refine (KE.out _ (by (repeat (first | exact Below.refl _ _ | assumption | refine Below_al ?_ _ | refine Below.drew ?_ | refine Below_then ?_ (by assumption) | refine Below.setCell ?_ (by first | omega | (simp; done) | (simp; omega)) _)))).mono ?_
  rintro e w1 ⟨rfl, hb1⟩
  go_wp2
  go_ret
  exact ⟨rfl, by (repeat (first | exact Below.refl _ _ | assumption | refine Below_al ?_ _ | refine Below.drew ?_ | refine Below_then ?_ (by assumption) | refine Below.setCell ?_ (by first | omega | (simp; done) | (simp; omega)) _))⟩
set_option maxHeartbeats 4000000 in
theorem eqIL {w : World} {B B' : Nat} {v v' : Value} {ls : List IL} {us us' : List Value} (h1 : GI w B v ls us) (h2 : GI w B' v' ls us') (hs : SmallI ls) :
    Calls Tryz.prog 8 #[v, v'] w fun e w' => e = .returned (.bool true) ∧ Below w.heap.size w w' := by
  obtain ⟨A, c, rfl⟩ := h1.form
  obtain ⟨A', c', rfl⟩ := h2.form
  have H1 := Lib.hid h1
  have H2 := Lib.hid h2
  have hll := hs.len
  clear h1 h2
  go_enter Tryz.func8, Tryz.ntmps8
  go_wp2_with fail
  go_loopw [5] (fun i wr => ∃ k : Nat, k ≤ ls.length ∧ i = .int .i64 k ∧ Below w.heap.size w wr) (fun i _ => ls.length - (intOf i).toNat)
  case atStart => exact ⟨0, Nat.zero_le _, rfl, Below.refl _ _⟩
  case round =>
    obtain ⟨k, hk, rfl, hb⟩ := hrel
    by_cases hlt : k < ls.length
    · obtain ⟨s, ns, hl⟩ := il_at hlt
      obtain ⟨ga, ca, A1, c1, e1, x1, x2, -, -, o1⟩ := (H1.out.below hb).at_ hl
      obtain ⟨gb, cb, A2, c2, e2, y1, y2, -, -, o2⟩ := (H2.out.below hb).at_ hl
      injection e1 with e11 _ e12
      injection e2 with e21 _ e22
      subst e11 e12 e21 e22
      have hra := GI.range (ls := ls) (us := us) (B := B) (c := 0) x1 x2
      have hrb := GI.range (ls := ls) (us := us) (B := B) (c := 0) y1 y2
      have hn : ns.length ≤ 1048576 := hs.at_ hl
      have hr1 : ∀ w', Below wr.heap.size wr w' → RdI w' A1 ns := fun w' hb' => (o1.below hb').rdx
      have hr2 : ∀ w', Below wr.heap.size wr w' → RdI w' A2 ns := fun w' hb' => (o2.below hb').rdx
      have i1 : (k : Int) < (ls.length : Int) := by omega
      have d1 : decide (k < ls.length) = true := by simpa using hlt
      clear x1 x2 y1 y2 o1 o2
      have KE := Lib.hid (fun w' (hb' : Below wr.heap.size wr w') => eqIL1 s A1 A2 c1 c2 ns w' (hr1 w' hb') (hr2 w' hb') hn)
      clear hr1 hr2
      go_wp2_with fail
      refine wp_region_noPanic ?_
      refine wp_region_held_drew (S := (fun w' => w'.rangeAt ga (k * 2) [.string s, .slice A1 ns.length c1] ∧ w'.rangeAt gb (k * 2) [.string s, .slice A2 ns.length c2] ∧ Below wr.heap.size wr w')) (by kernel_rfl) ⟨hra, hrb, (Below.refl _ _).drew⟩ (fun hHeld => ?_)
      refine wpAnyH_take (i := 0) (oi := _) (v := ?_) rfl (by kernel_rfl) (by kernel_rfl) (by kernel_rfl) (fun _ _ _ h => h) (Or.inl ⟨by rfl, ?_⟩) (by assumption) ?_
      rotate_left
      · intro w hSw; clear hSw; first | (go_simp; done) | (go_simp; with_reducible rfl)
      simp only [Act.put, List.getElem_toArray, List.getElem_cons_succ, List.getElem_cons_zero, List.setIfInBounds_toArray, List.set_cons_zero, List.set_cons_succ]
      refine wpAnyH_take (i := 1) (oi := _) (v := ?_) rfl (by kernel_rfl) (by kernel_rfl) (by kernel_rfl) (fun _ _ _ h => h) (Or.inl ⟨by rfl, ?_⟩) (by assumption) ?_
      rotate_left
      · intro w hSw; clear hSw; first | (go_simp; done) | (go_simp; with_reducible rfl)
      simp only [Act.put, List.getElem_toArray, List.getElem_cons_succ, List.getElem_cons_zero, List.setIfInBounds_toArray, List.set_cons_zero, List.set_cons_succ]
      refine wpAnyH_take (i := 2) (oi := _) (v := ?_) rfl (by kernel_rfl) (by kernel_rfl) (by kernel_rfl) (fun _ _ _ h => h) (Or.inl ⟨by rfl, ?_⟩) (by assumption) ?_
      rotate_left
      · intro w hSw; clear hSw; first | (go_simp; done) | (go_simp; with_reducible rfl)
      simp only [Act.put, List.getElem_toArray, List.getElem_cons_succ, List.getElem_cons_zero, List.setIfInBounds_toArray, List.set_cons_zero, List.set_cons_succ]
      refine wpAnyH_take (i := 3) (oi := _) (v := _) rfl ?g1_1 ?g2_1 ?g3_1 (fun _ _ _ h => h) (yieldsIf_load_mid ?g4_1 _ _ rfl ga ?oo_1 ?g5_1 [.string s, .slice A1 ns.length c1] _ ?g6_1 Tryz.underlying53 rfl (by kernel_rfl)) ?g7_1 ?_
      case g5_1 => rfl
      case g1_1 => kernel_rfl
      case g2_1 => kernel_rfl
      case g3_1 => kernel_rfl
      case g6_1 => exact (fun _ h => h.1)
      case g4_1 => kernel_rfl
      case g7_1 => assumption
      simp only [Act.put, List.getElem_toArray, List.getElem_cons_succ, List.getElem_cons_zero, List.setIfInBounds_toArray, List.set_cons_zero, List.set_cons_succ]
      refine wpAnyH_take (i := 4) (oi := _) (v := ?_) rfl (by kernel_rfl) (by kernel_rfl) (by kernel_rfl) (fun _ _ _ h => h) (Or.inl ⟨by rfl, ?_⟩) (by assumption) ?_
      rotate_left
      · intro w hSw; clear hSw; first | (go_simp; done) | (go_simp; with_reducible rfl)
      simp only [Act.put, List.getElem_toArray, List.getElem_cons_succ, List.getElem_cons_zero, List.setIfInBounds_toArray, List.set_cons_zero, List.set_cons_succ]
      refine wpAnyH_take (i := 5) (oi := _) (v := ?_) rfl (by kernel_rfl) (by kernel_rfl) (by kernel_rfl) (fun _ _ _ h => h) (Or.inl ⟨by rfl, ?_⟩) (by assumption) ?_
      rotate_left
      · intro w hSw; clear hSw; first | (go_simp; done) | (go_simp; with_reducible rfl)
      simp only [Act.put, List.getElem_toArray, List.getElem_cons_succ, List.getElem_cons_zero, List.setIfInBounds_toArray, List.set_cons_zero, List.set_cons_succ]
      refine wpAnyH_take (i := 6) (oi := _) (v := ?_) rfl (by kernel_rfl) (by kernel_rfl) (by kernel_rfl) (fun _ _ _ h => h) (Or.inl ⟨by rfl, ?_⟩) (by assumption) ?_
      rotate_left
      · intro w hSw; clear hSw; first | (go_simp; done) | (go_simp; with_reducible rfl)
      simp only [Act.put, List.getElem_toArray, List.getElem_cons_succ, List.getElem_cons_zero, List.setIfInBounds_toArray, List.set_cons_zero, List.set_cons_succ]
      refine wpAnyH_take (i := 7) (oi := _) (v := _) rfl ?g1_2 ?g2_2 ?g3_2 (fun _ _ _ h => h) (yieldsIf_load_mid ?g4_2 _ _ rfl gb ?oo_2 ?g5_2 [.string s, .slice A2 ns.length c2] _ ?g6_2 Tryz.underlying53 rfl (by kernel_rfl)) ?g7_2 ?_
      case g5_2 => rfl
      case g1_2 => kernel_rfl
      case g2_2 => kernel_rfl
      case g3_2 => kernel_rfl
      case g6_2 => exact (fun _ h => h.2.1)
      case g4_2 => kernel_rfl
      case g7_2 => assumption
      simp only [Act.put, List.getElem_toArray, List.getElem_cons_succ, List.getElem_cons_zero, List.setIfInBounds_toArray, List.set_cons_zero, List.set_cons_succ]
      refine wpAnyH_ready (rs := [8]) (by kernel_rfl) (by simp) ?_
      refine AllReadyH.cons (o := _) rfl (fun K hK => ?_) AllReadyH.nil
      (try dsimp only at hHeld)
      go_simp
      refine (KE.out _ hHeld.2.2).mono ?_
      rintro e wn ⟨rfl, hbn⟩
      go_wp2_with fail
      refine hK.out _ _ ⟨rangeAt_below hHeld.1 hbn, rangeAt_below hHeld.2.1 hbn, Below_then hHeld.2.2 hbn⟩ (fun hHeld => ?_)
      clear hK K hbn
      try simp only [Act.put, List.getElem_toArray, List.getElem_cons_succ, List.getElem_cons_zero, List.setIfInBounds_toArray, List.set_cons_zero, List.set_cons_succ]
      refine wpAnyH_take (i := 9) (oi := _) (v := ?_) rfl (by kernel_rfl) (by kernel_rfl) (by kernel_rfl) (fun _ _ _ h => h) (Or.inl ⟨by rfl, ?_⟩) (by assumption) ?_
      rotate_left
      · intro w hSw; clear hSw; first | (go_simp; done) | (go_simp; with_reducible rfl)
      simp only [Act.put, List.getElem_toArray, List.getElem_cons_succ, List.getElem_cons_zero, List.setIfInBounds_toArray, List.set_cons_zero, List.set_cons_succ]
      (try dsimp only at hHeld)
      have hb3 := hHeld.2.2
      refine wpAnyH_done (by kernel_rfl) ?_ _
      refine NoPanic.normal ?_
      go_wp2_with fail
      go_roundw
      case rel => exact ⟨k + 1, by omega, by go_num, Below_then hb hb3⟩
      case measure => simp [intOf]; omega
    · obtain rfl : k = ls.length := by omega
      have d1 : decide (ls.length < ls.length) = false := by simp
      go_wp2
      go_ret
      exact ⟨rfl, hb⟩
def MarkIL (w : World) (B : Nat) (v : Value) (k0 : Int) (ls : List IL) (us : List Value) (e : Ending) (w' : World) : Prop :=
  e = .returned (.int .i64 (k0 + (totI ls ls.length : Nat))) ∧ GI w' B v (mkI k0 ls) us ∧ Below B w w'
set_option maxHeartbeats 4000000 in
theorem markIL (B : Nat) (v : Value) (ls : List IL) (us : List Value) (k0 : Int) (w : World) (h : GI w B v ls us) (hs : SmallI ls) (hk0 : 1 ≤ k0) (hk1 : k0 ≤ 1048576) (hB : B ≤ w.heap.size) :
    Calls Tryz.prog 11 #[v, .int .i64 k0] w (MarkIL w B v k0 ls us) := by
  have hl := hs.len
  have HTOT := Lib.hid (fun k hk => hs.tot k hk)
  obtain ⟨A0, cc0, hvf⟩ := h.form
  subst hvf
  have hst : GI w B (.slice A0 ls.length cc0) (partI k0 ls 0) us := by rw [partI_zero]; exact h
  clear h
  go_enter Tryz.func11, Tryz.ntmps11
  go_wp2_with fail
  go_loopw [1, 5] (fun kk i wr => ∃ k : Nat, k ≤ ls.length ∧ i = .int .i64 k ∧ kk = .int .i64 (k0 + (totI ls k : Nat)) ∧ GI wr B (.slice A0 ls.length cc0) (partI k0 ls k) us ∧ Below B w wr) (fun _ i _ => ls.length - (intOf i).toNat)
  case atStart => exact ⟨0, Nat.zero_le _, rfl, by simp [totI_zero], hst, Below.refl _ _⟩
  case round =>
    clear hst
    obtain ⟨k, hk, rfl, rfl, hgg, hT⟩ := hrel
    have ht := HTOT.out k hk
    have hkm : k * 1048577 ≤ 1048577000 := by omega
    by_cases hlt : k < ls.length
    · obtain ⟨s, ns, hlk⟩ := il_at hlt
      have hn : ns.length ≤ 1048576 := hs.at_ hlk
      have hpl := partI_len k0 ls k hk
      obtain ⟨g, c, A, c', e1, x1, x2, xf, xu, xo⟩ := hgg.at_ (partI_here (k0 := k0) hlk)
      rw [hpl] at e1
      injection e1 with e1 _ e2
      subst e1 e2
      have hgB := (hgg.outer g rfl).1
      have HSTEP := Lib.hid (totI_step hlk)
      have HPS := Lib.hid (fun x hx => partI_step (k0 := k0) hlk x hx)
      have HLK := Lib.hid hlk
      have HXU := Lib.hid xu
      obtain ⟨p, hp⟩ : ∃ p, p = totI ls k := ⟨_, rfl⟩
      rw [← hp] at ht HSTEP HPS ⊢
      have hset : ∀ (w2 : World) (t : ByteArray), Below wr.heap.size wr w2 → GI (w2.setCell ⟨g, k * 2, none⟩ (.string t)) B (.slice (some ⟨g, 0, none⟩) ls.length cc0) ((partI k0 ls k).set k (t, ns)) us := fun w2 t hb => by
        have h3 := (hgg.below hb)
        rw [← hpl] at h3 ⊢
        exact h3.setS (partI_here (k0 := k0) hlk) t
      have hcs : ∀ w2, Below wr.heap.size wr w2 → w2.cell? ⟨g, k * 2, none⟩ = some (.string s) ∧ w2.frozen? ⟨g, k * 2, none⟩ = false := fun w2 hb => by
        obtain ⟨g', c2, A2, c2', e1', x1', x2', xf', -, -⟩ := (hgg.below hb).at_ (partI_here (k0 := k0) hlk)
        injection e1' with e1' _ _
        injection e1' with e1'
        injection e1' with e1' _ _
        subst e1'
        exact ⟨x1', xf'⟩
      have hc1s : ∀ w2, Below wr.heap.size wr w2 → w2.cell? ⟨g, k * 2 + 1, none⟩ = some (.slice A ns.length c') := fun w2 hb => keep_cell x2 hb
      have i1 : (k : Int) < (ls.length : Int) := by omega
      have d1 : decide (k < ls.length) = true := by simpa using hlt
      have hb5 : 1 ≤ k0 + (p : Int) ∧ k0 + (p : Int) ≤ 1099511627776 := by omega
      clear hgg x1 x2 xf xu xo hp hpl hlk
      go_wp2_with fail
      refine (markTextX (k0 + (p : Int)) _ hb5.1 hb5.2).mono ?_
      rintro e w2 ⟨rfl, hb2⟩
      obtain ⟨hc0, hf0⟩ := hcs _ hb2
      have hc1 := hc1s _ hb2
      have hG2 := hset w2 (mtX (k0 + (p : Int))) hb2
      have hT2 : Below B w (w2.setCell ⟨g, k * 2, none⟩ (.string (mtX (k0 + (p : Int))))) := (hT.trans (hb2.mono (by have := hT.size; omega))).grown (grownBy_set (World.grownBy.refl w2 (some g)) _ _) (by have := hT.size; have := hb2.size; omega) (fun b e => by injection e with e; omega)
      clear hcs hc1s hset hb2 hT
      go_upto_region 5 with fail
      obtain ⟨w3, hw3⟩ : ∃ w3, w3 = w2.setCell ⟨g, k * 2, none⟩ (.string (mtX (k0 + (p : Int)))) := ⟨_, rfl⟩
      rw [← hw3] at hG2 hT2 ⊢
      have hk3 : ((partI k0 ls k).set k (mtX (k0 + (p : Int)), ns))[k]? = some (mtX (k0 + (p : Int)), ns) := by
        rw [List.getElem?_set, if_pos rfl, if_pos (by rw [partI_len k0 ls k hk]; exact hlt)]
      obtain ⟨g3, c3, A3, c3', e3, x3, y3, -, u3, o3⟩ := hG2.at_ hk3
      injection e3 with e31 e3n e32
      clear e3n
      injection e31 with e31
      injection e31 with e31 _ _
      subst e31 e32
      have K3 := Lib.hid (markIntS_wide B _ ns (k0 + (p : Int) + 1) w3 o3 (by omega) (by omega) (by omega))
      have HG3 := Lib.hid (fun (w4 : World) (ho : OwnI w4 B 3 (.slice A3 ns.length c3') (marks (k0 + (p : Int) + 1) ns.length)) (hg : w3.grownBy w4 (Value.slice A3 ns.length c3').ownBlock) => GI.setN hG2 hk3 u3 ho hg)
      have hbw : B ≤ w3.heap.size := by have := hT2.size; omega
      have hub : ∀ b, (Value.slice A3 ns.length c3').ownBlock = some b → B ≤ b := fun b hb => (o3.lt b hb).1
      have HUB := Lib.hid hub
      clear hc0 hf0 hc1 hw3 hG2 o3 hk3 u3 hub x3
      go_wp2_with fail
      refine (K3.out).mono ?_
      rintro e w4 ⟨rfl, ho4, hg4⟩
      have hG4 := HG3.out _ ho4 hg4
      rw [List.set_set, HPS.out _ rfl] at hG4
      have hT4 : Below B w w4 := hT2.grown hg4 hbw HUB.out
      clear ho4 hg4 y3
      go_wp2
      go_roundw
      case rel => exact ⟨k + 1, by omega, by go_num, by rw [HSTEP.out]; go_num, hG4, hT4⟩
      case measure => simp [intOf]; omega
    · obtain rfl : k = ls.length := by omega
      have d1 : decide (ls.length < ls.length) = false := by simp
      rw [partI_all] at hgg
      go_wp2
      go_ret
      exact ⟨rfl, hgg, hT⟩
set_option maxHeartbeats 4000000 in
theorem heldIL (B : Nat) (v : Value) (ls : List IL) (us : List Value) (k0 : Int) (w : World) (h : GI w B v (mkI k0 ls) us) (hs : SmallI ls) (hk0 : 1 ≤ k0) (hk1 : k0 ≤ 1048576) :
    Calls Tryz.prog 12 #[v, .int .i64 k0] w fun e w' => e = .returned (.int .i64 (k0 + (totI ls ls.length : Nat))) ∧ Below w.heap.size w w' := by
  have hl := hs.len
  have HTOT := Lib.hid (fun k hk => hs.tot k hk)
  obtain ⟨A0, cc0, hvf⟩ := h.form
  rw [mkI_len] at hvf
  subst hvf
  have HH := Lib.hid h
  clear h
  go_enter Tryz.func12, Tryz.ntmps12
  go_wp2_with fail
  go_loopw [1, 5] (fun kk i wr => ∃ k : Nat, k ≤ ls.length ∧ i = .int .i64 k ∧ kk = .int .i64 (k0 + (totI ls k : Nat)) ∧ Below w.heap.size w wr) (fun _ i _ => ls.length - (intOf i).toNat)
  case atStart => exact ⟨0, Nat.zero_le _, rfl, by simp [totI_zero], Below.refl _ _⟩
  case round =>
    obtain ⟨k, hk, rfl, rfl, hb⟩ := hrel
    have ht := HTOT.out k hk
    have hkm : k * 1048577 ≤ 1048577000 := by omega
    by_cases hlt : k < ls.length
    · obtain ⟨s, ns, hlk⟩ := il_at hlt
      have hn : ns.length ≤ 1048576 := hs.at_ hlk
      obtain ⟨g, c, A, c', e1, hc0, x2, -, -, xo⟩ := (HH.out.below hb).at_ (mkI_at ls k0 k _ hlk)
      rw [mkI_len] at e1
      injection e1 with e1 _ e2
      subst e1 e2
      have HSTEP := Lib.hid (totI_step hlk)
      obtain ⟨p, hp⟩ : ∃ p, p = totI ls k := ⟨_, rfl⟩
      rw [← hp] at ht HSTEP hc0 x2 xo ⊢
      rw [marks_len] at x2 xo
      have hself := eqS_self (mtX (k0 + (p : Int)))
      have KN := Lib.hid (fun w' (hb' : Below wr.heap.size wr w') => by
        have := heldIntS_any A c' (marks (k0 + (p : Int) + 1) ns.length) (k0 + (p : Int) + 1) w' (xo.below hb').rdx (by rw [marks_len]; omega) (by omega) (by omega)
        rw [heldR_marks, marks_len] at this
        exact this)
      have i1 : (k : Int) < (ls.length : Int) := by omega
      have d1 : decide (k < ls.length) = true := by simpa using hlt
      have hng : ¬ (k0 + (p : Int) + 1 + (ns.length : Int) < 0) := by omega
      have HX2 := Lib.hid (fun w' (hb' : Below wr.heap.size wr w') => keep_cell x2 hb')
      clear hp hlk xo x2
      go_wp2_with fail
      refine wp_region_noPanic ?_
      refine wp_region_held_drew (S := (fun w' => w'.cell? ⟨g, k * 2, none⟩ = some (.string (mtX (k0 + (p : Nat)))) ∧ Below wr.heap.size wr w')) (by kernel_rfl) ⟨hc0, (Below.refl _ _).drew⟩ (fun hHeld => ?_)
      refine wpAnyH_take (i := 0) (oi := _) (v := ?_) rfl (by kernel_rfl) (by kernel_rfl) (by kernel_rfl) (fun _ _ _ h => h) (Or.inl ⟨by rfl, ?_⟩) (by assumption) ?_
      rotate_left
      · intro w hSw; clear hSw; first | (go_simp; done) | (go_simp; with_reducible rfl)
      simp only [Act.put, List.getElem_toArray, List.getElem_cons_succ, List.getElem_cons_zero, List.setIfInBounds_toArray, List.set_cons_zero, List.set_cons_succ]
      refine wpAnyH_take (i := 1) (oi := _) (v := ?_) rfl (by kernel_rfl) (by kernel_rfl) (by kernel_rfl) (fun _ _ _ h => h) (Or.inl ⟨by rfl, ?_⟩) (by assumption) ?_
      rotate_left
      · intro w hSw; clear hSw; first | (go_simp; done) | (go_simp; with_reducible rfl)
      simp only [Act.put, List.getElem_toArray, List.getElem_cons_succ, List.getElem_cons_zero, List.setIfInBounds_toArray, List.set_cons_zero, List.set_cons_succ]
      refine wpAnyH_take (i := 2) (oi := _) (v := ?_) rfl (by kernel_rfl) (by kernel_rfl) (by kernel_rfl) (fun _ _ _ h => h) (Or.inl ⟨by rfl, ?_⟩) (by assumption) ?_
      rotate_left
      · intro w hSw; clear hSw; first | (go_simp; done) | (go_simp; with_reducible rfl)
      simp only [Act.put, List.getElem_toArray, List.getElem_cons_succ, List.getElem_cons_zero, List.setIfInBounds_toArray, List.set_cons_zero, List.set_cons_succ]
      refine wpAnyH_take (i := 3) (oi := _) (v := ?_) rfl (by kernel_rfl) (by kernel_rfl) (by kernel_rfl) (fun _ _ _ h => h) (Or.inl ⟨by rfl, ?_⟩) (by assumption) ?_
      rotate_left
      · intro w hSw; clear hSw; first | (go_simp; done) | (go_simp; with_reducible rfl)
      simp only [Act.put, List.getElem_toArray, List.getElem_cons_succ, List.getElem_cons_zero, List.setIfInBounds_toArray, List.set_cons_zero, List.set_cons_succ]
      refine wpAnyH_take (i := 4) (oi := _) (v := ?_) rfl (by kernel_rfl) (by kernel_rfl) (by kernel_rfl) (fun _ _ _ h => h) (Or.inl ⟨by rfl, ?_⟩) (by assumption) ?_
      rotate_left
      · intro w9 hSw; (try dsimp only at hSw); have hq9 := hSw.1; clear hSw; first | (go_simp; done) | (go_simp; with_reducible rfl)
      simp only [Act.put, List.getElem_toArray, List.getElem_cons_succ, List.getElem_cons_zero, List.setIfInBounds_toArray, List.set_cons_zero, List.set_cons_succ]
      refine wpAnyH_take (i := 5) (oi := _) (v := ?_) rfl (by kernel_rfl) (by kernel_rfl) (by kernel_rfl) (fun _ _ _ h => h) (Or.inl ⟨by rfl, ?_⟩) (by assumption) ?_
      rotate_left
      · intro w hSw; clear hSw; first | (go_simp; done) | (go_simp; with_reducible rfl)
      simp only [Act.put, List.getElem_toArray, List.getElem_cons_succ, List.getElem_cons_zero, List.setIfInBounds_toArray, List.set_cons_zero, List.set_cons_succ]
      refine wpAnyH_ready (rs := [6]) (by kernel_rfl) (by simp) ?_
      refine AllReadyH.cons (o := _) rfl (fun K hK => ?_) AllReadyH.nil
      (try dsimp only at hHeld)
      go_simp
      refine (markTextX _ _ (by omega) (by omega)).mono ?_
      rintro e wn ⟨rfl, hbn⟩
      go_wp2_with fail
      refine hK.out _ _ ⟨keep_cell hHeld.1 hbn, Below_then hHeld.2 hbn⟩ (fun hHeld => ?_)
      clear hK K hbn
      try simp only [Act.put, List.getElem_toArray, List.getElem_cons_succ, List.getElem_cons_zero, List.setIfInBounds_toArray, List.set_cons_zero, List.set_cons_succ]
      refine wpAnyH_take (i := 7) (oi := _) (v := ?_) rfl (by kernel_rfl) (by kernel_rfl) (by kernel_rfl) (fun _ _ _ h => h) (Or.inl ⟨by rfl, ?_⟩) (by assumption) ?_
      rotate_left
      · intro w hSw; clear hSw; first | (go_simp; done) | (go_simp; with_reducible rfl)
      simp only [Act.put, List.getElem_toArray, List.getElem_cons_succ, List.getElem_cons_zero, List.setIfInBounds_toArray, List.set_cons_zero, List.set_cons_succ]
      (try dsimp only at hHeld)
      have hb3 := hHeld.2
      refine wpAnyH_done (by kernel_rfl) ?_ _
      refine NoPanic.normal ?_
      have hc1 := HX2.out _ hb3
      go_wp2_with fail
      refine (KN.out _ hb3).mono ?_
      rintro e w4 ⟨rfl, hb4⟩
      have hT4 := Below_then hb (Below_then hb3 hb4)
      clear hb4 hb3 hc1
      go_wp2
      go_roundw
      case rel => exact ⟨k + 1, by omega, by go_num, by rw [HSTEP.out]; go_num, hT4⟩
      case measure => simp [intOf]; omega
    · obtain rfl : k = ls.length := by omega
      have d1 : decide (ls.length < ls.length) = false := by simp
      go_wp2
      go_ret
      exact ⟨rfl, hb⟩
end Go.Proofs.YtlonnkmfjijddaaGreatDoor
/-! ### IdxI -/
namespace Go.Proofs.YtlonnkmfjijddaaGreatDoor
open Go.ChangeShapes Go.WideShapes Go.ChangeAt Go.RowKit
set_option linter.unusedVariables false
set_option linter.unusedSimpArgs false
/-- The lines of a register's index. -/
def lineR (rows : List GrantD) (s : ByteArray) : IL := (s, nums rows (hasF s))
def idxR (rows : List GrantD) : List IL := (allR rows).map (lineR rows)
def idxG (rows : List GrantD) : List IL := bif regOk rows then idxR rows else []
def ixP (F : List ByteArray) (rows : List GrantD) (k : Nat) : List IL := ((F.take k).filter fun s => decide (0 < (nums rows (hasF s)).length)).map (lineR rows)
theorem ixP_yes {F : List ByteArray} {rows : List GrantD} {k : Nat} {s : ByteArray} (h : F[k]? = some s) (hn : 0 < (nums rows (hasF s)).length) : ixP F rows (k + 1) = ixP F rows k ++ [(s, nums rows (hasF s))] := by
  unfold ixP
  rw [List.take_add_one, h, List.filter_append, List.map_append]
  simp [hn, lineR]
theorem ixP_no {F : List ByteArray} {rows : List GrantD} {k : Nat} {s : ByteArray} (h : F[k]? = some s) (hn : ¬ 0 < (nums rows (hasF s)).length) : ixP F rows (k + 1) = ixP F rows k := by
  unfold ixP
  rw [List.take_add_one, h, List.filter_append, List.map_append]
  have : (nums rows (hasF s)).length = 0 := by omega
  simp [this]
theorem ixP_len (F : List ByteArray) (rows : List GrantD) (k : Nat) : (ixP F rows k).length ≤ F.length := by
  unfold ixP
  rw [List.length_map]
  exact Nat.le_trans (List.length_filter_le _ _) (by rw [List.length_take]; omega)
theorem regOk_in {rows : List GrantD} (h : regOk rows = true) {g : GrantD} (hg : g ∈ rows) : armsOk g.a = true := by
  obtain ⟨i, hi⟩ := List.getElem?_of_mem hg
  exact regOk_arms h hi
theorem ixP_all {rows : List GrantD} (h : regOk rows = true) : ixP FEATS rows FEATS.length = idxR rows := by
  unfold ixP idxR
  rw [List.take_length, ← all_same fun g hg => regOk_in h hg]
  rfl
theorem feats_few : FEATS.length ≤ 1000 := by decide
theorem idx_small (rows : List GrantD) (hl : rows.length ≤ 1048576) : SmallI (idxG rows) := by
  unfold idxG
  cases q : regOk rows
  · exact ⟨by simp, fun r hr => by simp at hr⟩
  · refine ⟨?_, fun r hr => ?_⟩
    · show (idxR rows).length ≤ _
      rw [← ixP_all q]
      exact Nat.le_trans (ixP_len _ _ _) feats_few
    · obtain ⟨s, -, rfl⟩ := List.mem_map.1 (show r ∈ (allR rows).map (lineR rows) from hr)
      exact Nat.le_trans (nums_len rows _) hl
theorem ob_ltI {x y : Value} {D : Nat} (hx : ∀ b, x.ownBlock = some b → b < D) (hy : ∀ b, y.ownBlock = some b → D ≤ b) : x.ownBlock = none ∨ x.ownBlock ≠ y.ownBlock := by
  cases e : x.ownBlock with
  | none => exact .inl rfl
  | some b =>
    refine .inr fun e2 => ?_
    have := hx b e
    have := hy b e2.symm
    omega
theorem ob_gtI {x y : Value} {D : Nat} (hx : ∀ b, x.ownBlock = some b → D ≤ b) (hy : ∀ b, y.ownBlock = some b → b < D) : x.ownBlock = none ∨ x.ownBlock ≠ y.ownBlock := by
  cases e : x.ownBlock with
  | none => exact .inl rfl
  | some b =>
    refine .inr fun e2 => ?_
    have := hx b e
    have := hy b e2.symm
    omega
theorem cf_build (args : Array Value) (w : World) : (callFunc 22 args).run Tryz.prog w = .ok (.enter 22 args) w := by kernel_rfl
section
variable {ops : Array Oper} {rest : List Oper} {op : Oper} {a : Act} {w : World} {Q : Exit → Act → World → Prop}
theorem ldAr (hgd : op.guard = none) (x : Operand) (ho : op.op = .load 47 x) (b o : Nat) (hx : a.eval x = .pointer (some ⟨b, o, none⟩)) (ad : ArmsD) (hc : w.rangeAt b o (ac ad))
    (h : wpList Tryz.prog ops Q rest (a.put op.dst (.agg (ac ad).toArray)) w) : wpList Tryz.prog ops Q (op :: rest) a w :=
  wpList_load_mid hgd _ x ho b o hx (ac ad) _ hc Tryz.underlying47 rfl (info_ac ad) h
end
set_option maxHeartbeats 2000000 in
theorem build_cl (g : GrantD) (B : Nat) (s : ByteArray) (w : World) (gg : armsOk g.a = true) (hB : w.cell? ⟨B, 0, none⟩ = some (.string s)) :
    Calls Tryz.prog 22 #[.agg (gc g).toArray, .pointer (some ⟨B, 0, none⟩)] w fun e w' => e = .returned (.bool (hasF s g)) ∧ Below w.heap.size w w' := by
  have KC := Lib.hid (fun w' (A : Option Addr) (h : RdS w' A [s]) => shared_any g.a gg A 1 [s] w' h (by simp))
  have hA := (gblk_cells (heap_hit w (.cells (gc g).toArray 49) _ rfl)).2.2.2
  have cB := keep_cell hB (Below_al (Below.refl w.heap.size w) (.cells (gc g).toArray 49))
  have hW : Below w.heap.size w (w.alloc (.cells (gc g).toArray 49)) := Below_al (Below.refl _ _) _
  obtain ⟨n, hn⟩ : ∃ n, n = cnt g.a [s] := ⟨_, rfl⟩
  have hq0 : hasF s g = decide (n = 1) := by rw [hn]; exact (congrFun (hasF_cnt s) g).symm
  rw [← hn] at KC
  rw [hq0]
  clear hn gg hq0
  by_cases he : n = 1
  all_goals
    have hq : (n == 1) = decide (n = 1) := rfl
    go_enter Tryz.func22, Tryz.ntmps22
    go_wp2_with (first | (refine ldAr rfl _ rfl w.heap.size 3 rfl g.a hA ?_) | fail)
    refine (KC.out _ _ (RdS.one (cell_of (heap_hit _ _ _ (by simp)) 0))).mono ?_
    rintro e x2 ⟨rfl, hx2⟩
    have hb := Below_then (Below_al hW _) hx2
    clear hx2
    go_wp2
    go_ret
    exact ⟨by first | rfl | simp [he], hb⟩
set_option maxHeartbeats 4000000 in
set_option maxRecDepth 20000 in
theorem implBuildIndex_yes (A : Option Addr) (c : Nat) (rows : List GrantD) (w : World) (hr : RdR 18 w A (gcs rows)) (hl : rows.length ≤ 1048576) (hs : ∀ g ∈ rows, g.s.size ≤ maxLen) (hcap : rows.length ≤ c) (hcm : c ≤ maxLen) (q : regOk rows = true) :
    Calls Tryz.prog 7 #[.agg #[.slice A rows.length c]] w (IdxOk w (idxR rows) true) := by
  have KV := Lib.hid (fun (w' : World) (hb : Below w.heap.size w w') => IsValidRegister_any A c rows w' (hr.below hb) hl hs hcap hcm)
  rw [q] at KV
  obtain ⟨F, hF⟩ : ∃ F, F = FEATS := ⟨_, rfl⟩
  have KA := Lib.hid (fun w => allFeatures_any w)
  rw [← hF] at KA
  have hall := ixP_all q
  rw [← hF] at hall
  have HALL := Lib.hid hall
  have hFl : F.length ≤ 1000 := by rw [hF]; exact feats_few
  have hFp : 0 < F.length := by rw [hF]; decide
  have HQ := Lib.hid q
  have HH := Lib.hid hr
  obtain ⟨T0, hT0⟩ : ∃ T0, T0 = w.alloc (.cells #[.slice A rows.length c] 31) := ⟨_, rfl⟩
  have hs0 : T0.heap.size = w.heap.size + 1 := by rw [hT0]; simp
  have HR := Lib.hid (show ∀ w', Below T0.heap.size T0 w' → w'.cell? ⟨w.heap.size, 0, none⟩ = some (.slice A rows.length c : Value) from fun w' hb => cell_of (heap_keepB (heap_hit w (.cells #[.slice A rows.length c] 31) _ rfl) (hT0 ▸ hb)) 0)
  have HTw := Lib.hid (show Below w.heap.size w T0 from by rw [hT0]; exact Below_al (Below.refl _ _) _)
  have HT0 := Lib.hid hT0
  clear hF hall hs q hr hT0
  go_enter Tryz.func7, Tryz.ntmps7
  go_wp2_with fail
  refine (KV.out _ (by (repeat (first | exact Below.refl _ _ | assumption | refine Below_al ?_ _ | refine Below.drew ?_ | refine Below_then ?_ (by assumption) | refine Below.setCell ?_ (by first | omega | (simp; done) | (simp; omega)) _)))).mono ?_
  rintro e w1 ⟨rfl, hb1⟩
  have hT1 : Below T0.heap.size T0 w1 := by rw [HT0.out]; exact hb1
  have hs1 := hT1.size
  have hG1 : GI (w1.alloc (.cells #[] 53)) T0.heap.size (.slice (some ⟨w1.heap.size, 0, none⟩) 0 0) [] [] := GI.none0 w1 _ _ rfl hs1
  have hT2 := Below_al hT1 (.cells #[] 53)
  clear hb1 hT1
  go_wp2_with fail
  refine (KA.out _).mono ?_
  rintro e w2 ⟨uf, rfl, hF2, hb2⟩
  obtain ⟨gf, cf, rfl, hgf, hgf2⟩ := hF2.pos hFp
  have hG2 := hG1.below hb2
  have hT3 := Below_then hT2 hb2
  have hgf1 : gf ≠ w1.heap.size := fun e => by rw [e] at hgf; simp at hgf; omega
  have hap0 : (Value.slice (some ⟨w1.heap.size, 0, none⟩) 0 0).ownBlock ≠ some gf := fun e => by simp [Value.ownBlock] at e; exact hgf1 e.symm
  have hgf0 : T0.heap.size ≤ gf := by have := hT2.size; omega
  have hF3 := OwnS.base hF2 hT2.size
  clear hb2 hG1 hT2 hgf1 hF2 hgf hgf2
  go_wp2_with fail
  go_loopw [4, 14] (fun o i wr => ∃ (k : Nat) (v : Value) (us : List Value), k ≤ F.length ∧ i = .int .i64 k ∧ o = v ∧ GI wr T0.heap.size v (ixP F rows k) us ∧ OwnS wr T0.heap.size 9 (.slice (some ⟨gf, 0, none⟩) F.length cf) F ∧ v.ownBlock ≠ some gf ∧ Below T0.heap.size T0 wr) (fun _ i _ => F.length - (intOf i).toNat)
  case atStart => exact ⟨0, _, [], Nat.zero_le _, rfl, rfl, hG2, hF3, hap0, hT3⟩
  case round =>
    clear hG2 hF3 hap0 hT3
    obtain ⟨k, v, us, hk, rfl, hov, hG, hO, hap, hT⟩ := hrel
    replace hov := hov.symm
    subst hov
    by_cases hlt : k < F.length
    · have i1 : (k : Int) < (F.length : Int) := by omega
      have d1 : decide (k < F.length) = true := by simpa using hlt
      obtain ⟨s, hsk⟩ : ∃ s, F[k]? = some s := ⟨_, List.getElem?_eq_getElem hlt⟩
      have hck : wr.cell? ⟨gf, k, none⟩ = some (.string s) := by
        have := hO.cellAt k hlt
        rw [List.getElem?_eq_getElem hlt] at hsk
        injection hsk with hsk
        rw [← hsk]
        exact this
      have HSK := Lib.hid hsk
      have cR := HR.out _ hT
      clear hsk
      go_upto_region 7 with fail
      have hB6 : (wr.alloc (.cells #[.string s] 9)).cell? ⟨wr.heap.size, 0, none⟩ = some (.string s) := cell_of (heap_hit _ _ _ rfl) 0
      have hT6 := Below_al hT (.cells #[.string s] 9)
      have hG6 := hG.below (Below_al (Below.refl _ _) (.cells #[.string s] 9))
      have hO6 := hO.below (Below_al (Below.refl _ _) (.cells #[.string s] 9))
      have hvb : ∀ b, v.ownBlock = some b → b < wr.heap.size := fun b hb => (hG.outer b hb).2
      have hub : ∀ (i : Nat) (u : Value), us[i]? = some u → ∀ b, u.ownBlock = some b → b < wr.heap.size := fun i u hu b hb => (hG.hi i u hu b hb).2
      have HVB := Lib.hid hvb
      have HUB := Lib.hid hub
      have hgl := (hO.lt gf rfl).2
      have hsT := hT.size
      obtain ⟨W6, hW6⟩ : ∃ W6, W6 = wr.alloc (.cells #[.string s] 9) := ⟨_, rfl⟩
      have hs6 : W6.heap.size = wr.heap.size + 1 := by rw [hW6]; simp
      rw [show wr.alloc (Obj.cells #[Value.string s] 9) = W6 from hW6.symm] at hB6 hT6 hG6 hO6 ⊢
      have cR6 := HR.out _ hT6
      have KN := numbers_any 22 #[.pointer (some ⟨wr.heap.size, 0, none⟩)] A c rows (hasF s) W6 (HH.out.below (Below_then HTw.out hT6)) hl cf_build (fun g w' hg hb => build_cl g wr.heap.size s w' (regOk_in HQ.out hg) (keep_cell hB6 hb))
      have HY := Lib.hid (fun hn => ixP_yes (rows := rows) HSK.out hn)
      have HN := Lib.hid (fun hn => ixP_no (rows := rows) HSK.out hn)
      have hnl := nums_len rows (hasF s)
      obtain ⟨N, hNd⟩ : ∃ N, N = nums rows (hasF s) := ⟨_, rfl⟩
      rw [← hNd] at KN HY HN hnl
      have KN' := Lib.hid KN
      clear KN hNd hW6 hT hG hO hvb hub hck cR
      go_wp2_with fail
      refine (KN'.out).mono ?_
      rintro e w3 ⟨u, rfl, hU, hb3⟩
      have hB7 := keep_cell hB6 hb3
      have hT7 := Below_then hT6 hb3
      have hG7 := hG6.below hb3
      have hO7 := hO6.below hb3
      have hs7 := hb3.size
      clear hb3 hB6 hT6 hG6 hO6 cR6
      by_cases hn : 0 < N.length
      · obtain ⟨gu, cu, rfl, hgu, hgu2⟩ := hU.pos hn
        have i2 : (0 : Int) < (N.length : Int) := by omega
        have d2 : decide (0 < N.length) = true := by simpa using hn
        have hgub : ∀ b, (Value.slice (some ⟨gu, 0, none⟩) N.length cu).ownBlock = some b → wr.heap.size ≤ b := fun b hb => by have := (hU.lt b hb).1; omega
        have Q1 := Lib.hid (fun (i : Nat) (u' : Value) (hu' : us[i]? = some u') => (ob_ltI (HUB.out i u' hu') hgub : u'.ownBlock = none ∨ u'.ownBlock ≠ (Value.slice (some ⟨gu, 0, none⟩) N.length cu).ownBlock))
        have Q2 := Lib.hid (ob_gtI hgub HVB.out : (Value.slice (some ⟨gu, 0, none⟩) N.length cu).ownBlock = none ∨ (Value.slice (some ⟨gu, 0, none⟩) N.length cu).ownBlock ≠ v.ownBlock)
        have hxl : (ixP F rows k).length ≤ 1048576 := by have := ixP_len F rows k; omega
        have hNl : N.length ≤ 1048576 := by omega
        have hap7 := hap
        clear hap hgub
        go_wp2_with (first | (at_builtin; refine wp_appLAt rfl _ _ rfl T0.heap.size v (ixP F rows k) us rfl (hG7.below (Below_al (Below.refl _ _) _)) _ s _ N rfl (cell_of (heap_hit _ _ _ rfl) 0) (cell_of (heap_hit _ _ _ rfl) 1) (OwnI.base (hU.alloc _) ?c0) Q1.out Q2.out hxl ?c4 ?_; rotate_left 2; intro v' w9 hG9 hR9 hL9 hA9) | fail)
        try (case c0 => omega)
        try (case c4 => (simp; omega))
        have hT9 := (Below_al hT7 _).trans hL9
        have hO9 := (hO7.below (Below_al (Below.refl _ _) (.cells #[.string s, .slice (some ⟨gu, 0, none⟩) N.length cu] 53))).other hR9 (.inr fun e => hap7 e.symm)
        have hap9 : v'.ownBlock ≠ some gf := by
          rcases hA9 with e | e
          · rw [e]; exact hap7
          · rw [e]
            intro e2
            injection e2 with e2
            simp at e2
            omega
        clear hR9 hL9 hA9 hG7 hU hO7 hT7 hB7
        go_wp2_with fail
        go_roundw
        case rel => exact ⟨k + 1, v', _, by omega, by go_num, rfl, by rw [HY.out hn]; exact hG9, hO9, hap9, hT9⟩
        case measure => simp [intOf]; omega
      · have i2 : ¬ (0 : Int) < (N.length : Int) := by omega
        have d2 : decide (0 < N.length) = false := by simpa using hn
        obtain ⟨A3, c3, rfl, -⟩ := hU.form
        go_wp2_with fail
        go_roundw
        case rel => exact ⟨k + 1, v, us, by omega, by go_num, rfl, by rw [HN.out hn]; exact hG7, hO7, hap, hT7⟩
        case measure => simp [intOf]; omega
    · obtain rfl : k = F.length := by omega
      have d1 : decide (F.length < F.length) = false := by simp
      rw [HALL.out] at hG
      have hTw := Below_then HTw.out hT
      go_wp2
      go_ret2
      exact ⟨_, us, rfl, GI.base hG (by omega), hTw⟩
theorem implBuildIndex_any (A : Option Addr) (c : Nat) (rows : List GrantD) (w : World) (hr : RdR 18 w A (gcs rows)) (hl : rows.length ≤ 1048576) (hs : ∀ g ∈ rows, g.s.size ≤ maxLen) (hcap : rows.length ≤ c) (hcm : c ≤ maxLen) :
    Calls Tryz.prog 7 #[.agg #[.slice A rows.length c]] w (IdxOk w (idxG rows) (regOk rows)) := by
  unfold idxG
  cases q : regOk rows
  · have KV := Lib.hid (fun (w' : World) (hb : Below w.heap.size w w') => IsValidRegister_any A c rows w' (hr.below hb) hl hs hcap hcm)
    rw [q] at KV
    clear q hs hr
    go_enter Tryz.func7, Tryz.ntmps7
    go_wp2_with fail
    refine (KV.out _ (by (repeat (first | exact Below.refl _ _ | assumption | refine Below_al ?_ _ | refine Below.drew ?_ | refine Below_then ?_ (by assumption) | refine Below.setCell ?_ (by first | omega | (simp; done) | (simp; omega)) _)))).mono ?_
    rintro e w1 ⟨rfl, hb1⟩
    go_wp2
    go_ret2
    exact ⟨_, [], rfl, GI.nil _ _, by (repeat (first | exact Below.refl _ _ | assumption | refine Below_al ?_ _ | refine Below.drew ?_ | refine Below_then ?_ (by assumption) | refine Below.setCell ?_ (by first | omega | (simp; done) | (simp; omega)) _))⟩
  · exact implBuildIndex_yes A c rows w hr hl hs hcap hcm q
end Go.Proofs.YtlonnkmfjijddaaGreatDoor
/-! ### IdxS -/
namespace Go.Proofs.YtlonnkmfjijddaaGreatDoor
open Go.ChangeShapes Go.WideShapes Go.ChangeAt Go.RowKit
set_option linter.unusedVariables false
set_option linter.unusedSimpArgs false
def fl (rows : List GrantD) : List ByteArray := rows.flatMap fun g => featL g.a
theorem fl_len : ∀ rows : List GrantD, (fl rows).length ≤ rows.length * 100
  | [] => by simp [fl]
  | g :: rows => by
    have ih := fl_len rows
    have := featL_len g.a
    unfold fl at *
    rw [List.flatMap_cons, List.length_append, List.length_cons, Nat.succ_mul]
    omega
def allP (rows : List GrantD) (k : Nat) : List ByteArray := putAll (fl (rows.take k))
def allQ (rows : List GrantD) (k : Nat) (L : List ByteArray) (m : Nat) : List ByteArray := putAll (fl (rows.take k) ++ L.take m)
theorem allQ_zero (rows : List GrantD) (k : Nat) (L : List ByteArray) : allQ rows k L 0 = allP rows k := by simp [allQ, allP]
theorem allQ_step {rows : List GrantD} {k m : Nat} {L : List ByteArray} {x : ByteArray} (h : L[m]? = some x) : allQ rows k L (m + 1) = putS (allQ rows k L m) x := by
  unfold allQ
  rw [List.take_add_one, h]
  show putAll (_ ++ (_ ++ [x])) = _
  rw [← List.append_assoc, putAll_snoc]
theorem allQ_end {rows : List GrantD} {k : Nat} {g : GrantD} (h : rows[k]? = some g) : allQ rows k (featL g.a) (featL g.a).length = allP rows (k + 1) := by
  unfold allQ allP fl
  rw [List.take_length, List.take_add_one, h, List.flatMap_append]
  simp
theorem allQ_len {rows : List GrantD} {k m : Nat} {L : List ByteArray} (hr : rows.length ≤ 12) (hL : L.length ≤ 100) : (allQ rows k L m).length ≤ 1000000 := by
  unfold allQ
  have h1 := putAll_len (fl (rows.take k) ++ L.take m)
  have h2 := fl_len (rows.take k)
  rw [List.length_append, List.length_take] at h1
  rw [List.length_take] at h2
  have : min k rows.length ≤ 12 := by omega
  have : min k rows.length * 100 ≤ 1200 := by omega
  omega
theorem allP_end (rows : List GrantD) : allP rows rows.length = allR rows := by
  unfold allP allR fl
  rw [List.take_length]
theorem idxR_len {rows : List GrantD} (h : regOk rows = true) : (allR rows).length ≤ 1000 := by
  have h1 := ixP_len FEATS rows FEATS.length
  rw [ixP_all h] at h1
  unfold idxR at h1
  rw [List.length_map] at h1
  exact Nat.le_trans h1 feats_few
theorem step_appIA {ops : Array Oper} {o : Oper} {a : Act} {w : World} {K : Act → World → Prop} {Q : Exit → Act → World → Prop} {E : Prop} (hgd : o.guard = none) (s x : Operand) (ho : o.op = .call { callee := .builtin .append, args := #[s, x], argTypes := #[51, 51] })
    (B : Nat) (v : Value) (zs : List Int) (hs : a.eval s = v) (hown : OwnI w B 3 v zs) (b : Nat) (z : Int) (hx : a.eval x = .slice (some ⟨b, 0, none⟩) 1 1) (hc : w.cell? ⟨b, 0, none⟩ = some (.int .i64 z))
    (hl : zs.length ≤ 1099511627776) (hB : B ≤ w.heap.size)
    (h : ∀ v' w', OwnI w' B 3 v' (zs ++ [z]) → w.grownBy w' v.ownBlock → Below B w w' → (v'.ownBlock = v.ownBlock ∨ v'.ownBlock = some w.heap.size) → K (a.put o.dst v') w') :
    if Region.wanted o (yielded ops a.tmps) = true then Oper.wp Tryz.prog o a w K Q else E := by
  have hw : Region.wanted o (yielded ops a.tmps) = true := by simp [Region.wanted, hgd]
  rw [if_pos hw]
  obtain ⟨i0, hi, hz0, hz1, hz2⟩ := info_parts info_int
  obtain ⟨v', w', hr, h1, h2, hn, h3⟩ := run_append_own_at (P := Tryz.prog) w B 51 o.type 3 i0 (.int .i64 0) 1 8 Tryz.underlying51 hi hz0 hz1 hz2 rfl (by decide) v zs.length (iv zs) hown ⟨b, 0, none⟩ 1 1 [.int .i64 z] rfl (by
    intro j u hj
    match j, hj with
    | 0, hj => simp at hj; subst hj; simpa [Addr.add] using hc
    | j + 1, hj => simp at hj) (fun u hu => by simp at hu; subst hu; rfl) (by unfold maxLen; omega) (by omega) hB
  unfold Oper.wp execOp
  simp only [ho, resolve, invoke, builtin, Sem.run_bind, Sem.run_pure, Result.andThen_ok, List.map_toArray, List.map_cons, List.map_nil, hs, hx, hr]
  refine h v' w' ?_ h2 (grown_below hown hB h2) h3
  unfold OwnI
  rw [iv_append, List.length_append]
  exact h1
theorem rangeAt_belowD {w w' : World} {B b o : Nat} {cs : List Value} (h : w.rangeAt b o cs) (hb : Below B w w') (hB : b < B) : w'.rangeAt b o cs := fun j v hv => by
  rw [World.cell?_of_block (a := ⟨b, o + j, none⟩) (hb.block b hB)]
  exact h j v hv
theorem cell_belowD {w w' : World} {B b o : Nat} {u : Value} (h : w.cell? ⟨b, o, none⟩ = some u) (hb : Below B w w') (hB : b < B) : w'.cell? ⟨b, o, none⟩ = some u := by
  rw [World.cell?_of_block (a := ⟨b, o, none⟩) (hb.block b hB)]
  exact h
set_option maxHeartbeats 8000000 in
set_option maxRecDepth 20000 in
theorem specBuildIndex_yes (A : Option Addr) (c : Nat) (rows : List GrantD) (w : World) (hr : RdR 18 w A (gcs rows)) (hl : rows.length ≤ 1048576) (hs : ∀ g ∈ rows, g.s.size ≤ maxLen) (q : regOk rows = true) :
    Calls Tryz.prog 5 #[.agg #[.slice A rows.length c]] w (IdxOk w (idxR rows) true) := by
  have KV := Lib.hid (fun (w' : World) (hb : Below w.heap.size w w') => l16Good_any A c rows w' (hr.below hb) hl hs)
  rw [q] at KV
  have HQ := Lib.hid q
  have h12 := regOk_len q
  obtain ⟨T0, hT0⟩ : ∃ T0, T0 = w.alloc (.cells #[.slice A rows.length c] 31) := ⟨_, rfl⟩
  have hs0 : T0.heap.size = w.heap.size + 1 := by rw [hT0]; simp
  have HR := Lib.hid (show ∀ w', Below T0.heap.size T0 w' → w'.cell? ⟨w.heap.size, 0, none⟩ = some (.slice A rows.length c : Value) from fun w' hb => cell_of (heap_keepB (heap_hit w (.cells #[.slice A rows.length c] 31) _ rfl) (hT0 ▸ hb)) 0)
  have HTw := Lib.hid (show Below w.heap.size w T0 from by rw [hT0]; exact Below_al (Below.refl _ _) _)
  have HT0 := Lib.hid hT0
  have HH := Lib.hid hr
  clear hs q hr hT0
  go_enter Tryz.func5, Tryz.ntmps5
  go_wp2_with fail
  refine (KV.out _ (by (repeat (first | exact Below.refl _ _ | assumption | refine Below_al ?_ _ | refine Below.drew ?_ | refine Below_then ?_ (by assumption) | refine Below.setCell ?_ (by first | omega | (simp; done) | (simp; omega)) _)))).mono ?_
  rintro e w1 ⟨rfl, hb1⟩
  have hb1' : Below (T0.alloc (.cells #[] 53)).heap.size (T0.alloc (.cells #[] 53)) w1 := by rw [HT0.out]; exact hb1
  have hG1 : GI w1 T0.heap.size (.slice (some ⟨w.heap.size + 1, 0, none⟩) 0 0) [] [] := (GI.none0 T0 T0.heap.size (w.heap.size + 1) hs0.symm (by omega)).below hb1'
  have hT1 := Below_then (Below_al (Below.refl _ T0) _) hb1'
  have hs1 : w.heap.size + 1 < w1.heap.size := by have := hb1'.size; simp at this; omega
  have HGI := Lib.hid (show ∀ w', Below w1.heap.size w1 w' → GI w' T0.heap.size (.slice (some ⟨w.heap.size + 1, 0, none⟩) 0 0) [] [] from fun w' hb => hG1.below hb)
  have HTT := Lib.hid (show ∀ w', Below w1.heap.size w1 w' → Below T0.heap.size T0 w' from fun w' hb => Below_then hT1 hb)
  have HCR := Lib.hid (show ∀ w', Below w1.heap.size w1 w' → w'.cell? ⟨w.heap.size, 0, none⟩ = some (.slice A rows.length c : Value) from fun w' hb => HR.out _ (HTT.out _ hb))
  have HROW := Lib.hid (show ∀ w', Below w1.heap.size w1 w' → RdR 18 w' A (gcs rows) from fun w' hb => HH.out.below (Below_then HTw.out (HTT.out _ hb)))
  have hO0 : OwnS (w1.alloc (.cells #[] 9)) w1.heap.size 9 (.slice (some ⟨w1.heap.size, 0, none⟩) 0 0) [] := OwnS.blk (zs := []) (heap_hit _ _ _ rfl) (Nat.le_refl _) (by simp [maxLen])
  have hL0 := Below_al (Below.refl w1.heap.size w1) (.cells #[] 9)
  clear hb1 hb1' hG1 hT1
  go_wp2_with fail
  go_loopw [5, 6] (fun o i wr => ∃ (k b c : Nat), k ≤ rows.length ∧ i = .int .i64 k ∧ o = .slice (some ⟨b, 0, none⟩) (allP rows k).length c ∧ OwnS wr w1.heap.size 9 (.slice (some ⟨b, 0, none⟩) (allP rows k).length c) (allP rows k) ∧ Below w1.heap.size w1 wr) (fun _ i _ => rows.length - (intOf i).toNat)
  case atStart => exact ⟨0, _, 0, Nat.zero_le _, rfl, rfl, hO0, hL0⟩
  case round =>
    clear hO0 hL0
    obtain ⟨k, ba, ca, hk, rfl, rfl, hS, hL⟩ := hrel
    by_cases hlt : k < rows.length
    · obtain ⟨g, hg⟩ := grant_at hlt
      have i1 : (k : Int) < (rows.length : Int) := by omega
      have d1 : decide (k < rows.length) = true := by simpa using hlt
      have cR := HCR.out _ hL
      obtain ⟨b, off, rfl, hr, -⟩ := (HROW.out _ hL).grants hg
      obtain ⟨cn, -, -, hga⟩ := gc_cells hr
      have HG := Lib.hid hg
      have HE := Lib.hid (allQ_end hg)
      have ga := regOk_arms HQ.out hg
      have KF := Lib.hid (fun w => l17Features_any g.a ga w)
      obtain ⟨L, hLd⟩ : ∃ L, L = featL g.a := ⟨_, rfl⟩
      have hLl : L.length ≤ 100 := by rw [hLd]; exact featL_len g.a
      rw [← hLd] at KF HE
      have hsw := hL.size
      clear hg hr cn hLd ga
      go_wp2_with (first | (refine ldAr rfl _ rfl b _ rfl g.a hga ?_) | fail)
      refine (KF.out _).mono ?_
      rintro e w2 ⟨uf, rfl, hF, hb2⟩
      obtain ⟨Af, cf, rfl, hrf⟩ := hF.form
      have hS2 := hS.below hb2
      have hL2 := hL.trans (hb2.mono (by omega))
      rw [← allQ_zero rows k L] at hS2 ⊢
      clear hS hL hga hF hb2 cR hsw
      go_wp2_with fail
      show Code.wp _ _ _ _ _
      go_loopw [5, 8] (fun o i wi => ∃ (m b c : Nat), m ≤ L.length ∧ i = .int .i64 m ∧ o = .slice (some ⟨b, 0, none⟩) (allQ rows k L m).length c ∧ OwnS wi w1.heap.size 9 (.slice (some ⟨b, 0, none⟩) (allQ rows k L m).length c) (allQ rows k L m) ∧ RdS wi Af L ∧ Below w1.heap.size w1 wi) (fun _ i _ => L.length - (intOf i).toNat)
      case atStart => exact ⟨0, ba, ca, Nat.zero_le _, rfl, rfl, hS2, hrf, hL2⟩
      case round =>
        clear hS2 hrf hL2
        obtain ⟨m, ba, ca, hm, rfl, rfl, hS, hrf, hL⟩ := hrel
        by_cases hlt2 : m < L.length
        · obtain ⟨bf, of, rfl, cf0, -⟩ := hrf.at_ hlt2
          obtain ⟨x, hx⟩ : ∃ x, x = L[m] := ⟨_, rfl⟩
          rw [← hx] at cf0
          have hxm : L[m]? = some x := by rw [List.getElem?_eq_getElem hlt2, hx]
          have i2 : (m : Int) < (L.length : Int) := by omega
          have d2 : decide (m < L.length) = true := by simpa using hlt2
          have HP := Lib.hid (allQ_step (rows := rows) (k := k) hxm)
          have hql : (allQ rows k L m).length ≤ 1000000 := allQ_len h12 hLl
          have hB : w1.heap.size ≤ wr.heap.size := hL.size
          obtain ⟨Z, hZ⟩ : ∃ Z, Z = allQ rows k L m := ⟨_, rfl⟩
          rw [← hZ] at hS hql HP ⊢
          have K4 := Lib.hid (l17Put_any w1.heap.size ba ca Z x wr hS hql hB)
          clear hx hxm hZ hS
          go_wp2_with fail
          refine (K4.out).mono ?_
          rintro e w5 ⟨b5, c5, rfl, hS5, hb5⟩
          have hrf5 := hrf.below hb5
          have hL5 := hL.trans (hb5.mono hB)
          clear hrf hL hb5 cf0
          go_wp2_with fail
          go_roundw
          case rel => exact ⟨m + 1, b5, c5, by omega, by go_num, by rw [HP.out], by rw [HP.out]; exact hS5, hrf5, hL5⟩
          case measure => simp [intOf]; omega
        · obtain rfl : m = L.length := by omega
          have d2 : decide (L.length < L.length) = false := by simp
          rw [HE.out] at hS ⊢
          clear hrf
          go_wp2_with fail
          go_roundw
          case rel => exact ⟨k + 1, ba, ca, by omega, by go_num, rfl, hS, hL⟩
          case measure => simp [intOf]; omega
    · obtain rfl : k = rows.length := by omega
      have d1 : decide (rows.length < rows.length) = false := by simp
      have cR := HCR.out _ hL
      rw [allP_end] at hS ⊢
      have hLA := idxR_len HQ.out
      have HIDX := Lib.hid (show (allR rows).map (lineR rows) = idxR rows from rfl)
      obtain ⟨L, hLd⟩ : ∃ L, L = allR rows := ⟨_, rfl⟩
      rw [← hLd] at hS hLA HIDX ⊢
      have hba := hS.lt ba rfl
      have hG := HGI.out _ hL
      have hT := HTT.out _ hL
      have hap0 : (Value.slice (some ⟨w.heap.size + 1, 0, none⟩) 0 0).ownBlock ≠ some ba := fun e => by simp [Value.ownBlock] at e; omega
      clear hLd hL
      go_wp2_with fail
      clear cR
      go_loopw [4, 9] (fun o i wr => ∃ (k : Nat) (v : Value) (us : List Value), k ≤ L.length ∧ i = .int .i64 k ∧ o = v ∧ GI wr T0.heap.size v ((L.take k).map (lineR rows)) us ∧ OwnS wr w1.heap.size 9 (.slice (some ⟨ba, 0, none⟩) L.length ca) L ∧ v.ownBlock ≠ some ba ∧ Below T0.heap.size T0 wr) (fun _ i _ => L.length - (intOf i).toNat)
      case atStart => exact ⟨0, _, [], Nat.zero_le _, rfl, rfl, hG, hS, hap0, hT⟩
      case round =>
        clear hG hS hap0 hT
        obtain ⟨k, v, us, hk2, rfl, hov, hG, hS, hap, hT⟩ := hrel
        replace hov := hov.symm
        subst hov
        by_cases hlt2 : k < L.length
        · have i2 : (k : Int) < (L.length : Int) := by omega
          have d2 : decide (k < L.length) = true := by simpa using hlt2
          obtain ⟨s, hsk⟩ : ∃ s, L[k]? = some s := ⟨_, List.getElem?_eq_getElem hlt2⟩
          have hck : wr.cell? ⟨ba, k, none⟩ = some (.string s) := by
            have := hS.cellAt k hlt2
            rw [List.getElem?_eq_getElem hlt2] at hsk
            injection hsk with hsk
            rw [← hsk]
            exact this
          have HSK := Lib.hid hsk
          clear hsk
          go_upto_region 17 with fail
          have hO0 : OwnI ((wr.alloc (.cells #[] 3)).alloc (.cells #[.string s, .slice (some ⟨wr.heap.size, 0, none⟩) 0 0] 53)) wr.heap.size 3 (.slice (some ⟨wr.heap.size, 0, none⟩) 0 0) [] := (OwnI.blk (zs := []) (heap_hit _ _ _ rfl) (Nat.le_refl _) (by simp [maxLen])).alloc _
          have hH0 : ((wr.alloc (.cells #[] 3)).alloc (.cells #[.string s, .slice (some ⟨wr.heap.size, 0, none⟩) 0 0] 53)).heap[wr.heap.size + 1]? = some (.cells #[.string s, .slice (some ⟨wr.heap.size, 0, none⟩) 0 0] 53 (0, 0)) := heap_hit _ _ _ (by simp)
          have hL0 := Below_al (Below_al (Below.refl wr.heap.size wr) (.cells #[] 3)) (.cells #[.string s, .slice (some ⟨wr.heap.size, 0, none⟩) 0 0] 53)
          have hba2 := (hS.lt ba rfl).2
          have hvb : ∀ b, v.ownBlock = some b → b < wr.heap.size := fun b hb => (hG.outer b hb).2
          have hub : ∀ (i : Nat) (u : Value), us[i]? = some u → ∀ b, u.ownBlock = some b → b < wr.heap.size := fun i u hu b hb => (hG.hi i u hu b hb).2
          have hsT := hT.size
          obtain ⟨D0, hD0⟩ : ∃ D0, D0 = wr.heap.size := ⟨_, rfl⟩
          obtain ⟨D, hDd⟩ : ∃ D, D = wr.heap.size + 1 := ⟨_, rfl⟩
          obtain ⟨W0, hW0⟩ : ∃ W0, W0 = wr := ⟨_, rfl⟩
          have hGB : ∀ w', Below D0 W0 w' → GI w' T0.heap.size v ((L.take k).map (lineR rows)) us ∧ OwnS w' w1.heap.size 9 (.slice (some ⟨ba, 0, none⟩) L.length ca) L ∧ Below T0.heap.size T0 w' := fun w' hb' => by rw [hD0, hW0] at hb'; exact ⟨hG.below hb', hS.below hb', Below_then hT hb'⟩
          have hcs : ∀ w', Below D0 W0 w' → w'.cell? ⟨ba, k, none⟩ = some (.string s) := fun w' hb' => by rw [hD0, hW0] at hb'; exact keep_cell hck hb'
          have HGB := Lib.hid hGB
          have HCS := Lib.hid hcs
          clear HCR HROW HGI HTT
          have HCR := Lib.hid (show ∀ w', Below D0 W0 w' → w'.cell? ⟨w.heap.size, 0, none⟩ = some (.slice A rows.length c : Value) from fun w' hb => HR.out _ (HGB.out _ hb).2.2)
          have HROW := Lib.hid (show ∀ w', Below D0 W0 w' → RdR 18 w' A (gcs rows) from fun w' hb => HH.out.below (Below_then HTw.out (HGB.out _ hb).2.2))
          have hDw : D0 = W0.heap.size := by rw [hD0, hW0]
          have HDW := Lib.hid (Nat.le_of_eq hDw)
          have HDW' := Lib.hid (Nat.le_of_eq hDw.symm)
          rw [← hD0] at hvb hub hba2 hsT
          have HVB := Lib.hid hvb
          have HUB := Lib.hid hub
          have hDD : D = D0 + 1 := by rw [hDd, hD0]
          rw [← hDd, ← hD0] at hH0
          replace hL0 : Below D0 W0 ((wr.alloc (.cells #[] 3)).alloc (.cells #[.string s, .slice (some ⟨wr.heap.size, 0, none⟩) 0 0] 53)) := by rw [hW0, hD0]; exact hL0
          rw [← hD0] at hO0 hL0
          rw [← hDd, ← hD0]
          have hDlt : D0 < D := by omega
          have hd0 : (Value.slice (some ⟨D0, 0, none⟩) 0 0).ownBlock ≠ some D := fun e => by simp [Value.ownBlock] at e; omega
          clear hD0 hDd hW0 hGB hcs hck hG hS hT hvb hub hDw hDD
          go_wp2_with fail
          go_loopw [11] (fun i wi => ∃ (m : Nat) (u : Value), m ≤ rows.length ∧ i = .int .i64 m ∧ wi.heap[D]? = some (.cells #[.string s, u] 53 (0, 0)) ∧ OwnI wi D0 3 u (nums (rows.take m) (hasF s)) ∧ u.ownBlock ≠ some D ∧ Below D0 W0 wi) (fun i _ => rows.length - (intOf i).toNat)
          case atStart => exact ⟨0, _, Nat.zero_le _, rfl, hH0, by simpa [nums] using hO0, hd0, hL0⟩
          case round =>
            clear hH0 hO0 hL0 hd0
            obtain ⟨m, u, hm, rfl, hH, hO, hud, hL⟩ := hrel
            have cR := HCR.out _ hL
            by_cases hlt3 : m < rows.length
            · obtain ⟨g, hg⟩ := grant_at hlt3
              have i3 : (m : Int) < (rows.length : Int) := by omega
              have d3 : decide (m < rows.length) = true := by simpa using hlt3
              obtain ⟨b, off, rfl, hr0, hbl⟩ := (HROW.out W0 (Below.refl _ _)).grants hg
              obtain ⟨cn0, -, -, hga0⟩ := gc_cells hr0
              have hbl' : b < D0 := by have := HDW'.out; omega
              have HGA := Lib.hid (fun w' (hb : Below D0 W0 w') => rangeAt_belowD hga0 hb hbl')
              have HCN := Lib.hid (fun w' (hb : Below D0 W0 w') => cell_belowD cn0 hb hbl')
              have GA := Lib.hid (regOk_arms HQ.out hg)
              have HGM := Lib.hid hg
              have hnl : (nums (rows.take m) (hasF s)).length ≤ 1099511627776 := by have := nums_take rows (hasF s) m hm; omega
              have hDW := HDW.out
              have hDW2 := HDW'.out
              clear hg hr0 cn0 hga0 hbl hbl'
              cases hf : hasF s g
              · have HF := Lib.hid hf
                clear hf
                go_wp2_with fail
                refine wp_region_noPanic ?_
                refine wp_region_held_drew (S := (fun w' => w'.heap[D]? = some (.cells #[.string s, u] 53 (0, 0)) ∧ OwnI w' D0 3 u (nums (rows.take m) (hasF s)) ∧ Below D0 W0 w')) (by kernel_rfl) ⟨heap_keepB hH (Below.refl _ _).drew, hO.below (Below.refl _ _).drew, hL.drew⟩ (fun hHeld => ?_)
                refine wpAnyH_take (i := 0) (oi := _) (v := ?_) rfl (by kernel_rfl) (by kernel_rfl) (by kernel_rfl) (fun _ _ _ h => h) (Or.inl ⟨by rfl, ?_⟩) (by assumption) ?_
                rotate_left
                · intro w hSw; clear hSw; first | (go_simp; done) | (go_simp; with_reducible rfl)
                simp only [Act.put, List.getElem_toArray, List.getElem_cons_succ, List.getElem_cons_zero, List.setIfInBounds_toArray, List.set_cons_zero, List.set_cons_succ]
                refine wpAnyH_take (i := 1) (oi := _) (v := ?_) rfl (by kernel_rfl) (by kernel_rfl) (by kernel_rfl) (fun _ _ _ h => h) (Or.inl ⟨by rfl, ?_⟩) (by assumption) ?_
                rotate_left
                · intro w9 hSw; (try dsimp only at hSw); have hq9 := HCR.out _ hSw.2.2; clear hSw; first | (go_simp; done) | (go_simp; with_reducible rfl)
                simp only [Act.put, List.getElem_toArray, List.getElem_cons_succ, List.getElem_cons_zero, List.setIfInBounds_toArray, List.set_cons_zero, List.set_cons_succ]
                refine wpAnyH_take (i := 2) (oi := _) (v := ?_) rfl (by kernel_rfl) (by kernel_rfl) (by kernel_rfl) (fun _ _ _ h => h) (Or.inl ⟨by rfl, ?_⟩) (by assumption) ?_
                rotate_left
                · intro w hSw; clear hSw; first | (go_simp; done) | (go_simp; with_reducible rfl)
                simp only [Act.put, List.getElem_toArray, List.getElem_cons_succ, List.getElem_cons_zero, List.setIfInBounds_toArray, List.set_cons_zero, List.set_cons_succ]
                refine wpAnyH_take (i := 3) (oi := _) (v := ?_) rfl (by kernel_rfl) (by kernel_rfl) (by kernel_rfl) (fun _ _ _ h => h) (Or.inl ⟨by rfl, ?_⟩) (by assumption) ?_
                rotate_left
                · intro w hSw; clear hSw; first | (go_simp; done) | (go_simp; with_reducible rfl)
                simp only [Act.put, List.getElem_toArray, List.getElem_cons_succ, List.getElem_cons_zero, List.setIfInBounds_toArray, List.set_cons_zero, List.set_cons_succ]
                refine wpAnyH_take (i := 4) (oi := _) (v := ?_) rfl (by kernel_rfl) (by kernel_rfl) (by kernel_rfl) (fun _ _ _ h => h) (Or.inl ⟨by rfl, ?_⟩) (by assumption) ?_
                rotate_left
                · intro w hSw; clear hSw; first | (go_simp; done) | (go_simp; with_reducible rfl)
                simp only [Act.put, List.getElem_toArray, List.getElem_cons_succ, List.getElem_cons_zero, List.setIfInBounds_toArray, List.set_cons_zero, List.set_cons_succ]
                refine wpAnyH_take (i := 5) (oi := _) (v := _) rfl ?g1_1 ?g2_1 ?g3_1 (fun _ _ _ h => h) (yieldsIf_load_mid ?g4_1 _ _ rfl b ?oo_1 ?g5_1 (ac g.a) _ ?g6_1 Tryz.underlying47 rfl (info_ac g.a)) ?g7_1 ?_
                case g5_1 => rfl
                case g1_1 => kernel_rfl
                case g2_1 => kernel_rfl
                case g3_1 => kernel_rfl
                case g6_1 => exact (fun _ h => HGA.out _ h.2.2)
                case g4_1 => kernel_rfl
                case g7_1 => assumption
                simp only [Act.put, List.getElem_toArray, List.getElem_cons_succ, List.getElem_cons_zero, List.setIfInBounds_toArray, List.set_cons_zero, List.set_cons_succ]
                refine wpAnyH_take (i := 7) (oi := _) (v := ?_) rfl (by kernel_rfl) (by kernel_rfl) (by kernel_rfl) (fun _ _ _ h => h) (Or.inl ⟨by rfl, ?_⟩) (by assumption) ?_
                rotate_left
                · intro w hSw; clear hSw; first | (go_simp; done) | (go_simp; with_reducible rfl)
                simp only [Act.put, List.getElem_toArray, List.getElem_cons_succ, List.getElem_cons_zero, List.setIfInBounds_toArray, List.set_cons_zero, List.set_cons_succ]
                refine wpAnyH_take (i := 8) (oi := _) (v := ?_) rfl (by kernel_rfl) (by kernel_rfl) (by kernel_rfl) (fun _ _ _ h => h) (Or.inl ⟨by rfl, ?_⟩) (by assumption) ?_
                rotate_left
                · intro w hSw; clear hSw; first | (go_simp; done) | (go_simp; with_reducible rfl)
                simp only [Act.put, List.getElem_toArray, List.getElem_cons_succ, List.getElem_cons_zero, List.setIfInBounds_toArray, List.set_cons_zero, List.set_cons_succ]
                refine wpAnyH_take (i := 9) (oi := _) (v := ?_) rfl (by kernel_rfl) (by kernel_rfl) (by kernel_rfl) (fun _ _ _ h => h) (Or.inl ⟨by rfl, ?_⟩) (by assumption) ?_
                rotate_left
                · intro w hSw; clear hSw; first | (go_simp; done) | (go_simp; with_reducible rfl)
                simp only [Act.put, List.getElem_toArray, List.getElem_cons_succ, List.getElem_cons_zero, List.setIfInBounds_toArray, List.set_cons_zero, List.set_cons_succ]
                refine wpAnyH_take (i := 10) (oi := _) (v := ?_) rfl (by kernel_rfl) (by kernel_rfl) (by kernel_rfl) (fun _ _ _ h => h) (Or.inl ⟨by rfl, ?_⟩) (by assumption) ?_
                rotate_left
                · intro w9 hSw; (try dsimp only at hSw); have hq9 := HCS.out _ hSw.2.2; clear hSw; first | (go_simp; done) | (go_simp; with_reducible rfl)
                simp only [Act.put, List.getElem_toArray, List.getElem_cons_succ, List.getElem_cons_zero, List.setIfInBounds_toArray, List.set_cons_zero, List.set_cons_succ]
                refine wpAnyH_ready (rs := [6]) (by kernel_rfl) (by simp) ?_
                refine AllReadyH.cons (o := _) rfl (fun K hK => ?_) AllReadyH.nil
                (try dsimp only at hHeld)
                go_simp
                refine (l17Features_any g.a GA.out _).mono ?_
                rintro e wn ⟨uf, rfl, hF, hbn⟩
                obtain ⟨Af, cf, rfl, hrf⟩ := hF.form
                go_wp2_with fail
                refine hK.out _ _ ⟨heap_keepB hHeld.1 hbn, hHeld.2.1.below hbn, hHeld.2.2.trans (hbn.mono (by have := hHeld.2.2.size; omega))⟩ (fun hHeld => ?_)
                clear hbn hF
                clear hK K
                try simp only [Act.put, List.getElem_toArray, List.getElem_cons_succ, List.getElem_cons_zero, List.setIfInBounds_toArray, List.set_cons_zero, List.set_cons_succ]
                refine wpAnyH_ready (rs := [11]) (by kernel_rfl) (by simp) ?_
                refine AllReadyH.cons (o := _) rfl (fun K hK => ?_) AllReadyH.nil
                (try dsimp only at hHeld)
                go_simp
                refine (l17Has_any Af cf (featL g.a) s _ hrf (by have := featL_len g.a; omega)).mono ?_
                rintro e wm ⟨rfl, rfl⟩
                rw [show hasB (featL g.a) s = hasF s g from rfl, HF.out]
                go_wp2_with fail
                refine hK.out _ _ hHeld (fun hHeld => ?_)
                clear hrf
                clear hK K
                try simp only [Act.put, List.getElem_toArray, List.getElem_cons_succ, List.getElem_cons_zero, List.setIfInBounds_toArray, List.set_cons_zero, List.set_cons_succ]
                (try dsimp only at hHeld)
                obtain ⟨hH2, hO2, hL2⟩ := hHeld
                refine wpAnyH_done (by kernel_rfl) ?_ _
                refine NoPanic.normal ?_
                go_wp2_with fail
                go_roundw
                case rel => exact ⟨m + 1, u, by omega, by go_num, hH2, by rw [nums_no HGM.out HF.out]; exact hO2, hud, hL2⟩
                case measure => simp [intOf]; omega
              · have HF := Lib.hid hf
                clear hf
                go_wp2_with fail
                refine wp_region_noPanic ?_
                refine wp_region_held_drew (S := (fun w' => w'.heap[D]? = some (.cells #[.string s, u] 53 (0, 0)) ∧ OwnI w' D0 3 u (nums (rows.take m) (hasF s)) ∧ Below D0 W0 w')) (by kernel_rfl) ⟨heap_keepB hH (Below.refl _ _).drew, hO.below (Below.refl _ _).drew, hL.drew⟩ (fun hHeld => ?_)
                refine wpAnyH_take (i := 0) (oi := _) (v := ?_) rfl (by kernel_rfl) (by kernel_rfl) (by kernel_rfl) (fun _ _ _ h => h) (Or.inl ⟨by rfl, ?_⟩) (by assumption) ?_
                rotate_left
                · intro w hSw; clear hSw; first | (go_simp; done) | (go_simp; with_reducible rfl)
                simp only [Act.put, List.getElem_toArray, List.getElem_cons_succ, List.getElem_cons_zero, List.setIfInBounds_toArray, List.set_cons_zero, List.set_cons_succ]
                refine wpAnyH_take (i := 1) (oi := _) (v := ?_) rfl (by kernel_rfl) (by kernel_rfl) (by kernel_rfl) (fun _ _ _ h => h) (Or.inl ⟨by rfl, ?_⟩) (by assumption) ?_
                rotate_left
                · intro w9 hSw; (try dsimp only at hSw); have hq9 := HCR.out _ hSw.2.2; clear hSw; first | (go_simp; done) | (go_simp; with_reducible rfl)
                simp only [Act.put, List.getElem_toArray, List.getElem_cons_succ, List.getElem_cons_zero, List.setIfInBounds_toArray, List.set_cons_zero, List.set_cons_succ]
                refine wpAnyH_take (i := 2) (oi := _) (v := ?_) rfl (by kernel_rfl) (by kernel_rfl) (by kernel_rfl) (fun _ _ _ h => h) (Or.inl ⟨by rfl, ?_⟩) (by assumption) ?_
                rotate_left
                · intro w hSw; clear hSw; first | (go_simp; done) | (go_simp; with_reducible rfl)
                simp only [Act.put, List.getElem_toArray, List.getElem_cons_succ, List.getElem_cons_zero, List.setIfInBounds_toArray, List.set_cons_zero, List.set_cons_succ]
                refine wpAnyH_take (i := 3) (oi := _) (v := ?_) rfl (by kernel_rfl) (by kernel_rfl) (by kernel_rfl) (fun _ _ _ h => h) (Or.inl ⟨by rfl, ?_⟩) (by assumption) ?_
                rotate_left
                · intro w hSw; clear hSw; first | (go_simp; done) | (go_simp; with_reducible rfl)
                simp only [Act.put, List.getElem_toArray, List.getElem_cons_succ, List.getElem_cons_zero, List.setIfInBounds_toArray, List.set_cons_zero, List.set_cons_succ]
                refine wpAnyH_take (i := 4) (oi := _) (v := ?_) rfl (by kernel_rfl) (by kernel_rfl) (by kernel_rfl) (fun _ _ _ h => h) (Or.inl ⟨by rfl, ?_⟩) (by assumption) ?_
                rotate_left
                · intro w hSw; clear hSw; first | (go_simp; done) | (go_simp; with_reducible rfl)
                simp only [Act.put, List.getElem_toArray, List.getElem_cons_succ, List.getElem_cons_zero, List.setIfInBounds_toArray, List.set_cons_zero, List.set_cons_succ]
                refine wpAnyH_take (i := 5) (oi := _) (v := _) rfl ?g1_1 ?g2_1 ?g3_1 (fun _ _ _ h => h) (yieldsIf_load_mid ?g4_1 _ _ rfl b ?oo_1 ?g5_1 (ac g.a) _ ?g6_1 Tryz.underlying47 rfl (info_ac g.a)) ?g7_1 ?_
                case g5_1 => rfl
                case g1_1 => kernel_rfl
                case g2_1 => kernel_rfl
                case g3_1 => kernel_rfl
                case g6_1 => exact (fun _ h => HGA.out _ h.2.2)
                case g4_1 => kernel_rfl
                case g7_1 => assumption
                simp only [Act.put, List.getElem_toArray, List.getElem_cons_succ, List.getElem_cons_zero, List.setIfInBounds_toArray, List.set_cons_zero, List.set_cons_succ]
                refine wpAnyH_take (i := 7) (oi := _) (v := ?_) rfl (by kernel_rfl) (by kernel_rfl) (by kernel_rfl) (fun _ _ _ h => h) (Or.inl ⟨by rfl, ?_⟩) (by assumption) ?_
                rotate_left
                · intro w hSw; clear hSw; first | (go_simp; done) | (go_simp; with_reducible rfl)
                simp only [Act.put, List.getElem_toArray, List.getElem_cons_succ, List.getElem_cons_zero, List.setIfInBounds_toArray, List.set_cons_zero, List.set_cons_succ]
                refine wpAnyH_take (i := 8) (oi := _) (v := ?_) rfl (by kernel_rfl) (by kernel_rfl) (by kernel_rfl) (fun _ _ _ h => h) (Or.inl ⟨by rfl, ?_⟩) (by assumption) ?_
                rotate_left
                · intro w hSw; clear hSw; first | (go_simp; done) | (go_simp; with_reducible rfl)
                simp only [Act.put, List.getElem_toArray, List.getElem_cons_succ, List.getElem_cons_zero, List.setIfInBounds_toArray, List.set_cons_zero, List.set_cons_succ]
                refine wpAnyH_take (i := 9) (oi := _) (v := ?_) rfl (by kernel_rfl) (by kernel_rfl) (by kernel_rfl) (fun _ _ _ h => h) (Or.inl ⟨by rfl, ?_⟩) (by assumption) ?_
                rotate_left
                · intro w hSw; clear hSw; first | (go_simp; done) | (go_simp; with_reducible rfl)
                simp only [Act.put, List.getElem_toArray, List.getElem_cons_succ, List.getElem_cons_zero, List.setIfInBounds_toArray, List.set_cons_zero, List.set_cons_succ]
                refine wpAnyH_take (i := 10) (oi := _) (v := ?_) rfl (by kernel_rfl) (by kernel_rfl) (by kernel_rfl) (fun _ _ _ h => h) (Or.inl ⟨by rfl, ?_⟩) (by assumption) ?_
                rotate_left
                · intro w9 hSw; (try dsimp only at hSw); have hq9 := HCS.out _ hSw.2.2; clear hSw; first | (go_simp; done) | (go_simp; with_reducible rfl)
                simp only [Act.put, List.getElem_toArray, List.getElem_cons_succ, List.getElem_cons_zero, List.setIfInBounds_toArray, List.set_cons_zero, List.set_cons_succ]
                refine wpAnyH_ready (rs := [6]) (by kernel_rfl) (by simp) ?_
                refine AllReadyH.cons (o := _) rfl (fun K hK => ?_) AllReadyH.nil
                (try dsimp only at hHeld)
                go_simp
                refine (l17Features_any g.a GA.out _).mono ?_
                rintro e wn ⟨uf, rfl, hF, hbn⟩
                obtain ⟨Af, cf, rfl, hrf⟩ := hF.form
                go_wp2_with fail
                refine hK.out _ _ ⟨heap_keepB hHeld.1 hbn, hHeld.2.1.below hbn, hHeld.2.2.trans (hbn.mono (by have := hHeld.2.2.size; omega))⟩ (fun hHeld => ?_)
                clear hbn hF
                clear hK K
                try simp only [Act.put, List.getElem_toArray, List.getElem_cons_succ, List.getElem_cons_zero, List.setIfInBounds_toArray, List.set_cons_zero, List.set_cons_succ]
                refine wpAnyH_ready (rs := [11]) (by kernel_rfl) (by simp) ?_
                refine AllReadyH.cons (o := _) rfl (fun K hK => ?_) AllReadyH.nil
                (try dsimp only at hHeld)
                go_simp
                refine (l17Has_any Af cf (featL g.a) s _ hrf (by have := featL_len g.a; omega)).mono ?_
                rintro e wm ⟨rfl, rfl⟩
                rw [show hasB (featL g.a) s = hasF s g from rfl, HF.out]
                go_wp2_with fail
                refine hK.out _ _ hHeld (fun hHeld => ?_)
                clear hrf
                clear hK K
                try simp only [Act.put, List.getElem_toArray, List.getElem_cons_succ, List.getElem_cons_zero, List.setIfInBounds_toArray, List.set_cons_zero, List.set_cons_succ]
                (try dsimp only at hHeld)
                obtain ⟨hH2, hO2, hL2⟩ := hHeld
                refine wpAnyH_done (by kernel_rfl) ?_ _
                refine NoPanic.normal ?_
                go_wp2_with fail
                refine wp_region_noPanic ?_
                refine wp_region_held_drew (S := (fun w' => Below D0 W0 w')) (by kernel_rfl) hL2.drew (fun hHeld => ?_)
                refine wpAnyH_take (i := 0) (oi := _) (v := ?_) rfl (by kernel_rfl) (by kernel_rfl) (by kernel_rfl) (fun _ _ _ h => h) (Or.inl ⟨by rfl, ?_⟩) (by assumption) ?_
                rotate_left
                · intro w hSw; clear hSw; first | (go_simp; done) | (go_simp; with_reducible rfl)
                simp only [Act.put, List.getElem_toArray, List.getElem_cons_succ, List.getElem_cons_zero, List.setIfInBounds_toArray, List.set_cons_zero, List.set_cons_succ]
                refine wpAnyH_take (i := 2) (oi := _) (v := ?_) rfl (by kernel_rfl) (by kernel_rfl) (by kernel_rfl) (fun _ _ _ h => h) (Or.inl ⟨by rfl, ?_⟩) (by assumption) ?_
                rotate_left
                · intro w hSw; clear hSw; first | (go_simp; done) | (go_simp; with_reducible rfl)
                simp only [Act.put, List.getElem_toArray, List.getElem_cons_succ, List.getElem_cons_zero, List.setIfInBounds_toArray, List.set_cons_zero, List.set_cons_succ]
                refine wpAnyH_take (i := 3) (oi := _) (v := ?_) rfl (by kernel_rfl) (by kernel_rfl) (by kernel_rfl) (fun _ _ _ h => h) (Or.inl ⟨by rfl, ?_⟩) (by assumption) ?_
                rotate_left
                · intro w9 hSw; (try dsimp only at hSw); have hq9 := HCR.out _ hSw; clear hSw; first | (go_simp; done) | (go_simp; with_reducible rfl)
                simp only [Act.put, List.getElem_toArray, List.getElem_cons_succ, List.getElem_cons_zero, List.setIfInBounds_toArray, List.set_cons_zero, List.set_cons_succ]
                refine wpAnyH_take (i := 4) (oi := _) (v := ?_) rfl (by kernel_rfl) (by kernel_rfl) (by kernel_rfl) (fun _ _ _ h => h) (Or.inl ⟨by rfl, ?_⟩) (by assumption) ?_
                rotate_left
                · intro w hSw; clear hSw; first | (go_simp; done) | (go_simp; with_reducible rfl)
                simp only [Act.put, List.getElem_toArray, List.getElem_cons_succ, List.getElem_cons_zero, List.setIfInBounds_toArray, List.set_cons_zero, List.set_cons_succ]
                refine wpAnyH_take (i := 5) (oi := _) (v := ?_) rfl (by kernel_rfl) (by kernel_rfl) (by kernel_rfl) (fun _ _ _ h => h) (Or.inl ⟨by rfl, ?_⟩) (by assumption) ?_
                rotate_left
                · intro w hSw; clear hSw; first | (go_simp; done) | (go_simp; with_reducible rfl)
                simp only [Act.put, List.getElem_toArray, List.getElem_cons_succ, List.getElem_cons_zero, List.setIfInBounds_toArray, List.set_cons_zero, List.set_cons_succ]
                refine wpAnyH_take (i := 6) (oi := _) (v := ?_) rfl (by kernel_rfl) (by kernel_rfl) (by kernel_rfl) (fun _ _ _ h => h) (Or.inl ⟨by rfl, ?_⟩) (by assumption) ?_
                rotate_left
                · intro w hSw; clear hSw; first | (go_simp; done) | (go_simp; with_reducible rfl)
                simp only [Act.put, List.getElem_toArray, List.getElem_cons_succ, List.getElem_cons_zero, List.setIfInBounds_toArray, List.set_cons_zero, List.set_cons_succ]
                refine wpAnyH_take (i := 7) (oi := _) (v := ?_) rfl (by kernel_rfl) (by kernel_rfl) (by kernel_rfl) (fun _ _ _ h => h) (Or.inl ⟨by rfl, ?_⟩) (by assumption) ?_
                rotate_left
                · intro w9 hSw; (try dsimp only at hSw); have hq9 := HCN.out _ hSw; clear hSw; first | (go_simp; done) | (go_simp; with_reducible rfl)
                simp only [Act.put, List.getElem_toArray, List.getElem_cons_succ, List.getElem_cons_zero, List.setIfInBounds_toArray, List.set_cons_zero, List.set_cons_succ]
                refine wpAnyH_ready (rs := [1, 8]) (by kernel_rfl) (by simp) ?_
                refine AllReadyH.cons (o := _) rfl (fun K hK => ?_) (AllReadyH.cons (o := _) rfl (fun K hK => ?_) AllReadyH.nil)
                · (try dsimp only at hHeld)
                  have hc1 : World.cell? wn.drew ⟨D, 1, none⟩ = some u := cell_of (heap_keepB hH2 (Below.refl _ _).drew) 1
                  go_simp
                  refine hK.out _ _ hHeld (fun hHeld => ?_)
                  clear hc1
                  clear hK K
                  try simp only [Act.put, List.getElem_toArray, List.getElem_cons_succ, List.getElem_cons_zero, List.setIfInBounds_toArray, List.set_cons_zero, List.set_cons_succ]
                  refine wpAnyH_ready (rs := [8]) (by kernel_rfl) (by simp) ?_
                  refine AllReadyH.cons (o := _) rfl (fun K hK => ?_) AllReadyH.nil
                  (try dsimp only at hHeld)
                  go_simp
                  refine hK.out _ _ (hHeld.alloc (by have := hHeld.size; omega) (.cells #[.int .i64 g.n] 3 (0, 0))) (fun hHeld => ?_)
                  clear hK K
                  try simp only [Act.put, List.getElem_toArray, List.getElem_cons_succ, List.getElem_cons_zero, List.setIfInBounds_toArray, List.set_cons_zero, List.set_cons_succ]
                  (try dsimp only at hHeld)
                  have hOa := (hO2.alloc (.cells #[.int .i64 g.n] 3 (0, 0))).below (Below.refl _ _).drew
                  have hHa := heap_keepB (heap_keepB hH2 (Below_al (Below.refl wn.heap.size wn) (.cells #[.int .i64 g.n] 3 (0, 0)))) (Below.refl _ _).drew
                  have hsz0 := hL2.size
                  have hDn := heap_lt hH2
                  have hsza : ((wn.alloc (.cells #[.int .i64 g.n] 3 (0, 0))).drew).heap.size = wn.heap.size + 1 := by show (wn.alloc (.cells #[.int .i64 g.n] 3 (0, 0))).heap.size = _; simp
                  refine wpAnyH_ready (rs := [9]) (by kernel_rfl) (by simp) ?_
                  refine AllReadyH.cons (o := _) rfl (fun K hK => ?_) AllReadyH.nil
                  refine step_appIA rfl (.tmp 76) (.tmp 83) rfl D0 u (nums (rows.take m) (hasF s)) (by first | rfl | (simp [Act.eval, Act.put]; done) | (simp [Act.eval, Act.put]; omega)) hOa wn.heap.size g.n (by first | rfl | (simp [Act.eval, Act.put]; done) | (simp [Act.eval, Act.put]; omega)) (cell_of (heap_keepB (heap_hit wn _ wn.heap.size rfl) (Below.refl _ _).drew) 0) hnl (by rw [hsza]; omega) ?_
                  intro v9 w9 hO9 hG9 hL9 hA9
                  have hH9 := heap_keepG hHa hG9 hud
                  have hud9 : v9.ownBlock ≠ some D := by
                    rcases hA9 with e | e
                    · rw [e]; exact hud
                    · rw [e, hsza]
                      intro e2
                      injection e2 with e2
                      omega
                  have hL9b := hHeld.trans hL9
                  have hs9 := hL9.size
                  obtain ⟨Z, hZ⟩ : ∃ Z, Z = nums (rows.take m) (hasF s) ++ [g.n] := ⟨_, rfl⟩
                  rw [← hZ] at hO9
                  have HZ := Lib.hid hZ
                  clear hZ
                  obtain ⟨A9, c9, ev9, -⟩ := hO9.form
                  subst ev9
                  clear hOa hHa hA9 hL9 hG9
                  refine hK.out _ _ hL9b (fun hHeld => ?_)
                  clear hK K
                  try simp only [Act.put, List.getElem_toArray, List.getElem_cons_succ, List.getElem_cons_zero, List.setIfInBounds_toArray, List.set_cons_zero, List.set_cons_succ]
                  refine wpAnyH_take (i := 10) (oi := _) (v := ?_) rfl (by kernel_rfl) (by kernel_rfl) (by kernel_rfl) (fun _ _ _ h => h) (Or.inl ⟨by rfl, ?_⟩) (by assumption) ?_
                  rotate_left
                  · intro w hSw; clear hSw; first | (go_simp; done) | (go_simp; with_reducible rfl)
                  simp only [Act.put, List.getElem_toArray, List.getElem_cons_succ, List.getElem_cons_zero, List.setIfInBounds_toArray, List.set_cons_zero, List.set_cons_succ]
                  refine wpAnyH_ready (rs := [11]) (by kernel_rfl) (by simp) ?_
                  refine AllReadyH.cons (o := _) rfl (fun K hK => ?_) AllReadyH.nil
                  have hc1 : w9.cell? ⟨D, 1, none⟩ = some u := cell_of hH9 1
                  have hf1 : w9.frozen? ⟨D, 1, none⟩ = false := frozen_of hH9 1
                  have hD9 : D0 ≤ D := by omega
                  have hw9 : D0 ≤ w9.heap.size := by omega
                  have hHs := heap_setCells (g := D) (T := 53) [.slice A9 Z.length c9] w9 [.string s] [u] [] rfl hH9
                  have hOs := hO9.other (grownBy_set (World.grownBy.refl w9 (some D)) 1 (.slice A9 Z.length c9)) (.inr hud9)
                  have hLs := hL9b.grown (grownBy_set (World.grownBy.refl w9 (some D)) 1 (.slice A9 Z.length c9)) hw9 (fun b e => by injection e with e; omega)
                  clear hO9 hH9 hL9b
                  go_simp
                  refine hK.out _ _ hLs (fun hHeld => ?_)
                  clear hc1 hf1
                  clear hK K
                  try simp only [Act.put, List.getElem_toArray, List.getElem_cons_succ, List.getElem_cons_zero, List.setIfInBounds_toArray, List.set_cons_zero, List.set_cons_succ]
                  refine wpAnyH_done (by kernel_rfl) ?_ _
                  refine NoPanic.normal ?_
                  go_wp2_with fail
                  go_roundw
                  case rel => exact ⟨m + 1, _, by omega, by go_num, hHs, by rw [nums_yes HGM.out HF.out, ← HZ.out]; exact hOs, hud9, hLs⟩
                  case measure => simp [intOf]; omega
                · (try dsimp only at hHeld)
                  go_simp
                  refine hK.out _ _ (hHeld.alloc (by have := hHeld.size; omega) (.cells #[.int .i64 g.n] 3 (0, 0))) (fun hHeld => ?_)
                  clear hK K
                  try simp only [Act.put, List.getElem_toArray, List.getElem_cons_succ, List.getElem_cons_zero, List.setIfInBounds_toArray, List.set_cons_zero, List.set_cons_succ]
                  refine wpAnyH_ready (rs := [1]) (by kernel_rfl) (by simp) ?_
                  refine AllReadyH.cons (o := _) rfl (fun K hK => ?_) AllReadyH.nil
                  (try dsimp only at hHeld)
                  have hc1 : World.cell? ((wn.alloc (.cells #[.int .i64 g.n] 3 (0, 0))).drew) ⟨D, 1, none⟩ = some u := cell_of (heap_keepB (heap_keepB hH2 (Below_al (Below.refl wn.heap.size wn) (.cells #[.int .i64 g.n] 3 (0, 0)))) (Below.refl _ _).drew) 1
                  go_simp
                  refine hK.out _ _ hHeld (fun hHeld => ?_)
                  clear hc1
                  clear hK K
                  try simp only [Act.put, List.getElem_toArray, List.getElem_cons_succ, List.getElem_cons_zero, List.setIfInBounds_toArray, List.set_cons_zero, List.set_cons_succ]
                  (try dsimp only at hHeld)
                  have hOa := (hO2.alloc (.cells #[.int .i64 g.n] 3 (0, 0))).below (Below.refl _ _).drew
                  have hHa := heap_keepB (heap_keepB hH2 (Below_al (Below.refl wn.heap.size wn) (.cells #[.int .i64 g.n] 3 (0, 0)))) (Below.refl _ _).drew
                  have hsz0 := hL2.size
                  have hDn := heap_lt hH2
                  have hsza : ((wn.alloc (.cells #[.int .i64 g.n] 3 (0, 0))).drew).heap.size = wn.heap.size + 1 := by show (wn.alloc (.cells #[.int .i64 g.n] 3 (0, 0))).heap.size = _; simp
                  refine wpAnyH_ready (rs := [9]) (by kernel_rfl) (by simp) ?_
                  refine AllReadyH.cons (o := _) rfl (fun K hK => ?_) AllReadyH.nil
                  refine step_appIA rfl (.tmp 76) (.tmp 83) rfl D0 u (nums (rows.take m) (hasF s)) (by first | rfl | (simp [Act.eval, Act.put]; done) | (simp [Act.eval, Act.put]; omega)) hOa wn.heap.size g.n (by first | rfl | (simp [Act.eval, Act.put]; done) | (simp [Act.eval, Act.put]; omega)) (cell_of (heap_keepB (heap_hit wn _ wn.heap.size rfl) (Below.refl _ _).drew) 0) hnl (by rw [hsza]; omega) ?_
                  intro v9 w9 hO9 hG9 hL9 hA9
                  have hH9 := heap_keepG hHa hG9 hud
                  have hud9 : v9.ownBlock ≠ some D := by
                    rcases hA9 with e | e
                    · rw [e]; exact hud
                    · rw [e, hsza]
                      intro e2
                      injection e2 with e2
                      omega
                  have hL9b := hHeld.trans hL9
                  have hs9 := hL9.size
                  obtain ⟨Z, hZ⟩ : ∃ Z, Z = nums (rows.take m) (hasF s) ++ [g.n] := ⟨_, rfl⟩
                  rw [← hZ] at hO9
                  have HZ := Lib.hid hZ
                  clear hZ
                  obtain ⟨A9, c9, ev9, -⟩ := hO9.form
                  subst ev9
                  clear hOa hHa hA9 hL9 hG9
                  refine hK.out _ _ hL9b (fun hHeld => ?_)
                  clear hK K
                  try simp only [Act.put, List.getElem_toArray, List.getElem_cons_succ, List.getElem_cons_zero, List.setIfInBounds_toArray, List.set_cons_zero, List.set_cons_succ]
                  refine wpAnyH_take (i := 10) (oi := _) (v := ?_) rfl (by kernel_rfl) (by kernel_rfl) (by kernel_rfl) (fun _ _ _ h => h) (Or.inl ⟨by rfl, ?_⟩) (by assumption) ?_
                  rotate_left
                  · intro w hSw; clear hSw; first | (go_simp; done) | (go_simp; with_reducible rfl)
                  simp only [Act.put, List.getElem_toArray, List.getElem_cons_succ, List.getElem_cons_zero, List.setIfInBounds_toArray, List.set_cons_zero, List.set_cons_succ]
                  refine wpAnyH_ready (rs := [11]) (by kernel_rfl) (by simp) ?_
                  refine AllReadyH.cons (o := _) rfl (fun K hK => ?_) AllReadyH.nil
                  have hc1 : w9.cell? ⟨D, 1, none⟩ = some u := cell_of hH9 1
                  have hf1 : w9.frozen? ⟨D, 1, none⟩ = false := frozen_of hH9 1
                  have hD9 : D0 ≤ D := by omega
                  have hw9 : D0 ≤ w9.heap.size := by omega
                  have hHs := heap_setCells (g := D) (T := 53) [.slice A9 Z.length c9] w9 [.string s] [u] [] rfl hH9
                  have hOs := hO9.other (grownBy_set (World.grownBy.refl w9 (some D)) 1 (.slice A9 Z.length c9)) (.inr hud9)
                  have hLs := hL9b.grown (grownBy_set (World.grownBy.refl w9 (some D)) 1 (.slice A9 Z.length c9)) hw9 (fun b e => by injection e with e; omega)
                  clear hO9 hH9 hL9b
                  go_simp
                  refine hK.out _ _ hLs (fun hHeld => ?_)
                  clear hc1 hf1
                  clear hK K
                  try simp only [Act.put, List.getElem_toArray, List.getElem_cons_succ, List.getElem_cons_zero, List.setIfInBounds_toArray, List.set_cons_zero, List.set_cons_succ]
                  refine wpAnyH_done (by kernel_rfl) ?_ _
                  refine NoPanic.normal ?_
                  go_wp2_with fail
                  go_roundw
                  case rel => exact ⟨m + 1, _, by omega, by go_num, hHs, by rw [nums_yes HGM.out HF.out, ← HZ.out]; exact hOs, hud9, hLs⟩
                  case measure => simp [intOf]; omega
            · obtain rfl : m = rows.length := by omega
              have d3 : decide (rows.length < rows.length) = false := by simp
              rw [List.take_length] at hO
              obtain ⟨N, hNd⟩ : ∃ N, N = nums rows (hasF s) := ⟨_, rfl⟩
              have hNl : N.length ≤ 1048576 := by rw [hNd]; exact Nat.le_trans (nums_len rows _) hl
              rw [← hNd] at hO
              have HND := Lib.hid hNd
              obtain ⟨Au, cu, rfl, -⟩ := hO.form
              have hc0 := cell_of hH 0
              have hc1 := cell_of hH 1
              obtain ⟨hG6, hS6, hT6⟩ := HGB.out _ hL
              have hgub : ∀ b, (Value.slice Au N.length cu).ownBlock = some b → D0 ≤ b := fun b hb => (hO.lt b hb).1
              have Q1 := Lib.hid (fun (i : Nat) (u' : Value) (hu' : us[i]? = some u') => (ob_ltI (HUB.out i u' hu') hgub : u'.ownBlock = none ∨ u'.ownBlock ≠ (Value.slice Au N.length cu).ownBlock))
              have Q2 := Lib.hid (ob_gtI hgub HVB.out : (Value.slice Au N.length cu).ownBlock = none ∨ (Value.slice Au N.length cu).ownBlock ≠ v.ownBlock)
              have hxl : ((L.take k).map (lineR rows)).length ≤ 1048576 := by rw [List.length_map, List.length_take]; omega
              have hap7 := hap
              have hw6 : D0 ≤ wr.heap.size := by have := hL.size; have := HDW.out; omega
              clear hap hgub hNd hL
              go_wp2_with (first | (at_builtin; refine wp_appLAt rfl _ _ rfl T0.heap.size v ((L.take k).map (lineR rows)) us rfl (hG6.below (Below_al (Below.refl _ _) _)) _ s _ N rfl (cell_of (heap_hit _ _ _ rfl) 0) (cell_of (heap_hit _ _ _ rfl) 1) (OwnI.base (hO.alloc _) ?c0) Q1.out Q2.out hxl ?c4 ?_; rotate_left 2; intro v' w9 hG9 hR9 hL9 hA9) | fail)
              try (case c0 => omega)
              try (case c4 => (simp; omega))
              have hT9 := (Below_al hT6 _).trans hL9
              have hS9 := (hS6.below (Below_al (Below.refl _ _) (.cells #[.string s, .slice Au N.length cu] 53))).other hR9 (.inr fun e => hap7 e.symm)
              have hap9 : v'.ownBlock ≠ some ba := by
                rcases hA9 with e | e
                · rw [e]; exact hap7
                · rw [e]
                  intro e2
                  injection e2 with e2
                  simp at e2
                  omega
              have hln : (L.take (k + 1)).map (lineR rows) = (L.take k).map (lineR rows) ++ [(s, N)] := by rw [List.take_add_one, HSK.out, List.map_append, HND.out]; rfl
              have HLN := Lib.hid hln
              clear hR9 hL9 hA9 hG6 hS6 hO hT6 hH hc0 hc1 hln cR
              go_wp2_with fail
              go_roundw
              case rel => exact ⟨k + 1, v', _, by omega, by go_num, rfl, by rw [HLN.out]; exact hG9, hS9, hap9, hT9⟩
              case measure => simp [intOf]; omega
        · obtain rfl : k = L.length := by omega
          have d2 : decide (L.length < L.length) = false := by simp
          rw [List.take_length, HIDX.out] at hG
          have hTw := Below_then HTw.out hT
          go_wp2
          go_ret2
          exact ⟨_, us, rfl, GI.base hG (by omega), hTw⟩
theorem specBuildIndex_any (A : Option Addr) (c : Nat) (rows : List GrantD) (w : World) (hr : RdR 18 w A (gcs rows)) (hl : rows.length ≤ 1048576) (hs : ∀ g ∈ rows, g.s.size ≤ maxLen) :
    Calls Tryz.prog 5 #[.agg #[.slice A rows.length c]] w (IdxOk w (idxG rows) (regOk rows)) := by
  unfold idxG
  cases q : regOk rows
  · have KV := Lib.hid (fun (w' : World) (hb : Below w.heap.size w w') => l16Good_any A c rows w' (hr.below hb) hl hs)
    rw [q] at KV
    have hG0 : GI ((w.alloc (.cells #[.slice A rows.length c] 31)).alloc (.cells #[] 53)) w.heap.size (.slice (some ⟨w.heap.size + 1, 0, none⟩) 0 0) [] [] := GI.none0 _ _ _ (by simp) (by omega)
    clear q hs hr
    go_enter Tryz.func5, Tryz.ntmps5
    go_wp2_with fail
    refine (KV.out _ (by (repeat (first | exact Below.refl _ _ | assumption | refine Below_al ?_ _ | refine Below.drew ?_ | refine Below_then ?_ (by assumption) | refine Below.setCell ?_ (by first | omega | (simp; done) | (simp; omega)) _)))).mono ?_
    rintro e w1 ⟨rfl, hb1⟩
    have hG1 := hG0.below hb1
    have hT : Below w.heap.size w w1 := by (repeat (first | exact Below.refl _ _ | assumption | refine Below_al ?_ _ | refine Below.drew ?_ | refine Below_then ?_ (by assumption) | refine Below.setCell ?_ (by first | omega | (simp; done) | (simp; omega)) _))
    clear hG0 hb1
    go_wp2
    go_ret2
    exact ⟨_, [], rfl, hG1, hT⟩
  · exact specBuildIndex_yes A c rows w hr hl hs q
end Go.Proofs.YtlonnkmfjijddaaGreatDoor
namespace Go.Proofs.YtlonnkmfjijddaaGreatDoor.fnExactBuildIndex
open Go.ChangeShapes Go.WideShapes Go.ChangeAt Go.RowKit
set_option linter.unusedVariables false

set_option maxHeartbeats 8000000 in
theorem walk (w : World) (A0 : Option Addr) (c0 : Nat) (z0 : List GrantD) (u0 : RdR 18 w A0 (gcs z0)) (l0 : z0.length ≤ maxLen) (s0 : ∀ g ∈ z0, g.s.size ≤ maxLen) :
    Calls Tryz.prog 3 #[.agg #[.slice A0 z0.length c0]] w fun e w' => e = .returned (.bool true) ∧ Below w.heap.size w w' := by
  go_enter Tryz.func3, Tryz.ntmps3
  go_wp2_with fail
  refine (szRegister_any A0 c0 z0 1048576 _ (u0.below (by (repeat (first | exact Below.refl _ _ | assumption | refine Below_al ?_ _ | refine Below.drew ?_ | refine Below_then ?_ (by assumption) | refine Below.setCell ?_ (by first | omega | (simp; done) | (simp; omega)) _)))) (by omega) (by omega) l0 s0).mono ?_
  rintro e y0 ⟨y, rfl, hy, hy0⟩
  have hT : Below w.heap.size w y0 := by (repeat (first | exact Below.refl _ _ | assumption | refine Below_al ?_ _ | refine Below.drew ?_ | refine Below_then ?_ (by assumption) | refine Below.setCell ?_ (by first | omega | (simp; done) | (simp; omega)) _))
  have hF : y0.heap[w.heap.size]? = some (.cells #[.slice A0 z0.length c0] 24 (0, 0)) := heap_keepB (heap_hit _ _ _ rfl) hy0
  clear hy0
  rcases hy with rfl | ⟨q0, q1, q2⟩
  · go_wp2
    go_ret
    exact ⟨rfl, hT⟩
  have HS := Lib.hid q2
  have hyn : ¬ y < 0 := by omega
  obtain ⟨zs, ok, hsm, KS, KI⟩ : ∃ (zs : List IL) (ok : Bool), SmallI zs ∧ (∀ (A : Option Addr) (w : World), RdR 18 w A (gcs z0) → Calls Tryz.prog 5 #[.agg #[.slice A z0.length z0.length]] w (IdxOk w zs ok)) ∧ (∀ (A : Option Addr) (w : World), RdR 18 w A (gcs z0) → Calls Tryz.prog 7 #[.agg #[.slice A z0.length z0.length]] w (IdxOk w zs ok)) := ⟨_, _, idx_small z0 HS.out, fun A w h => specBuildIndex_any A z0.length z0 w h HS.out s0, fun A w h => implBuildIndex_any A z0.length z0 w h HS.out s0 (Nat.le_refl _) l0⟩
  have KS' := Lib.hid KS
  have KI' := Lib.hid KI
  have hM : ¬ (1 + ((totI zs zs.length : Nat) : Int) < 0) := by omega
  have hM2 : ¬ (1 + 18 * (z0.length : Int) < 0) := by omega
  clear KS KI l0 s0 q0 q1 q2
  cases ok
  all_goals
    have cF := cell_of hF 0
    go_wp2_with fail
    refine (toRegister_any A0 c0 z0 _ (u0.below hT) HS.out).mono ?_
    rintro e y1 ⟨g1, rfl, ho1, hy1⟩
    have hT := Below_then hT hy1
    have hF := heap_keepB hF hy1
    clear hy1 cF
    go_wp2_with fail
    refine (KS'.out _ _ ho1.rd).mono ?_
    rintro e y2 ⟨wv, wus, rfl, hoW, hy2⟩
    have hT := Below_then hT hy2
    have hF := heap_keepB hF hy2
    have cF := cell_of hF 0
    have lW := hoW.ilt
    have hsz := hT.size
    have hFs := heap_lt hF
    clear hy2 ho1
    go_wp2_with fail
    refine (toRegister_any A0 c0 z0 _ (u0.below hT) HS.out).mono ?_
    rintro e y3 ⟨g2, rfl, hoX, hy3⟩
    have hgl := hoX.low
    have hg2 := heap_lt hoX.blk
    have hT := Below_al (Below_then hT hy3) (.cells #[.slice (some ⟨g2, 0, none⟩) z0.length z0.length] 31 (0, 0))
    have hF := heap_keepA (heap_keepB hF hy3) (.cells #[.slice (some ⟨g2, 0, none⟩) z0.length z0.length] 31 (0, 0))
    have hoW := (hoW.below hy3).below (Below_al (Below.refl _ _) (.cells #[.slice (some ⟨g2, 0, none⟩) z0.length z0.length] 31 (0, 0)))
    have hX : (y3.alloc (.cells #[.slice (some ⟨g2, 0, none⟩) z0.length z0.length] 31 (0, 0))).heap[y3.heap.size]? = some (.cells #[.slice (some ⟨g2, 0, none⟩) z0.length z0.length] 31 (0, 0)) := heap_hit _ _ _ rfl
    have hoX := hoX.below (Below_al (Below.refl _ _) (.cells #[.slice (some ⟨g2, 0, none⟩) z0.length z0.length] 31 (0, 0)))
    have cX := cell_of hX 0
    have hbl : w.heap.size < y3.heap.size ∧ g2 < y3.heap.size := by have := hy3.size; omega
    have hyy := hy3.size
    obtain ⟨BG, hBGd⟩ : ∃ b, b = (y3.alloc (.cells #[.slice (some ⟨g2, 0, none⟩) z0.length z0.length] 31 (0, 0))).heap.size := ⟨_, rfl⟩
    have hBG1 : y3.heap.size < BG := by rw [hBGd]; simp
    have HBG := Lib.hid hBGd
    clear hy3 cF hBGd
    go_wp2_with fail
    refine (KI'.out _ _ hoX.rd).mono ?_
    rintro e y4 ⟨gv, gus, rfl, hoG, hy4⟩
    rw [← HBG.out] at hoG
    have hT := Below_then hT hy4
    have hF := heap_keepB hF hy4
    have hX := heap_keepB hX hy4
    have hoX := hoX.below hy4
    have hoW := hoW.below hy4
    have lG := hoG.ilt
    have hs4 : BG ≤ y4.heap.size := by rw [HBG.out]; exact hy4.size
    clear hy4 cX
    go_wp2_with fail
    refine (eqIL hoG hoW hsm).mono ?_
    rintro e y5 ⟨rfl, hy5⟩
    have hT := Below_then hT hy5
    have hF := heap_keepB hF hy5
    have hX := heap_keepB hX hy5
    have hoX := hoX.below hy5
    have hoW := hoW.below hy5
    have hoG := hoG.below hy5
    have hs5 := hy5.size
    have cX := cell_of hX 0
    have cF := cell_of hF 0
    clear hy5
    go_wp2_with fail
    refine wp_region_noPanic ?_
    refine wp_region_held_drew (S := (fun w' => w'.cell? ⟨y3.heap.size, 0, none⟩ = some (.slice (some ⟨g2, 0, none⟩) z0.length z0.length : Value) ∧ w'.cell? ⟨w.heap.size, 0, none⟩ = some (.slice A0 z0.length c0 : Value) ∧ Below y5.heap.size y5 w')) (by kernel_rfl) ⟨cX, cF, (Below.refl _ _).drew⟩ (fun hHeld => ?_)
    refine wpAnyH_take (i := 0) (oi := _) (v := ?_) rfl (by kernel_rfl) (by kernel_rfl) (by kernel_rfl) (fun _ _ _ h => h) (Or.inl ⟨by rfl, ?_⟩) (by assumption) ?_
    rotate_left
    · intro w hSw; (try dsimp only at hSw); first | (go_simp; done) | (go_simp; with_reducible rfl)
    simp only [Act.put, List.getElem_toArray, List.getElem_cons_succ, List.getElem_cons_zero, List.setIfInBounds_toArray, List.set_cons_zero, List.set_cons_succ]
    refine wpAnyH_take (i := 1) (oi := _) (v := ?_) rfl (by kernel_rfl) (by kernel_rfl) (by kernel_rfl) (fun _ _ _ h => h) (Or.inl ⟨by rfl, ?_⟩) (by assumption) ?_
    rotate_left
    · intro w hSw; (try dsimp only at hSw); first | (go_simp; done) | (go_simp; with_reducible rfl)
    simp only [Act.put, List.getElem_toArray, List.getElem_cons_succ, List.getElem_cons_zero, List.setIfInBounds_toArray, List.set_cons_zero, List.set_cons_succ]
    refine wpAnyH_ready (rs := [2]) (by kernel_rfl) (by simp) ?_
    refine AllReadyH.cons (o := _) rfl (fun K hK => ?_) AllReadyH.nil
    go_simp
    refine (toRegister_any A0 c0 z0 _ (u0.below (Below_then hT hHeld.2.2)) HS.out).mono ?_
    rintro e v1 ⟨vg, rfl, vo, vh1⟩
    go_wp2_with fail
    refine hK.out _ _ ⟨keep_cell hHeld.1 vh1, keep_cell hHeld.2.1 vh1, Below_then hHeld.2.2 vh1⟩ (fun hHeld => ?_)
    clear hK K
    try simp only [Act.put, List.getElem_toArray, List.getElem_cons_succ, List.getElem_cons_zero, List.setIfInBounds_toArray, List.set_cons_zero, List.set_cons_succ]
    refine wpAnyH_ready (rs := [3]) (by kernel_rfl) (by simp) ?_
    refine AllReadyH.cons (o := _) rfl (fun K hK => ?_) AllReadyH.nil
    go_simp
    refine (eqRegister_same _ _ _ _ z0 _ (hoX.rd.below hHeld.2.2) vo.rd HS.out).mono ?_
    rintro e v2 ⟨rfl, vh2⟩
    go_wp2_with fail
    refine hK.out _ _ ⟨keep_cell hHeld.1 vh2, keep_cell hHeld.2.1 vh2, Below_then hHeld.2.2 vh2⟩ (fun hHeld => ?_)
    clear hK K
    try simp only [Act.put, List.getElem_toArray, List.getElem_cons_succ, List.getElem_cons_zero, List.setIfInBounds_toArray, List.set_cons_zero, List.set_cons_succ]
    refine wpAnyH_take (i := 4) (oi := _) (v := ?_) rfl (by kernel_rfl) (by kernel_rfl) (by kernel_rfl) (fun _ _ _ h => h) (Or.inl ⟨by rfl, ?_⟩) (by assumption) ?_
    rotate_left
    · intro w hSw; clear hSw; first | (go_simp; done) | (go_simp; with_reducible rfl)
    simp only [Act.put, List.getElem_toArray, List.getElem_cons_succ, List.getElem_cons_zero, List.setIfInBounds_toArray, List.set_cons_zero, List.set_cons_succ]
    refine wpAnyH_done (by kernel_rfl) ?_ _
    refine NoPanic.normal ?_
    have hb6 := hHeld.2.2
    have hT := Below_then hT hb6
    have hF := heap_keepB hF hb6
    have hX := heap_keepB hX hb6
    have hoX := hoX.below hb6
    have hoW := hoW.below hb6
    have hoG := hoG.below hb6
    have hs6 := hb6.size
    have cX := cell_of hX 0
    have hBk := hoX.toBlk
    rw [gcs_len] at hBk
    clear hb6 hHeld cF vh1 vh2 vo
    go_wp2_with fail
    refine (markRegister_any g2 z0.length z0.length 1 _ hBk HS.out (by omega) (by omega)).mono ?_
    rintro e y7 ⟨rfl, hg7⟩
    have hT := hT.grown hg7 hT.size (fun k hk => by injection hk with hk; omega)
    have hF := heap_keepG hF hg7 (fun e => by injection e with e; omega)
    have hoW := hoW.beside lW hg7 (fun k hk => by injection hk with hk; omega)
    have hoG := hoG.beside lG hg7 (fun k hk => by injection hk with hk; omega)
    have hs7 := hg7.size
    clear hg7 hoX hBk hX cX
    go_wp2_with fail
    refine (eqIL hoG hoW hsm).mono ?_
    rintro e y8 ⟨rfl, hy8⟩
    have hT := Below_then hT hy8
    have hF := heap_keepB hF hy8
    have hoW := hoW.below hy8
    have hoG := hoG.below hy8
    have hs8 := hy8.size
    clear hy8
    go_wp2_with fail
    refine (markIL BG _ zs _ 1 _ hoG hsm (by omega) (by omega) (by omega)).mono ?_
    rintro e y9 ⟨rfl, hmG, hb9⟩
    have hT := hT.trans (hb9.mono (by omega))
    have hF := (hb9.block _ (by omega)).trans hF
    have hoW := hoW.lower ⟨fun b hb => by have := lW.out b hb; omega, fun i u hu b hb => by have := lW.own i u hu b hb; omega⟩ hb9
    clear hb9 hoG
    go_wp2_with fail
    refine (heldIL BG _ zs _ 1 _ hmG hsm (by omega) (by omega)).mono ?_
    rintro e ya ⟨rfl, hya⟩
    have hT := Below_then hT hya
    have hF := heap_keepB hF hya
    have hoW := hoW.below hya
    have hmG := hmG.below hya
    have cF := cell_of hF 0
    clear hya
    go_wp2_with fail
    refine (toRegister_any A0 c0 z0 _ (u0.below hT) HS.out).mono ?_
    rintro e yb ⟨g3, rfl, ho3, hyb⟩
    have hT := Below_then hT hyb
    have hoW := hoW.below hyb
    have hmG := hmG.below hyb
    clear hyb cF hF
    go_wp2_with fail
    refine (KI'.out _ _ ho3.rd).mono ?_
    rintro e yc ⟨hv, hus, rfl, hoH, hyc⟩
    have hT := Below_then hT hyc
    have hoW := hoW.below hyc
    have hmG := hmG.below hyc
    clear hyc ho3
    go_wp2_with fail
    refine (eqIL hoH hoW hsm).mono ?_
    rintro e yd ⟨rfl, hyd⟩
    have hT := Below_then hT hyd
    have hmG := hmG.below hyd
    clear hyd hoH hoW
    go_wp2_with fail
    refine (heldIL BG _ zs _ 1 _ hmG hsm (by omega) (by omega)).mono ?_
    rintro e ye ⟨rfl, hye⟩
    have hT := Below_then hT hye
    clear hye hmG
    go_wp2
    go_ret
    exact ⟨rfl, hT⟩

/-! ### The row's step: written by a program of mine (frame.py) after the kit's shell -/
theorem laidOut : laidOutB Tryz.prog = true := by kernel_rfl
theorem door_met (os : Os) (args : Array Value) : laidMetH Tryz.prog Rows.fnExactBuildIndexRow.laid ((World.doorLaid Tryz.prog 400 os).forCall (fun _ _ => 0) ⟨#[], args, []⟩).memory :=
  laidMetH_of_parts3 (fuel := 8) (laidMet_of_run' 8 (by kernel_rfl) (by kernel_rfl)) (by kernel_rfl) (by kernel_rfl)
set_option maxRecDepth 100000 in
theorem lifted (os : Os) (started : os.Started) (H : Type) (enc : TypeId × Value → H) :
    ReturnsInHanded {} Tryz.checked os 3 .any (fun w args => (Rows.fnExactBuildIndexSpec.pre enc Tryz.prog Tryz.f3 [] false w args ∧ laidMetH Tryz.prog Rows.fnExactBuildIndexRow.laid w) ∧ sizedMet enc Tryz.prog Tryz.f3 (OpenSpec.ofChange Rows.fnExactBuildIndexSpec) false w args)
      (Rows.fnExactBuildIndexSpec.post enc Tryz.prog Tryz.f3 false true false false) := by
  refine returnsInHanded_of_change_and (C := Tryz.checked) (X := fun w _ => laidMetH Tryz.prog Rows.fnExactBuildIndexRow.laid w) (fun _ _ _ hh h => h.of_heap hh) own started (by kernel_rfl) Tryz.func3
    (ChangeSpec.witness_shaped (enc := enc) (C := Tryz.checked) (os := os) (X := fun w _ => laidMetH Tryz.prog Rows.fnExactBuildIndexRow.laid w) false (World.doorLaid Tryz.prog 400 os) #[.agg #[.slice none 0 0]] 8 rfl (World.shaped_of_RefB (by kernel_rfl) (by kernel_rfl)) (by kernel_rfl) (by kernel_rfl) (by kernel_rfl) (door_met os _)) ?_
  intro W base args ds gs before hval0 hW hcnd _ hL _
  try simp only [List.append_nil] at hW
  have hval : ∀ (j : Nat) t v, Tryz.f3.params[j]? = some t → args[j]? = some v → Value.okWide Tryz.prog W .any base t v := hval0
  have hW' := hW
  obtain ⟨p, q, hA0, hV, rfl, hfz, hnd⟩ := hW
  have hA : DataW.TrodAll enc Tryz.prog W 0 (fun _ => true) true Tryz.f3.params.toList args.toList ds p := hA0
  rw [Tryz.params3] at hA hval
  obtain ⟨v0, vs0, d0, ds0, p0, q0, hargs, rfl, rfl, h0, r0⟩ := trodAll_cons hA
  obtain ⟨rfl, rfl, rfl⟩ := trodAll_nil r0
  obtain rfl : args = #[v0] := by cases args; simp_all
  obtain ⟨rfl, rfl⟩ := trodVars_none hV
  have k0 := h0
  have lt0 : ∀ x ∈ p0, x.block < W.heap.size := by obtain ⟨m, hm⟩ := k0; exact DataW.trod_lt m _ _ _ hm
  obtain ⟨A0, c0, z0, rfl, u0, l0, s0⟩ := openRegister (hval 0 24 v0 rfl rfl) h0
  clear hA0 hval0
  refine (walk W A0 c0 z0 u0 l0 s0).mono fun e W' ⟨he, bel⟩ => ?_
  subst he
  exact ⟨_, rfl, _, _, _, [], _, [], hW', trodAll_mk1 (shut_bool Tryz.underlying4 _), (trodAll_cons_mk (Below.trod laidOut (by kernel_rfl) (of_decide_eq_true (by kernel_rfl)) k0 bel lt0) trodAll_mk0), rfl, bel.frame _, fun h => by cases h⟩

theorem over : Rows.FnExactBuildIndexSaid :=
  OpenClaim.holds_of_wide 3 Tryz.f3 rfl rfl rfl rfl rfl rfl rfl ⟨rfl, rfl, rfl, rfl, rfl⟩ rfl rfl rfl rfl rfl (by kernel_rfl) Tryz.func3 (by kernel_rfl)
    (of_decide_eq_true (by kernel_rfl)) (by unfold Func.isWrapper; first | (rw [if_pos (by decide +kernel)]; kernel_rfl) | (rw [if_neg (by decide +kernel)]; exact ⟨rfl, rfl⟩))
    (fun os started H enc _ => lifted os started H enc)

theorem proved : Rows.FnExactBuildIndexCardSaid :=
  Claim7.holds_tied_plain_at .later [] Rows.fnExactBuildIndexCard.laidKinds true Rows.fnExactBuildIndexCard.stood.harness false
    over (fun _ h => by cases h) (by kernel_rfl) (fun _ h => by cases h) fnExactBuildIndex_row_tie rfl ⟨rfl, rfl⟩ (by kernel_rfl) rfl
    (fun f fn hf hfn => by
      obtain rfl : f = 3 := Option.some.inj ((show Tryz.prog.funcNamed Rows.fnExactBuildIndexRow.func = some 3 by kernel_rfl).symm.trans hf) |>.symm
      obtain rfl : fn = Tryz.f3 := (Option.some.inj (Tryz.func3.symm.trans hfn)).symm
      exact ⟨by kernel_rfl, fun j t ht => by
        rw [Tryz.params3] at ht
        have hm : t ∈ ([24] : List TypeId) := by simpa using Array.mem_of_getElem? ht
        have hall : (([24] : List TypeId).all fun u => !Tryz.prog.wantsStandIn u) = true := by kernel_rfl
        exact (show Tryz.prog.wantsStandIn t = false by simpa using List.all_eq_true.1 hall t hm)⟩)
    (by kernel_rfl)
#print axioms proved

end Go.Proofs.YtlonnkmfjijddaaGreatDoor.fnExactBuildIndex
