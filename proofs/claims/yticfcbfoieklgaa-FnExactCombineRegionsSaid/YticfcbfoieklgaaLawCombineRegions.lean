/- FnExactCombineRegions: for all arguments CombineRegions of the program returns what CombineRegions of the reference returns. No condition. -/
import Derived.Test.YticfcbfoieklgaaRows
import Derived.Test.YticfcbfoieklgaaComb
import Derived.Test.YticfcbfoieklgaaRegArg
import Derived.Deep.RegionWith
namespace Go.Proofs.Yticfcbfoieklgaa.fnExactCombineRegions
open Go.ChangeShapes Go.WideShapes Go.ChangeAt Go.RowKit
set_option linter.unusedVariables false

def CutR (wy : World) (zs : List Int) (ok : Bool) (p q : Value) (wx : World) : Prop :=
  ∃ b v, p = .pointer (some ⟨b, 0, none⟩) ∧ q = .bool ok ∧ wx.heap[b]? = some (.cells #[v] 29 (0, 0)) ∧ wy.heap.size ≤ b ∧ OwnI wx wy.heap.size 3 v zs ∧ v.ownBlock ≠ some b ∧ Below wy.heap.size wy wx
theorem key (x y : List Int) (how : Int) (bx : ∀ v ∈ x, v < 2 ^ 63) (bY : ∀ v ∈ y, v < 2 ^ 63) (lx : x.length ≤ 1048576) (ly : y.length ≤ 1048576) : ∃ zs ok, (∀ w A B c d, RdI w A x → RdI w B y → Calls Try.prog 34 #[.agg #[.slice A x.length c], .agg #[.slice B y.length d], .int .i64 how] w (RegOk w zs ok)) ∧ (∀ w A B c d, RdI w A x → RdI w B y → Calls Try.prog 35 #[.agg #[.slice A x.length c], .agg #[.slice B y.length d], .int .i64 how] w (RegOk w zs ok)) ∧ zs.length ≤ 1000 := by
  by_cases h : regOk x = true ∧ regOk y = true ∧ 1 ≤ how ∧ how ≤ 3
  · obtain ⟨h1, h2, h3⟩ := h
    refine ⟨combL how x y, true, fun w A B c d r1 r2 => ?_, fun w A B c d r1 r2 => ?_, by rw [combL_len]; omega⟩
    · rw [regOk_24 h1, regOk_24 h2]
      exact specCombineRegions_yes A B c d x y how w r1 r2 h1 h2 h3
    · rw [regOk_24 h1, regOk_24 h2]
      exact CombineRegions_yes A B c d x y how w r1 r2 h1 h2 h3
  · exact ⟨[], false, fun w A B c d r1 r2 => specCombineRegions_no A B c d x y how w r1 r2 (by omega) (by omega) h, fun w A B c d r1 r2 => CombineRegions_no A B c d x y how w r1 r2 (by omega) (by omega) bx bY h, by simp⟩
theorem _root_.Go.Proofs.Yticfcbfoieklgaa.OwnI.apartR {w w' : World} {B B' : Nat} {T T' : TypeId} {v v' : Value} {zs zs' : List Int} (h : OwnI w B T v zs) (h' : OwnI w' B' T' v' zs') (hs : w.heap.size ≤ B') : v'.ownBlock = none ∨ v'.ownBlock ≠ v.ownBlock := by
  cases e : v'.ownBlock with
  | none => exact .inl rfl
  | some k =>
    refine .inr fun e' => ?_
    have h1 := World.ownsRow.lt h k e'.symm
    have h2 := World.ownsRow.lt h' k e
    omega
theorem heap_hitD (w : World) (o : Obj) : (w.alloc o).drew.heap[w.heap.size]? = some o := heap_hit w o _ rfl
theorem CutR.of_alloc {wy xs : World} {B : Nat} {v : Value} {zs : List Int} {ok : Bool} (g : OwnI xs B 3 v zs) (hb : Below wy.heap.size wy xs) (hB : wy.heap.size ≤ B) :
    CutR wy zs ok (.pointer (some ⟨xs.heap.size, 0, none⟩)) (.bool ok) (xs.alloc (.cells #[v] 29 (0, 0))) :=
  ⟨_, v, rfl, rfl, heap_hit _ _ _ rfl, hb.size, (OwnI.base g hB).alloc _, fun e => by have := g.lt _ e; omega, Below_al hb _⟩
theorem CutR.of_set {wy xs : World} {B b : Nat} {v u : Value} {zs : List Int} {ok : Bool} (hh : xs.heap[b]? = some (.cells #[u] 29 (0, 0))) (g : OwnI xs B 3 v zs) (hb : Below wy.heap.size wy xs) (hB : b < B) (hy : wy.heap.size ≤ b) :
    CutR wy zs ok (.pointer (some ⟨b, 0, none⟩)) (.bool ok) (xs.setCell ⟨b, 0, none⟩ v) :=
  ⟨_, v, rfl, rfl, by rw [heap_set _ _ _ _ _ _ hh]; rfl, hy, OwnI.base (ownsRow_setCell_below g hB _) (by omega), fun e => by have := g.lt _ e; omega, hb.setCell hy _⟩
theorem held2_set {a w : World} {p q r : Addr} {u v x : Value} (h : w.cell? p = some u ∧ w.cell? q = some v ∧ Below a.heap.size a w) (h1 : p.block ≠ r.block) (h2 : q.block ≠ r.block) (h3 : a.heap.size ≤ r.block) :
    (w.setCell r x).cell? p = some u ∧ (w.setCell r x).cell? q = some v ∧ Below a.heap.size a (w.setCell r x) := by
  refine ⟨?_, ?_, h.2.2.setCell h3 _⟩
  · have := h.1; simp only [World.cell?] at this ⊢; rw [heap_far _ _ _ _ h1]; exact this
  · have := h.2.1; simp only [World.cell?] at this ⊢; rw [heap_far _ _ _ _ h2]; exact this
theorem rd_on {w w1 w2 : World} {A : Option Addr} {zs : List Int} (h : RdI w A zs) (hb : Below w1.heap.size w1 w2) (e : w1.heap = w.heap := by rfl) : RdI w2 A zs := by
  have h1 : RdI w1 A zs := by
    rcases h with h | ⟨b, off, hA, hc⟩
    · exact .inl h
    · exact .inr ⟨b, off, hA, fun i hi => by have := hc i hi; simp only [World.cell?] at this ⊢; rw [e]; exact this⟩
  exact h1.below hb
set_option maxRecDepth 100000 in
set_option maxHeartbeats 4000000 in
theorem walk (w : World) (A0 : Option Addr) (c0 : Nat) (z0 : List Int) (u0 : RdI w A0 z0) (l0 : z0.length ≤ maxLen) (w0 : ∀ z ∈ z0, (Lit.int .i64 z).wf = true) (A1 : Option Addr) (c1 : Nat) (z1 : List Int) (u1 : RdI w A1 z1) (l1 : z1.length ≤ maxLen) (w1 : ∀ z ∈ z1, (Lit.int .i64 z).wf = true) (a2 : Int) (w2 : (Lit.int .i64 a2).wf = true) :
    Calls Try.prog 10 #[.agg #[.slice A0 z0.length c0], .agg #[.slice A1 z1.length c1], .int .i64 a2] w fun e w' => e = .returned (.bool true) ∧ Below w.heap.size w w' := by
  have HW := Lib.hid (show ∀ z ∈ z0, z < 2 ^ 63 from fun z hz => by have := w0 z hz; simp [Lit.wf] at this; omega)
  have HV := Lib.hid (show ∀ z ∈ z1, z < 2 ^ 63 from fun z hz => by have := w1 z hz; simp [Lit.wf] at this; omega)
  clear w0 w1 w2
  go_enter Try.func10, Try.ntmps10
  have hT := Below.refl w.heap.size w
  replace hT := Below_al hT (.cells #[.slice A0 z0.length c0] 34 (0, 0))
  have hF0 : ((w).alloc (.cells #[.slice A0 z0.length c0] 34 (0, 0))).heap[w.heap.size]? = some (.cells #[.slice A0 z0.length c0] 34 (0, 0)) := heap_hit _ _ _ (by simp)
  replace hT := Below_al hT (.cells #[.slice A1 z1.length c1] 34 (0, 0))
  replace hF0 := heap_keepA hF0 (.cells #[.slice A1 z1.length c1] 34 (0, 0))
  have hF1 : (((w).alloc (.cells #[.slice A0 z0.length c0] 34 (0, 0))).alloc (.cells #[.slice A1 z1.length c1] 34 (0, 0))).heap[w.heap.size + 1]? = some (.cells #[.slice A1 z1.length c1] 34 (0, 0)) := heap_hit _ _ _ (by simp)
  obtain ⟨z, hlez, horz, HZz⟩ := szRegion_fits A0 z0.length c0 1048576 (by omega) (by omega) l0
  have HZz' := Lib.hid HZz
  clear HZz
  have k_hF0_0 : _ = some (.slice A0 z0.length c0 : Value) := cell_of hF0 0
  go_wp2_with fail
  clear k_hF0_0
  refine (HZz'.out _).mono ?_
  rintro e y1 ⟨rfl, hy1⟩
  replace hT := Below_then hT hy1
  replace hF0 := heap_keepB hF0 hy1
  replace hF1 := heap_keepB hF1 hy1
  clear HZz'
  rcases horz with rfl | ⟨hpz, hqz⟩
  · go_wp2
    go_ret
    exact ⟨rfl, hT⟩
  have HX0 := Lib.hid (show z0.length ≤ 1048576 by omega)
  clear hqz
  obtain ⟨zz, hlezz, horzz, HZzz⟩ := szRegion_fits A1 z1.length c1 z (by omega) (by omega) l1
  have HZzz' := Lib.hid HZzz
  clear HZzz
  have k_hF1_0 : _ = some (.slice A1 z1.length c1 : Value) := cell_of hF1 0
  go_wp2_with fail
  clear k_hF1_0
  refine (HZzz'.out _).mono ?_
  rintro e y2 ⟨rfl, hy2⟩
  replace hT := Below_then hT hy2
  replace hF0 := heap_keepB hF0 hy2
  replace hF1 := heap_keepB hF1 hy2
  clear HZzz'
  rcases horzz with rfl | ⟨hpzz, hqzz⟩
  · go_wp2
    go_ret
    exact ⟨rfl, hT⟩
  have HX1 := Lib.hid (show z1.length ≤ 1048576 by omega)
  clear hqzz
  have HL0 := Lib.hid (show z0.length ≤ 1099511627776 by have := HX0.out; omega)
  have HL1 := Lib.hid (show z1.length ≤ 1099511627776 by have := HX1.out; omega)
  obtain ⟨zs, ok, KS, KI, hlen⟩ := key z0 z1 a2 HW.out HV.out HX0.out HX1.out
  have KS' := Lib.hid KS
  have KI' := Lib.hid KI
  clear KS KI
  go_upto_region 8 with (fail)
  go_cut [8, 9] (fun p q wx => CutR y2 zs ok p q wx)
  case first =>
    have k_hF0_0 : _ = some (.slice A0 z0.length c0 : Value) := cell_of hF0 0
    have k_hF1_0 : _ = some (.slice A1 z1.length c1 : Value) := cell_of hF1 0
    have hz0 := heap_lt hF1
    go_region_held3 (fun w' => w'.cell? ⟨w.heap.size, 0, none⟩ = some (.slice A0 z0.length c0 : Value) ∧ w'.cell? ⟨w.heap.size + 1, 0, none⟩ = some (.slice A1 z1.length c1 : Value) ∧ Below y2.heap.size y2 w') (first | assumption | exact held2 (by assumption) (by assumption) | exact held2 (by assumption) (Below_al (Below.refl _ _) _) | exact held2 sx (Below_al (Below.refl _ _) _) | exact held2_set sx (by simp; omega) (by simp; omega) (by first | (simp; done) | (simp; omega)) | exact ⟨k_hF0_0, k_hF1_0, Below.refl _ _⟩ | exact ⟨k_hF0_0, k_hF1_0, (Below.refl _ _).drew⟩) (first | (go_at_call 30; obtain ⟨s1, s2, sb⟩ : _ ∧ _ ∧ Below y2.heap.size y2 _ := (by assumption); first | ((with_reducible refine (toRegion_any A0 c0 z0 _ (RdI.below u0 (Below_then hT sb)) HL0.out).mono ?_); rintro e x0 ⟨v0, rfl, g0, b0⟩; obtain ⟨B0, d0, rfl, r0⟩ := g0.form; (try (first | (replace r1 := rd_on r1 b0) | (replace r1 := rd_on (r1.alloc _) b0))); obtain ⟨hc0, hf0⟩ := bcell b0; have t0 := b0.size; (try simp only [World.size_alloc, World.size_drew] at t0); (try have qx00 : y2.heap.size < x0.heap.size := by omega); (try have qx01 : x1.heap.size < x0.heap.size := by omega)) | ((with_reducible refine (toRegion_any A1 c1 z1 _ (RdI.below u1 (Below_then hT sb)) HL1.out).mono ?_); rintro e x1 ⟨v1, rfl, g1, b1⟩; obtain ⟨B1, d1, rfl, r1⟩ := g1.form; (try (first | (replace r0 := rd_on r0 b1) | (replace r0 := rd_on (r0.alloc _) b1))); obtain ⟨hc1, hf1⟩ := bcell b1; have t1 := b1.size; (try simp only [World.size_alloc, World.size_drew] at t1); (try have qx10 : y2.heap.size < x1.heap.size := by omega); (try have qx11 : x0.heap.size < x1.heap.size := by omega))) | (go_at_call 34; obtain ⟨s1, s2, sb⟩ : _ ∧ _ ∧ Below y2.heap.size y2 _ := (by assumption); have hS := And.intro s1 (And.intro s2 sb); refine (KS'.out _ B0 B1 d0 d1 ?_ ?_).mono ?_; (first | exact r0 | exact r0.alloc _); (first | exact r1 | exact r1.alloc _); rintro e xs ⟨v, rfl, g, bs⟩; obtain ⟨B, d, rfl, r⟩ := g.form; have sx := held2 hS bs; have hyb := sb.size; obtain ⟨hc, hf⟩ := bcell bs; have ts := bs.size; (try simp only [World.size_alloc, World.size_drew] at ts); (try have qxs0 : y2.heap.size < xs.heap.size := by omega); (try have qxs1 : x0.heap.size < xs.heap.size := by omega); (try have qxs2 : x1.heap.size < xs.heap.size := by omega)))
    all_goals (go_wp2_with fail)
    all_goals go_meet
    all_goals first | exact CutR.of_alloc g sx.2.2 hyb | exact CutR.of_set (heap_keepB (heap_hit _ _ _ rfl) bs) g sx.2.2 (by simp) (by omega) | exact CutR.of_set (heap_keepB (heap_keepB (heap_hit _ _ _ rfl) b1) bs) g sx.2.2 (by omega) (by omega) | exact CutR.of_set (heap_keepB (heap_keepB (heap_keepB (heap_hitD _ _) b0) b1) bs) g sx.2.2 (by omega) (by omega)
  case rest =>
    obtain ⟨bw, vw, rfl, rfl, hW, hlw, how, hnw, hbw⟩ := hcut
    have lt_hF0 := heap_lt hF0
    have lt_hF1 := heap_lt hF1
    have hbs := hT.size
    have hne_how_hF0 := ownBlock_ne (b := w.heap.size) how (.inl lt_hF0)
    have NE_how_hF0 := Lib.hid hne_how_hF0
    clear hne_how_hF0
    have hne_how_hF1 := ownBlock_ne (b := w.heap.size + 1) how (.inl lt_hF1)
    have NE_how_hF1 := Lib.hid hne_how_hF1
    clear hne_how_hF1
    have htop : ∀ k, vw.ownBlock = some k → w.heap.size ≤ k := fun k hk => Nat.le_trans hbs (OwnI.lt how k hk).1
    have TOP_how := Lib.hid htop
    clear htop
    clear lt_hF0 lt_hF1 hbs
    replace hT := Below_then hT hbw
    replace hF0 := heap_keepB hF0 hbw
    replace hF1 := heap_keepB hF1 hbw
    have hne_how_hW := hnw
    have NE_how_hW := Lib.hid hne_how_hW
    clear hne_how_hW hnw hlw
    obtain ⟨Aw, cw, rfl, -⟩ := how.form
    have k_hF0_0 : _ = some (.slice A0 z0.length c0 : Value) := cell_of hF0 0
    go_wp2_with fail
    clear k_hF0_0
    have lt_hF0 := heap_lt hF0
    have lt_hF1 := heap_lt hF1
    have lt_hW := heap_lt hW
    have hbs := hT.size
    refine (toRegion_any A0 c0 z0 _ (RdI.below u0 hT) HL0.out).mono ?_
    rintro e y3 ⟨v_x0, rfl, ho_x0, hy3⟩
    have hne_ho_x0_hF0 := ownBlock_ne (b := w.heap.size) ho_x0 (.inl lt_hF0)
    have NE_ho_x0_hF0 := Lib.hid hne_ho_x0_hF0
    clear hne_ho_x0_hF0
    have hne_ho_x0_hF1 := ownBlock_ne (b := w.heap.size + 1) ho_x0 (.inl lt_hF1)
    have NE_ho_x0_hF1 := Lib.hid hne_ho_x0_hF1
    clear hne_ho_x0_hF1
    have hne_ho_x0_hW := ownBlock_ne (b := bw) ho_x0 (.inl lt_hW)
    have NE_ho_x0_hW := Lib.hid hne_ho_x0_hW
    clear hne_ho_x0_hW
    have hap := how.apart ho_x0 (Nat.le_refl _)
    have AP_how_ho_x0 := Lib.hid hap
    clear hap
    have hap := how.apartR ho_x0 (Nat.le_refl _)
    have AP_ho_x0_how := Lib.hid hap
    clear hap
    have htop : ∀ k, v_x0.ownBlock = some k → w.heap.size ≤ k := fun k hk => Nat.le_trans hbs (OwnI.lt ho_x0 k hk).1
    have TOP_ho_x0 := Lib.hid htop
    clear htop
    clear hbs lt_hF0 lt_hF1 lt_hW
    replace hT := Below_then hT hy3
    replace hF0 := heap_keepB hF0 hy3
    replace hF1 := heap_keepB hF1 hy3
    replace hW := heap_keepB hW hy3
    replace how := how.below hy3
    obtain ⟨B_x0, d_x0, rfl, hr_x0⟩ := ho_x0.form
    have hne := ownBlock_ne (b := y3.heap.size) how (.inr (Nat.le_refl _))
    have NE_how_hX0 := Lib.hid hne
    clear hne
    have hne := ownBlock_ne (b := y3.heap.size) ho_x0 (.inr (Nat.le_refl _))
    have NE_ho_x0_hX0 := Lib.hid hne
    clear hne
    replace hT := Below_al hT (.cells #[.slice B_x0 z0.length d_x0] 29 (0, 0))
    replace hF0 := heap_keepA hF0 (.cells #[.slice B_x0 z0.length d_x0] 29 (0, 0))
    replace hF1 := heap_keepA hF1 (.cells #[.slice B_x0 z0.length d_x0] 29 (0, 0))
    replace hW := heap_keepA hW (.cells #[.slice B_x0 z0.length d_x0] 29 (0, 0))
    replace how := how.alloc (.cells #[.slice B_x0 z0.length d_x0] 29 (0, 0))
    replace ho_x0 := ho_x0.alloc (.cells #[.slice B_x0 z0.length d_x0] 29 (0, 0))
    replace hr_x0 := hr_x0.alloc (.cells #[.slice B_x0 z0.length d_x0] 29 (0, 0))
    have hX0 : (y3.alloc (.cells #[.slice B_x0 z0.length d_x0] 29 (0, 0))).heap[y3.heap.size]? = some (.cells #[.slice B_x0 z0.length d_x0] 29 (0, 0)) := heap_hit _ _ _ rfl
    have k_hF1_0 : _ = some (.slice A1 z1.length c1 : Value) := cell_of hF1 0
    go_wp2_with fail
    clear k_hF1_0
    have lt_hF0 := heap_lt hF0
    have lt_hF1 := heap_lt hF1
    have lt_hW := heap_lt hW
    have lt_hX0 := heap_lt hX0
    have hbs := hT.size
    refine (toRegion_any A1 c1 z1 _ (RdI.below u1 hT) HL1.out).mono ?_
    rintro e y4 ⟨v_x1, rfl, ho_x1, hy4⟩
    have hne_ho_x1_hF0 := ownBlock_ne (b := w.heap.size) ho_x1 (.inl lt_hF0)
    have NE_ho_x1_hF0 := Lib.hid hne_ho_x1_hF0
    clear hne_ho_x1_hF0
    have hne_ho_x1_hF1 := ownBlock_ne (b := w.heap.size + 1) ho_x1 (.inl lt_hF1)
    have NE_ho_x1_hF1 := Lib.hid hne_ho_x1_hF1
    clear hne_ho_x1_hF1
    have hne_ho_x1_hW := ownBlock_ne (b := bw) ho_x1 (.inl lt_hW)
    have NE_ho_x1_hW := Lib.hid hne_ho_x1_hW
    clear hne_ho_x1_hW
    have hne_ho_x1_hX0 := ownBlock_ne (b := y3.heap.size) ho_x1 (.inl lt_hX0)
    have NE_ho_x1_hX0 := Lib.hid hne_ho_x1_hX0
    clear hne_ho_x1_hX0
    have hap := how.apart ho_x1 (Nat.le_refl _)
    have AP_how_ho_x1 := Lib.hid hap
    clear hap
    have hap := how.apartR ho_x1 (Nat.le_refl _)
    have AP_ho_x1_how := Lib.hid hap
    clear hap
    have hap := ho_x0.apart ho_x1 (Nat.le_refl _)
    have AP_ho_x0_ho_x1 := Lib.hid hap
    clear hap
    have hap := ho_x0.apartR ho_x1 (Nat.le_refl _)
    have AP_ho_x1_ho_x0 := Lib.hid hap
    clear hap
    have htop : ∀ k, v_x1.ownBlock = some k → w.heap.size ≤ k := fun k hk => Nat.le_trans hbs (OwnI.lt ho_x1 k hk).1
    have TOP_ho_x1 := Lib.hid htop
    clear htop
    clear hbs lt_hF0 lt_hF1 lt_hW lt_hX0
    replace hT := Below_then hT hy4
    replace hF0 := heap_keepB hF0 hy4
    replace hF1 := heap_keepB hF1 hy4
    replace hW := heap_keepB hW hy4
    replace how := how.below hy4
    replace ho_x0 := ho_x0.below hy4
    replace hr_x0 := hr_x0.below hy4
    replace hX0 := heap_keepB hX0 hy4
    obtain ⟨B_x1, d_x1, rfl, hr_x1⟩ := ho_x1.form
    have hne := ownBlock_ne (b := y4.heap.size) how (.inr (Nat.le_refl _))
    have NE_how_hX1 := Lib.hid hne
    clear hne
    have hne := ownBlock_ne (b := y4.heap.size) ho_x0 (.inr (Nat.le_refl _))
    have NE_ho_x0_hX1 := Lib.hid hne
    clear hne
    have hne := ownBlock_ne (b := y4.heap.size) ho_x1 (.inr (Nat.le_refl _))
    have NE_ho_x1_hX1 := Lib.hid hne
    clear hne
    replace hT := Below_al hT (.cells #[.slice B_x1 z1.length d_x1] 29 (0, 0))
    replace hF0 := heap_keepA hF0 (.cells #[.slice B_x1 z1.length d_x1] 29 (0, 0))
    replace hF1 := heap_keepA hF1 (.cells #[.slice B_x1 z1.length d_x1] 29 (0, 0))
    replace hW := heap_keepA hW (.cells #[.slice B_x1 z1.length d_x1] 29 (0, 0))
    replace how := how.alloc (.cells #[.slice B_x1 z1.length d_x1] 29 (0, 0))
    replace ho_x0 := ho_x0.alloc (.cells #[.slice B_x1 z1.length d_x1] 29 (0, 0))
    replace hr_x0 := hr_x0.alloc (.cells #[.slice B_x1 z1.length d_x1] 29 (0, 0))
    replace hX0 := heap_keepA hX0 (.cells #[.slice B_x1 z1.length d_x1] 29 (0, 0))
    replace ho_x1 := ho_x1.alloc (.cells #[.slice B_x1 z1.length d_x1] 29 (0, 0))
    replace hr_x1 := hr_x1.alloc (.cells #[.slice B_x1 z1.length d_x1] 29 (0, 0))
    have hX1 : (y4.alloc (.cells #[.slice B_x1 z1.length d_x1] 29 (0, 0))).heap[y4.heap.size]? = some (.cells #[.slice B_x1 z1.length d_x1] 29 (0, 0)) := heap_hit _ _ _ rfl
    have k_hX0_0 : _ = some (.slice B_x0 z0.length d_x0 : Value) := cell_of hX0 0
    have k_hX1_0 : _ = some (.slice B_x1 z1.length d_x1 : Value) := cell_of hX1 0
    go_wp2_with fail
    clear k_hX0_0 k_hX1_0
    have lt_hF0 := heap_lt hF0
    have lt_hF1 := heap_lt hF1
    have lt_hW := heap_lt hW
    have lt_hX0 := heap_lt hX0
    have lt_hX1 := heap_lt hX1
    have hbs := hT.size
    refine (KI'.out _ B_x0 B_x1 d_x0 d_x1 hr_x0 hr_x1).mono ?_
    rintro e y5 ⟨v_g, rfl, ho_g, hy5⟩
    have hne_ho_g_hF0 := ownBlock_ne (b := w.heap.size) ho_g (.inl lt_hF0)
    have NE_ho_g_hF0 := Lib.hid hne_ho_g_hF0
    clear hne_ho_g_hF0
    have hne_ho_g_hF1 := ownBlock_ne (b := w.heap.size + 1) ho_g (.inl lt_hF1)
    have NE_ho_g_hF1 := Lib.hid hne_ho_g_hF1
    clear hne_ho_g_hF1
    have hne_ho_g_hW := ownBlock_ne (b := bw) ho_g (.inl lt_hW)
    have NE_ho_g_hW := Lib.hid hne_ho_g_hW
    clear hne_ho_g_hW
    have hne_ho_g_hX0 := ownBlock_ne (b := y3.heap.size) ho_g (.inl lt_hX0)
    have NE_ho_g_hX0 := Lib.hid hne_ho_g_hX0
    clear hne_ho_g_hX0
    have hne_ho_g_hX1 := ownBlock_ne (b := y4.heap.size) ho_g (.inl lt_hX1)
    have NE_ho_g_hX1 := Lib.hid hne_ho_g_hX1
    clear hne_ho_g_hX1
    have hap := how.apart ho_g (Nat.le_refl _)
    have AP_how_ho_g := Lib.hid hap
    clear hap
    have hap := how.apartR ho_g (Nat.le_refl _)
    have AP_ho_g_how := Lib.hid hap
    clear hap
    have hap := ho_x0.apart ho_g (Nat.le_refl _)
    have AP_ho_x0_ho_g := Lib.hid hap
    clear hap
    have hap := ho_x0.apartR ho_g (Nat.le_refl _)
    have AP_ho_g_ho_x0 := Lib.hid hap
    clear hap
    have hap := ho_x1.apart ho_g (Nat.le_refl _)
    have AP_ho_x1_ho_g := Lib.hid hap
    clear hap
    have hap := ho_x1.apartR ho_g (Nat.le_refl _)
    have AP_ho_g_ho_x1 := Lib.hid hap
    clear hap
    have htop : ∀ k, v_g.ownBlock = some k → w.heap.size ≤ k := fun k hk => Nat.le_trans hbs (OwnI.lt ho_g k hk).1
    have TOP_ho_g := Lib.hid htop
    clear htop
    clear hbs lt_hF0 lt_hF1 lt_hW lt_hX0 lt_hX1
    replace hT := Below_then hT hy5
    replace hF0 := heap_keepB hF0 hy5
    replace hF1 := heap_keepB hF1 hy5
    replace hW := heap_keepB hW hy5
    replace how := how.below hy5
    replace ho_x0 := ho_x0.below hy5
    replace hr_x0 := hr_x0.below hy5
    replace hX0 := heap_keepB hX0 hy5
    replace ho_x1 := ho_x1.below hy5
    replace hr_x1 := hr_x1.below hy5
    replace hX1 := heap_keepB hX1 hy5
    obtain ⟨B_g, d_g, rfl, -⟩ := ho_g.form
    have hne := ownBlock_ne (b := y5.heap.size) how (.inr (Nat.le_refl _))
    have NE_how_hG := Lib.hid hne
    clear hne
    have hne := ownBlock_ne (b := y5.heap.size) ho_x0 (.inr (Nat.le_refl _))
    have NE_ho_x0_hG := Lib.hid hne
    clear hne
    have hne := ownBlock_ne (b := y5.heap.size) ho_x1 (.inr (Nat.le_refl _))
    have NE_ho_x1_hG := Lib.hid hne
    clear hne
    have hne := ownBlock_ne (b := y5.heap.size) ho_g (.inr (Nat.le_refl _))
    have NE_ho_g_hG := Lib.hid hne
    clear hne
    replace hT := Below_al hT (.cells #[.slice B_g zs.length d_g] 29 (0, 0))
    replace hF0 := heap_keepA hF0 (.cells #[.slice B_g zs.length d_g] 29 (0, 0))
    replace hF1 := heap_keepA hF1 (.cells #[.slice B_g zs.length d_g] 29 (0, 0))
    replace hW := heap_keepA hW (.cells #[.slice B_g zs.length d_g] 29 (0, 0))
    replace how := how.alloc (.cells #[.slice B_g zs.length d_g] 29 (0, 0))
    replace ho_x0 := ho_x0.alloc (.cells #[.slice B_g zs.length d_g] 29 (0, 0))
    replace hr_x0 := hr_x0.alloc (.cells #[.slice B_g zs.length d_g] 29 (0, 0))
    replace hX0 := heap_keepA hX0 (.cells #[.slice B_g zs.length d_g] 29 (0, 0))
    replace ho_x1 := ho_x1.alloc (.cells #[.slice B_g zs.length d_g] 29 (0, 0))
    replace hr_x1 := hr_x1.alloc (.cells #[.slice B_g zs.length d_g] 29 (0, 0))
    replace hX1 := heap_keepA hX1 (.cells #[.slice B_g zs.length d_g] 29 (0, 0))
    replace ho_g := ho_g.alloc (.cells #[.slice B_g zs.length d_g] 29 (0, 0))
    have hG : (y5.alloc (.cells #[.slice B_g zs.length d_g] 29 (0, 0))).heap[y5.heap.size]? = some (.cells #[.slice B_g zs.length d_g] 29 (0, 0)) := heap_hit _ _ _ rfl
    have k_hG_0 : _ = some (.slice B_g zs.length d_g : Value) := cell_of hG 0
    have k_hW_0 : _ = some (.slice Aw zs.length cw : Value) := cell_of hW 0
    go_wp2_with fail
    clear k_hG_0 k_hW_0
    refine (eqRegion_same zs _ ho_g how (by omega)).mono ?_
    rintro e y6 ⟨rfl, hy6⟩
    replace hT := Below_then hT hy6
    replace hF0 := heap_keepB hF0 hy6
    replace hF1 := heap_keepB hF1 hy6
    replace hW := heap_keepB hW hy6
    replace how := how.below hy6
    replace ho_x0 := ho_x0.below hy6
    replace hr_x0 := hr_x0.below hy6
    replace hX0 := heap_keepB hX0 hy6
    replace ho_x1 := ho_x1.below hy6
    replace hr_x1 := hr_x1.below hy6
    replace hX1 := heap_keepB hX1 hy6
    replace ho_g := ho_g.below hy6
    replace hG := heap_keepB hG hy6
    have k_hF0_0 : _ = some (.slice A0 z0.length c0 : Value) := cell_of hF0 0
    have k_hX0_0 : _ = some (.slice B_x0 z0.length d_x0 : Value) := cell_of hX0 0
    go_wp2_with fail
    have hTs := hT
    go_region_held3 (fun w' => w'.cell? ⟨w.heap.size, 0, none⟩ = some (.slice A0 z0.length c0 : Value) ∧ w'.cell? ⟨y3.heap.size, 0, none⟩ = some (.slice B_x0 z0.length d_x0 : Value) ∧ RdI w' B_x0 z0 ∧ Below y6.heap.size y6 w') (first | assumption | exact keepA (by assumption) (by assumption) | exact ⟨k_hF0_0, k_hX0_0, hr_x0, Below.refl _ _⟩ | exact ⟨k_hF0_0, k_hX0_0, hr_x0, (Below.refl _ _).drew⟩) (first | (go_at_call 30; obtain ⟨-, -, sr, sb⟩ : _ ∧ _ ∧ RdI _ B_x0 z0 ∧ Below y6.heap.size y6 _ := (by assumption); refine (toRegion_any A0 c0 z0 _ (RdI.below u0 (Below_then hTs sb)) HL0.out).mono ?_; rintro e p7 ⟨uu, rfl, gg, bb⟩; obtain ⟨CC, ee, rfl, xr⟩ := gg.form) | (go_at_call 25; obtain ⟨-, -, sr, sb⟩ : _ ∧ _ ∧ RdI _ B_x0 z0 ∧ Below y6.heap.size y6 _ := (by assumption); refine (eqRegion_refl B_x0 CC _ _ z0 _ sr xr HL0.out).mono ?_; rintro e y7 ⟨rfl, bc⟩))
    obtain ⟨-, -, -, hbn⟩ : _ ∧ _ ∧ _ ∧ Below y6.heap.size y6 _ := (by assumption)
    clear k_hF0_0 k_hX0_0 hTs
    replace hT := Below_then hT hbn
    replace hF0 := heap_keepB hF0 hbn
    replace hF1 := heap_keepB hF1 hbn
    replace hW := heap_keepB hW hbn
    replace how := how.below hbn
    replace ho_x0 := ho_x0.below hbn
    replace hr_x0 := hr_x0.below hbn
    replace hX0 := heap_keepB hX0 hbn
    replace ho_x1 := ho_x1.below hbn
    replace hr_x1 := hr_x1.below hbn
    replace hX1 := heap_keepB hX1 hbn
    replace ho_g := ho_g.below hbn
    replace hG := heap_keepB hG hbn
    clear hbn
    have k_hF1_0 : _ = some (.slice A1 z1.length c1 : Value) := cell_of hF1 0
    have k_hX1_0 : _ = some (.slice B_x1 z1.length d_x1 : Value) := cell_of hX1 0
    go_wp2_with fail
    have hTs := hT
    go_region_held3 (fun w' => w'.cell? ⟨w.heap.size + 1, 0, none⟩ = some (.slice A1 z1.length c1 : Value) ∧ w'.cell? ⟨y4.heap.size, 0, none⟩ = some (.slice B_x1 z1.length d_x1 : Value) ∧ RdI w' B_x1 z1 ∧ Below y7.heap.size y7 w') (first | assumption | exact keepA (by assumption) (by assumption) | exact ⟨k_hF1_0, k_hX1_0, hr_x1, Below.refl _ _⟩ | exact ⟨k_hF1_0, k_hX1_0, hr_x1, (Below.refl _ _).drew⟩) (first | (go_at_call 30; obtain ⟨-, -, sr, sb⟩ : _ ∧ _ ∧ RdI _ B_x1 z1 ∧ Below y7.heap.size y7 _ := (by assumption); refine (toRegion_any A1 c1 z1 _ (RdI.below u1 (Below_then hTs sb)) HL1.out).mono ?_; rintro e p8 ⟨uu, rfl, gg, bb⟩; obtain ⟨CC, ee, rfl, xr⟩ := gg.form) | (go_at_call 25; obtain ⟨-, -, sr, sb⟩ : _ ∧ _ ∧ RdI _ B_x1 z1 ∧ Below y7.heap.size y7 _ := (by assumption); refine (eqRegion_refl B_x1 CC _ _ z1 _ sr xr HL1.out).mono ?_; rintro e y8 ⟨rfl, bc⟩))
    obtain ⟨-, -, -, hbn⟩ : _ ∧ _ ∧ _ ∧ Below y7.heap.size y7 _ := (by assumption)
    clear k_hF1_0 k_hX1_0 hTs
    replace hT := Below_then hT hbn
    replace hF0 := heap_keepB hF0 hbn
    replace hF1 := heap_keepB hF1 hbn
    replace hW := heap_keepB hW hbn
    replace how := how.below hbn
    replace ho_x0 := ho_x0.below hbn
    replace hr_x0 := hr_x0.below hbn
    replace hX0 := heap_keepB hX0 hbn
    replace ho_x1 := ho_x1.below hbn
    replace hr_x1 := hr_x1.below hbn
    replace hX1 := heap_keepB hX1 hbn
    replace ho_g := ho_g.below hbn
    replace hG := heap_keepB hG hbn
    clear hbn
    clear hr_x0 hr_x1
    have hm0 := HX0.out
    have hm1 := HX1.out
    have k_hX0_0 : _ = some (.slice B_x0 z0.length d_x0 : Value) := cell_of hX0 0
    go_wp2_with fail
    clear k_hX0_0
    refine (markRegion_any _ _ z0 1 _ ho_x0 (by omega) (by omega) (by omega)).mono ?_
    rintro e y9 ⟨rfl, hm, hg⟩
    replace hT := hT.grown hg hT.size TOP_ho_x0.out
    replace hF0 := heap_keepG hF0 hg NE_ho_x0_hF0.out
    replace hF1 := heap_keepG hF1 hg NE_ho_x0_hF1.out
    replace hW := heap_keepG hW hg NE_ho_x0_hW.out
    replace how := how.other hg AP_how_ho_x0.out
    replace hX0 := heap_keepG hX0 hg NE_ho_x0_hX0.out
    replace ho_x1 := ho_x1.other hg AP_ho_x1_ho_x0.out
    replace hX1 := heap_keepG hX1 hg NE_ho_x0_hX1.out
    replace ho_g := ho_g.other hg AP_ho_g_ho_x0.out
    replace hG := heap_keepG hG hg NE_ho_x0_hG.out
    replace ho_x0 := hm
    clear hm hg
    have k_hX1_0 : _ = some (.slice B_x1 z1.length d_x1 : Value) := cell_of hX1 0
    go_wp2_with fail
    clear k_hX1_0
    refine (markRegion_any _ _ z1 _ _ ho_x1 (by omega) (by omega) (by omega)).mono ?_
    rintro e y10 ⟨rfl, hm, hg⟩
    replace hT := hT.grown hg hT.size TOP_ho_x1.out
    replace hF0 := heap_keepG hF0 hg NE_ho_x1_hF0.out
    replace hF1 := heap_keepG hF1 hg NE_ho_x1_hF1.out
    replace hW := heap_keepG hW hg NE_ho_x1_hW.out
    replace how := how.other hg AP_how_ho_x1.out
    replace ho_x0 := ho_x0.other hg AP_ho_x0_ho_x1.out
    replace hX0 := heap_keepG hX0 hg NE_ho_x1_hX0.out
    replace hX1 := heap_keepG hX1 hg NE_ho_x1_hX1.out
    replace ho_g := ho_g.other hg AP_ho_g_ho_x1.out
    replace hG := heap_keepG hG hg NE_ho_x1_hG.out
    replace ho_x1 := hm
    clear hm hg
    obtain ⟨k2, hk2⟩ : ∃ k : Int, k = 1 + ↑z0.length + ↑z1.length := ⟨_, rfl⟩
    rw [← hk2]
    have hk0 : 0 ≤ k2 := by omega
    clear hk2 hm0 hm1
    have k_hG_0 : _ = some (.slice B_g zs.length d_g : Value) := cell_of hG 0
    have k_hW_0 : _ = some (.slice Aw zs.length cw : Value) := cell_of hW 0
    go_wp2_with fail
    clear k_hG_0 k_hW_0
    refine (eqRegion_same zs _ ho_g how (by omega)).mono ?_
    rintro e y11 ⟨rfl, hy11⟩
    replace hT := Below_then hT hy11
    replace hF0 := heap_keepB hF0 hy11
    replace hF1 := heap_keepB hF1 hy11
    replace hW := heap_keepB hW hy11
    replace how := how.below hy11
    replace ho_x0 := ho_x0.below hy11
    replace hX0 := heap_keepB hX0 hy11
    replace ho_x1 := ho_x1.below hy11
    replace hX1 := heap_keepB hX1 hy11
    replace ho_g := ho_g.below hy11
    replace hG := heap_keepB hG hy11
    have k_hG_0 : _ = some (.slice B_g zs.length d_g : Value) := cell_of hG 0
    go_wp2_with fail
    clear k_hG_0
    refine (markRegion_any _ _ zs 1 _ ho_g (by omega) (by omega) (by omega)).mono ?_
    rintro e y12 ⟨rfl, hm, hg⟩
    replace hT := hT.grown hg hT.size TOP_ho_g.out
    replace hF0 := heap_keepG hF0 hg NE_ho_g_hF0.out
    replace hF1 := heap_keepG hF1 hg NE_ho_g_hF1.out
    replace hW := heap_keepG hW hg NE_ho_g_hW.out
    replace how := how.other hg AP_how_ho_g.out
    replace ho_x0 := ho_x0.other hg AP_ho_x0_ho_g.out
    replace hX0 := heap_keepG hX0 hg NE_ho_g_hX0.out
    replace ho_x1 := ho_x1.other hg AP_ho_x1_ho_g.out
    replace hX1 := heap_keepG hX1 hg NE_ho_g_hX1.out
    replace hG := heap_keepG hG hg NE_ho_g_hG.out
    replace ho_g := hm
    clear hm hg
    have k_hG_0 : _ = some (.slice B_g zs.length d_g : Value) := cell_of hG 0
    go_wp2_with fail
    clear k_hG_0
    refine (heldRegion_marks zs.length 1 _ ho_g (by omega) (by omega) (by omega)).mono ?_
    rintro e y13 ⟨rfl, hy13⟩
    replace hT := Below_then hT hy13
    replace hF0 := heap_keepB hF0 hy13
    replace hF1 := heap_keepB hF1 hy13
    replace hW := heap_keepB hW hy13
    replace how := how.below hy13
    replace ho_x0 := ho_x0.below hy13
    replace hX0 := heap_keepB hX0 hy13
    replace ho_x1 := ho_x1.below hy13
    replace hX1 := heap_keepB hX1 hy13
    replace ho_g := ho_g.below hy13
    replace hG := heap_keepB hG hy13
    go_upto_region 31 with (fail)
    go_cut [17, 18] (fun p q wx => CutR y13 zs ok p q wx)
    case first =>
      have k_hF0_0 : _ = some (.slice A0 z0.length c0 : Value) := cell_of hF0 0
      have k_hF1_0 : _ = some (.slice A1 z1.length c1 : Value) := cell_of hF1 0
      have hz0 := heap_lt hF1
      go_region_held3 (fun w' => w'.cell? ⟨w.heap.size, 0, none⟩ = some (.slice A0 z0.length c0 : Value) ∧ w'.cell? ⟨w.heap.size + 1, 0, none⟩ = some (.slice A1 z1.length c1 : Value) ∧ Below y13.heap.size y13 w') (first | assumption | exact held2 (by assumption) (by assumption) | exact held2 (by assumption) (Below_al (Below.refl _ _) _) | exact held2 sx (Below_al (Below.refl _ _) _) | exact held2_set sx (by simp; omega) (by simp; omega) (by first | (simp; done) | (simp; omega)) | exact ⟨k_hF0_0, k_hF1_0, Below.refl _ _⟩ | exact ⟨k_hF0_0, k_hF1_0, (Below.refl _ _).drew⟩) (first | (go_at_call 30; obtain ⟨s1, s2, sb⟩ : _ ∧ _ ∧ Below y13.heap.size y13 _ := (by assumption); first | ((with_reducible refine (toRegion_any A0 c0 z0 _ (RdI.below u0 (Below_then hT sb)) HL0.out).mono ?_); rintro e x0 ⟨v0, rfl, g0, b0⟩; obtain ⟨B0, d0, rfl, r0⟩ := g0.form; (try (first | (replace r1 := rd_on r1 b0) | (replace r1 := rd_on (r1.alloc _) b0))); obtain ⟨hc0, hf0⟩ := bcell b0; have t0 := b0.size; (try simp only [World.size_alloc, World.size_drew] at t0); (try have qx00 : y13.heap.size < x0.heap.size := by omega); (try have qx01 : x1.heap.size < x0.heap.size := by omega)) | ((with_reducible refine (toRegion_any A1 c1 z1 _ (RdI.below u1 (Below_then hT sb)) HL1.out).mono ?_); rintro e x1 ⟨v1, rfl, g1, b1⟩; obtain ⟨B1, d1, rfl, r1⟩ := g1.form; (try (first | (replace r0 := rd_on r0 b1) | (replace r0 := rd_on (r0.alloc _) b1))); obtain ⟨hc1, hf1⟩ := bcell b1; have t1 := b1.size; (try simp only [World.size_alloc, World.size_drew] at t1); (try have qx10 : y13.heap.size < x1.heap.size := by omega); (try have qx11 : x0.heap.size < x1.heap.size := by omega))) | (go_at_call 35; obtain ⟨s1, s2, sb⟩ : _ ∧ _ ∧ Below y13.heap.size y13 _ := (by assumption); have hS := And.intro s1 (And.intro s2 sb); refine (KI'.out _ B0 B1 d0 d1 ?_ ?_).mono ?_; (first | exact r0 | exact r0.alloc _); (first | exact r1 | exact r1.alloc _); rintro e xs ⟨v, rfl, g, bs⟩; obtain ⟨B, d, rfl, r⟩ := g.form; have sx := held2 hS bs; have hyb := sb.size; obtain ⟨hc, hf⟩ := bcell bs; have ts := bs.size; (try simp only [World.size_alloc, World.size_drew] at ts); (try have qxs0 : y13.heap.size < xs.heap.size := by omega); (try have qxs1 : x0.heap.size < xs.heap.size := by omega); (try have qxs2 : x1.heap.size < xs.heap.size := by omega)))
      all_goals (go_wp2_with fail)
      all_goals go_meet
      all_goals first | exact CutR.of_alloc g sx.2.2 hyb | exact CutR.of_set (heap_keepB (heap_hit _ _ _ rfl) bs) g sx.2.2 (by simp) (by omega) | exact CutR.of_set (heap_keepB (heap_keepB (heap_hit _ _ _ rfl) b1) bs) g sx.2.2 (by omega) (by omega) | exact CutR.of_set (heap_keepB (heap_keepB (heap_keepB (heap_hitD _ _) b0) b1) bs) g sx.2.2 (by omega) (by omega)
    case rest =>
      obtain ⟨bh, vh, rfl, rfl, hH, hlh, hoh, hnh, hbh⟩ := hcut
      replace hT := Below_then hT hbh
      replace hF0 := heap_keepB hF0 hbh
      replace hF1 := heap_keepB hF1 hbh
      replace hW := heap_keepB hW hbh
      replace how := how.below hbh
      replace ho_x0 := ho_x0.below hbh
      replace hX0 := heap_keepB hX0 hbh
      replace ho_x1 := ho_x1.below hbh
      replace hX1 := heap_keepB hX1 hbh
      replace ho_g := ho_g.below hbh
      replace hG := heap_keepB hG hbh
      obtain ⟨Ah, ch, rfl, -⟩ := hoh.form
      have k_hH_0 : _ = some (.slice Ah zs.length ch : Value) := cell_of hH 0
      have k_hW_0 : _ = some (.slice Aw zs.length cw : Value) := cell_of hW 0
      go_wp2_with fail
      clear k_hH_0 k_hW_0
      refine (eqRegion_same zs _ hoh how (by omega)).mono ?_
      rintro e y14 ⟨rfl, hy14⟩
      replace hT := Below_then hT hy14
      replace hF0 := heap_keepB hF0 hy14
      replace hF1 := heap_keepB hF1 hy14
      replace hW := heap_keepB hW hy14
      replace how := how.below hy14
      replace ho_x0 := ho_x0.below hy14
      replace hX0 := heap_keepB hX0 hy14
      replace ho_x1 := ho_x1.below hy14
      replace hX1 := heap_keepB hX1 hy14
      replace ho_g := ho_g.below hy14
      replace hG := heap_keepB hG hy14
      replace hH := heap_keepB hH hy14
      replace hoh := hoh.below hy14
      have k_hG_0 : _ = some (.slice B_g zs.length d_g : Value) := cell_of hG 0
      go_wp2_with fail
      clear k_hG_0
      refine (heldRegion_marks zs.length 1 _ ho_g (by omega) (by omega) (by omega)).mono ?_
      rintro e y15 ⟨rfl, hy15⟩
      replace hT := Below_then hT hy15
      replace hF0 := heap_keepB hF0 hy15
      replace hF1 := heap_keepB hF1 hy15
      replace hW := heap_keepB hW hy15
      replace how := how.below hy15
      replace ho_x0 := ho_x0.below hy15
      replace hX0 := heap_keepB hX0 hy15
      replace ho_x1 := ho_x1.below hy15
      replace hX1 := heap_keepB hX1 hy15
      replace ho_g := ho_g.below hy15
      replace hG := heap_keepB hG hy15
      replace hH := heap_keepB hH hy15
      replace hoh := hoh.below hy15
      go_wp2
      go_ret
      exact ⟨rfl, hT⟩

/-! ### The row's step: written by a program of mine (frame.py) after the kit's shell -/
theorem laidOut : laidOutB Try.prog = true := by kernel_rfl
set_option maxRecDepth 100000 in
theorem lifted (os : Os) (started : os.Started) (H : Type) (enc : TypeId × Value → H) :
    ReturnsInHanded {} Try.checked os 10 .any (Rows.fnExactCombineRegionsSpec.pre6 enc Try.prog Try.f10 Rows.fnExactCombineRegionsRow.domain false) (Rows.fnExactCombineRegionsSpec.post enc Try.prog Try.f10 false true false false) := by
  refine returnsInHanded_of_change (C := Try.checked) own started (by kernel_rfl) Try.func10
    (ChangeSpec.witness6 (enc := enc) (C := Try.checked) false ⟨#[], #[.agg #[.slice none 0 0], .agg #[.slice none 0 0], .int .i64 0], []⟩ 8 (by kernel_rfl) (by kernel_rfl) (by kernel_rfl) (by kernel_rfl)) ?_
  intro W base args ds gs before hval0 hW hcnd _
  have hval : ∀ (j : Nat) t v, Try.f10.params[j]? = some t → args[j]? = some v → Value.okWide Try.prog W .any base t v := hval0
  have hW' := hW
  obtain ⟨p, q, hA0, hV, rfl, hfz, hnd⟩ := hW
  have hA : DataW.TrodAll enc Try.prog W 0 (fun _ => true) true Try.f10.params.toList args.toList ds p := hA0
  rw [Try.params10] at hA hval
  obtain ⟨v0, vs0, d0, ds0, p0, q0, hargs, rfl, rfl, h0, r0⟩ := trodAll_cons hA
  obtain ⟨v1, vs1, d1, ds1, p1, q1, rfl, rfl, rfl, h1, r1⟩ := trodAll_cons r0
  obtain ⟨v2, vs2, d2, ds2, p2, q2, rfl, rfl, rfl, h2, r2⟩ := trodAll_cons r1
  obtain ⟨rfl, rfl, rfl⟩ := trodAll_nil r2
  obtain rfl : args = #[v0, v1, v2] := by cases args; simp_all
  obtain ⟨rfl, rfl⟩ := trodVars_none hV
  have k0 := h0
  have lt0 : ∀ x ∈ p0, x.block < W.heap.size := by obtain ⟨m, hm⟩ := k0; exact DataW.trod_lt m _ _ _ hm
  obtain ⟨A0, c0, z0, rfl, u0, l0, w0⟩ := openRegion (hval 0 34 v0 rfl rfl) h0
  have k1 := h1
  have lt1 : ∀ x ∈ p1, x.block < W.heap.size := by obtain ⟨m, hm⟩ := k1; exact DataW.trod_lt m _ _ _ hm
  obtain ⟨A1, c1, z1, rfl, u1, l1, w1⟩ := openRegion (hval 1 34 v1 rfl rfl) h1
  have k2 := h2
  have lt2 : ∀ x ∈ p2, x.block < W.heap.size := by obtain ⟨m, hm⟩ := k2; exact DataW.trod_lt m _ _ _ hm
  obtain ⟨a2, rfl, -, -, w2⟩ := open_int Try.underlying3 (hval 2 3 v2 rfl rfl) h2
  clear hA0 hval0
  refine (walk W A0 c0 z0 u0 l0 w0 A1 c1 z1 u1 l1 w1 a2 w2).mono fun e W' ⟨he, bel⟩ => ?_
  subst he
  exact ⟨_, rfl, _, _, _, [], _, [], hW', trodAll_mk1 (shut_bool Try.underlying4 _), (trodAll_cons_mk (Below.trod laidOut (by kernel_rfl) (of_decide_eq_true (by kernel_rfl)) k0 bel lt0) (trodAll_cons_mk (Below.trod laidOut (by kernel_rfl) (of_decide_eq_true (by kernel_rfl)) k1 bel lt1) (trodAll_cons_mk (Below.trod laidOut (by kernel_rfl) (of_decide_eq_true (by kernel_rfl)) k2 bel lt2) trodAll_mk0))), rfl, bel.frame _, fun h => by cases h⟩

theorem over : Rows.fnExactCombineRegionsRow.holds Try.pinned (OpenSpec.ofChange Rows.fnExactCombineRegionsSpec) :=
  OpenClaim.holds_of_wide 10 Try.f10 rfl rfl rfl rfl rfl rfl rfl ⟨rfl, rfl, rfl, rfl, rfl⟩ rfl rfl rfl rfl rfl (by kernel_rfl) Try.func10 (by kernel_rfl)
    (of_decide_eq_true (by kernel_rfl)) (by unfold Func.isWrapper; first | (rw [if_pos (by decide +kernel)]; kernel_rfl) | (rw [if_neg (by decide +kernel)]; exact ⟨rfl, rfl⟩))
    (fun os started H enc _ => lifted os started H enc)

theorem proved : Rows.FnExactCombineRegionsSaid := over
#print axioms proved

end Go.Proofs.Yticfcbfoieklgaa.fnExactCombineRegions
