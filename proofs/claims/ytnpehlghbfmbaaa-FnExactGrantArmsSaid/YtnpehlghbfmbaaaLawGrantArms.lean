/- FnExactGrantArms: for all arguments GrantArms of the program returns what GrantArms of the reference returns. No condition. -/
import Derived.Test.YtnpehlghbfmbaaaRows
import Derived.Test.YtnpehlghbfmbaaaGrOpen
import Derived.Test.YtnpehlghbfmbaaaGra
namespace Go.Proofs.Ytnpehlghbfmbaaa.fnExactGrantArms
open Go.ChangeShapes Go.WideShapes Go.ChangeAt Go.RowKit
set_option linter.unusedVariables false
set_option linter.unusedSimpArgs false
theorem gaRows_len (rows : List GrantD) (s : ByteArray) (y : Int) (a : ArmsD) : (gaRows rows s y a).length ≤ 1048576 := by
  unfold gaRows
  cases h : gaOk rows s y a
  · simp
  · rw [gaOk, Bool.and_eq_true] at h
    have := regOk_len h.2
    simp only [cond_true]
    omega
theorem grd {w : World} {B n c : Nat} {A : Option Addr} {rows : List GrantD} (h : OwnGr w B (.slice A n c) rows) : RdR 18 w A (gcs rows) := by
  obtain ⟨A', c', e, hr, -⟩ := h.form
  injection e with e1 _ _
  subst e1
  exact hr
theorem ownApart {v v' : Value} {a b c d : Nat} (h : ∀ k, v.ownBlock = some k → a ≤ k ∧ k < b) (h' : ∀ k, v'.ownBlock = some k → c ≤ k ∧ k < d) (hh : b ≤ c ∨ d ≤ a) : v.ownBlock = none ∨ v.ownBlock ≠ v'.ownBlock := by
  cases e : v.ownBlock with
  | none => exact .inl rfl
  | some k =>
    refine .inr fun e' => ?_
    have h1 := h k e
    have h2 := h' k e'.symm
    omega
/-- What a drawn region leaves: a box with a register in new memory, a number, a bool. -/
def CutG (W : World) (zr : List GrantD) (zi : Int) (ok : Bool) (p q r : Value) (wx : World) : Prop :=
  ∃ b A c, p = .pointer (some ⟨b, 0, none⟩) ∧ q = .int .i64 zi ∧ r = .bool ok ∧ wx.heap[b]? = some (.cells #[.slice A zr.length c] 34 (0, 0)) ∧ W.heap.size ≤ b ∧ OwnGr wx W.heap.size (.slice A zr.length c) zr ∧ (Value.slice A zr.length c).ownBlock ≠ some b ∧ Below W.heap.size W wx
theorem CutG.of_alloc {W w3 : World} {B : Nat} {zr : List GrantD} {zi : Int} {ok : Bool} {A : Option Addr} {c : Nat} (ho : OwnGr w3 B (.slice A zr.length c) zr) (hB : W.heap.size ≤ B) (hb : Below W.heap.size W w3) :
    CutG W zr zi ok (.pointer (some ⟨w3.heap.size, 0, none⟩)) (.int .i64 zi) (.bool ok) (w3.alloc (.cells #[.slice A zr.length c] 34 (0, 0))) :=
  ⟨_, A, c, rfl, rfl, rfl, heap_hit _ _ _ rfl, hb.size, (ho.below (Below_al (Below.refl _ _) _)).base hB, fun e => by have := (ho.lt _ e).2; omega, Below_al hb _⟩
theorem CutG.of_set {W w3 : World} {B b : Nat} {zr : List GrantD} {zi : Int} {ok : Bool} {A : Option Addr} {c : Nat} {u : Value} (ho : OwnGr w3 B (.slice A zr.length c) zr) (hB : W.heap.size ≤ B) (h0 : w3.heap[b]? = some (.cells #[u] 34 (0, 0))) (hb : Below W.heap.size W w3) (hW : W.heap.size ≤ b) (hbB : b < B) :
    CutG W zr zi ok (.pointer (some ⟨b, 0, none⟩)) (.int .i64 zi) (.bool ok) (w3.setCell ⟨b, 0, none⟩ (.slice A zr.length c)) :=
  ⟨b, A, c, rfl, rfl, rfl, heap_set _ _ _ _ _ _ h0, hW, (ho.setOther ⟨b, 0, none⟩ _ (fun k hk => by have := (ho.lt k hk).1; dsimp only; omega)).base hB, fun e => by have := (ho.lt _ e).1; omega, hb.setCell (p := ⟨b, 0, none⟩) hW _⟩
theorem held_set {W w : World} {p : Addr} {u : Value} {q o B : Nat} {cs : List Value} (h : w.cell? p = some u ∧ w.rangeAt q o cs ∧ Below B W w) (b : Nat) (v : Value) (hp : p.block ≠ b) (hq : q ≠ b) (hB : B ≤ b) :
    (w.setCell ⟨b, 0, none⟩ v).cell? p = some u ∧ (w.setCell ⟨b, 0, none⟩ v).rangeAt q o cs ∧ Below B W (w.setCell ⟨b, 0, none⟩ v) :=
  ⟨by rw [World.cell?_of_block (heap_far _ _ _ _ hp)]; exact h.1, fun j x hx => by rw [World.cell?_of_block (heap_far w _ ⟨b, 0, none⟩ v hq)]; exact h.2.1 j x hx, h.2.2.setCell (p := ⟨b, 0, none⟩) hB v⟩
set_option maxHeartbeats 16000000 in
set_option maxRecDepth 20000 in
theorem walk (w : World) (A0 : Option Addr) (c0 : Nat) (z0 : List GrantD) (u0 : RdR 18 w A0 (gcs z0)) (l0 : z0.length ≤ maxLen) (s0 : ∀ g ∈ z0, g.s.size ≤ maxLen) (s : ByteArray) (ws : s.size ≤ maxLen) (y9 : Int) (wy : (Lit.int .i64 y9).wf = true) (a : ArmsD) (wa : ∀ z ∈ [a.d, a.l, a.p, a.q, a.o, a.li, a.t, a.c1, a.k1, a.a1, a.t1, a.c2, a.k2, a.a2, a.t2], (Lit.int .i64 z).wf = true) :
    Calls Try.prog 3 #[.agg #[.slice A0 z0.length c0], .string s, .int .i64 y9, .agg (ac a).toArray] w fun e w' => e = .returned (.bool true) ∧ Below w.heap.size w w' := by
  clear wy wa
  by_cases hsb : s.size ≤ 1048576
  · have hsi : ¬ (1048576 : Int) < (s.size : Int) := by omega
    go_enter Try.func3, Try.ntmps3
    have hT := Below.refl w.heap.size w
    replace hT := Below_al hT (.cells #[.slice A0 z0.length c0] 24)
    have hF := heap_hit w (.cells #[.slice A0 z0.length c0] 24 (0, 0)) _ rfl
    replace hT := Below_al hT (.cells (ac a).toArray 30)
    replace hF := heap_keepA hF (.cells (ac a).toArray 30)
    have hA := heap_hit (w.alloc (.cells #[.slice A0 z0.length c0] 24)) (.cells (ac a).toArray 30 (0, 0)) _ rfl
    simp only [World.size_alloc, World.size_drew] at hA
    have khF0 := cell_of hF 0
    go_wp2_with fail
    clear khF0
    refine (szRegister_any A0 c0 z0 1048576 _ (u0.below hT) (by omega) (by omega) l0 s0).mono ?_
    rintro e y0 ⟨y, rfl, hy, hx⟩
    have z00 := hx.size
    try simp only [World.size_alloc, World.size_drew] at z00
    replace hT := Below_then hT hx
    replace hF := heap_keepB hF hx
    replace hA := heap_keepB hA hx
    clear hx
    rcases hy with rfl | ⟨q0, q1, q2⟩
    · go_wp2
      go_ret
      exact ⟨rfl, hT⟩
    have HS := Lib.hid q2
    have hyn : ¬ y < 0 := by omega
    obtain ⟨zr, zi, ok, hzl, KS, KI⟩ : ∃ (zr : List GrantD) (zi : Int) (ok : Bool), zr.length ≤ 1048576 ∧ (∀ (g : Nat) (w : World), RdR 18 w (some ⟨g, 0, none⟩) (gcs z0) → Calls Try.prog 7 #[.agg #[.slice (some ⟨g, 0, none⟩) z0.length z0.length], .string s, .int .i64 y9, .agg (ac a).toArray] w (GrOk w zr zi ok)) ∧ (∀ (g : Nat) (w : World), RdR 18 w (some ⟨g, 0, none⟩) (gcs z0) → Calls Try.prog 10 #[.agg #[.slice (some ⟨g, 0, none⟩) z0.length z0.length], .string s, .int .i64 y9, .agg (ac a).toArray] w (GrOk w zr zi ok)) := ⟨_, _, _, gaRows_len z0 s y9 a, fun g w h => specGrantArms_any _ z0.length z0 s y9 a w h HS.out s0 (Nat.le_refl _) l0 ws, fun g w h => implGrantArms_any _ z0.length z0 s y9 a w h HS.out s0 (Nat.le_refl _) l0 ws⟩
    have KS' := Lib.hid KS
    have KI' := Lib.hid KI
    have hM : ¬ (1 + 18 * (zr.length : Int) < 0) := by omega
    have hM2 : ¬ (1 + 18 * (z0.length : Int) < 0) := by omega
    have hzl2 : z0.length ≤ 1048576 := q2
    clear KS KI l0 s0 q0 q1 q2
    go_upto_region 7 with (fail)
    go_cut [10, 11, 12] (fun p q r wx => CutG y0 zr zi ok p q r wx)
    case first =>
      have hltA := heap_lt hA
      have hltR := heap_lt hF
      have kR0 := cell_of hF 0
      have hRA := rangeAt_blk hA
      refine wp_region_noPanic ?_
      refine wp_region_held_drew (S := (fun w' => w'.cell? ⟨w.heap.size, 0, none⟩ = some (.slice A0 z0.length c0 : Value) ∧ w'.rangeAt (w.heap.size + 1) 0 (ac a) ∧ Below y0.heap.size y0 w')) (by kernel_rfl) ⟨kR0, hRA, (Below.refl _ _).drew⟩ (fun hHeld => ?_)
      refine wpAnyH_take (i := 0) (oi := _) (v := ?_) rfl (by kernel_rfl) (by kernel_rfl) (by kernel_rfl) (fun _ _ _ h => h) (Or.inl ⟨by rfl, ?_⟩) (by assumption) ?_
      rotate_left
      · intro w hSw; (try dsimp only at hSw); first | (go_simp; done) | (go_simp; with_reducible rfl)
      simp only [Act.put, List.getElem_toArray, List.getElem_cons_succ, List.getElem_cons_zero, List.setIfInBounds_toArray, List.set_cons_zero, List.set_cons_succ]
      refine wpAnyH_take (i := 2) (oi := _) (v := ?_) rfl (by kernel_rfl) (by kernel_rfl) (by kernel_rfl) (fun _ _ _ h => h) (Or.inl ⟨by rfl, ?_⟩) (by assumption) ?_
      rotate_left
      · intro w hSw; clear hSw; first | (go_simp; done) | (go_simp; with_reducible rfl)
      simp only [Act.put, List.getElem_toArray, List.getElem_cons_succ, List.getElem_cons_zero, List.setIfInBounds_toArray, List.set_cons_zero, List.set_cons_succ]
      refine wpAnyH_take (i := 3) (oi := _) (v := ?_) rfl (by kernel_rfl) (by kernel_rfl) (by kernel_rfl) (fun _ _ _ h => h) (Or.inl ⟨by rfl, ?_⟩) (by assumption) ?_
      rotate_left
      · intro w hSw; clear hSw; first | (go_simp; done) | (go_simp; with_reducible rfl)
      simp only [Act.put, List.getElem_toArray, List.getElem_cons_succ, List.getElem_cons_zero, List.setIfInBounds_toArray, List.set_cons_zero, List.set_cons_succ]
      refine wpAnyH_take (i := 4) (oi := _) (v := _) rfl ?g1_1 ?g2_1 ?g3_1 (fun _ _ _ h => h) (yieldsIf_load_mid ?g4_1 _ _ rfl (w.heap.size + 1) ?oo_1 ?g5_1 (ac a) _ ?g6_1 Try.underlying30 rfl (info_acL a)) ?g7_1 ?_
      case g5_1 => rfl
      case g1_1 => kernel_rfl
      case g2_1 => kernel_rfl
      case g3_1 => kernel_rfl
      case g6_1 => exact (fun _ h => h.2.1)
      case g4_1 => kernel_rfl
      case g7_1 => assumption
      simp only [Act.put, List.getElem_toArray, List.getElem_cons_succ, List.getElem_cons_zero, List.setIfInBounds_toArray, List.set_cons_zero, List.set_cons_succ]
      refine wpAnyH_ready (rs := [1, 11]) (by kernel_rfl) (by simp) ?_
      refine AllReadyH.cons (o := _) rfl (fun K hK => ?_) ?_
      · go_simp
        refine (toRegister_any A0 c0 z0 _ (u0.below (Below_then hT hHeld.2.2)) HS.out).mono ?_
        rintro e s1 ⟨sg, rfl, so, sh1⟩
        have hrd := so.rd
        have sz1 := sh1.size
        try simp only [World.size_alloc, World.size_drew] at sz1
        go_wp2_with fail
        refine hK.out _ _ ⟨keep_cell hHeld.1 sh1, rangeAt_below hHeld.2.1 sh1, Below_then hHeld.2.2 sh1⟩ (fun hHeld => ?_)
        clear hK K
        try simp only [Act.put, List.getElem_toArray, List.getElem_cons_succ, List.getElem_cons_zero, List.setIfInBounds_toArray, List.set_cons_zero, List.set_cons_succ]
        refine wpAnyH_ready (rs := [5, 11]) (by kernel_rfl) (by simp) ?_
        refine AllReadyH.cons (o := _) rfl (fun K hK => ?_) ?_
        · go_simp
          refine (toArmsC a _).mono ?_
          rintro e s2 ⟨rfl, sh2⟩
          have hrd := hrd.below sh2
          have sz2 := sh2.size
          try simp only [World.size_alloc, World.size_drew] at sz2
          go_wp2_with fail
          refine hK.out _ _ ⟨keep_cell hHeld.1 sh2, rangeAt_below hHeld.2.1 sh2, Below_then hHeld.2.2 sh2⟩ (fun hHeld => ?_)
          clear hK K
          try simp only [Act.put, List.getElem_toArray, List.getElem_cons_succ, List.getElem_cons_zero, List.setIfInBounds_toArray, List.set_cons_zero, List.set_cons_succ]
          refine wpAnyH_ready (rs := [6, 11]) (by kernel_rfl) (by simp) ?_
          refine AllReadyH.cons (o := _) rfl (fun K hK => ?_) ?_
          · have hHm := hHeld.2.2
            have sz0 := hHm.size
            try simp only [World.size_alloc, World.size_drew] at sz0
            go_simp
            refine (KS'.out _ _ hrd).mono ?_
            rintro e s3 ⟨vW, rfl, oW, sh3⟩
            have sz3 := sh3.size
            try simp only [World.size_alloc, World.size_drew] at sz3
            obtain ⟨AW, cW, rfl, -⟩ := oW.form
            go_wp2_with fail
            refine hK.out _ _ ⟨keep_cell hHeld.1 sh3, rangeAt_below hHeld.2.1 sh3, Below_then hHeld.2.2 sh3⟩ (fun hHeld => ?_)
            clear hK K
            try simp only [Act.put, List.getElem_toArray, List.getElem_cons_succ, List.getElem_cons_zero, List.setIfInBounds_toArray, List.set_cons_zero, List.set_cons_succ]
            refine wpAnyH_take (i := 7) (oi := _) (v := ?_) rfl (by kernel_rfl) (by kernel_rfl) (by kernel_rfl) (fun _ _ _ h => h) (Or.inl ⟨by rfl, ?_⟩) (by assumption) ?_
            rotate_left
            · intro w hSw; clear hSw; first | (go_simp; done) | (go_simp; with_reducible rfl)
            simp only [Act.put, List.getElem_toArray, List.getElem_cons_succ, List.getElem_cons_zero, List.setIfInBounds_toArray, List.set_cons_zero, List.set_cons_succ]
            refine wpAnyH_take (i := 8) (oi := _) (v := ?_) rfl (by kernel_rfl) (by kernel_rfl) (by kernel_rfl) (fun _ _ _ h => h) (Or.inl ⟨by rfl, ?_⟩) (by assumption) ?_
            rotate_left
            · intro w hSw; clear hSw; first | (go_simp; done) | (go_simp; with_reducible rfl)
            simp only [Act.put, List.getElem_toArray, List.getElem_cons_succ, List.getElem_cons_zero, List.setIfInBounds_toArray, List.set_cons_zero, List.set_cons_succ]
            refine wpAnyH_take (i := 9) (oi := _) (v := ?_) rfl (by kernel_rfl) (by kernel_rfl) (by kernel_rfl) (fun _ _ _ h => h) (Or.inl ⟨by rfl, ?_⟩) (by assumption) ?_
            rotate_left
            · intro w hSw; clear hSw; first | (go_simp; done) | (go_simp; with_reducible rfl)
            simp only [Act.put, List.getElem_toArray, List.getElem_cons_succ, List.getElem_cons_zero, List.setIfInBounds_toArray, List.set_cons_zero, List.set_cons_succ]
            refine wpAnyH_take (i := 10) (oi := _) (v := ?_) rfl (by kernel_rfl) (by kernel_rfl) (by kernel_rfl) (fun _ _ _ h => h) (Or.inl ⟨by rfl, ?_⟩) (by assumption) ?_
            rotate_left
            · intro w hSw; clear hSw; first | (go_simp; done) | (go_simp; with_reducible rfl)
            simp only [Act.put, List.getElem_toArray, List.getElem_cons_succ, List.getElem_cons_zero, List.setIfInBounds_toArray, List.set_cons_zero, List.set_cons_succ]
            have hH0 := hHeld
            refine wpAnyH_ready (rs := [11]) (by kernel_rfl) (by simp) ?_
            refine AllReadyH.cons (o := _) rfl (fun K hK => ?_) AllReadyH.nil
            have sza := hHeld.2.2.size
            try simp only [World.size_alloc, World.size_drew] at sza
            go_simp
            refine hK.out _ _ ⟨keep_cell hHeld.1 (Below_al (Below.refl _ _) (.cells #[.slice none 0 0] 34 (0, 0))), rangeAt_below hHeld.2.1 (Below_al (Below.refl _ _) (.cells #[.slice none 0 0] 34 (0, 0))), Below_then hHeld.2.2 (Below_al (Below.refl _ _) (.cells #[.slice none 0 0] 34 (0, 0)))⟩ (fun hHeld => ?_)
            clear hK K
            try simp only [Act.put, List.getElem_toArray, List.getElem_cons_succ, List.getElem_cons_zero, List.setIfInBounds_toArray, List.set_cons_zero, List.set_cons_succ]
            have hrd := hrd.alloc (.cells #[.slice none 0 0] 34 (0, 0))
            have hb0 : (s3.alloc (.cells #[.slice none 0 0] 34 (0, 0))).heap[s3.heap.size]? = some (.cells #[.slice none 0 0] 34 (0, 0)) := heap_hit _ _ _ (by first | rfl | simp)
            refine wpAnyH_ready (rs := [12]) (by kernel_rfl) (by simp) ?_
            refine AllReadyH.cons (o := _) rfl (fun K hK => ?_) AllReadyH.nil
            go_simp
            refine hK.out _ _ ⟨keep_cell hH0.1 (Below_al (Below.refl _ _) (.cells #[.slice AW zr.length cW] 34 (0, 0))), rangeAt_below hH0.2.1 (Below_al (Below.refl _ _) (.cells #[.slice AW zr.length cW] 34 (0, 0))), Below_then hH0.2.2 (Below_al (Below.refl _ _) (.cells #[.slice AW zr.length cW] 34 (0, 0)))⟩ (fun hHeld => ?_)
            clear hK K
            try simp only [Act.put, List.getElem_toArray, List.getElem_cons_succ, List.getElem_cons_zero, List.setIfInBounds_toArray, List.set_cons_zero, List.set_cons_succ]
            refine wpAnyH_take (i := 13) (oi := _) (v := ?_) rfl (by kernel_rfl) (by kernel_rfl) (by kernel_rfl) (fun _ _ _ h => h) (Or.inl ⟨by rfl, ?_⟩) (by assumption) ?_
            rotate_left
            · intro w hSw; clear hSw; first | (go_simp; done) | (go_simp; with_reducible rfl)
            simp only [Act.put, List.getElem_toArray, List.getElem_cons_succ, List.getElem_cons_zero, List.setIfInBounds_toArray, List.set_cons_zero, List.set_cons_succ]
            refine wpAnyH_take (i := 14) (oi := _) (v := ?_) rfl (by kernel_rfl) (by kernel_rfl) (by kernel_rfl) (fun _ _ _ h => h) (Or.inl ⟨by rfl, ?_⟩) (by assumption) ?_
            rotate_left
            · intro w hSw; clear hSw; first | (go_simp; done) | (go_simp; with_reducible rfl)
            simp only [Act.put, List.getElem_toArray, List.getElem_cons_succ, List.getElem_cons_zero, List.setIfInBounds_toArray, List.set_cons_zero, List.set_cons_succ]
            refine wpAnyH_done (by kernel_rfl) ?_ _
            refine NoPanic.normal ?_
            go_wp2_with fail
            go_meet
            exact CutG.of_alloc oW (by (try simp only [World.size_alloc, World.size_drew]); omega) hH0.2.2
          · refine AllReadyH.cons (o := _) rfl (fun K hK => ?_) AllReadyH.nil
            have sza := hHeld.2.2.size
            try simp only [World.size_alloc, World.size_drew] at sza
            go_simp
            refine hK.out _ _ ⟨keep_cell hHeld.1 (Below_al (Below.refl _ _) (.cells #[.slice none 0 0] 34 (0, 0))), rangeAt_below hHeld.2.1 (Below_al (Below.refl _ _) (.cells #[.slice none 0 0] 34 (0, 0))), Below_then hHeld.2.2 (Below_al (Below.refl _ _) (.cells #[.slice none 0 0] 34 (0, 0)))⟩ (fun hHeld => ?_)
            clear hK K
            try simp only [Act.put, List.getElem_toArray, List.getElem_cons_succ, List.getElem_cons_zero, List.setIfInBounds_toArray, List.set_cons_zero, List.set_cons_succ]
            have hrd := hrd.alloc (.cells #[.slice none 0 0] 34 (0, 0))
            have hb0 : (s2.alloc (.cells #[.slice none 0 0] 34 (0, 0))).heap[s2.heap.size]? = some (.cells #[.slice none 0 0] 34 (0, 0)) := heap_hit _ _ _ (by first | rfl | simp)
            refine wpAnyH_ready (rs := [6]) (by kernel_rfl) (by simp) ?_
            refine AllReadyH.cons (o := _) rfl (fun K hK => ?_) AllReadyH.nil
            have hHm := hHeld.2.2
            have sz0 := hHm.size
            try simp only [World.size_alloc, World.size_drew] at sz0
            go_simp
            refine (KS'.out _ _ hrd).mono ?_
            rintro e s3 ⟨vW, rfl, oW, sh3⟩
            have hb0 := heap_keepB hb0 sh3
            have sz3 := sh3.size
            try simp only [World.size_alloc, World.size_drew] at sz3
            obtain ⟨AW, cW, rfl, -⟩ := oW.form
            go_wp2_with fail
            refine hK.out _ _ ⟨keep_cell hHeld.1 sh3, rangeAt_below hHeld.2.1 sh3, Below_then hHeld.2.2 sh3⟩ (fun hHeld => ?_)
            clear hK K
            try simp only [Act.put, List.getElem_toArray, List.getElem_cons_succ, List.getElem_cons_zero, List.setIfInBounds_toArray, List.set_cons_zero, List.set_cons_succ]
            refine wpAnyH_take (i := 7) (oi := _) (v := ?_) rfl (by kernel_rfl) (by kernel_rfl) (by kernel_rfl) (fun _ _ _ h => h) (Or.inl ⟨by rfl, ?_⟩) (by assumption) ?_
            rotate_left
            · intro w hSw; clear hSw; first | (go_simp; done) | (go_simp; with_reducible rfl)
            simp only [Act.put, List.getElem_toArray, List.getElem_cons_succ, List.getElem_cons_zero, List.setIfInBounds_toArray, List.set_cons_zero, List.set_cons_succ]
            refine wpAnyH_take (i := 8) (oi := _) (v := ?_) rfl (by kernel_rfl) (by kernel_rfl) (by kernel_rfl) (fun _ _ _ h => h) (Or.inl ⟨by rfl, ?_⟩) (by assumption) ?_
            rotate_left
            · intro w hSw; clear hSw; first | (go_simp; done) | (go_simp; with_reducible rfl)
            simp only [Act.put, List.getElem_toArray, List.getElem_cons_succ, List.getElem_cons_zero, List.setIfInBounds_toArray, List.set_cons_zero, List.set_cons_succ]
            refine wpAnyH_take (i := 9) (oi := _) (v := ?_) rfl (by kernel_rfl) (by kernel_rfl) (by kernel_rfl) (fun _ _ _ h => h) (Or.inl ⟨by rfl, ?_⟩) (by assumption) ?_
            rotate_left
            · intro w hSw; clear hSw; first | (go_simp; done) | (go_simp; with_reducible rfl)
            simp only [Act.put, List.getElem_toArray, List.getElem_cons_succ, List.getElem_cons_zero, List.setIfInBounds_toArray, List.set_cons_zero, List.set_cons_succ]
            refine wpAnyH_take (i := 10) (oi := _) (v := ?_) rfl (by kernel_rfl) (by kernel_rfl) (by kernel_rfl) (fun _ _ _ h => h) (Or.inl ⟨by rfl, ?_⟩) (by assumption) ?_
            rotate_left
            · intro w hSw; clear hSw; first | (go_simp; done) | (go_simp; with_reducible rfl)
            simp only [Act.put, List.getElem_toArray, List.getElem_cons_succ, List.getElem_cons_zero, List.setIfInBounds_toArray, List.set_cons_zero, List.set_cons_succ]
            have hbf := frozen_of hb0
            have hbc := cell_of hb0 0
            have hH3 := hHeld.2.2
            refine wpAnyH_ready (rs := [12]) (by kernel_rfl) (by simp) ?_
            refine AllReadyH.cons (o := _) rfl (fun K hK => ?_) AllReadyH.nil
            go_simp
            refine hK.out _ _ (held_set hHeld (s2.heap.size) (.slice AW zr.length cW) (by (try dsimp only); (try simp only [World.size_alloc, World.size_drew]); omega) (by (try dsimp only); (try simp only [World.size_alloc, World.size_drew]); omega) (by (try dsimp only); (try simp only [World.size_alloc, World.size_drew]); omega)) (fun hHeld => ?_)
            clear hK K
            try simp only [Act.put, List.getElem_toArray, List.getElem_cons_succ, List.getElem_cons_zero, List.setIfInBounds_toArray, List.set_cons_zero, List.set_cons_succ]
            refine wpAnyH_take (i := 13) (oi := _) (v := ?_) rfl (by kernel_rfl) (by kernel_rfl) (by kernel_rfl) (fun _ _ _ h => h) (Or.inl ⟨by rfl, ?_⟩) (by assumption) ?_
            rotate_left
            · intro w hSw; clear hSw; first | (go_simp; done) | (go_simp; with_reducible rfl)
            simp only [Act.put, List.getElem_toArray, List.getElem_cons_succ, List.getElem_cons_zero, List.setIfInBounds_toArray, List.set_cons_zero, List.set_cons_succ]
            refine wpAnyH_take (i := 14) (oi := _) (v := ?_) rfl (by kernel_rfl) (by kernel_rfl) (by kernel_rfl) (fun _ _ _ h => h) (Or.inl ⟨by rfl, ?_⟩) (by assumption) ?_
            rotate_left
            · intro w hSw; clear hSw; first | (go_simp; done) | (go_simp; with_reducible rfl)
            simp only [Act.put, List.getElem_toArray, List.getElem_cons_succ, List.getElem_cons_zero, List.setIfInBounds_toArray, List.set_cons_zero, List.set_cons_succ]
            refine wpAnyH_done (by kernel_rfl) ?_ _
            refine NoPanic.normal ?_
            go_wp2_with fail
            go_meet
            exact CutG.of_set oW (by (try simp only [World.size_alloc, World.size_drew]); omega) hb0 hH3 (by (try simp only [World.size_alloc, World.size_drew]); omega) (by (try simp only [World.size_alloc, World.size_drew]); omega)
        · refine AllReadyH.cons (o := _) rfl (fun K hK => ?_) AllReadyH.nil
          have sza := hHeld.2.2.size
          try simp only [World.size_alloc, World.size_drew] at sza
          go_simp
          refine hK.out _ _ ⟨keep_cell hHeld.1 (Below_al (Below.refl _ _) (.cells #[.slice none 0 0] 34 (0, 0))), rangeAt_below hHeld.2.1 (Below_al (Below.refl _ _) (.cells #[.slice none 0 0] 34 (0, 0))), Below_then hHeld.2.2 (Below_al (Below.refl _ _) (.cells #[.slice none 0 0] 34 (0, 0)))⟩ (fun hHeld => ?_)
          clear hK K
          try simp only [Act.put, List.getElem_toArray, List.getElem_cons_succ, List.getElem_cons_zero, List.setIfInBounds_toArray, List.set_cons_zero, List.set_cons_succ]
          have hrd := hrd.alloc (.cells #[.slice none 0 0] 34 (0, 0))
          have hb0 : (s1.alloc (.cells #[.slice none 0 0] 34 (0, 0))).heap[s1.heap.size]? = some (.cells #[.slice none 0 0] 34 (0, 0)) := heap_hit _ _ _ (by first | rfl | simp)
          refine wpAnyH_ready (rs := [5]) (by kernel_rfl) (by simp) ?_
          refine AllReadyH.cons (o := _) rfl (fun K hK => ?_) AllReadyH.nil
          go_simp
          refine (toArmsC a _).mono ?_
          rintro e s2 ⟨rfl, sh2⟩
          have hrd := hrd.below sh2
          have hb0 := heap_keepB hb0 sh2
          have sz2 := sh2.size
          try simp only [World.size_alloc, World.size_drew] at sz2
          go_wp2_with fail
          refine hK.out _ _ ⟨keep_cell hHeld.1 sh2, rangeAt_below hHeld.2.1 sh2, Below_then hHeld.2.2 sh2⟩ (fun hHeld => ?_)
          clear hK K
          try simp only [Act.put, List.getElem_toArray, List.getElem_cons_succ, List.getElem_cons_zero, List.setIfInBounds_toArray, List.set_cons_zero, List.set_cons_succ]
          refine wpAnyH_ready (rs := [6]) (by kernel_rfl) (by simp) ?_
          refine AllReadyH.cons (o := _) rfl (fun K hK => ?_) AllReadyH.nil
          have hHm := hHeld.2.2
          have sz0 := hHm.size
          try simp only [World.size_alloc, World.size_drew] at sz0
          go_simp
          refine (KS'.out _ _ hrd).mono ?_
          rintro e s3 ⟨vW, rfl, oW, sh3⟩
          have hb0 := heap_keepB hb0 sh3
          have sz3 := sh3.size
          try simp only [World.size_alloc, World.size_drew] at sz3
          obtain ⟨AW, cW, rfl, -⟩ := oW.form
          go_wp2_with fail
          refine hK.out _ _ ⟨keep_cell hHeld.1 sh3, rangeAt_below hHeld.2.1 sh3, Below_then hHeld.2.2 sh3⟩ (fun hHeld => ?_)
          clear hK K
          try simp only [Act.put, List.getElem_toArray, List.getElem_cons_succ, List.getElem_cons_zero, List.setIfInBounds_toArray, List.set_cons_zero, List.set_cons_succ]
          refine wpAnyH_take (i := 7) (oi := _) (v := ?_) rfl (by kernel_rfl) (by kernel_rfl) (by kernel_rfl) (fun _ _ _ h => h) (Or.inl ⟨by rfl, ?_⟩) (by assumption) ?_
          rotate_left
          · intro w hSw; clear hSw; first | (go_simp; done) | (go_simp; with_reducible rfl)
          simp only [Act.put, List.getElem_toArray, List.getElem_cons_succ, List.getElem_cons_zero, List.setIfInBounds_toArray, List.set_cons_zero, List.set_cons_succ]
          refine wpAnyH_take (i := 8) (oi := _) (v := ?_) rfl (by kernel_rfl) (by kernel_rfl) (by kernel_rfl) (fun _ _ _ h => h) (Or.inl ⟨by rfl, ?_⟩) (by assumption) ?_
          rotate_left
          · intro w hSw; clear hSw; first | (go_simp; done) | (go_simp; with_reducible rfl)
          simp only [Act.put, List.getElem_toArray, List.getElem_cons_succ, List.getElem_cons_zero, List.setIfInBounds_toArray, List.set_cons_zero, List.set_cons_succ]
          refine wpAnyH_take (i := 9) (oi := _) (v := ?_) rfl (by kernel_rfl) (by kernel_rfl) (by kernel_rfl) (fun _ _ _ h => h) (Or.inl ⟨by rfl, ?_⟩) (by assumption) ?_
          rotate_left
          · intro w hSw; clear hSw; first | (go_simp; done) | (go_simp; with_reducible rfl)
          simp only [Act.put, List.getElem_toArray, List.getElem_cons_succ, List.getElem_cons_zero, List.setIfInBounds_toArray, List.set_cons_zero, List.set_cons_succ]
          refine wpAnyH_take (i := 10) (oi := _) (v := ?_) rfl (by kernel_rfl) (by kernel_rfl) (by kernel_rfl) (fun _ _ _ h => h) (Or.inl ⟨by rfl, ?_⟩) (by assumption) ?_
          rotate_left
          · intro w hSw; clear hSw; first | (go_simp; done) | (go_simp; with_reducible rfl)
          simp only [Act.put, List.getElem_toArray, List.getElem_cons_succ, List.getElem_cons_zero, List.setIfInBounds_toArray, List.set_cons_zero, List.set_cons_succ]
          have hbf := frozen_of hb0
          have hbc := cell_of hb0 0
          have hH3 := hHeld.2.2
          refine wpAnyH_ready (rs := [12]) (by kernel_rfl) (by simp) ?_
          refine AllReadyH.cons (o := _) rfl (fun K hK => ?_) AllReadyH.nil
          go_simp
          refine hK.out _ _ (held_set hHeld (s1.heap.size) (.slice AW zr.length cW) (by (try dsimp only); (try simp only [World.size_alloc, World.size_drew]); omega) (by (try dsimp only); (try simp only [World.size_alloc, World.size_drew]); omega) (by (try dsimp only); (try simp only [World.size_alloc, World.size_drew]); omega)) (fun hHeld => ?_)
          clear hK K
          try simp only [Act.put, List.getElem_toArray, List.getElem_cons_succ, List.getElem_cons_zero, List.setIfInBounds_toArray, List.set_cons_zero, List.set_cons_succ]
          refine wpAnyH_take (i := 13) (oi := _) (v := ?_) rfl (by kernel_rfl) (by kernel_rfl) (by kernel_rfl) (fun _ _ _ h => h) (Or.inl ⟨by rfl, ?_⟩) (by assumption) ?_
          rotate_left
          · intro w hSw; clear hSw; first | (go_simp; done) | (go_simp; with_reducible rfl)
          simp only [Act.put, List.getElem_toArray, List.getElem_cons_succ, List.getElem_cons_zero, List.setIfInBounds_toArray, List.set_cons_zero, List.set_cons_succ]
          refine wpAnyH_take (i := 14) (oi := _) (v := ?_) rfl (by kernel_rfl) (by kernel_rfl) (by kernel_rfl) (fun _ _ _ h => h) (Or.inl ⟨by rfl, ?_⟩) (by assumption) ?_
          rotate_left
          · intro w hSw; clear hSw; first | (go_simp; done) | (go_simp; with_reducible rfl)
          simp only [Act.put, List.getElem_toArray, List.getElem_cons_succ, List.getElem_cons_zero, List.setIfInBounds_toArray, List.set_cons_zero, List.set_cons_succ]
          refine wpAnyH_done (by kernel_rfl) ?_ _
          refine NoPanic.normal ?_
          go_wp2_with fail
          go_meet
          exact CutG.of_set oW (by (try simp only [World.size_alloc, World.size_drew]); omega) hb0 hH3 (by (try simp only [World.size_alloc, World.size_drew]); omega) (by (try simp only [World.size_alloc, World.size_drew]); omega)
      · refine AllReadyH.cons (o := _) rfl (fun K hK => ?_) AllReadyH.nil
        have sza := hHeld.2.2.size
        try simp only [World.size_alloc, World.size_drew] at sza
        go_simp
        refine hK.out _ _ ⟨keep_cell hHeld.1 (Below_al (Below.refl _ _) (.cells #[.slice none 0 0] 34 (0, 0))), rangeAt_below hHeld.2.1 (Below_al (Below.refl _ _) (.cells #[.slice none 0 0] 34 (0, 0))), Below_then hHeld.2.2 (Below_al (Below.refl _ _) (.cells #[.slice none 0 0] 34 (0, 0)))⟩ (fun hHeld => ?_)
        clear hK K
        try simp only [Act.put, List.getElem_toArray, List.getElem_cons_succ, List.getElem_cons_zero, List.setIfInBounds_toArray, List.set_cons_zero, List.set_cons_succ]
        have hb0 : (y0.drew.alloc (.cells #[.slice none 0 0] 34 (0, 0))).heap[y0.heap.size]? = some (.cells #[.slice none 0 0] 34 (0, 0)) := heap_hit _ _ _ (by first | rfl | simp)
        refine wpAnyH_ready (rs := [1]) (by kernel_rfl) (by simp) ?_
        refine AllReadyH.cons (o := _) rfl (fun K hK => ?_) AllReadyH.nil
        go_simp
        refine (toRegister_any A0 c0 z0 _ (u0.below (Below_then hT hHeld.2.2)) HS.out).mono ?_
        rintro e s1 ⟨sg, rfl, so, sh1⟩
        have hrd := so.rd
        have hb0 := heap_keepB hb0 sh1
        have sz1 := sh1.size
        try simp only [World.size_alloc, World.size_drew] at sz1
        go_wp2_with fail
        refine hK.out _ _ ⟨keep_cell hHeld.1 sh1, rangeAt_below hHeld.2.1 sh1, Below_then hHeld.2.2 sh1⟩ (fun hHeld => ?_)
        clear hK K
        try simp only [Act.put, List.getElem_toArray, List.getElem_cons_succ, List.getElem_cons_zero, List.setIfInBounds_toArray, List.set_cons_zero, List.set_cons_succ]
        refine wpAnyH_ready (rs := [5]) (by kernel_rfl) (by simp) ?_
        refine AllReadyH.cons (o := _) rfl (fun K hK => ?_) AllReadyH.nil
        go_simp
        refine (toArmsC a _).mono ?_
        rintro e s2 ⟨rfl, sh2⟩
        have hrd := hrd.below sh2
        have hb0 := heap_keepB hb0 sh2
        have sz2 := sh2.size
        try simp only [World.size_alloc, World.size_drew] at sz2
        go_wp2_with fail
        refine hK.out _ _ ⟨keep_cell hHeld.1 sh2, rangeAt_below hHeld.2.1 sh2, Below_then hHeld.2.2 sh2⟩ (fun hHeld => ?_)
        clear hK K
        try simp only [Act.put, List.getElem_toArray, List.getElem_cons_succ, List.getElem_cons_zero, List.setIfInBounds_toArray, List.set_cons_zero, List.set_cons_succ]
        refine wpAnyH_ready (rs := [6]) (by kernel_rfl) (by simp) ?_
        refine AllReadyH.cons (o := _) rfl (fun K hK => ?_) AllReadyH.nil
        have hHm := hHeld.2.2
        have sz0 := hHm.size
        try simp only [World.size_alloc, World.size_drew] at sz0
        go_simp
        refine (KS'.out _ _ hrd).mono ?_
        rintro e s3 ⟨vW, rfl, oW, sh3⟩
        have hb0 := heap_keepB hb0 sh3
        have sz3 := sh3.size
        try simp only [World.size_alloc, World.size_drew] at sz3
        obtain ⟨AW, cW, rfl, -⟩ := oW.form
        go_wp2_with fail
        refine hK.out _ _ ⟨keep_cell hHeld.1 sh3, rangeAt_below hHeld.2.1 sh3, Below_then hHeld.2.2 sh3⟩ (fun hHeld => ?_)
        clear hK K
        try simp only [Act.put, List.getElem_toArray, List.getElem_cons_succ, List.getElem_cons_zero, List.setIfInBounds_toArray, List.set_cons_zero, List.set_cons_succ]
        refine wpAnyH_take (i := 7) (oi := _) (v := ?_) rfl (by kernel_rfl) (by kernel_rfl) (by kernel_rfl) (fun _ _ _ h => h) (Or.inl ⟨by rfl, ?_⟩) (by assumption) ?_
        rotate_left
        · intro w hSw; clear hSw; first | (go_simp; done) | (go_simp; with_reducible rfl)
        simp only [Act.put, List.getElem_toArray, List.getElem_cons_succ, List.getElem_cons_zero, List.setIfInBounds_toArray, List.set_cons_zero, List.set_cons_succ]
        refine wpAnyH_take (i := 8) (oi := _) (v := ?_) rfl (by kernel_rfl) (by kernel_rfl) (by kernel_rfl) (fun _ _ _ h => h) (Or.inl ⟨by rfl, ?_⟩) (by assumption) ?_
        rotate_left
        · intro w hSw; clear hSw; first | (go_simp; done) | (go_simp; with_reducible rfl)
        simp only [Act.put, List.getElem_toArray, List.getElem_cons_succ, List.getElem_cons_zero, List.setIfInBounds_toArray, List.set_cons_zero, List.set_cons_succ]
        refine wpAnyH_take (i := 9) (oi := _) (v := ?_) rfl (by kernel_rfl) (by kernel_rfl) (by kernel_rfl) (fun _ _ _ h => h) (Or.inl ⟨by rfl, ?_⟩) (by assumption) ?_
        rotate_left
        · intro w hSw; clear hSw; first | (go_simp; done) | (go_simp; with_reducible rfl)
        simp only [Act.put, List.getElem_toArray, List.getElem_cons_succ, List.getElem_cons_zero, List.setIfInBounds_toArray, List.set_cons_zero, List.set_cons_succ]
        refine wpAnyH_take (i := 10) (oi := _) (v := ?_) rfl (by kernel_rfl) (by kernel_rfl) (by kernel_rfl) (fun _ _ _ h => h) (Or.inl ⟨by rfl, ?_⟩) (by assumption) ?_
        rotate_left
        · intro w hSw; clear hSw; first | (go_simp; done) | (go_simp; with_reducible rfl)
        simp only [Act.put, List.getElem_toArray, List.getElem_cons_succ, List.getElem_cons_zero, List.setIfInBounds_toArray, List.set_cons_zero, List.set_cons_succ]
        have hbf := frozen_of hb0
        have hbc := cell_of hb0 0
        have hH3 := hHeld.2.2
        refine wpAnyH_ready (rs := [12]) (by kernel_rfl) (by simp) ?_
        refine AllReadyH.cons (o := _) rfl (fun K hK => ?_) AllReadyH.nil
        go_simp
        refine hK.out _ _ (held_set hHeld (y0.heap.size) (.slice AW zr.length cW) (by (try dsimp only); (try simp only [World.size_alloc, World.size_drew]); omega) (by (try dsimp only); (try simp only [World.size_alloc, World.size_drew]); omega) (by (try dsimp only); (try simp only [World.size_alloc, World.size_drew]); omega)) (fun hHeld => ?_)
        clear hK K
        try simp only [Act.put, List.getElem_toArray, List.getElem_cons_succ, List.getElem_cons_zero, List.setIfInBounds_toArray, List.set_cons_zero, List.set_cons_succ]
        refine wpAnyH_take (i := 13) (oi := _) (v := ?_) rfl (by kernel_rfl) (by kernel_rfl) (by kernel_rfl) (fun _ _ _ h => h) (Or.inl ⟨by rfl, ?_⟩) (by assumption) ?_
        rotate_left
        · intro w hSw; clear hSw; first | (go_simp; done) | (go_simp; with_reducible rfl)
        simp only [Act.put, List.getElem_toArray, List.getElem_cons_succ, List.getElem_cons_zero, List.setIfInBounds_toArray, List.set_cons_zero, List.set_cons_succ]
        refine wpAnyH_take (i := 14) (oi := _) (v := ?_) rfl (by kernel_rfl) (by kernel_rfl) (by kernel_rfl) (fun _ _ _ h => h) (Or.inl ⟨by rfl, ?_⟩) (by assumption) ?_
        rotate_left
        · intro w hSw; clear hSw; first | (go_simp; done) | (go_simp; with_reducible rfl)
        simp only [Act.put, List.getElem_toArray, List.getElem_cons_succ, List.getElem_cons_zero, List.setIfInBounds_toArray, List.set_cons_zero, List.set_cons_succ]
        refine wpAnyH_done (by kernel_rfl) ?_ _
        refine NoPanic.normal ?_
        go_wp2_with fail
        go_meet
        exact CutG.of_set oW (by (try simp only [World.size_alloc, World.size_drew]); omega) hb0 hH3 (by (try simp only [World.size_alloc, World.size_drew]); omega) (by (try simp only [World.size_alloc, World.size_drew]); omega)
    case rest =>
      obtain ⟨bW, AW, cW, rfl, rfl, rfl, hBn, hblW, hon, hneW, hx⟩ := hcut
      have LBW := heap_lt hBn
      have LW := hon.lt
      have zWc := hx.size
      try simp only [World.size_alloc, World.size_drew] at LW hblW zWc
      replace LW := Lib.hid LW
      replace hneW := Lib.hid hneW
      replace hT := Below_then hT hx
      replace hF := heap_keepB hF hx
      replace hA := heap_keepB hA hx
      have oW := hon
      have BW := hBn
      clear hx hon hBn
      have khF0 := cell_of hF 0
      go_wp2_with fail
      clear khF0
      refine (toRegister_any A0 c0 z0 _ (u0.below hT) HS.out).mono ?_
      rintro e y1 ⟨g2, rfl, hoX, hx⟩
      have z1 := hx.size
      try simp only [World.size_alloc, World.size_drew] at z1
      replace hT := Below_then hT hx
      replace hF := heap_keepB hF hx
      replace hA := heap_keepB hA hx
      replace oW := oW.below hx
      replace BW := heap_keepB BW hx
      clear hx
      have oX := OwnGr.ofR hoX HS.out
      have LX := oX.lt
      try simp only [World.size_alloc, World.size_drew] at LX
      replace LX := Lib.hid LX
      clear hoX
      replace hT := Below_al hT (.cells #[.slice (some ⟨g2, 0, none⟩) z0.length z0.length] 34 (0, 0))
      replace hF := heap_keepA hF (.cells #[.slice (some ⟨g2, 0, none⟩) z0.length z0.length] 34 (0, 0))
      replace hA := heap_keepA hA (.cells #[.slice (some ⟨g2, 0, none⟩) z0.length z0.length] 34 (0, 0))
      replace oW := oW.below (Below_al (Below.refl _ _) (.cells #[.slice (some ⟨g2, 0, none⟩) z0.length z0.length] 34 (0, 0)))
      replace BW := heap_keepA BW (.cells #[.slice (some ⟨g2, 0, none⟩) z0.length z0.length] 34 (0, 0))
      replace oX := oX.below (Below_al (Below.refl _ _) (.cells #[.slice (some ⟨g2, 0, none⟩) z0.length z0.length] 34 (0, 0)))
      have BX : (y1.alloc (.cells #[.slice (some ⟨g2, 0, none⟩) z0.length z0.length] 34 (0, 0))).heap[y1.heap.size]? = some (.cells #[.slice (some ⟨g2, 0, none⟩) z0.length z0.length] 34 (0, 0)) := heap_hit _ _ _ rfl
      go_upto_region 9 with (fail)
      go_cut [14, 15, 16] (fun p q r wx => CutG (y1.alloc (.cells #[.slice (some ⟨g2, 0, none⟩) z0.length z0.length] 34 (0, 0))) zr zi ok p q r wx)
      case first =>
        have hltA := heap_lt hA
        have hltR := heap_lt BX
        have kR0 := cell_of BX 0
        have hRA := rangeAt_blk hA
        refine wp_region_noPanic ?_
        refine wp_region_held_drew (S := (fun w' => w'.cell? ⟨y1.heap.size, 0, none⟩ = some (.slice (some ⟨g2, 0, none⟩) z0.length z0.length : Value) ∧ w'.rangeAt (w.heap.size + 1) 0 (ac a) ∧ Below (y1.alloc (.cells #[.slice (some ⟨g2, 0, none⟩) z0.length z0.length] 34 (0, 0))).heap.size (y1.alloc (.cells #[.slice (some ⟨g2, 0, none⟩) z0.length z0.length] 34 (0, 0))) w')) (by kernel_rfl) ⟨kR0, hRA, (Below.refl _ _).drew⟩ (fun hHeld => ?_)
        refine wpAnyH_take (i := 0) (oi := _) (v := ?_) rfl (by kernel_rfl) (by kernel_rfl) (by kernel_rfl) (fun _ _ _ h => h) (Or.inl ⟨by rfl, ?_⟩) (by assumption) ?_
        rotate_left
        · intro w hSw; (try dsimp only at hSw); first | (go_simp; done) | (go_simp; with_reducible rfl)
        simp only [Act.put, List.getElem_toArray, List.getElem_cons_succ, List.getElem_cons_zero, List.setIfInBounds_toArray, List.set_cons_zero, List.set_cons_succ]
        refine wpAnyH_take (i := 1) (oi := _) (v := ?_) rfl (by kernel_rfl) (by kernel_rfl) (by kernel_rfl) (fun _ _ _ h => h) (Or.inl ⟨by rfl, ?_⟩) (by assumption) ?_
        rotate_left
        · intro w hSw; clear hSw; first | (go_simp; done) | (go_simp; with_reducible rfl)
        simp only [Act.put, List.getElem_toArray, List.getElem_cons_succ, List.getElem_cons_zero, List.setIfInBounds_toArray, List.set_cons_zero, List.set_cons_succ]
        refine wpAnyH_take (i := 2) (oi := _) (v := ?_) rfl (by kernel_rfl) (by kernel_rfl) (by kernel_rfl) (fun _ _ _ h => h) (Or.inl ⟨by rfl, ?_⟩) (by assumption) ?_
        rotate_left
        · intro w hSw; clear hSw; first | (go_simp; done) | (go_simp; with_reducible rfl)
        simp only [Act.put, List.getElem_toArray, List.getElem_cons_succ, List.getElem_cons_zero, List.setIfInBounds_toArray, List.set_cons_zero, List.set_cons_succ]
        refine wpAnyH_take (i := 3) (oi := _) (v := _) rfl ?g1_2 ?g2_2 ?g3_2 (fun _ _ _ h => h) (yieldsIf_load_mid ?g4_2 _ _ rfl (w.heap.size + 1) ?oo_2 ?g5_2 (ac a) _ ?g6_2 Try.underlying30 rfl (info_acL a)) ?g7_2 ?_
        case g5_2 => rfl
        case g1_2 => kernel_rfl
        case g2_2 => kernel_rfl
        case g3_2 => kernel_rfl
        case g6_2 => exact (fun _ h => h.2.1)
        case g4_2 => kernel_rfl
        case g7_2 => assumption
        simp only [Act.put, List.getElem_toArray, List.getElem_cons_succ, List.getElem_cons_zero, List.setIfInBounds_toArray, List.set_cons_zero, List.set_cons_succ]
        refine wpAnyH_ready (rs := [4, 10]) (by kernel_rfl) (by simp) ?_
        refine AllReadyH.cons (o := _) rfl (fun K hK => ?_) ?_
        · go_simp
          refine (toArmsC a _).mono ?_
          rintro e s2 ⟨rfl, sh2⟩
          have sz2 := sh2.size
          try simp only [World.size_alloc, World.size_drew] at sz2
          go_wp2_with fail
          refine hK.out _ _ ⟨keep_cell hHeld.1 sh2, rangeAt_below hHeld.2.1 sh2, Below_then hHeld.2.2 sh2⟩ (fun hHeld => ?_)
          clear hK K
          try simp only [Act.put, List.getElem_toArray, List.getElem_cons_succ, List.getElem_cons_zero, List.setIfInBounds_toArray, List.set_cons_zero, List.set_cons_succ]
          refine wpAnyH_ready (rs := [5, 10]) (by kernel_rfl) (by simp) ?_
          refine AllReadyH.cons (o := _) rfl (fun K hK => ?_) ?_
          · have hHm := hHeld.2.2
            have sz0 := hHm.size
            try simp only [World.size_alloc, World.size_drew] at sz0
            go_simp
            refine (KI'.out _ _ ((grd oX).below hHeld.2.2)).mono ?_
            rintro e s3 ⟨vG, rfl, oG, sh3⟩
            have sz3 := sh3.size
            try simp only [World.size_alloc, World.size_drew] at sz3
            obtain ⟨AG, cG, rfl, -⟩ := oG.form
            go_wp2_with fail
            refine hK.out _ _ ⟨keep_cell hHeld.1 sh3, rangeAt_below hHeld.2.1 sh3, Below_then hHeld.2.2 sh3⟩ (fun hHeld => ?_)
            clear hK K
            try simp only [Act.put, List.getElem_toArray, List.getElem_cons_succ, List.getElem_cons_zero, List.setIfInBounds_toArray, List.set_cons_zero, List.set_cons_succ]
            refine wpAnyH_take (i := 6) (oi := _) (v := ?_) rfl (by kernel_rfl) (by kernel_rfl) (by kernel_rfl) (fun _ _ _ h => h) (Or.inl ⟨by rfl, ?_⟩) (by assumption) ?_
            rotate_left
            · intro w hSw; clear hSw; first | (go_simp; done) | (go_simp; with_reducible rfl)
            simp only [Act.put, List.getElem_toArray, List.getElem_cons_succ, List.getElem_cons_zero, List.setIfInBounds_toArray, List.set_cons_zero, List.set_cons_succ]
            refine wpAnyH_take (i := 7) (oi := _) (v := ?_) rfl (by kernel_rfl) (by kernel_rfl) (by kernel_rfl) (fun _ _ _ h => h) (Or.inl ⟨by rfl, ?_⟩) (by assumption) ?_
            rotate_left
            · intro w hSw; clear hSw; first | (go_simp; done) | (go_simp; with_reducible rfl)
            simp only [Act.put, List.getElem_toArray, List.getElem_cons_succ, List.getElem_cons_zero, List.setIfInBounds_toArray, List.set_cons_zero, List.set_cons_succ]
            refine wpAnyH_take (i := 8) (oi := _) (v := ?_) rfl (by kernel_rfl) (by kernel_rfl) (by kernel_rfl) (fun _ _ _ h => h) (Or.inl ⟨by rfl, ?_⟩) (by assumption) ?_
            rotate_left
            · intro w hSw; clear hSw; first | (go_simp; done) | (go_simp; with_reducible rfl)
            simp only [Act.put, List.getElem_toArray, List.getElem_cons_succ, List.getElem_cons_zero, List.setIfInBounds_toArray, List.set_cons_zero, List.set_cons_succ]
            refine wpAnyH_take (i := 9) (oi := _) (v := ?_) rfl (by kernel_rfl) (by kernel_rfl) (by kernel_rfl) (fun _ _ _ h => h) (Or.inl ⟨by rfl, ?_⟩) (by assumption) ?_
            rotate_left
            · intro w hSw; clear hSw; first | (go_simp; done) | (go_simp; with_reducible rfl)
            simp only [Act.put, List.getElem_toArray, List.getElem_cons_succ, List.getElem_cons_zero, List.setIfInBounds_toArray, List.set_cons_zero, List.set_cons_succ]
            have hH0 := hHeld
            refine wpAnyH_ready (rs := [10]) (by kernel_rfl) (by simp) ?_
            refine AllReadyH.cons (o := _) rfl (fun K hK => ?_) AllReadyH.nil
            have sza := hHeld.2.2.size
            try simp only [World.size_alloc, World.size_drew] at sza
            go_simp
            refine hK.out _ _ ⟨keep_cell hHeld.1 (Below_al (Below.refl _ _) (.cells #[.slice none 0 0] 34 (0, 0))), rangeAt_below hHeld.2.1 (Below_al (Below.refl _ _) (.cells #[.slice none 0 0] 34 (0, 0))), Below_then hHeld.2.2 (Below_al (Below.refl _ _) (.cells #[.slice none 0 0] 34 (0, 0)))⟩ (fun hHeld => ?_)
            clear hK K
            try simp only [Act.put, List.getElem_toArray, List.getElem_cons_succ, List.getElem_cons_zero, List.setIfInBounds_toArray, List.set_cons_zero, List.set_cons_succ]
            have hb0 : (s3.alloc (.cells #[.slice none 0 0] 34 (0, 0))).heap[s3.heap.size]? = some (.cells #[.slice none 0 0] 34 (0, 0)) := heap_hit _ _ _ (by first | rfl | simp)
            refine wpAnyH_ready (rs := [11]) (by kernel_rfl) (by simp) ?_
            refine AllReadyH.cons (o := _) rfl (fun K hK => ?_) AllReadyH.nil
            go_simp
            refine hK.out _ _ ⟨keep_cell hH0.1 (Below_al (Below.refl _ _) (.cells #[.slice AG zr.length cG] 34 (0, 0))), rangeAt_below hH0.2.1 (Below_al (Below.refl _ _) (.cells #[.slice AG zr.length cG] 34 (0, 0))), Below_then hH0.2.2 (Below_al (Below.refl _ _) (.cells #[.slice AG zr.length cG] 34 (0, 0)))⟩ (fun hHeld => ?_)
            clear hK K
            try simp only [Act.put, List.getElem_toArray, List.getElem_cons_succ, List.getElem_cons_zero, List.setIfInBounds_toArray, List.set_cons_zero, List.set_cons_succ]
            refine wpAnyH_take (i := 12) (oi := _) (v := ?_) rfl (by kernel_rfl) (by kernel_rfl) (by kernel_rfl) (fun _ _ _ h => h) (Or.inl ⟨by rfl, ?_⟩) (by assumption) ?_
            rotate_left
            · intro w hSw; clear hSw; first | (go_simp; done) | (go_simp; with_reducible rfl)
            simp only [Act.put, List.getElem_toArray, List.getElem_cons_succ, List.getElem_cons_zero, List.setIfInBounds_toArray, List.set_cons_zero, List.set_cons_succ]
            refine wpAnyH_take (i := 13) (oi := _) (v := ?_) rfl (by kernel_rfl) (by kernel_rfl) (by kernel_rfl) (fun _ _ _ h => h) (Or.inl ⟨by rfl, ?_⟩) (by assumption) ?_
            rotate_left
            · intro w hSw; clear hSw; first | (go_simp; done) | (go_simp; with_reducible rfl)
            simp only [Act.put, List.getElem_toArray, List.getElem_cons_succ, List.getElem_cons_zero, List.setIfInBounds_toArray, List.set_cons_zero, List.set_cons_succ]
            refine wpAnyH_done (by kernel_rfl) ?_ _
            refine NoPanic.normal ?_
            go_wp2_with fail
            go_meet
            exact CutG.of_alloc oG (by (try simp only [World.size_alloc, World.size_drew]); omega) hH0.2.2
          · refine AllReadyH.cons (o := _) rfl (fun K hK => ?_) AllReadyH.nil
            have sza := hHeld.2.2.size
            try simp only [World.size_alloc, World.size_drew] at sza
            go_simp
            refine hK.out _ _ ⟨keep_cell hHeld.1 (Below_al (Below.refl _ _) (.cells #[.slice none 0 0] 34 (0, 0))), rangeAt_below hHeld.2.1 (Below_al (Below.refl _ _) (.cells #[.slice none 0 0] 34 (0, 0))), Below_then hHeld.2.2 (Below_al (Below.refl _ _) (.cells #[.slice none 0 0] 34 (0, 0)))⟩ (fun hHeld => ?_)
            clear hK K
            try simp only [Act.put, List.getElem_toArray, List.getElem_cons_succ, List.getElem_cons_zero, List.setIfInBounds_toArray, List.set_cons_zero, List.set_cons_succ]
            have hb0 : (s2.alloc (.cells #[.slice none 0 0] 34 (0, 0))).heap[s2.heap.size]? = some (.cells #[.slice none 0 0] 34 (0, 0)) := heap_hit _ _ _ (by first | rfl | simp)
            refine wpAnyH_ready (rs := [5]) (by kernel_rfl) (by simp) ?_
            refine AllReadyH.cons (o := _) rfl (fun K hK => ?_) AllReadyH.nil
            have hHm := hHeld.2.2
            have sz0 := hHm.size
            try simp only [World.size_alloc, World.size_drew] at sz0
            go_simp
            refine (KI'.out _ _ ((grd oX).below hHeld.2.2)).mono ?_
            rintro e s3 ⟨vG, rfl, oG, sh3⟩
            have hb0 := heap_keepB hb0 sh3
            have sz3 := sh3.size
            try simp only [World.size_alloc, World.size_drew] at sz3
            obtain ⟨AG, cG, rfl, -⟩ := oG.form
            go_wp2_with fail
            refine hK.out _ _ ⟨keep_cell hHeld.1 sh3, rangeAt_below hHeld.2.1 sh3, Below_then hHeld.2.2 sh3⟩ (fun hHeld => ?_)
            clear hK K
            try simp only [Act.put, List.getElem_toArray, List.getElem_cons_succ, List.getElem_cons_zero, List.setIfInBounds_toArray, List.set_cons_zero, List.set_cons_succ]
            refine wpAnyH_take (i := 6) (oi := _) (v := ?_) rfl (by kernel_rfl) (by kernel_rfl) (by kernel_rfl) (fun _ _ _ h => h) (Or.inl ⟨by rfl, ?_⟩) (by assumption) ?_
            rotate_left
            · intro w hSw; clear hSw; first | (go_simp; done) | (go_simp; with_reducible rfl)
            simp only [Act.put, List.getElem_toArray, List.getElem_cons_succ, List.getElem_cons_zero, List.setIfInBounds_toArray, List.set_cons_zero, List.set_cons_succ]
            refine wpAnyH_take (i := 7) (oi := _) (v := ?_) rfl (by kernel_rfl) (by kernel_rfl) (by kernel_rfl) (fun _ _ _ h => h) (Or.inl ⟨by rfl, ?_⟩) (by assumption) ?_
            rotate_left
            · intro w hSw; clear hSw; first | (go_simp; done) | (go_simp; with_reducible rfl)
            simp only [Act.put, List.getElem_toArray, List.getElem_cons_succ, List.getElem_cons_zero, List.setIfInBounds_toArray, List.set_cons_zero, List.set_cons_succ]
            refine wpAnyH_take (i := 8) (oi := _) (v := ?_) rfl (by kernel_rfl) (by kernel_rfl) (by kernel_rfl) (fun _ _ _ h => h) (Or.inl ⟨by rfl, ?_⟩) (by assumption) ?_
            rotate_left
            · intro w hSw; clear hSw; first | (go_simp; done) | (go_simp; with_reducible rfl)
            simp only [Act.put, List.getElem_toArray, List.getElem_cons_succ, List.getElem_cons_zero, List.setIfInBounds_toArray, List.set_cons_zero, List.set_cons_succ]
            refine wpAnyH_take (i := 9) (oi := _) (v := ?_) rfl (by kernel_rfl) (by kernel_rfl) (by kernel_rfl) (fun _ _ _ h => h) (Or.inl ⟨by rfl, ?_⟩) (by assumption) ?_
            rotate_left
            · intro w hSw; clear hSw; first | (go_simp; done) | (go_simp; with_reducible rfl)
            simp only [Act.put, List.getElem_toArray, List.getElem_cons_succ, List.getElem_cons_zero, List.setIfInBounds_toArray, List.set_cons_zero, List.set_cons_succ]
            have hbf := frozen_of hb0
            have hbc := cell_of hb0 0
            have hH3 := hHeld.2.2
            refine wpAnyH_ready (rs := [11]) (by kernel_rfl) (by simp) ?_
            refine AllReadyH.cons (o := _) rfl (fun K hK => ?_) AllReadyH.nil
            go_simp
            refine hK.out _ _ (held_set hHeld (s2.heap.size) (.slice AG zr.length cG) (by (try dsimp only); (try simp only [World.size_alloc, World.size_drew]); omega) (by (try dsimp only); (try simp only [World.size_alloc, World.size_drew]); omega) (by (try dsimp only); (try simp only [World.size_alloc, World.size_drew]); omega)) (fun hHeld => ?_)
            clear hK K
            try simp only [Act.put, List.getElem_toArray, List.getElem_cons_succ, List.getElem_cons_zero, List.setIfInBounds_toArray, List.set_cons_zero, List.set_cons_succ]
            refine wpAnyH_take (i := 12) (oi := _) (v := ?_) rfl (by kernel_rfl) (by kernel_rfl) (by kernel_rfl) (fun _ _ _ h => h) (Or.inl ⟨by rfl, ?_⟩) (by assumption) ?_
            rotate_left
            · intro w hSw; clear hSw; first | (go_simp; done) | (go_simp; with_reducible rfl)
            simp only [Act.put, List.getElem_toArray, List.getElem_cons_succ, List.getElem_cons_zero, List.setIfInBounds_toArray, List.set_cons_zero, List.set_cons_succ]
            refine wpAnyH_take (i := 13) (oi := _) (v := ?_) rfl (by kernel_rfl) (by kernel_rfl) (by kernel_rfl) (fun _ _ _ h => h) (Or.inl ⟨by rfl, ?_⟩) (by assumption) ?_
            rotate_left
            · intro w hSw; clear hSw; first | (go_simp; done) | (go_simp; with_reducible rfl)
            simp only [Act.put, List.getElem_toArray, List.getElem_cons_succ, List.getElem_cons_zero, List.setIfInBounds_toArray, List.set_cons_zero, List.set_cons_succ]
            refine wpAnyH_done (by kernel_rfl) ?_ _
            refine NoPanic.normal ?_
            go_wp2_with fail
            go_meet
            exact CutG.of_set oG (by (try simp only [World.size_alloc, World.size_drew]); omega) hb0 hH3 (by (try simp only [World.size_alloc, World.size_drew]); omega) (by (try simp only [World.size_alloc, World.size_drew]); omega)
        · refine AllReadyH.cons (o := _) rfl (fun K hK => ?_) AllReadyH.nil
          have sza := hHeld.2.2.size
          try simp only [World.size_alloc, World.size_drew] at sza
          go_simp
          refine hK.out _ _ ⟨keep_cell hHeld.1 (Below_al (Below.refl _ _) (.cells #[.slice none 0 0] 34 (0, 0))), rangeAt_below hHeld.2.1 (Below_al (Below.refl _ _) (.cells #[.slice none 0 0] 34 (0, 0))), Below_then hHeld.2.2 (Below_al (Below.refl _ _) (.cells #[.slice none 0 0] 34 (0, 0)))⟩ (fun hHeld => ?_)
          clear hK K
          try simp only [Act.put, List.getElem_toArray, List.getElem_cons_succ, List.getElem_cons_zero, List.setIfInBounds_toArray, List.set_cons_zero, List.set_cons_succ]
          have hb0 : ((y1.alloc (.cells #[.slice (some ⟨g2, 0, none⟩) z0.length z0.length] 34 (0, 0))).drew.alloc (.cells #[.slice none 0 0] 34 (0, 0))).heap[(y1.heap.size + 1)]? = some (.cells #[.slice none 0 0] 34 (0, 0)) := heap_hit _ _ _ (by first | rfl | simp)
          refine wpAnyH_ready (rs := [4]) (by kernel_rfl) (by simp) ?_
          refine AllReadyH.cons (o := _) rfl (fun K hK => ?_) AllReadyH.nil
          go_simp
          refine (toArmsC a _).mono ?_
          rintro e s2 ⟨rfl, sh2⟩
          have hb0 := heap_keepB hb0 sh2
          have sz2 := sh2.size
          try simp only [World.size_alloc, World.size_drew] at sz2
          go_wp2_with fail
          refine hK.out _ _ ⟨keep_cell hHeld.1 sh2, rangeAt_below hHeld.2.1 sh2, Below_then hHeld.2.2 sh2⟩ (fun hHeld => ?_)
          clear hK K
          try simp only [Act.put, List.getElem_toArray, List.getElem_cons_succ, List.getElem_cons_zero, List.setIfInBounds_toArray, List.set_cons_zero, List.set_cons_succ]
          refine wpAnyH_ready (rs := [5]) (by kernel_rfl) (by simp) ?_
          refine AllReadyH.cons (o := _) rfl (fun K hK => ?_) AllReadyH.nil
          have hHm := hHeld.2.2
          have sz0 := hHm.size
          try simp only [World.size_alloc, World.size_drew] at sz0
          go_simp
          refine (KI'.out _ _ ((grd oX).below hHeld.2.2)).mono ?_
          rintro e s3 ⟨vG, rfl, oG, sh3⟩
          have hb0 := heap_keepB hb0 sh3
          have sz3 := sh3.size
          try simp only [World.size_alloc, World.size_drew] at sz3
          obtain ⟨AG, cG, rfl, -⟩ := oG.form
          go_wp2_with fail
          refine hK.out _ _ ⟨keep_cell hHeld.1 sh3, rangeAt_below hHeld.2.1 sh3, Below_then hHeld.2.2 sh3⟩ (fun hHeld => ?_)
          clear hK K
          try simp only [Act.put, List.getElem_toArray, List.getElem_cons_succ, List.getElem_cons_zero, List.setIfInBounds_toArray, List.set_cons_zero, List.set_cons_succ]
          refine wpAnyH_take (i := 6) (oi := _) (v := ?_) rfl (by kernel_rfl) (by kernel_rfl) (by kernel_rfl) (fun _ _ _ h => h) (Or.inl ⟨by rfl, ?_⟩) (by assumption) ?_
          rotate_left
          · intro w hSw; clear hSw; first | (go_simp; done) | (go_simp; with_reducible rfl)
          simp only [Act.put, List.getElem_toArray, List.getElem_cons_succ, List.getElem_cons_zero, List.setIfInBounds_toArray, List.set_cons_zero, List.set_cons_succ]
          refine wpAnyH_take (i := 7) (oi := _) (v := ?_) rfl (by kernel_rfl) (by kernel_rfl) (by kernel_rfl) (fun _ _ _ h => h) (Or.inl ⟨by rfl, ?_⟩) (by assumption) ?_
          rotate_left
          · intro w hSw; clear hSw; first | (go_simp; done) | (go_simp; with_reducible rfl)
          simp only [Act.put, List.getElem_toArray, List.getElem_cons_succ, List.getElem_cons_zero, List.setIfInBounds_toArray, List.set_cons_zero, List.set_cons_succ]
          refine wpAnyH_take (i := 8) (oi := _) (v := ?_) rfl (by kernel_rfl) (by kernel_rfl) (by kernel_rfl) (fun _ _ _ h => h) (Or.inl ⟨by rfl, ?_⟩) (by assumption) ?_
          rotate_left
          · intro w hSw; clear hSw; first | (go_simp; done) | (go_simp; with_reducible rfl)
          simp only [Act.put, List.getElem_toArray, List.getElem_cons_succ, List.getElem_cons_zero, List.setIfInBounds_toArray, List.set_cons_zero, List.set_cons_succ]
          refine wpAnyH_take (i := 9) (oi := _) (v := ?_) rfl (by kernel_rfl) (by kernel_rfl) (by kernel_rfl) (fun _ _ _ h => h) (Or.inl ⟨by rfl, ?_⟩) (by assumption) ?_
          rotate_left
          · intro w hSw; clear hSw; first | (go_simp; done) | (go_simp; with_reducible rfl)
          simp only [Act.put, List.getElem_toArray, List.getElem_cons_succ, List.getElem_cons_zero, List.setIfInBounds_toArray, List.set_cons_zero, List.set_cons_succ]
          have hbf := frozen_of hb0
          have hbc := cell_of hb0 0
          have hH3 := hHeld.2.2
          refine wpAnyH_ready (rs := [11]) (by kernel_rfl) (by simp) ?_
          refine AllReadyH.cons (o := _) rfl (fun K hK => ?_) AllReadyH.nil
          go_simp
          refine hK.out _ _ (held_set hHeld ((y1.heap.size + 1)) (.slice AG zr.length cG) (by (try dsimp only); (try simp only [World.size_alloc, World.size_drew]); omega) (by (try dsimp only); (try simp only [World.size_alloc, World.size_drew]); omega) (by (try dsimp only); (try simp only [World.size_alloc, World.size_drew]); omega)) (fun hHeld => ?_)
          clear hK K
          try simp only [Act.put, List.getElem_toArray, List.getElem_cons_succ, List.getElem_cons_zero, List.setIfInBounds_toArray, List.set_cons_zero, List.set_cons_succ]
          refine wpAnyH_take (i := 12) (oi := _) (v := ?_) rfl (by kernel_rfl) (by kernel_rfl) (by kernel_rfl) (fun _ _ _ h => h) (Or.inl ⟨by rfl, ?_⟩) (by assumption) ?_
          rotate_left
          · intro w hSw; clear hSw; first | (go_simp; done) | (go_simp; with_reducible rfl)
          simp only [Act.put, List.getElem_toArray, List.getElem_cons_succ, List.getElem_cons_zero, List.setIfInBounds_toArray, List.set_cons_zero, List.set_cons_succ]
          refine wpAnyH_take (i := 13) (oi := _) (v := ?_) rfl (by kernel_rfl) (by kernel_rfl) (by kernel_rfl) (fun _ _ _ h => h) (Or.inl ⟨by rfl, ?_⟩) (by assumption) ?_
          rotate_left
          · intro w hSw; clear hSw; first | (go_simp; done) | (go_simp; with_reducible rfl)
          simp only [Act.put, List.getElem_toArray, List.getElem_cons_succ, List.getElem_cons_zero, List.setIfInBounds_toArray, List.set_cons_zero, List.set_cons_succ]
          refine wpAnyH_done (by kernel_rfl) ?_ _
          refine NoPanic.normal ?_
          go_wp2_with fail
          go_meet
          exact CutG.of_set oG (by (try simp only [World.size_alloc, World.size_drew]); omega) hb0 hH3 (by (try simp only [World.size_alloc, World.size_drew]); omega) (by (try simp only [World.size_alloc, World.size_drew]); omega)
      case rest =>
        obtain ⟨bG, AG, cG, rfl, rfl, rfl, hBn, hblG, hon, hneG, hx⟩ := hcut
        have LBG := heap_lt hBn
        have LG := hon.lt
        have zGc := hx.size
        try simp only [World.size_alloc, World.size_drew] at LG hblG zGc
        replace LG := Lib.hid LG
        replace hneG := Lib.hid hneG
        replace hT := Below_then hT hx
        replace hF := heap_keepB hF hx
        replace hA := heap_keepB hA hx
        replace oW := oW.below hx
        replace BW := heap_keepB BW hx
        replace oX := oX.below hx
        replace BX := heap_keepB BX hx
        have oG := hon
        have BG := hBn
        clear hx hon hBn
        have kBG0 := cell_of BG 0
        have kBW0 := cell_of BW 0
        go_wp2_with fail
        clear kBG0 kBW0
        refine (eqRegister_same _ _ _ _ zr _ (grd oG) (grd oW) (by omega)).mono ?_
        rintro e y2 ⟨rfl, hx⟩
        have z2 := hx.size
        try simp only [World.size_alloc, World.size_drew] at z2
        replace hT := Below_then hT hx
        replace hF := heap_keepB hF hx
        replace hA := heap_keepB hA hx
        replace oW := oW.below hx
        replace BW := heap_keepB BW hx
        replace oX := oX.below hx
        replace BX := heap_keepB BX hx
        replace oG := oG.below hx
        replace BG := heap_keepB BG hx
        clear hx
        go_wp2_with fail
        have kBX0 := cell_of BX 0
        have khF0 := cell_of hF 0
        refine wp_region_noPanic ?_
        refine wp_region_held_drew (S := (fun w' => w'.cell? ⟨y1.heap.size, 0, none⟩ = some (.slice (some ⟨g2, 0, none⟩) z0.length z0.length : Value) ∧ w'.cell? ⟨w.heap.size, 0, none⟩ = some (.slice A0 z0.length c0 : Value) ∧ Below y2.heap.size y2 w')) (by kernel_rfl) ⟨kBX0, khF0, (Below.refl _ _).drew⟩ (fun hHeld => ?_)
        refine wpAnyH_take (i := 0) (oi := _) (v := ?_) rfl (by kernel_rfl) (by kernel_rfl) (by kernel_rfl) (fun _ _ _ h => h) (Or.inl ⟨by rfl, ?_⟩) (by assumption) ?_
        rotate_left
        · intro w hSw; (try dsimp only at hSw); first | (go_simp; done) | (go_simp; with_reducible rfl)
        simp only [Act.put, List.getElem_toArray, List.getElem_cons_succ, List.getElem_cons_zero, List.setIfInBounds_toArray, List.set_cons_zero, List.set_cons_succ]
        refine wpAnyH_take (i := 1) (oi := _) (v := ?_) rfl (by kernel_rfl) (by kernel_rfl) (by kernel_rfl) (fun _ _ _ h => h) (Or.inl ⟨by rfl, ?_⟩) (by assumption) ?_
        rotate_left
        · intro w hSw; (try dsimp only at hSw); first | (go_simp; done) | (go_simp; with_reducible rfl)
        simp only [Act.put, List.getElem_toArray, List.getElem_cons_succ, List.getElem_cons_zero, List.setIfInBounds_toArray, List.set_cons_zero, List.set_cons_succ]
        refine wpAnyH_ready (rs := [2]) (by kernel_rfl) (by simp) ?_
        refine AllReadyH.cons (o := _) rfl (fun K hK => ?_) AllReadyH.nil
        go_simp
        refine (toRegister_any A0 c0 z0 _ (u0.below (Below_then hT hHeld.2.2)) HS.out).mono ?_
        rintro e v1 ⟨vg, rfl, vo, vh1⟩
        go_wp2_with fail
        refine hK.out _ _ ⟨keep_cell hHeld.1 vh1, keep_cell hHeld.2.1 vh1, Below_then hHeld.2.2 vh1⟩ (fun hHeld => ?_)
        clear hK K
        try simp only [Act.put, List.getElem_toArray, List.getElem_cons_succ, List.getElem_cons_zero, List.setIfInBounds_toArray, List.set_cons_zero, List.set_cons_succ]
        refine wpAnyH_ready (rs := [3]) (by kernel_rfl) (by simp) ?_
        refine AllReadyH.cons (o := _) rfl (fun K hK => ?_) AllReadyH.nil
        go_simp
        refine (eqRegister_same _ _ _ _ z0 _ ((grd oX).below hHeld.2.2) vo.rd HS.out).mono ?_
        rintro e v2 ⟨rfl, vh2⟩
        go_wp2_with fail
        refine hK.out _ _ ⟨keep_cell hHeld.1 vh2, keep_cell hHeld.2.1 vh2, Below_then hHeld.2.2 vh2⟩ (fun hHeld => ?_)
        clear hK K
        try simp only [Act.put, List.getElem_toArray, List.getElem_cons_succ, List.getElem_cons_zero, List.setIfInBounds_toArray, List.set_cons_zero, List.set_cons_succ]
        refine wpAnyH_take (i := 4) (oi := _) (v := ?_) rfl (by kernel_rfl) (by kernel_rfl) (by kernel_rfl) (fun _ _ _ h => h) (Or.inl ⟨by rfl, ?_⟩) (by assumption) ?_
        rotate_left
        · intro w hSw; clear hSw; first | (go_simp; done) | (go_simp; with_reducible rfl)
        simp only [Act.put, List.getElem_toArray, List.getElem_cons_succ, List.getElem_cons_zero, List.setIfInBounds_toArray, List.set_cons_zero, List.set_cons_succ]
        refine wpAnyH_done (by kernel_rfl) ?_ _
        refine NoPanic.normal ?_
        clear kBX0 khF0
        have hx := hHeld.2.2
        have zv := hx.size
        try simp only [World.size_alloc, World.size_drew] at zv
        replace hT := Below_then hT hx
        replace hF := heap_keepB hF hx
        replace hA := heap_keepB hA hx
        replace oW := oW.below hx
        replace BW := heap_keepB BW hx
        replace oX := oX.below hx
        replace BX := heap_keepB BX hx
        replace oG := oG.below hx
        replace BG := heap_keepB BG hx
        clear hHeld hx vh1 vh2 vo
        have kBX0 := cell_of BX 0
        go_wp2_with fail
        clear kBX0
        refine (markRegister_own _ _ z0 1 _ oX (by omega) (by omega) (by omega)).mono ?_
        rintro e y3 ⟨rfl, hm, hg⟩
        have z3 := hg.size
        try simp only [World.size_alloc, World.size_drew] at z3
        replace hT := hT.grown hg hT.size (fun b hb => by have := LX.out b hb; omega)
        replace hF := heap_keepG hF hg (fun e => by have := LX.out _ e; omega)
        replace hA := heap_keepG hA hg (fun e => by have := LX.out _ e; omega)
        replace oW := oW.other hg (ownApart LW.out LX.out (by omega))
        replace BW := heap_keepG BW hg (fun e => by have := LX.out _ e; omega)
        replace BX := heap_keepG BX hg (fun e => by have := LX.out _ e; omega)
        replace oG := oG.other hg (ownApart LG.out LX.out (by omega))
        replace BG := heap_keepG BG hg (fun e => by have := LX.out _ e; omega)
        replace oX := hm
        clear hm hg
        have kBG0 := cell_of BG 0
        have kBW0 := cell_of BW 0
        go_wp2_with fail
        clear kBG0 kBW0
        refine (eqRegister_same _ _ _ _ zr _ (grd oG) (grd oW) (by omega)).mono ?_
        rintro e y4 ⟨rfl, hx⟩
        have z4 := hx.size
        try simp only [World.size_alloc, World.size_drew] at z4
        replace hT := Below_then hT hx
        replace hF := heap_keepB hF hx
        replace hA := heap_keepB hA hx
        replace oW := oW.below hx
        replace BW := heap_keepB BW hx
        replace oX := oX.below hx
        replace BX := heap_keepB BX hx
        replace oG := oG.below hx
        replace BG := heap_keepB BG hx
        clear hx
        have hX9 := oX
        clear hX9
        clear oX BX
        have kBG0 := cell_of BG 0
        go_wp2_with fail
        clear kBG0
        refine (markRegister_own _ _ zr 1 _ oG (by omega) (by omega) (by omega)).mono ?_
        rintro e y5 ⟨rfl, hm, hg⟩
        have z5 := hg.size
        try simp only [World.size_alloc, World.size_drew] at z5
        replace hT := hT.grown hg hT.size (fun b hb => by have := LG.out b hb; omega)
        replace hF := heap_keepG hF hg (fun e => by have := LG.out _ e; omega)
        replace hA := heap_keepG hA hg (fun e => by have := LG.out _ e; omega)
        replace oW := oW.other hg (ownApart LW.out LG.out (by omega))
        replace BW := heap_keepG BW hg (fun e => by have := LG.out _ e; omega)
        replace BG := heap_keepG BG hg (hneG.out)
        replace oG := hm
        clear hm hg
        have kBG0 := cell_of BG 0
        go_wp2_with fail
        clear kBG0
        refine (heldRegister_marks _ _ zr.length 1 _ oG (by omega) (by omega) (by omega)).mono ?_
        rintro e y6 ⟨rfl, hx⟩
        have z6 := hx.size
        try simp only [World.size_alloc, World.size_drew] at z6
        replace hT := Below_then hT hx
        replace hF := heap_keepB hF hx
        replace hA := heap_keepB hA hx
        replace oW := oW.below hx
        replace BW := heap_keepB BW hx
        replace oG := oG.below hx
        replace BG := heap_keepB BG hx
        clear hx
        go_upto_region 26 with (fail)
        go_cut [20, 21, 22] (fun p q r wx => CutG y6 zr zi ok p q r wx)
        case first =>
          have hltA := heap_lt hA
          have hltR := heap_lt hF
          have kR0 := cell_of hF 0
          have hRA := rangeAt_blk hA
          refine wp_region_noPanic ?_
          refine wp_region_held_drew (S := (fun w' => w'.cell? ⟨w.heap.size, 0, none⟩ = some (.slice A0 z0.length c0 : Value) ∧ w'.rangeAt (w.heap.size + 1) 0 (ac a) ∧ Below y6.heap.size y6 w')) (by kernel_rfl) ⟨kR0, hRA, (Below.refl _ _).drew⟩ (fun hHeld => ?_)
          refine wpAnyH_take (i := 0) (oi := _) (v := ?_) rfl (by kernel_rfl) (by kernel_rfl) (by kernel_rfl) (fun _ _ _ h => h) (Or.inl ⟨by rfl, ?_⟩) (by assumption) ?_
          rotate_left
          · intro w hSw; (try dsimp only at hSw); first | (go_simp; done) | (go_simp; with_reducible rfl)
          simp only [Act.put, List.getElem_toArray, List.getElem_cons_succ, List.getElem_cons_zero, List.setIfInBounds_toArray, List.set_cons_zero, List.set_cons_succ]
          refine wpAnyH_take (i := 2) (oi := _) (v := ?_) rfl (by kernel_rfl) (by kernel_rfl) (by kernel_rfl) (fun _ _ _ h => h) (Or.inl ⟨by rfl, ?_⟩) (by assumption) ?_
          rotate_left
          · intro w hSw; clear hSw; first | (go_simp; done) | (go_simp; with_reducible rfl)
          simp only [Act.put, List.getElem_toArray, List.getElem_cons_succ, List.getElem_cons_zero, List.setIfInBounds_toArray, List.set_cons_zero, List.set_cons_succ]
          refine wpAnyH_take (i := 3) (oi := _) (v := ?_) rfl (by kernel_rfl) (by kernel_rfl) (by kernel_rfl) (fun _ _ _ h => h) (Or.inl ⟨by rfl, ?_⟩) (by assumption) ?_
          rotate_left
          · intro w hSw; clear hSw; first | (go_simp; done) | (go_simp; with_reducible rfl)
          simp only [Act.put, List.getElem_toArray, List.getElem_cons_succ, List.getElem_cons_zero, List.setIfInBounds_toArray, List.set_cons_zero, List.set_cons_succ]
          refine wpAnyH_take (i := 4) (oi := _) (v := _) rfl ?g1_3 ?g2_3 ?g3_3 (fun _ _ _ h => h) (yieldsIf_load_mid ?g4_3 _ _ rfl (w.heap.size + 1) ?oo_3 ?g5_3 (ac a) _ ?g6_3 Try.underlying30 rfl (info_acL a)) ?g7_3 ?_
          case g5_3 => rfl
          case g1_3 => kernel_rfl
          case g2_3 => kernel_rfl
          case g3_3 => kernel_rfl
          case g6_3 => exact (fun _ h => h.2.1)
          case g4_3 => kernel_rfl
          case g7_3 => assumption
          simp only [Act.put, List.getElem_toArray, List.getElem_cons_succ, List.getElem_cons_zero, List.setIfInBounds_toArray, List.set_cons_zero, List.set_cons_succ]
          refine wpAnyH_ready (rs := [1, 11]) (by kernel_rfl) (by simp) ?_
          refine AllReadyH.cons (o := _) rfl (fun K hK => ?_) ?_
          · go_simp
            refine (toRegister_any A0 c0 z0 _ (u0.below (Below_then hT hHeld.2.2)) HS.out).mono ?_
            rintro e s1 ⟨sg, rfl, so, sh1⟩
            have hrd := so.rd
            have sz1 := sh1.size
            try simp only [World.size_alloc, World.size_drew] at sz1
            go_wp2_with fail
            refine hK.out _ _ ⟨keep_cell hHeld.1 sh1, rangeAt_below hHeld.2.1 sh1, Below_then hHeld.2.2 sh1⟩ (fun hHeld => ?_)
            clear hK K
            try simp only [Act.put, List.getElem_toArray, List.getElem_cons_succ, List.getElem_cons_zero, List.setIfInBounds_toArray, List.set_cons_zero, List.set_cons_succ]
            refine wpAnyH_ready (rs := [5, 11]) (by kernel_rfl) (by simp) ?_
            refine AllReadyH.cons (o := _) rfl (fun K hK => ?_) ?_
            · go_simp
              refine (toArmsC a _).mono ?_
              rintro e s2 ⟨rfl, sh2⟩
              have hrd := hrd.below sh2
              have sz2 := sh2.size
              try simp only [World.size_alloc, World.size_drew] at sz2
              go_wp2_with fail
              refine hK.out _ _ ⟨keep_cell hHeld.1 sh2, rangeAt_below hHeld.2.1 sh2, Below_then hHeld.2.2 sh2⟩ (fun hHeld => ?_)
              clear hK K
              try simp only [Act.put, List.getElem_toArray, List.getElem_cons_succ, List.getElem_cons_zero, List.setIfInBounds_toArray, List.set_cons_zero, List.set_cons_succ]
              refine wpAnyH_ready (rs := [6, 11]) (by kernel_rfl) (by simp) ?_
              refine AllReadyH.cons (o := _) rfl (fun K hK => ?_) ?_
              · have hHm := hHeld.2.2
                have sz0 := hHm.size
                try simp only [World.size_alloc, World.size_drew] at sz0
                go_simp
                refine (KI'.out _ _ hrd).mono ?_
                rintro e s3 ⟨vH, rfl, oH, sh3⟩
                have sz3 := sh3.size
                try simp only [World.size_alloc, World.size_drew] at sz3
                obtain ⟨AH, cH, rfl, -⟩ := oH.form
                go_wp2_with fail
                refine hK.out _ _ ⟨keep_cell hHeld.1 sh3, rangeAt_below hHeld.2.1 sh3, Below_then hHeld.2.2 sh3⟩ (fun hHeld => ?_)
                clear hK K
                try simp only [Act.put, List.getElem_toArray, List.getElem_cons_succ, List.getElem_cons_zero, List.setIfInBounds_toArray, List.set_cons_zero, List.set_cons_succ]
                refine wpAnyH_take (i := 7) (oi := _) (v := ?_) rfl (by kernel_rfl) (by kernel_rfl) (by kernel_rfl) (fun _ _ _ h => h) (Or.inl ⟨by rfl, ?_⟩) (by assumption) ?_
                rotate_left
                · intro w hSw; clear hSw; first | (go_simp; done) | (go_simp; with_reducible rfl)
                simp only [Act.put, List.getElem_toArray, List.getElem_cons_succ, List.getElem_cons_zero, List.setIfInBounds_toArray, List.set_cons_zero, List.set_cons_succ]
                refine wpAnyH_take (i := 8) (oi := _) (v := ?_) rfl (by kernel_rfl) (by kernel_rfl) (by kernel_rfl) (fun _ _ _ h => h) (Or.inl ⟨by rfl, ?_⟩) (by assumption) ?_
                rotate_left
                · intro w hSw; clear hSw; first | (go_simp; done) | (go_simp; with_reducible rfl)
                simp only [Act.put, List.getElem_toArray, List.getElem_cons_succ, List.getElem_cons_zero, List.setIfInBounds_toArray, List.set_cons_zero, List.set_cons_succ]
                refine wpAnyH_take (i := 9) (oi := _) (v := ?_) rfl (by kernel_rfl) (by kernel_rfl) (by kernel_rfl) (fun _ _ _ h => h) (Or.inl ⟨by rfl, ?_⟩) (by assumption) ?_
                rotate_left
                · intro w hSw; clear hSw; first | (go_simp; done) | (go_simp; with_reducible rfl)
                simp only [Act.put, List.getElem_toArray, List.getElem_cons_succ, List.getElem_cons_zero, List.setIfInBounds_toArray, List.set_cons_zero, List.set_cons_succ]
                refine wpAnyH_take (i := 10) (oi := _) (v := ?_) rfl (by kernel_rfl) (by kernel_rfl) (by kernel_rfl) (fun _ _ _ h => h) (Or.inl ⟨by rfl, ?_⟩) (by assumption) ?_
                rotate_left
                · intro w hSw; clear hSw; first | (go_simp; done) | (go_simp; with_reducible rfl)
                simp only [Act.put, List.getElem_toArray, List.getElem_cons_succ, List.getElem_cons_zero, List.setIfInBounds_toArray, List.set_cons_zero, List.set_cons_succ]
                have hH0 := hHeld
                refine wpAnyH_ready (rs := [11]) (by kernel_rfl) (by simp) ?_
                refine AllReadyH.cons (o := _) rfl (fun K hK => ?_) AllReadyH.nil
                have sza := hHeld.2.2.size
                try simp only [World.size_alloc, World.size_drew] at sza
                go_simp
                refine hK.out _ _ ⟨keep_cell hHeld.1 (Below_al (Below.refl _ _) (.cells #[.slice none 0 0] 34 (0, 0))), rangeAt_below hHeld.2.1 (Below_al (Below.refl _ _) (.cells #[.slice none 0 0] 34 (0, 0))), Below_then hHeld.2.2 (Below_al (Below.refl _ _) (.cells #[.slice none 0 0] 34 (0, 0)))⟩ (fun hHeld => ?_)
                clear hK K
                try simp only [Act.put, List.getElem_toArray, List.getElem_cons_succ, List.getElem_cons_zero, List.setIfInBounds_toArray, List.set_cons_zero, List.set_cons_succ]
                have hrd := hrd.alloc (.cells #[.slice none 0 0] 34 (0, 0))
                have hb0 : (s3.alloc (.cells #[.slice none 0 0] 34 (0, 0))).heap[s3.heap.size]? = some (.cells #[.slice none 0 0] 34 (0, 0)) := heap_hit _ _ _ (by first | rfl | simp)
                refine wpAnyH_ready (rs := [12]) (by kernel_rfl) (by simp) ?_
                refine AllReadyH.cons (o := _) rfl (fun K hK => ?_) AllReadyH.nil
                go_simp
                refine hK.out _ _ ⟨keep_cell hH0.1 (Below_al (Below.refl _ _) (.cells #[.slice AH zr.length cH] 34 (0, 0))), rangeAt_below hH0.2.1 (Below_al (Below.refl _ _) (.cells #[.slice AH zr.length cH] 34 (0, 0))), Below_then hH0.2.2 (Below_al (Below.refl _ _) (.cells #[.slice AH zr.length cH] 34 (0, 0)))⟩ (fun hHeld => ?_)
                clear hK K
                try simp only [Act.put, List.getElem_toArray, List.getElem_cons_succ, List.getElem_cons_zero, List.setIfInBounds_toArray, List.set_cons_zero, List.set_cons_succ]
                refine wpAnyH_take (i := 13) (oi := _) (v := ?_) rfl (by kernel_rfl) (by kernel_rfl) (by kernel_rfl) (fun _ _ _ h => h) (Or.inl ⟨by rfl, ?_⟩) (by assumption) ?_
                rotate_left
                · intro w hSw; clear hSw; first | (go_simp; done) | (go_simp; with_reducible rfl)
                simp only [Act.put, List.getElem_toArray, List.getElem_cons_succ, List.getElem_cons_zero, List.setIfInBounds_toArray, List.set_cons_zero, List.set_cons_succ]
                refine wpAnyH_take (i := 14) (oi := _) (v := ?_) rfl (by kernel_rfl) (by kernel_rfl) (by kernel_rfl) (fun _ _ _ h => h) (Or.inl ⟨by rfl, ?_⟩) (by assumption) ?_
                rotate_left
                · intro w hSw; clear hSw; first | (go_simp; done) | (go_simp; with_reducible rfl)
                simp only [Act.put, List.getElem_toArray, List.getElem_cons_succ, List.getElem_cons_zero, List.setIfInBounds_toArray, List.set_cons_zero, List.set_cons_succ]
                refine wpAnyH_done (by kernel_rfl) ?_ _
                refine NoPanic.normal ?_
                go_wp2_with fail
                go_meet
                exact CutG.of_alloc oH (by (try simp only [World.size_alloc, World.size_drew]); omega) hH0.2.2
              · refine AllReadyH.cons (o := _) rfl (fun K hK => ?_) AllReadyH.nil
                have sza := hHeld.2.2.size
                try simp only [World.size_alloc, World.size_drew] at sza
                go_simp
                refine hK.out _ _ ⟨keep_cell hHeld.1 (Below_al (Below.refl _ _) (.cells #[.slice none 0 0] 34 (0, 0))), rangeAt_below hHeld.2.1 (Below_al (Below.refl _ _) (.cells #[.slice none 0 0] 34 (0, 0))), Below_then hHeld.2.2 (Below_al (Below.refl _ _) (.cells #[.slice none 0 0] 34 (0, 0)))⟩ (fun hHeld => ?_)
                clear hK K
                try simp only [Act.put, List.getElem_toArray, List.getElem_cons_succ, List.getElem_cons_zero, List.setIfInBounds_toArray, List.set_cons_zero, List.set_cons_succ]
                have hrd := hrd.alloc (.cells #[.slice none 0 0] 34 (0, 0))
                have hb0 : (s2.alloc (.cells #[.slice none 0 0] 34 (0, 0))).heap[s2.heap.size]? = some (.cells #[.slice none 0 0] 34 (0, 0)) := heap_hit _ _ _ (by first | rfl | simp)
                refine wpAnyH_ready (rs := [6]) (by kernel_rfl) (by simp) ?_
                refine AllReadyH.cons (o := _) rfl (fun K hK => ?_) AllReadyH.nil
                have hHm := hHeld.2.2
                have sz0 := hHm.size
                try simp only [World.size_alloc, World.size_drew] at sz0
                go_simp
                refine (KI'.out _ _ hrd).mono ?_
                rintro e s3 ⟨vH, rfl, oH, sh3⟩
                have hb0 := heap_keepB hb0 sh3
                have sz3 := sh3.size
                try simp only [World.size_alloc, World.size_drew] at sz3
                obtain ⟨AH, cH, rfl, -⟩ := oH.form
                go_wp2_with fail
                refine hK.out _ _ ⟨keep_cell hHeld.1 sh3, rangeAt_below hHeld.2.1 sh3, Below_then hHeld.2.2 sh3⟩ (fun hHeld => ?_)
                clear hK K
                try simp only [Act.put, List.getElem_toArray, List.getElem_cons_succ, List.getElem_cons_zero, List.setIfInBounds_toArray, List.set_cons_zero, List.set_cons_succ]
                refine wpAnyH_take (i := 7) (oi := _) (v := ?_) rfl (by kernel_rfl) (by kernel_rfl) (by kernel_rfl) (fun _ _ _ h => h) (Or.inl ⟨by rfl, ?_⟩) (by assumption) ?_
                rotate_left
                · intro w hSw; clear hSw; first | (go_simp; done) | (go_simp; with_reducible rfl)
                simp only [Act.put, List.getElem_toArray, List.getElem_cons_succ, List.getElem_cons_zero, List.setIfInBounds_toArray, List.set_cons_zero, List.set_cons_succ]
                refine wpAnyH_take (i := 8) (oi := _) (v := ?_) rfl (by kernel_rfl) (by kernel_rfl) (by kernel_rfl) (fun _ _ _ h => h) (Or.inl ⟨by rfl, ?_⟩) (by assumption) ?_
                rotate_left
                · intro w hSw; clear hSw; first | (go_simp; done) | (go_simp; with_reducible rfl)
                simp only [Act.put, List.getElem_toArray, List.getElem_cons_succ, List.getElem_cons_zero, List.setIfInBounds_toArray, List.set_cons_zero, List.set_cons_succ]
                refine wpAnyH_take (i := 9) (oi := _) (v := ?_) rfl (by kernel_rfl) (by kernel_rfl) (by kernel_rfl) (fun _ _ _ h => h) (Or.inl ⟨by rfl, ?_⟩) (by assumption) ?_
                rotate_left
                · intro w hSw; clear hSw; first | (go_simp; done) | (go_simp; with_reducible rfl)
                simp only [Act.put, List.getElem_toArray, List.getElem_cons_succ, List.getElem_cons_zero, List.setIfInBounds_toArray, List.set_cons_zero, List.set_cons_succ]
                refine wpAnyH_take (i := 10) (oi := _) (v := ?_) rfl (by kernel_rfl) (by kernel_rfl) (by kernel_rfl) (fun _ _ _ h => h) (Or.inl ⟨by rfl, ?_⟩) (by assumption) ?_
                rotate_left
                · intro w hSw; clear hSw; first | (go_simp; done) | (go_simp; with_reducible rfl)
                simp only [Act.put, List.getElem_toArray, List.getElem_cons_succ, List.getElem_cons_zero, List.setIfInBounds_toArray, List.set_cons_zero, List.set_cons_succ]
                have hbf := frozen_of hb0
                have hbc := cell_of hb0 0
                have hH3 := hHeld.2.2
                refine wpAnyH_ready (rs := [12]) (by kernel_rfl) (by simp) ?_
                refine AllReadyH.cons (o := _) rfl (fun K hK => ?_) AllReadyH.nil
                go_simp
                refine hK.out _ _ (held_set hHeld (s2.heap.size) (.slice AH zr.length cH) (by (try dsimp only); (try simp only [World.size_alloc, World.size_drew]); omega) (by (try dsimp only); (try simp only [World.size_alloc, World.size_drew]); omega) (by (try dsimp only); (try simp only [World.size_alloc, World.size_drew]); omega)) (fun hHeld => ?_)
                clear hK K
                try simp only [Act.put, List.getElem_toArray, List.getElem_cons_succ, List.getElem_cons_zero, List.setIfInBounds_toArray, List.set_cons_zero, List.set_cons_succ]
                refine wpAnyH_take (i := 13) (oi := _) (v := ?_) rfl (by kernel_rfl) (by kernel_rfl) (by kernel_rfl) (fun _ _ _ h => h) (Or.inl ⟨by rfl, ?_⟩) (by assumption) ?_
                rotate_left
                · intro w hSw; clear hSw; first | (go_simp; done) | (go_simp; with_reducible rfl)
                simp only [Act.put, List.getElem_toArray, List.getElem_cons_succ, List.getElem_cons_zero, List.setIfInBounds_toArray, List.set_cons_zero, List.set_cons_succ]
                refine wpAnyH_take (i := 14) (oi := _) (v := ?_) rfl (by kernel_rfl) (by kernel_rfl) (by kernel_rfl) (fun _ _ _ h => h) (Or.inl ⟨by rfl, ?_⟩) (by assumption) ?_
                rotate_left
                · intro w hSw; clear hSw; first | (go_simp; done) | (go_simp; with_reducible rfl)
                simp only [Act.put, List.getElem_toArray, List.getElem_cons_succ, List.getElem_cons_zero, List.setIfInBounds_toArray, List.set_cons_zero, List.set_cons_succ]
                refine wpAnyH_done (by kernel_rfl) ?_ _
                refine NoPanic.normal ?_
                go_wp2_with fail
                go_meet
                exact CutG.of_set oH (by (try simp only [World.size_alloc, World.size_drew]); omega) hb0 hH3 (by (try simp only [World.size_alloc, World.size_drew]); omega) (by (try simp only [World.size_alloc, World.size_drew]); omega)
            · refine AllReadyH.cons (o := _) rfl (fun K hK => ?_) AllReadyH.nil
              have sza := hHeld.2.2.size
              try simp only [World.size_alloc, World.size_drew] at sza
              go_simp
              refine hK.out _ _ ⟨keep_cell hHeld.1 (Below_al (Below.refl _ _) (.cells #[.slice none 0 0] 34 (0, 0))), rangeAt_below hHeld.2.1 (Below_al (Below.refl _ _) (.cells #[.slice none 0 0] 34 (0, 0))), Below_then hHeld.2.2 (Below_al (Below.refl _ _) (.cells #[.slice none 0 0] 34 (0, 0)))⟩ (fun hHeld => ?_)
              clear hK K
              try simp only [Act.put, List.getElem_toArray, List.getElem_cons_succ, List.getElem_cons_zero, List.setIfInBounds_toArray, List.set_cons_zero, List.set_cons_succ]
              have hrd := hrd.alloc (.cells #[.slice none 0 0] 34 (0, 0))
              have hb0 : (s1.alloc (.cells #[.slice none 0 0] 34 (0, 0))).heap[s1.heap.size]? = some (.cells #[.slice none 0 0] 34 (0, 0)) := heap_hit _ _ _ (by first | rfl | simp)
              refine wpAnyH_ready (rs := [5]) (by kernel_rfl) (by simp) ?_
              refine AllReadyH.cons (o := _) rfl (fun K hK => ?_) AllReadyH.nil
              go_simp
              refine (toArmsC a _).mono ?_
              rintro e s2 ⟨rfl, sh2⟩
              have hrd := hrd.below sh2
              have hb0 := heap_keepB hb0 sh2
              have sz2 := sh2.size
              try simp only [World.size_alloc, World.size_drew] at sz2
              go_wp2_with fail
              refine hK.out _ _ ⟨keep_cell hHeld.1 sh2, rangeAt_below hHeld.2.1 sh2, Below_then hHeld.2.2 sh2⟩ (fun hHeld => ?_)
              clear hK K
              try simp only [Act.put, List.getElem_toArray, List.getElem_cons_succ, List.getElem_cons_zero, List.setIfInBounds_toArray, List.set_cons_zero, List.set_cons_succ]
              refine wpAnyH_ready (rs := [6]) (by kernel_rfl) (by simp) ?_
              refine AllReadyH.cons (o := _) rfl (fun K hK => ?_) AllReadyH.nil
              have hHm := hHeld.2.2
              have sz0 := hHm.size
              try simp only [World.size_alloc, World.size_drew] at sz0
              go_simp
              refine (KI'.out _ _ hrd).mono ?_
              rintro e s3 ⟨vH, rfl, oH, sh3⟩
              have hb0 := heap_keepB hb0 sh3
              have sz3 := sh3.size
              try simp only [World.size_alloc, World.size_drew] at sz3
              obtain ⟨AH, cH, rfl, -⟩ := oH.form
              go_wp2_with fail
              refine hK.out _ _ ⟨keep_cell hHeld.1 sh3, rangeAt_below hHeld.2.1 sh3, Below_then hHeld.2.2 sh3⟩ (fun hHeld => ?_)
              clear hK K
              try simp only [Act.put, List.getElem_toArray, List.getElem_cons_succ, List.getElem_cons_zero, List.setIfInBounds_toArray, List.set_cons_zero, List.set_cons_succ]
              refine wpAnyH_take (i := 7) (oi := _) (v := ?_) rfl (by kernel_rfl) (by kernel_rfl) (by kernel_rfl) (fun _ _ _ h => h) (Or.inl ⟨by rfl, ?_⟩) (by assumption) ?_
              rotate_left
              · intro w hSw; clear hSw; first | (go_simp; done) | (go_simp; with_reducible rfl)
              simp only [Act.put, List.getElem_toArray, List.getElem_cons_succ, List.getElem_cons_zero, List.setIfInBounds_toArray, List.set_cons_zero, List.set_cons_succ]
              refine wpAnyH_take (i := 8) (oi := _) (v := ?_) rfl (by kernel_rfl) (by kernel_rfl) (by kernel_rfl) (fun _ _ _ h => h) (Or.inl ⟨by rfl, ?_⟩) (by assumption) ?_
              rotate_left
              · intro w hSw; clear hSw; first | (go_simp; done) | (go_simp; with_reducible rfl)
              simp only [Act.put, List.getElem_toArray, List.getElem_cons_succ, List.getElem_cons_zero, List.setIfInBounds_toArray, List.set_cons_zero, List.set_cons_succ]
              refine wpAnyH_take (i := 9) (oi := _) (v := ?_) rfl (by kernel_rfl) (by kernel_rfl) (by kernel_rfl) (fun _ _ _ h => h) (Or.inl ⟨by rfl, ?_⟩) (by assumption) ?_
              rotate_left
              · intro w hSw; clear hSw; first | (go_simp; done) | (go_simp; with_reducible rfl)
              simp only [Act.put, List.getElem_toArray, List.getElem_cons_succ, List.getElem_cons_zero, List.setIfInBounds_toArray, List.set_cons_zero, List.set_cons_succ]
              refine wpAnyH_take (i := 10) (oi := _) (v := ?_) rfl (by kernel_rfl) (by kernel_rfl) (by kernel_rfl) (fun _ _ _ h => h) (Or.inl ⟨by rfl, ?_⟩) (by assumption) ?_
              rotate_left
              · intro w hSw; clear hSw; first | (go_simp; done) | (go_simp; with_reducible rfl)
              simp only [Act.put, List.getElem_toArray, List.getElem_cons_succ, List.getElem_cons_zero, List.setIfInBounds_toArray, List.set_cons_zero, List.set_cons_succ]
              have hbf := frozen_of hb0
              have hbc := cell_of hb0 0
              have hH3 := hHeld.2.2
              refine wpAnyH_ready (rs := [12]) (by kernel_rfl) (by simp) ?_
              refine AllReadyH.cons (o := _) rfl (fun K hK => ?_) AllReadyH.nil
              go_simp
              refine hK.out _ _ (held_set hHeld (s1.heap.size) (.slice AH zr.length cH) (by (try dsimp only); (try simp only [World.size_alloc, World.size_drew]); omega) (by (try dsimp only); (try simp only [World.size_alloc, World.size_drew]); omega) (by (try dsimp only); (try simp only [World.size_alloc, World.size_drew]); omega)) (fun hHeld => ?_)
              clear hK K
              try simp only [Act.put, List.getElem_toArray, List.getElem_cons_succ, List.getElem_cons_zero, List.setIfInBounds_toArray, List.set_cons_zero, List.set_cons_succ]
              refine wpAnyH_take (i := 13) (oi := _) (v := ?_) rfl (by kernel_rfl) (by kernel_rfl) (by kernel_rfl) (fun _ _ _ h => h) (Or.inl ⟨by rfl, ?_⟩) (by assumption) ?_
              rotate_left
              · intro w hSw; clear hSw; first | (go_simp; done) | (go_simp; with_reducible rfl)
              simp only [Act.put, List.getElem_toArray, List.getElem_cons_succ, List.getElem_cons_zero, List.setIfInBounds_toArray, List.set_cons_zero, List.set_cons_succ]
              refine wpAnyH_take (i := 14) (oi := _) (v := ?_) rfl (by kernel_rfl) (by kernel_rfl) (by kernel_rfl) (fun _ _ _ h => h) (Or.inl ⟨by rfl, ?_⟩) (by assumption) ?_
              rotate_left
              · intro w hSw; clear hSw; first | (go_simp; done) | (go_simp; with_reducible rfl)
              simp only [Act.put, List.getElem_toArray, List.getElem_cons_succ, List.getElem_cons_zero, List.setIfInBounds_toArray, List.set_cons_zero, List.set_cons_succ]
              refine wpAnyH_done (by kernel_rfl) ?_ _
              refine NoPanic.normal ?_
              go_wp2_with fail
              go_meet
              exact CutG.of_set oH (by (try simp only [World.size_alloc, World.size_drew]); omega) hb0 hH3 (by (try simp only [World.size_alloc, World.size_drew]); omega) (by (try simp only [World.size_alloc, World.size_drew]); omega)
          · refine AllReadyH.cons (o := _) rfl (fun K hK => ?_) AllReadyH.nil
            have sza := hHeld.2.2.size
            try simp only [World.size_alloc, World.size_drew] at sza
            go_simp
            refine hK.out _ _ ⟨keep_cell hHeld.1 (Below_al (Below.refl _ _) (.cells #[.slice none 0 0] 34 (0, 0))), rangeAt_below hHeld.2.1 (Below_al (Below.refl _ _) (.cells #[.slice none 0 0] 34 (0, 0))), Below_then hHeld.2.2 (Below_al (Below.refl _ _) (.cells #[.slice none 0 0] 34 (0, 0)))⟩ (fun hHeld => ?_)
            clear hK K
            try simp only [Act.put, List.getElem_toArray, List.getElem_cons_succ, List.getElem_cons_zero, List.setIfInBounds_toArray, List.set_cons_zero, List.set_cons_succ]
            have hb0 : (y6.drew.alloc (.cells #[.slice none 0 0] 34 (0, 0))).heap[y6.heap.size]? = some (.cells #[.slice none 0 0] 34 (0, 0)) := heap_hit _ _ _ (by first | rfl | simp)
            refine wpAnyH_ready (rs := [1]) (by kernel_rfl) (by simp) ?_
            refine AllReadyH.cons (o := _) rfl (fun K hK => ?_) AllReadyH.nil
            go_simp
            refine (toRegister_any A0 c0 z0 _ (u0.below (Below_then hT hHeld.2.2)) HS.out).mono ?_
            rintro e s1 ⟨sg, rfl, so, sh1⟩
            have hrd := so.rd
            have hb0 := heap_keepB hb0 sh1
            have sz1 := sh1.size
            try simp only [World.size_alloc, World.size_drew] at sz1
            go_wp2_with fail
            refine hK.out _ _ ⟨keep_cell hHeld.1 sh1, rangeAt_below hHeld.2.1 sh1, Below_then hHeld.2.2 sh1⟩ (fun hHeld => ?_)
            clear hK K
            try simp only [Act.put, List.getElem_toArray, List.getElem_cons_succ, List.getElem_cons_zero, List.setIfInBounds_toArray, List.set_cons_zero, List.set_cons_succ]
            refine wpAnyH_ready (rs := [5]) (by kernel_rfl) (by simp) ?_
            refine AllReadyH.cons (o := _) rfl (fun K hK => ?_) AllReadyH.nil
            go_simp
            refine (toArmsC a _).mono ?_
            rintro e s2 ⟨rfl, sh2⟩
            have hrd := hrd.below sh2
            have hb0 := heap_keepB hb0 sh2
            have sz2 := sh2.size
            try simp only [World.size_alloc, World.size_drew] at sz2
            go_wp2_with fail
            refine hK.out _ _ ⟨keep_cell hHeld.1 sh2, rangeAt_below hHeld.2.1 sh2, Below_then hHeld.2.2 sh2⟩ (fun hHeld => ?_)
            clear hK K
            try simp only [Act.put, List.getElem_toArray, List.getElem_cons_succ, List.getElem_cons_zero, List.setIfInBounds_toArray, List.set_cons_zero, List.set_cons_succ]
            refine wpAnyH_ready (rs := [6]) (by kernel_rfl) (by simp) ?_
            refine AllReadyH.cons (o := _) rfl (fun K hK => ?_) AllReadyH.nil
            have hHm := hHeld.2.2
            have sz0 := hHm.size
            try simp only [World.size_alloc, World.size_drew] at sz0
            go_simp
            refine (KI'.out _ _ hrd).mono ?_
            rintro e s3 ⟨vH, rfl, oH, sh3⟩
            have hb0 := heap_keepB hb0 sh3
            have sz3 := sh3.size
            try simp only [World.size_alloc, World.size_drew] at sz3
            obtain ⟨AH, cH, rfl, -⟩ := oH.form
            go_wp2_with fail
            refine hK.out _ _ ⟨keep_cell hHeld.1 sh3, rangeAt_below hHeld.2.1 sh3, Below_then hHeld.2.2 sh3⟩ (fun hHeld => ?_)
            clear hK K
            try simp only [Act.put, List.getElem_toArray, List.getElem_cons_succ, List.getElem_cons_zero, List.setIfInBounds_toArray, List.set_cons_zero, List.set_cons_succ]
            refine wpAnyH_take (i := 7) (oi := _) (v := ?_) rfl (by kernel_rfl) (by kernel_rfl) (by kernel_rfl) (fun _ _ _ h => h) (Or.inl ⟨by rfl, ?_⟩) (by assumption) ?_
            rotate_left
            · intro w hSw; clear hSw; first | (go_simp; done) | (go_simp; with_reducible rfl)
            simp only [Act.put, List.getElem_toArray, List.getElem_cons_succ, List.getElem_cons_zero, List.setIfInBounds_toArray, List.set_cons_zero, List.set_cons_succ]
            refine wpAnyH_take (i := 8) (oi := _) (v := ?_) rfl (by kernel_rfl) (by kernel_rfl) (by kernel_rfl) (fun _ _ _ h => h) (Or.inl ⟨by rfl, ?_⟩) (by assumption) ?_
            rotate_left
            · intro w hSw; clear hSw; first | (go_simp; done) | (go_simp; with_reducible rfl)
            simp only [Act.put, List.getElem_toArray, List.getElem_cons_succ, List.getElem_cons_zero, List.setIfInBounds_toArray, List.set_cons_zero, List.set_cons_succ]
            refine wpAnyH_take (i := 9) (oi := _) (v := ?_) rfl (by kernel_rfl) (by kernel_rfl) (by kernel_rfl) (fun _ _ _ h => h) (Or.inl ⟨by rfl, ?_⟩) (by assumption) ?_
            rotate_left
            · intro w hSw; clear hSw; first | (go_simp; done) | (go_simp; with_reducible rfl)
            simp only [Act.put, List.getElem_toArray, List.getElem_cons_succ, List.getElem_cons_zero, List.setIfInBounds_toArray, List.set_cons_zero, List.set_cons_succ]
            refine wpAnyH_take (i := 10) (oi := _) (v := ?_) rfl (by kernel_rfl) (by kernel_rfl) (by kernel_rfl) (fun _ _ _ h => h) (Or.inl ⟨by rfl, ?_⟩) (by assumption) ?_
            rotate_left
            · intro w hSw; clear hSw; first | (go_simp; done) | (go_simp; with_reducible rfl)
            simp only [Act.put, List.getElem_toArray, List.getElem_cons_succ, List.getElem_cons_zero, List.setIfInBounds_toArray, List.set_cons_zero, List.set_cons_succ]
            have hbf := frozen_of hb0
            have hbc := cell_of hb0 0
            have hH3 := hHeld.2.2
            refine wpAnyH_ready (rs := [12]) (by kernel_rfl) (by simp) ?_
            refine AllReadyH.cons (o := _) rfl (fun K hK => ?_) AllReadyH.nil
            go_simp
            refine hK.out _ _ (held_set hHeld (y6.heap.size) (.slice AH zr.length cH) (by (try dsimp only); (try simp only [World.size_alloc, World.size_drew]); omega) (by (try dsimp only); (try simp only [World.size_alloc, World.size_drew]); omega) (by (try dsimp only); (try simp only [World.size_alloc, World.size_drew]); omega)) (fun hHeld => ?_)
            clear hK K
            try simp only [Act.put, List.getElem_toArray, List.getElem_cons_succ, List.getElem_cons_zero, List.setIfInBounds_toArray, List.set_cons_zero, List.set_cons_succ]
            refine wpAnyH_take (i := 13) (oi := _) (v := ?_) rfl (by kernel_rfl) (by kernel_rfl) (by kernel_rfl) (fun _ _ _ h => h) (Or.inl ⟨by rfl, ?_⟩) (by assumption) ?_
            rotate_left
            · intro w hSw; clear hSw; first | (go_simp; done) | (go_simp; with_reducible rfl)
            simp only [Act.put, List.getElem_toArray, List.getElem_cons_succ, List.getElem_cons_zero, List.setIfInBounds_toArray, List.set_cons_zero, List.set_cons_succ]
            refine wpAnyH_take (i := 14) (oi := _) (v := ?_) rfl (by kernel_rfl) (by kernel_rfl) (by kernel_rfl) (fun _ _ _ h => h) (Or.inl ⟨by rfl, ?_⟩) (by assumption) ?_
            rotate_left
            · intro w hSw; clear hSw; first | (go_simp; done) | (go_simp; with_reducible rfl)
            simp only [Act.put, List.getElem_toArray, List.getElem_cons_succ, List.getElem_cons_zero, List.setIfInBounds_toArray, List.set_cons_zero, List.set_cons_succ]
            refine wpAnyH_done (by kernel_rfl) ?_ _
            refine NoPanic.normal ?_
            go_wp2_with fail
            go_meet
            exact CutG.of_set oH (by (try simp only [World.size_alloc, World.size_drew]); omega) hb0 hH3 (by (try simp only [World.size_alloc, World.size_drew]); omega) (by (try simp only [World.size_alloc, World.size_drew]); omega)
        case rest =>
          obtain ⟨bH, AH, cH, rfl, rfl, rfl, hBn, hblH, hon, hneH, hx⟩ := hcut
          have LBH := heap_lt hBn
          have LH := hon.lt
          have zHc := hx.size
          try simp only [World.size_alloc, World.size_drew] at LH hblH zHc
          replace LH := Lib.hid LH
          replace hneH := Lib.hid hneH
          replace hT := Below_then hT hx
          replace hF := heap_keepB hF hx
          replace hA := heap_keepB hA hx
          replace oW := oW.below hx
          replace BW := heap_keepB BW hx
          replace oG := oG.below hx
          replace BG := heap_keepB BG hx
          have oH := hon
          have BH := hBn
          clear hx hon hBn
          have kBH0 := cell_of BH 0
          have kBW0 := cell_of BW 0
          go_wp2_with fail
          clear kBH0 kBW0
          refine (eqRegister_same _ _ _ _ zr _ (grd oH) (grd oW) (by omega)).mono ?_
          rintro e y7 ⟨rfl, hx⟩
          have z7 := hx.size
          try simp only [World.size_alloc, World.size_drew] at z7
          replace hT := Below_then hT hx
          replace hF := heap_keepB hF hx
          replace hA := heap_keepB hA hx
          replace oW := oW.below hx
          replace BW := heap_keepB BW hx
          replace oG := oG.below hx
          replace BG := heap_keepB BG hx
          replace oH := oH.below hx
          replace BH := heap_keepB BH hx
          clear hx
          have kBG0 := cell_of BG 0
          go_wp2_with fail
          clear kBG0
          refine (heldRegister_marks _ _ zr.length 1 _ oG (by omega) (by omega) (by omega)).mono ?_
          rintro e y8 ⟨rfl, hx⟩
          have z8 := hx.size
          try simp only [World.size_alloc, World.size_drew] at z8
          replace hT := Below_then hT hx
          replace hF := heap_keepB hF hx
          replace hA := heap_keepB hA hx
          replace oW := oW.below hx
          replace BW := heap_keepB BW hx
          replace oG := oG.below hx
          replace BG := heap_keepB BG hx
          replace oH := oH.below hx
          replace BH := heap_keepB BH hx
          clear hx
          go_wp2
          go_ret
          exact ⟨rfl, hT⟩
  · have hsi : (1048576 : Int) < (s.size : Int) := by omega
    go_enter Try.func3, Try.ntmps3
    go_wp2
    go_ret
    exact ⟨rfl, by (repeat (first | exact Below.refl _ _ | assumption | refine Below_al ?_ _ | refine Below.drew ?_ | refine Below_then ?_ (by assumption) | refine Below.setCell ?_ (by first | omega | (simp; done) | (simp; omega)) _))⟩

/-! ### The row's step: written by a program of mine (frame.py) after the kit's shell -/
theorem laidOut : laidOutB Try.prog = true := by kernel_rfl
set_option maxRecDepth 100000 in
theorem lifted (os : Os) (started : os.Started) (H : Type) (enc : TypeId × Value → H) :
    ReturnsInHanded {} Try.checked os 3 .any (Rows.fnExactGrantArmsSpec.pre6 enc Try.prog Try.f3 Rows.fnExactGrantArmsRow.domain false) (Rows.fnExactGrantArmsSpec.post enc Try.prog Try.f3 false true false false) := by
  refine returnsInHanded_of_change (C := Try.checked) own started (by kernel_rfl) Try.func3
    (ChangeSpec.witness6 (enc := enc) (C := Try.checked) false ⟨#[], #[.agg #[.slice none 0 0], .string ⟨#[]⟩, .int .i64 0, .agg #[.int .i64 0, .int .i64 0, .int .i64 0, .int .i64 0, .int .i64 0, .int .i64 0, .int .i64 0, .int .i64 0, .int .i64 0, .int .i64 0, .int .i64 0, .int .i64 0, .int .i64 0, .int .i64 0, .int .i64 0]], []⟩ 8 (by kernel_rfl) (by kernel_rfl) (by kernel_rfl) (by kernel_rfl)) ?_
  intro W base args ds gs before hval0 hW hcnd _
  have hval : ∀ (j : Nat) t v, Try.f3.params[j]? = some t → args[j]? = some v → Value.okWide Try.prog W .any base t v := hval0
  have hW' := hW
  obtain ⟨p, q, hA0, hV, rfl, hfz, hnd⟩ := hW
  have hA : DataW.TrodAll enc Try.prog W 0 (fun _ => true) true Try.f3.params.toList args.toList ds p := hA0
  rw [Try.params3] at hA hval
  obtain ⟨v0, vs0, d0, ds0, p0, q0, hargs, rfl, rfl, h0, r0⟩ := trodAll_cons hA
  obtain ⟨v1, vs1, d1, ds1, p1, q1, rfl, rfl, rfl, h1, r1⟩ := trodAll_cons r0
  obtain ⟨v2, vs2, d2, ds2, p2, q2, rfl, rfl, rfl, h2, r2⟩ := trodAll_cons r1
  obtain ⟨v3, vs3, d3, ds3, p3, q3, rfl, rfl, rfl, h3, r3⟩ := trodAll_cons r2
  obtain ⟨rfl, rfl, rfl⟩ := trodAll_nil r3
  obtain rfl : args = #[v0, v1, v2, v3] := by cases args; simp_all
  obtain ⟨rfl, rfl⟩ := trodVars_none hV
  have k0 := h0
  have lt0 : ∀ x ∈ p0, x.block < W.heap.size := by obtain ⟨m, hm⟩ := k0; exact DataW.trod_lt m _ _ _ hm
  obtain ⟨A0, c0, z0, rfl, u0, l0, s0⟩ := openRegister (hval 0 24 v0 rfl rfl) h0
  have k1 := h1
  have lt1 : ∀ x ∈ p1, x.block < W.heap.size := by obtain ⟨m, hm⟩ := k1; exact DataW.trod_lt m _ _ _ hm
  obtain ⟨s1, rfl, -, -, w1⟩ := Go.ChangeMaps.open_string Try.underlying9 (hval 1 9 v1 rfl rfl) h1
  have k2 := h2
  have lt2 : ∀ x ∈ p2, x.block < W.heap.size := by obtain ⟨m, hm⟩ := k2; exact DataW.trod_lt m _ _ _ hm
  obtain ⟨a2, rfl, -, -, w2⟩ := open_int Try.underlying3 (hval 2 3 v2 rfl rfl) h2
  have k3 := h3
  have lt3 : ∀ x ∈ p3, x.block < W.heap.size := by obtain ⟨m, hm⟩ := k3; exact DataW.trod_lt m _ _ _ hm
  obtain ⟨a3, rfl, w3⟩ := openArms (hval 3 30 v3 rfl rfl) h3
  clear hA0 hval0
  refine (walk W A0 c0 z0 u0 l0 s0 s1 w1 a2 w2 a3 w3).mono fun e W' ⟨he, bel⟩ => ?_
  subst he
  exact ⟨_, rfl, _, _, _, [], _, [], hW', trodAll_mk1 (shut_bool Try.underlying4 _), (trodAll_cons_mk (Below.trod laidOut (by kernel_rfl) (of_decide_eq_true (by kernel_rfl)) k0 bel lt0) (trodAll_cons_mk (Below.trod laidOut (by kernel_rfl) (of_decide_eq_true (by kernel_rfl)) k1 bel lt1) (trodAll_cons_mk (Below.trod laidOut (by kernel_rfl) (of_decide_eq_true (by kernel_rfl)) k2 bel lt2) (trodAll_cons_mk (Below.trod laidOut (by kernel_rfl) (of_decide_eq_true (by kernel_rfl)) k3 bel lt3) trodAll_mk0)))), rfl, bel.frame _, fun h => by cases h⟩

theorem over : Rows.fnExactGrantArmsRow.holds Try.pinned (OpenSpec.ofChange Rows.fnExactGrantArmsSpec) :=
  OpenClaim.holds_of_wide 3 Try.f3 rfl rfl rfl rfl rfl rfl rfl ⟨rfl, rfl, rfl, rfl, rfl⟩ rfl rfl rfl rfl rfl (by kernel_rfl) Try.func3 (by kernel_rfl)
    (of_decide_eq_true (by kernel_rfl)) (by unfold Func.isWrapper; first | (rw [if_pos (by decide +kernel)]; kernel_rfl) | (rw [if_neg (by decide +kernel)]; exact ⟨rfl, rfl⟩))
    (fun os started H enc _ => lifted os started H enc)

theorem proved : Rows.FnExactGrantArmsSaid := over
#print axioms proved

end Go.Proofs.Ytnpehlghbfmbaaa.fnExactGrantArms
