/- Contracts: DifferenceKinds: valid arms. -/
import Derived.Test.YtofnhgimeaahiaaKinds2
namespace Go.Proofs.Ytofnhgimeaahiaa
open Go.ChangeShapes Go.WideShapes Go.ChangeAt Go.RowKit
set_option linter.unusedVariables false
set_option linter.unusedSimpArgs false

theorem Noted.lt {w w' : World} {B p : Nat} {zs : List Int} (h : Noted w B p zs w') : p < w'.heap.size := by
  obtain ⟨⟨v, hh, -, -⟩, -⟩ := h
  exact heap_lt hh
theorem neI_beq {x y : Int} {q : Bool} (h : q = neI x y) : (x == y) = !q := by
  rw [h]
  unfold neI
  by_cases e : x = y <;> simp [e]
theorem neI_bne {x y : Int} {q : Bool} (h : q = neI x y) : (x != y) = q := by
  rw [h]
  unfold neI
  by_cases e : x = y <;> simp [e]
theorem oneK_le (q : Bool) (k : Int) (zs : List Int) (n : Nat) (h : zs.length ≤ n) : (zs ++ oneK q k).length ≤ n + 1 := by
  have := oneK_len q k
  rw [List.length_append]
  omega
set_option maxHeartbeats 4000000 in
set_option maxRecDepth 20000 in
theorem implKinds_yes (a b : ArmsD) (w : World) (ga : armsOk a = true) (gb : armsOk b = true) : Calls Try.prog 10 #[.agg (ac a).toArray, .agg (ac b).toArray] w (IntsOk w (kindL a b) true) := by
  have KA := fun w' => IsValidArmsC a w'
  have KB := fun w' => IsValidArmsC b w'
  rw [ga] at KA
  rw [gb] at KB
  have KA' := Lib.hid KA
  have KB' := Lib.hid KB
  obtain ⟨q1, hq1⟩ : ∃ q, q = ne4 a.d a.l a.p a.q b.d b.l b.p b.q := ⟨_, rfl⟩
  obtain ⟨q2, hq2⟩ : ∃ q, q = neI a.o b.o := ⟨_, rfl⟩
  obtain ⟨q3, hq3⟩ : ∃ q, q = neI a.li b.li := ⟨_, rfl⟩
  obtain ⟨q4, hq4⟩ : ∃ q, q = neI a.t b.t := ⟨_, rfl⟩
  obtain ⟨q5, hq5⟩ : ∃ q, q = ne4 a.c1 a.k1 a.a1 a.t1 b.c1 b.k1 b.a1 b.t1 := ⟨_, rfl⟩
  obtain ⟨q6, hq6⟩ : ∃ q, q = ne4 a.c2 a.k2 a.a2 a.t2 b.c2 b.k2 b.a2 b.t2 := ⟨_, rfl⟩
  have hk : kindL a b = oneK q1 1 ++ (bif q2 then [2] else oneK q3 3 ++ oneK q4 4) ++ oneK q5 5 ++ oneK q6 6 := by rw [hq1, hq2, hq3, hq4, hq5, hq6]; rfl
  rw [hk]
  have HQ1 := Lib.hid hq1
  have HQ2 := Lib.hid hq2
  have HQ3 := Lib.hid hq3
  have HQ4 := Lib.hid hq4
  have HQ5 := Lib.hid hq5
  have HQ6 := Lib.hid hq6
  have HBOX := Lib.hid (boxes15 a b w)
  have HBH := Lib.hid (boxesH a b w)
  clear KA KB hq1 hq2 hq3 hq4 hq5 hq6 hk ga gb
  go_enter Try.func10, Try.ntmps10
  go_upto_region 3 with (first | (refine ldA rfl _ rfl w.heap.size _ rfl a (rangeAt_blk (heap_keepA (heap_hit _ _ _ rfl) _)) ?_) | (refine ldA rfl _ rfl w.heap.size _ rfl a (rangeAt_blk (heap_keepA (heap_keepA (heap_hit _ _ _ rfl) _) _)) ?_) | (go_at_call 33; first | ((with_reducible refine (KA'.out _).mono ?_); rintro e w1 ⟨rfl, hb1⟩; have hr2 := blk_cells (HBH.out w1 (by (repeat (first | exact Below.refl _ _ | assumption | refine Below_al ?_ _ | refine Below.drew ?_ | refine Below_then ?_ (by assumption) | refine Below.setCell ?_ (by first | omega | (simp; done) | (simp; omega)) _)))).2) | (refine (KB'.out _).mono ?_; rintro e w2 ⟨rfl, hb2⟩; clear hr2)) | fail)
  have hbx := HBOX.out w2 (by (repeat (first | exact Below.refl _ _ | assumption | refine Below_al ?_ _ | refine Below.drew ?_ | refine Below_then ?_ (by assumption) | refine Below.setCell ?_ (by first | omega | (simp; done) | (simp; omega)) _)))
  have hbw : Below w.heap.size w w2 := by (repeat (first | exact Below.refl _ _ | assumption | refine Below_al ?_ _ | refine Below.drew ?_ | refine Below_then ?_ (by assumption) | refine Below.setCell ?_ (by first | omega | (simp; done) | (simp; omega)) _))
  have hN : w.heap.size + 1 < w2.heap.size := hbx.2.lt
  have hBX : ∀ w', Below w2.heap.size w2 w' → Box15 w' w.heap.size a ∧ Box15 w' (w.heap.size + 1) b := fun w' hb => ⟨hbx.1.below hb (by omega), hbx.2.below hb hN⟩
  have HBX := Lib.hid hBX
  clear hb1 hb2 HBH HBOX hbx hBX
  go_upto_region 5 with (fail)
  have hN0 : Noted w2 w2.heap.size (w2.heap.size + 1) [] ((w2.alloc (.cells #[] 3)).alloc (.cells #[.slice (some ⟨w2.heap.size, 0, none⟩) 0 0] 28)) := ⟨⟨_, heap_hit _ _ _ (by simp), (OwnI.noneT w2 _ _ rfl (Nat.le_refl _)).alloc _, by simp [Value.ownBlock]⟩, Below_al (Below_al (Below.refl _ _) _) _⟩
  obtain ⟨P, hP⟩ : ∃ P, P = w2.heap.size + 1 := ⟨_, rfl⟩
  have hPB : w2.heap.size ≤ P := by omega
  rw [← hP] at hN0
  rw [← hP]
  generalize ((w2.alloc (.cells #[] 3)).alloc (.cells #[.slice (some ⟨w2.heap.size, 0, none⟩) 0 0] 28)) = w3 at hN0 ⊢
  clear hP
  cases q2
  · go_wp2_with (first | (refine ldI rfl _ rfl w.heap.size 4 rfl _ (HBX.out _ hN0.below).1.o ?_) | (refine ldI rfl _ rfl (w.heap.size + 1) 4 rfl _ (HBX.out _ hN0.below).2.o ?_) | (refine ldI rfl _ rfl w.heap.size 5 rfl _ (HBX.out _ hN0.below).1.li ?_) | (refine ldI rfl _ rfl (w.heap.size + 1) 5 rfl _ (HBX.out _ hN0.below).2.li ?_) | (refine ldI rfl _ rfl w.heap.size 6 rfl _ (HBX.out _ hN0.below).1.t ?_) | (refine ldI rfl _ rfl (w.heap.size + 1) 6 rfl _ (HBX.out _ hN0.below).2.t ?_) | (refine ldFl rfl _ rfl w.heap.size 0 rfl _ _ _ _ (HBX.out _ hN0.below).1.f ?_) | (refine ldFl rfl _ rfl (w.heap.size + 1) 0 rfl _ _ _ _ (HBX.out _ hN0.below).2.f ?_) | (refine ldGp rfl _ rfl w.heap.size 7 rfl _ _ _ _ (HBX.out _ hN0.below).1.g ?_) | (refine ldGp rfl _ rfl (w.heap.size + 1) 7 rfl _ _ _ _ (HBX.out _ hN0.below).2.g ?_) | (refine ldGp rfl _ rfl w.heap.size 11 rfl _ _ _ _ (HBX.out _ hN0.below).1.r ?_) | (refine ldGp rfl _ rfl (w.heap.size + 1) 11 rfl _ _ _ _ (HBX.out _ hN0.below).2.r ?_) | (refine wpList_neqF rfl _ _ _ rfl _ _ _ _ _ _ _ _ rfl rfl q1 HQ1.out ?_) | (refine wpList_neqG rfl _ _ _ rfl _ _ _ _ _ _ _ _ rfl rfl q5 HQ5.out ?_) | (refine wpList_neqG rfl _ _ _ rfl _ _ _ _ _ _ _ _ rfl rfl q6 HQ6.out ?_) | (refine wpList_neqI rfl _ _ _ rfl _ _ rfl rfl _ HQ2.out ?_) | (refine wpList_eqlI rfl _ _ _ rfl _ _ rfl rfl _ HQ2.out ?_) | (refine wpList_neqI rfl _ _ _ rfl _ _ rfl rfl q3 HQ3.out ?_) | (refine wpList_neqI rfl _ _ _ rfl _ _ rfl rfl q4 HQ4.out ?_) | fail)
    refine (note_any w2.heap.size P _ _ 1 _ w2 hN0 hPB hN0.lt (by repeat (first | exact Nat.zero_le _ | refine oneK_le _ _ _ _ ?_))).mono ?_
    rintro e w4 ⟨rfl, hN4, hz4⟩
    clear hN0 hz4
    have hN0 := hN4
    clear hN4
    go_wp2_with (first | (refine ldI rfl _ rfl w.heap.size 4 rfl _ (HBX.out _ hN0.below).1.o ?_) | (refine ldI rfl _ rfl (w.heap.size + 1) 4 rfl _ (HBX.out _ hN0.below).2.o ?_) | (refine ldI rfl _ rfl w.heap.size 5 rfl _ (HBX.out _ hN0.below).1.li ?_) | (refine ldI rfl _ rfl (w.heap.size + 1) 5 rfl _ (HBX.out _ hN0.below).2.li ?_) | (refine ldI rfl _ rfl w.heap.size 6 rfl _ (HBX.out _ hN0.below).1.t ?_) | (refine ldI rfl _ rfl (w.heap.size + 1) 6 rfl _ (HBX.out _ hN0.below).2.t ?_) | (refine ldFl rfl _ rfl w.heap.size 0 rfl _ _ _ _ (HBX.out _ hN0.below).1.f ?_) | (refine ldFl rfl _ rfl (w.heap.size + 1) 0 rfl _ _ _ _ (HBX.out _ hN0.below).2.f ?_) | (refine ldGp rfl _ rfl w.heap.size 7 rfl _ _ _ _ (HBX.out _ hN0.below).1.g ?_) | (refine ldGp rfl _ rfl (w.heap.size + 1) 7 rfl _ _ _ _ (HBX.out _ hN0.below).2.g ?_) | (refine ldGp rfl _ rfl w.heap.size 11 rfl _ _ _ _ (HBX.out _ hN0.below).1.r ?_) | (refine ldGp rfl _ rfl (w.heap.size + 1) 11 rfl _ _ _ _ (HBX.out _ hN0.below).2.r ?_) | (refine wpList_neqF rfl _ _ _ rfl _ _ _ _ _ _ _ _ rfl rfl q1 HQ1.out ?_) | (refine wpList_neqG rfl _ _ _ rfl _ _ _ _ _ _ _ _ rfl rfl q5 HQ5.out ?_) | (refine wpList_neqG rfl _ _ _ rfl _ _ _ _ _ _ _ _ rfl rfl q6 HQ6.out ?_) | (refine wpList_neqI rfl _ _ _ rfl _ _ rfl rfl _ HQ2.out ?_) | (refine wpList_eqlI rfl _ _ _ rfl _ _ rfl rfl _ HQ2.out ?_) | (refine wpList_neqI rfl _ _ _ rfl _ _ rfl rfl q3 HQ3.out ?_) | (refine wpList_neqI rfl _ _ _ rfl _ _ rfl rfl q4 HQ4.out ?_) | fail)
    refine (note_any w2.heap.size P _ _ 2 _ w2 hN0 hPB hN0.lt (by repeat (first | exact Nat.zero_le _ | refine oneK_le _ _ _ _ ?_))).mono ?_
    rintro e w5 ⟨rfl, hN5, hz5⟩
    clear hN0 hz5
    have hN0 := hN5
    clear hN5
    have f1 := (HBX.out _ hN0.below).1.li
    have f2 := (HBX.out _ hN0.below).2.li
    have f3 := neI_beq HQ3.out
    go_wp2_with (first | (refine ldI rfl _ rfl w.heap.size 4 rfl _ (HBX.out _ hN0.below).1.o ?_) | (refine ldI rfl _ rfl (w.heap.size + 1) 4 rfl _ (HBX.out _ hN0.below).2.o ?_) | (refine ldI rfl _ rfl w.heap.size 5 rfl _ (HBX.out _ hN0.below).1.li ?_) | (refine ldI rfl _ rfl (w.heap.size + 1) 5 rfl _ (HBX.out _ hN0.below).2.li ?_) | (refine ldI rfl _ rfl w.heap.size 6 rfl _ (HBX.out _ hN0.below).1.t ?_) | (refine ldI rfl _ rfl (w.heap.size + 1) 6 rfl _ (HBX.out _ hN0.below).2.t ?_) | (refine ldFl rfl _ rfl w.heap.size 0 rfl _ _ _ _ (HBX.out _ hN0.below).1.f ?_) | (refine ldFl rfl _ rfl (w.heap.size + 1) 0 rfl _ _ _ _ (HBX.out _ hN0.below).2.f ?_) | (refine ldGp rfl _ rfl w.heap.size 7 rfl _ _ _ _ (HBX.out _ hN0.below).1.g ?_) | (refine ldGp rfl _ rfl (w.heap.size + 1) 7 rfl _ _ _ _ (HBX.out _ hN0.below).2.g ?_) | (refine ldGp rfl _ rfl w.heap.size 11 rfl _ _ _ _ (HBX.out _ hN0.below).1.r ?_) | (refine ldGp rfl _ rfl (w.heap.size + 1) 11 rfl _ _ _ _ (HBX.out _ hN0.below).2.r ?_) | (refine wpList_neqF rfl _ _ _ rfl _ _ _ _ _ _ _ _ rfl rfl q1 HQ1.out ?_) | (refine wpList_neqG rfl _ _ _ rfl _ _ _ _ _ _ _ _ rfl rfl q5 HQ5.out ?_) | (refine wpList_neqG rfl _ _ _ rfl _ _ _ _ _ _ _ _ rfl rfl q6 HQ6.out ?_) | (refine wpList_neqI rfl _ _ _ rfl _ _ rfl rfl _ HQ2.out ?_) | (refine wpList_eqlI rfl _ _ _ rfl _ _ rfl rfl _ HQ2.out ?_) | (refine wpList_neqI rfl _ _ _ rfl _ _ rfl rfl q3 HQ3.out ?_) | (refine wpList_neqI rfl _ _ _ rfl _ _ rfl rfl q4 HQ4.out ?_) | fail)
    refine (note_any w2.heap.size P _ _ 3 _ w2 hN0 hPB hN0.lt (by repeat (first | exact Nat.zero_le _ | refine oneK_le _ _ _ _ ?_))).mono ?_
    rintro e w6 ⟨rfl, hN6, hz6⟩
    clear hN0 hz6
    have hN0 := hN6
    clear hN6
    clear f1 f2 f3
    have f1 := (HBX.out _ hN0.below).1.t
    have f2 := (HBX.out _ hN0.below).2.t
    have f3 := neI_beq HQ4.out
    go_wp2_with (first | (refine ldI rfl _ rfl w.heap.size 4 rfl _ (HBX.out _ hN0.below).1.o ?_) | (refine ldI rfl _ rfl (w.heap.size + 1) 4 rfl _ (HBX.out _ hN0.below).2.o ?_) | (refine ldI rfl _ rfl w.heap.size 5 rfl _ (HBX.out _ hN0.below).1.li ?_) | (refine ldI rfl _ rfl (w.heap.size + 1) 5 rfl _ (HBX.out _ hN0.below).2.li ?_) | (refine ldI rfl _ rfl w.heap.size 6 rfl _ (HBX.out _ hN0.below).1.t ?_) | (refine ldI rfl _ rfl (w.heap.size + 1) 6 rfl _ (HBX.out _ hN0.below).2.t ?_) | (refine ldFl rfl _ rfl w.heap.size 0 rfl _ _ _ _ (HBX.out _ hN0.below).1.f ?_) | (refine ldFl rfl _ rfl (w.heap.size + 1) 0 rfl _ _ _ _ (HBX.out _ hN0.below).2.f ?_) | (refine ldGp rfl _ rfl w.heap.size 7 rfl _ _ _ _ (HBX.out _ hN0.below).1.g ?_) | (refine ldGp rfl _ rfl (w.heap.size + 1) 7 rfl _ _ _ _ (HBX.out _ hN0.below).2.g ?_) | (refine ldGp rfl _ rfl w.heap.size 11 rfl _ _ _ _ (HBX.out _ hN0.below).1.r ?_) | (refine ldGp rfl _ rfl (w.heap.size + 1) 11 rfl _ _ _ _ (HBX.out _ hN0.below).2.r ?_) | (refine wpList_neqF rfl _ _ _ rfl _ _ _ _ _ _ _ _ rfl rfl q1 HQ1.out ?_) | (refine wpList_neqG rfl _ _ _ rfl _ _ _ _ _ _ _ _ rfl rfl q5 HQ5.out ?_) | (refine wpList_neqG rfl _ _ _ rfl _ _ _ _ _ _ _ _ rfl rfl q6 HQ6.out ?_) | (refine wpList_neqI rfl _ _ _ rfl _ _ rfl rfl _ HQ2.out ?_) | (refine wpList_eqlI rfl _ _ _ rfl _ _ rfl rfl _ HQ2.out ?_) | (refine wpList_neqI rfl _ _ _ rfl _ _ rfl rfl q3 HQ3.out ?_) | (refine wpList_neqI rfl _ _ _ rfl _ _ rfl rfl q4 HQ4.out ?_) | fail)
    refine (note_any w2.heap.size P _ _ 4 _ w2 hN0 hPB hN0.lt (by repeat (first | exact Nat.zero_le _ | refine oneK_le _ _ _ _ ?_))).mono ?_
    rintro e w7 ⟨rfl, hN7, hz7⟩
    clear hN0 hz7
    have hN0 := hN7
    clear hN7
    clear f1 f2 f3
    go_wp2_with (first | (refine ldI rfl _ rfl w.heap.size 4 rfl _ (HBX.out _ hN0.below).1.o ?_) | (refine ldI rfl _ rfl (w.heap.size + 1) 4 rfl _ (HBX.out _ hN0.below).2.o ?_) | (refine ldI rfl _ rfl w.heap.size 5 rfl _ (HBX.out _ hN0.below).1.li ?_) | (refine ldI rfl _ rfl (w.heap.size + 1) 5 rfl _ (HBX.out _ hN0.below).2.li ?_) | (refine ldI rfl _ rfl w.heap.size 6 rfl _ (HBX.out _ hN0.below).1.t ?_) | (refine ldI rfl _ rfl (w.heap.size + 1) 6 rfl _ (HBX.out _ hN0.below).2.t ?_) | (refine ldFl rfl _ rfl w.heap.size 0 rfl _ _ _ _ (HBX.out _ hN0.below).1.f ?_) | (refine ldFl rfl _ rfl (w.heap.size + 1) 0 rfl _ _ _ _ (HBX.out _ hN0.below).2.f ?_) | (refine ldGp rfl _ rfl w.heap.size 7 rfl _ _ _ _ (HBX.out _ hN0.below).1.g ?_) | (refine ldGp rfl _ rfl (w.heap.size + 1) 7 rfl _ _ _ _ (HBX.out _ hN0.below).2.g ?_) | (refine ldGp rfl _ rfl w.heap.size 11 rfl _ _ _ _ (HBX.out _ hN0.below).1.r ?_) | (refine ldGp rfl _ rfl (w.heap.size + 1) 11 rfl _ _ _ _ (HBX.out _ hN0.below).2.r ?_) | (refine wpList_neqF rfl _ _ _ rfl _ _ _ _ _ _ _ _ rfl rfl q1 HQ1.out ?_) | (refine wpList_neqG rfl _ _ _ rfl _ _ _ _ _ _ _ _ rfl rfl q5 HQ5.out ?_) | (refine wpList_neqG rfl _ _ _ rfl _ _ _ _ _ _ _ _ rfl rfl q6 HQ6.out ?_) | (refine wpList_neqI rfl _ _ _ rfl _ _ rfl rfl _ HQ2.out ?_) | (refine wpList_eqlI rfl _ _ _ rfl _ _ rfl rfl _ HQ2.out ?_) | (refine wpList_neqI rfl _ _ _ rfl _ _ rfl rfl q3 HQ3.out ?_) | (refine wpList_neqI rfl _ _ _ rfl _ _ rfl rfl q4 HQ4.out ?_) | fail)
    refine (note_any w2.heap.size P _ _ 5 _ w2 hN0 hPB hN0.lt (by repeat (first | exact Nat.zero_le _ | refine oneK_le _ _ _ _ ?_))).mono ?_
    rintro e w8 ⟨rfl, hN8, hz8⟩
    clear hN0 hz8
    have hN0 := hN8
    clear hN8
    go_wp2_with (first | (refine ldI rfl _ rfl w.heap.size 4 rfl _ (HBX.out _ hN0.below).1.o ?_) | (refine ldI rfl _ rfl (w.heap.size + 1) 4 rfl _ (HBX.out _ hN0.below).2.o ?_) | (refine ldI rfl _ rfl w.heap.size 5 rfl _ (HBX.out _ hN0.below).1.li ?_) | (refine ldI rfl _ rfl (w.heap.size + 1) 5 rfl _ (HBX.out _ hN0.below).2.li ?_) | (refine ldI rfl _ rfl w.heap.size 6 rfl _ (HBX.out _ hN0.below).1.t ?_) | (refine ldI rfl _ rfl (w.heap.size + 1) 6 rfl _ (HBX.out _ hN0.below).2.t ?_) | (refine ldFl rfl _ rfl w.heap.size 0 rfl _ _ _ _ (HBX.out _ hN0.below).1.f ?_) | (refine ldFl rfl _ rfl (w.heap.size + 1) 0 rfl _ _ _ _ (HBX.out _ hN0.below).2.f ?_) | (refine ldGp rfl _ rfl w.heap.size 7 rfl _ _ _ _ (HBX.out _ hN0.below).1.g ?_) | (refine ldGp rfl _ rfl (w.heap.size + 1) 7 rfl _ _ _ _ (HBX.out _ hN0.below).2.g ?_) | (refine ldGp rfl _ rfl w.heap.size 11 rfl _ _ _ _ (HBX.out _ hN0.below).1.r ?_) | (refine ldGp rfl _ rfl (w.heap.size + 1) 11 rfl _ _ _ _ (HBX.out _ hN0.below).2.r ?_) | (refine wpList_neqF rfl _ _ _ rfl _ _ _ _ _ _ _ _ rfl rfl q1 HQ1.out ?_) | (refine wpList_neqG rfl _ _ _ rfl _ _ _ _ _ _ _ _ rfl rfl q5 HQ5.out ?_) | (refine wpList_neqG rfl _ _ _ rfl _ _ _ _ _ _ _ _ rfl rfl q6 HQ6.out ?_) | (refine wpList_neqI rfl _ _ _ rfl _ _ rfl rfl _ HQ2.out ?_) | (refine wpList_eqlI rfl _ _ _ rfl _ _ rfl rfl _ HQ2.out ?_) | (refine wpList_neqI rfl _ _ _ rfl _ _ rfl rfl q3 HQ3.out ?_) | (refine wpList_neqI rfl _ _ _ rfl _ _ rfl rfl q4 HQ4.out ?_) | fail)
    refine (note_any w2.heap.size P _ _ 6 _ w2 hN0 hPB hN0.lt (by repeat (first | exact Nat.zero_le _ | refine oneK_le _ _ _ _ ?_))).mono ?_
    rintro e w9 ⟨rfl, hN9, hz9⟩
    clear hN0 hz9
    have hN0 := hN9
    clear hN9
    obtain ⟨⟨v, hh, hO, -⟩, hb⟩ := hN0
    have e3 := neI_bne HQ3.out
    have e4 := neI_bne HQ4.out
    have hO2 : OwnI w9 w2.heap.size 3 v (oneK q1 1 ++ (bif false then [2] else oneK q3 3 ++ oneK q4 4) ++ oneK q5 5 ++ oneK q6 6) := by
      refine Eq.mp (congrArg (OwnI w9 w2.heap.size 3 v) ?_) hO
      simp [oneK, e3, e4]
    obtain ⟨zs, hzs⟩ : ∃ zs, zs = (oneK q1 1 ++ (bif false then [2] else oneK q3 3 ++ oneK q4 4) ++ oneK q5 5 ++ oneK q6 6) := ⟨_, rfl⟩
    rw [← hzs] at hO2
    have HZS := Lib.hid hzs
    have c6 := cell_of hh 0
    obtain ⟨A6, d6, rfl, -⟩ := hO2.form
    clear hh hO e3 e4 hzs
    go_wp2
    go_ret2
    refine ⟨_, rfl, ?_, Below_then hbw hb⟩
    rw [← HZS.out]
    exact OwnI.base hO2 (show w.heap.size ≤ w2.heap.size by omega)
  · go_wp2_with (first | (refine ldI rfl _ rfl w.heap.size 4 rfl _ (HBX.out _ hN0.below).1.o ?_) | (refine ldI rfl _ rfl (w.heap.size + 1) 4 rfl _ (HBX.out _ hN0.below).2.o ?_) | (refine ldI rfl _ rfl w.heap.size 5 rfl _ (HBX.out _ hN0.below).1.li ?_) | (refine ldI rfl _ rfl (w.heap.size + 1) 5 rfl _ (HBX.out _ hN0.below).2.li ?_) | (refine ldI rfl _ rfl w.heap.size 6 rfl _ (HBX.out _ hN0.below).1.t ?_) | (refine ldI rfl _ rfl (w.heap.size + 1) 6 rfl _ (HBX.out _ hN0.below).2.t ?_) | (refine ldFl rfl _ rfl w.heap.size 0 rfl _ _ _ _ (HBX.out _ hN0.below).1.f ?_) | (refine ldFl rfl _ rfl (w.heap.size + 1) 0 rfl _ _ _ _ (HBX.out _ hN0.below).2.f ?_) | (refine ldGp rfl _ rfl w.heap.size 7 rfl _ _ _ _ (HBX.out _ hN0.below).1.g ?_) | (refine ldGp rfl _ rfl (w.heap.size + 1) 7 rfl _ _ _ _ (HBX.out _ hN0.below).2.g ?_) | (refine ldGp rfl _ rfl w.heap.size 11 rfl _ _ _ _ (HBX.out _ hN0.below).1.r ?_) | (refine ldGp rfl _ rfl (w.heap.size + 1) 11 rfl _ _ _ _ (HBX.out _ hN0.below).2.r ?_) | (refine wpList_neqF rfl _ _ _ rfl _ _ _ _ _ _ _ _ rfl rfl q1 HQ1.out ?_) | (refine wpList_neqG rfl _ _ _ rfl _ _ _ _ _ _ _ _ rfl rfl q5 HQ5.out ?_) | (refine wpList_neqG rfl _ _ _ rfl _ _ _ _ _ _ _ _ rfl rfl q6 HQ6.out ?_) | (refine wpList_neqI rfl _ _ _ rfl _ _ rfl rfl _ HQ2.out ?_) | (refine wpList_eqlI rfl _ _ _ rfl _ _ rfl rfl _ HQ2.out ?_) | (refine wpList_neqI rfl _ _ _ rfl _ _ rfl rfl q3 HQ3.out ?_) | (refine wpList_neqI rfl _ _ _ rfl _ _ rfl rfl q4 HQ4.out ?_) | fail)
    refine (note_any w2.heap.size P _ _ 1 _ w2 hN0 hPB hN0.lt (by repeat (first | exact Nat.zero_le _ | refine oneK_le _ _ _ _ ?_))).mono ?_
    rintro e w4 ⟨rfl, hN4, hz4⟩
    clear hN0 hz4
    have hN0 := hN4
    clear hN4
    go_wp2_with (first | (refine ldI rfl _ rfl w.heap.size 4 rfl _ (HBX.out _ hN0.below).1.o ?_) | (refine ldI rfl _ rfl (w.heap.size + 1) 4 rfl _ (HBX.out _ hN0.below).2.o ?_) | (refine ldI rfl _ rfl w.heap.size 5 rfl _ (HBX.out _ hN0.below).1.li ?_) | (refine ldI rfl _ rfl (w.heap.size + 1) 5 rfl _ (HBX.out _ hN0.below).2.li ?_) | (refine ldI rfl _ rfl w.heap.size 6 rfl _ (HBX.out _ hN0.below).1.t ?_) | (refine ldI rfl _ rfl (w.heap.size + 1) 6 rfl _ (HBX.out _ hN0.below).2.t ?_) | (refine ldFl rfl _ rfl w.heap.size 0 rfl _ _ _ _ (HBX.out _ hN0.below).1.f ?_) | (refine ldFl rfl _ rfl (w.heap.size + 1) 0 rfl _ _ _ _ (HBX.out _ hN0.below).2.f ?_) | (refine ldGp rfl _ rfl w.heap.size 7 rfl _ _ _ _ (HBX.out _ hN0.below).1.g ?_) | (refine ldGp rfl _ rfl (w.heap.size + 1) 7 rfl _ _ _ _ (HBX.out _ hN0.below).2.g ?_) | (refine ldGp rfl _ rfl w.heap.size 11 rfl _ _ _ _ (HBX.out _ hN0.below).1.r ?_) | (refine ldGp rfl _ rfl (w.heap.size + 1) 11 rfl _ _ _ _ (HBX.out _ hN0.below).2.r ?_) | (refine wpList_neqF rfl _ _ _ rfl _ _ _ _ _ _ _ _ rfl rfl q1 HQ1.out ?_) | (refine wpList_neqG rfl _ _ _ rfl _ _ _ _ _ _ _ _ rfl rfl q5 HQ5.out ?_) | (refine wpList_neqG rfl _ _ _ rfl _ _ _ _ _ _ _ _ rfl rfl q6 HQ6.out ?_) | (refine wpList_neqI rfl _ _ _ rfl _ _ rfl rfl _ HQ2.out ?_) | (refine wpList_eqlI rfl _ _ _ rfl _ _ rfl rfl _ HQ2.out ?_) | (refine wpList_neqI rfl _ _ _ rfl _ _ rfl rfl q3 HQ3.out ?_) | (refine wpList_neqI rfl _ _ _ rfl _ _ rfl rfl q4 HQ4.out ?_) | fail)
    refine (note_any w2.heap.size P _ _ 2 _ w2 hN0 hPB hN0.lt (by repeat (first | exact Nat.zero_le _ | refine oneK_le _ _ _ _ ?_))).mono ?_
    rintro e w5 ⟨rfl, hN5, hz5⟩
    clear hN0 hz5
    have hN0 := hN5
    clear hN5
    have f1 := (HBX.out _ hN0.below).1.li
    have f2 := (HBX.out _ hN0.below).2.li
    have f3 := neI_beq HQ3.out
    go_wp2_with (first | (refine ldI rfl _ rfl w.heap.size 4 rfl _ (HBX.out _ hN0.below).1.o ?_) | (refine ldI rfl _ rfl (w.heap.size + 1) 4 rfl _ (HBX.out _ hN0.below).2.o ?_) | (refine ldI rfl _ rfl w.heap.size 5 rfl _ (HBX.out _ hN0.below).1.li ?_) | (refine ldI rfl _ rfl (w.heap.size + 1) 5 rfl _ (HBX.out _ hN0.below).2.li ?_) | (refine ldI rfl _ rfl w.heap.size 6 rfl _ (HBX.out _ hN0.below).1.t ?_) | (refine ldI rfl _ rfl (w.heap.size + 1) 6 rfl _ (HBX.out _ hN0.below).2.t ?_) | (refine ldFl rfl _ rfl w.heap.size 0 rfl _ _ _ _ (HBX.out _ hN0.below).1.f ?_) | (refine ldFl rfl _ rfl (w.heap.size + 1) 0 rfl _ _ _ _ (HBX.out _ hN0.below).2.f ?_) | (refine ldGp rfl _ rfl w.heap.size 7 rfl _ _ _ _ (HBX.out _ hN0.below).1.g ?_) | (refine ldGp rfl _ rfl (w.heap.size + 1) 7 rfl _ _ _ _ (HBX.out _ hN0.below).2.g ?_) | (refine ldGp rfl _ rfl w.heap.size 11 rfl _ _ _ _ (HBX.out _ hN0.below).1.r ?_) | (refine ldGp rfl _ rfl (w.heap.size + 1) 11 rfl _ _ _ _ (HBX.out _ hN0.below).2.r ?_) | (refine wpList_neqF rfl _ _ _ rfl _ _ _ _ _ _ _ _ rfl rfl q1 HQ1.out ?_) | (refine wpList_neqG rfl _ _ _ rfl _ _ _ _ _ _ _ _ rfl rfl q5 HQ5.out ?_) | (refine wpList_neqG rfl _ _ _ rfl _ _ _ _ _ _ _ _ rfl rfl q6 HQ6.out ?_) | (refine wpList_neqI rfl _ _ _ rfl _ _ rfl rfl _ HQ2.out ?_) | (refine wpList_eqlI rfl _ _ _ rfl _ _ rfl rfl _ HQ2.out ?_) | (refine wpList_neqI rfl _ _ _ rfl _ _ rfl rfl q3 HQ3.out ?_) | (refine wpList_neqI rfl _ _ _ rfl _ _ rfl rfl q4 HQ4.out ?_) | fail)
    refine (note_any w2.heap.size P _ _ 3 _ w2 hN0 hPB hN0.lt (by repeat (first | exact Nat.zero_le _ | refine oneK_le _ _ _ _ ?_))).mono ?_
    rintro e w6 ⟨rfl, hN6, hz6⟩
    clear hN0 hz6
    have hN0 := hN6
    clear hN6
    clear f1 f2 f3
    have f1 := (HBX.out _ hN0.below).1.t
    have f2 := (HBX.out _ hN0.below).2.t
    have f3 := neI_beq HQ4.out
    go_wp2_with (first | (refine ldI rfl _ rfl w.heap.size 4 rfl _ (HBX.out _ hN0.below).1.o ?_) | (refine ldI rfl _ rfl (w.heap.size + 1) 4 rfl _ (HBX.out _ hN0.below).2.o ?_) | (refine ldI rfl _ rfl w.heap.size 5 rfl _ (HBX.out _ hN0.below).1.li ?_) | (refine ldI rfl _ rfl (w.heap.size + 1) 5 rfl _ (HBX.out _ hN0.below).2.li ?_) | (refine ldI rfl _ rfl w.heap.size 6 rfl _ (HBX.out _ hN0.below).1.t ?_) | (refine ldI rfl _ rfl (w.heap.size + 1) 6 rfl _ (HBX.out _ hN0.below).2.t ?_) | (refine ldFl rfl _ rfl w.heap.size 0 rfl _ _ _ _ (HBX.out _ hN0.below).1.f ?_) | (refine ldFl rfl _ rfl (w.heap.size + 1) 0 rfl _ _ _ _ (HBX.out _ hN0.below).2.f ?_) | (refine ldGp rfl _ rfl w.heap.size 7 rfl _ _ _ _ (HBX.out _ hN0.below).1.g ?_) | (refine ldGp rfl _ rfl (w.heap.size + 1) 7 rfl _ _ _ _ (HBX.out _ hN0.below).2.g ?_) | (refine ldGp rfl _ rfl w.heap.size 11 rfl _ _ _ _ (HBX.out _ hN0.below).1.r ?_) | (refine ldGp rfl _ rfl (w.heap.size + 1) 11 rfl _ _ _ _ (HBX.out _ hN0.below).2.r ?_) | (refine wpList_neqF rfl _ _ _ rfl _ _ _ _ _ _ _ _ rfl rfl q1 HQ1.out ?_) | (refine wpList_neqG rfl _ _ _ rfl _ _ _ _ _ _ _ _ rfl rfl q5 HQ5.out ?_) | (refine wpList_neqG rfl _ _ _ rfl _ _ _ _ _ _ _ _ rfl rfl q6 HQ6.out ?_) | (refine wpList_neqI rfl _ _ _ rfl _ _ rfl rfl _ HQ2.out ?_) | (refine wpList_eqlI rfl _ _ _ rfl _ _ rfl rfl _ HQ2.out ?_) | (refine wpList_neqI rfl _ _ _ rfl _ _ rfl rfl q3 HQ3.out ?_) | (refine wpList_neqI rfl _ _ _ rfl _ _ rfl rfl q4 HQ4.out ?_) | fail)
    refine (note_any w2.heap.size P _ _ 4 _ w2 hN0 hPB hN0.lt (by repeat (first | exact Nat.zero_le _ | refine oneK_le _ _ _ _ ?_))).mono ?_
    rintro e w7 ⟨rfl, hN7, hz7⟩
    clear hN0 hz7
    have hN0 := hN7
    clear hN7
    clear f1 f2 f3
    go_wp2_with (first | (refine ldI rfl _ rfl w.heap.size 4 rfl _ (HBX.out _ hN0.below).1.o ?_) | (refine ldI rfl _ rfl (w.heap.size + 1) 4 rfl _ (HBX.out _ hN0.below).2.o ?_) | (refine ldI rfl _ rfl w.heap.size 5 rfl _ (HBX.out _ hN0.below).1.li ?_) | (refine ldI rfl _ rfl (w.heap.size + 1) 5 rfl _ (HBX.out _ hN0.below).2.li ?_) | (refine ldI rfl _ rfl w.heap.size 6 rfl _ (HBX.out _ hN0.below).1.t ?_) | (refine ldI rfl _ rfl (w.heap.size + 1) 6 rfl _ (HBX.out _ hN0.below).2.t ?_) | (refine ldFl rfl _ rfl w.heap.size 0 rfl _ _ _ _ (HBX.out _ hN0.below).1.f ?_) | (refine ldFl rfl _ rfl (w.heap.size + 1) 0 rfl _ _ _ _ (HBX.out _ hN0.below).2.f ?_) | (refine ldGp rfl _ rfl w.heap.size 7 rfl _ _ _ _ (HBX.out _ hN0.below).1.g ?_) | (refine ldGp rfl _ rfl (w.heap.size + 1) 7 rfl _ _ _ _ (HBX.out _ hN0.below).2.g ?_) | (refine ldGp rfl _ rfl w.heap.size 11 rfl _ _ _ _ (HBX.out _ hN0.below).1.r ?_) | (refine ldGp rfl _ rfl (w.heap.size + 1) 11 rfl _ _ _ _ (HBX.out _ hN0.below).2.r ?_) | (refine wpList_neqF rfl _ _ _ rfl _ _ _ _ _ _ _ _ rfl rfl q1 HQ1.out ?_) | (refine wpList_neqG rfl _ _ _ rfl _ _ _ _ _ _ _ _ rfl rfl q5 HQ5.out ?_) | (refine wpList_neqG rfl _ _ _ rfl _ _ _ _ _ _ _ _ rfl rfl q6 HQ6.out ?_) | (refine wpList_neqI rfl _ _ _ rfl _ _ rfl rfl _ HQ2.out ?_) | (refine wpList_eqlI rfl _ _ _ rfl _ _ rfl rfl _ HQ2.out ?_) | (refine wpList_neqI rfl _ _ _ rfl _ _ rfl rfl q3 HQ3.out ?_) | (refine wpList_neqI rfl _ _ _ rfl _ _ rfl rfl q4 HQ4.out ?_) | fail)
    refine (note_any w2.heap.size P _ _ 5 _ w2 hN0 hPB hN0.lt (by repeat (first | exact Nat.zero_le _ | refine oneK_le _ _ _ _ ?_))).mono ?_
    rintro e w8 ⟨rfl, hN8, hz8⟩
    clear hN0 hz8
    have hN0 := hN8
    clear hN8
    go_wp2_with (first | (refine ldI rfl _ rfl w.heap.size 4 rfl _ (HBX.out _ hN0.below).1.o ?_) | (refine ldI rfl _ rfl (w.heap.size + 1) 4 rfl _ (HBX.out _ hN0.below).2.o ?_) | (refine ldI rfl _ rfl w.heap.size 5 rfl _ (HBX.out _ hN0.below).1.li ?_) | (refine ldI rfl _ rfl (w.heap.size + 1) 5 rfl _ (HBX.out _ hN0.below).2.li ?_) | (refine ldI rfl _ rfl w.heap.size 6 rfl _ (HBX.out _ hN0.below).1.t ?_) | (refine ldI rfl _ rfl (w.heap.size + 1) 6 rfl _ (HBX.out _ hN0.below).2.t ?_) | (refine ldFl rfl _ rfl w.heap.size 0 rfl _ _ _ _ (HBX.out _ hN0.below).1.f ?_) | (refine ldFl rfl _ rfl (w.heap.size + 1) 0 rfl _ _ _ _ (HBX.out _ hN0.below).2.f ?_) | (refine ldGp rfl _ rfl w.heap.size 7 rfl _ _ _ _ (HBX.out _ hN0.below).1.g ?_) | (refine ldGp rfl _ rfl (w.heap.size + 1) 7 rfl _ _ _ _ (HBX.out _ hN0.below).2.g ?_) | (refine ldGp rfl _ rfl w.heap.size 11 rfl _ _ _ _ (HBX.out _ hN0.below).1.r ?_) | (refine ldGp rfl _ rfl (w.heap.size + 1) 11 rfl _ _ _ _ (HBX.out _ hN0.below).2.r ?_) | (refine wpList_neqF rfl _ _ _ rfl _ _ _ _ _ _ _ _ rfl rfl q1 HQ1.out ?_) | (refine wpList_neqG rfl _ _ _ rfl _ _ _ _ _ _ _ _ rfl rfl q5 HQ5.out ?_) | (refine wpList_neqG rfl _ _ _ rfl _ _ _ _ _ _ _ _ rfl rfl q6 HQ6.out ?_) | (refine wpList_neqI rfl _ _ _ rfl _ _ rfl rfl _ HQ2.out ?_) | (refine wpList_eqlI rfl _ _ _ rfl _ _ rfl rfl _ HQ2.out ?_) | (refine wpList_neqI rfl _ _ _ rfl _ _ rfl rfl q3 HQ3.out ?_) | (refine wpList_neqI rfl _ _ _ rfl _ _ rfl rfl q4 HQ4.out ?_) | fail)
    refine (note_any w2.heap.size P _ _ 6 _ w2 hN0 hPB hN0.lt (by repeat (first | exact Nat.zero_le _ | refine oneK_le _ _ _ _ ?_))).mono ?_
    rintro e w9 ⟨rfl, hN9, hz9⟩
    clear hN0 hz9
    have hN0 := hN9
    clear hN9
    obtain ⟨⟨v, hh, hO, -⟩, hb⟩ := hN0
    have e3 := neI_bne HQ3.out
    have e4 := neI_bne HQ4.out
    have hO2 : OwnI w9 w2.heap.size 3 v (oneK q1 1 ++ (bif true then [2] else oneK q3 3 ++ oneK q4 4) ++ oneK q5 5 ++ oneK q6 6) := by
      refine Eq.mp (congrArg (OwnI w9 w2.heap.size 3 v) ?_) hO
      simp [oneK, e3, e4]
    obtain ⟨zs, hzs⟩ : ∃ zs, zs = (oneK q1 1 ++ (bif true then [2] else oneK q3 3 ++ oneK q4 4) ++ oneK q5 5 ++ oneK q6 6) := ⟨_, rfl⟩
    rw [← hzs] at hO2
    have HZS := Lib.hid hzs
    have c6 := cell_of hh 0
    obtain ⟨A6, d6, rfl, -⟩ := hO2.form
    clear hh hO e3 e4 hzs
    go_wp2
    go_ret2
    refine ⟨_, rfl, ?_, Below_then hbw hb⟩
    rw [← HZS.out]
    exact OwnI.base hO2 (show w.heap.size ≤ w2.heap.size by omega)
end Go.Proofs.Ytofnhgimeaahiaa
