/- Findings, part 2. -/
import Derived.Test.YtjodoljgpdbimaaRep0
namespace Go.Proofs.Ytjodoljgpdbimaa
open Go.ChangeShapes Go.WideShapes Go.ChangeAt Go.RowKit
set_option linter.unusedVariables false
set_option linter.unusedSimpArgs false
set_option maxHeartbeats 40000000 in
set_option maxRecDepth 20000 in
theorem findings_2 (a : ArmsD) (h1 : (a.o != 0) = true ∧ brk a.t (tinF a.d a.p a.q) = false) (w : World) : Calls Try.prog 27 #[.agg (ac a).toArray] w (FndOk w a) := by
  have HB := Lib.hid (box15 a w)
  have hlen := tinF_len a.d a.p a.q
  have KF := Lib.hid (fun w => fieldTins_any a.d a.l a.p a.q w)
  have hR : okR a = !(((a.o != 0) && brk a.t (tinF a.d a.p a.q)) || ((!groupNone a.c1 a.k1 a.a1 a.t1) && clashB a.t1 a.t) || ((!groupNone a.c2 a.k2 a.a2 a.t2) && brk a.t2 (tinF a.d a.p a.q))) := by
    unfold okR br1 br2 br3
    simp only [Bool.not_or]
  obtain ⟨zs, hzs⟩ : ∃ zs, zs = tinF a.d a.p a.q := ⟨_, rfl⟩
  have hpos : 0 < zs.length := by rw [hzs]; unfold tinF; split <;> simp
  rw [← hzs] at KF hR hlen h1
  have K1 := fun (A c : _) (w : World) (h : RdI w A zs) => breaks_any a.t A c zs w h (by omega)
  have K3 := fun (A c : _) (w : World) (h : RdI w A zs) => breaks_any a.t2 A c zs w h (by omega)
  have K2 := fun (w : World) => clash_any a.t1 a.t w
  generalize brk a.t zs = b1 at *
  generalize brk a.t2 zs = b3 at *
  have G1 := ne_none a.c1 a.k1 a.a1 a.t1
  have G2 := ne_none a.c2 a.k2 a.a2 a.t2
  generalize clashB a.t1 a.t = b2 at *
  generalize (!groupNone a.c1 a.k1 a.a1 a.t1) = g1 at *
  generalize (!groupNone a.c2 a.k2 a.a2 a.t2) = g2 at *
  obtain ⟨qo, hqo⟩ : ∃ qo, (a.o != 0) = qo := ⟨_, rfl⟩
  rw [hqo] at hR h1
  have HG1 := Lib.hid G1
  have HG2 := Lib.hid G2
  have HR := Lib.hid hR
  have K1' := Lib.hid K1
  have K2' := Lib.hid K2
  have K3' := Lib.hid K3
  clear G1 G2 hR K1 K2 K3 hzs
  have c2 : (g1 = false) ∨ (g1 = true ∧ b2 = false) ∨ (g1 = true ∧ b2 = true) := by cases g1 <;> cases b2 <;> simp
  have c3 : (g2 = false) ∨ (g2 = true ∧ b3 = false) ∨ (g2 = true ∧ b3 = true) := by cases g2 <;> cases b3 <;> simp
  obtain ⟨rfl, rfl⟩ := h1
  rcases c2 with rfl | ⟨rfl, rfl⟩ | ⟨rfl, rfl⟩ <;> rcases c3 with rfl | ⟨rfl, rfl⟩ | ⟨rfl, rfl⟩
  all_goals
    go_enter Try.func27, Try.ntmps27
    go_wp2_with (first | (refine ldFl rfl _ rfl w.heap.size 0 rfl _ _ _ _ (HB.out _ (by (repeat (first | exact Below.refl _ _ | assumption | refine Below_al ?_ _ | refine Below.drew ?_ | refine Below_then ?_ (by assumption) | refine Below.setCell ?_ (by first | omega | (simp; done) | (simp; omega)) _)))).f ?_) | fail)
    refine (KF.out _).mono ?_
    rintro e w1 ⟨u, rfl, hO, hb1⟩
    obtain ⟨g4, c4, rfl, hg4, hg5⟩ := hO.pos hpos
    obtain ⟨A5, c5, e5, hr4⟩ := hO.form
    injection e5 with e5 _ _
    subst e5
    obtain ⟨W0, hW0⟩ : ∃ W0, W0 = w.alloc (.cells (ac a).toArray 31) := ⟨_, rfl⟩
    rw [← hW0] at hb1 hO HB hg4
    have hTw : Below w.heap.size w W0 := by rw [hW0]; (repeat (first | exact Below.refl _ _ | assumption | refine Below_al ?_ _ | refine Below.drew ?_ | refine Below_then ?_ (by assumption) | refine Below.setCell ?_ (by first | omega | (simp; done) | (simp; omega)) _))
    have hF : Fnd W0 (some ⟨g4, 0, none⟩) zs (.slice (some ⟨W0.heap.size, 0, none⟩) 0 0) 0 w1 :=
      ⟨(OwnF.none0 W0 W0.heap.size W0.heap.size rfl (Nat.le_refl _)).below hb1, hr4, fun cb off e e2 => by
        injection e with e
        injection e with e
        subst e
        have e3 : some W0.heap.size = some g4 := e2
        injection e3 with e3
        rw [World.size_alloc] at hg4
        omega, fun cb off e => by injection e with e; injection e with e; subst e; exact hg5, Below_then (Below_al (Below.refl _ _) _) hb1⟩
    have hsz0 : (W0.heap.size : Nat) = w.heap.size + 1 := by rw [hW0]; simp
    rw [← hsz0]
    clear hO hr4 hb1 hg4 hg5 hsz0 hW0
    go_wp2_with (first | (refine ldIw (by kernel_rfl) _ rfl w.heap.size 2 rfl _ ((HB.out _ hF.low).cell 2 _ rfl) ?_) | (refine ldIw (by kernel_rfl) _ rfl w.heap.size 4 rfl _ ((HB.out _ hF.low).cell 4 _ rfl) ?_) | (refine ldIw (by kernel_rfl) _ rfl w.heap.size 6 rfl _ ((HB.out _ hF.low).cell 6 _ rfl) ?_) | (refine ldIw (by kernel_rfl) _ rfl w.heap.size 10 rfl _ ((HB.out _ hF.low).cell 10 _ rfl) ?_) | (refine ldIw (by kernel_rfl) _ rfl w.heap.size 14 rfl _ ((HB.out _ hF.low).cell 14 _ rfl) ?_) | (refine ldGp rfl _ rfl w.heap.size 7 rfl _ _ _ _ (HB.out _ hF.low).g ?_) | (refine ldGp rfl _ rfl w.heap.size 11 rfl _ _ _ _ (HB.out _ hF.low).r ?_) | (refine wpList_neqG rfl _ _ _ rfl a.c1 a.k1 a.a1 a.t1 0 0 0 0 rfl rfl _ HG1.out ?_) | (refine wpList_neqG rfl _ _ _ rfl a.c2 a.k2 a.a2 a.t2 0 0 0 0 rfl rfl _ HG2.out ?_) | (at_builtin; refine wp_appF rfl _ _ rfl W0.heap.size _ _ rfl (hF.alloc _).own _ _ _ _ rfl (heap_hit _ _ _ rfl) (by decide) (Nat.le_trans hF.low.size (by simp)) ?_; intro v9 w9 h9 g9 l9 t9; replace hF := (hF.alloc _).app h9 g9 l9 t9; clear h9 g9 l9 t9) | (go_at_call 52; first | ((with_reducible refine (K1'.out _ _ _ hF.rd).mono ?_); rintro e wn ⟨rfl, hbn⟩; replace hF := hF.below hbn; clear hbn) | ((with_reducible refine (K3'.out _ _ _ hF.rd).mono ?_); rintro e wn ⟨rfl, hbn⟩; replace hF := hF.below hbn; clear hbn)) | (go_at_call 53; refine (K2'.out _).mono ?_; rintro e wn ⟨rfl, rfl⟩) | fail)
    obtain ⟨A9, c9, e9⟩ := hF.own.form
    go_ret
    exact ⟨A9, _, c9, by rw [← e9]; rfl, by rw [HR.out]; rfl, Below_then hTw hF.low⟩
end Go.Proofs.Ytjodoljgpdbimaa
