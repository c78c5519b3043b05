/- Findings, part 2. -/
import Derived.Test.YtjodoljgpdbimaaRep0
namespace Go.Proofs.Ytjodoljgpdbimaa
open Go.ChangeShapes Go.WideShapes Go.ChangeAt Go.RowKit
set_option linter.unusedVariables false
set_option linter.unusedSimpArgs false
set_option maxHeartbeats 40000000 in
set_option maxRecDepth 20000 in
theorem l8Findings_2 (a : ArmsD) (h1 : (a.o != 0) = true ∧ brk a.t (tinF a.d a.p a.q) = false) (w : World) : Calls Try.prog 21 #[.agg (ac a).toArray] w (FndOk w a) := by
  have HB := Lib.hid (box15 a w)
  have hlen := tinF_len a.d a.p a.q
  have hR : okR a = !(((a.o != 0) && brk a.t (tinF a.d a.p a.q)) || ((!groupNone a.c1 a.k1 a.a1 a.t1) && clashB a.t1 a.t) || ((!groupNone a.c2 a.k2 a.a2 a.t2) && brk a.t2 (tinF a.d a.p a.q))) := by
    unfold okR br1 br2 br3
    simp only [Bool.not_or]
  have K1 := fun (w : World) => l8OnField_any a.d a.l a.p a.q a.t w
  have K3 := fun (w : World) => l8OnField_any a.d a.l a.p a.q a.t2 w
  have K2 := fun (w : World) => l2Clash_any a.t1 a.t w
  have KN1 := fun (w : World) => l4None_any a.c1 a.k1 a.a1 a.t1 w
  have KN2 := fun (w : World) => l4None_any a.c2 a.k2 a.a2 a.t2 w
  have e1 : groupNone a.c1 a.k1 a.a1 a.t1 = !(!groupNone a.c1 a.k1 a.a1 a.t1) := (Bool.not_not _).symm
  have e2 : groupNone a.c2 a.k2 a.a2 a.t2 = !(!groupNone a.c2 a.k2 a.a2 a.t2) := (Bool.not_not _).symm
  rw [e1] at KN1
  rw [e2] at KN2
  clear e1 e2
  obtain ⟨zs, hzs⟩ : ∃ zs, zs = tinF a.d a.p a.q := ⟨_, rfl⟩
  rw [← hzs] at hR hlen K1 K3 h1
  generalize brk a.t zs = b1 at *
  generalize brk a.t2 zs = b3 at *
  have G1 := ne_none a.c1 a.k1 a.a1 a.t1
  have G2 := ne_none a.c2 a.k2 a.a2 a.t2
  generalize clashB a.t1 a.t = b2 at *
  generalize (!groupNone a.c1 a.k1 a.a1 a.t1) = g1 at *
  generalize (!groupNone a.c2 a.k2 a.a2 a.t2) = g2 at *
  obtain ⟨qo, hqo⟩ : ∃ qo, (a.o != 0) = qo := ⟨_, rfl⟩
  rw [hqo] at hR h1
  have HG1 := Lib.hid G1
  have HG2 := Lib.hid G2
  have HR := Lib.hid hR
  have K1' := Lib.hid K1
  have K2' := Lib.hid K2
  have K3' := Lib.hid K3
  have KN1 := Lib.hid KN1
  have KN2 := Lib.hid KN2
  clear G1 G2 hR K1 K2 K3 hzs
  have c2 : (g1 = false) ∨ (g1 = true ∧ b2 = false) ∨ (g1 = true ∧ b2 = true) := by cases g1 <;> cases b2 <;> simp
  have c3 : (g2 = false) ∨ (g2 = true ∧ b3 = false) ∨ (g2 = true ∧ b3 = true) := by cases g2 <;> cases b3 <;> simp
  obtain ⟨rfl, rfl⟩ := h1
  rcases c2 with rfl | ⟨rfl, rfl⟩ | ⟨rfl, rfl⟩ <;> rcases c3 with rfl | ⟨rfl, rfl⟩ | ⟨rfl, rfl⟩
  all_goals
    go_enter Try.func21, Try.ntmps21
    go_upto_region 2 with (fail)
    obtain ⟨W0, hW0⟩ : ∃ W0, W0 = w.alloc (.cells (ac a).toArray 31) := ⟨_, rfl⟩
    have hTw : Below w.heap.size w W0 := by rw [hW0]; (repeat (first | exact Below.refl _ _ | assumption | refine Below_al ?_ _ | refine Below.drew ?_ | refine Below_then ?_ (by assumption) | refine Below.setCell ?_ (by first | omega | (simp; done) | (simp; omega)) _))
    have hF : Fnd W0 none ([] : List Int) (.slice (some ⟨W0.heap.size, 0, none⟩) 0 0) 0 (W0.alloc (.cells #[] 76)) :=
      ⟨OwnF.none0 W0 W0.heap.size W0.heap.size rfl (Nat.le_refl _), RdI.nil _ _, fun cb off e => (by cases e), fun cb off e => (by cases e), Below_al (Below.refl _ _) _⟩
    have hsz0 : (W0.heap.size : Nat) = w.heap.size + 1 := by rw [hW0]; simp
    rw [← hW0] at HB ⊢
    rw [← hsz0]
    obtain ⟨w1, hw1⟩ : ∃ w1, w1 = W0.alloc (.cells #[] 76) := ⟨_, rfl⟩
    rw [← hw1] at hF ⊢
    clear hsz0 hW0 hw1
    go_wp2_with (first | (refine ldFw (by kernel_rfl) _ rfl w.heap.size 0 rfl _ _ _ _ (HB.out _ hF.low).f ?_) | (refine ldIw (by kernel_rfl) _ rfl w.heap.size 2 rfl _ ((HB.out _ hF.low).cell 2 _ rfl) ?_) | (refine ldIw (by kernel_rfl) _ rfl w.heap.size 4 rfl _ ((HB.out _ hF.low).cell 4 _ rfl) ?_) | (refine ldIw (by kernel_rfl) _ rfl w.heap.size 6 rfl _ ((HB.out _ hF.low).cell 6 _ rfl) ?_) | (refine ldIw (by kernel_rfl) _ rfl w.heap.size 10 rfl _ ((HB.out _ hF.low).cell 10 _ rfl) ?_) | (refine ldIw (by kernel_rfl) _ rfl w.heap.size 14 rfl _ ((HB.out _ hF.low).cell 14 _ rfl) ?_) | (refine ldGp rfl _ rfl w.heap.size 7 rfl _ _ _ _ (HB.out _ hF.low).g ?_) | (refine ldGp rfl _ rfl w.heap.size 11 rfl _ _ _ _ (HB.out _ hF.low).r ?_) | (at_builtin; refine wp_appF rfl _ _ rfl W0.heap.size _ _ rfl (hF.alloc _).own _ _ _ _ rfl (heap_hit _ _ _ rfl) (by decide) (Nat.le_trans hF.low.size (by simp)) ?_; intro v9 w9 h9 g9 l9 t9; replace hF := (hF.alloc _).app h9 g9 l9 t9; clear h9 g9 l9 t9) | (go_at_call 46; first | ((with_reducible refine (K1'.out _).mono ?_); rintro e wn ⟨rfl, hbn⟩; replace hF := hF.below hbn; clear hbn) | ((with_reducible refine (K3'.out _).mono ?_); rintro e wn ⟨rfl, hbn⟩; replace hF := hF.below hbn; clear hbn)) | (go_at_call 47; refine (K2'.out _).mono ?_; rintro e wn ⟨rfl, rfl⟩) | (go_at_call 20; first | ((with_reducible refine (KN1.out _).mono ?_); rintro e wn ⟨rfl, hbn⟩; replace hF := hF.below hbn; clear hbn) | ((with_reducible refine (KN2.out _).mono ?_); rintro e wn ⟨rfl, hbn⟩; replace hF := hF.below hbn; clear hbn)) | fail)
    obtain ⟨A9, c9, e9⟩ := hF.own.form
    go_ret
    exact ⟨A9, _, c9, by rw [← e9]; rfl, by rw [HR.out]; rfl, Below_then hTw hF.low⟩
end Go.Proofs.Ytjodoljgpdbimaa
