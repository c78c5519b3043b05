/- Plain law: the greatest set without conflicts, the first one in lexicographic order: by a search with continuation, and by trial of all sets. No program in sight. -/
import Derived.Test.YtdjddhdplknalaaBits
namespace Go.Proofs.Ytdjddhdplknalaa
set_option linter.unusedVariables false
/-! ### Order -/
def lexLt : List Nat → List Nat → Bool
  | [], [] => false
  | [], _ :: _ => true
  | _ :: _, [] => false
  | a :: as, b :: bs => decide (a < b) || (decide (a = b) && lexLt as bs)
theorem lexLt_asymm : ∀ (a b : List Nat), lexLt a b = true → lexLt b a = false
  | [], [], h => by simp [lexLt] at h
  | [], _ :: _, _ => rfl
  | _ :: _, [], h => by simp [lexLt] at h
  | a :: as, b :: bs, h => by
    simp only [lexLt, Bool.or_eq_true, Bool.and_eq_true, decide_eq_true_eq] at h
    simp only [lexLt, Bool.or_eq_false_iff, Bool.and_eq_false_iff, decide_eq_false_iff_not]
    rcases h with h | ⟨rfl, h⟩
    · exact ⟨by omega, .inl (by omega)⟩
    · exact ⟨by omega, .inr (lexLt_asymm as bs h)⟩
theorem lexLt_total : ∀ (a b : List Nat), lexLt a b = false → a = b ∨ lexLt b a = true
  | [], [], _ => .inl rfl
  | [], _ :: _, h => by simp [lexLt] at h
  | _ :: _, [], _ => .inr rfl
  | a :: as, b :: bs, h => by
    simp only [lexLt, Bool.or_eq_false_iff, Bool.and_eq_false_iff, decide_eq_false_iff_not] at h
    simp only [lexLt, Bool.or_eq_true, Bool.and_eq_true, decide_eq_true_eq, List.cons.injEq]
    by_cases e : a = b
    · subst e
      rcases lexLt_total as bs (by rcases h.2 with h2 | h2; · exact absurd rfl h2
                                   · exact h2) with h1 | h1
      · exact .inl ⟨rfl, h1⟩
      · exact .inr (.inr ⟨rfl, h1⟩)
    · exact .inr (.inl (by omega))
theorem lexLt_front : ∀ (p : List Nat) (j i : Nat) (s t : List Nat), j < i → lexLt (p ++ j :: s) (p ++ i :: t) = true
  | [], j, i, s, t, h => by simp [lexLt, h]
  | a :: p, j, i, s, t, h => by simp [lexLt, lexLt_front p j i s t h]
theorem lexLt_trans : ∀ (a b c : List Nat), lexLt a b = true → lexLt b c = true → lexLt a c = true
  | [], [], _, h, _ => by simp [lexLt] at h
  | [], _ :: _, [], _, h => by simp [lexLt] at h
  | [], _ :: _, _ :: _, _, _ => rfl
  | _ :: _, [], _, h, _ => by simp [lexLt] at h
  | _ :: _, _ :: _, [], _, h => by simp [lexLt] at h
  | a :: as, b :: bs, c :: cs, h, h2 => by
    simp only [lexLt, Bool.or_eq_true, Bool.and_eq_true, decide_eq_true_eq] at *
    rcases h with h | ⟨rfl, h⟩ <;> rcases h2 with h2 | ⟨rfl, h2⟩
    · exact .inl (by omega)
    · exact .inl h
    · exact .inl h2
    · exact .inr ⟨rfl, lexLt_trans as bs cs h h2⟩
def betterB (a b : List Nat) : Bool := decide (b.length < a.length) || (decide (a.length = b.length) && lexLt a b)
theorem betterB_iff {a b : List Nat} : betterB a b = true ↔ b.length < a.length ∨ (a.length = b.length ∧ lexLt a b = true) := by simp [betterB]
theorem better_asymm {a b : List Nat} (h : betterB a b = true) : betterB b a = false := by
  rw [betterB_iff] at h
  rw [Bool.eq_false_iff]
  intro h2
  rw [betterB_iff] at h2
  rcases h with h | ⟨h, hl⟩ <;> rcases h2 with h2 | ⟨h2, hl2⟩ <;> first | omega | (rw [lexLt_asymm _ _ hl] at hl2; cases hl2)
theorem better_total {a b : List Nat} (h : betterB a b = false) : a = b ∨ betterB b a = true := by
  by_cases h1 : b.length < a.length
  · rw [betterB_iff.2 (.inl h1)] at h
    cases h
  · by_cases h2 : a.length < b.length
    · exact .inr (betterB_iff.2 (.inl h2))
    · cases hl : lexLt a b with
      | true => rw [betterB_iff.2 (.inr ⟨by omega, hl⟩)] at h; cases h
      | false =>
        rcases lexLt_total a b hl with e | e
        · exact .inl e
        · exact .inr (betterB_iff.2 (.inr ⟨by omega, e⟩))
def Opt (Q : List Nat → Prop) (b : List Nat) : Prop := Q b ∧ ∀ x, Q x → x = b ∨ betterB b x = true
theorem Opt.unique {Q : List Nat → Prop} {a b : List Nat} (ha : Opt Q a) (hb : Opt Q b) : a = b := by
  rcases ha.2 b hb.1 with e | e
  · exact e.symm
  · rcases hb.2 a ha.1 with e2 | e2
    · exact e2
    · rw [better_asymm e] at e2
      cases e2
theorem Opt.congr {Q R : List Nat → Prop} {a : List Nat} (h : ∀ x, Q x ↔ R x) (ha : Opt Q a) : Opt R a := ⟨(h a).1 ha.1, fun x hx => ha.2 x ((h x).2 hx)⟩
theorem Opt.len {Q : List Nat → Prop} {a x : List Nat} (ha : Opt Q a) (hx : Q x) : x.length ≤ a.length := by
  rcases ha.2 x hx with e | e
  · rw [e]; exact Nat.le_refl _
  · rw [betterB_iff] at e
    omega
/-! ### Sets without conflicts -/
section
variable (cf : Nat → Nat → Bool) (n : Nat)
def okS (l : List Nat) : Prop := l.Pairwise fun a b => a < b ∧ cf a b = false
def freeB (l : List Nat) (i : Nat) : Bool := l.all fun k => !cf k i
/-- The search that continues a list: the numbers from i on. -/
def dstL : Nat → List Nat → Nat → List Nat → List Nat
  | 0, _, _, best => best
  | f + 1, sm, i, best => dstL f sm (i + 1) (if freeB cf sm i = true then (if best.length < (dstL f (sm ++ [i]) (i + 1) (sm ++ [i])).length then dstL f (sm ++ [i]) (i + 1) (sm ++ [i]) else best) else best)
def Cand (fr : Nat) (sm x : List Nat) : Prop := ∃ s, x = sm ++ s ∧ okS cf x ∧ ∀ k ∈ s, fr ≤ k ∧ k < n
def Part (fr : Nat) (sm : List Nat) (i : Nat) (x : List Nat) : Prop := Cand cf n fr sm x ∧ ∀ j s, x = sm ++ j :: s → j < i
variable {cf n}
theorem okS_app {a b : List Nat} : okS cf (a ++ b) ↔ okS cf a ∧ okS cf b ∧ ∀ x ∈ a, ∀ y ∈ b, x < y ∧ cf x y = false := by
  unfold okS
  rw [List.pairwise_append]
theorem freeB_iff {l : List Nat} {i : Nat} : freeB cf l i = true ↔ ∀ k ∈ l, cf k i = false := by
  simp [freeB]
theorem part_step {fr : Nat} {sm : List Nat} {i : Nat} (hi : fr ≤ i) (hn : i < n) (x : List Nat) : Part cf n fr sm (i + 1) x ↔ Part cf n fr sm i x ∨ Cand cf n (i + 1) (sm ++ [i]) x := by
  constructor
  · rintro ⟨⟨s, rfl, ho, hs⟩, hj⟩
    match s with
    | [] => exact .inl ⟨⟨[], rfl, ho, hs⟩, fun j s e => by simp at e⟩
    | k :: s =>
      have hk := hj k s rfl
      by_cases e : k = i
      · subst e
        refine .inr ⟨s, by simp, by simpa using ho, fun m hm => ?_⟩
        have h1 := (okS_app.1 ho).2.1
        have h2 := (List.pairwise_cons.1 h1).1 m hm
        exact ⟨h2.1, (hs m (List.mem_cons_of_mem _ hm)).2⟩
      · refine .inl ⟨⟨k :: s, rfl, ho, hs⟩, fun j s' e' => ?_⟩
        simp at e'
        omega
  · rintro (⟨hc, hj⟩ | ⟨s, rfl, ho, hs⟩)
    · exact ⟨hc, fun j s e => by have := hj j s e; omega⟩
    · refine ⟨⟨i :: s, by simp, ho, fun k hk => ?_⟩, fun j s' e => ?_⟩
      · rcases List.mem_cons.1 hk with rfl | hk
        · exact ⟨hi, hn⟩
        · have := hs k hk
          exact ⟨by omega, this.2⟩
      · simp at e
        omega
theorem dstL_opt (sm0 : List Nat) : ∀ (f : Nat) (sm : List Nat) (fr i : Nat) (best : List Nat), i + f = n → fr ≤ i → okS cf sm → (∀ k ∈ sm, k < i) → Opt (Part cf n fr sm i) best → Opt (Part cf n fr sm n) (dstL cf f sm i best)
  | 0, sm, fr, i, best, hf, _, _, _, hb => by
    obtain rfl : i = n := by omega
    exact hb
  | f + 1, sm, fr, i, best, hf, hi, hok, hlt, hb => by
    rw [dstL]
    refine dstL_opt sm0 f sm fr (i + 1) _ (by omega) (by omega) hok (fun k hk => by have := hlt k hk; omega) ?_
    by_cases hfr : freeB cf sm i = true
    · rw [if_pos hfr]
      have hok' : okS cf (sm ++ [i]) := okS_app.2 ⟨hok, List.pairwise_singleton _ _, fun x hx y hy => by simp at hy; subst hy; exact ⟨hlt x hx, freeB_iff.1 hfr x hx⟩⟩
      have hin : Opt (Part cf n (i + 1) (sm ++ [i]) (i + 1)) (sm ++ [i]) := by
        refine ⟨⟨⟨[], by simp, hok', fun k hk => by simp at hk⟩, fun j s e => by simp at e⟩, fun x hx => ?_⟩
        obtain ⟨⟨s, rfl, _, hs⟩, hj⟩ := hx
        match s with
        | [] => exact .inl (by simp)
        | k :: s =>
          have := hj k s rfl
          have := (hs k (List.mem_cons_self ..)).1
          omega
      have hout := dstL_opt sm0 f (sm ++ [i]) (i + 1) (i + 1) (sm ++ [i]) (by omega) (Nat.le_refl _) hok' (fun k hk => by
        rcases List.mem_append.1 hk with hk | hk
        · have := hlt k hk; omega
        · simp at hk; omega) hin
      generalize dstL cf f (sm ++ [i]) (i + 1) (sm ++ [i]) = out at hout ⊢
      have hall : ∀ x, Part cf n (i + 1) (sm ++ [i]) n x ↔ Cand cf n (i + 1) (sm ++ [i]) x := fun x =>
        ⟨fun h => h.1, fun h => ⟨h, fun j s e => by
          obtain ⟨s', e', _, hs⟩ := h
          rw [e'] at e
          have e := List.append_cancel_left e
          subst e
          exact (hs j (List.mem_cons_self ..)).2⟩⟩
      have hout := Opt.congr hall hout
      refine Opt.congr (fun x => (part_step hi (by omega) x).symm) ?_
      by_cases hl : best.length < out.length
      · rw [if_pos hl]
        refine ⟨.inr hout.1, fun x hx => ?_⟩
        rcases hx with hx | hx
        · refine .inr (betterB_iff.2 (.inl ?_))
          have := hb.len hx
          omega
        · exact hout.2 x hx
      · rw [if_neg hl]
        refine ⟨.inl hb.1, fun x hx => ?_⟩
        rcases hx with hx | hx
        · exact hb.2 x hx
        · have hxl := hout.len hx
          refine .inr (betterB_iff.2 ?_)
          by_cases hlt2 : x.length < best.length
          · exact .inl hlt2
          · refine .inr ⟨by omega, ?_⟩
            obtain ⟨⟨s, rfl, _, _⟩, hj⟩ := hb.1
            obtain ⟨t, rfl, _, _⟩ := hx
            match s with
            | [] => simp at hlt2 hxl hl; omega
            | j :: s =>
              have := hj j s rfl
              have := lexLt_front sm j i s t this
              simpa using this
    · rw [if_neg hfr]
      refine Opt.congr (fun x => (part_step hi (by omega) x).symm) ?_
      refine ⟨.inl hb.1, fun x hx => ?_⟩
      rcases hx with hx | ⟨s, rfl, ho, _⟩
      · exact hb.2 x hx
      · exfalso
        apply hfr
        rw [freeB_iff]
        intro k hk
        rw [List.append_assoc] at ho
        exact ((okS_app.1 ho).2.2 k hk i (by simp)).2
theorem dst_opt : Opt (Cand cf n 0 []) (dstL cf n [] 0 []) := by
  have h := dstL_opt (cf := cf) (n := n) [] n [] 0 0 [] (by omega) (Nat.le_refl _) List.Pairwise.nil (fun k hk => by simp at hk)
    ⟨⟨⟨[], rfl, List.Pairwise.nil, fun k hk => by simp at hk⟩, fun j s e => by simp at e⟩, fun x hx => by
      obtain ⟨-, hj⟩ := hx
      match x, hj with
      | [], _ => exact .inl rfl
      | k :: s, hj => have := hj k s rfl; omega⟩
  refine Opt.congr (fun x => ⟨fun h => h.1, fun h => ⟨h, fun j s e => ?_⟩⟩) h
  obtain ⟨s', e', _, hs⟩ := h
  rw [e'] at e
  simp at e
  subst e
  exact (hs j (List.mem_cons_self ..)).2
variable (cf n)
/-! ### Trial of all sets -/
def subB (m : Nat) : List Nat := (List.range n).filter fun i => m.testBit i
def okB (l : List Nat) : Bool := decide (l.Pairwise fun a b => cf a b = false)
def bestI : Nat → List Nat
  | 0 => []
  | m + 1 => if (okB cf (subB n m) && betterB (subB n m) (bestI m)) = true then subB n m else bestI m
variable {cf n}
theorem own_asc (m : Nat) : (subB n m).Pairwise (· < ·) := List.Pairwise.filter _ List.pairwise_lt_range
theorem own_ok (m : Nat) : okB cf (subB n m) = true ↔ okS cf (subB n m) := by
  unfold okB okS
  rw [decide_eq_true_iff]
  constructor
  · intro h
    exact List.Pairwise.and (own_asc m) h
  · intro h
    exact h.imp fun h => h.2
theorem asc_eq : ∀ (a b : List Nat), a.Pairwise (· < ·) → b.Pairwise (· < ·) → (∀ x, x ∈ a ↔ x ∈ b) → a = b
  | [], [], _, _, _ => rfl
  | [], b :: bs, _, _, h => absurd ((h b).2 (List.mem_cons_self ..)) (by simp)
  | a :: as, [], _, _, h => absurd ((h a).1 (List.mem_cons_self ..)) (by simp)
  | a :: as, b :: bs, ha, hb, h => by
    have ha' := List.pairwise_cons.1 ha
    have hb' := List.pairwise_cons.1 hb
    have e : a = b := by
      have h1 := (h a).1 (List.mem_cons_self ..)
      have h2 := (h b).2 (List.mem_cons_self ..)
      rcases List.mem_cons.1 h1 with e | e
      · exact e
      · rcases List.mem_cons.1 h2 with e2 | e2
        · exact e2.symm
        · have := hb'.1 a e
          have := ha'.1 b e2
          omega
    subst e
    rw [asc_eq as bs ha'.2 hb'.2 fun x => ?_]
    constructor
    · intro hx
      rcases List.mem_cons.1 ((h x).1 (List.mem_cons_of_mem _ hx)) with e | e
      · subst e; have := ha'.1 x hx; omega
      · exact e
    · intro hx
      rcases List.mem_cons.1 ((h x).2 (List.mem_cons_of_mem _ hx)) with e | e
      · subst e; have := hb'.1 x hx; omega
      · exact e
theorem own_all {x : List Nat} (h : Cand cf n 0 [] x) : ∃ m, m < 2 ^ n ∧ subB n m = x := by
  obtain ⟨s, e, ho, hs⟩ := h
  rw [List.nil_append] at e
  subst e
  refine ⟨rowN (fun i => decide (i ∈ x)) n, rowN_lt _ _, asc_eq _ _ (own_asc _) (ho.imp fun h => h.1) fun i => ?_⟩
  unfold subB
  rw [List.mem_filter, rowN_bit]
  have : i ∈ x → i < n := fun h => (hs i h).2
  simp only [List.mem_range, Bool.and_eq_true, decide_eq_true_eq]
  exact ⟨fun h => h.2.2, fun h => ⟨this h, this h, h⟩⟩
theorem bestI_opt : ∀ M, Opt (fun x => x = [] ∨ ∃ m, m < M ∧ subB n m = x ∧ okS cf x) (bestI cf n M)
  | 0 => ⟨.inl rfl, fun x hx => .inl (by rcases hx with rfl | ⟨m, hm, _⟩; · rfl
                                         · omega)⟩
  | M + 1 => by
    have ih := bestI_opt M
    rw [bestI]
    by_cases h : (okB cf (subB n M) && betterB (subB n M) (bestI cf n M)) = true
    · rw [if_pos h]
      rw [Bool.and_eq_true, own_ok] at h
      refine ⟨.inr ⟨M, by omega, rfl, h.1⟩, fun x hx => ?_⟩
      have hold : ∀ x, (x = [] ∨ ∃ m, m < M ∧ subB n m = x ∧ okS cf x) → x = subB n M ∨ betterB (subB n M) x = true := by
        intro x hx
        have h2 := betterB_iff.1 h.2
        rcases ih.2 x hx with rfl | e
        · exact .inr h.2
        · have e := betterB_iff.1 e
          rcases h2 with h2 | ⟨h2, hl⟩
          · exact .inr (betterB_iff.2 (.inl (by omega)))
          · rcases e with e | ⟨e, hl2⟩
            · exact .inr (betterB_iff.2 (.inl (by omega)))
            · exact .inr (betterB_iff.2 (.inr ⟨by omega, lexLt_trans _ _ _ hl hl2⟩))
      rcases hx with rfl | ⟨m, hm, he, hok⟩
      · exact hold _ (.inl rfl)
      · by_cases e : m = M
        · subst e; exact .inl he.symm
        · exact hold _ (.inr ⟨m, by omega, he, hok⟩)
    · rw [if_neg h]
      refine ⟨?_, fun x hx => ?_⟩
      · rcases ih.1 with e | ⟨m, hm, e⟩
        · exact .inl e
        · exact .inr ⟨m, by omega, e⟩
      · rcases hx with rfl | ⟨m, hm, he, hok⟩
        · exact ih.2 _ (.inl rfl)
        · by_cases e : m = M
          · subst e
            subst he
            rw [Bool.and_eq_true, own_ok] at h
            have : betterB (subB n m) (bestI cf n m) = false := by
              rw [Bool.eq_false_iff]
              exact fun e => h ⟨hok, e⟩
            exact better_total this
          · exact ih.2 _ (.inr ⟨m, by omega, he, hok⟩)
theorem bestI_dst : bestI cf n (2 ^ n) = dstL cf n [] 0 [] := by
  refine Opt.unique (bestI_opt (2 ^ n)) (Opt.congr (fun x => ⟨fun h => ?_, fun h => ?_⟩) dst_opt)
  · obtain ⟨m, hm, he⟩ := own_all h
    obtain ⟨s, e, ho, hs⟩ := h
    exact .inr ⟨m, hm, he, ho⟩
  · rcases h with rfl | ⟨m, hm, he, hok⟩
    · exact ⟨[], rfl, List.Pairwise.nil, fun k hk => by simp at hk⟩
    · refine ⟨x, rfl, hok, fun k hk => ?_⟩
      rw [← he] at hk
      unfold subB at hk
      rw [List.mem_filter] at hk
      exact ⟨Nat.zero_le _, by simpa using hk.1⟩
end
end Go.Proofs.Ytdjddhdplknalaa
