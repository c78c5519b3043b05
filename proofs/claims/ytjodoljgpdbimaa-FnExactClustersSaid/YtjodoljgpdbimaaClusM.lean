/- Clusters: what both sides compute, and what they lay in memory. -/
import Derived.Test.YtjodoljgpdbimaaClusP
import Derived.Test.YtjodoljgpdbimaaPutI
import Derived.Test.YtjodoljgpdbimaaNear
import Derived.Test.YtjodoljgpdbimaaGGLaw
import Derived.Test.YtjodoljgpdbimaaTbl
namespace Go.Proofs.Ytjodoljgpdbimaa
open Go.ChangeShapes Go.WideShapes Go.ChangeAt Go.RowKit
set_option linter.unusedVariables false
set_option linter.unusedSimpArgs false
def natI (l : List Nat) : List Int := l.map fun (k : Nat) => (k : Int)
theorem natI_len (l : List Nat) : (natI l).length = l.length := by simp [natI]
theorem natI_app (a b : List Nat) : natI (a ++ b) = natI a ++ natI b := by simp [natI]
theorem natI_get {l : List Nat} {k x : Nat} (h : l[k]? = some x) : (natI l)[k]? = some (x : Int) := by simp [natI, h]
theorem natI_mem {l : List Nat} {k : Nat} : (k : Int) ∈ natI l ↔ k ∈ l := by
  unfold natI
  rw [List.mem_map]
  constructor
  · rintro ⟨j, hj, e⟩
    have : j = k := by omega
    rw [← this]
    exact hj
  · exact fun h => ⟨k, h, rfl⟩
theorem natI_nodup {l : List Nat} (h : l.Nodup) : (natI l).Nodup := by
  unfold natI
  unfold List.Nodup at *
  rw [List.pairwise_map]
  exact h.imp fun {a b} hab e => hab (by omega)
/-- Two of a list are near. -/
def nearR (rows : List ArmsD) (lim : Int) (x k : Nat) : Bool := match rows[x]?, rows[k]? with | some a, some b => decide (df a b ≤ lim) | _, _ => false
theorem nearR_at {rows : List ArmsD} {lim : Int} {x k : Nat} {a b : ArmsD} (ha : rows[x]? = some a) (hb : rows[k]? = some b) : nearR rows lim x k = decide (df a b ≤ lim) := by simp [nearR, ha, hb]
theorem nearR_comm (rows : List ArmsD) (lim : Int) (x k : Nat) : nearR rows lim x k = nearR rows lim k x := by
  unfold nearR
  cases rows[x]? <;> cases rows[k]? <;> simp [df_comm]
theorem nearR_lt (rows : List ArmsD) (lim : Int) (x k : Nat) (h : nearR rows lim x k = true) : k < rows.length := by
  unfold nearR at h
  cases hk : rows[k]? with
  | some b => exact (List.getElem?_eq_some_iff.1 hk).1
  | none => rw [hk] at h; cases hx : rows[x]? <;> rw [hx] at h <;> simp at h
section
variable (rows : List ArmsD) (lim : Int)
def clC (k : Nat) : List (List Nat) × List Nat := clus rows.length (nearR rows lim) id k
def grpL (k : Nat) : List Nat := bfs rows.length (nearR rows lim) [] rows.length 0 [k]
def rowC (g : List Nat) : List Int := putAllI (natI g)
def clR (k : Nat) : List (List Int) := (clC rows lim k).1.map rowC
def clS (k : Nat) : List Int := (clR rows lim k).flatten
abbrev Gp (S g : List Nat) (a : Nat) : Prop := Grp rows.length (nearR rows lim) S g a
theorem clC_skip {k : Nat} (h : k ∈ (clC rows lim k).2) : clC rows lim (k + 1) = clC rows lim k := by
  unfold clC at *
  rw [clus, if_pos h]
theorem clC_add {k : Nat} (h : k ∉ (clC rows lim k).2) : clC rows lim (k + 1) = ((clC rows lim k).1 ++ [grpL rows lim k], (clC rows lim k).2 ++ grpL rows lim k) := by
  unfold clC at *
  rw [clus, if_neg h]
  rfl
theorem clR_skip {k : Nat} (h : k ∈ (clC rows lim k).2) : clR rows lim (k + 1) = clR rows lim k := by unfold clR; rw [clC_skip rows lim h]
theorem clR_add {k : Nat} (h : k ∉ (clC rows lim k).2) : clR rows lim (k + 1) = clR rows lim k ++ [rowC (grpL rows lim k)] := by unfold clR; rw [clC_add rows lim h]; simp
theorem clS_skip {k : Nat} (h : k ∈ (clC rows lim k).2) : clS rows lim (k + 1) = clS rows lim k := by unfold clS; rw [clR_skip rows lim h]
theorem clS_add {k : Nat} (h : k ∉ (clC rows lim k).2) : clS rows lim (k + 1) = clS rows lim k ++ rowC (grpL rows lim k) := by unfold clS; rw [clR_add rows lim h, List.flatten_append]; simp
theorem rowC_mem {g : List Nat} {j : Nat} : (j : Int) ∈ rowC g ↔ j ∈ g := by
  unfold rowC
  rw [putAllI_mem, natI_mem]
theorem clS_mem : ∀ (k j : Nat), (j : Int) ∈ clS rows lim k ↔ j ∈ (clC rows lim k).2
  | 0, j => by simp [clS, clR, clC, clus]
  | k + 1, j => by
    by_cases h : k ∈ (clC rows lim k).2
    · rw [clS_skip rows lim h, clC_skip rows lim h]
      exact clS_mem k j
    · rw [clS_add rows lim h, clC_add rows lim h, List.mem_append, List.mem_append, clS_mem k j, rowC_mem]
theorem gp_start {S : List Nat} {k : Nat} (hk : k < rows.length) (hS : k ∉ S) : Gp rows lim S [k] 0 := grp_start _ _ (nearR_comm rows lim) (nearR_lt rows lim) S hk hS
theorem grpL_gp {k : Nat} (hk : k < rows.length) : ∃ b, Gp rows lim [] (grpL rows lim k) b := by
  obtain ⟨b, -, h, -⟩ := bfs_grp rows.length (nearR rows lim) rows.length 0 [k] (gp_start rows lim (S := []) hk (by simp)) (by omega) (by simp)
  exact ⟨b, h⟩
theorem grpL_len {k : Nat} (hk : k < rows.length) : (grpL rows lim k).length ≤ rows.length := by
  obtain ⟨b, h⟩ := grpL_gp rows lim hk
  exact h.len
theorem rowC_len (g : List Nat) : (rowC g).length ≤ g.length := by
  unfold rowC
  have := putAllI_len (natI g)
  rwa [natI_len] at this
theorem clR_len : ∀ k, k ≤ rows.length → (clR rows lim k).length ≤ k
  | k, h => by
    unfold clR
    rw [List.length_map]
    exact (clus_inv rows.length (nearR rows lim) (nearR_comm rows lim) (nearR_lt rows lim) id k h).few
theorem clS_len : ∀ k, k ≤ rows.length → (clS rows lim k).length ≤ k * rows.length
  | 0, _ => by simp [clS, clR, clC, clus]
  | k + 1, h => by
    have ih := clS_len k (by omega)
    rw [Nat.succ_mul]
    by_cases hm : k ∈ (clC rows lim k).2
    · rw [clS_skip rows lim hm]; omega
    · rw [clS_add rows lim hm, List.length_append]
      have := rowC_len (grpL rows lim k)
      have := grpL_len rows lim (k := k) (by omega)
      omega
theorem clR_rowlen : ∀ k, k ≤ rows.length → ∀ r ∈ clR rows lim k, r.length ≤ rows.length
  | 0, _, r, hr => by simp [clR, clC, clus] at hr
  | k + 1, h, r, hr => by
    by_cases hm : k ∈ (clC rows lim k).2
    · rw [clR_skip rows lim hm] at hr
      exact clR_rowlen k (by omega) r hr
    · rw [clR_add rows lim hm, List.mem_append, List.mem_singleton] at hr
      rcases hr with hr | rfl
      · exact clR_rowlen k (by omega) r hr
      · have := rowC_len (grpL rows lim k)
        have := grpL_len rows lim (k := k) (by omega)
        omega
theorem clC_closed {k : Nat} (hk : k ≤ rows.length) : Closed rows.length (nearR rows lim) (clC rows lim k).2 := (clus_inv rows.length (nearR rows lim) (nearR_comm rows lim) (nearR_lt rows lim) id k hk).closed
theorem clC_lt {k : Nat} (hk : k ≤ rows.length) : ∀ x ∈ (clC rows lim k).2, x < rows.length := (clus_inv rows.length (nearR rows lim) (nearR_comm rows lim) (nearR_lt rows lim) id k hk).lt
abbrev sw (S : List Nat) (x k : Nat) (g : List Nat) : List Nat := sweep (nearR rows lim) S x k g
theorem sw_add {S g : List Nat} {x k : Nat} (h1 : k ∉ S) (h2 : k ∉ sw rows lim S x k g) (h3 : nearR rows lim x k = true) : sw rows lim S x (k + 1) g = sw rows lim S x k g ++ [k] := by
  show sweep _ _ _ _ _ = _
  rw [sweep, if_pos]
  simp [h1, h2, h3]
theorem sw_skip {S g : List Nat} {x k : Nat} (h : k ∈ S ∨ k ∈ sw rows lim S x k g ∨ nearR rows lim x k = false) : sw rows lim S x (k + 1) g = sw rows lim S x k g := by
  show sweep _ _ _ _ _ = _
  rw [sweep, if_neg]
  rcases h with h | h | h <;> simp [h]
theorem sw_at {S g : List Nat} {x k a y : Nat} (h : g[a]? = some y) : (sw rows lim S x k g)[a]? = some y := by
  obtain ⟨t, ht⟩ := sweep_pre (nearR rows lim) S x k g
  show (sweep _ _ _ _ _)[a]? = _
  rw [ht, List.getElem?_append_left (List.getElem?_eq_some_iff.1 h).1]
  exact h
theorem bfs_step {S g G : List Nat} {a x : Nat} (hgp : Gp rows lim S g a) (hx : g[a]? = some x) (hb : bfs rows.length (nearR rows lim) S (rows.length - a) a g = G) :
    Gp rows lim S (sw rows lim S x rows.length g) (a + 1) ∧ a + 1 ≤ (sw rows lim S x rows.length g).length ∧ bfs rows.length (nearR rows lim) S (rows.length - (a + 1)) (a + 1) (sw rows lim S x rows.length g) = G := by
  have hl := (List.getElem?_eq_some_iff.1 hx).1
  have hn := hgp.len
  obtain ⟨t, ht⟩ := sweep_pre (nearR rows lim) S x rows.length g
  refine ⟨hgp.step _ _ hx, by show _ ≤ (sweep _ _ _ _ _).length; rw [ht, List.length_append]; omega, ?_⟩
  rw [show rows.length - a = (rows.length - (a + 1)) + 1 from by omega, bfs, hx] at hb
  exact hb
theorem bfs_end {S g G : List Nat} {a : Nat} (ha : a = g.length) (hb : bfs rows.length (nearR rows lim) S (rows.length - a) a g = G) : g = G := by
  rw [← hb]
  cases h : rows.length - a with
  | zero => rfl
  | succ f =>
    rw [bfs]
    have : g[a]? = none := List.getElem?_eq_none_iff.2 (by omega)
    rw [this]
end
/-- What Clusters gives. -/
def clusOk (rows : List ArmsD) (lim : Int) : Bool := listOk 16 rows && decide (0 ≤ lim ∧ lim ≤ 10)
def clusG (rows : List ArmsD) (lim : Int) : List (List Int) := bif clusOk rows lim then clR rows lim rows.length else []
theorem clus_small (rows : List ArmsD) (lim : Int) : Small (clusG rows lim) := by
  unfold clusG clusOk
  cases ho : listOk 16 rows
  · exact ⟨by simp, fun r hr => by simp at hr⟩
  · cases hd : decide (0 ≤ lim ∧ lim ≤ 10)
    · exact ⟨by simp, fun r hr => by simp at hr⟩
    · have h16 := listOk_le ho
      refine ⟨?_, fun r hr => ?_⟩
      · have := clR_len rows lim rows.length (Nat.le_refl _)
        show (clR rows lim rows.length).length ≤ _
        omega
      · have := clR_rowlen rows lim rows.length (Nat.le_refl _) r hr
        omega
/-! ### Memory -/
/-- The slice 'us' lies apart from a slice of slices. -/
structure Ap (us v : Value) (vs : List Value) : Prop where
  out : us.ownBlock = none ∨ us.ownBlock ≠ v.ownBlock
  own : ∀ (i : Nat) (u : Value), vs[i]? = some u → u.ownBlock = none ∨ u.ownBlock ≠ us.ownBlock
theorem GG.other {w w' : World} {B : Nat} {v us : Value} {rows : List (List Int)} {vs : List Value} (h : GG w B v rows vs) (ha : Ap us v vs) (hg : w.grownBy w' us.ownBlock) : GG w' B v rows vs := by
  refine ⟨World.ownsRow.kept h.out hg ?_, fun i u row h1 h2 => (h.own i u row h1 h2).other hg (ha.own i u h1), h.apart, h.sep⟩
  rcases ha.out with e | e
  · rw [e]
    cases v.ownBlock
    · exact .inl rfl
    · exact .inr (by simp)
  · exact .inr fun e2 => e e2.symm
theorem ob_lt_ne {x y : Value} {D : Nat} (hx : ∀ b, x.ownBlock = some b → b < D) (hy : ∀ b, y.ownBlock = some b → D ≤ b) : x.ownBlock = none ∨ x.ownBlock ≠ y.ownBlock := by
  cases e : x.ownBlock with
  | none => exact .inl rfl
  | some b =>
    refine .inr fun e2 => ?_
    have := hx b e
    have := hy b e2.symm
    omega
theorem ob_gt_ne {x y : Value} {D : Nat} (hx : ∀ b, x.ownBlock = some b → D ≤ b) (hy : ∀ b, y.ownBlock = some b → b < D) : x.ownBlock = none ∨ x.ownBlock ≠ y.ownBlock := by
  cases e : x.ownBlock with
  | none => exact .inl rfl
  | some b =>
    refine .inr fun e2 => ?_
    have := hx b e
    have := hy b e2.symm
    omega
section
variable {w : World} {ops : Array Oper} {rest : List Oper} {o : Oper} {a : Act} {Q : Exit → Act → World → Prop}
/-- append of a slice of numbers; it tells where the new slice lies. -/
theorem wp_appIsAt (hgd : o.guard = none) (s x : Operand) (ho : o.op = .call { callee := .builtin .append, args := #[s, x], argTypes := #[50, 50] })
    (B : Nat) (v : Value) (zs : List Int) (hs : a.eval s = v) (hown : OwnI w B 3 v zs) (ad : Addr) (m c : Nat) (ys : List Int) (hx : a.eval x = .slice (some ad) m c) (h2 : RdI w (some ad) ys) (hm : m = ys.length)
    (hl : zs.length ≤ 1099511627776) (hl2 : ys.length ≤ 1099511627776) (hB : B ≤ w.heap.size)
    (h : ∀ v' w', OwnI w' B 3 v' (zs ++ ys) → w.grownBy w' v.ownBlock → Below B w w' → (v'.ownBlock = v.ownBlock ∨ v'.ownBlock = some w.heap.size) → wpList Try.prog ops Q rest (a.put o.dst v') w') : wpList Try.prog ops Q (o :: rest) a w := by
  subst hm
  obtain ⟨i0, hi, hz0, hz1, hz2⟩ := info_parts info_int
  have hnews : ∀ (j : Nat) (u : Value), (iv ys)[j]? = some u → w.cell? (ad.add j) = some u := by
    intro j u hj
    have hjl := (List.getElem?_eq_some_iff.1 hj).1
    rcases h2 with h2 | ⟨b, off, e, hc⟩
    · rw [h2] at hjl
      exact absurd hjl (by simp)
    · obtain rfl := Option.some.inj e
      have h3 := hc j hjl
      rw [← (List.getElem?_eq_some_iff.1 hj).2]
      have : (Addr.add ⟨b, off, none⟩ j : Addr) = ⟨b, off + j, none⟩ := by
        unfold Addr.add
        split
        · next h => subst h; rfl
        · rfl
      rw [this]
      exact h3
  refine wpList_append_own_at w hgd s x 50 ho B 3 i0 (.int .i64 0) 1 8 Try.underlying50 hi hz0 hz1 hz2 rfl (by decide) v zs.length (iv zs) hs hown ad ys.length c (iv ys) hx (by rw [iv_len, Nat.mul_one]) hnews (fun u hu => by
    simp only [iv, List.mem_map] at hu
    obtain ⟨z, -, rfl⟩ := hu
    rfl) (by unfold maxLen; omega) (by omega) hB fun v' w' h1 h2 _ h4 => h v' w' ?_ h2 (grown_below hown hB h2) h4
  unfold OwnI
  rw [iv_append, List.length_append]
  exact h1
/-- append of one row; it tells where the new outer row lies. -/
theorem wp_appGAt (hgd : o.guard = none) (s x : Operand) (ho : o.op = .call { callee := .builtin .append, args := #[s, x], argTypes := #[39, 39] })
    (B : Nat) (v : Value) (rows : List (List Int)) (vs : List Value) (hs : a.eval s = v) (h : GG w B v rows vs) (b : Nat) (u : Value) (row : List Int) (hx : a.eval x = .slice (some ⟨b, 0, none⟩) 1 1) (hc : w.cell? ⟨b, 0, none⟩ = some u)
    (hu : OwnI w B 3 u row) (ha : ∀ (i : Nat) (u' : Value), vs[i]? = some u' → u'.ownBlock = none ∨ u'.ownBlock ≠ u.ownBlock) (huv : u.ownBlock = none ∨ u.ownBlock ≠ v.ownBlock)
    (hl : rows.length ≤ 1048576) (hB : B ≤ w.heap.size)
    (hK : ∀ v' w', GG w' B v' (rows ++ [row]) (vs ++ [u]) → w.grownBy w' v.ownBlock → Below B w w' → (v'.ownBlock = v.ownBlock ∨ v'.ownBlock = some w.heap.size) → wpList Try.prog ops Q rest (a.put o.dst v') w') : wpList Try.prog ops Q (o :: rest) a w := by
  obtain ⟨i0, hi, hz0, hz1, hz2⟩ := info_parts (show (Try.prog.info? 50).map (fun i => (i.zero, i.size, i.bytes)) = some (some (.slice none 0 0), 1, 24) by kernel_rfl)
  have h1 : u.oneCell' = true := by
    obtain ⟨A, c, rfl, -⟩ := hu.form
    rfl
  refine wpList_append_own_at w hgd s x 39 ho B 50 i0 (.slice none 0 0) 1 24 Try.underlying39 hi hz0 hz1 hz2 rfl (by decide) v rows.length vs hs h.out ⟨b, 0, none⟩ 1 1 [u] hx rfl ?_ (fun y hy => by simp at hy; subst hy; exact h1) (by unfold maxLen; omega) (by omega) hB fun v' w' h2 h3 _ h4 => hK v' w' (h.snoc hu ha huv h2 h3 h4) h3 (grown_below h.out hB h3) h4
  intro j y hj
  match j, hj with
  | 0, hj => simp at hj; subst hj; simpa [Addr.add] using hc
  | j + 1, hj => simp at hj
end
end Go.Proofs.Ytjodoljgpdbimaa
