/- Contracts: the features of arms, of the program. -/
import Derived.Test.YtlonnkmfjijddaaGreatDoorFeat3
import Derived.Test.YtlonnkmfjijddaaGreatDoorCompP
namespace Go.Proofs.YtlonnkmfjijddaaGreatDoor
open Go.ChangeShapes Go.WideShapes Go.ChangeAt Go.RowKit
set_option linter.unusedVariables false
set_option linter.unusedSimpArgs false
def lf (z : Int) : List ByteArray := if z = 0 then [] else [fi 108 z]
def kf (c k a t : Int) : List ByteArray := bif ne4 c k a t 0 0 0 0 then [fi 107 k] else []
def raw1 (a : ArmsD) : List ByteArray := [fi 100 a.d, fi 111 a.o, fi 110 (a.c1 + a.c2)] ++ (tinsL a).map (fi 116) ++ lf a.l ++ lf a.li ++ kf a.c1 a.k1 a.a1 a.t1 ++ kf a.c2 a.k2 a.a2 a.t2
theorem raw_same {a : ArmsD} (h : armsOk a = true) : ∀ x, x ∈ raw1 a ↔ x ∈ raw2 a := by
  obtain ⟨f1, f2, f3, f4, f5, f6, f7⟩ := arms_facts h
  have e1 : lf a.l = bif decide (0 < a.l) then [fi 108 a.l] else [] := by
    unfold lf
    by_cases h : a.l = 0
    · simp [h]
    · rw [if_neg h, decide_eq_true (by omega)]; rfl
  have e2 : lf a.li = bif decide (0 < a.li) then [fi 108 a.li] else [] := by
    unfold lf
    by_cases h : a.li = 0
    · simp [h]
    · rw [if_neg h, decide_eq_true (by omega)]; rfl
  have e3 : ∀ c k a t, ne4 c k a t 0 0 0 0 = !groupNone c k a t := fun c k a t => by simp [ne4, groupNone]
  intro x
  unfold raw1 raw2 rawT kf
  rw [e1, e2, e3, e3]
  generalize (tinsL a).map (fi 116) = T
  generalize (bif decide (0 < a.l) then [fi 108 a.l] else []) = L1
  generalize (bif decide (0 < a.li) then [fi 108 a.li] else []) = L2
  generalize (bif !groupNone a.c1 a.k1 a.a1 a.t1 then [fi 107 a.k1] else []) = L3
  generalize (bif !groupNone a.c2 a.k2 a.a2 a.t2 then [fi 107 a.k2] else []) = L4
  simp only [List.mem_append, List.mem_cons, List.not_mem_nil, or_false]
  constructor
  · rintro ((((((h | h | h) | h) | h) | h) | h) | h) <;> simp [h]
  · rintro (((((((h | h) | h) | h) | h) | h) | h) | h) <;> simp [h]
theorem raw1_len (a : ArmsD) : (raw1 a).length ≤ 20 := by
  have h1 := tinsL_len a
  have h2 : ∀ z, (lf z).length ≤ 1 := fun z => by unfold lf; split <;> simp
  have h3 := h2 a.l
  have h4 := h2 a.li
  have h5 := bif_len (ne4 a.c1 a.k1 a.a1 a.t1 0 0 0 0) (fi 107 a.k1)
  have h6 := bif_len (ne4 a.c2 a.k2 a.a2 a.t2 0 0 0 0) (fi 107 a.k2)
  unfold raw1 kf
  simp only [List.length_append, List.length_map, List.length_cons, List.length_nil]
  omega
/-- A row that grows beside all that stood at one world. -/
structure GrowS (W0 W2 : World) (g0 : Option Nat) (u : Value) (zs : List ByteArray) (w : World) : Prop where
  own : OwnS w W0.heap.size 9 u zs
  gr : W2.grownBy w g0
  at_ : u.ownBlock = g0 ∨ ∀ b, u.ownBlock = some b → W2.heap.size ≤ b
  bel : Below W0.heap.size W0 w
theorem GrowS.start {W0 w : World} {u : Value} {zs : List ByteArray} (h : OwnS w W0.heap.size 9 u zs) (hb : Below W0.heap.size W0 w) : GrowS W0 w u.ownBlock u zs w := ⟨h, World.grownBy.refl _ _, .inl rfl, hb⟩
theorem GrowS.alloc {W0 W2 w : World} {g0 : Option Nat} {u : Value} {zs : List ByteArray} (h : GrowS W0 W2 g0 u zs w) (o : Obj) : GrowS W0 W2 g0 u zs (w.alloc o) := ⟨h.own.alloc o, grownBy_below h.gr (Below_al (Below.refl _ _) o), h.at_, Below_al h.bel o⟩
theorem GrowS.app {W0 W2 w w' : World} {g0 : Option Nat} {u u' : Value} {zs zs' : List ByteArray} (h : GrowS W0 W2 g0 u zs w) (o : Obj) (ho : OwnS w' W0.heap.size 9 u' zs') (hg : (w.alloc o).grownBy w' u.ownBlock) (hb : Below W0.heap.size (w.alloc o) w') (hat : u'.ownBlock = u.ownBlock ∨ u'.ownBlock = some (w.alloc o).heap.size) : GrowS W0 W2 g0 u' zs' w' := by
  have h1 := grownBy_below h.gr (Below_al (Below.refl _ _) o)
  have hs := h1.size
  refine ⟨ho, ⟨hg.os.trans h1.os, hg.tape.trans h1.tape, hg.output.trans h1.output, Nat.le_trans hs hg.size, fun k hk hne => ?_⟩, ?_, (Below_al h.bel o).trans hb⟩
  · rw [hg.block k (by omega) (fun e => ?_), h1.block k hk hne]
    rcases h.at_ with e2 | e2
    · exact hne (by rw [e, e2])
    · have := e2 k e.symm; omega
  · rcases hat with e | e
    · rcases h.at_ with e2 | e2
      · exact .inl (e.trans e2)
      · exact .inr fun b hb => e2 b (by rw [← e]; exact hb)
    · exact .inr fun b hb => by rw [e] at hb; injection hb with hb; omega
theorem GrowS.heap {W0 W2 w : World} {g0 : Option Nat} {u : Value} {zs : List ByteArray} (h : GrowS W0 W2 g0 u zs w) {b : Nat} {o : Obj} (hb : W2.heap[b]? = some o) (hne : g0 ≠ some b) : w.heap[b]? = some o := heap_keepG hb h.gr hne
section
variable {ops : Array Oper} {rest : List Oper} {o : Oper} {a : Act} {w : World} {Q : Exit → Act → World → Prop}
theorem wp_appTat (hgd : o.guard = none) (s x : Operand) (ho : o.op = .call { callee := .builtin .append, args := #[s, x], argTypes := #[40, 40] })
    (B : Nat) (v : Value) (zs : List ByteArray) (hs : a.eval s = v) (hown : OwnS w B 9 v zs) (b : Nat) (z : ByteArray) (hx : a.eval x = .slice (some ⟨b, 0, none⟩) 1 1) (hc : w.cell? ⟨b, 0, none⟩ = some (.string z))
    (hl : zs.length ≤ 1099511627776) (hB : B ≤ w.heap.size)
    (h : ∀ v' w', OwnS w' B 9 v' (zs ++ [z]) → w.grownBy w' v.ownBlock → Below B w w' → (v'.ownBlock = v.ownBlock ∨ v'.ownBlock = some w.heap.size) → wpList Tryz.prog ops Q rest (a.put o.dst v') w') : wpList Tryz.prog ops Q (o :: rest) a w := by
  obtain ⟨i0, hi, hz0, hz1, hz2⟩ := info_parts info_str
  refine wpList_append_own_at w hgd s x 40 ho B 9 i0 (.string ⟨#[]⟩) 1 16 Tryz.underlying40 hi hz0 hz1 hz2 rfl (by decide) v zs.length (sv zs) hs hown ⟨b, 0, none⟩ 1 1 [.string z] hx rfl ?_ (fun u hu => by simp at hu; subst hu; rfl) (by unfold maxLen; omega) (by omega) hB fun v' w' h1 h2 _ h3 => h v' w' ?_ h2 (grown_below hown hB h2) h3
  · intro j u hj
    match j, hj with
    | 0, hj => simp at hj; subst hj; simpa [Addr.add] using hc
    | j + 1, hj => simp at hj
  · unfold OwnS
    rw [sv_append, List.length_append]
    exact h1
end
theorem itoaI (z : Int) (h0 : 0 ≤ z) (h1 : z < 100) (w : World) : Calls Tryz.prog 43 #[.int .i64 z] w fun e w' => e = .returned (.string ⟨(Lib.decDigits z.toNat).toArray⟩) ∧ w' = w := by
  obtain ⟨n, rfl⟩ : ∃ n : Nat, z = n := ⟨z.toNat, by omega⟩
  exact itoaC n (by omega) w
theorem itoaT (z : Int) (h0 : 0 ≤ z) (h1 : z < 100) (w : World) : Calls Tryz.prog 43 #[.int .i64 z] w fun e w' => ∃ s : ByteArray, e = .returned (.string s) ∧ w' = w ∧ s.size ≤ 2 ∧ ∀ c, (⟨#[c]⟩ : ByteArray) ++ s = fi c z := by
  refine (itoaI z h0 h1 w).mono ?_
  rintro e w' ⟨rfl, rfl⟩
  refine ⟨_, rfl, rfl, ?_, fun c => ftB_app c _⟩
  have := decD_len (n := z.toNat) (by omega)
  simpa [ByteArray.size] using this
/-- What stands while features are collected. -/
structure TinS (W0 : World) (G : Nat) (ob : Obj) (u : Value) (zs : List ByteArray) (w : World) : Prop where
  own : OwnS w W0.heap.size 9 u zs
  arr : w.heap[G]? = some ob
  ne : u.ownBlock ≠ some G
  bel : Below W0.heap.size W0 w
theorem TinS.alloc {W0 w : World} {G : Nat} {ob : Obj} {zs : List ByteArray} {u : Value} (h : TinS W0 G ob u zs w) (o : Obj) : TinS W0 G ob u zs (w.alloc o) := ⟨h.own.alloc o, heap_keepA h.arr o, h.ne, Below_al h.bel o⟩
theorem TinS.below {W0 w w' : World} {G : Nat} {ob : Obj} {zs : List ByteArray} {u : Value} (h : TinS W0 G ob u zs w) (hb : Below w.heap.size w w') : TinS W0 G ob u zs w' := ⟨h.own.below hb, heap_keepB h.arr hb, h.ne, Below_then h.bel hb⟩
theorem TinS.app {W0 w w' : World} {G : Nat} {ob : Obj} {zs zs' : List ByteArray} {u u' : Value} (h : TinS W0 G ob u zs w) (o : Obj) (ho : OwnS w' W0.heap.size 9 u' zs') (hg : (w.alloc o).grownBy w' u.ownBlock) (hb : Below W0.heap.size (w.alloc o) w') (hat : u'.ownBlock = u.ownBlock ∨ u'.ownBlock = some (w.alloc o).heap.size) : TinS W0 G ob u' zs' w' :=
  ⟨ho, heap_keepG (heap_keepA h.arr o) hg h.ne, by
    rcases hat with e | e
    · rw [e]; exact h.ne
    · rw [e]; intro e2; injection e2 with e2; have := heap_lt h.arr; simp at e2; omega, (Below_al h.bel o).trans hb⟩
theorem lf_len (z : Int) : (lf z).length ≤ 1 := by unfold lf; split <;> simp
def kg (x : Int × Int × Int × Int) : List ByteArray := kf x.1 x.2.1 x.2.2.1 x.2.2.2
theorem kg_len (x : Int × Int × Int × Int) : (kg x).length ≤ 1 := bif_len _ _
def gl (x : Int × Int × Int × Int) : List Value := [.int .i64 x.1, .int .i64 x.2.1, .int .i64 x.2.2.1, .int .i64 x.2.2.2]
theorem flat_len1 {α : Type} (f : α → List ByteArray) (hf : ∀ x, (f x).length ≤ 1) (l : List α) : (l.flatMap f).length ≤ l.length := by
  induction l with
  | nil => simp
  | cons y l ih => have := hf y; simp only [List.flatMap_cons, List.length_append, List.length_cons]; omega
theorem gl_range {w : World} {b k : Nat} {gs : List (Int × Int × Int × Int)} {x : Int × Int × Int × Int} (h : w.heap[b]? = some (.cells (gs.map gl).flatten.toArray 45 (0, 0))) (hk : gs[k]? = some x) : w.rangeAt b (k * 4) (gl x) := fun j v hv => by
  rw [cell_of h]
  have hw : ∀ row ∈ gs.map gl, row.length = 4 := by
    intro row hr
    obtain ⟨y, -, rfl⟩ := List.mem_map.1 hr
    rfl
  have := flat_at hw (show (gs.map gl)[k]? = some (gl x) by rw [List.getElem?_map, hk]; rfl) j v hv
  rw [List.getElem?_toArray]
  exact this
theorem charges_any (a : ArmsD) (w : World) : Calls Tryz.prog 64 #[.agg (ac a).toArray] w fun e w' => e = .returned (.int .i64 (IntKind.i64.wrap (a.c1 + a.c2))) ∧ Below w.heap.size w w' := by
  have hB := box15 a w _ (Below.refl _ _)
  have c1 := hB.cell 7 _ rfl
  have c2 := hB.cell 11 _ rfl
  clear hB
  go_enter Tryz.func64, Tryz.ntmps64
  go_wp2
  go_ret
  exact ⟨by rw [show IntKind.i64.wrap (a.c1 + a.c2) = wrap64 (a.c1 + a.c2) from by rw [IntKind.wrap_i64]; unfold wrap64; first | rfl | omega]; rfl, by (repeat (first | exact Below.refl _ _ | assumption | refine Below_al ?_ _ | refine Below.drew ?_ | refine Below_then ?_ (by assumption) | refine Below.setCell ?_ (by first | omega | (simp; done) | (simp; omega)) _))⟩
set_option maxHeartbeats 8000000 in
set_option maxRecDepth 20000 in
theorem features_any (a : ArmsD) (ga : armsOk a = true) (w : World) : Calls Tryz.prog 45 #[.agg (ac a).toArray] w (StrsIn w (featL a)) := by
  have HF := Lib.hid (arms_facts ga)
  have HB := Lib.hid (box15 a w)
  have KT := Lib.hid (fun w => implTins_any a w)
  have hwc : IntKind.i64.wrap (a.c1 + a.c2) = a.c1 + a.c2 := by have f := HF.out; rw [IntKind.wrap_i64]; omega
  have KC := Lib.hid (fun w => charges_any a w)
  rw [hwc] at KC
  have HTB := Lib.hid (tinsL_bd ga)
  have HTL := Lib.hid (tinsL_len a)
  have HR1 := Lib.hid (raw1_len a)
  have htp : 0 < (tinsL a).length := by unfold tinsL tinF; split <;> simp
  have HTP := Lib.hid htp
  have hfin : compB (sortB (raw1 a)) = featL a := comp_sort (raw_same ga)
  have HFIN := Lib.hid hfin
  obtain ⟨ts, hts⟩ : ∃ ts, ts = tinsL a := ⟨_, rfl⟩
  rw [← hts] at KT HTB HTL HTP
  have hr1 : raw1 a = [fi 100 a.d, fi 111 a.o, fi 110 (a.c1 + a.c2)] ++ ts.map (fi 116) ++ lf a.l ++ lf a.li ++ kf a.c1 a.k1 a.a1 a.t1 ++ kf a.c2 a.k2 a.a2 a.t2 := by rw [hts]; rfl
  have HR := Lib.hid hr1
  have hW0b : Below w.heap.size w (w.alloc (.cells (ac a).toArray 47)) := Below_al (Below.refl _ _) _
  have hs0 : w.heap.size + 1 ≤ (w.alloc (.cells (ac a).toArray 47)).heap.size := by simp
  clear ga hts hfin hwc hr1 htp
  go_enter Tryz.func45, Tryz.ntmps45
  go_upto_region 1 with (fail)
  generalize w.alloc (.cells (ac a).toArray 47) = W0 at HB hW0b hs0 ⊢
  refine wp_region_noPanic ?_
  refine wp_region_held_drew (S := (fun w' => w'.cell? ⟨w.heap.size, 0, none⟩ = some (.int .i64 a.d) ∧ w'.cell? ⟨w.heap.size, 4, none⟩ = some (.int .i64 a.o) ∧ w'.rangeAt w.heap.size 0 (ac a) ∧ Below W0.heap.size W0 w')) (by kernel_rfl) ⟨(HB.out _ (Below.refl _ _)).cell 0 _ rfl, (HB.out _ (Below.refl _ _)).cell 4 _ rfl, (HB.out _ (Below.refl _ _)).all, (Below.refl _ _).drew⟩ (fun hHeld => ?_)
  refine wpAnyH_take (i := 0) (oi := _) (v := ?_) rfl (by kernel_rfl) (by kernel_rfl) (by kernel_rfl) (fun _ _ _ h => h) (Or.inl ⟨by rfl, ?_⟩) (by assumption) ?_
  rotate_left
  · intro w hSw; clear hSw; first | (go_simp; done) | (go_simp; with_reducible rfl)
  simp only [Act.put, List.getElem_toArray, List.getElem_cons_succ, List.getElem_cons_zero, List.setIfInBounds_toArray, List.set_cons_zero, List.set_cons_succ]
  refine wpAnyH_take (i := 1) (oi := _) (v := ?_) rfl (by kernel_rfl) (by kernel_rfl) (by kernel_rfl) (fun _ _ _ h => h) (Or.inl ⟨by rfl, ?_⟩) (by assumption) ?_
  rotate_left
  · intro w hSw; clear hSw; first | (go_simp; done) | (go_simp; with_reducible rfl)
  simp only [Act.put, List.getElem_toArray, List.getElem_cons_succ, List.getElem_cons_zero, List.setIfInBounds_toArray, List.set_cons_zero, List.set_cons_succ]
  refine wpAnyH_take (i := 2) (oi := _) (v := ?_) rfl (by kernel_rfl) (by kernel_rfl) (by kernel_rfl) (fun _ _ _ h => h) (Or.inl ⟨by rfl, ?_⟩) (by assumption) ?_
  rotate_left
  · intro w hSw; (try dsimp only at hSw); first | (go_simp; done) | (go_simp; with_reducible rfl)
  simp only [Act.put, List.getElem_toArray, List.getElem_cons_succ, List.getElem_cons_zero, List.setIfInBounds_toArray, List.set_cons_zero, List.set_cons_succ]
  refine wpAnyH_take (i := 5) (oi := _) (v := ?_) rfl (by kernel_rfl) (by kernel_rfl) (by kernel_rfl) (fun _ _ _ h => h) (Or.inl ⟨by rfl, ?_⟩) (by assumption) ?_
  rotate_left
  · intro w hSw; clear hSw; first | (go_simp; done) | (go_simp; with_reducible rfl)
  simp only [Act.put, List.getElem_toArray, List.getElem_cons_succ, List.getElem_cons_zero, List.setIfInBounds_toArray, List.set_cons_zero, List.set_cons_succ]
  refine wpAnyH_take (i := 6) (oi := _) (v := ?_) rfl (by kernel_rfl) (by kernel_rfl) (by kernel_rfl) (fun _ _ _ h => h) (Or.inl ⟨by rfl, ?_⟩) (by assumption) ?_
  rotate_left
  · intro w hSw; (try dsimp only at hSw); first | (go_simp; done) | (go_simp; with_reducible rfl)
  simp only [Act.put, List.getElem_toArray, List.getElem_cons_succ, List.getElem_cons_zero, List.setIfInBounds_toArray, List.set_cons_zero, List.set_cons_succ]
  refine wpAnyH_take (i := 9) (oi := _) (v := _) rfl ?g1_1 ?g2_1 ?g3_1 (fun _ _ _ h => h) (yieldsIf_load_mid ?g4_1 _ _ rfl w.heap.size ?oo_1 ?g5_1 (ac a) _ ?g6_1 Tryz.underlying47 rfl (info_ac a)) ?g7_1 ?_
  case g5_1 => rfl
  case g1_1 => kernel_rfl
  case g2_1 => kernel_rfl
  case g3_1 => kernel_rfl
  case g6_1 => exact (fun _ h => h.2.2.1)
  case g4_1 => kernel_rfl
  case g7_1 => assumption
  simp only [Act.put, List.getElem_toArray, List.getElem_cons_succ, List.getElem_cons_zero, List.setIfInBounds_toArray, List.set_cons_zero, List.set_cons_succ]
  refine wpAnyH_ready (rs := [3]) (by kernel_rfl) (by simp) ?_
  refine AllReadyH.cons (o := _) rfl (fun K hK => ?_) AllReadyH.nil
  go_simp
  refine (itoaI a.d (by (have f := HF.out; omega)) (by (have f := HF.out; omega)) _).mono ?_
  rintro e wx ⟨rfl, rfl⟩
  go_wp2_with fail
  refine hK.out _ _ hHeld (fun hHeld => ?_)
  clear hK K
  try simp only [Act.put, List.getElem_toArray, List.getElem_cons_succ, List.getElem_cons_zero, List.setIfInBounds_toArray, List.set_cons_zero, List.set_cons_succ]
  refine wpAnyH_take (i := 4) (oi := _) (v := ?_) rfl (by kernel_rfl) (by kernel_rfl) (by kernel_rfl) (fun _ _ _ h => h) (Or.inl ⟨by rfl, ?_⟩) (by assumption) ?_
  rotate_left
  · intro w hSw; clear hSw; go_simp; rw [if_neg (by have := decD_len (n := (a.d).toNat) (by (have f := HF.out; omega)); omega), ftB_app]
  simp only [Act.put, List.getElem_toArray, List.getElem_cons_succ, List.getElem_cons_zero, List.setIfInBounds_toArray, List.set_cons_zero, List.set_cons_succ]
  refine wpAnyH_ready (rs := [7]) (by kernel_rfl) (by simp) ?_
  refine AllReadyH.cons (o := _) rfl (fun K hK => ?_) AllReadyH.nil
  go_simp
  refine (itoaI a.o (by (have f := HF.out; omega)) (by (have f := HF.out; omega)) _).mono ?_
  rintro e wx ⟨rfl, rfl⟩
  go_wp2_with fail
  refine hK.out _ _ hHeld (fun hHeld => ?_)
  clear hK K
  try simp only [Act.put, List.getElem_toArray, List.getElem_cons_succ, List.getElem_cons_zero, List.setIfInBounds_toArray, List.set_cons_zero, List.set_cons_succ]
  refine wpAnyH_take (i := 8) (oi := _) (v := ?_) rfl (by kernel_rfl) (by kernel_rfl) (by kernel_rfl) (fun _ _ _ h => h) (Or.inl ⟨by rfl, ?_⟩) (by assumption) ?_
  rotate_left
  · intro w hSw; clear hSw; go_simp; rw [if_neg (by have := decD_len (n := (a.o).toNat) (by (have f := HF.out; omega)); omega), ftB_app]
  simp only [Act.put, List.getElem_toArray, List.getElem_cons_succ, List.getElem_cons_zero, List.setIfInBounds_toArray, List.set_cons_zero, List.set_cons_succ]
  refine wpAnyH_ready (rs := [10]) (by kernel_rfl) (by simp) ?_
  refine AllReadyH.cons (o := _) rfl (fun K hK => ?_) AllReadyH.nil
  go_simp
  refine (KC.out _).mono ?_
  rintro e x10 ⟨rfl, hx10⟩
  go_wp2_with fail
  refine hK.out _ _ ⟨keep_cell hHeld.1 hx10, keep_cell hHeld.2.1 hx10, rangeAt_below hHeld.2.2.1 hx10, Below_then hHeld.2.2.2 hx10⟩ (fun hHeld => ?_)
  clear hK K
  try simp only [Act.put, List.getElem_toArray, List.getElem_cons_succ, List.getElem_cons_zero, List.setIfInBounds_toArray, List.set_cons_zero, List.set_cons_succ]
  refine wpAnyH_ready (rs := [11]) (by kernel_rfl) (by simp) ?_
  refine AllReadyH.cons (o := _) rfl (fun K hK => ?_) AllReadyH.nil
  go_simp
  refine (itoaI (a.c1 + a.c2) (by (have f := HF.out; omega)) (by (have f := HF.out; omega)) _).mono ?_
  rintro e wx ⟨rfl, rfl⟩
  go_wp2_with fail
  refine hK.out _ _ hHeld (fun hHeld => ?_)
  clear hK K
  try simp only [Act.put, List.getElem_toArray, List.getElem_cons_succ, List.getElem_cons_zero, List.setIfInBounds_toArray, List.set_cons_zero, List.set_cons_succ]
  refine wpAnyH_take (i := 12) (oi := _) (v := ?_) rfl (by kernel_rfl) (by kernel_rfl) (by kernel_rfl) (fun _ _ _ h => h) (Or.inl ⟨by rfl, ?_⟩) (by assumption) ?_
  rotate_left
  · intro w hSw; clear hSw; go_simp; rw [if_neg (by have := decD_len (n := ((a.c1 + a.c2)).toNat) (by (have f := HF.out; omega)); omega), ftB_app]
  simp only [Act.put, List.getElem_toArray, List.getElem_cons_succ, List.getElem_cons_zero, List.setIfInBounds_toArray, List.set_cons_zero, List.set_cons_succ]
  refine wpAnyH_ready (rs := [13]) (by kernel_rfl) (by simp) ?_
  refine AllReadyH.cons (o := _) rfl (fun K hK => ?_) AllReadyH.nil
  go_simp
  refine hK.out _ _ ⟨keep_cell hHeld.1 (Below_al (Below.refl _ _) (.cells #[.string (ftB 100 a.d.toNat), .string (ftB 111 a.o.toNat), .string (ftB 110 (a.c1 + a.c2).toNat)] 9 (0, 0))), keep_cell hHeld.2.1 (Below_al (Below.refl _ _) (.cells #[.string (ftB 100 a.d.toNat), .string (ftB 111 a.o.toNat), .string (ftB 110 (a.c1 + a.c2).toNat)] 9 (0, 0))), rangeAt_below hHeld.2.2.1 (Below_al (Below.refl _ _) (.cells #[.string (ftB 100 a.d.toNat), .string (ftB 111 a.o.toNat), .string (ftB 110 (a.c1 + a.c2).toNat)] 9 (0, 0))), Below_then hHeld.2.2.2 (Below_al (Below.refl _ _) (.cells #[.string (ftB 100 a.d.toNat), .string (ftB 111 a.o.toNat), .string (ftB 110 (a.c1 + a.c2).toNat)] 9 (0, 0)))⟩ (fun hHeld => ?_)
  clear hK K
  try simp only [Act.put, List.getElem_toArray, List.getElem_cons_succ, List.getElem_cons_zero, List.setIfInBounds_toArray, List.set_cons_zero, List.set_cons_succ]
  refine wpAnyH_take (i := 14) (oi := _) (v := ?_) rfl (by kernel_rfl) (by kernel_rfl) (by kernel_rfl) (fun _ _ _ h => h) (Or.inl ⟨by rfl, ?_⟩) (by assumption) ?_
  rotate_left
  · intro w hSw; clear hSw; first | (go_simp; done) | (go_simp; with_reducible rfl)
  simp only [Act.put, List.getElem_toArray, List.getElem_cons_succ, List.getElem_cons_zero, List.setIfInBounds_toArray, List.set_cons_zero, List.set_cons_succ]
  have hT := hHeld.2.2.2
  refine wpAnyH_done (by kernel_rfl) ?_ _
  refine NoPanic.normal ?_
  have hO1 : OwnS (wx.alloc (.cells #[.string (ftB 100 a.d.toNat), .string (ftB 111 a.o.toNat), .string (ftB 110 (a.c1 + a.c2).toNat)] 9 (0, 0))) W0.heap.size 9 (.slice (some ⟨wx.heap.size, 0, none⟩) 3 3) [fi 100 a.d, fi 111 a.o, fi 110 (a.c1 + a.c2)] := OwnS.blk (zs := [fi 100 a.d, fi 111 a.o, fi 110 (a.c1 + a.c2)]) (heap_hit _ _ _ rfl) (by have := hT.size; have h3 := hx10.size; rw [World.size_drew] at h3; exact h3) (by simp [maxLen])
  clear hHeld
  obtain ⟨u, hu⟩ : ∃ u, u = Value.slice (some ⟨wx.heap.size, 0, none⟩) 3 3 := ⟨_, rfl⟩
  rw [← hu] at hO1
  rw [← hu]
  generalize wx.alloc (.cells #[.string (ftB 100 a.d.toNat), .string (ftB 111 a.o.toNat), .string (ftB 110 (a.c1 + a.c2).toNat)] 9 (0, 0)) = W1 at hT hO1 ⊢
  clear hu
  go_wp2_with (first | (refine ldA15 rfl _ rfl w.heap.size _ rfl a (HB.out _ hT).all ?_) | fail)
  refine (KT.out _).mono ?_
  rintro e W2 ⟨vt, rfl, hOt, hb2⟩
  have hT2 := Below_then hT hb2
  have hO2 := hO1.below hb2
  have htl := HTL.out
  have hs1 := hT.size
  obtain ⟨g, c, rfl, hgB, hgl⟩ := hOt.pos HTP.out
  obtain ⟨ob, hob⟩ : ∃ ob, W2.heap[g]? = some ob := ⟨_, Array.getElem?_eq_getElem hgl⟩
  have hCT : ∀ k, (hk : k < ts.length) → ∀ wq : World, wq.heap[g]? = some ob → wq.cell? ⟨g, k, none⟩ = some (.int .i64 ts[k]) := fun k hk wq hq => by
    rw [World.cell?_of_block (a := ⟨g, k, none⟩) (hq.trans hob.symm)]
    exact hOt.cellAt k hk
  have hne : u.ownBlock ≠ some g := fun e => by have := (hO1.lt _ e).2; omega
  have hI0 : TinS W0 g ob u ([fi 100 a.d, fi 111 a.o, fi 110 (a.c1 + a.c2)] ++ (ts.take 0).map (fi 116)) W2 := ⟨by simpa using hO2, hob, hne, hT2⟩
  obtain ⟨b0, hb0⟩ : ∃ b0, b0 = [fi 100 a.d, fi 111 a.o, fi 110 (a.c1 + a.c2)] := ⟨_, rfl⟩
  have hb0l : b0.length = 3 := by rw [hb0]; rfl
  have HB0L := Lib.hid hb0l
  have HB0 := Lib.hid hb0
  rw [← hb0] at hI0
  clear hb0 hb0l hne hob hgl hgB hOt hO2 hT2 hb2 hO1 hT hs1
  go_wp2_with fail
  go_loopw [3, 27] (fun o i wr => ∃ (k : Nat) (u : Value), k ≤ ts.length ∧ i = .int .i64 k ∧ o = u ∧ TinS W0 g ob u (b0 ++ (ts.take k).map (fi 116)) wr) (fun _ i _ => ts.length - (intOf i).toNat)
  case atStart => exact ⟨0, _, Nat.zero_le _, rfl, rfl, hI0⟩
  case round =>
    clear hI0
    obtain ⟨k, u, hk, rfl, hou, hI⟩ := hrel
    replace hou := hou.symm
    subst hou
    by_cases hlt : k < ts.length
    · have hct := hCT k hlt wr hI.arr
      obtain ⟨x, hx⟩ : ∃ x, x = ts[k] := ⟨_, rfl⟩
      rw [← hx] at hct
      have hxm := HTB.out x (by rw [hx]; exact List.getElem_mem _)
      have i1 : (k : Int) < (ts.length : Int) := by omega
      have d1 : decide (k < ts.length) = true := by simpa using hlt
      have hst : b0 ++ (ts.take (k + 1)).map (fi 116) = b0 ++ (ts.take k).map (fi 116) ++ [fi 116 x] := by rw [List.take_succ_eq_append_getElem hlt, List.map_append, hx, List.append_assoc]; rfl
      have hln : (b0 ++ (ts.take k).map (fi 116)).length ≤ 1099511627776 := by rw [List.length_append, List.length_map, List.length_take]; have := HB0L.out; have := HTL.out; omega
      obtain ⟨zs, hzs⟩ : ∃ zs, zs = b0 ++ (ts.take k).map (fi 116) := ⟨_, rfl⟩
      rw [← hzs] at hI hln hst
      have HST := Lib.hid hst
      have HXM := Lib.hid hxm
      clear hx hst hxm hzs
      have htl := HTL.out
      go_wp2_with fail
      refine (itoaT x (by have f := HXM.out; omega) (by have f := HXM.out; omega) _).mono ?_
      rintro e wz ⟨s, rfl, rfl, hss, hsc⟩
      have hsc := hsc 116
      have hss3 : s.size ≤ 100 := by omega
      clear hss
      go_wp2_with (first | (at_builtin; refine wp_appTat rfl _ _ rfl W0.heap.size u zs rfl (hI.own.alloc _) _ _ rfl (cell_of (heap_hit _ _ _ rfl) 0) hln (by have := hI.bel.size; first | omega | (simp; omega)) ?_; intro v' w9 hO9 hG9 hL9 hA9; have hI9 := hI.app _ hO9 hG9 hL9 hA9) | fail)
      clear hsc hss3 hO9 hG9 hL9 hA9
      go_roundw
      case rel => exact ⟨k + 1, _, by omega, by go_num, rfl, by rw [HST.out]; exact hI9⟩
      case measure => simp [intOf]; omega
    · obtain rfl : k = ts.length := by omega
      have d1 : decide (ts.length < ts.length) = false := by simp
      have hO := hI.own
      have hT := hI.bel
      rw [List.take_length] at hO
      obtain ⟨b1, hb1⟩ : ∃ b1, b1 = b0 ++ ts.map (fi 116) := ⟨_, rfl⟩
      rw [← hb1] at hO
      have hb1l : b1.length ≤ 8 := by rw [hb1, List.length_append, List.length_map]; have := HB0L.out; have := HTL.out; omega
      have HB1 := Lib.hid hb1
      have HB1L := Lib.hid hb1l
      clear hb1 hb1l hI hCT
      go_wp2_with (first | (refine ldI rfl _ rfl w.heap.size 1 rfl _ ((HB.out _ hT).cell 1 _ rfl) ?_) | (refine ldI rfl _ rfl w.heap.size 5 rfl _ ((HB.out _ hT).cell 5 _ rfl) ?_) | fail)
      obtain ⟨ls, hls⟩ : ∃ ls : List Int, ls = [a.l, a.li] := ⟨_, rfl⟩
      have hl2 : ls.length = 2 := by rw [hls]; rfl
      have HL2 := Lib.hid hl2
      have hlb : ∀ x ∈ ls, 0 ≤ x ∧ x ≤ 4 := by
        rw [hls]
        have f := HF.out
        intro x hx
        simp only [List.mem_cons, List.not_mem_nil, or_false] at hx
        rcases hx with rfl | rfl <;> omega
      have HLB := Lib.hid hlb
      have hI0 : TinS W0 wr.heap.size (.cells (ints ls) 3 (0, 0)) u (b1 ++ (ls.take 0).flatMap lf) (wr.alloc (.cells #[.int .i64 a.l, .int .i64 a.li] 3)) :=
        ⟨by simpa using hO.alloc _, by rw [hls]; exact heap_hit _ _ _ rfl, fun e => by have := (hO.lt _ e).2; omega, Below_al hT _⟩
      have HLS := Lib.hid hls
      obtain ⟨g2, hg2⟩ : ∃ g2, g2 = wr.heap.size := ⟨_, rfl⟩
      rw [← hg2] at hI0
      rw [← hg2]
      clear hls hl2 hlb hg2 hO hT
      go_wp2_with fail
      go_loopw [3, 45] (fun o i wr => ∃ (k : Nat) (u : Value), k ≤ 2 ∧ i = .int .i64 k ∧ o = u ∧ TinS W0 g2 (.cells (ints ls) 3 (0, 0)) u (b1 ++ (ls.take k).flatMap lf) wr) (fun _ i _ => 2 - (intOf i).toNat)
      case atStart => exact ⟨0, _, Nat.zero_le _, rfl, rfl, hI0⟩
      case round =>
        clear hI0
        obtain ⟨k, u, hk, rfl, hou, hI⟩ := hrel
        replace hou := hou.symm
        subst hou
        by_cases hlt : k < 2
        · obtain ⟨x, hx⟩ : ∃ x, ls[k]? = some x := ⟨_, List.getElem?_eq_getElem (by rw [HL2.out]; exact hlt)⟩
          have hct : wr.cell? ⟨g2, k, none⟩ = some (.int .i64 x) := by rw [cell_of hI.arr, get_ints, hx]; rfl
          have hxm := HLB.out x (List.mem_of_getElem? hx)
          have i1 : (k : Int) < 2 := by omega
          have hst : b1 ++ (ls.take (k + 1)).flatMap lf = (b1 ++ (ls.take k).flatMap lf) ++ lf x := by rw [List.take_add_one, hx]; simp
          have hln : (b1 ++ (ls.take k).flatMap lf).length ≤ 1099511627776 := by
            have h1 := flat_len1 lf lf_len (ls.take k)
            rw [List.length_take] at h1
            rw [List.length_append]
            have := HB1L.out
            omega
          obtain ⟨zs, hzs⟩ : ∃ zs, zs = b1 ++ (ls.take k).flatMap lf := ⟨_, rfl⟩
          rw [← hzs] at hI hln hst
          have HST := Lib.hid hst
          have HXM := Lib.hid hxm
          clear hx hst hxm hzs
          by_cases h0 : x = 0
          · have hq : (x != 0) = false := by simpa using h0
            have HX := Lib.hid h0
            clear h0
            go_wp2
            go_roundw
            case rel => exact ⟨k + 1, _, by omega, by go_num, rfl, by rw [HST.out, HX.out]; simpa [lf] using hI⟩
            case measure => simp [intOf]; omega
          · have hq : (x != 0) = true := by simpa using h0
            have HX := Lib.hid h0
            clear h0
            go_wp2_with fail
            refine (itoaT x (by have f := HXM.out; omega) (by have f := HXM.out; omega) _).mono ?_
            rintro e wz ⟨s, rfl, rfl, hss, hsc⟩
            have hsc := hsc 108
            have hss3 : s.size ≤ 100 := by omega
            clear hss
            go_wp2_with (first | (at_builtin; refine wp_appTat rfl _ _ rfl W0.heap.size u zs rfl (hI.own.alloc _) _ _ rfl (cell_of (heap_hit _ _ _ rfl) 0) hln (by have := hI.bel.size; first | omega | (simp; omega)) ?_; intro v' w9 hO9 hG9 hL9 hA9; have hI9 := hI.app _ hO9 hG9 hL9 hA9) | fail)
            clear hsc hss3 hO9 hG9 hL9 hA9
            go_roundw
            case rel => exact ⟨k + 1, _, by omega, by go_num, rfl, by rw [HST.out, lf, if_neg HX.out]; exact hI9⟩
            case measure => simp [intOf]; omega
        · obtain rfl : k = 2 := by omega
          have hO := hI.own
          have hT := hI.bel
          rw [List.take_of_length_le (by rw [HL2.out]; omega)] at hO
          obtain ⟨b2, hb2⟩ : ∃ b2, b2 = b1 ++ ls.flatMap lf := ⟨_, rfl⟩
          rw [← hb2] at hO
          have hb2l : b2.length ≤ 10 := by rw [hb2, List.length_append]; have := HB1L.out; have := flat_len1 lf lf_len ls; have := HL2.out; omega
          have HB2 := Lib.hid hb2
          have HB2L := Lib.hid hb2l
          clear hb2 hb2l hI hlt hk
          go_wp2_with (first | (refine ldGp rfl _ rfl w.heap.size 7 rfl _ _ _ _ (HB.out _ hT).g ?_) | (refine ldGp rfl _ rfl w.heap.size 11 rfl _ _ _ _ (HB.out _ hT).r ?_) | fail)
          obtain ⟨gs, hgs⟩ : ∃ gs : List (Int × Int × Int × Int), gs = [(a.c1, a.k1, a.a1, a.t1), (a.c2, a.k2, a.a2, a.t2)] := ⟨_, rfl⟩
          have hl2 : gs.length = 2 := by rw [hgs]; rfl
          have HL2 := Lib.hid hl2
          have hlb : ∀ x ∈ gs, 0 ≤ x.2.1 ∧ x.2.1 ≤ 8 := by
            rw [hgs]
            have f := HF.out
            intro x hx
            simp only [List.mem_cons, List.not_mem_nil, or_false] at hx
            rcases hx with rfl | rfl <;> (simp only; omega)
          have HLB := Lib.hid hlb
          have hI0 : TinS W0 wr.heap.size (.cells (gs.map gl).flatten.toArray 45 (0, 0)) u (b2 ++ (gs.take 0).flatMap kg) (wr.alloc (.cells #[.int .i64 a.c1, .int .i64 a.k1, .int .i64 a.a1, .int .i64 a.t1, .int .i64 a.c2, .int .i64 a.k2, .int .i64 a.a2, .int .i64 a.t2] 45)) :=
            ⟨by simpa using hO.alloc _, by rw [hgs]; exact heap_hit _ _ _ rfl, fun e => by have := (hO.lt _ e).2; omega, Below_al hT _⟩
          have HGS := Lib.hid hgs
          obtain ⟨g3, hg3⟩ : ∃ g3, g3 = wr.heap.size := ⟨_, rfl⟩
          rw [← hg3] at hI0
          rw [← hg3]
          clear hgs hl2 hlb hg3 hO hT
          go_loopw [3, 9, 64] (fun o bx i wr => ∃ (k : Nat) (u : Value), k ≤ 2 ∧ i = .int .i64 k ∧ o = u ∧ TinS W0 g3 (.cells (gs.map gl).flatten.toArray 45 (0, 0)) u (b2 ++ (gs.take k).flatMap kg) wr) (fun _ _ i _ => 2 - (intOf i).toNat)
          case atStart => exact ⟨0, _, Nat.zero_le _, rfl, rfl, hI0⟩
          case round =>
            clear hI0
            obtain ⟨k, u, hk, rfl, hou, hI⟩ := hrel
            replace hou := hou.symm
            subst hou
            by_cases hlt : k < 2
            · obtain ⟨⟨p, q, r, t⟩, hx⟩ : ∃ x, gs[k]? = some x := ⟨_, List.getElem?_eq_getElem (by rw [HL2.out]; exact hlt)⟩
              have hr := gl_range hI.arr hx
              have hxm := HLB.out _ (List.mem_of_getElem? hx)
              have i1 : (k : Int) < 2 := by omega
              have hst : b2 ++ (gs.take (k + 1)).flatMap kg = (b2 ++ (gs.take k).flatMap kg) ++ kf p q r t := by rw [List.take_add_one, hx]; simp [kg]
              have hln : (b2 ++ (gs.take k).flatMap kg).length ≤ 1099511627776 := by
                have h1 := flat_len1 kg kg_len (gs.take k)
                rw [List.length_take] at h1
                rw [List.length_append]
                have := HB2L.out
                omega
              obtain ⟨zs, hzs⟩ : ∃ zs, zs = b2 ++ (gs.take k).flatMap kg := ⟨_, rfl⟩
              rw [← hzs] at hI hln hst
              have HST := Lib.hid hst
              have HXM := Lib.hid hxm
              clear hx hst hxm hzs
              obtain ⟨qb, hqb⟩ : ∃ qb, qb = ne4 p q r t 0 0 0 0 := ⟨_, rfl⟩
              have HQB := Lib.hid hqb
              clear hqb
              cases qb
              · go_wp2_with (first | (refine ldGp rfl _ rfl g3 _ rfl _ _ _ _ hr ?_) | (refine wpList_neqG rfl _ _ _ rfl _ _ _ _ _ _ _ _ rfl rfl false HQB.out ?_) | fail)
                go_roundw
                case rel => exact ⟨k + 1, _, by omega, by go_num, rfl, by rw [HST.out, kf, ← HQB.out]; simpa using hI.alloc _⟩
                case measure => simp [intOf]; omega
              · go_wp2_with (first | (refine ldGp rfl _ rfl g3 _ rfl _ _ _ _ hr ?_) | (refine wpList_neqG rfl _ _ _ rfl _ _ _ _ _ _ _ _ rfl rfl true HQB.out ?_) | fail)
                replace hI := hI.alloc (.cells #[.int .i64 p, .int .i64 q, .int .i64 r, .int .i64 t] 45)
                refine (itoaT q (by have f := HXM.out; omega) (by have f := HXM.out; omega) _).mono ?_
                rintro e wz ⟨s, rfl, hwz, hss, hsc⟩
                rw [← hwz] at hI
                clear hwz
                have hsc := hsc 107
                have hss3 : s.size ≤ 100 := by omega
                clear hss
                go_wp2_with (first | (at_builtin; refine wp_appTat rfl _ _ rfl W0.heap.size u zs rfl (hI.own.alloc _) _ _ rfl (cell_of (heap_hit _ _ _ rfl) 0) hln (by have := hI.bel.size; first | omega | (simp; omega)) ?_; intro v' w9 hO9 hG9 hL9 hA9; have hI9 := hI.app _ hO9 hG9 hL9 hA9) | fail)
                clear hsc hss3 hO9 hG9 hL9 hA9
                go_roundw
                case rel => exact ⟨k + 1, _, by omega, by go_num, rfl, by rw [HST.out, kf, ← HQB.out]; exact hI9⟩
                case measure => simp [intOf]; omega
            · obtain rfl : k = 2 := by omega
              have hO := hI.own
              have hT := hI.bel
              rw [List.take_of_length_le (by rw [HL2.out]; omega)] at hO
              have hraw : b2 ++ gs.flatMap kg = raw1 a := by
                rw [HR.out, HB2.out, HB1.out, HB0.out, HLS.out, HGS.out]
                simp [kg]
              rw [hraw] at hO
              have hrl := HR1.out
              clear hI hraw hlt hk
              obtain ⟨zr, hzr⟩ : ∃ zr, zr = raw1 a := ⟨_, rfl⟩
              rw [← hzr] at hO hrl
              have HZ := Lib.hid hzr
              clear hzr
              go_wp2_with fail
              refine (sortS_any W0.heap.size u zr _ hO (by omega)).mono ?_
              rintro e w8 ⟨rfl, hO8, hG8⟩
              have hb8 : Below W0.heap.size wr w8 := grown_below hO hT.size hG8
              go_wp2_with fail
              refine (compS_any W0.heap.size u (sortB zr) _ hO8 (by rw [sortB_len]; omega)).mono ?_
              rintro e w9 ⟨v9, rfl, hO9, hB9, hG9⟩
              have hfin : compB (sortB zr) = featL a := by rw [HZ.out]; exact HFIN.out
              rw [hfin] at hO9
              obtain ⟨A9, c9, rfl, -⟩ := hO9.form
              clear hfin hrl
              go_wp2
              go_ret
              exact ⟨_, rfl, OwnS.base hO9 (by omega), hW0b.trans ((hT.trans (hb8.trans hB9)).mono (by omega))⟩
end Go.Proofs.YtlonnkmfjijddaaGreatDoor
