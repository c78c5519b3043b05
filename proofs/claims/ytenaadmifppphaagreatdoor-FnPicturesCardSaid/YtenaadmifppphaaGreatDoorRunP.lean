/- Runs of letters and their decoding, on either side: both read the same. No program in sight. -/
import Derived.Test.YtenaadmifppphaaGreatDoorNum
import Derived.Test.YtenaadmifppphaaGreatDoorRead
namespace Go.Proofs.YtenaadmifppphaaGreatDoor
set_option linter.unusedVariables false
def runsL : List UInt8 → List UInt8
  | [] => []
  | c :: t => (if (t.takeWhile (· == c)).length = 0 then [] else Lib.decDigits ((t.takeWhile (· == c)).length + 1)) ++ c :: runsL (t.dropWhile (· == c))
termination_by s => s.length
decreasing_by
  have := (List.dropWhile_sublist (l := t) (· == c)).length_le
  simp only [List.length_cons]
  omega
theorem takeWhile_at {p : UInt8 → Bool} : ∀ (l : List UInt8) (m : Nat), m ≤ l.length → (∀ i x, i < m → l[i]? = some x → p x = true) → (∀ x, l[m]? = some x → p x = false) → l.takeWhile p = l.take m ∧ l.dropWhile p = l.drop m
  | [], m, hm, _, _ => by
    have : m = 0 := by simpa using hm
    subst this
    simp
  | a :: t, 0, _, _, h => by
    have := h a (by simp)
    simp [this]
  | a :: t, m + 1, hm, h1, h2 => by
    have ha := h1 0 a (by omega) (by simp)
    have ih := takeWhile_at t m (by simpa using hm) (fun i x hi hx => h1 (i + 1) x (by omega) (by simpa using hx)) (fun x hx => h2 x (by simpa using hx))
    simp [ha, ih.1, ih.2]
/-- One run: the bytes from a up to e. -/
theorem runs_at {s : List UInt8} {a e : Nat} {c : UInt8} (hc : s[a]? = some c) (hae : a < e) (he : e ≤ s.length) (h1 : ∀ i x, a < i → i < e → s[i]? = some x → x = c) (h2 : ∀ x, s[e]? = some x → x ≠ c) :
    runsL (s.drop a) = (if e - a = 1 then [] else Lib.decDigits (e - a)) ++ c :: runsL (s.drop e) := by
  obtain ⟨hl, hg⟩ := List.getElem?_eq_some_iff.1 hc
  rw [List.drop_eq_getElem_cons hl, hg, runsL]
  obtain ⟨t1, t2⟩ := takeWhile_at (p := (· == c)) (s.drop (a + 1)) (e - (a + 1)) (by rw [List.length_drop]; omega)
    (fun i x hi hx => by rw [List.getElem?_drop] at hx; simpa using h1 _ x (by omega) (by omega) hx)
    (fun x hx => by rw [List.getElem?_drop, show a + 1 + (e - (a + 1)) = e by omega] at hx; simpa using h2 x hx)
  rw [t1, t2, List.drop_drop, show a + 1 + (e - (a + 1)) = e by omega]
  have hlen : ((s.drop (a + 1)).take (e - (a + 1))).length = e - (a + 1) := by rw [List.length_take, List.length_drop]; omega
  rw [hlen]
  by_cases q : e - a = 1
  · rw [if_pos (by omega), if_pos q]
  · rw [if_neg (by omega), if_neg q, show e - (a + 1) + 1 = e - a by omega]
theorem runs_end (s : List UInt8) : runsL (s.drop s.length) = [] := by rw [List.drop_length, runsL]
theorem runs_cons (c : UInt8) (t : List UInt8) : ∃ m r, c :: t = List.replicate (m + 1) c ++ r ∧ r.length ≤ t.length ∧ runsL (c :: t) = (if m = 0 then [] else Lib.decDigits (m + 1)) ++ c :: runsL r := by
  refine ⟨(t.takeWhile (· == c)).length, t.dropWhile (· == c), ?_, (List.dropWhile_sublist _).length_le, by rw [runsL]⟩
  rw [List.replicate_succ, List.cons_append]
  congr 1
  have : t.takeWhile (· == c) = List.replicate (t.takeWhile (· == c)).length c := by
    rw [List.eq_replicate_iff]
    exact ⟨rfl, fun b hb => by simpa using List.all_eq_true.1 List.all_takeWhile b hb⟩
  conv => lhs; rw [← List.takeWhile_append_dropWhile (p := (· == c)) (l := t), this]
theorem dig_of (d : Nat) (h : d < 10) : digB (UInt8.ofNat (48 + d)) = true ∧ (UInt8.ofNat (48 + d)).toNat - 48 = d := by
  have : (UInt8.ofNat (48 + d)).toNat = 48 + d := by simp [UInt8.toNat_ofNat']; omega
  unfold digB
  rw [this]
  exact ⟨by simp; omega, by omega⟩
theorem decD_digs (n : Nat) : digs (Lib.decDigits n) = true := by
  induction n using Nat.strongRecOn with
  | _ n ih =>
    by_cases h : n < 10
    · rw [Lib.decDigits_one h]
      show (digB _ && true) = true
      rw [(dig_of n h).1]; rfl
    · rw [decD_step h]
      have := ih (n / 10) (by omega)
      unfold digs at this ⊢
      rw [List.all_append, this]
      show (true && (digB _ && true)) = true
      rw [(dig_of (n % 10) (by omega)).1]; rfl
theorem decD_val (n : Nat) : valD (Lib.decDigits n) = n := by
  induction n using Nat.strongRecOn with
  | _ n ih =>
    by_cases h : n < 10
    · rw [Lib.decDigits_one h]
      show 10 * 0 + (UInt8.toNat _ - 48) = n
      rw [(dig_of n h).2]; omega
    · rw [decD_step h, valD_snoc, ih (n / 10) (by omega), (dig_of (n % 10) (by omega)).2]
      omega
theorem decD_pos (n : Nat) : Lib.decDigits n ≠ [] := by
  by_cases h : n < 10
  · rw [Lib.decDigits_one h]; simp
  · rw [decD_step h]; simp
theorem decD_len3 (n : Nat) (h : n < 1000) : (Lib.decDigits n).length ≤ 3 := by
  by_cases h1 : n < 10
  · rw [Lib.decDigits_one h1]; simp
  · rw [decD_step h1]
    by_cases h2 : n / 10 < 10
    · rw [Lib.decDigits_one h2]; simp
    · rw [decD_step h2, Lib.decDigits_one (by omega)]; simp
/-! ### The program's decoding -/
def stepI : Option (List UInt8 × Nat) → UInt8 → Option (List UInt8 × Nat)
  | none, _ => none
  | some (out, c), b => if digB b then (if 480 < 10 * c + (b.toNat - 48) then none else some (out, 10 * c + (b.toNat - 48)))
    else if 480 < (out ++ List.replicate (max c 1) b).length then none else some (out ++ List.replicate (max c 1) b, 0)
def decI (s : List UInt8) : Option (List UInt8 × Nat) := s.foldl stepI (some ([], 0))
theorem stepI_none (s : List UInt8) : s.foldl stepI none = none := by
  induction s with
  | nil => rfl
  | cons a t ih => rw [List.foldl_cons]; exact ih
theorem stepI_digs (out : List UInt8) : ∀ (n : Nat), n ≤ 480 → (Lib.decDigits n).foldl stepI (some (out, 0)) = some (out, n) := by
  intro n
  induction n using Nat.strongRecOn with
  | _ n ih =>
    intro hn
    by_cases h : n < 10
    · rw [Lib.decDigits_one h]
      simp only [List.foldl_cons, List.foldl_nil, stepI, (dig_of n h).1, (dig_of n h).2]
      rw [if_pos trivial, if_neg (by omega)]
      simp
    · rw [decD_step h, List.foldl_append, ih (n / 10) (by omega) (by omega)]
      simp only [List.foldl_cons, List.foldl_nil, stepI, (dig_of (n % 10) (by omega)).1, (dig_of (n % 10) (by omega)).2]
      rw [if_pos trivial, if_neg (by omega)]
      congr 2
      omega
def plainB (t : List UInt8) : Bool := t.all fun b => !digB b
theorem plain_rep {m : Nat} {c : UInt8} {r : List UInt8} (h : plainB (List.replicate (m + 1) c ++ r) = true) : digB c = false ∧ plainB r = true := by
  simp only [plainB, List.all_append, Bool.and_eq_true, List.all_eq_true] at h ⊢
  exact ⟨by simpa using h.1 c (by simp), h.2⟩
theorem decI_runs : ∀ (k : Nat) (t : List UInt8), t.length ≤ k → plainB t = true → ∀ out : List UInt8, out.length + t.length ≤ 480 → (runsL t).foldl stepI (some (out, 0)) = some (out ++ t, 0)
  | _, [], _, _, out, _ => by rw [runsL]; simp
  | 0, c :: t, h, _, _, _ => by simp at h
  | k + 1, c :: t, h, hp, out, hl => by
    obtain ⟨m, r, e1, e2, e3⟩ := runs_cons c t
    rw [e1] at hp hl
    obtain ⟨hd, hp2⟩ := plain_rep hp
    rw [e3, List.foldl_append]
    simp only [List.length_append, List.length_replicate] at hl
    have hin : (if m = 0 then [] else Lib.decDigits (m + 1)).foldl stepI (some (out, 0)) = some (out, if m = 0 then 0 else m + 1) := by
      split
      · rfl
      · rw [stepI_digs out (m + 1) (by omega)]
    rw [hin, List.foldl_cons]
    have hmx : max (if m = 0 then 0 else m + 1) 1 = m + 1 := by split <;> omega
    have : stepI (some (out, if m = 0 then 0 else m + 1)) c = some (out ++ List.replicate (m + 1) c, 0) := by
      simp only [stepI, hd, hmx]
      rw [if_neg (by simp), if_neg (by simp; omega)]
    rw [this, decI_runs k r (by simp at h; omega) hp2 _ (by simp; omega), e1, List.append_assoc]
/-! ### The reference's decoding -/
def tokOk (ds : List UInt8) : Bool := ds.isEmpty || (decide (ds.length ≤ 3) && (Lib.decDigits (valD ds) == ds))
def tokN (ds : List UInt8) : Nat := if ds.isEmpty then 1 else valD ds
def decS : Nat → List UInt8 → List UInt8 → Option (List UInt8)
  | 0, _, _ => none
  | f + 1, all, s => match s with
    | [] => some all
    | b :: u => if tokOk ((b :: u).takeWhile digB) then match (b :: u).dropWhile digB with
        | [] => none
        | c :: t => if 480 < all.length + tokN ((b :: u).takeWhile digB) then none else decS f (all ++ List.replicate (tokN ((b :: u).takeWhile digB)) c) t
      else none
theorem take_digs {ds : List UInt8} {c : UInt8} {r : List UInt8} (h : digs ds = true) (hc : digB c = false) : (ds ++ c :: r).takeWhile digB = ds ∧ (ds ++ c :: r).dropWhile digB = c :: r := by
  have h' : ∀ a ∈ ds, digB a = true := by simpa [digs, List.all_eq_true] using h
  constructor
  · rw [List.takeWhile_append_of_pos h', List.takeWhile_cons]; simp [hc]
  · rw [List.dropWhile_append_of_pos h', List.dropWhile_cons]; simp [hc]
theorem decS_runs : ∀ (k : Nat) (t : List UInt8), t.length ≤ k → plainB t = true → ∀ (f : Nat) (out : List UInt8), out.length + t.length ≤ 480 → t.length < f → decS f out (runsL t) = some (out ++ t)
  | _, [], _, _, f, out, _, hf => by
    obtain ⟨f, rfl⟩ : ∃ g, f = g + 1 := ⟨f - 1, by omega⟩
    rw [runsL, decS]; simp
  | 0, c :: t, h, _, _, _, _, _ => by simp at h
  | k + 1, c :: t, h, hp, f, out, hl, hf => by
    obtain ⟨f, rfl⟩ : ∃ g, f = g + 1 := ⟨f - 1, by omega⟩
    obtain ⟨m, r, e1, e2, e3⟩ := runs_cons c t
    have hf2 : r.length < f := by simp at hf; omega
    rw [e1] at hp hl
    obtain ⟨hd, hp2⟩ := plain_rep hp
    simp only [List.length_append, List.length_replicate] at hl
    obtain ⟨ds, hds⟩ : ∃ ds, ds = (if m = 0 then [] else Lib.decDigits (m + 1)) := ⟨_, rfl⟩
    rw [e3, ← hds]
    have hdg : digs ds = true := by rw [hds]; split; rfl; exact decD_digs _
    obtain ⟨t1, t2⟩ := take_digs (r := runsL r) hdg hd
    have htok : tokOk ds = true ∧ tokN ds = m + 1 := by
      rw [hds]
      by_cases q : m = 0
      · subst q; exact ⟨rfl, rfl⟩
      · rw [if_neg q]
        have he : (Lib.decDigits (m + 1)).isEmpty = false := by
          have := decD_pos (m + 1)
          cases e : Lib.decDigits (m + 1)
          · exact absurd e this
          · rfl
        unfold tokOk tokN
        rw [he, decD_val]
        exact ⟨by simp; exact decD_len3 _ (by omega), by simp⟩
    obtain ⟨b, u, hbu⟩ : ∃ b u, ds ++ c :: runsL r = b :: u := by
      cases ds with
      | nil => exact ⟨c, _, rfl⟩
      | cons a l => exact ⟨a, _, rfl⟩
    rw [hbu] at t1 t2 ⊢
    rw [decS]
    simp only [t1, t2, htok.1, htok.2]
    rw [if_pos trivial, if_neg (by omega), decS_runs k r (by simp at h; omega) hp2 f _ (by simp; omega) hf2, e1, List.append_assoc]
/-- What both read. -/
theorem dec_same (good : List UInt8 → Bool) (hg : ∀ t, good t = true → plainB t = true ∧ t.length = 480) (s : List UInt8) (f : Nat) (hf : 480 < f) (a b : List UInt8) :
    (((decI s).map (·.1) = some a ∧ good a = true ∧ runsL a = s) ↔ (decS f [] s = some a ∧ good a = true ∧ runsL a = s)) := by
  constructor
  · rintro ⟨-, h, rfl⟩
    obtain ⟨h1, h2⟩ := hg a h
    exact ⟨by rw [decS_runs 480 a (by omega) h1 f [] (by simp; omega) (by omega)]; rfl, h, rfl⟩
  · rintro ⟨-, h, rfl⟩
    obtain ⟨h1, h2⟩ := hg a h
    exact ⟨by rw [decI, decI_runs 480 a (by omega) h1 [] (by simp; omega)]; rfl, h, rfl⟩
end Go.Proofs.YtenaadmifppphaaGreatDoor
