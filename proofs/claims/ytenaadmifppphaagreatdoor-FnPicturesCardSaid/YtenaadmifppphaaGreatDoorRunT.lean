/- Contracts: RunText, both sides; what turns a number into text, of the table that is laid. -/
import Derived.Test.YtenaadmifppphaaGreatDoorRuns2
import Derived.Test.YtenaadmifppphaaGreatDoorLText
import Derived.Test.YtenaadmifppphaaGreatDoorShelf
import Derived.Lib.SmallJoins
namespace Go.Proofs.YtenaadmifppphaaGreatDoor
open Go.ChangeShapes Go.WideShapes Go.ChangeAt Go.RowKit
set_option linter.unusedVariables false
set_option linter.unusedSimpArgs false
theorem tabIs_third {P : Program} {W : World} {x1 x2 : String × DataW Unit} {name : String} {k : IntKind} {zs : List Int} {rest : List (String × DataW Unit)} {g : Nat} {t e : TypeId} {n : Nat}
    (hg : P.globalNamed name = some g) (hty : (P.globals[g]?).map (·.type) = some t) (ht : P.underlying t = some (.array n e)) (he : P.underlying e = some (.int k)) (hce : P.cellsOf e = 1) (hct : P.cellsOf t = n)
    (h : laidMet P (x1 :: x2 :: (name, Lib.tabData k zs) :: rest) W) : Lib.TabIs P W name k zs := by
  obtain ⟨ps, ⟨_, _, _, _, _, _, _, _, _, _, ⟨_, _, _, _, _, _, _, _, _, _, ⟨g', t', cs, fuel, p, q, hg', ht', hvar, hd, _, _⟩, _⟩, _⟩, _⟩ := h
  obtain rfl := Option.some.inj (hg.symm.trans hg')
  obtain rfl := Option.some.inj (hty.symm.trans ht')
  unfold Lib.TabIs
  rw [hvar, ← Lib.cells_of_tab ht he hce hct hd]
def runT (rows : List (List Int)) : List UInt8 := bif picOk rows then runsL (textT letC [] rows 24) else []
theorem ItoaAt.below {w w' : World} (h : ItoaAt w) (hb : Below w.heap.size w w') : ItoaAt w' := fun n w'' hn hb2 => h n w'' hn (Below_then hb hb2)
theorem itoa_dec (n : Nat) : Lib.itoa (n : Int) = Lib.decDigits n := by unfold Lib.itoa; rw [if_neg (by omega)]; simp
theorem itoaAt_tab {w : World} (h : Lib.TabIs Tryz.prog w "internal/strconv.uint64pow10" .u64 Lib.pow10Tab) : ItoaAt w := fun n w' hn hb => by
  have h1 := Go.Joins.tab_stays (g := 3) (by kernel_rfl) h hb (Nat.le_refl _)
  refine (Tryz.strconv_Itoa (n : Int) (by omega) (by omega) w' h1).mono fun e w'' ⟨he, k, os, hw⟩ => ⟨by rw [he, itoa_dec], ?_⟩
  subst hw
  exact ⟨rfl, rfl, rfl, by simp [Sort.grow, World.drewN], fun j hj => by simp only [Sort.grow, World.drewN]; exact Array.getElem?_append_left hj⟩
/-- The table stands third among what is laid for RunText and ParseRuns. -/
theorem tab_of {W : World} {x1 x2 : String × DataW Unit} {rest : List (String × DataW Unit)} (h : laidMet Tryz.prog (x1 :: x2 :: ("internal/strconv.uint64pow10", Lib.tabData .u64 Lib.pow10Tab) :: rest) W) : Lib.TabIs Tryz.prog W "internal/strconv.uint64pow10" .u64 Lib.pow10Tab :=
  tabIs_third (g := 3) (t := 104) (by kernel_rfl) (by kernel_rfl) Tryz.underlying104 Tryz.underlying42 (by kernel_rfl) (by kernel_rfl) h
set_option maxHeartbeats 1000000 in
theorem implRunText_any (A : Option Addr) (c : Nat) (rows : List (List Int)) (w : World) (h : RdG w A rows) (hs : Small rows) (hI : ItoaAt w) :
    Calls Tryz.prog 7 #[.slice A rows.length c] w fun e w' => e = .returned (.tuple #[.string ⟨(runT rows).toArray⟩, .bool (picOk rows)]) ∧ Below w.heap.size w w' := by
  have K := IsValidPicture_any A c rows w h hs
  by_cases hok : picOk rows = true
  · have hl := picOk_24 hok
    have hz : runT rows = runsL (textT letC [] rows 24) := by simp [runT, hok]
    have L := fun w' (hb : Below w.heap.size w w') => lettersOf_no A c rows w' (h.below hb) hok
    have htl := textT_len letC [] rows 24
    have R := fun w' (hb : Below w.heap.size w w') => implRuns_any ⟨(textT letC [] rows 24).toArray⟩ (by show (textT letC [] rows 24).toArray.size ≤ _; rw [List.size_toArray, htl]; simp) w' (hI.below hb)
    rw [hok] at K
    rw [hok, hz]
    rw [hl] at K ⊢
    generalize textT letC [] rows 24 = t at *
    have K' := Lib.hid K
    have L' := Lib.hid L
    have R' := Lib.hid R
    clear K hok hl hs hz h L R htl
    go_enter Tryz.func7, Tryz.ntmps7
    go_wp2_with fail
    refine K'.out.mono ?_
    rintro e w1 ⟨rfl, hb1⟩
    go_wp2_with fail
    refine (L'.out _ hb1).mono ?_
    rintro e w2 ⟨rfl, hb2⟩
    go_wp2_with fail
    refine (R'.out _ (Below_then hb1 hb2)).mono ?_
    rintro e w3 ⟨rfl, hb3⟩
    have hT := Below_then (Below_then hb1 hb2) hb3
    go_wp2
    go_ret2
    exact ⟨rfl, hT⟩
  · have hok' : picOk rows = false := by simpa using hok
    have hz : runT rows = [] := by simp [runT, hok']
    rw [hok'] at K
    rw [hok', hz]
    have K' := Lib.hid K
    clear K hok hok' hs hz h
    go_enter Tryz.func7, Tryz.ntmps7
    go_wp2_with fail
    refine K'.out.mono ?_
    rintro e w1 ⟨rfl, hb1⟩
    go_wp2
    go_ret2
    exact ⟨rfl, hb1⟩
set_option maxHeartbeats 1000000 in
theorem specRunText_any (A : Option Addr) (c : Nat) (rows : List (List Int)) (w : World) (h : RdG w A rows) (hs : Small rows) :
    Calls Tryz.prog 9 #[.slice A rows.length c] w fun e w' => e = .returned (.tuple #[.string ⟨(runT rows).toArray⟩, .bool (picOk rows)]) ∧ Below w.heap.size w w' := by
  have K := l13Good_any A c rows w h hs
  by_cases hok : picOk rows = true
  · have hl := picOk_24 hok
    have hz : runT rows = runsL (textT letC [] rows 24) := by simp [runT, hok]
    have L := fun w' (hb : Below w.heap.size w w') => l13Text_any A c rows w' (h.below hb) hok
    have htl := textT_len letC [] rows 24
    have R := fun w' => l13Runs_any ⟨(textT letC [] rows 24).toArray⟩ (by show (textT letC [] rows 24).toArray.size ≤ _; rw [List.size_toArray, htl]; simp) w'
    rw [hok] at K
    rw [hok, hz]
    rw [hl] at K ⊢
    generalize textT letC [] rows 24 = t at *
    have K' := Lib.hid K
    have L' := Lib.hid L
    have R' := Lib.hid R
    clear K hok hl hs hz h L R htl
    go_enter Tryz.func9, Tryz.ntmps9
    go_wp2_with fail
    refine K'.out.mono ?_
    rintro e w1 ⟨rfl, hb1⟩
    go_wp2_with fail
    refine (L'.out _ hb1).mono ?_
    rintro e w2 ⟨rfl, hb2⟩
    go_wp2_with fail
    refine (R'.out _).mono ?_
    rintro e w3 ⟨rfl, hb3⟩
    have hT := Below_then (Below_then hb1 hb2) hb3
    go_wp2
    go_ret2
    exact ⟨rfl, hT⟩
  · have hok' : picOk rows = false := by simpa using hok
    have hz : runT rows = [] := by simp [runT, hok']
    rw [hok'] at K
    rw [hok', hz]
    have K' := Lib.hid K
    clear K hok hok' hs hz h
    go_enter Tryz.func9, Tryz.ntmps9
    go_wp2_with fail
    refine K'.out.mono ?_
    rintro e w1 ⟨rfl, hb1⟩
    go_wp2
    go_ret2
    exact ⟨rfl, hb1⟩
end Go.Proofs.YtenaadmifppphaaGreatDoor
