/- Contracts: RunText, both sides; what turns a number into text, of the table that is laid. -/
import Derived.Test.YtlbggefccgpgaaaDoorRuns2
import Derived.Test.YtlbggefccgpgaaaDoorLText
import Derived.Test.YtlbggefccgpgaaaDoorShelf
import Derived.Lib.SmallJoins
namespace Go.Proofs.YtlbggefccgpgaaaDoor
open Go.ChangeShapes Go.WideShapes Go.ChangeAt Go.RowKit
set_option linter.unusedVariables false
set_option linter.unusedSimpArgs false
theorem tabIs_third {P : Program} {W : World} {x1 x2 : String × DataW Unit} {name : String} {k : IntKind} {zs : List Int} {rest : List (String × DataW Unit)} {g : Nat} {t e : TypeId} {n : Nat}
    (hg : P.globalNamed name = some g) (hty : (P.globals[g]?).map (·.type) = some t) (ht : P.underlying t = some (.array n e)) (he : P.underlying e = some (.int k)) (hce : P.cellsOf e = 1) (hct : P.cellsOf t = n)
    (h : laidMet P (x1 :: x2 :: (name, Lib.tabData k zs) :: rest) W) : Lib.TabIs P W name k zs := by
  obtain ⟨ps, ⟨_, _, _, _, _, _, _, _, _, _, ⟨_, _, _, _, _, _, _, _, _, _, ⟨g', t', cs, fuel, p, q, hg', ht', hvar, hd, _, _⟩, _⟩, _⟩, _⟩ := h
  obtain rfl := Option.some.inj (hg.symm.trans hg')
  obtain rfl := Option.some.inj (hty.symm.trans ht')
  unfold Lib.TabIs
  rw [hvar, ← Lib.cells_of_tab ht he hce hct hd]
def runT (rows : List (List Int)) : List UInt8 := bif picOk rows then runsL (textT letC [] rows 24) else []
theorem ItoaAt.below {w w' : World} (h : ItoaAt w) (hb : Below w.heap.size w w') : ItoaAt w' := fun n w'' hn hb2 => h n w'' hn (Below_then hb hb2)
theorem itoa_dec (n : Nat) : Lib.itoa (n : Int) = Lib.decDigits n := by unfold Lib.itoa; rw [if_neg (by omega)]; simp
theorem itoaAt_tab {w : World} (h : Lib.TabIs Tryd.prog w "internal/strconv.uint64pow10" .u64 Lib.pow10Tab) : ItoaAt w := fun n w' hn hb => by
  have h1 := Go.Joins.tab_stays (g := 3) (by kernel_rfl) h hb (Nat.le_refl _)
  refine (Tryd.strconv_Itoa (n : Int) (by omega) (by omega) w' h1).mono fun e w'' ⟨he, k, os, hw⟩ => ⟨by rw [he, itoa_dec], ?_⟩
  subst hw
  exact ⟨rfl, rfl, rfl, by simp [Sort.grow, World.drewN], fun j hj => by simp only [Sort.grow, World.drewN]; exact Array.getElem?_append_left hj⟩
/-- The table stands third among what is laid for RunText and ParseRuns. -/
theorem tab_of {W : World} {x1 x2 : String × DataW Unit} {rest : List (String × DataW Unit)} (h : laidMet Tryd.prog (x1 :: x2 :: ("internal/strconv.uint64pow10", Lib.tabData .u64 Lib.pow10Tab) :: rest) W) : Lib.TabIs Tryd.prog W "internal/strconv.uint64pow10" .u64 Lib.pow10Tab :=
  tabIs_third (g := 3) (t := 80) (by kernel_rfl) (by kernel_rfl) Tryd.underlying80 Tryd.underlying71 (by kernel_rfl) (by kernel_rfl) h
end Go.Proofs.YtlbggefccgpgaaaDoor
