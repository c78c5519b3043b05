/- Findings whole. -/
import Derived.Test.YtjodoljgpdbimaaRepI1
import Derived.Test.YtjodoljgpdbimaaRepI2
import Derived.Test.YtjodoljgpdbimaaRepI3
namespace Go.Proofs.Ytjodoljgpdbimaa
open Go.ChangeShapes Go.WideShapes Go.ChangeAt Go.RowKit
set_option linter.unusedVariables false
set_option linter.unusedSimpArgs false
theorem findings_any (a : ArmsD) (w : World) : Calls Try.prog 27 #[.agg (ac a).toArray] w (FndOk w a) := by
  rcases h : (a.o != 0) with _ | _
  · exact findings_1 a h w
  · rcases h2 : brk a.t (tinF a.d a.p a.q) with _ | _
    · exact findings_2 a ⟨h, h2⟩ w
    · exact findings_3 a ⟨h, h2⟩ w
end Go.Proofs.Ytjodoljgpdbimaa
