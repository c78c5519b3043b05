/- Findings whole. -/
import Derived.Test.YtjodoljgpdbimaaRepS1
import Derived.Test.YtjodoljgpdbimaaRepS2
import Derived.Test.YtjodoljgpdbimaaRepS3
namespace Go.Proofs.Ytjodoljgpdbimaa
open Go.ChangeShapes Go.WideShapes Go.ChangeAt Go.RowKit
set_option linter.unusedVariables false
set_option linter.unusedSimpArgs false
theorem l8Findings_any (a : ArmsD) (w : World) : Calls Try.prog 21 #[.agg (ac a).toArray] w (FndOk w a) := by
  rcases h : (a.o != 0) with _ | _
  · exact l8Findings_1 a h w
  · rcases h2 : brk a.t (tinF a.d a.p a.q) with _ | _
    · exact l8Findings_2 a ⟨h, h2⟩ w
    · exact l8Findings_3 a ⟨h, h2⟩ w
end Go.Proofs.Ytjodoljgpdbimaa
