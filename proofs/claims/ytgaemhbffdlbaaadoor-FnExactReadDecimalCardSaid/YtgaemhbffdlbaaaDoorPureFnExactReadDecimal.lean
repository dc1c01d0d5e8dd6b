/- For all arguments the law FnExactReadDecimal answers true. No condition. -/
import Derived.Test.YtgaemhbffdlbaaaDoorK3
import Derived.Test.YtgaemhbffdlbaaaDoorV0
import Derived.Test.YtgaemhbffdlbaaaDoorVV
import Derived.Test.YtgaemhbffdlbaaaDoorV0
import Derived.Test.YtgaemhbffdlbaaaDoorVV
namespace Go.Proofs.YtgaemhbffdlbaaaDoor.Pure
open Go.RowKit Go.Proofs.YtgaemhbffdlbaaaDoor.K Go.Proofs.YtgaemhbffdlbaaaDoor.V Go.Proofs.YtgaemhbffdlbaaaDoorW.PrintWords Go.Proofs.YtgaemhbffdlbaaaDoorW.PrintLast
set_option linter.unusedVariables false

theorem FnExactReadDecimal : laws_FnExactReadDecimal.Pure := by
  intro a0 hw
  refine Ev.rounds (g := fun k => laws_FnExactReadDecimal.f k a0) ?_
  unfold laws_FnExactReadDecimal.f
  by_cases hs : (a0.size : Int) > 1048576
  · exact ev_if hs (Ev.now _)
  · refine ev_else hs (Ev.bind (a := valD a0.data.toList) ?_ ?_)
    · unfold spec_ReadDecimal.f
      exact Ev.bind (specValue a0) (Ev.now _)
    · unfold impl_ReadDecimal.f
      exact ev_eq (if_pos (by omega)) (ev_if rfl (ev_else (by simp) (Ev.now _)))
end Go.Proofs.YtgaemhbffdlbaaaDoor.Pure
