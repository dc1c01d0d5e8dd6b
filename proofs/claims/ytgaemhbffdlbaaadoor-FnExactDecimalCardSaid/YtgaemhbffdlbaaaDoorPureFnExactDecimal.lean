/- For all arguments the law FnExactDecimal answers true. No condition. -/
import Derived.Test.YtgaemhbffdlbaaaDoorK2
import Derived.Test.YtgaemhbffdlbaaaDoorV0
import Derived.Test.YtgaemhbffdlbaaaDoorVD
namespace Go.Proofs.YtgaemhbffdlbaaaDoor.Pure
open Go.RowKit Go.Proofs.YtgaemhbffdlbaaaDoor.K Go.Proofs.YtgaemhbffdlbaaaDoor.V Go.Proofs.YtgaemhbffdlbaaaDoorW.PrintWords Go.Proofs.YtgaemhbffdlbaaaDoorW.PrintLast
set_option linter.unusedVariables false
set_option linter.unusedSimpArgs false

theorem FnExactDecimal : laws_FnExactDecimal.Pure := by
  intro a0 hw
  have hb : -9223372036854775808 ≤ a0 ∧ a0 ≤ 9223372036854775807 := by
    have e1 : IntKind.i64.min = -9223372036854775808 := rfl
    have e2 : IntKind.i64.max = 9223372036854775807 := rfl
    simpa [Lit.wf, e1, e2] using hw
  refine Ev.rounds (g := fun k => laws_FnExactDecimal.f k a0) ?_
  unfold laws_FnExactDecimal.f
  refine Ev.bind (a := ⟨(Lib.itoa a0).toArray⟩) ?_ ?_
  · unfold spec_Decimal.f
    exact Ev.bind (dec a0 hb.1 hb.2) (Ev.now _)
  · unfold impl_Decimal.f
    exact ev_eq (if_pos hb) (ev_if rfl (Ev.now _))
end Go.Proofs.YtgaemhbffdlbaaaDoor.Pure
