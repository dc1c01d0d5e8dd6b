/- For all arguments the law FnExactIsVector answers true. No condition. -/
import Derived.Test.YtpcjjminopdofaaK3
import Derived.Test.YtpcjjminopdofaaV1
namespace Go.Proofs.Ytpcjjminopdofaa.Pure
open Go.RowKit Go.Proofs.Ytpcjjminopdofaa.K Go.Proofs.Ytpcjjminopdofaa.V Go.Proofs.Ytpcjjminopdofaa.Bx Go.Proofs.YtpcjjminopdofaaW.PrintWords Go.Proofs.YtpcjjminopdofaaW.PrintLast
set_option linter.unusedVariables false

theorem FnExactIsVector : laws_FnExactIsVector.Pure := by
  intro a0 l _ _ _ _
  refine Ev.rounds (g := fun k => laws_FnExactIsVector.f k a0 l) ?_
  unfold laws_FnExactIsVector.f
  by_cases h : (l.length : Int) > 1048576
  · exact ev_if h (Ev.now _)
  refine ev_else h ?_
  have hl : l.length ≤ 1048576 := by omega
  refine Ev.bind (toInt l hl) (Ev.bind (sIsVector a0 l hl) (Ev.bind (toInt l hl) (Ev.bind (Ev.now (vec a0 l)) ?_)))
  exact ev_else (by simp) (Ev.bind (toInt l hl) (Ev.bind (eqSame l hl) (ev_if rfl (Ev.now _))))

end Go.Proofs.Ytpcjjminopdofaa.Pure
