/- For all arguments the law FnExactIsMask answers true. No condition. -/
import Derived.Test.YtpcjjminopdofaaK2
import Derived.Test.YtpcjjminopdofaaV2
namespace Go.Proofs.Ytpcjjminopdofaa.Pure
open Go.RowKit Go.Proofs.Ytpcjjminopdofaa.K Go.Proofs.Ytpcjjminopdofaa.V Go.Proofs.Ytpcjjminopdofaa.Bx Go.Proofs.YtpcjjminopdofaaW.PrintWords Go.Proofs.YtpcjjminopdofaaW.PrintLast
set_option linter.unusedVariables false

theorem FnExactIsMask : laws_FnExactIsMask.Pure := by
  intro l _ _ _
  refine Ev.rounds (g := fun k => laws_FnExactIsMask.f k l) ?_
  unfold laws_FnExactIsMask.f
  by_cases h : (l.length : Int) > 1048576
  · exact ev_if h (Ev.now _)
  refine ev_else h ?_
  have hl : l.length ≤ 1048576 := by omega
  refine Ev.bind (toInt l hl) (Ev.bind (sIsMask l hl) (Ev.bind (toInt l hl) (Ev.bind (Ev.now (msk l)) ?_)))
  exact ev_else (by simp) (Ev.bind (toInt l hl) (Ev.bind (eqSame l hl) (ev_if rfl (Ev.now _))))

end Go.Proofs.Ytpcjjminopdofaa.Pure
