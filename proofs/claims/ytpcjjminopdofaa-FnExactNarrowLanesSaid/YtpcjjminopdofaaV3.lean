/- The reference's test of two vectors. No condition but small lengths. -/
import Derived.Test.YtpcjjminopdofaaV1
import Derived.Test.YtpcjjminopdofaaK6
namespace Go.Proofs.Ytpcjjminopdofaa.V
open Go.RowKit Go.Proofs.Ytpcjjminopdofaa.K Go.Proofs.Ytpcjjminopdofaa.Bx Go.Proofs.YtpcjjminopdofaaW.PrintWords Go.Proofs.YtpcjjminopdofaaW.PrintLast
set_option linter.unusedVariables false
set_option linter.unusedSimpArgs false

/-- Two vectors with as many lanes. -/
def both (b : Int) (l m : List Int) : Bool := vec b l && vec b m && decide (l.length = m.length)
theorem sBoth (b : Int) (l m : List Int) (h : l.length ≤ 1048576) (h' : m.length ≤ 1048576) : Ev (fun k => spec_l02Both.f k b l m) (both b l m) := by
  unfold spec_l02Both.f both
  refine Ev.bind (sIs b l h) ?_
  cases vec b l with
  | false => exact ev_else (by simp) (Ev.now _)
  | true =>
    refine ev_if rfl (Ev.bind (sIs b m h') ?_)
    cases vec b m with
    | false => exact ev_else (by simp) (Ev.now _)
    | true =>
      refine ev_if rfl ?_
      have e : ((l.length : Int) == (m.length : Int)) = (true && true && decide (l.length = m.length)) := by
        rw [Bool.eq_iff_iff]; simp; omega
      rw [e]
      exact Ev.now _
end Go.Proofs.Ytpcjjminopdofaa.V
