/- A mask and vectors with as many lanes. No condition. -/
import Derived.Test.YtpcjjminopdofaaV2
import Derived.Test.YtpcjjminopdofaaVM
import Derived.Test.YtpcjjminopdofaaK0
import Derived.Test.YtpcjjminopdofaaK16
import Derived.Test.YtpcjjminopdofaaK8
namespace Go.Proofs.Ytpcjjminopdofaa.V
open Go.RowKit Go.Proofs.Ytpcjjminopdofaa.K Go.Proofs.Ytpcjjminopdofaa.Bx Go.Proofs.YtpcjjminopdofaaW.PrintWords Go.Proofs.YtpcjjminopdofaaW.PrintLast
set_option linter.unusedVariables false
set_option linter.unusedSimpArgs false

/-- A mask for a vector, and vectors with as many lanes. -/
def masked (b : Int) (s : List Int) (ls : List (List Int)) : Bool := msk s && vecs b ls && decide ((rd_L1 ls 0).length = s.length)
theorem iMasked (b : Int) (s l : List Int) (ls : List (List Int)) : Ev (fun k => impl_areMasked.f k b s (l :: ls)) (masked b s (l :: ls)) := by
  unfold impl_areMasked.f masked
  refine Ev.bind (Ev.now (msk s)) ?_
  cases msk s with
  | false => exact ev_else (by simp) (Ev.now _)
  | true =>
    refine ev_if rfl (Ev.bind (Ev.now (vecs b (l :: ls))) ?_)
    cases vecs b (l :: ls) with
    | false => exact ev_else (by simp) (Ev.now _)
    | true =>
      refine ev_if rfl (ev_if (by simp) ?_)
      have e : (((rd_L1 (l :: ls) 0).length : Int) == (s.length : Int)) = (true && true && decide ((rd_L1 (l :: ls) 0).length = s.length)) := by
        rw [Bool.eq_iff_iff]; simp; omega
      rw [e]
      exact Ev.now _
theorem rd_zero (l : List Int) (ls : List (List Int)) : rd_L1 (l :: ls) 0 = l := rfl
theorem ne_self (b : Bool) : ¬ (b != b) = true := by cases b <;> simp
end Go.Proofs.Ytpcjjminopdofaa.V
