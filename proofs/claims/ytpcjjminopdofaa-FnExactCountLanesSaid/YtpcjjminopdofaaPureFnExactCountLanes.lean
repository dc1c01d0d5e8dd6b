/- For all arguments the law FnExactCountLanes answers true. No condition. -/
import Derived.Test.YtpcjjminopdofaaK4
import Derived.Test.YtpcjjminopdofaaV4
namespace Go.Proofs.Ytpcjjminopdofaa.Pure
open Go.RowKit Go.Proofs.Ytpcjjminopdofaa.K Go.Proofs.Ytpcjjminopdofaa.V Go.Proofs.Ytpcjjminopdofaa.Bx Go.Proofs.YtpcjjminopdofaaW.PrintWords Go.Proofs.YtpcjjminopdofaaW.PrintLast
set_option linter.unusedVariables false

theorem FnExactCountLanes : laws_FnExactCountLanes.Pure := by
  intro l _ _ _
  refine Ev.rounds (g := fun k => laws_FnExactCountLanes.f k l) ?_
  unfold laws_FnExactCountLanes.f
  by_cases h : (l.length : Int) > 1048576
  · exact ev_if h (Ev.now _)
  refine ev_else h ?_
  have hl : l.length ≤ 1048576 := by omega
  have hs : Ev (fun k => spec_CountLanes.f k l) (if msk l = true then (sw l l.length, true) else (0, false)) := by
    unfold spec_CountLanes.f
    refine Ev.bind (sIsMask l hl) ?_
    by_cases hm : msk l = true
    · rw [if_pos hm]
      exact ev_if hm (Ev.bind (sCount l hl) (Ev.now _))
    · rw [if_neg hm]
      exact ev_else hm (Ev.now _)
  have hi : Ev (fun k => impl_CountLanes.f k l) (if msk l = true then (sw l l.length, true) else (0, false)) := by
    unfold impl_CountLanes.f
    refine Ev.bind (Ev.now (msk l)) ?_
    by_cases hm : msk l = true
    · rw [if_pos hm]
      exact ev_if hm (Ev.bind (iSum l hl) (Ev.now _))
    · rw [if_neg hm]
      exact ev_else hm (Ev.now _)
  refine Ev.bind (toInt l hl) (Ev.bind hs (Ev.bind (toInt l hl) (Ev.bind hi (ev_if rfl ?_))))
  refine Ev.step (f := fun k => (laws_toInt64S.f k l).bind fun t218 => ((laws_eqInt64S.f k l t218).bind fun t221 => (if t221 = true then (some true) else (some false)))) (fun k => ?_) ?_
  · simp only [laws_FnExactCountLanes.j0]
    rw [if_neg (by simp)]
  · exact Ev.bind (toInt l hl) (Ev.bind (eqSame l hl) (ev_if rfl (Ev.now _)))

end Go.Proofs.Ytpcjjminopdofaa.Pure
