/- For all arguments the law FnExactReduceLanes answers true. No condition. -/
import Derived.Test.YtpcjjminopdofaaK22
import Derived.Test.YtpcjjminopdofaaV6
namespace Go.Proofs.Ytpcjjminopdofaa.Pure
open Go.RowKit Go.Proofs.Ytpcjjminopdofaa.K Go.Proofs.Ytpcjjminopdofaa.V Go.Proofs.Ytpcjjminopdofaa.Bx Go.Proofs.YtpcjjminopdofaaW.PrintWords Go.Proofs.YtpcjjminopdofaaW.PrintLast
set_option linter.unusedVariables false

theorem FnExactReduceLanes : laws_FnExactReduceLanes.Pure := by
  intro c b l _ _ _ _ _
  refine Ev.rounds (g := fun k => laws_FnExactReduceLanes.f k c b l) ?_
  unfold laws_FnExactReduceLanes.f
  by_cases h : (l.length : Int) > 1048576
  · exact ev_if h (Ev.now _)
  refine ev_else h ?_
  have hl : l.length ≤ 1048576 := by omega
  obtain ⟨v, ok, hs, hi⟩ : ∃ (v : Int) (ok : Bool), Ev (fun k => spec_ReduceLanes.f k c b l) (v, ok) ∧ Ev (fun k => impl_ReduceLanes.f k c b l) (v, ok) := by
    by_cases hc : OpOk c
    · by_cases hv : vec b l = true
      · have hv2 := vec_iff.mp hv
        obtain ⟨e, he, hel⟩ := lanes_pow hv2.2.1
        obtain ⟨v, hs, hi⟩ := folds c b hc e l he hel hv2.2.2
        refine ⟨v, true, ?_, ?_⟩
        · unfold spec_ReduceLanes.f
          refine ev_eq (sOp c) (ev_if (decide_eq_true hc) (Ev.bind (sIs b l hl) (ev_if hv (Ev.bind (a := v) ?_ (Ev.now _)))))
          unfold spec_l02Reduce.f
          exact ev_eq (sOwn l hl) hs
        · unfold impl_ReduceLanes.f
          refine ev_eq (iOp c) (ev_if (decide_eq_true hc) (Ev.bind (Ev.now (vec b l)) (ev_if hv (Ev.bind (a := v) ?_ (Ev.now _)))))
          unfold impl_reduced.f
          exact hi
      · refine ⟨0, false, ?_, ?_⟩
        · unfold spec_ReduceLanes.f
          exact ev_eq (sOp c) (ev_if (decide_eq_true hc) (Ev.bind (sIs b l hl) (ev_else hv (Ev.now _))))
        · unfold impl_ReduceLanes.f
          exact ev_eq (iOp c) (ev_if (decide_eq_true hc) (Ev.bind (Ev.now (vec b l)) (ev_else hv (Ev.now _))))
    · refine ⟨0, false, ?_, ?_⟩
      · unfold spec_ReduceLanes.f
        exact ev_eq (sOp c) (ev_else (by rw [decide_eq_true_eq]; exact hc) (Ev.now _))
      · unfold impl_ReduceLanes.f
        exact ev_eq (iOp c) (ev_else (by rw [decide_eq_true_eq]; exact hc) (Ev.now _))
  refine Ev.bind (toInt l hl) (Ev.bind hs (Ev.bind (toInt l hl) (Ev.bind hi (ev_if rfl ?_))))
  refine Ev.step (fun k => by rw [laws_FnExactReduceLanes.j0]) ?_
  exact ev_else (ne_self ok) (Ev.bind (toInt l hl) (Ev.bind (eqSame l hl) (ev_if rfl (Ev.now _))))

end Go.Proofs.Ytpcjjminopdofaa.Pure
