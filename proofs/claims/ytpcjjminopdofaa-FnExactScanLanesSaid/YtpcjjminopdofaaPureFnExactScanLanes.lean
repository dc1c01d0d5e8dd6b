/- For all arguments the law FnExactScanLanes answers true. No condition. -/
import Derived.Test.YtpcjjminopdofaaK31
import Derived.Test.YtpcjjminopdofaaV9
namespace Go.Proofs.Ytpcjjminopdofaa.Pure
open Go.RowKit Go.Proofs.Ytpcjjminopdofaa.K Go.Proofs.Ytpcjjminopdofaa.V Go.Proofs.Ytpcjjminopdofaa.Bx Go.Proofs.YtpcjjminopdofaaW.PrintWords Go.Proofs.YtpcjjminopdofaaW.PrintLast
set_option linter.unusedVariables false

theorem FnExactScanLanes : laws_FnExactScanLanes.Pure := by
  intro c b l _ _ _ _ _
  refine Ev.rounds (g := fun k => laws_FnExactScanLanes.f k c b l) ?_
  unfold laws_FnExactScanLanes.f
  by_cases hl : (l.length : Int) > 1048576
  · exact ev_if hl (Ev.now _)
  refine ev_else hl ?_
  have bl : l.length ≤ 1048576 := by omega
  obtain ⟨o, ok, ho, hs, hi⟩ : ∃ (o : List Int) (ok : Bool), o.length ≤ 1048576 ∧ Ev (fun k => spec_ScanLanes.f k c b l) (o, ok) ∧ Ev (fun k => impl_ScanLanes.f k c b l) (o, ok) := by
    by_cases hc : OpOk c
    · by_cases hv : vec b l = true
      · have hv2 := vec_iff.mp hv
        have h16 := lanes_le hv2.2.1
        refine ⟨(List.range l.length).map (scn c b l), true, by simpa using bl, ?_, ?_⟩
        · unfold spec_ScanLanes.f
          exact ev_eq (sOp c) (ev_if (decide_eq_true hc) (Ev.bind (sIs b l bl) (ev_if hv (Ev.bind (sScan hc hv2.2.2 (by omega) bl) (Ev.now _)))))
        · unfold impl_ScanLanes.f
          exact ev_eq (iOp c) (ev_if (decide_eq_true hc) (Ev.bind (Ev.now (vec b l)) (ev_if hv (Ev.bind (iScan hc hv2.2.2 (by omega) bl) (Ev.now _)))))
      · refine ⟨[], false, by simp, ?_, ?_⟩
        · unfold spec_ScanLanes.f
          exact ev_eq (sOp c) (ev_if (decide_eq_true hc) (Ev.bind (sIs b l bl) (ev_else hv (Ev.now _))))
        · unfold impl_ScanLanes.f
          exact ev_eq (iOp c) (ev_if (decide_eq_true hc) (Ev.bind (Ev.now (vec b l)) (ev_else hv (Ev.now _))))
    · refine ⟨[], false, by simp, ?_, ?_⟩
      · unfold spec_ScanLanes.f
        exact ev_eq (sOp c) (ev_else (by rw [decide_eq_true_eq]; exact hc) (Ev.now _))
      · unfold impl_ScanLanes.f
        exact ev_eq (iOp c) (ev_else (by rw [decide_eq_true_eq]; exact hc) (Ev.now _))
  refine Ev.bind (toInt l bl) (Ev.bind hs (Ev.bind (toInt l bl) (Ev.bind hi (Ev.bind (eqSame o ho) (ev_if rfl ?_)))))
  refine Ev.step (fun k => by rw [laws_FnExactScanLanes.j0]) ?_
  refine ev_else (ne_self ok) (Ev.bind (toInt l bl) (Ev.bind (eqSame l bl) (ev_if rfl (Ev.bind (V.mark l (1) bl (by omega)) (ev_else (by show ¬ (1 + (l.length : Int) < 0); omega) (Ev.bind (eqSame o ho) (ev_if rfl ?_)))))))
  refine Ev.step (fun k => by rw [laws_FnExactScanLanes.j1]) ?_
  refine ev_else (ne_self ok) (Ev.bind (V.mark o 1 ho (by omega)) (Ev.bind (V.held o.length 1 ho (by omega)) (ev_else (by show ¬ (1 + (o.length : Int) < 0); omega) (ev_if rfl (Ev.bind (toInt l bl) (Ev.bind hi (Ev.bind (eqSame o ho) (ev_if rfl ?_))))))))
  refine Ev.step (fun k => by rw [laws_FnExactScanLanes.j2]) ?_
  exact ev_else (ne_self ok) (Ev.bind (V.held o.length 1 ho (by omega)) (ev_else (by show ¬ (1 + (o.length : Int) < 0); omega) (ev_if rfl (Ev.now _))))

end Go.Proofs.Ytpcjjminopdofaa.Pure
