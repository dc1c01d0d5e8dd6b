/- For all arguments the law FnExactLaneWise answers true. No condition. -/
import Derived.Test.YtpcjjminopdofaaK15
import Derived.Test.YtpcjjminopdofaaV5
namespace Go.Proofs.Ytpcjjminopdofaa.Pure
open Go.RowKit Go.Proofs.Ytpcjjminopdofaa.K Go.Proofs.Ytpcjjminopdofaa.V Go.Proofs.Ytpcjjminopdofaa.Bx Go.Proofs.YtpcjjminopdofaaW.PrintWords Go.Proofs.YtpcjjminopdofaaW.PrintLast
set_option linter.unusedVariables false

theorem FnExactLaneWise : laws_FnExactLaneWise.Pure := by
  intro c b l m _ _ _ _ _ _ _ _
  refine Ev.rounds (g := fun k => laws_FnExactLaneWise.f k c b l m) ?_
  unfold laws_FnExactLaneWise.f
  by_cases hl : (l.length : Int) > 1048576
  · exact ev_if hl (Ev.now _)
  refine ev_else hl ?_
  by_cases hm : (m.length : Int) > 1048576
  · exact ev_if hm (Ev.now _)
  refine ev_else hm ?_
  have bl : l.length ≤ 1048576 := by omega
  have bm : m.length ≤ 1048576 := by omega
  obtain ⟨o, ok, ho, hs, hi⟩ : ∃ (o : List Int) (ok : Bool), o.length ≤ 1048576 ∧ Ev (fun k => spec_LaneWise.f k c b l m) (o, ok) ∧ Ev (fun k => impl_LaneWise.f k c b l m) (o, ok) := by
    by_cases hc : OpOk c
    · by_cases hb : both b l m = true
      · obtain ⟨hbits, hlan, hwl, hwm, hlen⟩ := both_iff hb
        have h16 := lanes_le hlan
        refine ⟨(List.range l.length).map fun (j : Nat) => res c b (rd l (j : Int)) (rd m (j : Int)), true, by simpa using bl, ?_, ?_⟩
        · unfold spec_LaneWise.f
          exact ev_eq (sOp c) (ev_if (decide_eq_true hc) (Ev.bind (sBoth b l m bl bm) (ev_if hb (Ev.bind (sWise hc hwl hwm hlen bl) (Ev.now _)))))
        · unfold impl_LaneWise.f
          exact ev_eq (iOp c) (ev_if (decide_eq_true hc) (Ev.bind (Ev.now (vecs b [l, m])) (ev_if ((vecs_two b l m).trans hb) (Ev.bind (iWise hc hwl hwm hlen (by omega)) (Ev.now _)))))
      · refine ⟨[], false, by simp, ?_, ?_⟩
        · unfold spec_LaneWise.f
          exact ev_eq (sOp c) (ev_if (decide_eq_true hc) (Ev.bind (sBoth b l m bl bm) (ev_else hb (Ev.now _))))
        · unfold impl_LaneWise.f
          exact ev_eq (iOp c) (ev_if (decide_eq_true hc) (Ev.bind (Ev.now (vecs b [l, m])) (ev_else (by rw [vecs_two]; exact hb) (Ev.now _))))
    · refine ⟨[], false, by simp, ?_, ?_⟩
      · unfold spec_LaneWise.f
        exact ev_eq (sOp c) (ev_else (by rw [decide_eq_true_eq]; exact hc) (Ev.now _))
      · unfold impl_LaneWise.f
        exact ev_eq (iOp c) (ev_else (by rw [decide_eq_true_eq]; exact hc) (Ev.now _))
  refine Ev.bind (toInt l bl) (Ev.bind (toInt m bm) (Ev.bind hs (Ev.bind (toInt l bl) (Ev.bind (toInt m bm) (Ev.bind hi (Ev.bind (eqSame o ho) (ev_if rfl ?_)))))))
  refine Ev.step (fun k => by rw [laws_FnExactLaneWise.j0]) ?_
  refine ev_else (ne_self ok) (Ev.bind (toInt l bl) (Ev.bind (eqSame l bl) (ev_if rfl (Ev.bind (toInt m bm) (Ev.bind (eqSame m bm) (ev_if rfl (Ev.bind (V.mark l (1) bl (by omega)) (Ev.bind (V.mark m (1 + (l.length : Int)) bm (by omega)) (ev_else (by show ¬ (1 + (l.length : Int) + (m.length : Int) < 0); omega) (Ev.bind (eqSame o ho) (ev_if rfl ?_)))))))))))
  refine Ev.step (fun k => by rw [laws_FnExactLaneWise.j1]) ?_
  refine ev_else (ne_self ok) (Ev.bind (V.mark o 1 ho (by omega)) (Ev.bind (V.held o.length 1 ho (by omega)) (ev_else (by show ¬ (1 + (o.length : Int) < 0); omega) (ev_if rfl (Ev.bind (toInt l bl) (Ev.bind (toInt m bm) (Ev.bind hi (Ev.bind (eqSame o ho) (ev_if rfl ?_)))))))))
  refine Ev.step (fun k => by rw [laws_FnExactLaneWise.j2]) ?_
  exact ev_else (ne_self ok) (Ev.bind (V.held o.length 1 ho (by omega)) (ev_else (by show ¬ (1 + (o.length : Int) < 0); omega) (ev_if rfl (Ev.now _))))

end Go.Proofs.Ytpcjjminopdofaa.Pure
