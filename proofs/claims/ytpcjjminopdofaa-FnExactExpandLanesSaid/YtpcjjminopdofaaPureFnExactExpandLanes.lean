/- For all arguments the law FnExactExpandLanes answers true. No condition. -/
import Derived.Test.YtpcjjminopdofaaK28
import Derived.Test.YtpcjjminopdofaaV8
namespace Go.Proofs.Ytpcjjminopdofaa.Pure
open Go.RowKit Go.Proofs.Ytpcjjminopdofaa.K Go.Proofs.Ytpcjjminopdofaa.V Go.Proofs.Ytpcjjminopdofaa.Bx Go.Proofs.YtpcjjminopdofaaW.PrintWords Go.Proofs.YtpcjjminopdofaaW.PrintLast
set_option linter.unusedVariables false

theorem FnExactExpandLanes : laws_FnExactExpandLanes.Pure := by
  intro b s l _ _ _ _ _ _ _
  refine Ev.rounds (g := fun k => laws_FnExactExpandLanes.f k b s l) ?_
  unfold laws_FnExactExpandLanes.f
  by_cases hs : (s.length : Int) > 1048576
  · exact ev_if hs (Ev.now _)
  refine ev_else hs ?_
  by_cases hl : (l.length : Int) > 1048576
  · exact ev_if hl (Ev.now _)
  refine ev_else hl ?_
  have bs : s.length ≤ 1048576 := by omega
  have bl : l.length ≤ 1048576 := by omega
  obtain ⟨o, ok, ho, hs, hi⟩ : ∃ (o : List Int) (ok : Bool), o.length ≤ 1048576 ∧ Ev (fun k => spec_ExpandLanes.f k b s l) (o, ok) ∧ Ev (fun k => impl_ExpandLanes.f k b s l) (o, ok) := by
    by_cases hb : vec b l = true
    · by_cases hk : (decide ((s.length : Int) = (l.length : Int)) && msk s) = true
      · have hk2 := hk
        rw [Bool.and_eq_true, decide_eq_true_eq] at hk2
        refine ⟨(List.range l.length).map (exd s l), true, by simpa using bl, ?_, ?_⟩
        · unfold spec_ExpandLanes.f
          refine Ev.bind (sIs b l bl) (ev_if hb (Ev.bind (sMask s _ bs) ?_))
          refine Ev.step (fun k => by rw [spec_ExpandLanes.j0]) ?_
          exact ev_else (by rw [hk]; simp) (sExpand (by omega) bl)
        · unfold impl_ExpandLanes.f
          exact Ev.bind (iMasked b s l []) (ev_if (by rw [masked_one, hb, hk]; rfl) (ev_if (by omega) (ev_if (by rw [Int.toNat_natCast]; omega) (by rw [Int.toNat_natCast]; exact iExpand (by omega) bl))))
      · have e3 : (decide ((s.length : Int) = (l.length : Int)) && msk s) = false := by
          rw [Bool.not_eq_true] at hk
          exact hk
        refine ⟨[], false, by simp, ?_, ?_⟩
        · unfold spec_ExpandLanes.f
          refine Ev.bind (sIs b l bl) (ev_if hb (Ev.bind (sMask s _ bs) ?_))
          refine Ev.step (fun k => by rw [spec_ExpandLanes.j0]) ?_
          exact ev_if (by rw [e3]; rfl) (Ev.now _)
        · unfold impl_ExpandLanes.f
          exact Ev.bind (iMasked b s l []) (ev_else (by rw [masked_one, hb, e3]; simp) (Ev.now _))
    · refine ⟨[], false, by simp, ?_, ?_⟩
      · unfold spec_ExpandLanes.f
        refine Ev.bind (sIs b l bl) (ev_else hb ?_)
        refine Ev.step (fun k => by rw [spec_ExpandLanes.j0]) ?_
        exact ev_if rfl (Ev.now _)
      · unfold impl_ExpandLanes.f
        exact Ev.bind (iMasked b s l []) (ev_else (by rw [masked_one, Bool.and_eq_true]; exact fun h => hb h.1) (Ev.now _))
  refine Ev.bind (toInt s bs) (Ev.bind (toInt l bl) (Ev.bind hs (Ev.bind (toInt s bs) (Ev.bind (toInt l bl) (Ev.bind hi (Ev.bind (eqSame o ho) (ev_if rfl ?_)))))))
  refine Ev.step (fun k => by rw [laws_FnExactExpandLanes.j0]) ?_
  refine ev_else (ne_self ok) (Ev.bind (toInt s bs) (Ev.bind (eqSame s bs) (ev_if rfl (Ev.bind (toInt l bl) (Ev.bind (eqSame l bl) (ev_if rfl (Ev.bind (V.mark s (1) bs (by omega)) (Ev.bind (V.mark l (1 + (s.length : Int)) bl (by omega)) (ev_else (by show ¬ (1 + (s.length : Int) + (l.length : Int) < 0); omega) (Ev.bind (eqSame o ho) (ev_if rfl ?_)))))))))))
  refine Ev.step (fun k => by rw [laws_FnExactExpandLanes.j1]) ?_
  refine ev_else (ne_self ok) (Ev.bind (V.mark o 1 ho (by omega)) (Ev.bind (V.held o.length 1 ho (by omega)) (ev_else (by show ¬ (1 + (o.length : Int) < 0); omega) (ev_if rfl (Ev.bind (toInt s bs) (Ev.bind (toInt l bl) (Ev.bind hi (Ev.bind (eqSame o ho) (ev_if rfl ?_)))))))))
  refine Ev.step (fun k => by rw [laws_FnExactExpandLanes.j2]) ?_
  exact ev_else (ne_self ok) (Ev.bind (V.held o.length 1 ho (by omega)) (ev_else (by show ¬ (1 + (o.length : Int) < 0); omega) (ev_if rfl (Ev.now _))))

end Go.Proofs.Ytpcjjminopdofaa.Pure
