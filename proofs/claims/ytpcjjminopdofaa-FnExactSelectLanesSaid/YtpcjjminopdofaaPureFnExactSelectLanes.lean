/- For all arguments the law FnExactSelectLanes answers true. No condition. -/
import Derived.Test.YtpcjjminopdofaaK20
import Derived.Test.YtpcjjminopdofaaV6
namespace Go.Proofs.Ytpcjjminopdofaa.Pure
open Go.RowKit Go.Proofs.Ytpcjjminopdofaa.K Go.Proofs.Ytpcjjminopdofaa.V Go.Proofs.Ytpcjjminopdofaa.Bx Go.Proofs.YtpcjjminopdofaaW.PrintWords Go.Proofs.YtpcjjminopdofaaW.PrintLast
set_option linter.unusedVariables false

theorem FnExactSelectLanes : laws_FnExactSelectLanes.Pure := by
  intro b s l m _ _ _ _ _ _ _ _ _ _
  refine Ev.rounds (g := fun k => laws_FnExactSelectLanes.f k b s l m) ?_
  unfold laws_FnExactSelectLanes.f
  by_cases hs : (s.length : Int) > 1048576
  · exact ev_if hs (Ev.now _)
  refine ev_else hs ?_
  by_cases hl : (l.length : Int) > 1048576
  · exact ev_if hl (Ev.now _)
  refine ev_else hl ?_
  by_cases hm : (m.length : Int) > 1048576
  · exact ev_if hm (Ev.now _)
  refine ev_else hm ?_
  have bs : s.length ≤ 1048576 := by omega
  have bl : l.length ≤ 1048576 := by omega
  have bm : m.length ≤ 1048576 := by omega
  obtain ⟨o, ok, ho, hs, hi⟩ : ∃ (o : List Int) (ok : Bool), o.length ≤ 1048576 ∧ Ev (fun k => spec_SelectLanes.f k b s l m) (o, ok) ∧ Ev (fun k => impl_SelectLanes.f k b s l m) (o, ok) := by
    by_cases hb : both b l m = true
    · by_cases hk : (decide ((s.length : Int) = (l.length : Int)) && msk s) = true
      · obtain ⟨hbits, hlan, hwl, hwm, hlen⟩ := both_iff hb
        have h16 := lanes_le hlan
        have hk2 := hk
        rw [Bool.and_eq_true, decide_eq_true_eq] at hk2
        refine ⟨(List.range l.length).map fun (j : Nat) => sel (rd s (j : Int)) (rd l (j : Int)) (rd m (j : Int)), true, by simpa using bl, ?_, ?_⟩
        · unfold spec_SelectLanes.f
          exact Ev.bind (sBoth b l m bl bm) (ev_if hb (Ev.bind (sMask s _ bs) (ev_if hk (Ev.bind (sSelect (by omega) hlen bl) (Ev.now _)))))
        · unfold impl_SelectLanes.f
          exact Ev.bind (iMasked b s l [m]) (ev_if (by rw [masked_two, hb, hk]; rfl) (Ev.bind (iSelected (by omega) hlen (by omega)) (Ev.now _)))
      · refine ⟨[], false, by simp, ?_, ?_⟩
        · unfold spec_SelectLanes.f
          exact Ev.bind (sBoth b l m bl bm) (ev_if hb (Ev.bind (sMask s _ bs) (ev_else hk (Ev.now _))))
        · unfold impl_SelectLanes.f
          exact Ev.bind (iMasked b s l [m]) (ev_else (by rw [masked_two, hb, Bool.true_and]; exact hk) (Ev.now _))
    · refine ⟨[], false, by simp, ?_, ?_⟩
      · unfold spec_SelectLanes.f
        exact Ev.bind (sBoth b l m bl bm) (ev_else hb (Ev.now _))
      · unfold impl_SelectLanes.f
        exact Ev.bind (iMasked b s l [m]) (ev_else (by rw [masked_two, Bool.and_eq_true]; exact fun h => hb h.1) (Ev.now _))
  refine Ev.bind (toInt s bs) (Ev.bind (toInt l bl) (Ev.bind (toInt m bm) (Ev.bind hs (Ev.bind (toInt s bs) (Ev.bind (toInt l bl) (Ev.bind (toInt m bm) (Ev.bind hi (Ev.bind (eqSame o ho) (ev_if rfl ?_)))))))))
  refine Ev.step (fun k => by rw [laws_FnExactSelectLanes.j0]) ?_
  refine ev_else (ne_self ok) (Ev.bind (toInt s bs) (Ev.bind (eqSame s bs) (ev_if rfl (Ev.bind (toInt l bl) (Ev.bind (eqSame l bl) (ev_if rfl (Ev.bind (toInt m bm) (Ev.bind (eqSame m bm) (ev_if rfl (Ev.bind (V.mark s (1) bs (by omega)) (Ev.bind (V.mark l (1 + (s.length : Int)) bl (by omega)) (Ev.bind (V.mark m (1 + (s.length : Int) + (l.length : Int)) bm (by omega)) (ev_else (by show ¬ (1 + (s.length : Int) + (l.length : Int) + (m.length : Int) < 0); omega) (Ev.bind (eqSame o ho) (ev_if rfl ?_)))))))))))))))
  refine Ev.step (fun k => by rw [laws_FnExactSelectLanes.j1]) ?_
  refine ev_else (ne_self ok) (Ev.bind (V.mark o 1 ho (by omega)) (Ev.bind (V.held o.length 1 ho (by omega)) (ev_else (by show ¬ (1 + (o.length : Int) < 0); omega) (ev_if rfl (Ev.bind (toInt s bs) (Ev.bind (toInt l bl) (Ev.bind (toInt m bm) (Ev.bind hi (Ev.bind (eqSame o ho) (ev_if rfl ?_))))))))))
  refine Ev.step (fun k => by rw [laws_FnExactSelectLanes.j2]) ?_
  exact ev_else (ne_self ok) (Ev.bind (V.held o.length 1 ho (by omega)) (ev_else (by show ¬ (1 + (o.length : Int) < 0); omega) (ev_if rfl (Ev.now _))))

end Go.Proofs.Ytpcjjminopdofaa.Pure
