/- For all arguments the law FnExactLaneWiseMasked answers true. No condition. -/
import Derived.Test.YtpcjjminopdofaaK18
import Derived.Test.YtpcjjminopdofaaV6
namespace Go.Proofs.Ytpcjjminopdofaa.Pure
open Go.RowKit Go.Proofs.Ytpcjjminopdofaa.K Go.Proofs.Ytpcjjminopdofaa.V Go.Proofs.Ytpcjjminopdofaa.Bx Go.Proofs.YtpcjjminopdofaaW.PrintWords Go.Proofs.YtpcjjminopdofaaW.PrintLast
set_option linter.unusedVariables false

theorem FnExactLaneWiseMasked : laws_FnExactLaneWiseMasked.Pure := by
  intro c b s d l m _ _ _ _ _ _ _ _ _ _ _ _ _ _
  refine Ev.rounds (g := fun k => laws_FnExactLaneWiseMasked.f k c b s d l m) ?_
  unfold laws_FnExactLaneWiseMasked.f
  by_cases hs : (s.length : Int) > 1048576
  · exact ev_if hs (Ev.now _)
  refine ev_else hs ?_
  by_cases hd : (d.length : Int) > 1048576
  · exact ev_if hd (Ev.now _)
  refine ev_else hd ?_
  by_cases hl : (l.length : Int) > 1048576
  · exact ev_if hl (Ev.now _)
  refine ev_else hl ?_
  by_cases hm : (m.length : Int) > 1048576
  · exact ev_if hm (Ev.now _)
  refine ev_else hm ?_
  have bs : s.length ≤ 1048576 := by omega
  have bd : d.length ≤ 1048576 := by omega
  have bl : l.length ≤ 1048576 := by omega
  have bm : m.length ≤ 1048576 := by omega
  obtain ⟨o, ok, ho, hs, hi⟩ : ∃ (o : List Int) (ok : Bool), o.length ≤ 1048576 ∧ Ev (fun k => spec_LaneWiseMasked.f k c b s d l m) (o, ok) ∧ Ev (fun k => impl_LaneWiseMasked.f k c b s d l m) (o, ok) := by
    by_cases hc : OpOk c
    rotate_left
    · refine ⟨[], false, by simp, ?_, ?_⟩
      · unfold spec_LaneWiseMasked.f
        refine ev_eq (sOp c) (ev_else (by rw [decide_eq_true_eq]; exact hc) ?_)
        refine Ev.step (fun k => by rw [spec_LaneWiseMasked.j0]) ?_
        exact ev_if rfl (Ev.now _)
      · unfold impl_LaneWiseMasked.f
        refine ev_eq (iOp c) (ev_else (by rw [decide_eq_true_eq]; exact hc) ?_)
        refine Ev.step (fun k => by rw [impl_LaneWiseMasked.j0]) ?_
        exact ev_if rfl (Ev.now _)
    have hM := masked_three b s d l m
    by_cases h1 : both b l m = true
    rotate_left
    · have e1 : both b l m = false := by simpa using h1
      rw [e1, Bool.false_and, Bool.false_and] at hM
      refine ⟨[], false, by simp, ?_, ?_⟩
      · unfold spec_LaneWiseMasked.f
        refine ev_eq (sOp c) (ev_if (decide_eq_true hc) (Ev.bind (sBoth b l m bl bm) (ev_else h1 ?_)))
        refine Ev.step (fun k => by rw [spec_LaneWiseMasked.j0]) ?_
        exact ev_if (by rfl) (Ev.now _)
      · unfold impl_LaneWiseMasked.f
        refine ev_eq (iOp c) (ev_if (decide_eq_true hc) (Ev.bind (iMasked b s d [l, m]) ?_))
        refine Ev.step (fun k => by rw [impl_LaneWiseMasked.j0]) ?_
        exact ev_if (by rw [hM]; rfl) (Ev.now _)
    by_cases h2 : both b l d = true
    rotate_left
    · have e2 : both b l d = false := by simpa using h2
      rw [e2, Bool.and_false, Bool.false_and] at hM
      refine ⟨[], false, by simp, ?_, ?_⟩
      · unfold spec_LaneWiseMasked.f
        refine ev_eq (sOp c) (ev_if (decide_eq_true hc) (Ev.bind (sBoth b l m bl bm) (ev_if h1 (Ev.bind (sBoth b l d bl bd) (ev_else h2 ?_)))))
        refine Ev.step (fun k => by rw [spec_LaneWiseMasked.j0]) ?_
        exact ev_if (by rfl) (Ev.now _)
      · unfold impl_LaneWiseMasked.f
        refine ev_eq (iOp c) (ev_if (decide_eq_true hc) (Ev.bind (iMasked b s d [l, m]) ?_))
        refine Ev.step (fun k => by rw [impl_LaneWiseMasked.j0]) ?_
        exact ev_if (by rw [hM]; rfl) (Ev.now _)
    by_cases h3 : (decide ((s.length : Int) = (l.length : Int)) && msk s) = true
    rotate_left
    · have e3 : (decide ((s.length : Int) = (l.length : Int)) && msk s) = false := by
        rw [Bool.not_eq_true] at h3
        exact h3
      rw [e3, Bool.and_false] at hM
      refine ⟨[], false, by simp, ?_, ?_⟩
      · unfold spec_LaneWiseMasked.f
        refine ev_eq (sOp c) (ev_if (decide_eq_true hc) (Ev.bind (sBoth b l m bl bm) (ev_if h1 (Ev.bind (sBoth b l d bl bd) (ev_if h2 (Ev.bind (sMask s _ bs) ?_))))))
        refine Ev.step (fun k => by rw [spec_LaneWiseMasked.j0]) ?_
        exact ev_if (by rw [e3]; rfl) (Ev.now _)
      · unfold impl_LaneWiseMasked.f
        refine ev_eq (iOp c) (ev_if (decide_eq_true hc) (Ev.bind (iMasked b s d [l, m]) ?_))
        refine Ev.step (fun k => by rw [impl_LaneWiseMasked.j0]) ?_
        exact ev_if (by rw [hM]; rfl) (Ev.now _)
    rw [h1, h2, h3] at hM
    obtain ⟨hbits, hlan, hwl, hwm, hlen⟩ := both_iff h1
    obtain ⟨_, _, _, hwd, hlen2⟩ := both_iff h2
    have h16 := lanes_le hlan
    have hk2 := h3
    rw [Bool.and_eq_true, decide_eq_true_eq] at hk2
    generalize hT : ((List.range l.length).map fun (j : Nat) => res c b (rd l (j : Int)) (rd m (j : Int))) = T
    have hTl : T.length = l.length := by rw [← hT]; simp
    refine ⟨(List.range T.length).map fun (j : Nat) => sel (rd s (j : Int)) (rd T (j : Int)) (rd d (j : Int)), true, by simp; omega, ?_, ?_⟩
    · unfold spec_LaneWiseMasked.f
      refine ev_eq (sOp c) (ev_if (decide_eq_true hc) (Ev.bind (sBoth b l m bl bm) (ev_if h1 (Ev.bind (sBoth b l d bl bd) (ev_if h2 (Ev.bind (sMask s _ bs) ?_))))))
      refine Ev.step (fun k => by rw [spec_LaneWiseMasked.j0]) ?_
      refine ev_else (by rw [h3]; simp) (Ev.bind (sWise hc hwl hwm hlen bl) ?_)
      rw [hT]
      exact Ev.bind (sSelect (by omega) (by omega) (by omega)) (Ev.now _)
    · unfold impl_LaneWiseMasked.f
      refine ev_eq (iOp c) (ev_if (decide_eq_true hc) (Ev.bind (iMasked b s d [l, m]) ?_))
      refine Ev.step (fun k => by rw [impl_LaneWiseMasked.j0]) ?_
      refine ev_else (by rw [hM]; simp) (Ev.bind (iWise hc hwl hwm hlen (by omega)) ?_)
      rw [hT]
      exact Ev.bind (iSelected (by omega) (by omega) (by omega)) (Ev.now _)
  refine Ev.bind (toInt s bs) (Ev.bind (toInt d bd) (Ev.bind (toInt l bl) (Ev.bind (toInt m bm) (Ev.bind hs (Ev.bind (toInt s bs) (Ev.bind (toInt d bd) (Ev.bind (toInt l bl) (Ev.bind (toInt m bm) (Ev.bind hi (Ev.bind (eqSame o ho) (ev_if rfl ?_)))))))))))
  refine Ev.step (fun k => by rw [laws_FnExactLaneWiseMasked.j0]) ?_
  refine ev_else (ne_self ok) (Ev.bind (toInt s bs) (Ev.bind (eqSame s bs) (ev_if rfl (Ev.bind (toInt d bd) (Ev.bind (eqSame d bd) (ev_if rfl (Ev.bind (toInt l bl) (Ev.bind (eqSame l bl) (ev_if rfl (Ev.bind (toInt m bm) (Ev.bind (eqSame m bm) (ev_if rfl (Ev.bind (V.mark s (1) bs (by omega)) (Ev.bind (V.mark d (1 + (s.length : Int)) bd (by omega)) (Ev.bind (V.mark l (1 + (s.length : Int) + (d.length : Int)) bl (by omega)) (Ev.bind (V.mark m (1 + (s.length : Int) + (d.length : Int) + (l.length : Int)) bm (by omega)) (ev_else (by show ¬ (1 + (s.length : Int) + (d.length : Int) + (l.length : Int) + (m.length : Int) < 0); omega) (Ev.bind (eqSame o ho) (ev_if rfl ?_)))))))))))))))))))
  refine Ev.step (fun k => by rw [laws_FnExactLaneWiseMasked.j1]) ?_
  refine ev_else (ne_self ok) (Ev.bind (V.mark o 1 ho (by omega)) (Ev.bind (V.held o.length 1 ho (by omega)) (ev_else (by show ¬ (1 + (o.length : Int) < 0); omega) (ev_if rfl (Ev.bind (toInt s bs) (Ev.bind (toInt d bd) (Ev.bind (toInt l bl) (Ev.bind (toInt m bm) (Ev.bind hi (Ev.bind (eqSame o ho) (ev_if rfl ?_)))))))))))
  refine Ev.step (fun k => by rw [laws_FnExactLaneWiseMasked.j2]) ?_
  exact ev_else (ne_self ok) (Ev.bind (V.held o.length 1 ho (by omega)) (ev_else (by show ¬ (1 + (o.length : Int) < 0); omega) (ev_if rfl (Ev.now _))))

end Go.Proofs.Ytpcjjminopdofaa.Pure
