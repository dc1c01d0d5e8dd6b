/- For all arguments the law FnExactFirstLane answers true. No condition. -/
import Derived.Test.YtpcjjminopdofaaK5
import Derived.Test.YtpcjjminopdofaaV4
namespace Go.Proofs.Ytpcjjminopdofaa.Pure
open Go.RowKit Go.Proofs.Ytpcjjminopdofaa.K Go.Proofs.Ytpcjjminopdofaa.V Go.Proofs.Ytpcjjminopdofaa.Bx Go.Proofs.YtpcjjminopdofaaW.PrintWords Go.Proofs.YtpcjjminopdofaaW.PrintLast
set_option linter.unusedVariables false

theorem FnExactFirstLane : laws_FnExactFirstLane.Pure := by
  intro l _ _ _
  refine Ev.rounds (g := fun k => laws_FnExactFirstLane.f k l) ?_
  unfold laws_FnExactFirstLane.f
  by_cases h : (l.length : Int) > 1048576
  · exact ev_if h (Ev.now _)
  refine ev_else h ?_
  have hl : l.length ≤ 1048576 := by omega
  have hb : ∃ v : Int × Bool, Ev (fun k => spec_FirstLane.f k l) v ∧ Ev (fun k => impl_FirstLane.f k l) v := by
    obtain ⟨v, hv, hc⟩ := iIndex l hl
    by_cases hm : msk l = true
    · obtain ⟨h16, hat⟩ := mask_at l hm
      obtain ⟨_, _, hz⟩ := sw_mask l hm l.length (Nat.le_refl _)
      rcases hc with ⟨e, hn⟩ | ⟨i, hi, e, h1, hn⟩
      · have h0 : sw l l.length = 0 := hz.mpr fun j hj => (hat j hj).resolve_right (hn j hj)
        refine ⟨(0, false), ?_, ?_⟩
        · unfold spec_FirstLane.f
          refine Ev.bind (sIsMask l hl) (ev_if hm (Ev.bind (sCount l hl) ?_))
          refine Ev.step (f := fun k => some (0, false)) (fun k => ?_) (Ev.now _)
          simp only [spec_FirstLane.j0]
          rw [if_pos (by simp [h0])]
        · unfold impl_FirstLane.f
          refine Ev.bind hv (Ev.bind (Ev.now (msk l)) (ev_if hm ?_))
          subst e
          exact ev_if (by omega) (Ev.now _)
      · have h0 : ¬ sw l l.length = 0 := fun hh => by
          have := hz.mp hh i hi
          omega
        refine ⟨((i : Int), true), ?_, ?_⟩
        · unfold spec_FirstLane.f
          refine Ev.bind (sIsMask l hl) (ev_if hm (Ev.bind (sCount l hl) ?_))
          refine Ev.step (f := fun k => spec_FirstLane.l0 k l 0) (fun k => ?_) (sFirst l hm i hi h1 fun j hj => (hat j (by omega)).resolve_right (hn j hj))
          simp only [spec_FirstLane.j0]
          rw [if_neg (by simp [h0])]
        · unfold impl_FirstLane.f
          refine Ev.bind hv (Ev.bind (Ev.now (msk l)) (ev_if hm ?_))
          subst e
          exact ev_else (by omega) (Ev.now _)
    · refine ⟨(0, false), ?_, ?_⟩
      · unfold spec_FirstLane.f
        refine Ev.bind (sIsMask l hl) (ev_else hm ?_)
        refine Ev.step (f := fun k => some (0, false)) (fun k => ?_) (Ev.now _)
        simp only [spec_FirstLane.j0]
        rw [if_pos trivial]
      · unfold impl_FirstLane.f
        exact Ev.bind hv (Ev.bind (Ev.now (msk l)) (ev_else hm (Ev.now _)))
  obtain ⟨v, hs, hi⟩ := hb
  refine Ev.bind (toInt l hl) (Ev.bind hs (Ev.bind (toInt l hl) (Ev.bind hi (ev_if rfl ?_))))
  refine Ev.step (f := fun k => (laws_toInt64S.f k l).bind fun t238 => ((laws_eqInt64S.f k l t238).bind fun t241 => (if t241 = true then (some true) else (some false)))) (fun k => ?_) ?_
  · simp only [laws_FnExactFirstLane.j0]
    rw [if_neg (by simp)]
  · exact Ev.bind (toInt l hl) (Ev.bind (eqSame l hl) (ev_if rfl (Ev.now _)))

end Go.Proofs.Ytpcjjminopdofaa.Pure
