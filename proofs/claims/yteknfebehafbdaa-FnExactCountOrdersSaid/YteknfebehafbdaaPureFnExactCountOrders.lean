/- For all arguments the law FnExactCountOrders answers true. No condition. -/
import Derived.Test.YteknfebehafbdaaK35
import Derived.Test.YteknfebehafbdaaV0
import Derived.Test.YteknfebehafbdaaVC
import Derived.Test.YteknfebehafbdaaVK
import Derived.Test.YteknfebehafbdaaVU
namespace Go.Proofs.Yteknfebehafbdaa.Pure
open Go.RowKit Go.Proofs.Yteknfebehafbdaa.K Go.Proofs.Yteknfebehafbdaa.V Go.Proofs.Yteknfebehafbdaa.Bx Go.Proofs.YteknfebehafbdaaW.PrintWords Go.Proofs.YteknfebehafbdaaW.PrintLast
set_option linter.unusedVariables false

theorem ne_self (b : Bool) : ¬ ((b != b) = true) := by cases b <;> decide
theorem FnExactCountOrders : ∀ l0 : List S62, l0.length ≤ 4398046511104 → ∃ k, laws_FnExactCountOrders.f k l0 = some true := by
  intro l hm
  refine Ev.rounds (g := fun k => laws_FnExactCountOrders.f k l) ?_
  unfold laws_FnExactCountOrders.f
  refine ev_eq (sz l hm) ?_
  by_cases h : 1048576 < l.length
  · rw [if_pos h]
    exact ev_if (by decide) (Ev.now _)
  rw [if_neg h]
  refine ev_else (by omega) ?_
  have hl : l.length ≤ 1048576 := by omega
  have hc : (l.map cv).length ≤ 1048576 := by rw [List.length_map]; exact hl
  obtain ⟨o, ok, hs, hi⟩ : ∃ (o : Int) (ok : Bool), Ev (fun k => spec_CountOrders.f k (l.map cv)) (o, ok) ∧ Ev (fun k => impl_CountOrders.f k (l.map cv)) (o, ok) := by
    cases hv : cOk (l.map cv) with
    | true =>
      by_cases h10 : ((l.map cv).length : Int) > 10
      · refine ⟨0, false, ?_, ?_⟩
        · unfold spec_CountOrders.f
          refine Ev.bind (sIs _ hc) (ev_if hv ?_)
          rw [decide_eq_true h10]
          exact Ev.step (fun k => by rw [spec_CountOrders.j0, if_pos rfl]) (Ev.now _)
        · unfold impl_CountOrders.f
          simp only [iValid]
          refine ev_some (ev_if hv ?_)
          rw [decide_eq_true h10]
          exact Ev.step (fun k => by rw [impl_CountOrders.j0, if_pos rfl]) (Ev.now _)
      · refine ⟨((cntG (l.map cv) (2 ^ (l.map cv).length - 1) : Nat) : Int), true, ?_, ?_⟩
        rotate_left
        · unfold impl_CountOrders.f
          simp only [iValid]
          refine ev_some (ev_if hv ?_)
          rw [decide_eq_false h10]
          exact iCount _ (by omega)
        · unfold spec_CountOrders.f
          refine Ev.bind (sIs _ hc) (ev_if hv ?_)
          rw [decide_eq_false h10]
          exact sCount _ (by omega)
    | false =>
      refine ⟨0, false, ?_, ?_⟩
      · unfold spec_CountOrders.f
        refine Ev.bind (sIs _ hc) (ev_else (by rw [hv]; decide) ?_)
        exact Ev.step (fun k => by rw [spec_CountOrders.j0, if_pos rfl]) (Ev.now _)
      · unfold impl_CountOrders.f
        simp only [iValid]
        refine ev_some (ev_else (by rw [hv]; decide) ?_)
        exact Ev.step (fun k => by rw [impl_CountOrders.j0, if_pos rfl]) (Ev.now _)
  refine Ev.bind (toStmt l hl) (Ev.bind hs (Ev.bind (toStmt l hl) (Ev.bind hi (ev_if rfl ?_))))
  refine Ev.step (fun k => by rw [laws_FnExactCountOrders.j0]) ?_
  exact ev_else (ne_self ok) (Ev.bind (toStmt l hl) (Ev.bind (eqStmtSame _ hc) (ev_if rfl (Ev.now _))))

end Go.Proofs.Yteknfebehafbdaa.Pure
