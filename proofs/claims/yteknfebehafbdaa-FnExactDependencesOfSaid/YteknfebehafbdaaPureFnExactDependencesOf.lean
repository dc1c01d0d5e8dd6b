/- For all arguments the law FnExactDependencesOf answers true. No condition. -/
import Derived.Test.YteknfebehafbdaaK6
import Derived.Test.YteknfebehafbdaaV0
import Derived.Test.YteknfebehafbdaaVC
import Derived.Test.YteknfebehafbdaaVO
import Derived.Test.YteknfebehafbdaaVE
import Derived.Test.YteknfebehafbdaaVM
import Derived.Test.YteknfebehafbdaaVT
import Derived.Test.YteknfebehafbdaaVN
import Derived.Test.YteknfebehafbdaaVF
namespace Go.Proofs.Yteknfebehafbdaa.Pure
open Go.RowKit Go.Proofs.Yteknfebehafbdaa.K Go.Proofs.Yteknfebehafbdaa.V Go.Proofs.Yteknfebehafbdaa.Bx Go.Proofs.YteknfebehafbdaaW.PrintWords Go.Proofs.YteknfebehafbdaaW.PrintLast
set_option linter.unusedVariables false

theorem FnExactDependencesOf : ∀ l0 : List S62, l0.length ≤ 4398046511104 → ∃ k, laws_FnExactDependencesOf.f k l0 = some true := by
  intro l hm
  refine Ev.rounds (g := fun k => laws_FnExactDependencesOf.f k l) ?_
  unfold laws_FnExactDependencesOf.f
  refine ev_eq (sz l hm) ?_
  by_cases h : 1048576 < l.length
  · rw [if_pos h]
    exact ev_if (by decide) (Ev.now _)
  rw [if_neg h]
  refine ev_else (by omega) ?_
  have hl : l.length ≤ 1048576 := by omega
  have hc : (l.map cv).length ≤ 1048576 := by rw [List.length_map]; exact hl
  obtain ⟨o, ok, ho, h2, hs, hi⟩ : ∃ (o : List (List Int)) (ok : Bool), o.length ≤ 256 ∧ (∀ r ∈ o, r.length = 2) ∧ Ev (fun k => spec_DependencesOf.f k (l.map cv)) (o, ok) ∧ Ev (fun k => impl_DependencesOf.f k (l.map cv)) (o, ok) := by
    cases hv : cOk (l.map cv) with
    | true =>
      have h16 := cOk_len hv
      refine ⟨depK (l.map cv) (l.map cv).length, true, Nat.le_trans (depK_len _ _) (Nat.le_trans (Nat.mul_le_mul h16 h16) (by decide)), depK_two _, ?_, iDeps _ hv⟩
      unfold spec_DependencesOf.f
      exact Ev.bind (sIs _ hc) (ev_if hv (ev_if (by omega) (Ev.now _)))
    | false =>
      refine ⟨[], false, by simp, fun r hr => absurd hr (by simp), ?_, ?_⟩
      · unfold spec_DependencesOf.f
        exact Ev.bind (sIs _ hc) (ev_else (by rw [hv]; decide) (Ev.now _))
      · unfold impl_DependencesOf.f
        simp only [iValid]
        exact ev_some (ev_else (by rw [hv]; decide) (Ev.now _))
  have ho2 : o.length ≤ 1048576 := by omega
  have hmk := markSS o 1 h2 (by omega) (by omega)
  have hhl := heldSS o.length 1 (by omega) (by omega) ho2
  obtain ⟨t, ht⟩ := V.markS (l.map cv) 1 hc (by omega)
  refine Ev.bind (toStmt l hl) (Ev.bind hs (Ev.bind (toStmt l hl) (Ev.bind hi (Ev.bind (eqSS o ho2 h2) (ev_if rfl ?_)))))
  refine Ev.step (fun k => by rw [laws_FnExactDependencesOf.j0]) ?_
  refine ev_else (ne_self ok) (Ev.bind (toStmt l hl) (Ev.bind (eqStmtSame _ hc) (ev_if rfl (Ev.bind ht (ev_else (by show ¬ (1 + 4 * ((l.map cv).length : Int) < 0); omega) (Ev.bind (eqSS o ho2 h2) (ev_if rfl ?_)))))))
  refine Ev.step (fun k => by rw [laws_FnExactDependencesOf.j1]) ?_
  refine ev_else (ne_self ok) (Ev.bind (hmk) (Ev.bind (hhl) (ev_else (by show ¬ (1 + 2 * (o.length : Int) < 0); omega) (ev_if rfl (Ev.bind (toStmt l hl) (Ev.bind hi (Ev.bind (eqSS o ho2 h2) (ev_if rfl ?_))))))))
  refine Ev.step (fun k => by rw [laws_FnExactDependencesOf.j2]) ?_
  exact ev_else (ne_self ok) (Ev.bind (hhl) (ev_else (by show ¬ (1 + 2 * (o.length : Int) < 0); omega) (ev_if rfl (Ev.now _))))

end Go.Proofs.Yteknfebehafbdaa.Pure
