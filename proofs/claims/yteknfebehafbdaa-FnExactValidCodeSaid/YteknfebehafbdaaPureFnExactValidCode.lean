/- For all arguments the law FnExactValidCode answers true. No condition. -/
import Derived.Test.YteknfebehafbdaaK2
import Derived.Test.YteknfebehafbdaaV0
import Derived.Test.YteknfebehafbdaaVC
namespace Go.Proofs.Yteknfebehafbdaa.Pure
open Go.RowKit Go.Proofs.Yteknfebehafbdaa.K Go.Proofs.Yteknfebehafbdaa.V Go.Proofs.Yteknfebehafbdaa.Bx Go.Proofs.YteknfebehafbdaaW.PrintWords Go.Proofs.YteknfebehafbdaaW.PrintLast
set_option linter.unusedVariables false

theorem FnExactValidCode : ∀ l0 : List S62, l0.length ≤ 4398046511104 → ∃ k, laws_FnExactValidCode.f k l0 = some true := by
  intro l hm
  refine Ev.rounds (g := fun k => laws_FnExactValidCode.f k l) ?_
  unfold laws_FnExactValidCode.f
  refine ev_eq (sz l hm) ?_
  by_cases h : 1048576 < l.length
  · rw [if_pos h]
    exact ev_if (by decide) (Ev.now _)
  rw [if_neg h]
  refine ev_else (by omega) ?_
  have hl : l.length ≤ 1048576 := by omega
  have hc : (l.map cv).length ≤ 1048576 := by rw [List.length_map]; exact hl
  refine Ev.bind (toStmt l hl) (Ev.bind (sValid _ hc) (Ev.bind (toStmt l hl) (Ev.bind (Ev.now (cOk (l.map cv))) ?_)))
  exact ev_else (by simp) (Ev.bind (toStmt l hl) (Ev.bind (eqStmtSame _ hc) (ev_if rfl (Ev.now _))))

end Go.Proofs.Yteknfebehafbdaa.Pure
