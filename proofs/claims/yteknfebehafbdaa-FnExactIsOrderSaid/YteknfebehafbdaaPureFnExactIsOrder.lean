/- For all arguments the law FnExactIsOrder answers true. No condition. -/
import Derived.Test.YteknfebehafbdaaK27
import Derived.Test.YteknfebehafbdaaV0
import Derived.Test.YteknfebehafbdaaVC
import Derived.Test.YteknfebehafbdaaVO
import Derived.Test.YteknfebehafbdaaVE
import Derived.Test.YteknfebehafbdaaVT
import Derived.Test.YteknfebehafbdaaVN
import Derived.Test.YteknfebehafbdaaVQ
import Derived.Test.YteknfebehafbdaaVR
namespace Go.Proofs.Yteknfebehafbdaa.Pure
open Go.RowKit Go.Proofs.Yteknfebehafbdaa.K Go.Proofs.Yteknfebehafbdaa.V Go.Proofs.Yteknfebehafbdaa.Bx Go.Proofs.YteknfebehafbdaaW.PrintWords Go.Proofs.YteknfebehafbdaaW.PrintLast
set_option linter.unusedVariables false

theorem FnExactIsOrder : ∀ (l : List S62) (o : List Int), l.length ≤ 4398046511104 → o.length ≤ 17592186044415 → ∃ k, laws_FnExactIsOrder.f k l o = some true := by
  intro l o hm hm2
  refine Ev.rounds (g := fun k => laws_FnExactIsOrder.f k l o) ?_
  unfold laws_FnExactIsOrder.f
  by_cases hcc : (o.length : Int) > 1048576
  · exact ev_if hcc (Ev.now _)
  refine ev_else hcc (ev_eq (sz l hm) ?_)
  by_cases h : 1048576 < l.length
  · rw [if_pos h]
    exact ev_if (by decide) (Ev.now _)
  rw [if_neg h]
  refine ev_else (by omega) ?_
  have hl : l.length ≤ 1048576 := by omega
  have hc : (l.map cv).length ≤ 1048576 := by rw [List.length_map]; exact hl
  have bo : o.length ≤ 1048576 := by omega
  refine Ev.bind (toStmt l hl) (Ev.bind (toInt o bo) (Ev.bind (sIsOrder _ o hc) (Ev.bind (toStmt l hl) (Ev.bind (toInt o bo) (Ev.bind (iIsOrder _ o hc bo) ?_)))))
  exact ev_else (ne_self _) (Ev.bind (toStmt l hl) (Ev.bind (eqStmtSame _ hc) (ev_if rfl (Ev.bind (toInt o bo) (Ev.bind (eqSame o bo) (ev_if rfl (Ev.now _)))))))

end Go.Proofs.Yteknfebehafbdaa.Pure
