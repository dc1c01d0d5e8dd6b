/- For all arguments the law FnExactMustFollow answers true. No condition. -/
import Derived.Test.YteknfebehafbdaaK18
import Derived.Test.YteknfebehafbdaaV0
import Derived.Test.YteknfebehafbdaaVC
import Derived.Test.YteknfebehafbdaaVN
namespace Go.Proofs.Yteknfebehafbdaa.Pure
open Go.RowKit Go.Proofs.Yteknfebehafbdaa.K Go.Proofs.Yteknfebehafbdaa.V Go.Proofs.Yteknfebehafbdaa.Bx Go.Proofs.YteknfebehafbdaaW.PrintWords Go.Proofs.YteknfebehafbdaaW.PrintLast
set_option linter.unusedVariables false

theorem cOk_len {l : List S58} (h : cOk l = true) : l.length ≤ 16 := by
  unfold cOk at h
  rw [Bool.and_eq_true] at h
  exact of_decide_eq_true h.1
theorem sMust (l : List S58) (i j : Int) (hl : l.length ≤ 1048576) : Ev (fun k => spec_MustFollow.f k l i j) (cOk l && (decide (0 ≤ i ∧ i < j ∧ j < (l.length : Int)) && mst (rd_T58 l i) (rd_T58 l j))) := by
  unfold spec_MustFollow.f
  refine Ev.bind (sIs l hl) ?_
  cases hc : cOk l with
  | false => exact ev_else (by decide) (Ev.now _)
  | true =>
    have h16 := cOk_len hc
    refine ev_if rfl ?_
    rw [sIn]
    have e1 : wrap64 ((l.length : Int) - 1) = (l.length : Int) - 1 := w_small (by omega)
    rw [e1]
    by_cases h1 : 0 ≤ j ∧ j ≤ (l.length : Int) - 1
    · rw [decide_eq_true h1]
      refine ev_some (ev_if rfl ?_)
      have e2 : wrap64 (j - 1) = j - 1 := w_small (by omega)
      rw [sIn, e2]
      by_cases h2 : 0 ≤ i ∧ i ≤ j - 1
      · rw [decide_eq_true h2]
        refine ev_some (ev_if rfl (ev_if (by omega) ?_))
        rw [decide_eq_true (by omega : 0 ≤ i ∧ i < j ∧ j < (l.length : Int))]
        exact Ev.now _
      · rw [decide_eq_false h2]
        refine ev_some (ev_else (by decide) ?_)
        rw [decide_eq_false (by omega : ¬ (0 ≤ i ∧ i < j ∧ j < (l.length : Int)))]
        exact Ev.now _
    · rw [decide_eq_false h1]
      refine ev_some (ev_else (by decide) ?_)
      rw [decide_eq_false (by omega : ¬ (0 ≤ i ∧ i < j ∧ j < (l.length : Int)))]
      exact Ev.now _
theorem iMust (l : List S58) (i j : Int) (hl : l.length ≤ 1048576) : Ev (fun k => impl_MustFollow.f k l i j) (cOk l && (decide (0 ≤ i ∧ i < j ∧ j < (l.length : Int)) && mst (rd_T58 l i) (rd_T58 l j))) := by
  unfold impl_MustFollow.f
  simp only [iValid]
  refine ev_some ?_
  cases hc : cOk l with
  | false => exact ev_else (by decide) (Ev.now _)
  | true =>
    refine ev_if rfl ?_
    by_cases h1 : i ≥ 0
    · refine ev_if h1 ?_
      by_cases h2 : i < j
      · refine ev_if h2 ?_
        unfold impl_Stmt.f
        refine ev_some ?_
        by_cases h3 : j < (l.length : Int)
        · refine ev_if h3 (ev_if (by omega) (ev_if (by omega) (ev_if (by omega) (ev_if h3 ?_))))
          rw [iFollows, decide_eq_true (by omega : 0 ≤ i ∧ i < j ∧ j < (l.length : Int))]
          exact Ev.now _
        · refine ev_else h3 ?_
          rw [decide_eq_false (by omega : ¬ (0 ≤ i ∧ i < j ∧ j < (l.length : Int)))]
          exact Ev.now _
      · refine ev_else h2 ?_
        rw [decide_eq_false (by omega : ¬ (0 ≤ i ∧ i < j ∧ j < (l.length : Int)))]
        exact Ev.now _
    · refine ev_else h1 ?_
      rw [decide_eq_false (by omega : ¬ (0 ≤ i ∧ i < j ∧ j < (l.length : Int)))]
      exact Ev.now _
theorem ne_self (b : Bool) : ¬ ((b != b) = true) := by cases b <;> decide
theorem FnExactMustFollow : ∀ (l0 : List S62) (i j : Int), l0.length ≤ 4398046511104 → (Lit.int .i64 i).wf = true → (Lit.int .i64 j).wf = true → ∃ k, laws_FnExactMustFollow.f k l0 i j = some true := by
  intro l i j hm _ _
  refine Ev.rounds (g := fun k => laws_FnExactMustFollow.f k l i j) ?_
  unfold laws_FnExactMustFollow.f
  refine ev_eq (sz l hm) ?_
  by_cases h : 1048576 < l.length
  · rw [if_pos h]
    exact ev_if (by decide) (Ev.now _)
  rw [if_neg h]
  refine ev_else (by omega) ?_
  have hl : l.length ≤ 1048576 := by omega
  have hc : (l.map cv).length ≤ 1048576 := by rw [List.length_map]; exact hl
  refine Ev.bind (toStmt l hl) (Ev.bind (sMust _ i j hc) (Ev.bind (toStmt l hl) (Ev.bind (iMust _ i j hc) ?_)))
  exact ev_else (ne_self _) (Ev.bind (toStmt l hl) (Ev.bind (eqStmtSame _ hc) (ev_if rfl (Ev.now _))))

end Go.Proofs.Yteknfebehafbdaa.Pure
