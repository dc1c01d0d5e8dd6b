/- For all arguments the law FnExactConflictsOf answers true. No condition. -/
import Derived.Test.YtpcjjminopdofaaK33
import Derived.Test.YtpcjjminopdofaaV5
namespace Go.Proofs.Ytpcjjminopdofaa.Pure
open Go.RowKit Go.Proofs.Ytpcjjminopdofaa.K Go.Proofs.Ytpcjjminopdofaa.V Go.Proofs.Ytpcjjminopdofaa.Bx Go.Proofs.YtpcjjminopdofaaW.PrintWords Go.Proofs.YtpcjjminopdofaaW.PrintLast
set_option linter.unusedVariables false

theorem sConf (l : List Int) (h : l.length ≤ 16) : Ev (fun k => spec_ConflictsOf.l0 k l [] 0) ((List.range l.length).map (fun (j : Nat) => cfl l (j : Int) j), true) := by
  refine loop_app (L := fun k acc i => spec_ConflictsOf.l0 k l acc i) l.length (fun (j : Nat) => cfl l (j : Int) j) ?_ ?_
  · intro i acc hi ha hk
    have key : ∀ d x : Nat, x + d = i → Ev (fun k => spec_ConflictsOf.l1 k l acc (i : Int) (cfl l (i : Int) x) (x : Int)) ((List.range l.length).map (fun (j : Nat) => cfl l (j : Int) j), true) := by
      intro d
      induction d with
      | zero =>
        intro x hx
        obtain rfl : x = i := by omega
        refine Ev.step (fun k => ?_) hk
        simp only [spec_ConflictsOf.l1]
        rw [if_neg (by omega), if_pos (by omega), w1 (by omega)]
      | succ d ih =>
        intro x hx
        refine Ev.step (f := fun k => spec_ConflictsOf.l1 k l acc (i : Int) (cfl l (i : Int) (x + 1)) ((x + 1 : Nat) : Int)) (fun k => ?_) (ih (x + 1) (by omega))
        simp only [spec_ConflictsOf.l1]
        rw [if_pos (by omega), if_pos (by omega), if_pos (by omega), if_pos (by omega), if_pos (by omega), u_small (n := (x : Int)) (by omega), w1 (by omega)]
        by_cases hq : rd l (x : Int) = rd l (i : Int)
        · rw [if_pos hq, if_pos (by omega), show cfl l (i : Int) (x + 1) = wrap64 (cfl l (i : Int) x + shl .i64 1 (x : Int)) from if_pos hq]
        · rw [if_neg hq, show cfl l (i : Int) (x + 1) = cfl l (i : Int) x from if_neg hq]
    refine Ev.step (f := fun k => spec_ConflictsOf.l1 k l acc (i : Int) 0 0) (fun k => ?_) (key i 0 (by omega))
    simp only [spec_ConflictsOf.l0]
    rw [if_pos (by omega)]
  · refine ⟨1, fun k hk => ?_⟩
    obtain ⟨k, rfl⟩ : ∃ m, k = m + 1 := ⟨k - 1, by omega⟩
    simp only [spec_ConflictsOf.l0]
    rw [if_neg (by omega)]
theorem FnExactConflictsOf : laws_FnExactConflictsOf.Pure := by
  intro l _ _ _
  refine Ev.rounds (g := fun k => laws_FnExactConflictsOf.f k l) ?_
  unfold laws_FnExactConflictsOf.f
  by_cases hl : (l.length : Int) > 1048576
  · exact ev_if hl (Ev.now _)
  refine ev_else hl ?_
  have bl : l.length ≤ 1048576 := by omega
  obtain ⟨o, ok, ho, hs, hi⟩ : ∃ (o : List Int) (ok : Bool), o.length ≤ 1048576 ∧ Ev (fun k => spec_ConflictsOf.f k l) (o, ok) ∧ Ev (fun k => impl_ConflictsOf.f k l) (o, ok) := by
    by_cases hv : vec 16 l = true
    · have h16 := lanes_le (vec_iff.mp hv).2.1
      refine ⟨(List.range l.length).map (fun (j : Nat) => cfl l (j : Int) j), true, by simpa using bl, ?_, ?_⟩
      · unfold spec_ConflictsOf.f
        exact Ev.bind (sIs 16 l bl) (ev_if hv (sConf l (by omega)))
      · refine ⟨0, fun k _ => ?_⟩
        unfold impl_ConflictsOf.f
        rw [if_pos hv]
    · refine ⟨[], false, by simp, ?_, ?_⟩
      · unfold spec_ConflictsOf.f
        exact Ev.bind (sIs 16 l bl) (ev_else hv (Ev.now _))
      · refine ⟨0, fun k _ => ?_⟩
        unfold impl_ConflictsOf.f
        rw [if_neg hv]
  refine Ev.bind (toInt l bl) (Ev.bind hs (Ev.bind (toInt l bl) (Ev.bind hi (Ev.bind (eqSame o ho) (ev_if rfl ?_)))))
  refine Ev.step (fun k => by rw [laws_FnExactConflictsOf.j0]) ?_
  refine ev_else (ne_self ok) (Ev.bind (toInt l bl) (Ev.bind (eqSame l bl) (ev_if rfl (Ev.bind (V.mark l (1) bl (by omega)) (ev_else (by show ¬ (1 + (l.length : Int) < 0); omega) (Ev.bind (eqSame o ho) (ev_if rfl ?_)))))))
  refine Ev.step (fun k => by rw [laws_FnExactConflictsOf.j1]) ?_
  refine ev_else (ne_self ok) (Ev.bind (V.mark o 1 ho (by omega)) (Ev.bind (V.held o.length 1 ho (by omega)) (ev_else (by show ¬ (1 + (o.length : Int) < 0); omega) (ev_if rfl (Ev.bind (toInt l bl) (Ev.bind hi (Ev.bind (eqSame o ho) (ev_if rfl ?_))))))))
  refine Ev.step (fun k => by rw [laws_FnExactConflictsOf.j2]) ?_
  exact ev_else (ne_self ok) (Ev.bind (V.held o.length 1 ho (by omega)) (ev_else (by show ¬ (1 + (o.length : Int) < 0); omega) (ev_if rfl (Ev.now _))))

end Go.Proofs.Ytpcjjminopdofaa.Pure
