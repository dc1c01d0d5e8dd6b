/- For all arguments the law FnExactOutputsOf answers true. No condition. -/
import Derived.Test.YteknfebehafbdaaK5
import Derived.Test.YteknfebehafbdaaV0
import Derived.Test.YteknfebehafbdaaVC
import Derived.Test.YteknfebehafbdaaVE
import Derived.Test.YteknfebehafbdaaVM
import Derived.Test.YteknfebehafbdaaVS
import Derived.Test.YteknfebehafbdaaVP
import Derived.Test.YteknfebehafbdaaVT
namespace Go.Proofs.Yteknfebehafbdaa.Pure
open Go.RowKit Go.Proofs.Yteknfebehafbdaa.K Go.Proofs.Yteknfebehafbdaa.V Go.Proofs.Yteknfebehafbdaa.Bx Go.Proofs.YteknfebehafbdaaW.PrintWords Go.Proofs.YteknfebehafbdaaW.PrintLast
set_option linter.unusedVariables false

theorem wrm_ok {l : List S58} (h : vOk l = true) : ∀ d i : Nat, i + d = l.length → Ev (fun k => spec_l03Outputs.l0 k l (setTo (wrm l i) 32) (i : Int)) (setTo (wrm l l.length) 32) := by
  have hl := vOk_len h
  intro d
  induction d with
  | zero =>
    intro i hi
    obtain rfl : i = l.length := by omega
    refine ⟨1, fun k hk => ?_⟩
    obtain ⟨k, rfl⟩ : ∃ m, k = m + 1 := ⟨k - 1, by omega⟩
    simp only [spec_l03Outputs.l0]
    rw [if_neg (by omega)]
  | succ d ih =>
    intro i hi
    obtain ⟨_, ⟨h0, h1⟩, _, _⟩ := vOk_at h (by omega : i < l.length)
    refine Ev.step (f := fun k => (spec_l00Put.f k (setTo (wrm l i) 32) ((rd_T58 l (i : Int)).f1)).bind fun t => spec_l03Outputs.l0 k l t ((i + 1 : Nat) : Int)) (fun k => ?_) (Ev.bind (sPutSet _ h0 h1) (ih (i + 1) (by omega)))
    simp only [spec_l03Outputs.l0]
    rw [if_pos (by omega), if_pos (by omega), w1 (by omega)]
theorem FnExactOutputsOf : ∀ l0 : List S62, l0.length ≤ 4398046511104 → ∃ k, laws_FnExactOutputsOf.f k l0 = some true := by
  intro l hm
  refine Ev.rounds (g := fun k => laws_FnExactOutputsOf.f k l) ?_
  unfold laws_FnExactOutputsOf.f
  refine ev_eq (sz l hm) ?_
  by_cases h : 1048576 < l.length
  · rw [if_pos h]
    exact ev_if (by decide) (Ev.now _)
  rw [if_neg h]
  refine ev_else (by omega) ?_
  have hl : l.length ≤ 1048576 := by omega
  have hc : (l.map cv).length ≤ 1048576 := by rw [List.length_map]; exact hl
  obtain ⟨o, ok, ho, hs, hi⟩ : ∃ (o : List Int) (ok : Bool), o.length ≤ 1048576 ∧ Ev (fun k => spec_OutputsOf.f k (l.map cv)) (o, ok) ∧ Ev (fun k => impl_OutputsOf.f k (l.map cv)) (o, ok) := by
    by_cases hv : vOk (l.map cv) = true
    · refine ⟨setTo (wrm (l.map cv) (l.map cv).length) 32, true, by have := setTo_len (wrm (l.map cv) (l.map cv).length) 32; omega, ?_, ?_⟩
      · unfold spec_OutputsOf.f
        refine Ev.bind (sIs _ hc) (ev_if hv (Ev.bind ?_ (Ev.now _)))
        unfold spec_l03Outputs.f
        exact wrm_ok hv (l.map cv).length 0 (by omega)
      · unfold impl_OutputsOf.f
        rw [if_pos hv]
        exact Ev.now _
    · refine ⟨[], false, by simp, ?_, ?_⟩
      · unfold spec_OutputsOf.f
        exact Ev.bind (sIs _ hc) (ev_else hv (Ev.now _))
      · unfold impl_OutputsOf.f
        rw [if_neg hv]
        exact Ev.now _
  obtain ⟨t, ht⟩ := V.markS (l.map cv) 1 hc (by omega)
  refine Ev.bind (toStmt l hl) (Ev.bind hs (Ev.bind (toStmt l hl) (Ev.bind hi (Ev.bind (eqSame o ho) (ev_if rfl ?_)))))
  refine Ev.step (fun k => by rw [laws_FnExactOutputsOf.j0]) ?_
  refine ev_else (ne_self ok) (Ev.bind (toStmt l hl) (Ev.bind (eqStmtSame _ hc) (ev_if rfl (Ev.bind ht (ev_else (by show ¬ (1 + 4 * ((l.map cv).length : Int) < 0); omega) (Ev.bind (eqSame o ho) (ev_if rfl ?_)))))))
  refine Ev.step (fun k => by rw [laws_FnExactOutputsOf.j1]) ?_
  refine ev_else (ne_self ok) (Ev.bind (V.mark o 1 ho (by omega)) (Ev.bind (V.held o.length 1 ho (by omega)) (ev_else (by show ¬ (1 + (o.length : Int) < 0); omega) (ev_if rfl (Ev.bind (toStmt l hl) (Ev.bind hi (Ev.bind (eqSame o ho) (ev_if rfl ?_))))))))
  refine Ev.step (fun k => by rw [laws_FnExactOutputsOf.j2]) ?_
  exact ev_else (ne_self ok) (Ev.bind (V.held o.length 1 ho (by omega)) (ev_else (by show ¬ (1 + (o.length : Int) < 0); omega) (ev_if rfl (Ev.now _))))

end Go.Proofs.Yteknfebehafbdaa.Pure
