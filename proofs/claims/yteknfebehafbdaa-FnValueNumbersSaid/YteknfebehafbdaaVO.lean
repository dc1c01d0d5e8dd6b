/- What valid code tells of a statement. No condition. -/
import Derived.Test.YteknfebehafbdaaVC
import Derived.Test.YteknfebehafbdaaK0
import Derived.Test.YteknfebehafbdaaK2
namespace Go.Proofs.Yteknfebehafbdaa.V
open Go.RowKit Go.Proofs.Yteknfebehafbdaa.K Go.Proofs.Yteknfebehafbdaa.Bx Go.Proofs.YteknfebehafbdaaW.PrintWords Go.Proofs.YteknfebehafbdaaW.PrintLast
set_option linter.unusedVariables false
set_option linter.unusedSimpArgs false

theorem cOk_len {l : List S58} (h : cOk l = true) : l.length ≤ 16 := by
  unfold cOk at h
  rw [Bool.and_eq_true] at h
  exact of_decide_eq_true h.1
theorem cellB_is {n : Int} : cellB n = true ↔ 0 ≤ n ∧ n ≤ 31 := by unfold cellB; exact decide_eq_true_iff
theorem cOk_at {l : List S58} (h : cOk l = true) {j : Nat} (hj : j < l.length) : OpOk (rd_T58 l (j : Int)).f0 ∧ (0 ≤ (rd_T58 l (j : Int)).f1 ∧ (rd_T58 l (j : Int)).f1 ≤ 31) ∧ (0 ≤ (rd_T58 l (j : Int)).f2 ∧ (rd_T58 l (j : Int)).f2 ≤ 31) ∧ (0 ≤ (rd_T58 l (j : Int)).f3 ∧ (rd_T58 l (j : Int)).f3 ≤ 31) := by
  unfold cOk at h
  rw [Bool.and_eq_true, List.all_eq_true] at h
  have := h.2 j (List.mem_range.mpr hj)
  unfold stOk at this
  simp only [Bool.and_eq_true] at this
  exact ⟨of_decide_eq_true this.1, cellB_is.mp this.2.1, cellB_is.mp this.2.2.1, cellB_is.mp this.2.2.2⟩
end Go.Proofs.Yteknfebehafbdaa.V
