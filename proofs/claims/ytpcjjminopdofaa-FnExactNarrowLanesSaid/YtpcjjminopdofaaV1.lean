/- The reference's tests of vectors and masks come to the plain ones. No condition but small lengths. -/
import Derived.Test.YtpcjjminopdofaaV0
import Derived.Test.YtpcjjminopdofaaSA
import Derived.Test.YtpcjjminopdofaaK1
import Derived.Test.YtpcjjminopdofaaK3
namespace Go.Proofs.Ytpcjjminopdofaa.V
open Go.RowKit Go.Proofs.Ytpcjjminopdofaa.K Go.Proofs.Ytpcjjminopdofaa.Bx Go.Proofs.YtpcjjminopdofaaW.PrintWords Go.Proofs.YtpcjjminopdofaaW.PrintLast
set_option linter.unusedVariables false
set_option linter.unusedSimpArgs false

theorem sLanes (n : Int) : spec_l02Lanes.f n = some (decide (Lanes n)) := by
  unfold spec_l02Lanes.f Lanes
  by_cases h2 : n = 2
  · simp [h2]
  by_cases h4 : n = 4
  · simp [h4]
  by_cases h8 : n = 8
  · simp [h8]
  simp only [if_neg h2, if_neg h4, if_neg h8]
  by_cases h16 : n = 16 <;> simp [h2, h4, h8, h16]
theorem sWords (b : Int) (l : List Int) (h : l.length ≤ 1048576) : Ev (fun k => spec_l01Words.f k b l) (((List.range l.length).all fun (j : Nat) => decide (Word b (rd l (j : Int)))) && decide (Bits b)) := by
  unfold spec_l01Words.f
  refine loop_all (L := fun k i => spec_l01Words.l0 k b l i) l.length (fun (j : Nat) => decide (Word b (rd l (j : Int)))) (decide (Bits b)) ?_ ?_ ?_
  · intro i hi hp r he
    refine Ev.step (fun k => ?_) he
    simp only [spec_l01Words.l0]
    rw [if_pos (by omega), if_pos (by omega), sWord, hp, w1 (by omega)]
    rfl
  · intro i hi hp
    refine ⟨1, fun k hk => ?_⟩
    obtain ⟨k, rfl⟩ : ∃ m, k = m + 1 := ⟨k - 1, by omega⟩
    simp only [spec_l01Words.l0]
    rw [if_pos (by omega), if_pos (by omega), sWord, hp]
    rfl
  · refine ⟨1, fun k hk => ?_⟩
    obtain ⟨k, rfl⟩ : ∃ m, k = m + 1 := ⟨k - 1, by omega⟩
    simp only [spec_l01Words.l0]
    rw [if_neg (by omega), sBits]
    rfl
theorem sIs (b : Int) (l : List Int) (h : l.length ≤ 1048576) : Ev (fun k => spec_l02Is.f k b l) (vec b l) := by
  unfold spec_l02Is.f
  refine ev_eq (sLanes _) ?_
  by_cases hl : Lanes (l.length : Int)
  · refine ev_if (by simpa using hl) (Ev.bind (sWords b l h) ?_)
    have e : vec b l = (((List.range l.length).all fun (j : Nat) => decide (Word b (rd l (j : Int)))) && decide (Bits b)) := by
      unfold vec
      rw [decide_eq_true hl, Bool.and_true, Bool.and_comm]
    rw [e]
    exact Ev.now _
  · refine ev_else (by simpa using hl) ?_
    have e : vec b l = false := by unfold vec; simp [hl]
    rw [e]
    exact Ev.now _
theorem sIsVector (b : Int) (l : List Int) (h : l.length ≤ 1048576) : Ev (fun k => spec_IsVector.f k b l) (vec b l) := by
  unfold spec_IsVector.f
  exact Ev.bind (sIs b l h) (Ev.now _)
end Go.Proofs.Ytpcjjminopdofaa.V
