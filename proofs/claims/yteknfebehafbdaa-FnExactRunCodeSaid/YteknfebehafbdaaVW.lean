/- The reference's tests of vectors and masks come to the plain ones. No condition but small lengths. -/
import Derived.Test.YteknfebehafbdaaV0
import Derived.Test.YteknfebehafbdaaSA
import Derived.Test.YteknfebehafbdaaK15
namespace Go.Proofs.Yteknfebehafbdaa.V
open Go.RowKit Go.Proofs.Yteknfebehafbdaa.K Go.Proofs.Yteknfebehafbdaa.Bx Go.Proofs.YteknfebehafbdaaW.PrintWords Go.Proofs.YteknfebehafbdaaW.PrintLast
set_option linter.unusedVariables false
set_option linter.unusedSimpArgs false

theorem sWords (b : Int) (l : List Int) (h : l.length ≤ 1048576) : Ev (fun k => spec_l01Words.f k b l) (((List.range l.length).all fun (j : Nat) => decide (Word b (rd l (j : Int)))) && decide (Bits b)) := by
  unfold spec_l01Words.f
  refine loop_all (L := fun k i => spec_l01Words.l0 k b l i) l.length (fun (j : Nat) => decide (Word b (rd l (j : Int)))) (decide (Bits b)) ?_ ?_ ?_
  · intro i hi hp r he
    refine Ev.step (fun k => ?_) he
    simp only [spec_l01Words.l0]
    rw [if_pos (by omega), if_pos (by omega), sWord, hp, w1 (by omega)]
    rfl
  · intro i hi hp
    refine ⟨1, fun k hk => ?_⟩
    obtain ⟨k, rfl⟩ : ∃ m, k = m + 1 := ⟨k - 1, by omega⟩
    simp only [spec_l01Words.l0]
    rw [if_pos (by omega), if_pos (by omega), sWord, hp]
    rfl
  · refine ⟨1, fun k hk => ?_⟩
    obtain ⟨k, rfl⟩ : ∃ m, k = m + 1 := ⟨k - 1, by omega⟩
    simp only [spec_l01Words.l0]
    rw [if_neg (by omega), sBits]
    rfl
end Go.Proofs.Yteknfebehafbdaa.V
