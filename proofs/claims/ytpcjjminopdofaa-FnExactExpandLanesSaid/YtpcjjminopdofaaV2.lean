/- The reference's test of masks, of two vectors. No condition but small lengths. -/
import Derived.Test.YtpcjjminopdofaaV1
import Derived.Test.YtpcjjminopdofaaK1
namespace Go.Proofs.Ytpcjjminopdofaa.V
open Go.RowKit Go.Proofs.Ytpcjjminopdofaa.K Go.Proofs.Ytpcjjminopdofaa.Bx Go.Proofs.YtpcjjminopdofaaW.PrintWords Go.Proofs.YtpcjjminopdofaaW.PrintLast
set_option linter.unusedVariables false
set_option linter.unusedSimpArgs false

theorem sBits01 (l : List Int) (h : l.length ≤ 1048576) : Ev (fun k => spec_l02Bits.f k l) ((List.range l.length).all fun (j : Nat) => b01 (rd l (j : Int))) := by
  unfold spec_l02Bits.f
  have e : ∀ x : Int, decide (0 ≤ x ∧ x ≤ 1) = b01 x := fun x => by unfold b01; exact decide_eq_decide.mpr (by omega)
  have := loop_all (L := fun k i => spec_l02Bits.l0 k l i) l.length (fun (j : Nat) => b01 (rd l (j : Int))) true
    (by
      intro i hi hp r he
      refine Ev.step (fun k => ?_) he
      simp only [spec_l02Bits.l0]
      rw [if_pos (by omega), if_pos (by omega), sIn, e, hp, w1 (by omega)]
      rfl)
    (by
      intro i hi hp
      refine ⟨1, fun k hk => ?_⟩
      obtain ⟨k, rfl⟩ : ∃ m, k = m + 1 := ⟨k - 1, by omega⟩
      simp only [spec_l02Bits.l0]
      rw [if_pos (by omega), if_pos (by omega), sIn, e, hp]
      rfl)
    (by
      refine ⟨1, fun k hk => ?_⟩
      obtain ⟨k, rfl⟩ : ∃ m, k = m + 1 := ⟨k - 1, by omega⟩
      simp only [spec_l02Bits.l0]
      rw [if_neg (by omega)])
  rw [Bool.and_true] at this
  exact this
theorem sMask (l : List Int) (n : Int) (h : l.length ≤ 1048576) : Ev (fun k => spec_l02Mask.f k l n) (decide ((l.length : Int) = n) && msk l) := by
  unfold spec_l02Mask.f
  by_cases hn : (l.length : Int) = n
  · refine ev_if hn (ev_eq (sLanes _) ?_)
    rw [decide_eq_true hn, Bool.true_and]
    by_cases hl : Lanes n
    · refine ev_if (by simpa using hl) (Ev.bind (sBits01 l h) ?_)
      have e : msk l = (List.range l.length).all fun (j : Nat) => b01 (rd l (j : Int)) := by unfold msk; rw [hn, decide_eq_true hl, Bool.true_and]
      rw [e]
      exact Ev.now _
    · refine ev_else (by simpa using hl) ?_
      have e : msk l = false := by unfold msk; rw [hn]; simp [hl]
      rw [e]
      exact Ev.now _
  · refine ev_else hn ?_
    rw [decide_eq_false hn, Bool.false_and]
    exact Ev.now _
theorem sIsMask (l : List Int) (h : l.length ≤ 1048576) : Ev (fun k => spec_IsMask.f k l) (msk l) := by
  unfold spec_IsMask.f
  refine Ev.bind (sMask l _ h) ?_
  rw [decide_eq_true rfl, Bool.true_and]
  exact Ev.now _
end Go.Proofs.Ytpcjjminopdofaa.V
