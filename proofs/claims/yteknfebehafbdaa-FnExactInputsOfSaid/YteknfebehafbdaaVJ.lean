/- What spec.l00Has comes to. No condition but small lengths. -/
import Derived.Test.YteknfebehafbdaaVS
import Derived.Test.YteknfebehafbdaaK5
namespace Go.Proofs.Yteknfebehafbdaa.V
open Go.RowKit Go.Proofs.Yteknfebehafbdaa.K Go.Proofs.Yteknfebehafbdaa.Bx Go.Proofs.YteknfebehafbdaaW.PrintWords Go.Proofs.YteknfebehafbdaaW.PrintLast
set_option linter.unusedVariables false
set_option linter.unusedSimpArgs false

theorem sHas (l : List Int) (n : Int) (hl : l.length ≤ 1048576) : Ev (fun k => spec_l00Has.f k l n) (l.any fun x => decide (x = n)) := by
  unfold spec_l00Has.f
  have key : ∀ d i : Nat, i + d = l.length → Ev (fun k => spec_l00Has.l0 k l n (i : Int)) ((l.drop i).any fun x => decide (x = n)) := by
    intro d
    induction d with
    | zero =>
      intro i hi
      refine ⟨1, fun k hk => ?_⟩
      obtain ⟨k, rfl⟩ : ∃ m, k = m + 1 := ⟨k - 1, by omega⟩
      simp only [spec_l00Has.l0]
      rw [if_neg (by omega), List.drop_of_length_le (by omega)]; rfl
    | succ d ih =>
      intro i hi
      have e : l.drop i = rd l (i : Int) :: l.drop (i + 1) := by
        rw [List.drop_eq_getElem_cons (by omega : i < l.length), rd_nat, List.getD_eq_getElem?_getD, List.getElem?_eq_getElem (by omega)]; rfl
      rw [e]
      by_cases h : rd l (i : Int) = n
      · refine ⟨1, fun k hk => ?_⟩
        obtain ⟨k, rfl⟩ : ∃ m, k = m + 1 := ⟨k - 1, by omega⟩
        simp only [spec_l00Has.l0]
        rw [if_pos (by omega), if_pos (by omega), if_pos h]
        simp [h]
      · refine Ev.step (f := fun k => spec_l00Has.l0 k l n ((i + 1 : Nat) : Int)) (fun k => ?_) ?_
        · simp only [spec_l00Has.l0]; rw [if_pos (by omega), if_pos (by omega), if_neg h, w1 (by omega)]
        · rw [List.any_cons, decide_eq_false h, Bool.false_or]
          exact ih (i + 1) (by omega)
  have := key l.length 0 (by omega)
  simpa using this
theorem sHasSet (m : Nat → Bool) {n : Int} (h0 : 0 ≤ n) (h1 : n ≤ 31) : Ev (fun k => spec_l00Has.f k (setTo m 32) n) (m n.toNat) := by
  rw [← set_has m h0 h1]
  exact sHas _ n (by have := setTo_len m 32; omega)
end Go.Proofs.Yteknfebehafbdaa.V
