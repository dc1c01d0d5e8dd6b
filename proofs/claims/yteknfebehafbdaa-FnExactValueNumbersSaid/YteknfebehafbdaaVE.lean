/- What the laws' own helpers on lists come to. No condition but small lengths. -/
import Derived.Test.YteknfebehafbdaaK0
import Derived.Test.YteknfebehafbdaaB0
import Derived.Test.YteknfebehafbdaaV0
import Derived.Test.YteknfebehafbdaaK3
namespace Go.Proofs.Yteknfebehafbdaa.V
open Go.RowKit Go.Proofs.Yteknfebehafbdaa.K Go.Proofs.Yteknfebehafbdaa.Bx Go.Proofs.YteknfebehafbdaaW.PrintWords Go.Proofs.YteknfebehafbdaaW.PrintLast
set_option linter.unusedVariables false
set_option linter.unusedSimpArgs false

theorem eqSame (l : List Int) (h : l.length ≤ 1048576) : Ev (fun k => laws_eqInt64S.f k l l) true := by
  unfold laws_eqInt64S.f
  refine ev_if rfl ?_
  have := loop_all (L := fun k i => laws_eqInt64S.l0 k l l i) l.length (fun _ => true) true
    (fun i hi _ r he => Ev.step (fun k => by simp only [laws_eqInt64S.l0]; rw [if_pos (by omega), if_pos (by omega), if_pos (by omega), if_pos trivial, w1 (by omega)]) he)
    (fun i hi hp => by cases hp)
    ⟨1, fun k hk => by
      obtain ⟨k, rfl⟩ : ∃ m, k = m + 1 := ⟨k - 1, by omega⟩
      simp only [laws_eqInt64S.l0]; rw [if_neg (by omega)]⟩
  have e : ((List.range l.length).all fun _ => true) = true := List.all_eq_true.mpr fun _ _ => rfl
  rw [e] at this
  exact this
end Go.Proofs.Yteknfebehafbdaa.V
