/- For all arguments the law FnExactOpText answers true. No condition. -/
import Derived.Test.YtgaemhbffdlbaaaDoorV0
import Derived.Test.YtgaemhbffdlbaaaDoorK1
namespace Go.Proofs.YtgaemhbffdlbaaaDoor.Pure
open Go.RowKit Go.Proofs.YtgaemhbffdlbaaaDoor.K Go.Proofs.YtgaemhbffdlbaaaDoor.V Go.Proofs.YtgaemhbffdlbaaaDoorW.PrintWords Go.Proofs.YtgaemhbffdlbaaaDoorW.PrintLast
set_option linter.unusedVariables false
set_option linter.unusedSimpArgs false

theorem FnExactOpText : laws_FnExactOpText.Pure := by
  intro a0 hw
  by_cases hb : 0 ≤ a0 ∧ a0 ≤ 17
  · obtain ⟨j, rfl⟩ := Int.eq_ofNat_of_zero_le hb.1
    have key : ∀ j : Nat, j < 18 → laws_FnExactOpText.f (j : Int) = some true := by decide +kernel
    exact key j (by omega)
  · have e1 : spec_l01OpIs.f a0 = some false := by
      unfold spec_l01OpIs.f spec_l00In.f
      by_cases h0 : a0 ≥ 0
      · rw [if_pos h0, decide_eq_false (by omega)]; rfl
      · rw [if_neg h0]; rfl
    unfold laws_FnExactOpText.f spec_OpText.f impl_OpText.f
    rw [e1, if_neg hb]
    simp only [Option.bind_some]
    rw [if_neg (show ¬ (false = true) by decide)]
    simp only [Option.bind_some]
    rw [if_pos trivial, if_neg (by decide)]
end Go.Proofs.YtgaemhbffdlbaaaDoor.Pure
