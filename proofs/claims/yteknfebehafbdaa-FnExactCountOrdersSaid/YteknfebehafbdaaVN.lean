/- Whether a statement must follow another: impl's function in plain Lean. No condition. -/
import Derived.Test.YteknfebehafbdaaH5
import Derived.Test.YteknfebehafbdaaV0
import Derived.Test.YteknfebehafbdaaK8
namespace Go.Proofs.Yteknfebehafbdaa.V
open Go.RowKit Go.Proofs.Yteknfebehafbdaa.K Go.Proofs.Yteknfebehafbdaa.Bx Go.Proofs.YteknfebehafbdaaW.PrintWords Go.Proofs.YteknfebehafbdaaW.PrintLast
set_option linter.unusedVariables false
set_option linter.unusedSimpArgs false

theorem iFollows (x y : S58) : impl_follows.f x.f0 x.f1 x.f2 x.f3 y.f0 y.f1 y.f2 y.f3 = some (mst x y) := by
  unfold impl_follows.f mst
  by_cases h0 : x.f1 = y.f2
  · rw [if_pos h0, if_pos h0]
  rw [if_neg h0, if_neg h0]
  by_cases h1 : x.f1 = y.f3
  · rw [if_pos h1, if_pos h1]
  rw [if_neg h1, if_neg h1]
  by_cases h2 : x.f1 = y.f1
  · rw [if_pos h2, if_pos h2]
  rw [if_neg h2, if_neg h2]
  by_cases h3 : y.f1 = x.f2
  · rw [if_pos h3, if_pos h3]
  rw [if_neg h3, if_neg h3]
  rfl
end Go.Proofs.Yteknfebehafbdaa.V
