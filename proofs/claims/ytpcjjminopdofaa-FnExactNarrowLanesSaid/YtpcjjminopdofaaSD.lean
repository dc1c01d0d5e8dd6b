/- The reference's functions on words in closed form. No condition but the bounds of the arguments. -/
import Derived.Test.YtpcjjminopdofaaK0
import Derived.Test.YtpcjjminopdofaaB0
import Derived.Test.YtpcjjminopdofaaSB
import Derived.Test.YtpcjjminopdofaaSA
import Derived.Test.YtpcjjminopdofaaK6
namespace Go.Proofs.Ytpcjjminopdofaa.V
open Go.RowKit Go.Proofs.Ytpcjjminopdofaa.K Go.Proofs.Ytpcjjminopdofaa.Bx Go.Proofs.YtpcjjminopdofaaW.PrintWords Go.Proofs.YtpcjjminopdofaaW.PrintLast
set_option linter.unusedVariables false
set_option linter.unusedSimpArgs false

theorem sCmp (c : Int) : spec_l01CmpIs.f c = some (decide (0 ≤ c ∧ c ≤ 5)) := by unfold spec_l01CmpIs.f; rw [sIn]; rfl
theorem sHolds {c b x y : Int} (hx : Word b x) (hy : Word b y) : spec_l01Test.f c b x y = some (cmpB c b x y) := by
  unfold spec_l01Test.f cmpB
  rw [sSg hx, sSg hy]
  simp only [Option.bind_some]
  repeat' split
  all_goals rfl
end Go.Proofs.Ytpcjjminopdofaa.V
