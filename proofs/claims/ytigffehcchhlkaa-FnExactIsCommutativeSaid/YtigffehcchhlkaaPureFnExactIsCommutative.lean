/- For all arguments the law answers true: program and reference return the same. No condition. -/
import Derived.Test.YtigffehcchhlkaaPFnExactIsCommutativex1
import Derived.Test.YtigffehcchhlkaaCIsCommutative
namespace Go.Proofs.Ytigffehcchhlkaa.Pure
open Go.RowKit Go.Proofs.Ytigffehcchhlkaa.PFnExactIsCommutative Go.Proofs.YtigffehcchhlkaaW.PrintWords Go.Proofs.YtigffehcchhlkaaW.PrintLast Go.Proofs.Ytigffehcchhlkaa.Bx Go.Proofs.Ytigffehcchhlkaa.BwPFnExactIsCommutative

theorem FnExactIsCommutative : laws_FnExactIsCommutative.Pure := by
  intro a0 _
  unfold laws_FnExactIsCommutative.f
  rw [sComm', iComm, Option.bind_some, Option.bind_some]
  simp

end Go.Proofs.Ytigffehcchhlkaa.Pure
