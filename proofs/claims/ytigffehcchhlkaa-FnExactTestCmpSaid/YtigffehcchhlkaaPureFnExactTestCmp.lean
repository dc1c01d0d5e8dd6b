/- For all arguments the law answers true: program and reference return the same. No condition. -/
import Derived.Test.YtigffehcchhlkaaPFnExactTestCmpx1
import Derived.Test.YtigffehcchhlkaaCTestCmp
namespace Go.Proofs.Ytigffehcchhlkaa.Pure
open Go.RowKit Go.Proofs.Ytigffehcchhlkaa.PFnExactTestCmp Go.Proofs.YtigffehcchhlkaaW.PrintWords Go.Proofs.YtigffehcchhlkaaW.PrintLast Go.Proofs.Ytigffehcchhlkaa.Bx Go.Proofs.Ytigffehcchhlkaa.BwPFnExactTestCmp

theorem FnExactTestCmp : laws_FnExactTestCmp.Pure := by
  intro a0 a1 a2 a3 _ _ _ _
  unfold laws_FnExactTestCmp.f
  rw [sTestCmp, iTestCmp, Option.bind_some, Option.bind_some]
  simp

end Go.Proofs.Ytigffehcchhlkaa.Pure
