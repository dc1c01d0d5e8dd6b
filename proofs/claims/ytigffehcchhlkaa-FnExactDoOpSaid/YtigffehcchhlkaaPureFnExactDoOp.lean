/- For all arguments the law answers true: program and reference return the same. No condition. -/
import Derived.Test.YtigffehcchhlkaaPFnExactDoOpx2
import Derived.Test.YtigffehcchhlkaaCDoOp
namespace Go.Proofs.Ytigffehcchhlkaa.Pure
open Go.RowKit Go.Proofs.Ytigffehcchhlkaa.PFnExactDoOp Go.Proofs.YtigffehcchhlkaaW.PrintWords Go.Proofs.YtigffehcchhlkaaW.PrintLast Go.Proofs.Ytigffehcchhlkaa.Bx Go.Proofs.Ytigffehcchhlkaa.BwPFnExactDoOp

theorem FnExactDoOp : laws_FnExactDoOp.Pure := by
  intro a0 a1 a2 a3 _ _ _ _
  unfold laws_FnExactDoOp.f
  rw [sDoOp, iDoOp, Option.bind_some, Option.bind_some]
  simp

end Go.Proofs.Ytigffehcchhlkaa.Pure
