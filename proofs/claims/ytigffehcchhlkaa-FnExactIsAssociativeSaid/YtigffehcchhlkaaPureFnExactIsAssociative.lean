/- For all arguments the law answers true: program and reference return the same. No condition. -/
import Derived.Test.YtigffehcchhlkaaPFnExactIsAssociativex1
import Derived.Test.YtigffehcchhlkaaCIsAssociative
namespace Go.Proofs.Ytigffehcchhlkaa.Pure
open Go.RowKit Go.Proofs.Ytigffehcchhlkaa.PFnExactIsAssociative Go.Proofs.YtigffehcchhlkaaW.PrintWords Go.Proofs.YtigffehcchhlkaaW.PrintLast Go.Proofs.Ytigffehcchhlkaa.Bx Go.Proofs.Ytigffehcchhlkaa.BwPFnExactIsAssociative

theorem FnExactIsAssociative : laws_FnExactIsAssociative.Pure := by
  intro a0 _
  unfold laws_FnExactIsAssociative.f
  rw [sAssoc', iAssoc, Option.bind_some, Option.bind_some]
  simp

end Go.Proofs.Ytigffehcchhlkaa.Pure
