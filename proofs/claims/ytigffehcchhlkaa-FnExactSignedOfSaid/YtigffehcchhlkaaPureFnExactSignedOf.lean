/- For all arguments the law answers true: program and reference return the same. No condition. -/
import Derived.Test.YtigffehcchhlkaaPFnExactSignedOfx1
import Derived.Test.YtigffehcchhlkaaCSignedOf
namespace Go.Proofs.Ytigffehcchhlkaa.Pure
open Go.RowKit Go.Proofs.Ytigffehcchhlkaa.PFnExactSignedOf Go.Proofs.YtigffehcchhlkaaW.PrintWords Go.Proofs.YtigffehcchhlkaaW.PrintLast Go.Proofs.Ytigffehcchhlkaa.Bx Go.Proofs.Ytigffehcchhlkaa.BwPFnExactSignedOf

theorem FnExactSignedOf : laws_FnExactSignedOf.Pure := by
  intro a0 a1 _ _
  unfold laws_FnExactSignedOf.f
  rw [sSignedOf, iSignedOf, Option.bind_some, Option.bind_some]
  simp

end Go.Proofs.Ytigffehcchhlkaa.Pure
