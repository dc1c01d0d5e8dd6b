/- For all arguments the law answers true: program and reference return the same. No condition. -/
import Derived.Test.YtigffehcchhlkaaPFnExactWordOfx1
import Derived.Test.YtigffehcchhlkaaCWordOf
namespace Go.Proofs.Ytigffehcchhlkaa.Pure
open Go.RowKit Go.Proofs.Ytigffehcchhlkaa.PFnExactWordOf Go.Proofs.YtigffehcchhlkaaW.PrintWords Go.Proofs.YtigffehcchhlkaaW.PrintLast Go.Proofs.Ytigffehcchhlkaa.Bx Go.Proofs.Ytigffehcchhlkaa.BwPFnExactWordOf

theorem FnExactWordOf : laws_FnExactWordOf.Pure := by
  intro a0 a1 _ _
  unfold laws_FnExactWordOf.f
  rw [sWordOf, iWordOf, Option.bind_some, Option.bind_some]
  simp

end Go.Proofs.Ytigffehcchhlkaa.Pure
