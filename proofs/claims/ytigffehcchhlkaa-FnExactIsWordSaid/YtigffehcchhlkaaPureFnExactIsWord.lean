/- For all arguments the law answers true: program and reference return the same. No condition. -/
import Derived.Test.YtigffehcchhlkaaPFnExactIsWordx1
import Derived.Test.YtigffehcchhlkaaCIsWord
namespace Go.Proofs.Ytigffehcchhlkaa.Pure
open Go.RowKit Go.Proofs.Ytigffehcchhlkaa.PFnExactIsWord Go.Proofs.YtigffehcchhlkaaW.PrintWords Go.Proofs.YtigffehcchhlkaaW.PrintLast Go.Proofs.Ytigffehcchhlkaa.Bx Go.Proofs.Ytigffehcchhlkaa.BwPFnExactIsWord

theorem FnExactIsWord : laws_FnExactIsWord.Pure := by
  intro a0 a1 _ _
  unfold laws_FnExactIsWord.f
  rw [sWord', iWord, Option.bind_some, Option.bind_some]
  simp

end Go.Proofs.Ytigffehcchhlkaa.Pure
