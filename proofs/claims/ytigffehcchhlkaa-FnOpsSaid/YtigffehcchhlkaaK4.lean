-- Laid by a program of this session.
import Derived.Test.YtigffehcchhlkaaK0
import Derived.Test.YtigffehcchhlkaaK1
import Derived.Test.YtigffehcchhlkaaK2
import Derived.Test.YtigffehcchhlkaaK3
namespace Go.Proofs.Ytigffehcchhlkaa.K
open Go.RowKit Go.Proofs.YtigffehcchhlkaaW.PrintWords Go.Proofs.YtigffehcchhlkaaW.PrintLast Go.Proofs.YtigffehcchhlkaaW.PrintMore Go.Proofs.Ytigffehcchhlkaa.Bx
attribute [local go_sem] max2_int min2_int max_two min_two max_three min_three max_four min_four   -- for this text's walks alone
set_option linter.unusedVariables false
set_option linter.unusedSimpArgs false

/-! ### laws_FnOps: function 12 -/
mutual
def laws_FnOps.j0 : Nat → Int → List Int → Int → Int → Int → Bool → Option (Bool)
 | 0, _, _, _, _, _, _ => none
 | k + 1, x5, x6, x7, x8, x12, x112 => if x112 = true then (some false) else (if 2 < (x6.length : Int) then ((impl_DoOp.f x7 x5 x8 (rd x6 2)).bind fun bt209 => (if 0 < (x6.length : Int) then ((impl_DoOp.f x7 x5 (rd x6 0) x12).bind fun bt212 => (if bt209.2 = true then (if bt212.2 = true then ((impl_IsAssociative.f x7).bind fun t214 => (if t214 = true then (if bt209.1 = bt212.1 then ((impl_IsAssociative.f x7).bind fun t215 => (if t215 = true then ((impl_IsCommutative.f x7).bind fun t216 => (laws_FnOps.j1 k x5 x6 (!t216))) else (laws_FnOps.j1 k x5 x6 false))) else (laws_FnOps.j1 k x5 x6 true)) else ((impl_IsAssociative.f x7).bind fun t217 => (if t217 = true then ((impl_IsCommutative.f x7).bind fun t218 => (laws_FnOps.j1 k x5 x6 (!t218))) else (laws_FnOps.j1 k x5 x6 false))))) else (laws_FnOps.j1 k x5 x6 true)) else (laws_FnOps.j1 k x5 x6 true))) else (none))) else (none))
def laws_FnOps.j1 : Nat → Int → List Int → Bool → Option (Bool)
 | 0, _, _, _ => none
 | k + 1, x5, x6, x156 => if x156 = true then (some false) else (if 0 < (x6.length : Int) then (if 1 < (x6.length : Int) then ((impl_DoOp.f 0 x5 (rd x6 0) (rd x6 1)).bind fun bt221 => ((impl_DoOp.f 1 x5 bt221.1 (rd x6 1)).bind fun bt224 => ((impl_DoOp.f 10 x5 (rd x6 0) (rd x6 1)).bind fun bt228 => ((impl_DoOp.f 11 x5 (rd x6 0) (rd x6 1)).bind fun bt232 => ((impl_SignedOf.f x5 (rd x6 0)).bind fun bt235 => ((impl_SignedOf.f x5 (rd x6 1)).bind fun bt238 => ((impl_SignedOf.f x5 bt232.1).bind fun bt240 => ((impl_WordOf.f x5 (wrap64 (bt235.1 + bt238.1))).bind fun bt242 => (if bt221.2 = true then (if bt224.2 = true then (if bt228.2 = true then (if bt232.2 = true then (if bt235.2 = true then (if bt238.2 = true then (if bt240.2 = true then (if bt242.2 = true then (if bt224.1 = (rd x6 0) then (laws_FnOps.j2 k x5 x6 bt221.1 bt228.1 bt232.1 bt235.1 bt238.1 bt240.1 (bt242.1 != bt221.1)) else (laws_FnOps.j2 k x5 x6 bt221.1 bt228.1 bt232.1 bt235.1 bt238.1 bt240.1 true)) else (laws_FnOps.j2 k x5 x6 bt221.1 bt228.1 bt232.1 bt235.1 bt238.1 bt240.1 true)) else (laws_FnOps.j2 k x5 x6 bt221.1 bt228.1 bt232.1 bt235.1 bt238.1 bt240.1 true)) else (laws_FnOps.j2 k x5 x6 bt221.1 bt228.1 bt232.1 bt235.1 bt238.1 bt240.1 true)) else (laws_FnOps.j2 k x5 x6 bt221.1 bt228.1 bt232.1 bt235.1 bt238.1 bt240.1 true)) else (laws_FnOps.j2 k x5 x6 bt221.1 bt228.1 bt232.1 bt235.1 bt238.1 bt240.1 true)) else (laws_FnOps.j2 k x5 x6 bt221.1 bt228.1 bt232.1 bt235.1 bt238.1 bt240.1 true)) else (laws_FnOps.j2 k x5 x6 bt221.1 bt228.1 bt232.1 bt235.1 bt238.1 bt240.1 true)) else (laws_FnOps.j2 k x5 x6 bt221.1 bt228.1 bt232.1 bt235.1 bt238.1 bt240.1 true)))))))))) else (none)) else (none))
def laws_FnOps.j2 : Nat → Int → List Int → Int → Int → Int → Int → Int → Int → Bool → Option (Bool)
 | 0, _, _, _, _, _, _, _, _, _ => none
 | k + 1, x5, x6, x18, x22, x24, x26, x28, x30, x270 => if x270 = true then (some false) else (if 0 ≤ (IntKind.u64.wrap (wrap64 (x5 - 1))) then (if (wrap64 (x26 + x28)) ≥ (wrap64 (-(shl .i64 1 (IntKind.u64.wrap (wrap64 (x5 - 1)))))) then (if (wrap64 (x26 + x28)) < (shl .i64 1 (IntKind.u64.wrap (wrap64 (x5 - 1)))) then (if x24 = x18 then (if (wrap64 (x26 + x28)) ≥ (shl .i64 1 (IntKind.u64.wrap (wrap64 (x5 - 1)))) then (if x30 = (wrap64 ((shl .i64 1 (IntKind.u64.wrap (wrap64 (x5 - 1)))) - 1)) then (if (wrap64 (x26 + x28)) < (wrap64 (-(shl .i64 1 (IntKind.u64.wrap (wrap64 (x5 - 1)))))) then (if x30 = (wrap64 (-(shl .i64 1 (IntKind.u64.wrap (wrap64 (x5 - 1)))))) then (if 0 < (x6.length : Int) then (if 1 < (x6.length : Int) then (if (wrap64 ((rd x6 0) + (rd x6 1))) ≤ (wrap64 ((wrap64 (2 * (shl .i64 1 (IntKind.u64.wrap (wrap64 (x5 - 1)))))) - 1)) then (if x22 = x18 then (some true) else (if (wrap64 ((rd x6 0) + (rd x6 1))) > (wrap64 ((wrap64 (2 * (shl .i64 1 (IntKind.u64.wrap (wrap64 (x5 - 1)))))) - 1)) then (some (x22 == (wrap64 ((wrap64 (2 * (shl .i64 1 (IntKind.u64.wrap (wrap64 (x5 - 1)))))) - 1)))) else (some false))) else (if (wrap64 ((rd x6 0) + (rd x6 1))) > (wrap64 ((wrap64 (2 * (shl .i64 1 (IntKind.u64.wrap (wrap64 (x5 - 1)))))) - 1)) then (some (x22 == (wrap64 ((wrap64 (2 * (shl .i64 1 (IntKind.u64.wrap (wrap64 (x5 - 1)))))) - 1)))) else (some false))) else (none)) else (none)) else (some false)) else (if 0 < (x6.length : Int) then (if 1 < (x6.length : Int) then (if (wrap64 ((rd x6 0) + (rd x6 1))) ≤ (wrap64 ((wrap64 (2 * (shl .i64 1 (IntKind.u64.wrap (wrap64 (x5 - 1)))))) - 1)) then (if x22 = x18 then (some true) else (if (wrap64 ((rd x6 0) + (rd x6 1))) > (wrap64 ((wrap64 (2 * (shl .i64 1 (IntKind.u64.wrap (wrap64 (x5 - 1)))))) - 1)) then (some (x22 == (wrap64 ((wrap64 (2 * (shl .i64 1 (IntKind.u64.wrap (wrap64 (x5 - 1)))))) - 1)))) else (some false))) else (if (wrap64 ((rd x6 0) + (rd x6 1))) > (wrap64 ((wrap64 (2 * (shl .i64 1 (IntKind.u64.wrap (wrap64 (x5 - 1)))))) - 1)) then (some (x22 == (wrap64 ((wrap64 (2 * (shl .i64 1 (IntKind.u64.wrap (wrap64 (x5 - 1)))))) - 1)))) else (some false))) else (none)) else (none))) else (some false)) else (if (wrap64 (x26 + x28)) < (wrap64 (-(shl .i64 1 (IntKind.u64.wrap (wrap64 (x5 - 1)))))) then (if x30 = (wrap64 (-(shl .i64 1 (IntKind.u64.wrap (wrap64 (x5 - 1)))))) then (if 0 < (x6.length : Int) then (if 1 < (x6.length : Int) then (if (wrap64 ((rd x6 0) + (rd x6 1))) ≤ (wrap64 ((wrap64 (2 * (shl .i64 1 (IntKind.u64.wrap (wrap64 (x5 - 1)))))) - 1)) then (if x22 = x18 then (some true) else (if (wrap64 ((rd x6 0) + (rd x6 1))) > (wrap64 ((wrap64 (2 * (shl .i64 1 (IntKind.u64.wrap (wrap64 (x5 - 1)))))) - 1)) then (some (x22 == (wrap64 ((wrap64 (2 * (shl .i64 1 (IntKind.u64.wrap (wrap64 (x5 - 1)))))) - 1)))) else (some false))) else (if (wrap64 ((rd x6 0) + (rd x6 1))) > (wrap64 ((wrap64 (2 * (shl .i64 1 (IntKind.u64.wrap (wrap64 (x5 - 1)))))) - 1)) then (some (x22 == (wrap64 ((wrap64 (2 * (shl .i64 1 (IntKind.u64.wrap (wrap64 (x5 - 1)))))) - 1)))) else (some false))) else (none)) else (none)) else (some false)) else (if 0 < (x6.length : Int) then (if 1 < (x6.length : Int) then (if (wrap64 ((rd x6 0) + (rd x6 1))) ≤ (wrap64 ((wrap64 (2 * (shl .i64 1 (IntKind.u64.wrap (wrap64 (x5 - 1)))))) - 1)) then (if x22 = x18 then (some true) else (if (wrap64 ((rd x6 0) + (rd x6 1))) > (wrap64 ((wrap64 (2 * (shl .i64 1 (IntKind.u64.wrap (wrap64 (x5 - 1)))))) - 1)) then (some (x22 == (wrap64 ((wrap64 (2 * (shl .i64 1 (IntKind.u64.wrap (wrap64 (x5 - 1)))))) - 1)))) else (some false))) else (if (wrap64 ((rd x6 0) + (rd x6 1))) > (wrap64 ((wrap64 (2 * (shl .i64 1 (IntKind.u64.wrap (wrap64 (x5 - 1)))))) - 1)) then (some (x22 == (wrap64 ((wrap64 (2 * (shl .i64 1 (IntKind.u64.wrap (wrap64 (x5 - 1)))))) - 1)))) else (some false))) else (none)) else (none)))) else (some false)) else (if (wrap64 (x26 + x28)) ≥ (shl .i64 1 (IntKind.u64.wrap (wrap64 (x5 - 1)))) then (if x30 = (wrap64 ((shl .i64 1 (IntKind.u64.wrap (wrap64 (x5 - 1)))) - 1)) then (if (wrap64 (x26 + x28)) < (wrap64 (-(shl .i64 1 (IntKind.u64.wrap (wrap64 (x5 - 1)))))) then (if x30 = (wrap64 (-(shl .i64 1 (IntKind.u64.wrap (wrap64 (x5 - 1)))))) then (if 0 < (x6.length : Int) then (if 1 < (x6.length : Int) then (if (wrap64 ((rd x6 0) + (rd x6 1))) ≤ (wrap64 ((wrap64 (2 * (shl .i64 1 (IntKind.u64.wrap (wrap64 (x5 - 1)))))) - 1)) then (if x22 = x18 then (some true) else (if (wrap64 ((rd x6 0) + (rd x6 1))) > (wrap64 ((wrap64 (2 * (shl .i64 1 (IntKind.u64.wrap (wrap64 (x5 - 1)))))) - 1)) then (some (x22 == (wrap64 ((wrap64 (2 * (shl .i64 1 (IntKind.u64.wrap (wrap64 (x5 - 1)))))) - 1)))) else (some false))) else (if (wrap64 ((rd x6 0) + (rd x6 1))) > (wrap64 ((wrap64 (2 * (shl .i64 1 (IntKind.u64.wrap (wrap64 (x5 - 1)))))) - 1)) then (some (x22 == (wrap64 ((wrap64 (2 * (shl .i64 1 (IntKind.u64.wrap (wrap64 (x5 - 1)))))) - 1)))) else (some false))) else (none)) else (none)) else (some false)) else (if 0 < (x6.length : Int) then (if 1 < (x6.length : Int) then (if (wrap64 ((rd x6 0) + (rd x6 1))) ≤ (wrap64 ((wrap64 (2 * (shl .i64 1 (IntKind.u64.wrap (wrap64 (x5 - 1)))))) - 1)) then (if x22 = x18 then (some true) else (if (wrap64 ((rd x6 0) + (rd x6 1))) > (wrap64 ((wrap64 (2 * (shl .i64 1 (IntKind.u64.wrap (wrap64 (x5 - 1)))))) - 1)) then (some (x22 == (wrap64 ((wrap64 (2 * (shl .i64 1 (IntKind.u64.wrap (wrap64 (x5 - 1)))))) - 1)))) else (some false))) else (if (wrap64 ((rd x6 0) + (rd x6 1))) > (wrap64 ((wrap64 (2 * (shl .i64 1 (IntKind.u64.wrap (wrap64 (x5 - 1)))))) - 1)) then (some (x22 == (wrap64 ((wrap64 (2 * (shl .i64 1 (IntKind.u64.wrap (wrap64 (x5 - 1)))))) - 1)))) else (some false))) else (none)) else (none))) else (some false)) else (if (wrap64 (x26 + x28)) < (wrap64 (-(shl .i64 1 (IntKind.u64.wrap (wrap64 (x5 - 1)))))) then (if x30 = (wrap64 (-(shl .i64 1 (IntKind.u64.wrap (wrap64 (x5 - 1)))))) then (if 0 < (x6.length : Int) then (if 1 < (x6.length : Int) then (if (wrap64 ((rd x6 0) + (rd x6 1))) ≤ (wrap64 ((wrap64 (2 * (shl .i64 1 (IntKind.u64.wrap (wrap64 (x5 - 1)))))) - 1)) then (if x22 = x18 then (some true) else (if (wrap64 ((rd x6 0) + (rd x6 1))) > (wrap64 ((wrap64 (2 * (shl .i64 1 (IntKind.u64.wrap (wrap64 (x5 - 1)))))) - 1)) then (some (x22 == (wrap64 ((wrap64 (2 * (shl .i64 1 (IntKind.u64.wrap (wrap64 (x5 - 1)))))) - 1)))) else (some false))) else (if (wrap64 ((rd x6 0) + (rd x6 1))) > (wrap64 ((wrap64 (2 * (shl .i64 1 (IntKind.u64.wrap (wrap64 (x5 - 1)))))) - 1)) then (some (x22 == (wrap64 ((wrap64 (2 * (shl .i64 1 (IntKind.u64.wrap (wrap64 (x5 - 1)))))) - 1)))) else (some false))) else (none)) else (none)) else (some false)) else (if 0 < (x6.length : Int) then (if 1 < (x6.length : Int) then (if (wrap64 ((rd x6 0) + (rd x6 1))) ≤ (wrap64 ((wrap64 (2 * (shl .i64 1 (IntKind.u64.wrap (wrap64 (x5 - 1)))))) - 1)) then (if x22 = x18 then (some true) else (if (wrap64 ((rd x6 0) + (rd x6 1))) > (wrap64 ((wrap64 (2 * (shl .i64 1 (IntKind.u64.wrap (wrap64 (x5 - 1)))))) - 1)) then (some (x22 == (wrap64 ((wrap64 (2 * (shl .i64 1 (IntKind.u64.wrap (wrap64 (x5 - 1)))))) - 1)))) else (some false))) else (if (wrap64 ((rd x6 0) + (rd x6 1))) > (wrap64 ((wrap64 (2 * (shl .i64 1 (IntKind.u64.wrap (wrap64 (x5 - 1)))))) - 1)) then (some (x22 == (wrap64 ((wrap64 (2 * (shl .i64 1 (IntKind.u64.wrap (wrap64 (x5 - 1)))))) - 1)))) else (some false))) else (none)) else (none))))) else (if (wrap64 (x26 + x28)) ≥ (shl .i64 1 (IntKind.u64.wrap (wrap64 (x5 - 1)))) then (if x30 = (wrap64 ((shl .i64 1 (IntKind.u64.wrap (wrap64 (x5 - 1)))) - 1)) then (if (wrap64 (x26 + x28)) < (wrap64 (-(shl .i64 1 (IntKind.u64.wrap (wrap64 (x5 - 1)))))) then (if x30 = (wrap64 (-(shl .i64 1 (IntKind.u64.wrap (wrap64 (x5 - 1)))))) then (if 0 < (x6.length : Int) then (if 1 < (x6.length : Int) then (if (wrap64 ((rd x6 0) + (rd x6 1))) ≤ (wrap64 ((wrap64 (2 * (shl .i64 1 (IntKind.u64.wrap (wrap64 (x5 - 1)))))) - 1)) then (if x22 = x18 then (some true) else (if (wrap64 ((rd x6 0) + (rd x6 1))) > (wrap64 ((wrap64 (2 * (shl .i64 1 (IntKind.u64.wrap (wrap64 (x5 - 1)))))) - 1)) then (some (x22 == (wrap64 ((wrap64 (2 * (shl .i64 1 (IntKind.u64.wrap (wrap64 (x5 - 1)))))) - 1)))) else (some false))) else (if (wrap64 ((rd x6 0) + (rd x6 1))) > (wrap64 ((wrap64 (2 * (shl .i64 1 (IntKind.u64.wrap (wrap64 (x5 - 1)))))) - 1)) then (some (x22 == (wrap64 ((wrap64 (2 * (shl .i64 1 (IntKind.u64.wrap (wrap64 (x5 - 1)))))) - 1)))) else (some false))) else (none)) else (none)) else (some false)) else (if 0 < (x6.length : Int) then (if 1 < (x6.length : Int) then (if (wrap64 ((rd x6 0) + (rd x6 1))) ≤ (wrap64 ((wrap64 (2 * (shl .i64 1 (IntKind.u64.wrap (wrap64 (x5 - 1)))))) - 1)) then (if x22 = x18 then (some true) else (if (wrap64 ((rd x6 0) + (rd x6 1))) > (wrap64 ((wrap64 (2 * (shl .i64 1 (IntKind.u64.wrap (wrap64 (x5 - 1)))))) - 1)) then (some (x22 == (wrap64 ((wrap64 (2 * (shl .i64 1 (IntKind.u64.wrap (wrap64 (x5 - 1)))))) - 1)))) else (some false))) else (if (wrap64 ((rd x6 0) + (rd x6 1))) > (wrap64 ((wrap64 (2 * (shl .i64 1 (IntKind.u64.wrap (wrap64 (x5 - 1)))))) - 1)) then (some (x22 == (wrap64 ((wrap64 (2 * (shl .i64 1 (IntKind.u64.wrap (wrap64 (x5 - 1)))))) - 1)))) else (some false))) else (none)) else (none))) else (some false)) else (if (wrap64 (x26 + x28)) < (wrap64 (-(shl .i64 1 (IntKind.u64.wrap (wrap64 (x5 - 1)))))) then (if x30 = (wrap64 (-(shl .i64 1 (IntKind.u64.wrap (wrap64 (x5 - 1)))))) then (if 0 < (x6.length : Int) then (if 1 < (x6.length : Int) then (if (wrap64 ((rd x6 0) + (rd x6 1))) ≤ (wrap64 ((wrap64 (2 * (shl .i64 1 (IntKind.u64.wrap (wrap64 (x5 - 1)))))) - 1)) then (if x22 = x18 then (some true) else (if (wrap64 ((rd x6 0) + (rd x6 1))) > (wrap64 ((wrap64 (2 * (shl .i64 1 (IntKind.u64.wrap (wrap64 (x5 - 1)))))) - 1)) then (some (x22 == (wrap64 ((wrap64 (2 * (shl .i64 1 (IntKind.u64.wrap (wrap64 (x5 - 1)))))) - 1)))) else (some false))) else (if (wrap64 ((rd x6 0) + (rd x6 1))) > (wrap64 ((wrap64 (2 * (shl .i64 1 (IntKind.u64.wrap (wrap64 (x5 - 1)))))) - 1)) then (some (x22 == (wrap64 ((wrap64 (2 * (shl .i64 1 (IntKind.u64.wrap (wrap64 (x5 - 1)))))) - 1)))) else (some false))) else (none)) else (none)) else (some false)) else (if 0 < (x6.length : Int) then (if 1 < (x6.length : Int) then (if (wrap64 ((rd x6 0) + (rd x6 1))) ≤ (wrap64 ((wrap64 (2 * (shl .i64 1 (IntKind.u64.wrap (wrap64 (x5 - 1)))))) - 1)) then (if x22 = x18 then (some true) else (if (wrap64 ((rd x6 0) + (rd x6 1))) > (wrap64 ((wrap64 (2 * (shl .i64 1 (IntKind.u64.wrap (wrap64 (x5 - 1)))))) - 1)) then (some (x22 == (wrap64 ((wrap64 (2 * (shl .i64 1 (IntKind.u64.wrap (wrap64 (x5 - 1)))))) - 1)))) else (some false))) else (if (wrap64 ((rd x6 0) + (rd x6 1))) > (wrap64 ((wrap64 (2 * (shl .i64 1 (IntKind.u64.wrap (wrap64 (x5 - 1)))))) - 1)) then (some (x22 == (wrap64 ((wrap64 (2 * (shl .i64 1 (IntKind.u64.wrap (wrap64 (x5 - 1)))))) - 1)))) else (some false))) else (none)) else (none))))) else (none))
end
def laws_FnOps.f (k : Nat) (l0 : List Int) (l1 : List Int) : Option (Bool) := (laws_b10Long.f l0 l1).bind fun t187 => (if t187 = true then (some true) else ((spec_B10Bits.f l0).bind fun t188 => ((spec_B10Words.f k l1 t188 3).bind fun t189 => ((laws_b10At.f l0 1 18).bind fun t192 => (if 0 < (t189.length : Int) then (if 1 < (t189.length : Int) then ((impl_DoOp.f t192 t188 (rd t189 0) (rd t189 1)).bind fun bt195 => ((impl_DoOp.f t192 t188 (rd t189 1) (rd t189 0)).bind fun bt199 => (if 2 < (t189.length : Int) then ((impl_DoOp.f t192 t188 (rd t189 1) (rd t189 2)).bind fun bt203 => (if bt195.2 = true then (if bt199.2 = true then (if bt203.2 = true then ((impl_IsWord.f t188 bt195.1).bind fun t205 => (if t205 = true then ((impl_IsWord.f t188 bt203.1).bind fun t206 => (if t206 = true then ((impl_IsCommutative.f t192).bind fun t207 => (if t207 = true then (laws_FnOps.j0 k t188 t189 t192 bt195.1 bt203.1 (bt195.1 != bt199.1)) else (laws_FnOps.j0 k t188 t189 t192 bt195.1 bt203.1 false))) else (laws_FnOps.j0 k t188 t189 t192 bt195.1 bt203.1 true))) else (laws_FnOps.j0 k t188 t189 t192 bt195.1 bt203.1 true))) else (laws_FnOps.j0 k t188 t189 t192 bt195.1 bt203.1 true)) else (laws_FnOps.j0 k t188 t189 t192 bt195.1 bt203.1 true)) else (laws_FnOps.j0 k t188 t189 t192 bt195.1 bt203.1 true))) else (none)))) else (none)) else (none))))))
theorem laws_FnOps.mono_l : ∀ k, (∀ y0 y1 y2 y3 y4 y5, LeO (laws_FnOps.j0 k y0 y1 y2 y3 y4 y5) (laws_FnOps.j0 (k + 1) y0 y1 y2 y3 y4 y5)) ∧ (∀ y0 y1 y2, LeO (laws_FnOps.j1 k y0 y1 y2) (laws_FnOps.j1 (k + 1) y0 y1 y2)) ∧ (∀ y0 y1 y2 y3 y4 y5 y6 y7 y8, LeO (laws_FnOps.j2 k y0 y1 y2 y3 y4 y5 y6 y7 y8) (laws_FnOps.j2 (k + 1) y0 y1 y2 y3 y4 y5 y6 y7 y8))
 | 0 => ⟨fun _ _ _ _ _ _ r h => by simp [laws_FnOps.j0] at h, fun _ _ _ r h => by simp [laws_FnOps.j1] at h, fun _ _ _ _ _ _ _ _ _ r h => by simp [laws_FnOps.j2] at h⟩
 | k + 1 => by
  obtain ⟨ih0, ih1, ih2⟩ := laws_FnOps.mono_l k
  refine ⟨?_, ?_, ?_⟩
  ·intro y0 y1 y2 y3 y4 y5
   unfold laws_FnOps.j0
   repeat' first
   | (with_reducible exact ih0 _ _ _ _ _ _)
   | (with_reducible exact ih1 _ _ _)
   | (with_reducible exact ih2 _ _ _ _ _ _ _ _ _)
   | (with_reducible exact spec_B10Words.mono _ _ _ _)
   | (with_reducible exact LeO.refl _)
   | (with_reducible exact LeO.none _)
   | (with_reducible refine LeO.ite ?_ ?_)
   | (with_reducible refine LeO.bind ?_ (fun _ => ?_))
   | exact ih0 _ _ _ _ _ _
   | exact ih1 _ _ _
   | exact ih2 _ _ _ _ _ _ _ _ _
   | exact spec_B10Words.mono _ _ _ _
   | exact LeO.none _
   | refine LeO.ite ?_ ?_
   | refine LeO.bind ?_ (fun _ => ?_)
  ·intro y0 y1 y2
   unfold laws_FnOps.j1
   repeat' first
   | (with_reducible exact ih0 _ _ _ _ _ _)
   | (with_reducible exact ih1 _ _ _)
   | (with_reducible exact ih2 _ _ _ _ _ _ _ _ _)
   | (with_reducible exact spec_B10Words.mono _ _ _ _)
   | (with_reducible exact LeO.refl _)
   | (with_reducible exact LeO.none _)
   | (with_reducible refine LeO.ite ?_ ?_)
   | (with_reducible refine LeO.bind ?_ (fun _ => ?_))
   | exact ih0 _ _ _ _ _ _
   | exact ih1 _ _ _
   | exact ih2 _ _ _ _ _ _ _ _ _
   | exact spec_B10Words.mono _ _ _ _
   | exact LeO.none _
   | refine LeO.ite ?_ ?_
   | refine LeO.bind ?_ (fun _ => ?_)
  ·intro y0 y1 y2 y3 y4 y5 y6 y7 y8
   unfold laws_FnOps.j2
   repeat' first
   | (with_reducible exact ih0 _ _ _ _ _ _)
   | (with_reducible exact ih1 _ _ _)
   | (with_reducible exact ih2 _ _ _ _ _ _ _ _ _)
   | (with_reducible exact spec_B10Words.mono _ _ _ _)
   | (with_reducible exact LeO.refl _)
   | (with_reducible exact LeO.none _)
   | (with_reducible refine LeO.ite ?_ ?_)
   | (with_reducible refine LeO.bind ?_ (fun _ => ?_))
   | exact ih0 _ _ _ _ _ _
   | exact ih1 _ _ _
   | exact ih2 _ _ _ _ _ _ _ _ _
   | exact spec_B10Words.mono _ _ _ _
   | exact LeO.none _
   | refine LeO.ite ?_ ?_
   | refine LeO.bind ?_ (fun _ => ?_)
theorem laws_FnOps.mono : ∀ a0 a1 k, LeO (laws_FnOps.f k a0 a1) (laws_FnOps.f (k + 1) a0 a1) := by
 intro a0 a1 k
 obtain ⟨ih0, ih1, ih2⟩ := laws_FnOps.mono_l k
 unfold laws_FnOps.f
 repeat' first
   | (with_reducible exact ih0 _ _ _ _ _ _)
   | (with_reducible exact ih1 _ _ _)
   | (with_reducible exact ih2 _ _ _ _ _ _ _ _ _)
   | (with_reducible exact spec_B10Words.mono _ _ _ _)
   | (with_reducible exact LeO.refl _)
   | (with_reducible exact LeO.none _)
   | (with_reducible refine LeO.ite ?_ ?_)
   | (with_reducible refine LeO.bind ?_ (fun _ => ?_))
   | exact ih0 _ _ _ _ _ _
   | exact ih1 _ _ _
   | exact ih2 _ _ _ _ _ _ _ _ _
   | exact spec_B10Words.mono _ _ _ _
   | exact LeO.none _
   | refine LeO.ite ?_ ?_
   | refine LeO.bind ?_ (fun _ => ?_)
theorem laws_FnOps.j0_no {k : Nat} {y0 : Int} {y1 : List Int} {y2 : Int} {y3 : Int} {y4 : Int} {r : Bool} (h : laws_FnOps.j0 k y0 y1 y2 y3 y4 true = some r) (hr : r = true) : False := by
  cases k with
  | zero => exact nomatch (show (none : Option Bool) = some r from h)
  | succ k => exact absurd (Option.some.inj (show (some false : Option Bool) = some r from h)) (by rw [hr]; decide)
theorem laws_FnOps.j1_no {k : Nat} {y0 : Int} {y1 : List Int} {r : Bool} (h : laws_FnOps.j1 k y0 y1 true = some r) (hr : r = true) : False := by
  cases k with
  | zero => exact nomatch (show (none : Option Bool) = some r from h)
  | succ k => exact absurd (Option.some.inj (show (some false : Option Bool) = some r from h)) (by rw [hr]; decide)
theorem laws_FnOps.j2_no {k : Nat} {y0 : Int} {y1 : List Int} {y2 : Int} {y3 : Int} {y4 : Int} {y5 : Int} {y6 : Int} {y7 : Int} {r : Bool} (h : laws_FnOps.j2 k y0 y1 y2 y3 y4 y5 y6 y7 true = some r) (hr : r = true) : False := by
  cases k with
  | zero => exact nomatch (show (none : Option Bool) = some r from h)
  | succ k => exact absurd (Option.some.inj (show (some false : Option Bool) = some r from h)) (by rw [hr]; decide)
theorem ways_FnOps.z1 {a b : Int} (h : decide (a < b) = true) (q : b ≤ a) : False := by
  have := of_decide_eq_true h
  omega
theorem ways_FnOps.z2 {a b : Int} (h : decide (a < b) = false) (q : ¬ b ≤ a) : False := by
  have := of_decide_eq_false h
  omega
theorem ways_FnOps.z3 {a b : Int} (h : decide (b ≤ a) = true) (q : a < b) : False := by
  have := of_decide_eq_true h
  omega
theorem ways_FnOps.z4 {a b : Int} (h : decide (b ≤ a) = false) (q : ¬ a < b) : False := by
  have := of_decide_eq_false h
  omega
theorem ways_FnOps.z5 {a b : Int} (h : decide (a < b) = true) (q : ¬ a < b) : False := by
  have := of_decide_eq_true h
  omega
theorem ways_FnOps.z6 {a b : Int} (h : decide (a < b) = false) (q : a < b) : False := by
  have := of_decide_eq_false h
  omega
theorem ways_FnOps.z7 {a b : Int} (h : decide (b ≤ a) = true) (q : ¬ b ≤ a) : False := by
  have := of_decide_eq_true h
  omega
theorem ways_FnOps.z8 {a b : Int} (h : decide (b ≤ a) = false) (q : b ≤ a) : False := by
  have := of_decide_eq_false h
  omega
set_option maxHeartbeats 8000000 in
set_option maxRecDepth 100000 in
theorem laws_FnOps.calls (k : Nat) (A0 : Option Addr) (c0 : Nat) (l0 : List Int) (A1 : Option Addr) (c1 : Nat) (l1 : List Int) (r : Bool) (w : World) (hr0 : Kd.C (Kd.int .u8) w A0 l0.length l0) (hc0 : l0.length ≤ c0) (hr1 : Kd.C (Kd.int .u8) w A1 l1.length l1) (hc1 : l1.length ≤ c1) (h : laws_FnOps.f k l0 l1 = some r) (hrtrue : r = true) :
  Calls Try.prog 12 #[.slice A0 l0.length c0, .slice A1 l1.length c1] w fun e w' => e = .returned (.bool r) ∧ Below w.heap.size w w' := by
 have HR0 := Aside0.mk hr0
 have HC0 := Aside0.mk hc0
 clear hr0 hc0
 have HR1 := Aside0.mk hr1
 have HC1 := Aside0.mk hc1
 clear hr1 hc1
 have HB := Aside0.mk (Below.refl w.heap.size w)
 have H : ((laws_b10Long.f l0 l1).bind fun t187 => (if t187 = true then (some true) else ((spec_B10Bits.f l0).bind fun t188 => ((spec_B10Words.f k l1 t188 3).bind fun t189 => ((laws_b10At.f l0 1 18).bind fun t192 => (if 0 < (t189.length : Int) then (if 1 < (t189.length : Int) then ((impl_DoOp.f t192 t188 (rd t189 0) (rd t189 1)).bind fun bt195 => ((impl_DoOp.f t192 t188 (rd t189 1) (rd t189 0)).bind fun bt199 => (if 2 < (t189.length : Int) then ((impl_DoOp.f t192 t188 (rd t189 1) (rd t189 2)).bind fun bt203 => (if bt195.2 = true then (if bt199.2 = true then (if bt203.2 = true then ((impl_IsWord.f t188 bt195.1).bind fun t205 => (if t205 = true then ((impl_IsWord.f t188 bt203.1).bind fun t206 => (if t206 = true then ((impl_IsCommutative.f t192).bind fun t207 => (if t207 = true then (laws_FnOps.j0 k t188 t189 t192 bt195.1 bt203.1 (bt195.1 != bt199.1)) else (laws_FnOps.j0 k t188 t189 t192 bt195.1 bt203.1 false))) else (laws_FnOps.j0 k t188 t189 t192 bt195.1 bt203.1 true))) else (laws_FnOps.j0 k t188 t189 t192 bt195.1 bt203.1 true))) else (laws_FnOps.j0 k t188 t189 t192 bt195.1 bt203.1 true)) else (laws_FnOps.j0 k t188 t189 t192 bt195.1 bt203.1 true)) else (laws_FnOps.j0 k t188 t189 t192 bt195.1 bt203.1 true))) else (none)))) else (none)) else (none))))))) = some r := h
 clear h
 have HRT := Aside0.mk hrtrue
 clear hrtrue
 replace H := Option.bind_eq_some_iff.mp H
 obtain ⟨t187, A30, H⟩ := H
 try dsimp only at H
 have A3 := Aside0.mk A30
 clear A30
 by_cases c4 : t187 = true
 ·subst c4
  rw [if_pos rfl] at H
  obtain rfl := Option.some.inj H
  go_enter Try.func12, Try.ntmps12
  go_wp2_with (first | (go_at_call 30; (with_reducible refine (laws_b10Long.calls _ _ l0 _ _ l1 true _ ?side1 ?side2 ?side3 ?side4 A3.out).mono ?_); (case side1 => repeat (first | exact HR0.out | (with_reducible refine Kd.C_alloc ?_ _) | (with_reducible refine Kd.C_drewN ?_ _) | (with_reducible refine Kd.C_drew ?_))); (case side2 => exact HC0.out); (case side3 => repeat (first | exact HR1.out | (with_reducible refine Kd.C_alloc ?_ _) | (with_reducible refine Kd.C_drewN ?_ _) | (with_reducible refine Kd.C_drew ?_))); (case side4 => exact HC1.out); rintro e w' ⟨rfl, ⟨nd, rfl⟩⟩; (try first | exact ⟨rfl, _, World.drewN_drewN _ _ _⟩ | exact ⟨rfl, _, Eq.trans (World.drewN_drewN _ _ _) (congrArg (World.drewN _) (Nat.add_assoc _ _ _))⟩)))
  repeat (go_quiet (first | (go_at_call 30; (with_reducible refine (laws_b10Long.calls _ _ l0 _ _ l1 true _ ?side1 ?side2 ?side3 ?side4 A3.out).mono ?_); (case side1 => repeat (first | exact HR0.out | (with_reducible refine Kd.C_alloc ?_ _) | (with_reducible refine Kd.C_drewN ?_ _) | (with_reducible refine Kd.C_drew ?_))); (case side2 => exact HC0.out); (case side3 => repeat (first | exact HR1.out | (with_reducible refine Kd.C_alloc ?_ _) | (with_reducible refine Kd.C_drewN ?_ _) | (with_reducible refine Kd.C_drew ?_))); (case side4 => exact HC1.out); rintro e w' ⟨rfl, ⟨nd, rfl⟩⟩; (try first | exact ⟨rfl, _, World.drewN_drewN _ _ _⟩ | exact ⟨rfl, _, Eq.trans (World.drewN_drewN _ _ _) (congrArg (World.drewN _) (Nat.add_assoc _ _ _))⟩))); try go_wp2_with (first | (go_at_call 30; (with_reducible refine (laws_b10Long.calls _ _ l0 _ _ l1 true _ ?side1 ?side2 ?side3 ?side4 A3.out).mono ?_); (case side1 => repeat (first | exact HR0.out | (with_reducible refine Kd.C_alloc ?_ _) | (with_reducible refine Kd.C_drewN ?_ _) | (with_reducible refine Kd.C_drew ?_))); (case side2 => exact HC0.out); (case side3 => repeat (first | exact HR1.out | (with_reducible refine Kd.C_alloc ?_ _) | (with_reducible refine Kd.C_drewN ?_ _) | (with_reducible refine Kd.C_drew ?_))); (case side4 => exact HC1.out); rintro e w' ⟨rfl, ⟨nd, rfl⟩⟩; (try first | exact ⟨rfl, _, World.drewN_drewN _ _ _⟩ | exact ⟨rfl, _, Eq.trans (World.drewN_drewN _ _ _) (congrArg (World.drewN _) (Nat.add_assoc _ _ _))⟩))))
  go_ret
  exact ⟨by first | rfl | (simp [errW_none, errW_some] <;> rfl) | (simp [*, errW_none, errW_some] <;> rfl), by repeat (first | (with_reducible first | exact HB.out | apply below_alloc | apply pw_below_drewN | apply below_drew1) | exact HB.out)⟩
 replace c4 := Bool.eq_false_iff.mpr c4
 subst c4
 rw [if_neg (show ¬ (false = true) by decide)] at H
 replace H := Option.bind_eq_some_iff.mp H
 obtain ⟨t188, A50, H⟩ := H
 try dsimp only at H
 have A5 := Aside0.mk A50
 clear A50
 replace H := Option.bind_eq_some_iff.mp H
 obtain ⟨t189, A60, H⟩ := H
 try dsimp only at H
 have A6 := Aside0.mk A60
 clear A60
 replace H := Option.bind_eq_some_iff.mp H
 obtain ⟨t192, A70, H⟩ := H
 try dsimp only at H
 have A7 := Aside0.mk A70
 clear A70
 by_cases c8 : 0 < (t189.length : Int)
 rotate_left
 ·rw [if_neg c8] at H
  exact absurd H (by simp)

 rw [if_pos c8] at H
 have c8b0 : decide (0 < (t189.length : Int)) = true := decide_eq_true c8
 have c8b1 : decide (0 < t189.length) = true := decide_eq_true (by omega)
 clear c8
 by_cases c9 : 1 < (t189.length : Int)
 rotate_left
 ·rw [if_neg c9] at H
  exact absurd H (by simp)
 rw [if_pos c9] at H
 have c9b0 : decide (1 < (t189.length : Int)) = true := decide_eq_true c9
 have c9b1 : decide (1 < t189.length) = true := decide_eq_true (by omega)
 clear c9
 replace H := Option.bind_eq_some_iff.mp H
 obtain ⟨⟨t195, t196⟩, A100, H⟩ := H
 try dsimp only at H
 have A10 := Aside0.mk A100
 clear A100
 replace H := Option.bind_eq_some_iff.mp H
 obtain ⟨⟨t199, t200⟩, A110, H⟩ := H
 try dsimp only at H
 have A11 := Aside0.mk A110
 clear A110
 by_cases c12 : 2 < (t189.length : Int)
 rotate_left
 ·rw [if_neg c12] at H
  exact absurd H (by simp)
 rw [if_pos c12] at H
 have c12b0 : decide (2 < (t189.length : Int)) = true := decide_eq_true c12
 have c12b1 : decide (2 < t189.length) = true := decide_eq_true (by omega)
 clear c12
 replace H := Option.bind_eq_some_iff.mp H
 obtain ⟨⟨t203, t204⟩, A130, H⟩ := H
 try dsimp only at H
 have A13 := Aside0.mk A130
 clear A130
 have HC14 := Aside0.mk H
 clear H
 go_enter Try.func12, Try.ntmps12
 go_upto_region 9 with (first | (go_at_call 30; (with_reducible refine (laws_b10Long.calls _ _ l0 _ _ l1 false _ ?side1 ?side2 ?side3 ?side4 A3.out).mono ?_); (case side1 => repeat (first | exact HR0.out | (with_reducible refine Kd.C_alloc ?_ _) | (with_reducible refine Kd.C_drewN ?_ _) | (with_reducible refine Kd.C_drew ?_))); (case side2 => exact HC0.out); (case side3 => repeat (first | exact HR1.out | (with_reducible refine Kd.C_alloc ?_ _) | (with_reducible refine Kd.C_drewN ?_ _) | (with_reducible refine Kd.C_drew ?_))); (case side4 => exact HC1.out); rintro e w' ⟨rfl, ⟨nd, rfl⟩⟩; (try first | exact ⟨rfl, _, World.drewN_drewN _ _ _⟩ | exact ⟨rfl, _, Eq.trans (World.drewN_drewN _ _ _) (congrArg (World.drewN _) (Nat.add_assoc _ _ _))⟩)) | (go_at_call 31; (with_reducible refine (spec_B10Bits.calls _ _ l0 t188 _ ?side1 ?side2 A5.out).mono ?_); (case side1 => repeat (first | exact HR0.out | (with_reducible refine Kd.C_alloc ?_ _) | (with_reducible refine Kd.C_drewN ?_ _) | (with_reducible refine Kd.C_drew ?_))); (case side2 => exact HC0.out); rintro e w15 ⟨rfl, hb⟩; have n0_ := Aside0.mk (below_step (by repeat (first | (with_reducible first | exact HB.out | apply below_alloc | apply pw_below_drewN | apply below_drew1) | exact HB.out)) hb); clear HB; have HB := n0_; clear n0_; (try clear hb); (try clear hb2); (try clear hk); (try clear hi)) | (go_at_call 32; (with_reducible refine (spec_B10Words.calls k _ _ l1 t188 3 t189 _ ?side1 ?side2 A6.out).mono ?_); (case side1 => repeat (first | exact (Kd.C_below HR1.out HB.out) | (with_reducible refine Kd.C_alloc ?_ _) | (with_reducible refine Kd.C_drewN ?_ _) | (with_reducible refine Kd.C_drew ?_))); (case side2 => exact HC1.out); rintro e w16 ⟨v190, rfl, ho0, hb⟩; have n0_ := Aside0.mk (Kd.R_lower ho0 (below_size (by repeat (first | (with_reducible first | exact HB.out | apply below_alloc | apply pw_below_drewN | apply below_drew1) | exact HB.out)))); have n1_ := Aside0.mk (below_step (by repeat (first | (with_reducible first | exact HB.out | apply below_alloc | apply pw_below_drewN | apply below_drew1) | exact HB.out)) hb); clear HB; have HO191 := n0_; have HB := n1_; clear n0_ n1_; (try clear hb); (try clear hb2); (try clear hk); (try clear hi); (try clear ho0)) | (go_at_call 33; (with_reducible refine (laws_b10At.calls _ _ l0 1 18 t192 _ ?side1 ?side2 A7.out).mono ?_); (case side1 => repeat (first | exact (Kd.C_below HR0.out HB.out) | (with_reducible refine Kd.C_alloc ?_ _) | (with_reducible refine Kd.C_drewN ?_ _) | (with_reducible refine Kd.C_drew ?_))); (case side2 => exact HC0.out); rintro e w' ⟨rfl, ⟨nd, rfl⟩⟩; (try first | exact ⟨rfl, _, World.drewN_drewN _ _ _⟩ | exact ⟨rfl, _, Eq.trans (World.drewN_drewN _ _ _) (congrArg (World.drewN _) (Nat.add_assoc _ _ _))⟩); obtain ⟨Ao17, co17, eo17⟩ := Kd.R_slice HO191.out; subst eo17; have p193 : 0 ≤ (0 : Int) := (by omega); have q193 : 0 < (t189.length : Int) := of_decide_eq_true (by first | (with_reducible assumption) | assumption); obtain ⟨ad193, e193, hx193_0⟩ := Kd.at_int (Kd.R_reads' HO191.out).2.2 0 p193 q193; cases e193; have qi193 : (0 < t189.length) = True := eq_true (by omega); (try rw [show ((0 : Int)).toNat = 0 from rfl] at hx193_0); (try rw [Addr.add_zero'] at hx193_0); replace p193 := eq_true p193; replace q193 := eq_true q193; have p194 : 0 ≤ (1 : Int) := (by omega); have q194 : 1 < (t189.length : Int) := of_decide_eq_true (by first | (with_reducible assumption) | assumption); obtain ⟨ad194, e194, hx194_0⟩ := Kd.at_int (Kd.R_reads' HO191.out).2.2 1 p194 q194; obtain rfl : ad193 = ad194 := (by injection e194); (try simp only [show (1 : Int).toNat = 1 from rfl, Nat.reduceMul, Nat.reduceEqDiff, Go.Addr.add, ↓reduceIte] at hx194_0); have qi194 : (1 < t189.length) = True := eq_true (by omega); (try rw [show ((1 : Int)).toNat = 1 from rfl] at hx194_0); replace p194 := eq_true p194; replace q194 := eq_true q194) | (go_at_call 29; (with_reducible refine (impl_DoOp.calls t192 t188 (rd t189 0) (rd t189 1) t195 t196 _ A10.out).mono ?_); rintro e w' ⟨rfl, ⟨nd, rfl⟩⟩; (try first | exact ⟨rfl, _, World.drewN_drewN _ _ _⟩ | exact ⟨rfl, _, Eq.trans (World.drewN_drewN _ _ _) (congrArg (World.drewN _) (Nat.add_assoc _ _ _))⟩); have p197 : 0 ≤ (1 : Int) := (by omega); have q197 : 1 < (t189.length : Int) := of_decide_eq_true (by first | (with_reducible assumption) | assumption); obtain ⟨ad197, e197, hx197_0⟩ := Kd.at_int (Kd.R_reads' HO191.out).2.2 1 p197 q197; obtain rfl : ad193 = ad197 := (by injection e197); (try simp only [show (1 : Int).toNat = 1 from rfl, Nat.reduceMul, Nat.reduceEqDiff, Go.Addr.add, ↓reduceIte] at hx197_0); have qi197 : (1 < t189.length) = True := eq_true (by omega); (try rw [show ((1 : Int)).toNat = 1 from rfl] at hx197_0); replace p197 := eq_true p197; replace q197 := eq_true q197; have p198 : 0 ≤ (0 : Int) := (by omega); have q198 : 0 < (t189.length : Int) := of_decide_eq_true (by first | (with_reducible assumption) | assumption); obtain ⟨ad198, e198, hx198_0⟩ := Kd.at_int (Kd.R_reads' HO191.out).2.2 0 p198 q198; obtain rfl : ad193 = ad198 := (by injection e198); have qi198 : (0 < t189.length) = True := eq_true (by omega); (try rw [show ((0 : Int)).toNat = 0 from rfl] at hx198_0); (try rw [Addr.add_zero'] at hx198_0); replace p198 := eq_true p198; replace q198 := eq_true q198) | (go_at_call 29; (with_reducible refine (impl_DoOp.calls t192 t188 (rd t189 1) (rd t189 0) t199 t200 _ A11.out).mono ?_); rintro e w' ⟨rfl, ⟨nd, rfl⟩⟩; (try first | exact ⟨rfl, _, World.drewN_drewN _ _ _⟩ | exact ⟨rfl, _, Eq.trans (World.drewN_drewN _ _ _) (congrArg (World.drewN _) (Nat.add_assoc _ _ _))⟩); have p201 : 0 ≤ (1 : Int) := (by omega); have q201 : 1 < (t189.length : Int) := of_decide_eq_true (by first | (with_reducible assumption) | assumption); obtain ⟨ad201, e201, hx201_0⟩ := Kd.at_int (Kd.R_reads' HO191.out).2.2 1 p201 q201; obtain rfl : ad193 = ad201 := (by injection e201); (try simp only [show (1 : Int).toNat = 1 from rfl, Nat.reduceMul, Nat.reduceEqDiff, Go.Addr.add, ↓reduceIte] at hx201_0); have qi201 : (1 < t189.length) = True := eq_true (by omega); (try rw [show ((1 : Int)).toNat = 1 from rfl] at hx201_0); replace p201 := eq_true p201; replace q201 := eq_true q201; have p202 : 0 ≤ (2 : Int) := (by omega); have q202 : 2 < (t189.length : Int) := of_decide_eq_true (by first | (with_reducible assumption) | assumption); obtain ⟨ad202, e202, hx202_0⟩ := Kd.at_int (Kd.R_reads' HO191.out).2.2 2 p202 q202; obtain rfl : ad193 = ad202 := (by injection e202); (try simp only [show (2 : Int).toNat = 2 from rfl, Nat.reduceMul, Nat.reduceEqDiff, Go.Addr.add, ↓reduceIte] at hx202_0); have qi202 : (2 < t189.length) = True := eq_true (by omega); (try rw [show ((2 : Int)).toNat = 2 from rfl] at hx202_0); replace p202 := eq_true p202; replace q202 := eq_true q202) | (go_at_call 29; (with_reducible refine (impl_DoOp.calls t192 t188 (rd t189 1) (rd t189 2) t203 t204 _ A13.out).mono ?_); rintro e w' ⟨rfl, ⟨nd, rfl⟩⟩; (try first | exact ⟨rfl, _, World.drewN_drewN _ _ _⟩ | exact ⟨rfl, _, Eq.trans (World.drewN_drewN _ _ _) (congrArg (World.drewN _) (Nat.add_assoc _ _ _))⟩)))
 repeat (go_quiet (first | (go_at_call 30; (with_reducible refine (laws_b10Long.calls _ _ l0 _ _ l1 false _ ?side1 ?side2 ?side3 ?side4 A3.out).mono ?_); (case side1 => repeat (first | exact HR0.out | (with_reducible refine Kd.C_alloc ?_ _) | (with_reducible refine Kd.C_drewN ?_ _) | (with_reducible refine Kd.C_drew ?_))); (case side2 => exact HC0.out); (case side3 => repeat (first | exact HR1.out | (with_reducible refine Kd.C_alloc ?_ _) | (with_reducible refine Kd.C_drewN ?_ _) | (with_reducible refine Kd.C_drew ?_))); (case side4 => exact HC1.out); rintro e w' ⟨rfl, ⟨nd, rfl⟩⟩; (try first | exact ⟨rfl, _, World.drewN_drewN _ _ _⟩ | exact ⟨rfl, _, Eq.trans (World.drewN_drewN _ _ _) (congrArg (World.drewN _) (Nat.add_assoc _ _ _))⟩)) | (go_at_call 31; (with_reducible refine (spec_B10Bits.calls _ _ l0 t188 _ ?side1 ?side2 A5.out).mono ?_); (case side1 => repeat (first | exact HR0.out | (with_reducible refine Kd.C_alloc ?_ _) | (with_reducible refine Kd.C_drewN ?_ _) | (with_reducible refine Kd.C_drew ?_))); (case side2 => exact HC0.out); rintro e w15 ⟨rfl, hb⟩; have n0_ := Aside0.mk (below_step (by repeat (first | (with_reducible first | exact HB.out | apply below_alloc | apply pw_below_drewN | apply below_drew1) | exact HB.out)) hb); clear HB; have HB := n0_; clear n0_; (try clear hb); (try clear hb2); (try clear hk); (try clear hi)) | (go_at_call 32; (with_reducible refine (spec_B10Words.calls k _ _ l1 t188 3 t189 _ ?side1 ?side2 A6.out).mono ?_); (case side1 => repeat (first | exact (Kd.C_below HR1.out HB.out) | (with_reducible refine Kd.C_alloc ?_ _) | (with_reducible refine Kd.C_drewN ?_ _) | (with_reducible refine Kd.C_drew ?_))); (case side2 => exact HC1.out); rintro e w16 ⟨v190, rfl, ho0, hb⟩; have n0_ := Aside0.mk (Kd.R_lower ho0 (below_size (by repeat (first | (with_reducible first | exact HB.out | apply below_alloc | apply pw_below_drewN | apply below_drew1) | exact HB.out)))); have n1_ := Aside0.mk (below_step (by repeat (first | (with_reducible first | exact HB.out | apply below_alloc | apply pw_below_drewN | apply below_drew1) | exact HB.out)) hb); clear HB; have HO191 := n0_; have HB := n1_; clear n0_ n1_; (try clear hb); (try clear hb2); (try clear hk); (try clear hi); (try clear ho0)) | (go_at_call 33; (with_reducible refine (laws_b10At.calls _ _ l0 1 18 t192 _ ?side1 ?side2 A7.out).mono ?_); (case side1 => repeat (first | exact (Kd.C_below HR0.out HB.out) | (with_reducible refine Kd.C_alloc ?_ _) | (with_reducible refine Kd.C_drewN ?_ _) | (with_reducible refine Kd.C_drew ?_))); (case side2 => exact HC0.out); rintro e w' ⟨rfl, ⟨nd, rfl⟩⟩; (try first | exact ⟨rfl, _, World.drewN_drewN _ _ _⟩ | exact ⟨rfl, _, Eq.trans (World.drewN_drewN _ _ _) (congrArg (World.drewN _) (Nat.add_assoc _ _ _))⟩); obtain ⟨Ao17, co17, eo17⟩ := Kd.R_slice HO191.out; subst eo17; have p193 : 0 ≤ (0 : Int) := (by omega); have q193 : 0 < (t189.length : Int) := of_decide_eq_true (by first | (with_reducible assumption) | assumption); obtain ⟨ad193, e193, hx193_0⟩ := Kd.at_int (Kd.R_reads' HO191.out).2.2 0 p193 q193; cases e193; have qi193 : (0 < t189.length) = True := eq_true (by omega); (try rw [show ((0 : Int)).toNat = 0 from rfl] at hx193_0); (try rw [Addr.add_zero'] at hx193_0); replace p193 := eq_true p193; replace q193 := eq_true q193; have p194 : 0 ≤ (1 : Int) := (by omega); have q194 : 1 < (t189.length : Int) := of_decide_eq_true (by first | (with_reducible assumption) | assumption); obtain ⟨ad194, e194, hx194_0⟩ := Kd.at_int (Kd.R_reads' HO191.out).2.2 1 p194 q194; obtain rfl : ad193 = ad194 := (by injection e194); (try simp only [show (1 : Int).toNat = 1 from rfl, Nat.reduceMul, Nat.reduceEqDiff, Go.Addr.add, ↓reduceIte] at hx194_0); have qi194 : (1 < t189.length) = True := eq_true (by omega); (try rw [show ((1 : Int)).toNat = 1 from rfl] at hx194_0); replace p194 := eq_true p194; replace q194 := eq_true q194) | (go_at_call 29; (with_reducible refine (impl_DoOp.calls t192 t188 (rd t189 0) (rd t189 1) t195 t196 _ A10.out).mono ?_); rintro e w' ⟨rfl, ⟨nd, rfl⟩⟩; (try first | exact ⟨rfl, _, World.drewN_drewN _ _ _⟩ | exact ⟨rfl, _, Eq.trans (World.drewN_drewN _ _ _) (congrArg (World.drewN _) (Nat.add_assoc _ _ _))⟩); have p197 : 0 ≤ (1 : Int) := (by omega); have q197 : 1 < (t189.length : Int) := of_decide_eq_true (by first | (with_reducible assumption) | assumption); obtain ⟨ad197, e197, hx197_0⟩ := Kd.at_int (Kd.R_reads' HO191.out).2.2 1 p197 q197; obtain rfl : ad193 = ad197 := (by injection e197); (try simp only [show (1 : Int).toNat = 1 from rfl, Nat.reduceMul, Nat.reduceEqDiff, Go.Addr.add, ↓reduceIte] at hx197_0); have qi197 : (1 < t189.length) = True := eq_true (by omega); (try rw [show ((1 : Int)).toNat = 1 from rfl] at hx197_0); replace p197 := eq_true p197; replace q197 := eq_true q197; have p198 : 0 ≤ (0 : Int) := (by omega); have q198 : 0 < (t189.length : Int) := of_decide_eq_true (by first | (with_reducible assumption) | assumption); obtain ⟨ad198, e198, hx198_0⟩ := Kd.at_int (Kd.R_reads' HO191.out).2.2 0 p198 q198; obtain rfl : ad193 = ad198 := (by injection e198); have qi198 : (0 < t189.length) = True := eq_true (by omega); (try rw [show ((0 : Int)).toNat = 0 from rfl] at hx198_0); (try rw [Addr.add_zero'] at hx198_0); replace p198 := eq_true p198; replace q198 := eq_true q198) | (go_at_call 29; (with_reducible refine (impl_DoOp.calls t192 t188 (rd t189 1) (rd t189 0) t199 t200 _ A11.out).mono ?_); rintro e w' ⟨rfl, ⟨nd, rfl⟩⟩; (try first | exact ⟨rfl, _, World.drewN_drewN _ _ _⟩ | exact ⟨rfl, _, Eq.trans (World.drewN_drewN _ _ _) (congrArg (World.drewN _) (Nat.add_assoc _ _ _))⟩); have p201 : 0 ≤ (1 : Int) := (by omega); have q201 : 1 < (t189.length : Int) := of_decide_eq_true (by first | (with_reducible assumption) | assumption); obtain ⟨ad201, e201, hx201_0⟩ := Kd.at_int (Kd.R_reads' HO191.out).2.2 1 p201 q201; obtain rfl : ad193 = ad201 := (by injection e201); (try simp only [show (1 : Int).toNat = 1 from rfl, Nat.reduceMul, Nat.reduceEqDiff, Go.Addr.add, ↓reduceIte] at hx201_0); have qi201 : (1 < t189.length) = True := eq_true (by omega); (try rw [show ((1 : Int)).toNat = 1 from rfl] at hx201_0); replace p201 := eq_true p201; replace q201 := eq_true q201; have p202 : 0 ≤ (2 : Int) := (by omega); have q202 : 2 < (t189.length : Int) := of_decide_eq_true (by first | (with_reducible assumption) | assumption); obtain ⟨ad202, e202, hx202_0⟩ := Kd.at_int (Kd.R_reads' HO191.out).2.2 2 p202 q202; obtain rfl : ad193 = ad202 := (by injection e202); (try simp only [show (2 : Int).toNat = 2 from rfl, Nat.reduceMul, Nat.reduceEqDiff, Go.Addr.add, ↓reduceIte] at hx202_0); have qi202 : (2 < t189.length) = True := eq_true (by omega); (try rw [show ((2 : Int)).toNat = 2 from rfl] at hx202_0); replace p202 := eq_true p202; replace q202 := eq_true q202) | (go_at_call 29; (with_reducible refine (impl_DoOp.calls t192 t188 (rd t189 1) (rd t189 2) t203 t204 _ A13.out).mono ?_); rintro e w' ⟨rfl, ⟨nd, rfl⟩⟩; (try first | exact ⟨rfl, _, World.drewN_drewN _ _ _⟩ | exact ⟨rfl, _, Eq.trans (World.drewN_drewN _ _ _) (congrArg (World.drewN _) (Nat.add_assoc _ _ _))⟩))); go_upto_region 9 with (first | (go_at_call 30; (with_reducible refine (laws_b10Long.calls _ _ l0 _ _ l1 false _ ?side1 ?side2 ?side3 ?side4 A3.out).mono ?_); (case side1 => repeat (first | exact HR0.out | (with_reducible refine Kd.C_alloc ?_ _) | (with_reducible refine Kd.C_drewN ?_ _) | (with_reducible refine Kd.C_drew ?_))); (case side2 => exact HC0.out); (case side3 => repeat (first | exact HR1.out | (with_reducible refine Kd.C_alloc ?_ _) | (with_reducible refine Kd.C_drewN ?_ _) | (with_reducible refine Kd.C_drew ?_))); (case side4 => exact HC1.out); rintro e w' ⟨rfl, ⟨nd, rfl⟩⟩; (try first | exact ⟨rfl, _, World.drewN_drewN _ _ _⟩ | exact ⟨rfl, _, Eq.trans (World.drewN_drewN _ _ _) (congrArg (World.drewN _) (Nat.add_assoc _ _ _))⟩)) | (go_at_call 31; (with_reducible refine (spec_B10Bits.calls _ _ l0 t188 _ ?side1 ?side2 A5.out).mono ?_); (case side1 => repeat (first | exact HR0.out | (with_reducible refine Kd.C_alloc ?_ _) | (with_reducible refine Kd.C_drewN ?_ _) | (with_reducible refine Kd.C_drew ?_))); (case side2 => exact HC0.out); rintro e w15 ⟨rfl, hb⟩; have n0_ := Aside0.mk (below_step (by repeat (first | (with_reducible first | exact HB.out | apply below_alloc | apply pw_below_drewN | apply below_drew1) | exact HB.out)) hb); clear HB; have HB := n0_; clear n0_; (try clear hb); (try clear hb2); (try clear hk); (try clear hi)) | (go_at_call 32; (with_reducible refine (spec_B10Words.calls k _ _ l1 t188 3 t189 _ ?side1 ?side2 A6.out).mono ?_); (case side1 => repeat (first | exact (Kd.C_below HR1.out HB.out) | (with_reducible refine Kd.C_alloc ?_ _) | (with_reducible refine Kd.C_drewN ?_ _) | (with_reducible refine Kd.C_drew ?_))); (case side2 => exact HC1.out); rintro e w16 ⟨v190, rfl, ho0, hb⟩; have n0_ := Aside0.mk (Kd.R_lower ho0 (below_size (by repeat (first | (with_reducible first | exact HB.out | apply below_alloc | apply pw_below_drewN | apply below_drew1) | exact HB.out)))); have n1_ := Aside0.mk (below_step (by repeat (first | (with_reducible first | exact HB.out | apply below_alloc | apply pw_below_drewN | apply below_drew1) | exact HB.out)) hb); clear HB; have HO191 := n0_; have HB := n1_; clear n0_ n1_; (try clear hb); (try clear hb2); (try clear hk); (try clear hi); (try clear ho0)) | (go_at_call 33; (with_reducible refine (laws_b10At.calls _ _ l0 1 18 t192 _ ?side1 ?side2 A7.out).mono ?_); (case side1 => repeat (first | exact (Kd.C_below HR0.out HB.out) | (with_reducible refine Kd.C_alloc ?_ _) | (with_reducible refine Kd.C_drewN ?_ _) | (with_reducible refine Kd.C_drew ?_))); (case side2 => exact HC0.out); rintro e w' ⟨rfl, ⟨nd, rfl⟩⟩; (try first | exact ⟨rfl, _, World.drewN_drewN _ _ _⟩ | exact ⟨rfl, _, Eq.trans (World.drewN_drewN _ _ _) (congrArg (World.drewN _) (Nat.add_assoc _ _ _))⟩); obtain ⟨Ao17, co17, eo17⟩ := Kd.R_slice HO191.out; subst eo17; have p193 : 0 ≤ (0 : Int) := (by omega); have q193 : 0 < (t189.length : Int) := of_decide_eq_true (by first | (with_reducible assumption) | assumption); obtain ⟨ad193, e193, hx193_0⟩ := Kd.at_int (Kd.R_reads' HO191.out).2.2 0 p193 q193; cases e193; have qi193 : (0 < t189.length) = True := eq_true (by omega); (try rw [show ((0 : Int)).toNat = 0 from rfl] at hx193_0); (try rw [Addr.add_zero'] at hx193_0); replace p193 := eq_true p193; replace q193 := eq_true q193; have p194 : 0 ≤ (1 : Int) := (by omega); have q194 : 1 < (t189.length : Int) := of_decide_eq_true (by first | (with_reducible assumption) | assumption); obtain ⟨ad194, e194, hx194_0⟩ := Kd.at_int (Kd.R_reads' HO191.out).2.2 1 p194 q194; obtain rfl : ad193 = ad194 := (by injection e194); (try simp only [show (1 : Int).toNat = 1 from rfl, Nat.reduceMul, Nat.reduceEqDiff, Go.Addr.add, ↓reduceIte] at hx194_0); have qi194 : (1 < t189.length) = True := eq_true (by omega); (try rw [show ((1 : Int)).toNat = 1 from rfl] at hx194_0); replace p194 := eq_true p194; replace q194 := eq_true q194) | (go_at_call 29; (with_reducible refine (impl_DoOp.calls t192 t188 (rd t189 0) (rd t189 1) t195 t196 _ A10.out).mono ?_); rintro e w' ⟨rfl, ⟨nd, rfl⟩⟩; (try first | exact ⟨rfl, _, World.drewN_drewN _ _ _⟩ | exact ⟨rfl, _, Eq.trans (World.drewN_drewN _ _ _) (congrArg (World.drewN _) (Nat.add_assoc _ _ _))⟩); have p197 : 0 ≤ (1 : Int) := (by omega); have q197 : 1 < (t189.length : Int) := of_decide_eq_true (by first | (with_reducible assumption) | assumption); obtain ⟨ad197, e197, hx197_0⟩ := Kd.at_int (Kd.R_reads' HO191.out).2.2 1 p197 q197; obtain rfl : ad193 = ad197 := (by injection e197); (try simp only [show (1 : Int).toNat = 1 from rfl, Nat.reduceMul, Nat.reduceEqDiff, Go.Addr.add, ↓reduceIte] at hx197_0); have qi197 : (1 < t189.length) = True := eq_true (by omega); (try rw [show ((1 : Int)).toNat = 1 from rfl] at hx197_0); replace p197 := eq_true p197; replace q197 := eq_true q197; have p198 : 0 ≤ (0 : Int) := (by omega); have q198 : 0 < (t189.length : Int) := of_decide_eq_true (by first | (with_reducible assumption) | assumption); obtain ⟨ad198, e198, hx198_0⟩ := Kd.at_int (Kd.R_reads' HO191.out).2.2 0 p198 q198; obtain rfl : ad193 = ad198 := (by injection e198); have qi198 : (0 < t189.length) = True := eq_true (by omega); (try rw [show ((0 : Int)).toNat = 0 from rfl] at hx198_0); (try rw [Addr.add_zero'] at hx198_0); replace p198 := eq_true p198; replace q198 := eq_true q198) | (go_at_call 29; (with_reducible refine (impl_DoOp.calls t192 t188 (rd t189 1) (rd t189 0) t199 t200 _ A11.out).mono ?_); rintro e w' ⟨rfl, ⟨nd, rfl⟩⟩; (try first | exact ⟨rfl, _, World.drewN_drewN _ _ _⟩ | exact ⟨rfl, _, Eq.trans (World.drewN_drewN _ _ _) (congrArg (World.drewN _) (Nat.add_assoc _ _ _))⟩); have p201 : 0 ≤ (1 : Int) := (by omega); have q201 : 1 < (t189.length : Int) := of_decide_eq_true (by first | (with_reducible assumption) | assumption); obtain ⟨ad201, e201, hx201_0⟩ := Kd.at_int (Kd.R_reads' HO191.out).2.2 1 p201 q201; obtain rfl : ad193 = ad201 := (by injection e201); (try simp only [show (1 : Int).toNat = 1 from rfl, Nat.reduceMul, Nat.reduceEqDiff, Go.Addr.add, ↓reduceIte] at hx201_0); have qi201 : (1 < t189.length) = True := eq_true (by omega); (try rw [show ((1 : Int)).toNat = 1 from rfl] at hx201_0); replace p201 := eq_true p201; replace q201 := eq_true q201; have p202 : 0 ≤ (2 : Int) := (by omega); have q202 : 2 < (t189.length : Int) := of_decide_eq_true (by first | (with_reducible assumption) | assumption); obtain ⟨ad202, e202, hx202_0⟩ := Kd.at_int (Kd.R_reads' HO191.out).2.2 2 p202 q202; obtain rfl : ad193 = ad202 := (by injection e202); (try simp only [show (2 : Int).toNat = 2 from rfl, Nat.reduceMul, Nat.reduceEqDiff, Go.Addr.add, ↓reduceIte] at hx202_0); have qi202 : (2 < t189.length) = True := eq_true (by omega); (try rw [show ((2 : Int)).toNat = 2 from rfl] at hx202_0); replace p202 := eq_true p202; replace q202 := eq_true q202) | (go_at_call 29; (with_reducible refine (impl_DoOp.calls t192 t188 (rd t189 1) (rd t189 2) t203 t204 _ A13.out).mono ?_); rintro e w' ⟨rfl, ⟨nd, rfl⟩⟩; (try first | exact ⟨rfl, _, World.drewN_drewN _ _ _⟩ | exact ⟨rfl, _, Eq.trans (World.drewN_drewN _ _ _) (congrArg (World.drewN _) (Nat.add_assoc _ _ _))⟩))))
 (try simp only [Act.put, List.setIfInBounds_toArray, List.set_cons_zero, List.set_cons_succ])
 go_cut [112] (fun v112 wc => ∃ (kq : Nat) (x112_13 : Bool), v112 = .bool x112_13 ∧ Aside0 (laws_FnOps.j0 kq t188 t189 t192 t195 t203 x112_13 = some r) ∧ Aside0 (kq ≤ k) ∧ Aside0 (Kd.R (Kd.int .i64) 2 wc w.heap.size (fun _ => True) (.slice (some ad193) t189.length co17) t189) ∧ Aside0 (Below w.heap.size w wc))
 case first =>
  have H := HC14.out
  clear HC14
  by_cases c18 : t196 = true
  rotate_left
  ·replace c18 := Bool.eq_false_iff.mpr c18
   subst c18
   rw [if_neg (show ¬ (false = true) by decide)] at H
   exact (laws_FnOps.j0_no H HRT.out).elim
  subst c18
  rw [if_pos rfl] at H
  by_cases c19 : t200 = true
  rotate_left
  ·replace c19 := Bool.eq_false_iff.mpr c19
   subst c19
   rw [if_neg (show ¬ (false = true) by decide)] at H
   exact (laws_FnOps.j0_no H HRT.out).elim
  subst c19
  rw [if_pos rfl] at H
  by_cases c20 : t204 = true
  rotate_left
  ·replace c20 := Bool.eq_false_iff.mpr c20
   subst c20
   rw [if_neg (show ¬ (false = true) by decide)] at H
   exact (laws_FnOps.j0_no H HRT.out).elim
  subst c20
  rw [if_pos rfl] at H
  replace H := Option.bind_eq_some_iff.mp H
  obtain ⟨t205, A210, H⟩ := H
  try dsimp only at H
  have A21 := Aside0.mk A210
  clear A210
  by_cases c22 : t205 = true
  rotate_left
  ·replace c22 := Bool.eq_false_iff.mpr c22
   subst c22
   rw [if_neg (show ¬ (false = true) by decide)] at H
   exact (laws_FnOps.j0_no H HRT.out).elim
  subst c22
  rw [if_pos rfl] at H
  replace H := Option.bind_eq_some_iff.mp H
  obtain ⟨t206, A230, H⟩ := H
  try dsimp only at H
  have A23 := Aside0.mk A230
  clear A230
  by_cases c24 : t206 = true
  rotate_left
  ·replace c24 := Bool.eq_false_iff.mpr c24
   subst c24
   rw [if_neg (show ¬ (false = true) by decide)] at H
   exact (laws_FnOps.j0_no H HRT.out).elim
  subst c24
  rw [if_pos rfl] at H
  replace H := Option.bind_eq_some_iff.mp H
  obtain ⟨t207, A250, H⟩ := H
  try dsimp only at H
  have A25 := Aside0.mk A250
  clear A250
  by_cases c26 : t207 = true
  ·subst c26
   rw [if_pos rfl] at H
   have H' := Aside0.mk H
   clear H
   go_wp2_with (first | (go_at_call 15; (with_reducible refine (impl_IsWord.calls t188 t195 true _ A21.out).mono ?_); rintro e w' ⟨rfl, ⟨nd, rfl⟩⟩; (try first | exact ⟨rfl, _, World.drewN_drewN _ _ _⟩ | exact ⟨rfl, _, Eq.trans (World.drewN_drewN _ _ _) (congrArg (World.drewN _) (Nat.add_assoc _ _ _))⟩)) | (go_at_call 15; (with_reducible refine (impl_IsWord.calls t188 t203 true _ A23.out).mono ?_); rintro e w' ⟨rfl, ⟨nd, rfl⟩⟩; (try first | exact ⟨rfl, _, World.drewN_drewN _ _ _⟩ | exact ⟨rfl, _, Eq.trans (World.drewN_drewN _ _ _) (congrArg (World.drewN _) (Nat.add_assoc _ _ _))⟩)) | (go_at_call 19; (with_reducible refine (impl_IsCommutative.calls t192 true _ A25.out).mono ?_); rintro e w' ⟨rfl, ⟨nd, rfl⟩⟩; (try first | exact ⟨rfl, _, World.drewN_drewN _ _ _⟩ | exact ⟨rfl, _, Eq.trans (World.drewN_drewN _ _ _) (congrArg (World.drewN _) (Nat.add_assoc _ _ _))⟩)))
   repeat (go_quiet (first | (go_at_call 15; (with_reducible refine (impl_IsWord.calls t188 t195 true _ A21.out).mono ?_); rintro e w' ⟨rfl, ⟨nd, rfl⟩⟩; (try first | exact ⟨rfl, _, World.drewN_drewN _ _ _⟩ | exact ⟨rfl, _, Eq.trans (World.drewN_drewN _ _ _) (congrArg (World.drewN _) (Nat.add_assoc _ _ _))⟩)) | (go_at_call 15; (with_reducible refine (impl_IsWord.calls t188 t203 true _ A23.out).mono ?_); rintro e w' ⟨rfl, ⟨nd, rfl⟩⟩; (try first | exact ⟨rfl, _, World.drewN_drewN _ _ _⟩ | exact ⟨rfl, _, Eq.trans (World.drewN_drewN _ _ _) (congrArg (World.drewN _) (Nat.add_assoc _ _ _))⟩)) | (go_at_call 19; (with_reducible refine (impl_IsCommutative.calls t192 true _ A25.out).mono ?_); rintro e w' ⟨rfl, ⟨nd, rfl⟩⟩; (try first | exact ⟨rfl, _, World.drewN_drewN _ _ _⟩ | exact ⟨rfl, _, Eq.trans (World.drewN_drewN _ _ _) (congrArg (World.drewN _) (Nat.add_assoc _ _ _))⟩))); try go_wp2_with (first | (go_at_call 15; (with_reducible refine (impl_IsWord.calls t188 t195 true _ A21.out).mono ?_); rintro e w' ⟨rfl, ⟨nd, rfl⟩⟩; (try first | exact ⟨rfl, _, World.drewN_drewN _ _ _⟩ | exact ⟨rfl, _, Eq.trans (World.drewN_drewN _ _ _) (congrArg (World.drewN _) (Nat.add_assoc _ _ _))⟩)) | (go_at_call 15; (with_reducible refine (impl_IsWord.calls t188 t203 true _ A23.out).mono ?_); rintro e w' ⟨rfl, ⟨nd, rfl⟩⟩; (try first | exact ⟨rfl, _, World.drewN_drewN _ _ _⟩ | exact ⟨rfl, _, Eq.trans (World.drewN_drewN _ _ _) (congrArg (World.drewN _) (Nat.add_assoc _ _ _))⟩)) | (go_at_call 19; (with_reducible refine (impl_IsCommutative.calls t192 true _ A25.out).mono ?_); rintro e w' ⟨rfl, ⟨nd, rfl⟩⟩; (try first | exact ⟨rfl, _, World.drewN_drewN _ _ _⟩ | exact ⟨rfl, _, Eq.trans (World.drewN_drewN _ _ _) (congrArg (World.drewN _) (Nat.add_assoc _ _ _))⟩))))
   go_meet
   case rel => exact ⟨_, ((t195 != t199)), (by first | rfl | (simp; done) | (simp [*]; done)), H', ⟨by first | omega | exact Nat.le_refl _⟩, ⟨by (with_reducible repeat (first | apply Kd.R_alloc | apply Kd.R_drewN | apply Kd.R_drew)); exact HO191.out⟩, ⟨by repeat (first | (with_reducible first | exact HB.out | apply below_alloc | apply pw_below_drewN | apply below_drew1) | exact HB.out)⟩⟩
  replace c26 := Bool.eq_false_iff.mpr c26
  subst c26
  rw [if_neg (show ¬ (false = true) by decide)] at H
  have H' := Aside0.mk H
  clear H
  go_wp2_with (first | (go_at_call 15; (with_reducible refine (impl_IsWord.calls t188 t195 true _ A21.out).mono ?_); rintro e w' ⟨rfl, ⟨nd, rfl⟩⟩; (try first | exact ⟨rfl, _, World.drewN_drewN _ _ _⟩ | exact ⟨rfl, _, Eq.trans (World.drewN_drewN _ _ _) (congrArg (World.drewN _) (Nat.add_assoc _ _ _))⟩)) | (go_at_call 15; (with_reducible refine (impl_IsWord.calls t188 t203 true _ A23.out).mono ?_); rintro e w' ⟨rfl, ⟨nd, rfl⟩⟩; (try first | exact ⟨rfl, _, World.drewN_drewN _ _ _⟩ | exact ⟨rfl, _, Eq.trans (World.drewN_drewN _ _ _) (congrArg (World.drewN _) (Nat.add_assoc _ _ _))⟩)) | (go_at_call 19; (with_reducible refine (impl_IsCommutative.calls t192 false _ A25.out).mono ?_); rintro e w' ⟨rfl, ⟨nd, rfl⟩⟩; (try first | exact ⟨rfl, _, World.drewN_drewN _ _ _⟩ | exact ⟨rfl, _, Eq.trans (World.drewN_drewN _ _ _) (congrArg (World.drewN _) (Nat.add_assoc _ _ _))⟩)))
  repeat (go_quiet (first | (go_at_call 15; (with_reducible refine (impl_IsWord.calls t188 t195 true _ A21.out).mono ?_); rintro e w' ⟨rfl, ⟨nd, rfl⟩⟩; (try first | exact ⟨rfl, _, World.drewN_drewN _ _ _⟩ | exact ⟨rfl, _, Eq.trans (World.drewN_drewN _ _ _) (congrArg (World.drewN _) (Nat.add_assoc _ _ _))⟩)) | (go_at_call 15; (with_reducible refine (impl_IsWord.calls t188 t203 true _ A23.out).mono ?_); rintro e w' ⟨rfl, ⟨nd, rfl⟩⟩; (try first | exact ⟨rfl, _, World.drewN_drewN _ _ _⟩ | exact ⟨rfl, _, Eq.trans (World.drewN_drewN _ _ _) (congrArg (World.drewN _) (Nat.add_assoc _ _ _))⟩)) | (go_at_call 19; (with_reducible refine (impl_IsCommutative.calls t192 false _ A25.out).mono ?_); rintro e w' ⟨rfl, ⟨nd, rfl⟩⟩; (try first | exact ⟨rfl, _, World.drewN_drewN _ _ _⟩ | exact ⟨rfl, _, Eq.trans (World.drewN_drewN _ _ _) (congrArg (World.drewN _) (Nat.add_assoc _ _ _))⟩))); try go_wp2_with (first | (go_at_call 15; (with_reducible refine (impl_IsWord.calls t188 t195 true _ A21.out).mono ?_); rintro e w' ⟨rfl, ⟨nd, rfl⟩⟩; (try first | exact ⟨rfl, _, World.drewN_drewN _ _ _⟩ | exact ⟨rfl, _, Eq.trans (World.drewN_drewN _ _ _) (congrArg (World.drewN _) (Nat.add_assoc _ _ _))⟩)) | (go_at_call 15; (with_reducible refine (impl_IsWord.calls t188 t203 true _ A23.out).mono ?_); rintro e w' ⟨rfl, ⟨nd, rfl⟩⟩; (try first | exact ⟨rfl, _, World.drewN_drewN _ _ _⟩ | exact ⟨rfl, _, Eq.trans (World.drewN_drewN _ _ _) (congrArg (World.drewN _) (Nat.add_assoc _ _ _))⟩)) | (go_at_call 19; (with_reducible refine (impl_IsCommutative.calls t192 false _ A25.out).mono ?_); rintro e w' ⟨rfl, ⟨nd, rfl⟩⟩; (try first | exact ⟨rfl, _, World.drewN_drewN _ _ _⟩ | exact ⟨rfl, _, Eq.trans (World.drewN_drewN _ _ _) (congrArg (World.drewN _) (Nat.add_assoc _ _ _))⟩))))
  go_meet
  case rel => exact ⟨_, (false), (by first | rfl | (simp; done) | (simp [*]; done)), H', ⟨by first | omega | exact Nat.le_refl _⟩, ⟨by (with_reducible repeat (first | apply Kd.R_alloc | apply Kd.R_drewN | apply Kd.R_drew)); exact HO191.out⟩, ⟨by repeat (first | (with_reducible first | exact HB.out | apply below_alloc | apply pw_below_drewN | apply below_drew1) | exact HB.out)⟩⟩
 case rest =>
  as_aux_lemma =>
   clear HC14
   try clear c1
   try clear p1
   try clear q1
   try clear hx1
   try clear qi1
   try clear c2
   try clear p2
   try clear q2
   try clear hx2
   try clear qi2
   try clear c4
   try clear c8
   try clear c8b0
   try clear c8b1
   try clear c9
   try clear c9b0
   try clear c9b1
   try clear c12
   try clear c12b0
   try clear c12b1
   try clear c18
   try clear c19
   try clear p19
   try clear q19
   try clear hx19
   try clear qi19
   try clear c20
   try clear p20
   try clear q20
   try clear hx20
   try clear qi20
   try clear c22
   try clear c24
   try clear c26
   try clear hx193_0
   try clear hx194_0
   try clear hx197_0
   try clear hx198_0
   try clear hx201_0
   try clear hx202_0
   try clear p193
   try clear p194
   try clear p197
   try clear p198
   try clear p201
   try clear p202
   try clear q193
   try clear q194
   try clear q197
   try clear q198
   try clear q201
   try clear q202
   obtain ⟨kq, x112_13, rfl, HA, HJ13, HO_6, HB⟩ := hcut
   cases kq with
   | zero => exact absurd HA.out (by simp [laws_FnOps.j0])
   | succ kj13 =>
    have H := HA.out
    clear HA
    simp only [laws_FnOps.j0] at H
    by_cases c27 : x112_13 = true
    ·subst c27
     rw [if_pos rfl] at H
     obtain rfl := Option.some.inj H
     exact absurd HRT.out (by decide)
    replace c27 := Bool.eq_false_iff.mpr c27
    subst c27
    rw [if_neg (show ¬ (false = true) by decide)] at H
    by_cases c28 : 2 < (t189.length : Int)
    rotate_left
    ·rw [if_neg c28] at H
     exact absurd H (by simp)
    rw [if_pos c28] at H
    have c28b0 : decide (2 < (t189.length : Int)) = true := decide_eq_true c28
    have c28b1 : decide (2 < t189.length) = true := decide_eq_true (by omega)
    clear c28
    replace H := Option.bind_eq_some_iff.mp H
    obtain ⟨⟨t209, t210⟩, A290, H⟩ := H
    try dsimp only at H
    have A29 := Aside0.mk A290
    clear A290
    by_cases c30 : 0 < (t189.length : Int)
    rotate_left
    ·rw [if_neg c30] at H
     exact absurd H (by simp)
    rw [if_pos c30] at H
    have c30b0 : decide (0 < (t189.length : Int)) = true := decide_eq_true c30
    have c30b1 : decide (0 < t189.length) = true := decide_eq_true (by omega)
    clear c30
    replace H := Option.bind_eq_some_iff.mp H
    obtain ⟨⟨t212, t213⟩, A310, H⟩ := H
    try dsimp only at H
    have A31 := Aside0.mk A310
    clear A310
    have HC32 := Aside0.mk H
    clear H
    have p208 : 0 ≤ (2 : Int) := (by omega)
    have q208 : 2 < (t189.length : Int) := of_decide_eq_true (by first | (with_reducible assumption) | assumption)
    obtain ⟨ad208, e208, hx208_0⟩ := Kd.at_int (Kd.R_reads' HO_6.out).2.2 2 p208 q208
    obtain rfl : ad193 = ad208 := (by injection e208)
    (try simp only [show (2 : Int).toNat = 2 from rfl, Nat.reduceMul, Nat.reduceEqDiff, Go.Addr.add, ↓reduceIte] at hx208_0)
    have qi208 : (2 < t189.length) = True := eq_true (by omega)
    (try rw [show ((2 : Int)).toNat = 2 from rfl] at hx208_0)
    replace p208 := eq_true p208
    replace q208 := eq_true q208
    go_upto_region 13 with (first | (go_at_call 29; (with_reducible refine (impl_DoOp.calls t192 t188 t195 (rd t189 2) t209 t210 _ A29.out).mono ?_); rintro e w' ⟨rfl, ⟨nd, rfl⟩⟩; (try first | exact ⟨rfl, _, World.drewN_drewN _ _ _⟩ | exact ⟨rfl, _, Eq.trans (World.drewN_drewN _ _ _) (congrArg (World.drewN _) (Nat.add_assoc _ _ _))⟩); have p211 : 0 ≤ (0 : Int) := (by omega); have q211 : 0 < (t189.length : Int) := of_decide_eq_true (by first | (with_reducible assumption) | assumption); obtain ⟨ad211, e211, hx211_0⟩ := Kd.at_int (Kd.R_reads' HO_6.out).2.2 0 p211 q211; obtain rfl : ad193 = ad211 := (by injection e211); have qi211 : (0 < t189.length) = True := eq_true (by omega); (try rw [show ((0 : Int)).toNat = 0 from rfl] at hx211_0); (try rw [Addr.add_zero'] at hx211_0); replace p211 := eq_true p211; replace q211 := eq_true q211) | (go_at_call 29; (with_reducible refine (impl_DoOp.calls t192 t188 (rd t189 0) t203 t212 t213 _ A31.out).mono ?_); rintro e w' ⟨rfl, ⟨nd, rfl⟩⟩; (try first | exact ⟨rfl, _, World.drewN_drewN _ _ _⟩ | exact ⟨rfl, _, Eq.trans (World.drewN_drewN _ _ _) (congrArg (World.drewN _) (Nat.add_assoc _ _ _))⟩)))
    repeat (go_quiet (first | (go_at_call 29; (with_reducible refine (impl_DoOp.calls t192 t188 t195 (rd t189 2) t209 t210 _ A29.out).mono ?_); rintro e w' ⟨rfl, ⟨nd, rfl⟩⟩; (try first | exact ⟨rfl, _, World.drewN_drewN _ _ _⟩ | exact ⟨rfl, _, Eq.trans (World.drewN_drewN _ _ _) (congrArg (World.drewN _) (Nat.add_assoc _ _ _))⟩); have p211 : 0 ≤ (0 : Int) := (by omega); have q211 : 0 < (t189.length : Int) := of_decide_eq_true (by first | (with_reducible assumption) | assumption); obtain ⟨ad211, e211, hx211_0⟩ := Kd.at_int (Kd.R_reads' HO_6.out).2.2 0 p211 q211; obtain rfl : ad193 = ad211 := (by injection e211); have qi211 : (0 < t189.length) = True := eq_true (by omega); (try rw [show ((0 : Int)).toNat = 0 from rfl] at hx211_0); (try rw [Addr.add_zero'] at hx211_0); replace p211 := eq_true p211; replace q211 := eq_true q211) | (go_at_call 29; (with_reducible refine (impl_DoOp.calls t192 t188 (rd t189 0) t203 t212 t213 _ A31.out).mono ?_); rintro e w' ⟨rfl, ⟨nd, rfl⟩⟩; (try first | exact ⟨rfl, _, World.drewN_drewN _ _ _⟩ | exact ⟨rfl, _, Eq.trans (World.drewN_drewN _ _ _) (congrArg (World.drewN _) (Nat.add_assoc _ _ _))⟩))); go_upto_region 13 with (first | (go_at_call 29; (with_reducible refine (impl_DoOp.calls t192 t188 t195 (rd t189 2) t209 t210 _ A29.out).mono ?_); rintro e w' ⟨rfl, ⟨nd, rfl⟩⟩; (try first | exact ⟨rfl, _, World.drewN_drewN _ _ _⟩ | exact ⟨rfl, _, Eq.trans (World.drewN_drewN _ _ _) (congrArg (World.drewN _) (Nat.add_assoc _ _ _))⟩); have p211 : 0 ≤ (0 : Int) := (by omega); have q211 : 0 < (t189.length : Int) := of_decide_eq_true (by first | (with_reducible assumption) | assumption); obtain ⟨ad211, e211, hx211_0⟩ := Kd.at_int (Kd.R_reads' HO_6.out).2.2 0 p211 q211; obtain rfl : ad193 = ad211 := (by injection e211); have qi211 : (0 < t189.length) = True := eq_true (by omega); (try rw [show ((0 : Int)).toNat = 0 from rfl] at hx211_0); (try rw [Addr.add_zero'] at hx211_0); replace p211 := eq_true p211; replace q211 := eq_true q211) | (go_at_call 29; (with_reducible refine (impl_DoOp.calls t192 t188 (rd t189 0) t203 t212 t213 _ A31.out).mono ?_); rintro e w' ⟨rfl, ⟨nd, rfl⟩⟩; (try first | exact ⟨rfl, _, World.drewN_drewN _ _ _⟩ | exact ⟨rfl, _, Eq.trans (World.drewN_drewN _ _ _) (congrArg (World.drewN _) (Nat.add_assoc _ _ _))⟩))))
    (try simp only [Act.put, List.setIfInBounds_toArray, List.set_cons_zero, List.set_cons_succ])
    go_cut [156] (fun v156 wc => ∃ (kq : Nat) (x156_31 : Bool), v156 = .bool x156_31 ∧ Aside0 (laws_FnOps.j1 kq t188 t189 x156_31 = some r) ∧ Aside0 (kq ≤ kj13) ∧ Aside0 (Kd.R (Kd.int .i64) 2 wc w.heap.size (fun _ => True) (.slice (some ad193) t189.length co17) t189) ∧ Aside0 (Below w.heap.size w wc))
    case first =>
     have H := HC32.out
     clear HC32
     by_cases c33 : t210 = true
     rotate_left
     ·replace c33 := Bool.eq_false_iff.mpr c33
      subst c33
      rw [if_neg (show ¬ (false = true) by decide)] at H
      exact (laws_FnOps.j1_no H HRT.out).elim
     subst c33
     rw [if_pos rfl] at H
     by_cases c34 : t213 = true
     rotate_left
     ·replace c34 := Bool.eq_false_iff.mpr c34
      subst c34
      rw [if_neg (show ¬ (false = true) by decide)] at H
      exact (laws_FnOps.j1_no H HRT.out).elim
     subst c34
     rw [if_pos rfl] at H
     replace H := Option.bind_eq_some_iff.mp H
     obtain ⟨t214, A350, H⟩ := H
     try dsimp only at H
     have A35 := Aside0.mk A350
     clear A350
     by_cases c36 : t214 = true
     ·subst c36
      rw [if_pos rfl] at H
      by_cases c37 : t209 = t212
      rotate_left
      ·rw [if_neg c37] at H
       have c37b0 : (t209 == t212) = false := beq_eq_false_iff_ne.mpr c37
       have c37b1 : (t209 != t212) = true := bne_iff_ne.mpr c37
       (first | rw [c37b0] | (simp only [i64_w, i32_w]; rw [c37b0]) | skip)
       exact (laws_FnOps.j1_no H HRT.out).elim
      rw [if_pos c37] at H
      have c37b0 : (t209 == t212) = true := beq_iff_eq.mpr c37
      have c37b1 : (t209 != t212) = false := bne_eq_false_iff_eq.mpr c37
      clear c37
      (first | rw [c37b0] | (simp only [i64_w, i32_w]; rw [c37b0]) | skip)
      replace H := Option.bind_eq_some_iff.mp H
      obtain ⟨t215, A380, H⟩ := H
      try dsimp only at H
      have A38 := Aside0.mk A380
      clear A380
      by_cases c39 : t215 = true
      rotate_left
      ·exact absurd (Option.some.inj (A35.out.symm.trans A38.out)) (fun h_ => c39 h_.symm)
      subst c39
      rw [if_pos rfl] at H
      replace H := Option.bind_eq_some_iff.mp H
      obtain ⟨t216, A400, H⟩ := H
      try dsimp only at H
      have A40 := Aside0.mk A400
      clear A400
      have H' := Aside0.mk H
      clear H
      go_wp2_with (first | (go_at_call 17; (with_reducible refine (impl_IsAssociative.calls t192 true _ A35.out).mono ?_); rintro e w' ⟨rfl, ⟨nd, rfl⟩⟩; (try first | exact ⟨rfl, _, World.drewN_drewN _ _ _⟩ | exact ⟨rfl, _, Eq.trans (World.drewN_drewN _ _ _) (congrArg (World.drewN _) (Nat.add_assoc _ _ _))⟩)) | (go_at_call 17; (with_reducible refine (impl_IsAssociative.calls t192 true _ A38.out).mono ?_); rintro e w' ⟨rfl, ⟨nd, rfl⟩⟩; (try first | exact ⟨rfl, _, World.drewN_drewN _ _ _⟩ | exact ⟨rfl, _, Eq.trans (World.drewN_drewN _ _ _) (congrArg (World.drewN _) (Nat.add_assoc _ _ _))⟩)) | (go_at_call 19; (with_reducible refine (impl_IsCommutative.calls t192 t216 _ A40.out).mono ?_); rintro e w' ⟨rfl, ⟨nd, rfl⟩⟩; (try first | exact ⟨rfl, _, World.drewN_drewN _ _ _⟩ | exact ⟨rfl, _, Eq.trans (World.drewN_drewN _ _ _) (congrArg (World.drewN _) (Nat.add_assoc _ _ _))⟩)))
      repeat (go_quiet (first | (go_at_call 17; (with_reducible refine (impl_IsAssociative.calls t192 true _ A35.out).mono ?_); rintro e w' ⟨rfl, ⟨nd, rfl⟩⟩; (try first | exact ⟨rfl, _, World.drewN_drewN _ _ _⟩ | exact ⟨rfl, _, Eq.trans (World.drewN_drewN _ _ _) (congrArg (World.drewN _) (Nat.add_assoc _ _ _))⟩)) | (go_at_call 17; (with_reducible refine (impl_IsAssociative.calls t192 true _ A38.out).mono ?_); rintro e w' ⟨rfl, ⟨nd, rfl⟩⟩; (try first | exact ⟨rfl, _, World.drewN_drewN _ _ _⟩ | exact ⟨rfl, _, Eq.trans (World.drewN_drewN _ _ _) (congrArg (World.drewN _) (Nat.add_assoc _ _ _))⟩)) | (go_at_call 19; (with_reducible refine (impl_IsCommutative.calls t192 t216 _ A40.out).mono ?_); rintro e w' ⟨rfl, ⟨nd, rfl⟩⟩; (try first | exact ⟨rfl, _, World.drewN_drewN _ _ _⟩ | exact ⟨rfl, _, Eq.trans (World.drewN_drewN _ _ _) (congrArg (World.drewN _) (Nat.add_assoc _ _ _))⟩))); try go_wp2_with (first | (go_at_call 17; (with_reducible refine (impl_IsAssociative.calls t192 true _ A35.out).mono ?_); rintro e w' ⟨rfl, ⟨nd, rfl⟩⟩; (try first | exact ⟨rfl, _, World.drewN_drewN _ _ _⟩ | exact ⟨rfl, _, Eq.trans (World.drewN_drewN _ _ _) (congrArg (World.drewN _) (Nat.add_assoc _ _ _))⟩)) | (go_at_call 17; (with_reducible refine (impl_IsAssociative.calls t192 true _ A38.out).mono ?_); rintro e w' ⟨rfl, ⟨nd, rfl⟩⟩; (try first | exact ⟨rfl, _, World.drewN_drewN _ _ _⟩ | exact ⟨rfl, _, Eq.trans (World.drewN_drewN _ _ _) (congrArg (World.drewN _) (Nat.add_assoc _ _ _))⟩)) | (go_at_call 19; (with_reducible refine (impl_IsCommutative.calls t192 t216 _ A40.out).mono ?_); rintro e w' ⟨rfl, ⟨nd, rfl⟩⟩; (try first | exact ⟨rfl, _, World.drewN_drewN _ _ _⟩ | exact ⟨rfl, _, Eq.trans (World.drewN_drewN _ _ _) (congrArg (World.drewN _) (Nat.add_assoc _ _ _))⟩))))
      go_meet
      case rel => exact ⟨_, (!t216), (by first | rfl | (simp; done) | (simp [*]; done)), H', ⟨by have := HJ13.out; first | omega | exact Nat.le_refl _⟩, ⟨by (with_reducible repeat (first | apply Kd.R_alloc | apply Kd.R_drewN | apply Kd.R_drew)); exact HO_6.out⟩, ⟨by repeat (first | (with_reducible first | exact HB.out | apply below_alloc | apply pw_below_drewN | apply below_drew1) | exact HB.out)⟩⟩
     ·replace c36 := Bool.eq_false_iff.mpr c36
      subst c36
      rw [if_neg (show ¬ (false = true) by decide)] at H
      replace H := Option.bind_eq_some_iff.mp H
      obtain ⟨t217, A410, H⟩ := H
      try dsimp only at H
      have A41 := Aside0.mk A410
      clear A410
      by_cases c42 : t217 = true
      rotate_left
      ·replace c42 := Bool.eq_false_iff.mpr c42
       subst c42
       rw [if_neg (show ¬ (false = true) by decide)] at H
       have H' := Aside0.mk H
       clear H
       go_wp2_with (first | (go_at_call 17; (with_reducible refine (impl_IsAssociative.calls t192 false _ A35.out).mono ?_); rintro e w' ⟨rfl, ⟨nd, rfl⟩⟩; (try first | exact ⟨rfl, _, World.drewN_drewN _ _ _⟩ | exact ⟨rfl, _, Eq.trans (World.drewN_drewN _ _ _) (congrArg (World.drewN _) (Nat.add_assoc _ _ _))⟩)) | (go_at_call 17; (with_reducible refine (impl_IsAssociative.calls t192 false _ A41.out).mono ?_); rintro e w' ⟨rfl, ⟨nd, rfl⟩⟩; (try first | exact ⟨rfl, _, World.drewN_drewN _ _ _⟩ | exact ⟨rfl, _, Eq.trans (World.drewN_drewN _ _ _) (congrArg (World.drewN _) (Nat.add_assoc _ _ _))⟩)))
       repeat (go_quiet (first | (go_at_call 17; (with_reducible refine (impl_IsAssociative.calls t192 false _ A35.out).mono ?_); rintro e w' ⟨rfl, ⟨nd, rfl⟩⟩; (try first | exact ⟨rfl, _, World.drewN_drewN _ _ _⟩ | exact ⟨rfl, _, Eq.trans (World.drewN_drewN _ _ _) (congrArg (World.drewN _) (Nat.add_assoc _ _ _))⟩)) | (go_at_call 17; (with_reducible refine (impl_IsAssociative.calls t192 false _ A41.out).mono ?_); rintro e w' ⟨rfl, ⟨nd, rfl⟩⟩; (try first | exact ⟨rfl, _, World.drewN_drewN _ _ _⟩ | exact ⟨rfl, _, Eq.trans (World.drewN_drewN _ _ _) (congrArg (World.drewN _) (Nat.add_assoc _ _ _))⟩))); try go_wp2_with (first | (go_at_call 17; (with_reducible refine (impl_IsAssociative.calls t192 false _ A35.out).mono ?_); rintro e w' ⟨rfl, ⟨nd, rfl⟩⟩; (try first | exact ⟨rfl, _, World.drewN_drewN _ _ _⟩ | exact ⟨rfl, _, Eq.trans (World.drewN_drewN _ _ _) (congrArg (World.drewN _) (Nat.add_assoc _ _ _))⟩)) | (go_at_call 17; (with_reducible refine (impl_IsAssociative.calls t192 false _ A41.out).mono ?_); rintro e w' ⟨rfl, ⟨nd, rfl⟩⟩; (try first | exact ⟨rfl, _, World.drewN_drewN _ _ _⟩ | exact ⟨rfl, _, Eq.trans (World.drewN_drewN _ _ _) (congrArg (World.drewN _) (Nat.add_assoc _ _ _))⟩))))
       go_meet
       case rel => exact ⟨_, (false), (by first | rfl | (simp; done) | (simp [*]; done)), H', ⟨by have := HJ13.out; first | omega | exact Nat.le_refl _⟩, ⟨by (with_reducible repeat (first | apply Kd.R_alloc | apply Kd.R_drewN | apply Kd.R_drew)); exact HO_6.out⟩, ⟨by repeat (first | (with_reducible first | exact HB.out | apply below_alloc | apply pw_below_drewN | apply below_drew1) | exact HB.out)⟩⟩
      exact absurd (Option.some.inj (A35.out.symm.trans A41.out)) (fun h_ => by rw [c42] at h_; cases h_)
    case rest =>
     as_aux_lemma =>
      clear HC32
      try clear c1
      try clear p1
      try clear q1
      try clear hx1
      try clear qi1
      try clear c2
      try clear p2
      try clear q2
      try clear hx2
      try clear qi2
      try clear c3
      try clear c4
      try clear c8
      try clear c8b0
      try clear c8b1
      try clear c9
      try clear c9b0
      try clear c9b1
      try clear c12
      try clear c12b0
      try clear c12b1
      try clear c18
      try clear c19
      try clear p19
      try clear q19
      try clear hx19
      try clear qi19
      try clear c20
      try clear p20
      try clear q20
      try clear hx20
      try clear qi20
      try clear p21
      try clear q21
      try clear hx21
      try clear qi21
      try clear c22
      try clear c24
      try clear c26
      try clear c27
      try clear c28
      try clear c28b0
      try clear c28b1
      try clear c30
      try clear c30b0
      try clear c30b1
      try clear c33
      try clear c34
      try clear c36
      try clear c37
      try clear c37b0
      try clear c37b1
      try clear c39
      try clear c42
      try clear hx193_0
      try clear hx194_0
      try clear hx197_0
      try clear hx198_0
      try clear hx201_0
      try clear hx202_0
      try clear hx208_0
      try clear hx211_0
      try clear p1
      try clear p19
      try clear p193
      try clear p194
      try clear p197
      try clear p198
      try clear p2
      try clear p20
      try clear p201
      try clear p202
      try clear p208
      try clear p211
      try clear q1
      try clear q19
      try clear q193
      try clear q194
      try clear q197
      try clear q198
      try clear q2
      try clear q20
      try clear q201
      try clear q202
      try clear q208
      try clear q211
      obtain ⟨kq, x156_31, rfl, HA, HJ31, HO_6, HB⟩ := hcut
      cases kq with
      | zero => exact absurd HA.out (by simp [laws_FnOps.j1])
      | succ kj31 =>
       have H := HA.out
       clear HA
       simp only [laws_FnOps.j1] at H
       by_cases c44 : x156_31 = true
       ·subst c44
        rw [if_pos rfl] at H
        obtain rfl := Option.some.inj H
        exact absurd HRT.out (by decide)
       replace c44 := Bool.eq_false_iff.mpr c44
       subst c44
       rw [if_neg (show ¬ (false = true) by decide)] at H
       by_cases c45 : 0 < (t189.length : Int)
       rotate_left
       ·rw [if_neg c45] at H
        exact absurd H (by simp)
       rw [if_pos c45] at H
       have c45b0 : decide (0 < (t189.length : Int)) = true := decide_eq_true c45
       have c45b1 : decide (0 < t189.length) = true := decide_eq_true (by omega)
       clear c45
       by_cases c46 : 1 < (t189.length : Int)
       rotate_left
       ·rw [if_neg c46] at H
        exact absurd H (by simp)
       rw [if_pos c46] at H
       have c46b0 : decide (1 < (t189.length : Int)) = true := decide_eq_true c46
       have c46b1 : decide (1 < t189.length) = true := decide_eq_true (by omega)
       clear c46
       replace H := Option.bind_eq_some_iff.mp H
       obtain ⟨⟨t221, t222⟩, A470, H⟩ := H
       try dsimp only at H
       have A47 := Aside0.mk A470
       clear A470
       replace H := Option.bind_eq_some_iff.mp H
       obtain ⟨⟨t224, t225⟩, A480, H⟩ := H
       try dsimp only at H
       have A48 := Aside0.mk A480
       clear A480
       replace H := Option.bind_eq_some_iff.mp H
       obtain ⟨⟨t228, t229⟩, A490, H⟩ := H
       try dsimp only at H
       have A49 := Aside0.mk A490
       clear A490
       replace H := Option.bind_eq_some_iff.mp H
       obtain ⟨⟨t232, t233⟩, A500, H⟩ := H
       try dsimp only at H
       have A50 := Aside0.mk A500
       clear A500
       replace H := Option.bind_eq_some_iff.mp H
       obtain ⟨⟨t235, t236⟩, A510, H⟩ := H
       try dsimp only at H
       have A51 := Aside0.mk A510
       clear A510
       replace H := Option.bind_eq_some_iff.mp H
       obtain ⟨⟨t238, t239⟩, A520, H⟩ := H
       try dsimp only at H
       have A52 := Aside0.mk A520
       clear A520
       replace H := Option.bind_eq_some_iff.mp H
       obtain ⟨⟨t240, t241⟩, A530, H⟩ := H
       try dsimp only at H
       have A53 := Aside0.mk A530
       clear A530
       replace H := Option.bind_eq_some_iff.mp H
       obtain ⟨⟨t242, t243⟩, A540, H⟩ := H
       try dsimp only at H
       have A54 := Aside0.mk A540
       clear A540
       have HC55 := Aside0.mk H
       clear H
       have p219 : 0 ≤ (0 : Int) := (by omega)
       have q219 : 0 < (t189.length : Int) := of_decide_eq_true (by first | (with_reducible assumption) | assumption)
       obtain ⟨ad219, e219, hx219_0⟩ := Kd.at_int (Kd.R_reads' HO_6.out).2.2 0 p219 q219
       obtain rfl : ad193 = ad219 := (by injection e219)
       have qi219 : (0 < t189.length) = True := eq_true (by omega)
       (try rw [show ((0 : Int)).toNat = 0 from rfl] at hx219_0)
       (try rw [Addr.add_zero'] at hx219_0)
       replace p219 := eq_true p219
       replace q219 := eq_true q219
       have p220 : 0 ≤ (1 : Int) := (by omega)
       have q220 : 1 < (t189.length : Int) := of_decide_eq_true (by first | (with_reducible assumption) | assumption)
       obtain ⟨ad220, e220, hx220_0⟩ := Kd.at_int (Kd.R_reads' HO_6.out).2.2 1 p220 q220
       obtain rfl : ad193 = ad220 := (by injection e220)
       (try simp only [show (1 : Int).toNat = 1 from rfl, Nat.reduceMul, Nat.reduceEqDiff, Go.Addr.add, ↓reduceIte] at hx220_0)
       have qi220 : (1 < t189.length) = True := eq_true (by omega)
       (try rw [show ((1 : Int)).toNat = 1 from rfl] at hx220_0)
       replace p220 := eq_true p220
       replace q220 := eq_true q220
       go_upto_region 23 with (first | (go_at_call 29; (with_reducible refine (impl_DoOp.calls 0 t188 (rd t189 0) (rd t189 1) t221 t222 _ A47.out).mono ?_); rintro e w' ⟨rfl, ⟨nd, rfl⟩⟩; (try first | exact ⟨rfl, _, World.drewN_drewN _ _ _⟩ | exact ⟨rfl, _, Eq.trans (World.drewN_drewN _ _ _) (congrArg (World.drewN _) (Nat.add_assoc _ _ _))⟩); have p223 : 0 ≤ (1 : Int) := (by omega); have q223 : 1 < (t189.length : Int) := of_decide_eq_true (by first | (with_reducible assumption) | assumption); obtain ⟨ad223, e223, hx223_0⟩ := Kd.at_int (Kd.R_reads' HO_6.out).2.2 1 p223 q223; obtain rfl : ad193 = ad223 := (by injection e223); (try simp only [show (1 : Int).toNat = 1 from rfl, Nat.reduceMul, Nat.reduceEqDiff, Go.Addr.add, ↓reduceIte] at hx223_0); have qi223 : (1 < t189.length) = True := eq_true (by omega); (try rw [show ((1 : Int)).toNat = 1 from rfl] at hx223_0); replace p223 := eq_true p223; replace q223 := eq_true q223) | (go_at_call 29; (with_reducible refine (impl_DoOp.calls 1 t188 t221 (rd t189 1) t224 t225 _ A48.out).mono ?_); rintro e w' ⟨rfl, ⟨nd, rfl⟩⟩; (try first | exact ⟨rfl, _, World.drewN_drewN _ _ _⟩ | exact ⟨rfl, _, Eq.trans (World.drewN_drewN _ _ _) (congrArg (World.drewN _) (Nat.add_assoc _ _ _))⟩); have p226 : 0 ≤ (0 : Int) := (by omega); have q226 : 0 < (t189.length : Int) := of_decide_eq_true (by first | (with_reducible assumption) | assumption); obtain ⟨ad226, e226, hx226_0⟩ := Kd.at_int (Kd.R_reads' HO_6.out).2.2 0 p226 q226; obtain rfl : ad193 = ad226 := (by injection e226); have qi226 : (0 < t189.length) = True := eq_true (by omega); (try rw [show ((0 : Int)).toNat = 0 from rfl] at hx226_0); (try rw [Addr.add_zero'] at hx226_0); replace p226 := eq_true p226; replace q226 := eq_true q226; have p227 : 0 ≤ (1 : Int) := (by omega); have q227 : 1 < (t189.length : Int) := of_decide_eq_true (by first | (with_reducible assumption) | assumption); obtain ⟨ad227, e227, hx227_0⟩ := Kd.at_int (Kd.R_reads' HO_6.out).2.2 1 p227 q227; obtain rfl : ad193 = ad227 := (by injection e227); (try simp only [show (1 : Int).toNat = 1 from rfl, Nat.reduceMul, Nat.reduceEqDiff, Go.Addr.add, ↓reduceIte] at hx227_0); have qi227 : (1 < t189.length) = True := eq_true (by omega); (try rw [show ((1 : Int)).toNat = 1 from rfl] at hx227_0); replace p227 := eq_true p227; replace q227 := eq_true q227) | (go_at_call 29; (with_reducible refine (impl_DoOp.calls 10 t188 (rd t189 0) (rd t189 1) t228 t229 _ A49.out).mono ?_); rintro e w' ⟨rfl, ⟨nd, rfl⟩⟩; (try first | exact ⟨rfl, _, World.drewN_drewN _ _ _⟩ | exact ⟨rfl, _, Eq.trans (World.drewN_drewN _ _ _) (congrArg (World.drewN _) (Nat.add_assoc _ _ _))⟩); have p230 : 0 ≤ (0 : Int) := (by omega); have q230 : 0 < (t189.length : Int) := of_decide_eq_true (by first | (with_reducible assumption) | assumption); obtain ⟨ad230, e230, hx230_0⟩ := Kd.at_int (Kd.R_reads' HO_6.out).2.2 0 p230 q230; obtain rfl : ad193 = ad230 := (by injection e230); have qi230 : (0 < t189.length) = True := eq_true (by omega); (try rw [show ((0 : Int)).toNat = 0 from rfl] at hx230_0); (try rw [Addr.add_zero'] at hx230_0); replace p230 := eq_true p230; replace q230 := eq_true q230; have p231 : 0 ≤ (1 : Int) := (by omega); have q231 : 1 < (t189.length : Int) := of_decide_eq_true (by first | (with_reducible assumption) | assumption); obtain ⟨ad231, e231, hx231_0⟩ := Kd.at_int (Kd.R_reads' HO_6.out).2.2 1 p231 q231; obtain rfl : ad193 = ad231 := (by injection e231); (try simp only [show (1 : Int).toNat = 1 from rfl, Nat.reduceMul, Nat.reduceEqDiff, Go.Addr.add, ↓reduceIte] at hx231_0); have qi231 : (1 < t189.length) = True := eq_true (by omega); (try rw [show ((1 : Int)).toNat = 1 from rfl] at hx231_0); replace p231 := eq_true p231; replace q231 := eq_true q231) | (go_at_call 29; (with_reducible refine (impl_DoOp.calls 11 t188 (rd t189 0) (rd t189 1) t232 t233 _ A50.out).mono ?_); rintro e w' ⟨rfl, ⟨nd, rfl⟩⟩; (try first | exact ⟨rfl, _, World.drewN_drewN _ _ _⟩ | exact ⟨rfl, _, Eq.trans (World.drewN_drewN _ _ _) (congrArg (World.drewN _) (Nat.add_assoc _ _ _))⟩); have p234 : 0 ≤ (0 : Int) := (by omega); have q234 : 0 < (t189.length : Int) := of_decide_eq_true (by first | (with_reducible assumption) | assumption); obtain ⟨ad234, e234, hx234_0⟩ := Kd.at_int (Kd.R_reads' HO_6.out).2.2 0 p234 q234; obtain rfl : ad193 = ad234 := (by injection e234); have qi234 : (0 < t189.length) = True := eq_true (by omega); (try rw [show ((0 : Int)).toNat = 0 from rfl] at hx234_0); (try rw [Addr.add_zero'] at hx234_0); replace p234 := eq_true p234; replace q234 := eq_true q234) | (go_at_call 25; (with_reducible refine (impl_SignedOf.calls t188 (rd t189 0) t235 t236 _ A51.out).mono ?_); rintro e w' ⟨rfl, ⟨nd, rfl⟩⟩; (try first | exact ⟨rfl, _, World.drewN_drewN _ _ _⟩ | exact ⟨rfl, _, Eq.trans (World.drewN_drewN _ _ _) (congrArg (World.drewN _) (Nat.add_assoc _ _ _))⟩); have p237 : 0 ≤ (1 : Int) := (by omega); have q237 : 1 < (t189.length : Int) := of_decide_eq_true (by first | (with_reducible assumption) | assumption); obtain ⟨ad237, e237, hx237_0⟩ := Kd.at_int (Kd.R_reads' HO_6.out).2.2 1 p237 q237; obtain rfl : ad193 = ad237 := (by injection e237); (try simp only [show (1 : Int).toNat = 1 from rfl, Nat.reduceMul, Nat.reduceEqDiff, Go.Addr.add, ↓reduceIte] at hx237_0); have qi237 : (1 < t189.length) = True := eq_true (by omega); (try rw [show ((1 : Int)).toNat = 1 from rfl] at hx237_0); replace p237 := eq_true p237; replace q237 := eq_true q237) | (go_at_call 25; (with_reducible refine (impl_SignedOf.calls t188 (rd t189 1) t238 t239 _ A52.out).mono ?_); rintro e w' ⟨rfl, ⟨nd, rfl⟩⟩; (try first | exact ⟨rfl, _, World.drewN_drewN _ _ _⟩ | exact ⟨rfl, _, Eq.trans (World.drewN_drewN _ _ _) (congrArg (World.drewN _) (Nat.add_assoc _ _ _))⟩)) | (go_at_call 25; (with_reducible refine (impl_SignedOf.calls t188 t232 t240 t241 _ A53.out).mono ?_); rintro e w' ⟨rfl, ⟨nd, rfl⟩⟩; (try first | exact ⟨rfl, _, World.drewN_drewN _ _ _⟩ | exact ⟨rfl, _, Eq.trans (World.drewN_drewN _ _ _) (congrArg (World.drewN _) (Nat.add_assoc _ _ _))⟩)) | (go_at_call 21; (with_reducible refine (impl_WordOf.calls t188 (wrap64 (t235 + t238)) t242 t243 _ A54.out).mono ?_); rintro e w' ⟨rfl, ⟨nd, rfl⟩⟩; (try first | exact ⟨rfl, _, World.drewN_drewN _ _ _⟩ | exact ⟨rfl, _, Eq.trans (World.drewN_drewN _ _ _) (congrArg (World.drewN _) (Nat.add_assoc _ _ _))⟩)))
       repeat (go_quiet (first | (go_at_call 29; (with_reducible refine (impl_DoOp.calls 0 t188 (rd t189 0) (rd t189 1) t221 t222 _ A47.out).mono ?_); rintro e w' ⟨rfl, ⟨nd, rfl⟩⟩; (try first | exact ⟨rfl, _, World.drewN_drewN _ _ _⟩ | exact ⟨rfl, _, Eq.trans (World.drewN_drewN _ _ _) (congrArg (World.drewN _) (Nat.add_assoc _ _ _))⟩); have p223 : 0 ≤ (1 : Int) := (by omega); have q223 : 1 < (t189.length : Int) := of_decide_eq_true (by first | (with_reducible assumption) | assumption); obtain ⟨ad223, e223, hx223_0⟩ := Kd.at_int (Kd.R_reads' HO_6.out).2.2 1 p223 q223; obtain rfl : ad193 = ad223 := (by injection e223); (try simp only [show (1 : Int).toNat = 1 from rfl, Nat.reduceMul, Nat.reduceEqDiff, Go.Addr.add, ↓reduceIte] at hx223_0); have qi223 : (1 < t189.length) = True := eq_true (by omega); (try rw [show ((1 : Int)).toNat = 1 from rfl] at hx223_0); replace p223 := eq_true p223; replace q223 := eq_true q223) | (go_at_call 29; (with_reducible refine (impl_DoOp.calls 1 t188 t221 (rd t189 1) t224 t225 _ A48.out).mono ?_); rintro e w' ⟨rfl, ⟨nd, rfl⟩⟩; (try first | exact ⟨rfl, _, World.drewN_drewN _ _ _⟩ | exact ⟨rfl, _, Eq.trans (World.drewN_drewN _ _ _) (congrArg (World.drewN _) (Nat.add_assoc _ _ _))⟩); have p226 : 0 ≤ (0 : Int) := (by omega); have q226 : 0 < (t189.length : Int) := of_decide_eq_true (by first | (with_reducible assumption) | assumption); obtain ⟨ad226, e226, hx226_0⟩ := Kd.at_int (Kd.R_reads' HO_6.out).2.2 0 p226 q226; obtain rfl : ad193 = ad226 := (by injection e226); have qi226 : (0 < t189.length) = True := eq_true (by omega); (try rw [show ((0 : Int)).toNat = 0 from rfl] at hx226_0); (try rw [Addr.add_zero'] at hx226_0); replace p226 := eq_true p226; replace q226 := eq_true q226; have p227 : 0 ≤ (1 : Int) := (by omega); have q227 : 1 < (t189.length : Int) := of_decide_eq_true (by first | (with_reducible assumption) | assumption); obtain ⟨ad227, e227, hx227_0⟩ := Kd.at_int (Kd.R_reads' HO_6.out).2.2 1 p227 q227; obtain rfl : ad193 = ad227 := (by injection e227); (try simp only [show (1 : Int).toNat = 1 from rfl, Nat.reduceMul, Nat.reduceEqDiff, Go.Addr.add, ↓reduceIte] at hx227_0); have qi227 : (1 < t189.length) = True := eq_true (by omega); (try rw [show ((1 : Int)).toNat = 1 from rfl] at hx227_0); replace p227 := eq_true p227; replace q227 := eq_true q227) | (go_at_call 29; (with_reducible refine (impl_DoOp.calls 10 t188 (rd t189 0) (rd t189 1) t228 t229 _ A49.out).mono ?_); rintro e w' ⟨rfl, ⟨nd, rfl⟩⟩; (try first | exact ⟨rfl, _, World.drewN_drewN _ _ _⟩ | exact ⟨rfl, _, Eq.trans (World.drewN_drewN _ _ _) (congrArg (World.drewN _) (Nat.add_assoc _ _ _))⟩); have p230 : 0 ≤ (0 : Int) := (by omega); have q230 : 0 < (t189.length : Int) := of_decide_eq_true (by first | (with_reducible assumption) | assumption); obtain ⟨ad230, e230, hx230_0⟩ := Kd.at_int (Kd.R_reads' HO_6.out).2.2 0 p230 q230; obtain rfl : ad193 = ad230 := (by injection e230); have qi230 : (0 < t189.length) = True := eq_true (by omega); (try rw [show ((0 : Int)).toNat = 0 from rfl] at hx230_0); (try rw [Addr.add_zero'] at hx230_0); replace p230 := eq_true p230; replace q230 := eq_true q230; have p231 : 0 ≤ (1 : Int) := (by omega); have q231 : 1 < (t189.length : Int) := of_decide_eq_true (by first | (with_reducible assumption) | assumption); obtain ⟨ad231, e231, hx231_0⟩ := Kd.at_int (Kd.R_reads' HO_6.out).2.2 1 p231 q231; obtain rfl : ad193 = ad231 := (by injection e231); (try simp only [show (1 : Int).toNat = 1 from rfl, Nat.reduceMul, Nat.reduceEqDiff, Go.Addr.add, ↓reduceIte] at hx231_0); have qi231 : (1 < t189.length) = True := eq_true (by omega); (try rw [show ((1 : Int)).toNat = 1 from rfl] at hx231_0); replace p231 := eq_true p231; replace q231 := eq_true q231) | (go_at_call 29; (with_reducible refine (impl_DoOp.calls 11 t188 (rd t189 0) (rd t189 1) t232 t233 _ A50.out).mono ?_); rintro e w' ⟨rfl, ⟨nd, rfl⟩⟩; (try first | exact ⟨rfl, _, World.drewN_drewN _ _ _⟩ | exact ⟨rfl, _, Eq.trans (World.drewN_drewN _ _ _) (congrArg (World.drewN _) (Nat.add_assoc _ _ _))⟩); have p234 : 0 ≤ (0 : Int) := (by omega); have q234 : 0 < (t189.length : Int) := of_decide_eq_true (by first | (with_reducible assumption) | assumption); obtain ⟨ad234, e234, hx234_0⟩ := Kd.at_int (Kd.R_reads' HO_6.out).2.2 0 p234 q234; obtain rfl : ad193 = ad234 := (by injection e234); have qi234 : (0 < t189.length) = True := eq_true (by omega); (try rw [show ((0 : Int)).toNat = 0 from rfl] at hx234_0); (try rw [Addr.add_zero'] at hx234_0); replace p234 := eq_true p234; replace q234 := eq_true q234) | (go_at_call 25; (with_reducible refine (impl_SignedOf.calls t188 (rd t189 0) t235 t236 _ A51.out).mono ?_); rintro e w' ⟨rfl, ⟨nd, rfl⟩⟩; (try first | exact ⟨rfl, _, World.drewN_drewN _ _ _⟩ | exact ⟨rfl, _, Eq.trans (World.drewN_drewN _ _ _) (congrArg (World.drewN _) (Nat.add_assoc _ _ _))⟩); have p237 : 0 ≤ (1 : Int) := (by omega); have q237 : 1 < (t189.length : Int) := of_decide_eq_true (by first | (with_reducible assumption) | assumption); obtain ⟨ad237, e237, hx237_0⟩ := Kd.at_int (Kd.R_reads' HO_6.out).2.2 1 p237 q237; obtain rfl : ad193 = ad237 := (by injection e237); (try simp only [show (1 : Int).toNat = 1 from rfl, Nat.reduceMul, Nat.reduceEqDiff, Go.Addr.add, ↓reduceIte] at hx237_0); have qi237 : (1 < t189.length) = True := eq_true (by omega); (try rw [show ((1 : Int)).toNat = 1 from rfl] at hx237_0); replace p237 := eq_true p237; replace q237 := eq_true q237) | (go_at_call 25; (with_reducible refine (impl_SignedOf.calls t188 (rd t189 1) t238 t239 _ A52.out).mono ?_); rintro e w' ⟨rfl, ⟨nd, rfl⟩⟩; (try first | exact ⟨rfl, _, World.drewN_drewN _ _ _⟩ | exact ⟨rfl, _, Eq.trans (World.drewN_drewN _ _ _) (congrArg (World.drewN _) (Nat.add_assoc _ _ _))⟩)) | (go_at_call 25; (with_reducible refine (impl_SignedOf.calls t188 t232 t240 t241 _ A53.out).mono ?_); rintro e w' ⟨rfl, ⟨nd, rfl⟩⟩; (try first | exact ⟨rfl, _, World.drewN_drewN _ _ _⟩ | exact ⟨rfl, _, Eq.trans (World.drewN_drewN _ _ _) (congrArg (World.drewN _) (Nat.add_assoc _ _ _))⟩)) | (go_at_call 21; (with_reducible refine (impl_WordOf.calls t188 (wrap64 (t235 + t238)) t242 t243 _ A54.out).mono ?_); rintro e w' ⟨rfl, ⟨nd, rfl⟩⟩; (try first | exact ⟨rfl, _, World.drewN_drewN _ _ _⟩ | exact ⟨rfl, _, Eq.trans (World.drewN_drewN _ _ _) (congrArg (World.drewN _) (Nat.add_assoc _ _ _))⟩))); go_upto_region 23 with (first | (go_at_call 29; (with_reducible refine (impl_DoOp.calls 0 t188 (rd t189 0) (rd t189 1) t221 t222 _ A47.out).mono ?_); rintro e w' ⟨rfl, ⟨nd, rfl⟩⟩; (try first | exact ⟨rfl, _, World.drewN_drewN _ _ _⟩ | exact ⟨rfl, _, Eq.trans (World.drewN_drewN _ _ _) (congrArg (World.drewN _) (Nat.add_assoc _ _ _))⟩); have p223 : 0 ≤ (1 : Int) := (by omega); have q223 : 1 < (t189.length : Int) := of_decide_eq_true (by first | (with_reducible assumption) | assumption); obtain ⟨ad223, e223, hx223_0⟩ := Kd.at_int (Kd.R_reads' HO_6.out).2.2 1 p223 q223; obtain rfl : ad193 = ad223 := (by injection e223); (try simp only [show (1 : Int).toNat = 1 from rfl, Nat.reduceMul, Nat.reduceEqDiff, Go.Addr.add, ↓reduceIte] at hx223_0); have qi223 : (1 < t189.length) = True := eq_true (by omega); (try rw [show ((1 : Int)).toNat = 1 from rfl] at hx223_0); replace p223 := eq_true p223; replace q223 := eq_true q223) | (go_at_call 29; (with_reducible refine (impl_DoOp.calls 1 t188 t221 (rd t189 1) t224 t225 _ A48.out).mono ?_); rintro e w' ⟨rfl, ⟨nd, rfl⟩⟩; (try first | exact ⟨rfl, _, World.drewN_drewN _ _ _⟩ | exact ⟨rfl, _, Eq.trans (World.drewN_drewN _ _ _) (congrArg (World.drewN _) (Nat.add_assoc _ _ _))⟩); have p226 : 0 ≤ (0 : Int) := (by omega); have q226 : 0 < (t189.length : Int) := of_decide_eq_true (by first | (with_reducible assumption) | assumption); obtain ⟨ad226, e226, hx226_0⟩ := Kd.at_int (Kd.R_reads' HO_6.out).2.2 0 p226 q226; obtain rfl : ad193 = ad226 := (by injection e226); have qi226 : (0 < t189.length) = True := eq_true (by omega); (try rw [show ((0 : Int)).toNat = 0 from rfl] at hx226_0); (try rw [Addr.add_zero'] at hx226_0); replace p226 := eq_true p226; replace q226 := eq_true q226; have p227 : 0 ≤ (1 : Int) := (by omega); have q227 : 1 < (t189.length : Int) := of_decide_eq_true (by first | (with_reducible assumption) | assumption); obtain ⟨ad227, e227, hx227_0⟩ := Kd.at_int (Kd.R_reads' HO_6.out).2.2 1 p227 q227; obtain rfl : ad193 = ad227 := (by injection e227); (try simp only [show (1 : Int).toNat = 1 from rfl, Nat.reduceMul, Nat.reduceEqDiff, Go.Addr.add, ↓reduceIte] at hx227_0); have qi227 : (1 < t189.length) = True := eq_true (by omega); (try rw [show ((1 : Int)).toNat = 1 from rfl] at hx227_0); replace p227 := eq_true p227; replace q227 := eq_true q227) | (go_at_call 29; (with_reducible refine (impl_DoOp.calls 10 t188 (rd t189 0) (rd t189 1) t228 t229 _ A49.out).mono ?_); rintro e w' ⟨rfl, ⟨nd, rfl⟩⟩; (try first | exact ⟨rfl, _, World.drewN_drewN _ _ _⟩ | exact ⟨rfl, _, Eq.trans (World.drewN_drewN _ _ _) (congrArg (World.drewN _) (Nat.add_assoc _ _ _))⟩); have p230 : 0 ≤ (0 : Int) := (by omega); have q230 : 0 < (t189.length : Int) := of_decide_eq_true (by first | (with_reducible assumption) | assumption); obtain ⟨ad230, e230, hx230_0⟩ := Kd.at_int (Kd.R_reads' HO_6.out).2.2 0 p230 q230; obtain rfl : ad193 = ad230 := (by injection e230); have qi230 : (0 < t189.length) = True := eq_true (by omega); (try rw [show ((0 : Int)).toNat = 0 from rfl] at hx230_0); (try rw [Addr.add_zero'] at hx230_0); replace p230 := eq_true p230; replace q230 := eq_true q230; have p231 : 0 ≤ (1 : Int) := (by omega); have q231 : 1 < (t189.length : Int) := of_decide_eq_true (by first | (with_reducible assumption) | assumption); obtain ⟨ad231, e231, hx231_0⟩ := Kd.at_int (Kd.R_reads' HO_6.out).2.2 1 p231 q231; obtain rfl : ad193 = ad231 := (by injection e231); (try simp only [show (1 : Int).toNat = 1 from rfl, Nat.reduceMul, Nat.reduceEqDiff, Go.Addr.add, ↓reduceIte] at hx231_0); have qi231 : (1 < t189.length) = True := eq_true (by omega); (try rw [show ((1 : Int)).toNat = 1 from rfl] at hx231_0); replace p231 := eq_true p231; replace q231 := eq_true q231) | (go_at_call 29; (with_reducible refine (impl_DoOp.calls 11 t188 (rd t189 0) (rd t189 1) t232 t233 _ A50.out).mono ?_); rintro e w' ⟨rfl, ⟨nd, rfl⟩⟩; (try first | exact ⟨rfl, _, World.drewN_drewN _ _ _⟩ | exact ⟨rfl, _, Eq.trans (World.drewN_drewN _ _ _) (congrArg (World.drewN _) (Nat.add_assoc _ _ _))⟩); have p234 : 0 ≤ (0 : Int) := (by omega); have q234 : 0 < (t189.length : Int) := of_decide_eq_true (by first | (with_reducible assumption) | assumption); obtain ⟨ad234, e234, hx234_0⟩ := Kd.at_int (Kd.R_reads' HO_6.out).2.2 0 p234 q234; obtain rfl : ad193 = ad234 := (by injection e234); have qi234 : (0 < t189.length) = True := eq_true (by omega); (try rw [show ((0 : Int)).toNat = 0 from rfl] at hx234_0); (try rw [Addr.add_zero'] at hx234_0); replace p234 := eq_true p234; replace q234 := eq_true q234) | (go_at_call 25; (with_reducible refine (impl_SignedOf.calls t188 (rd t189 0) t235 t236 _ A51.out).mono ?_); rintro e w' ⟨rfl, ⟨nd, rfl⟩⟩; (try first | exact ⟨rfl, _, World.drewN_drewN _ _ _⟩ | exact ⟨rfl, _, Eq.trans (World.drewN_drewN _ _ _) (congrArg (World.drewN _) (Nat.add_assoc _ _ _))⟩); have p237 : 0 ≤ (1 : Int) := (by omega); have q237 : 1 < (t189.length : Int) := of_decide_eq_true (by first | (with_reducible assumption) | assumption); obtain ⟨ad237, e237, hx237_0⟩ := Kd.at_int (Kd.R_reads' HO_6.out).2.2 1 p237 q237; obtain rfl : ad193 = ad237 := (by injection e237); (try simp only [show (1 : Int).toNat = 1 from rfl, Nat.reduceMul, Nat.reduceEqDiff, Go.Addr.add, ↓reduceIte] at hx237_0); have qi237 : (1 < t189.length) = True := eq_true (by omega); (try rw [show ((1 : Int)).toNat = 1 from rfl] at hx237_0); replace p237 := eq_true p237; replace q237 := eq_true q237) | (go_at_call 25; (with_reducible refine (impl_SignedOf.calls t188 (rd t189 1) t238 t239 _ A52.out).mono ?_); rintro e w' ⟨rfl, ⟨nd, rfl⟩⟩; (try first | exact ⟨rfl, _, World.drewN_drewN _ _ _⟩ | exact ⟨rfl, _, Eq.trans (World.drewN_drewN _ _ _) (congrArg (World.drewN _) (Nat.add_assoc _ _ _))⟩)) | (go_at_call 25; (with_reducible refine (impl_SignedOf.calls t188 t232 t240 t241 _ A53.out).mono ?_); rintro e w' ⟨rfl, ⟨nd, rfl⟩⟩; (try first | exact ⟨rfl, _, World.drewN_drewN _ _ _⟩ | exact ⟨rfl, _, Eq.trans (World.drewN_drewN _ _ _) (congrArg (World.drewN _) (Nat.add_assoc _ _ _))⟩)) | (go_at_call 21; (with_reducible refine (impl_WordOf.calls t188 (wrap64 (t235 + t238)) t242 t243 _ A54.out).mono ?_); rintro e w' ⟨rfl, ⟨nd, rfl⟩⟩; (try first | exact ⟨rfl, _, World.drewN_drewN _ _ _⟩ | exact ⟨rfl, _, Eq.trans (World.drewN_drewN _ _ _) (congrArg (World.drewN _) (Nat.add_assoc _ _ _))⟩))))
       (try simp only [Act.put, List.setIfInBounds_toArray, List.set_cons_zero, List.set_cons_succ])
       go_cut [270] (fun v270 wc => ∃ (kq : Nat) (x270_54 : Bool), v270 = .bool x270_54 ∧ Aside0 (laws_FnOps.j2 kq t188 t189 t221 t228 t232 t235 t238 t240 x270_54 = some r) ∧ Aside0 (kq ≤ kj31) ∧ Aside0 (Kd.R (Kd.int .i64) 2 wc w.heap.size (fun _ => True) (.slice (some ad193) t189.length co17) t189) ∧ Aside0 (Below w.heap.size w wc))
       case first =>
        have H := HC55.out
        clear HC55
        by_cases c56 : t222 = true
        rotate_left
        ·replace c56 := Bool.eq_false_iff.mpr c56
         subst c56
         rw [if_neg (show ¬ (false = true) by decide)] at H
         exact (laws_FnOps.j2_no H HRT.out).elim
        subst c56
        rw [if_pos rfl] at H
        by_cases c57 : t225 = true
        rotate_left
        ·replace c57 := Bool.eq_false_iff.mpr c57
         subst c57
         rw [if_neg (show ¬ (false = true) by decide)] at H
         exact (laws_FnOps.j2_no H HRT.out).elim
        subst c57
        rw [if_pos rfl] at H
        by_cases c58 : t229 = true
        rotate_left
        ·replace c58 := Bool.eq_false_iff.mpr c58
         subst c58
         rw [if_neg (show ¬ (false = true) by decide)] at H
         exact (laws_FnOps.j2_no H HRT.out).elim
        subst c58
        rw [if_pos rfl] at H
        by_cases c59 : t233 = true
        rotate_left
        ·replace c59 := Bool.eq_false_iff.mpr c59
         subst c59
         rw [if_neg (show ¬ (false = true) by decide)] at H
         exact (laws_FnOps.j2_no H HRT.out).elim
        subst c59
        rw [if_pos rfl] at H
        by_cases c60 : t236 = true
        rotate_left
        ·replace c60 := Bool.eq_false_iff.mpr c60
         subst c60
         rw [if_neg (show ¬ (false = true) by decide)] at H
         exact (laws_FnOps.j2_no H HRT.out).elim
        subst c60
        rw [if_pos rfl] at H
        by_cases c61 : t239 = true
        rotate_left
        ·replace c61 := Bool.eq_false_iff.mpr c61
         subst c61
         rw [if_neg (show ¬ (false = true) by decide)] at H
         exact (laws_FnOps.j2_no H HRT.out).elim
        subst c61
        rw [if_pos rfl] at H
        by_cases c62 : t241 = true
        rotate_left
        ·replace c62 := Bool.eq_false_iff.mpr c62
         subst c62
         rw [if_neg (show ¬ (false = true) by decide)] at H
         exact (laws_FnOps.j2_no H HRT.out).elim
        subst c62
        rw [if_pos rfl] at H
        by_cases c63 : t243 = true
        rotate_left
        ·replace c63 := Bool.eq_false_iff.mpr c63
         subst c63
         rw [if_neg (show ¬ (false = true) by decide)] at H
         exact (laws_FnOps.j2_no H HRT.out).elim
        subst c63
        rw [if_pos rfl] at H
        by_cases c64 : t224 = (rd t189 0)
        ·rw [if_pos c64] at H
         have c64b0 : (t224 == (rd t189 0)) = true := beq_iff_eq.mpr c64
         have c64b1 : (t224 != (rd t189 0)) = false := bne_eq_false_iff_eq.mpr c64
         clear c64
         (first | rw [c64b0] | (simp only [i64_w, i32_w]; rw [c64b0]) | skip)
         have H' := Aside0.mk H
         clear H
         have p244 : 0 ≤ (0 : Int) := (by omega)
         have q244 : 0 < (t189.length : Int) := of_decide_eq_true (by first | (with_reducible assumption) | assumption)
         obtain ⟨ad244, e244, hx244_0⟩ := Kd.at_int (Kd.R_reads' HO_6.out).2.2 0 p244 q244
         obtain rfl : ad193 = ad244 := (by injection e244)
         have qi244 : (0 < t189.length) = True := eq_true (by omega)
         (try rw [show ((0 : Int)).toNat = 0 from rfl] at hx244_0)
         (try rw [Addr.add_zero'] at hx244_0)
         replace p244 := eq_true p244
         replace q244 := eq_true q244
         go_wp2
         repeat (go_quiet (fail); try go_wp2)
         go_meet
         case rel => exact ⟨_, ((t242 != t221)), (by first | rfl | (simp; done) | (simp [*]; done)), H', ⟨by have := HJ13.out; have := HJ31.out; first | omega | exact Nat.le_refl _⟩, ⟨by (with_reducible repeat (first | apply Kd.R_alloc | apply Kd.R_drewN | apply Kd.R_drew)); exact HO_6.out⟩, ⟨by repeat (first | (with_reducible first | exact HB.out | apply below_alloc | apply pw_below_drewN | apply below_drew1) | exact HB.out)⟩⟩
        ·rw [if_neg c64] at H
         have c64b0 : (t224 == (rd t189 0)) = false := beq_eq_false_iff_ne.mpr c64
         have c64b1 : (t224 != (rd t189 0)) = true := bne_iff_ne.mpr c64
         (first | rw [c64b0] | (simp only [i64_w, i32_w]; rw [c64b0]) | skip)
         exact (laws_FnOps.j2_no H HRT.out).elim
       case rest =>
        as_aux_lemma =>
         clear HC55
         try clear c1
         try clear p1
         try clear q1
         try clear hx1
         try clear qi1
         try clear c2
         try clear p2
         try clear q2
         try clear hx2
         try clear qi2
         try clear c3
         try clear c4
         try clear c5
         try clear c6
         try clear p6
         try clear c8
         try clear c8b0
         try clear c8b1
         try clear c9
         try clear c9b0
         try clear c9b1
         try clear c12
         try clear c12b0
         try clear c12b1
         try clear c18
         try clear c19
         try clear p19
         try clear q19
         try clear hx19
         try clear qi19
         try clear c20
         try clear p20
         try clear q20
         try clear hx20
         try clear qi20
         try clear p21
         try clear q21
         try clear hx21
         try clear qi21
         try clear c22
         try clear p22
         try clear q22
         try clear hx22
         try clear qi22
         try clear p23
         try clear q23
         try clear hx23
         try clear qi23
         try clear c24
         try clear p24
         try clear q24
         try clear hx24
         try clear qi24
         try clear c26
         try clear c27
         try clear c28
         try clear c28b0
         try clear c28b1
         try clear c30
         try clear c30b0
         try clear c30b1
         try clear c33
         try clear c34
         try clear c36
         try clear c37
         try clear c37b0
         try clear c37b1
         try clear c39
         try clear c42
         try clear c44
         try clear c45
         try clear c45b0
         try clear c45b1
         try clear c46
         try clear c46b0
         try clear c46b1
         try clear c56
         try clear c57
         try clear c58
         try clear c59
         try clear c60
         try clear c61
         try clear c62
         try clear c63
         try clear c64
         try clear c64b0
         try clear c64b1
         try clear p64
         try clear hx193_0
         try clear hx194_0
         try clear hx197_0
         try clear hx198_0
         try clear hx201_0
         try clear hx202_0
         try clear hx208_0
         try clear hx211_0
         try clear hx219_0
         try clear hx220_0
         try clear hx223_0
         try clear hx226_0
         try clear hx227_0
         try clear hx230_0
         try clear hx231_0
         try clear hx234_0
         try clear hx237_0
         try clear hx244_0
         try clear p1
         try clear p19
         try clear p193
         try clear p194
         try clear p197
         try clear p198
         try clear p2
         try clear p20
         try clear p201
         try clear p202
         try clear p208
         try clear p21
         try clear p211
         try clear p219
         try clear p220
         try clear p223
         try clear p226
         try clear p227
         try clear p230
         try clear p231
         try clear p234
         try clear p237
         try clear p244
         try clear q1
         try clear q19
         try clear q193
         try clear q194
         try clear q197
         try clear q198
         try clear q2
         try clear q20
         try clear q201
         try clear q202
         try clear q208
         try clear q21
         try clear q211
         try clear q219
         try clear q220
         try clear q223
         try clear q226
         try clear q227
         try clear q230
         try clear q231
         try clear q234
         try clear q237
         try clear q244
         obtain ⟨kq, x270_54, rfl, HA, HJ54, HO_6, HB⟩ := hcut
         cases kq with
         | zero => exact absurd HA.out (by simp [laws_FnOps.j2])
         | succ kj54 =>
          have H := HA.out
          clear HA
          simp only [laws_FnOps.j2] at H
          by_cases c65 : x270_54 = true
          ·subst c65
           rw [if_pos rfl] at H
           obtain rfl := Option.some.inj H
           exact absurd HRT.out (by decide)
          replace c65 := Bool.eq_false_iff.mpr c65
          subst c65
          rw [if_neg (show ¬ (false = true) by decide)] at H
          obtain ⟨ji66, hji66⟩ : ∃ j_ : Int, (IntKind.u64.wrap (wrap64 (t188 - 1))) = j_ := ⟨_, rfl⟩
          replace H : (if 0 ≤ (ji66) then (if (wrap64 (t235 + t238)) ≥ (wrap64 (-(shl .i64 1 (ji66)))) then (if (wrap64 (t235 + t238)) < (shl .i64 1 (ji66)) then (if t232 = t221 then (if (wrap64 (t235 + t238)) ≥ (shl .i64 1 (ji66)) then (if t240 = (wrap64 ((shl .i64 1 (ji66)) - 1)) then (if (wrap64 (t235 + t238)) < (wrap64 (-(shl .i64 1 (ji66)))) then (if t240 = (wrap64 (-(shl .i64 1 (ji66)))) then (if 0 < (t189.length : Int) then (if 1 < (t189.length : Int) then (if (wrap64 ((rd t189 0) + (rd t189 1))) ≤ (wrap64 ((wrap64 (2 * (shl .i64 1 (ji66)))) - 1)) then (if t228 = t221 then (some true) else (if (wrap64 ((rd t189 0) + (rd t189 1))) > (wrap64 ((wrap64 (2 * (shl .i64 1 (ji66)))) - 1)) then (some (t228 == (wrap64 ((wrap64 (2 * (shl .i64 1 (ji66)))) - 1)))) else (some false))) else (if (wrap64 ((rd t189 0) + (rd t189 1))) > (wrap64 ((wrap64 (2 * (shl .i64 1 (ji66)))) - 1)) then (some (t228 == (wrap64 ((wrap64 (2 * (shl .i64 1 (ji66)))) - 1)))) else (some false))) else (none)) else (none)) else (some false)) else (if 0 < (t189.length : Int) then (if 1 < (t189.length : Int) then (if (wrap64 ((rd t189 0) + (rd t189 1))) ≤ (wrap64 ((wrap64 (2 * (shl .i64 1 (ji66)))) - 1)) then (if t228 = t221 then (some true) else (if (wrap64 ((rd t189 0) + (rd t189 1))) > (wrap64 ((wrap64 (2 * (shl .i64 1 (ji66)))) - 1)) then (some (t228 == (wrap64 ((wrap64 (2 * (shl .i64 1 (ji66)))) - 1)))) else (some false))) else (if (wrap64 ((rd t189 0) + (rd t189 1))) > (wrap64 ((wrap64 (2 * (shl .i64 1 (ji66)))) - 1)) then (some (t228 == (wrap64 ((wrap64 (2 * (shl .i64 1 (ji66)))) - 1)))) else (some false))) else (none)) else (none))) else (some false)) else (if (wrap64 (t235 + t238)) < (wrap64 (-(shl .i64 1 (ji66)))) then (if t240 = (wrap64 (-(shl .i64 1 (ji66)))) then (if 0 < (t189.length : Int) then (if 1 < (t189.length : Int) then (if (wrap64 ((rd t189 0) + (rd t189 1))) ≤ (wrap64 ((wrap64 (2 * (shl .i64 1 (ji66)))) - 1)) then (if t228 = t221 then (some true) else (if (wrap64 ((rd t189 0) + (rd t189 1))) > (wrap64 ((wrap64 (2 * (shl .i64 1 (ji66)))) - 1)) then (some (t228 == (wrap64 ((wrap64 (2 * (shl .i64 1 (ji66)))) - 1)))) else (some false))) else (if (wrap64 ((rd t189 0) + (rd t189 1))) > (wrap64 ((wrap64 (2 * (shl .i64 1 (ji66)))) - 1)) then (some (t228 == (wrap64 ((wrap64 (2 * (shl .i64 1 (ji66)))) - 1)))) else (some false))) else (none)) else (none)) else (some false)) else (if 0 < (t189.length : Int) then (if 1 < (t189.length : Int) then (if (wrap64 ((rd t189 0) + (rd t189 1))) ≤ (wrap64 ((wrap64 (2 * (shl .i64 1 (ji66)))) - 1)) then (if t228 = t221 then (some true) else (if (wrap64 ((rd t189 0) + (rd t189 1))) > (wrap64 ((wrap64 (2 * (shl .i64 1 (ji66)))) - 1)) then (some (t228 == (wrap64 ((wrap64 (2 * (shl .i64 1 (ji66)))) - 1)))) else (some false))) else (if (wrap64 ((rd t189 0) + (rd t189 1))) > (wrap64 ((wrap64 (2 * (shl .i64 1 (ji66)))) - 1)) then (some (t228 == (wrap64 ((wrap64 (2 * (shl .i64 1 (ji66)))) - 1)))) else (some false))) else (none)) else (none)))) else (some false)) else (if (wrap64 (t235 + t238)) ≥ (shl .i64 1 (ji66)) then (if t240 = (wrap64 ((shl .i64 1 (ji66)) - 1)) then (if (wrap64 (t235 + t238)) < (wrap64 (-(shl .i64 1 (ji66)))) then (if t240 = (wrap64 (-(shl .i64 1 (ji66)))) then (if 0 < (t189.length : Int) then (if 1 < (t189.length : Int) then (if (wrap64 ((rd t189 0) + (rd t189 1))) ≤ (wrap64 ((wrap64 (2 * (shl .i64 1 (ji66)))) - 1)) then (if t228 = t221 then (some true) else (if (wrap64 ((rd t189 0) + (rd t189 1))) > (wrap64 ((wrap64 (2 * (shl .i64 1 (ji66)))) - 1)) then (some (t228 == (wrap64 ((wrap64 (2 * (shl .i64 1 (ji66)))) - 1)))) else (some false))) else (if (wrap64 ((rd t189 0) + (rd t189 1))) > (wrap64 ((wrap64 (2 * (shl .i64 1 (ji66)))) - 1)) then (some (t228 == (wrap64 ((wrap64 (2 * (shl .i64 1 (ji66)))) - 1)))) else (some false))) else (none)) else (none)) else (some false)) else (if 0 < (t189.length : Int) then (if 1 < (t189.length : Int) then (if (wrap64 ((rd t189 0) + (rd t189 1))) ≤ (wrap64 ((wrap64 (2 * (shl .i64 1 (ji66)))) - 1)) then (if t228 = t221 then (some true) else (if (wrap64 ((rd t189 0) + (rd t189 1))) > (wrap64 ((wrap64 (2 * (shl .i64 1 (ji66)))) - 1)) then (some (t228 == (wrap64 ((wrap64 (2 * (shl .i64 1 (ji66)))) - 1)))) else (some false))) else (if (wrap64 ((rd t189 0) + (rd t189 1))) > (wrap64 ((wrap64 (2 * (shl .i64 1 (ji66)))) - 1)) then (some (t228 == (wrap64 ((wrap64 (2 * (shl .i64 1 (ji66)))) - 1)))) else (some false))) else (none)) else (none))) else (some false)) else (if (wrap64 (t235 + t238)) < (wrap64 (-(shl .i64 1 (ji66)))) then (if t240 = (wrap64 (-(shl .i64 1 (ji66)))) then (if 0 < (t189.length : Int) then (if 1 < (t189.length : Int) then (if (wrap64 ((rd t189 0) + (rd t189 1))) ≤ (wrap64 ((wrap64 (2 * (shl .i64 1 (ji66)))) - 1)) then (if t228 = t221 then (some true) else (if (wrap64 ((rd t189 0) + (rd t189 1))) > (wrap64 ((wrap64 (2 * (shl .i64 1 (ji66)))) - 1)) then (some (t228 == (wrap64 ((wrap64 (2 * (shl .i64 1 (ji66)))) - 1)))) else (some false))) else (if (wrap64 ((rd t189 0) + (rd t189 1))) > (wrap64 ((wrap64 (2 * (shl .i64 1 (ji66)))) - 1)) then (some (t228 == (wrap64 ((wrap64 (2 * (shl .i64 1 (ji66)))) - 1)))) else (some false))) else (none)) else (none)) else (some false)) else (if 0 < (t189.length : Int) then (if 1 < (t189.length : Int) then (if (wrap64 ((rd t189 0) + (rd t189 1))) ≤ (wrap64 ((wrap64 (2 * (shl .i64 1 (ji66)))) - 1)) then (if t228 = t221 then (some true) else (if (wrap64 ((rd t189 0) + (rd t189 1))) > (wrap64 ((wrap64 (2 * (shl .i64 1 (ji66)))) - 1)) then (some (t228 == (wrap64 ((wrap64 (2 * (shl .i64 1 (ji66)))) - 1)))) else (some false))) else (if (wrap64 ((rd t189 0) + (rd t189 1))) > (wrap64 ((wrap64 (2 * (shl .i64 1 (ji66)))) - 1)) then (some (t228 == (wrap64 ((wrap64 (2 * (shl .i64 1 (ji66)))) - 1)))) else (some false))) else (none)) else (none))))) else (if (wrap64 (t235 + t238)) ≥ (shl .i64 1 (ji66)) then (if t240 = (wrap64 ((shl .i64 1 (ji66)) - 1)) then (if (wrap64 (t235 + t238)) < (wrap64 (-(shl .i64 1 (ji66)))) then (if t240 = (wrap64 (-(shl .i64 1 (ji66)))) then (if 0 < (t189.length : Int) then (if 1 < (t189.length : Int) then (if (wrap64 ((rd t189 0) + (rd t189 1))) ≤ (wrap64 ((wrap64 (2 * (shl .i64 1 (ji66)))) - 1)) then (if t228 = t221 then (some true) else (if (wrap64 ((rd t189 0) + (rd t189 1))) > (wrap64 ((wrap64 (2 * (shl .i64 1 (ji66)))) - 1)) then (some (t228 == (wrap64 ((wrap64 (2 * (shl .i64 1 (ji66)))) - 1)))) else (some false))) else (if (wrap64 ((rd t189 0) + (rd t189 1))) > (wrap64 ((wrap64 (2 * (shl .i64 1 (ji66)))) - 1)) then (some (t228 == (wrap64 ((wrap64 (2 * (shl .i64 1 (ji66)))) - 1)))) else (some false))) else (none)) else (none)) else (some false)) else (if 0 < (t189.length : Int) then (if 1 < (t189.length : Int) then (if (wrap64 ((rd t189 0) + (rd t189 1))) ≤ (wrap64 ((wrap64 (2 * (shl .i64 1 (ji66)))) - 1)) then (if t228 = t221 then (some true) else (if (wrap64 ((rd t189 0) + (rd t189 1))) > (wrap64 ((wrap64 (2 * (shl .i64 1 (ji66)))) - 1)) then (some (t228 == (wrap64 ((wrap64 (2 * (shl .i64 1 (ji66)))) - 1)))) else (some false))) else (if (wrap64 ((rd t189 0) + (rd t189 1))) > (wrap64 ((wrap64 (2 * (shl .i64 1 (ji66)))) - 1)) then (some (t228 == (wrap64 ((wrap64 (2 * (shl .i64 1 (ji66)))) - 1)))) else (some false))) else (none)) else (none))) else (some false)) else (if (wrap64 (t235 + t238)) < (wrap64 (-(shl .i64 1 (ji66)))) then (if t240 = (wrap64 (-(shl .i64 1 (ji66)))) then (if 0 < (t189.length : Int) then (if 1 < (t189.length : Int) then (if (wrap64 ((rd t189 0) + (rd t189 1))) ≤ (wrap64 ((wrap64 (2 * (shl .i64 1 (ji66)))) - 1)) then (if t228 = t221 then (some true) else (if (wrap64 ((rd t189 0) + (rd t189 1))) > (wrap64 ((wrap64 (2 * (shl .i64 1 (ji66)))) - 1)) then (some (t228 == (wrap64 ((wrap64 (2 * (shl .i64 1 (ji66)))) - 1)))) else (some false))) else (if (wrap64 ((rd t189 0) + (rd t189 1))) > (wrap64 ((wrap64 (2 * (shl .i64 1 (ji66)))) - 1)) then (some (t228 == (wrap64 ((wrap64 (2 * (shl .i64 1 (ji66)))) - 1)))) else (some false))) else (none)) else (none)) else (some false)) else (if 0 < (t189.length : Int) then (if 1 < (t189.length : Int) then (if (wrap64 ((rd t189 0) + (rd t189 1))) ≤ (wrap64 ((wrap64 (2 * (shl .i64 1 (ji66)))) - 1)) then (if t228 = t221 then (some true) else (if (wrap64 ((rd t189 0) + (rd t189 1))) > (wrap64 ((wrap64 (2 * (shl .i64 1 (ji66)))) - 1)) then (some (t228 == (wrap64 ((wrap64 (2 * (shl .i64 1 (ji66)))) - 1)))) else (some false))) else (if (wrap64 ((rd t189 0) + (rd t189 1))) > (wrap64 ((wrap64 (2 * (shl .i64 1 (ji66)))) - 1)) then (some (t228 == (wrap64 ((wrap64 (2 * (shl .i64 1 (ji66)))) - 1)))) else (some false))) else (none)) else (none))))) else (none)) = some r := by first | (rw [hji66] at H; exact H) | (simp only [hji66] at H ⊢; exact H)
          by_cases c67 : 0 ≤ (ji66)
          rotate_left
          ·rw [if_neg c67] at H
           exact absurd H (by simp)
          rw [if_pos c67] at H
          have c67b0 := eq_true c67
          have c67b1 : decide (0 ≤ (ji66)) = true := decide_eq_true c67
          clear c67
          obtain ⟨ji68, hji68⟩ : ∃ j_ : Int, (shl .i64 1 (ji66)) = j_ := ⟨_, rfl⟩
          replace H : (if (wrap64 (t235 + t238)) ≥ (wrap64 (-(ji68))) then (if (wrap64 (t235 + t238)) < (ji68) then (if t232 = t221 then (if (wrap64 (t235 + t238)) ≥ (ji68) then (if t240 = (wrap64 ((ji68) - 1)) then (if (wrap64 (t235 + t238)) < (wrap64 (-(ji68))) then (if t240 = (wrap64 (-(ji68))) then (if 0 < (t189.length : Int) then (if 1 < (t189.length : Int) then (if (wrap64 ((rd t189 0) + (rd t189 1))) ≤ (wrap64 ((wrap64 (2 * (ji68))) - 1)) then (if t228 = t221 then (some true) else (if (wrap64 ((rd t189 0) + (rd t189 1))) > (wrap64 ((wrap64 (2 * (ji68))) - 1)) then (some (t228 == (wrap64 ((wrap64 (2 * (ji68))) - 1)))) else (some false))) else (if (wrap64 ((rd t189 0) + (rd t189 1))) > (wrap64 ((wrap64 (2 * (ji68))) - 1)) then (some (t228 == (wrap64 ((wrap64 (2 * (ji68))) - 1)))) else (some false))) else (none)) else (none)) else (some false)) else (if 0 < (t189.length : Int) then (if 1 < (t189.length : Int) then (if (wrap64 ((rd t189 0) + (rd t189 1))) ≤ (wrap64 ((wrap64 (2 * (ji68))) - 1)) then (if t228 = t221 then (some true) else (if (wrap64 ((rd t189 0) + (rd t189 1))) > (wrap64 ((wrap64 (2 * (ji68))) - 1)) then (some (t228 == (wrap64 ((wrap64 (2 * (ji68))) - 1)))) else (some false))) else (if (wrap64 ((rd t189 0) + (rd t189 1))) > (wrap64 ((wrap64 (2 * (ji68))) - 1)) then (some (t228 == (wrap64 ((wrap64 (2 * (ji68))) - 1)))) else (some false))) else (none)) else (none))) else (some false)) else (if (wrap64 (t235 + t238)) < (wrap64 (-(ji68))) then (if t240 = (wrap64 (-(ji68))) then (if 0 < (t189.length : Int) then (if 1 < (t189.length : Int) then (if (wrap64 ((rd t189 0) + (rd t189 1))) ≤ (wrap64 ((wrap64 (2 * (ji68))) - 1)) then (if t228 = t221 then (some true) else (if (wrap64 ((rd t189 0) + (rd t189 1))) > (wrap64 ((wrap64 (2 * (ji68))) - 1)) then (some (t228 == (wrap64 ((wrap64 (2 * (ji68))) - 1)))) else (some false))) else (if (wrap64 ((rd t189 0) + (rd t189 1))) > (wrap64 ((wrap64 (2 * (ji68))) - 1)) then (some (t228 == (wrap64 ((wrap64 (2 * (ji68))) - 1)))) else (some false))) else (none)) else (none)) else (some false)) else (if 0 < (t189.length : Int) then (if 1 < (t189.length : Int) then (if (wrap64 ((rd t189 0) + (rd t189 1))) ≤ (wrap64 ((wrap64 (2 * (ji68))) - 1)) then (if t228 = t221 then (some true) else (if (wrap64 ((rd t189 0) + (rd t189 1))) > (wrap64 ((wrap64 (2 * (ji68))) - 1)) then (some (t228 == (wrap64 ((wrap64 (2 * (ji68))) - 1)))) else (some false))) else (if (wrap64 ((rd t189 0) + (rd t189 1))) > (wrap64 ((wrap64 (2 * (ji68))) - 1)) then (some (t228 == (wrap64 ((wrap64 (2 * (ji68))) - 1)))) else (some false))) else (none)) else (none)))) else (some false)) else (if (wrap64 (t235 + t238)) ≥ (ji68) then (if t240 = (wrap64 ((ji68) - 1)) then (if (wrap64 (t235 + t238)) < (wrap64 (-(ji68))) then (if t240 = (wrap64 (-(ji68))) then (if 0 < (t189.length : Int) then (if 1 < (t189.length : Int) then (if (wrap64 ((rd t189 0) + (rd t189 1))) ≤ (wrap64 ((wrap64 (2 * (ji68))) - 1)) then (if t228 = t221 then (some true) else (if (wrap64 ((rd t189 0) + (rd t189 1))) > (wrap64 ((wrap64 (2 * (ji68))) - 1)) then (some (t228 == (wrap64 ((wrap64 (2 * (ji68))) - 1)))) else (some false))) else (if (wrap64 ((rd t189 0) + (rd t189 1))) > (wrap64 ((wrap64 (2 * (ji68))) - 1)) then (some (t228 == (wrap64 ((wrap64 (2 * (ji68))) - 1)))) else (some false))) else (none)) else (none)) else (some false)) else (if 0 < (t189.length : Int) then (if 1 < (t189.length : Int) then (if (wrap64 ((rd t189 0) + (rd t189 1))) ≤ (wrap64 ((wrap64 (2 * (ji68))) - 1)) then (if t228 = t221 then (some true) else (if (wrap64 ((rd t189 0) + (rd t189 1))) > (wrap64 ((wrap64 (2 * (ji68))) - 1)) then (some (t228 == (wrap64 ((wrap64 (2 * (ji68))) - 1)))) else (some false))) else (if (wrap64 ((rd t189 0) + (rd t189 1))) > (wrap64 ((wrap64 (2 * (ji68))) - 1)) then (some (t228 == (wrap64 ((wrap64 (2 * (ji68))) - 1)))) else (some false))) else (none)) else (none))) else (some false)) else (if (wrap64 (t235 + t238)) < (wrap64 (-(ji68))) then (if t240 = (wrap64 (-(ji68))) then (if 0 < (t189.length : Int) then (if 1 < (t189.length : Int) then (if (wrap64 ((rd t189 0) + (rd t189 1))) ≤ (wrap64 ((wrap64 (2 * (ji68))) - 1)) then (if t228 = t221 then (some true) else (if (wrap64 ((rd t189 0) + (rd t189 1))) > (wrap64 ((wrap64 (2 * (ji68))) - 1)) then (some (t228 == (wrap64 ((wrap64 (2 * (ji68))) - 1)))) else (some false))) else (if (wrap64 ((rd t189 0) + (rd t189 1))) > (wrap64 ((wrap64 (2 * (ji68))) - 1)) then (some (t228 == (wrap64 ((wrap64 (2 * (ji68))) - 1)))) else (some false))) else (none)) else (none)) else (some false)) else (if 0 < (t189.length : Int) then (if 1 < (t189.length : Int) then (if (wrap64 ((rd t189 0) + (rd t189 1))) ≤ (wrap64 ((wrap64 (2 * (ji68))) - 1)) then (if t228 = t221 then (some true) else (if (wrap64 ((rd t189 0) + (rd t189 1))) > (wrap64 ((wrap64 (2 * (ji68))) - 1)) then (some (t228 == (wrap64 ((wrap64 (2 * (ji68))) - 1)))) else (some false))) else (if (wrap64 ((rd t189 0) + (rd t189 1))) > (wrap64 ((wrap64 (2 * (ji68))) - 1)) then (some (t228 == (wrap64 ((wrap64 (2 * (ji68))) - 1)))) else (some false))) else (none)) else (none))))) else (if (wrap64 (t235 + t238)) ≥ (ji68) then (if t240 = (wrap64 ((ji68) - 1)) then (if (wrap64 (t235 + t238)) < (wrap64 (-(ji68))) then (if t240 = (wrap64 (-(ji68))) then (if 0 < (t189.length : Int) then (if 1 < (t189.length : Int) then (if (wrap64 ((rd t189 0) + (rd t189 1))) ≤ (wrap64 ((wrap64 (2 * (ji68))) - 1)) then (if t228 = t221 then (some true) else (if (wrap64 ((rd t189 0) + (rd t189 1))) > (wrap64 ((wrap64 (2 * (ji68))) - 1)) then (some (t228 == (wrap64 ((wrap64 (2 * (ji68))) - 1)))) else (some false))) else (if (wrap64 ((rd t189 0) + (rd t189 1))) > (wrap64 ((wrap64 (2 * (ji68))) - 1)) then (some (t228 == (wrap64 ((wrap64 (2 * (ji68))) - 1)))) else (some false))) else (none)) else (none)) else (some false)) else (if 0 < (t189.length : Int) then (if 1 < (t189.length : Int) then (if (wrap64 ((rd t189 0) + (rd t189 1))) ≤ (wrap64 ((wrap64 (2 * (ji68))) - 1)) then (if t228 = t221 then (some true) else (if (wrap64 ((rd t189 0) + (rd t189 1))) > (wrap64 ((wrap64 (2 * (ji68))) - 1)) then (some (t228 == (wrap64 ((wrap64 (2 * (ji68))) - 1)))) else (some false))) else (if (wrap64 ((rd t189 0) + (rd t189 1))) > (wrap64 ((wrap64 (2 * (ji68))) - 1)) then (some (t228 == (wrap64 ((wrap64 (2 * (ji68))) - 1)))) else (some false))) else (none)) else (none))) else (some false)) else (if (wrap64 (t235 + t238)) < (wrap64 (-(ji68))) then (if t240 = (wrap64 (-(ji68))) then (if 0 < (t189.length : Int) then (if 1 < (t189.length : Int) then (if (wrap64 ((rd t189 0) + (rd t189 1))) ≤ (wrap64 ((wrap64 (2 * (ji68))) - 1)) then (if t228 = t221 then (some true) else (if (wrap64 ((rd t189 0) + (rd t189 1))) > (wrap64 ((wrap64 (2 * (ji68))) - 1)) then (some (t228 == (wrap64 ((wrap64 (2 * (ji68))) - 1)))) else (some false))) else (if (wrap64 ((rd t189 0) + (rd t189 1))) > (wrap64 ((wrap64 (2 * (ji68))) - 1)) then (some (t228 == (wrap64 ((wrap64 (2 * (ji68))) - 1)))) else (some false))) else (none)) else (none)) else (some false)) else (if 0 < (t189.length : Int) then (if 1 < (t189.length : Int) then (if (wrap64 ((rd t189 0) + (rd t189 1))) ≤ (wrap64 ((wrap64 (2 * (ji68))) - 1)) then (if t228 = t221 then (some true) else (if (wrap64 ((rd t189 0) + (rd t189 1))) > (wrap64 ((wrap64 (2 * (ji68))) - 1)) then (some (t228 == (wrap64 ((wrap64 (2 * (ji68))) - 1)))) else (some false))) else (if (wrap64 ((rd t189 0) + (rd t189 1))) > (wrap64 ((wrap64 (2 * (ji68))) - 1)) then (some (t228 == (wrap64 ((wrap64 (2 * (ji68))) - 1)))) else (some false))) else (none)) else (none))))) = some r := by first | (rw [hji68] at H; exact H) | (simp only [hji68] at H ⊢; exact H)
          have hji68_ : (IntKind.i64.wrap (1 * 2 ^ min (ji66).toNat 64)) = ji68 := hji68
          have hji68z : (ji66) ≤ 64 → (IntKind.i64.wrap (1 * 2 ^ (ji66).toNat)) = ji68 := shl_small hji68
          have hji68u : (IntKind.i64.wrap (2 ^ min (ji66).toNat 64)) = ji68 := by have h_ := hji68_; rw [Int.one_mul] at h_; exact h_
          have hji68v : (ji66) ≤ 64 → (IntKind.i64.wrap (2 ^ (ji66).toNat)) = ji68 := fun hle_ => by have h_ := hji68z hle_; rw [Int.one_mul] at h_; exact h_
          have hji68y : (wrap64 (1 * 2 ^ min (ji66).toNat 64)) = ji68 := (i64_w _).symm.trans hji68_
          have hji68x : (ji66) ≤ 64 → (wrap64 (1 * 2 ^ (ji66).toNat)) = ji68 := fun h_ => (i64_w _).symm.trans (hji68z h_)
          by_cases c69 : (wrap64 (t235 + t238)) ≥ (wrap64 (-(ji68)))
          ·rw [if_pos c69] at H
           have c69b0 : decide ((wrap64 (-(ji68))) ≤ (wrap64 (t235 + t238))) = true := decide_eq_true c69
           clear c69
           by_cases c70 : (wrap64 (t235 + t238)) < (ji68)
           ·rw [if_pos c70] at H
            have c70b0 : decide ((wrap64 (t235 + t238)) < (ji68)) = true := decide_eq_true c70
            clear c70
            by_cases c71 : t232 = t221
            rotate_left
            ·rw [if_neg c71] at H
             have c71b0 : (t232 == t221) = false := beq_eq_false_iff_ne.mpr c71
             have c71b1 : (t232 != t221) = true := bne_iff_ne.mpr c71
             obtain rfl := Option.some.inj H
             exact absurd HRT.out (by decide)
            rw [if_pos c71] at H
            have c71b0 : (t232 == t221) = true := beq_iff_eq.mpr c71
            have c71b1 : (t232 != t221) = false := bne_eq_false_iff_eq.mpr c71
            clear c71
            by_cases c72 : (wrap64 (t235 + t238)) ≥ (ji68)
            ·exact (ways_FnOps.z1 c70b0 c72).elim
            ·rw [if_neg c72] at H
             have c72b0 : decide ((ji68) ≤ (wrap64 (t235 + t238))) = false := decide_eq_false c72
             clear c72
             by_cases c88 : (wrap64 (t235 + t238)) < (wrap64 (-(ji68)))
             ·exact (ways_FnOps.z3 c69b0 c88).elim
             ·rw [if_neg c88] at H
              have c88b0 : decide ((wrap64 (t235 + t238)) < (wrap64 (-(ji68)))) = false := decide_eq_false c88
              clear c88
              by_cases c96 : 0 < (t189.length : Int)
              rotate_left
              ·rw [if_neg c96] at H
               exact absurd H (by simp)
              rw [if_pos c96] at H
              have c96b0 : decide (0 < (t189.length : Int)) = true := decide_eq_true c96
              have c96b1 : decide (0 < t189.length) = true := decide_eq_true (by omega)
              clear c96
              by_cases c97 : 1 < (t189.length : Int)
              rotate_left
              ·rw [if_neg c97] at H
               exact absurd H (by simp)
              rw [if_pos c97] at H
              have c97b0 : decide (1 < (t189.length : Int)) = true := decide_eq_true c97
              have c97b1 : decide (1 < t189.length) = true := decide_eq_true (by omega)
              clear c97
              by_cases c98 : (wrap64 ((rd t189 0) + (rd t189 1))) ≤ (wrap64 ((wrap64 (2 * (ji68))) - 1))
              ·rw [if_pos c98] at H
               have c98b0 : decide ((wrap64 ((rd t189 0) + (rd t189 1))) ≤ (wrap64 ((wrap64 (2 * (ji68))) - 1))) = true := decide_eq_true c98
               clear c98
               by_cases c99 : t228 = t221
               ·rw [if_pos c99] at H
                have c99b0 : (t228 == t221) = true := beq_iff_eq.mpr c99
                have c99b1 : (t228 != t221) = false := bne_eq_false_iff_eq.mpr c99
                clear c99
                obtain rfl := Option.some.inj H
                have p263 : 0 ≤ (0 : Int) := (by omega)
                have q263 : 0 < (t189.length : Int) := of_decide_eq_true (by first | (with_reducible assumption) | assumption)
                obtain ⟨ad263, e263, hx263_0⟩ := Kd.at_int (Kd.R_reads' HO_6.out).2.2 0 p263 q263
                obtain rfl : ad193 = ad263 := (by injection e263)
                have qi263 : (0 < t189.length) = True := eq_true (by omega)
                (try rw [show ((0 : Int)).toNat = 0 from rfl] at hx263_0)
                (try rw [Addr.add_zero'] at hx263_0)
                replace p263 := eq_true p263
                replace q263 := eq_true q263
                have p264 : 0 ≤ (1 : Int) := (by omega)
                have q264 : 1 < (t189.length : Int) := of_decide_eq_true (by first | (with_reducible assumption) | assumption)
                obtain ⟨ad264, e264, hx264_0⟩ := Kd.at_int (Kd.R_reads' HO_6.out).2.2 1 p264 q264
                obtain rfl : ad193 = ad264 := (by injection e264)
                (try simp only [show (1 : Int).toNat = 1 from rfl, Nat.reduceMul, Nat.reduceEqDiff, Go.Addr.add, ↓reduceIte] at hx264_0)
                have qi264 : (1 < t189.length) = True := eq_true (by omega)
                (try rw [show ((1 : Int)).toNat = 1 from rfl] at hx264_0)
                replace p264 := eq_true p264
                replace q264 := eq_true q264
                go_wp2
                repeat (go_quiet (fail); try go_wp2)
                go_ret
                exact ⟨by first | rfl | (simp [errW_none, errW_some] <;> rfl) | (simp only [← hji66, ← hji68]; first | rfl | (simp [errW_none, errW_some] <;> rfl)) | (simp [*, errW_none, errW_some] <;> rfl), by repeat (first | (with_reducible first | exact HB.out | apply below_alloc | apply pw_below_drewN | apply below_drew1) | exact HB.out)⟩
               ·rw [if_neg c99] at H
                have c99b0 : (t228 == t221) = false := beq_eq_false_iff_ne.mpr c99
                have c99b1 : (t228 != t221) = true := bne_iff_ne.mpr c99
                by_cases c100 : (wrap64 ((rd t189 0) + (rd t189 1))) > (wrap64 ((wrap64 (2 * (ji68))) - 1))
                rotate_left
                ·rw [if_neg c100] at H
                 have c100b0 : decide ((wrap64 ((wrap64 (2 * (ji68))) - 1)) < (wrap64 ((rd t189 0) + (rd t189 1)))) = false := decide_eq_false c100
                 clear c100
                 obtain rfl := Option.some.inj H
                 exact absurd HRT.out (by decide)
                rw [if_pos c100] at H
                have c100b0 : decide ((wrap64 ((wrap64 (2 * (ji68))) - 1)) < (wrap64 ((rd t189 0) + (rd t189 1)))) = true := decide_eq_true c100
                clear c100
                obtain rfl := Option.some.inj H
                have p263 : 0 ≤ (0 : Int) := (by omega)
                have q263 : 0 < (t189.length : Int) := of_decide_eq_true (by first | (with_reducible assumption) | assumption)
                obtain ⟨ad263, e263, hx263_0⟩ := Kd.at_int (Kd.R_reads' HO_6.out).2.2 0 p263 q263
                obtain rfl : ad193 = ad263 := (by injection e263)
                have qi263 : (0 < t189.length) = True := eq_true (by omega)
                (try rw [show ((0 : Int)).toNat = 0 from rfl] at hx263_0)
                (try rw [Addr.add_zero'] at hx263_0)
                replace p263 := eq_true p263
                replace q263 := eq_true q263
                have p264 : 0 ≤ (1 : Int) := (by omega)
                have q264 : 1 < (t189.length : Int) := of_decide_eq_true (by first | (with_reducible assumption) | assumption)
                obtain ⟨ad264, e264, hx264_0⟩ := Kd.at_int (Kd.R_reads' HO_6.out).2.2 1 p264 q264
                obtain rfl : ad193 = ad264 := (by injection e264)
                (try simp only [show (1 : Int).toNat = 1 from rfl, Nat.reduceMul, Nat.reduceEqDiff, Go.Addr.add, ↓reduceIte] at hx264_0)
                have qi264 : (1 < t189.length) = True := eq_true (by omega)
                (try rw [show ((1 : Int)).toNat = 1 from rfl] at hx264_0)
                replace p264 := eq_true p264
                replace q264 := eq_true q264
                have p265 : 0 ≤ (0 : Int) := (by omega)
                have q265 : 0 < (t189.length : Int) := of_decide_eq_true (by first | (with_reducible assumption) | assumption)
                obtain ⟨ad265, e265, hx265_0⟩ := Kd.at_int (Kd.R_reads' HO_6.out).2.2 0 p265 q265
                obtain rfl : ad193 = ad265 := (by injection e265)
                have qi265 : (0 < t189.length) = True := eq_true (by omega)
                (try rw [show ((0 : Int)).toNat = 0 from rfl] at hx265_0)
                (try rw [Addr.add_zero'] at hx265_0)
                replace p265 := eq_true p265
                replace q265 := eq_true q265
                have p266 : 0 ≤ (1 : Int) := (by omega)
                have q266 : 1 < (t189.length : Int) := of_decide_eq_true (by first | (with_reducible assumption) | assumption)
                obtain ⟨ad266, e266, hx266_0⟩ := Kd.at_int (Kd.R_reads' HO_6.out).2.2 1 p266 q266
                obtain rfl : ad193 = ad266 := (by injection e266)
                (try simp only [show (1 : Int).toNat = 1 from rfl, Nat.reduceMul, Nat.reduceEqDiff, Go.Addr.add, ↓reduceIte] at hx266_0)
                have qi266 : (1 < t189.length) = True := eq_true (by omega)
                (try rw [show ((1 : Int)).toNat = 1 from rfl] at hx266_0)
                replace p266 := eq_true p266
                replace q266 := eq_true q266
                go_wp2
                repeat (go_quiet (fail); try go_wp2)
                go_ret
                exact ⟨by first | rfl | (simp [errW_none, errW_some] <;> rfl) | (simp only [← hji66, ← hji68]; first | rfl | (simp [errW_none, errW_some] <;> rfl)) | (simp [*, errW_none, errW_some] <;> rfl), by repeat (first | (with_reducible first | exact HB.out | apply below_alloc | apply pw_below_drewN | apply below_drew1) | exact HB.out)⟩
              ·rw [if_neg c98] at H
               have c98b0 : decide ((wrap64 ((rd t189 0) + (rd t189 1))) ≤ (wrap64 ((wrap64 (2 * (ji68))) - 1))) = false := decide_eq_false c98
               clear c98
               by_cases c101 : (wrap64 ((rd t189 0) + (rd t189 1))) > (wrap64 ((wrap64 (2 * (ji68))) - 1))
               rotate_left
               ·exact (ways_FnOps.z4 c98b0 c101).elim
               rw [if_pos c101] at H
               have c101b0 : decide ((wrap64 ((wrap64 (2 * (ji68))) - 1)) < (wrap64 ((rd t189 0) + (rd t189 1)))) = true := decide_eq_true c101
               clear c101
               obtain rfl := Option.some.inj H
               have p263 : 0 ≤ (0 : Int) := (by omega)
               have q263 : 0 < (t189.length : Int) := of_decide_eq_true (by first | (with_reducible assumption) | assumption)
               obtain ⟨ad263, e263, hx263_0⟩ := Kd.at_int (Kd.R_reads' HO_6.out).2.2 0 p263 q263
               obtain rfl : ad193 = ad263 := (by injection e263)
               have qi263 : (0 < t189.length) = True := eq_true (by omega)
               (try rw [show ((0 : Int)).toNat = 0 from rfl] at hx263_0)
               (try rw [Addr.add_zero'] at hx263_0)
               replace p263 := eq_true p263
               replace q263 := eq_true q263
               have p264 : 0 ≤ (1 : Int) := (by omega)
               have q264 : 1 < (t189.length : Int) := of_decide_eq_true (by first | (with_reducible assumption) | assumption)
               obtain ⟨ad264, e264, hx264_0⟩ := Kd.at_int (Kd.R_reads' HO_6.out).2.2 1 p264 q264
               obtain rfl : ad193 = ad264 := (by injection e264)
               (try simp only [show (1 : Int).toNat = 1 from rfl, Nat.reduceMul, Nat.reduceEqDiff, Go.Addr.add, ↓reduceIte] at hx264_0)
               have qi264 : (1 < t189.length) = True := eq_true (by omega)
               (try rw [show ((1 : Int)).toNat = 1 from rfl] at hx264_0)
               replace p264 := eq_true p264
               replace q264 := eq_true q264
               have p267 : 0 ≤ (0 : Int) := (by omega)
               have q267 : 0 < (t189.length : Int) := of_decide_eq_true (by first | (with_reducible assumption) | assumption)
               obtain ⟨ad267, e267, hx267_0⟩ := Kd.at_int (Kd.R_reads' HO_6.out).2.2 0 p267 q267
               obtain rfl : ad193 = ad267 := (by injection e267)
               have qi267 : (0 < t189.length) = True := eq_true (by omega)
               (try rw [show ((0 : Int)).toNat = 0 from rfl] at hx267_0)
               (try rw [Addr.add_zero'] at hx267_0)
               replace p267 := eq_true p267
               replace q267 := eq_true q267
               have p268 : 0 ≤ (1 : Int) := (by omega)
               have q268 : 1 < (t189.length : Int) := of_decide_eq_true (by first | (with_reducible assumption) | assumption)
               obtain ⟨ad268, e268, hx268_0⟩ := Kd.at_int (Kd.R_reads' HO_6.out).2.2 1 p268 q268
               obtain rfl : ad193 = ad268 := (by injection e268)
               (try simp only [show (1 : Int).toNat = 1 from rfl, Nat.reduceMul, Nat.reduceEqDiff, Go.Addr.add, ↓reduceIte] at hx268_0)
               have qi268 : (1 < t189.length) = True := eq_true (by omega)
               (try rw [show ((1 : Int)).toNat = 1 from rfl] at hx268_0)
               replace p268 := eq_true p268
               replace q268 := eq_true q268
               go_wp2
               repeat (go_quiet (fail); try go_wp2)
               go_ret
               exact ⟨by first | rfl | (simp [errW_none, errW_some] <;> rfl) | (simp only [← hji66, ← hji68]; first | rfl | (simp [errW_none, errW_some] <;> rfl)) | (simp [*, errW_none, errW_some] <;> rfl), by repeat (first | (with_reducible first | exact HB.out | apply below_alloc | apply pw_below_drewN | apply below_drew1) | exact HB.out)⟩
           ·rw [if_neg c70] at H
            have c70b0 : decide ((wrap64 (t235 + t238)) < (ji68)) = false := decide_eq_false c70
            clear c70
            by_cases c102 : (wrap64 (t235 + t238)) ≥ (ji68)
            ·rw [if_pos c102] at H
             have c102b0 : decide ((ji68) ≤ (wrap64 (t235 + t238))) = true := decide_eq_true c102
             clear c102
             by_cases c103 : t240 = (wrap64 ((ji68) - 1))
             rotate_left
             ·rw [if_neg c103] at H
              have c103b0 : (t240 == (wrap64 ((ji68) - 1))) = false := beq_eq_false_iff_ne.mpr c103
              have c103b1 : (t240 != (wrap64 ((ji68) - 1))) = true := bne_iff_ne.mpr c103
              obtain rfl := Option.some.inj H
              exact absurd HRT.out (by decide)
             rw [if_pos c103] at H
             have c103b0 : (t240 == (wrap64 ((ji68) - 1))) = true := beq_iff_eq.mpr c103
             have c103b1 : (t240 != (wrap64 ((ji68) - 1))) = false := bne_eq_false_iff_eq.mpr c103
             clear c103
             by_cases c104 : (wrap64 (t235 + t238)) < (wrap64 (-(ji68)))
             ·exact (ways_FnOps.z3 c69b0 c104).elim
             ·rw [if_neg c104] at H
              have c104b0 : decide ((wrap64 (t235 + t238)) < (wrap64 (-(ji68)))) = false := decide_eq_false c104
              clear c104
              by_cases c112 : 0 < (t189.length : Int)
              rotate_left
              ·rw [if_neg c112] at H
               exact absurd H (by simp)
              rw [if_pos c112] at H
              have c112b0 : decide (0 < (t189.length : Int)) = true := decide_eq_true c112
              have c112b1 : decide (0 < t189.length) = true := decide_eq_true (by omega)
              clear c112
              by_cases c113 : 1 < (t189.length : Int)
              rotate_left
              ·rw [if_neg c113] at H
               exact absurd H (by simp)
              rw [if_pos c113] at H
              have c113b0 : decide (1 < (t189.length : Int)) = true := decide_eq_true c113
              have c113b1 : decide (1 < t189.length) = true := decide_eq_true (by omega)
              clear c113
              by_cases c114 : (wrap64 ((rd t189 0) + (rd t189 1))) ≤ (wrap64 ((wrap64 (2 * (ji68))) - 1))
              ·rw [if_pos c114] at H
               have c114b0 : decide ((wrap64 ((rd t189 0) + (rd t189 1))) ≤ (wrap64 ((wrap64 (2 * (ji68))) - 1))) = true := decide_eq_true c114
               clear c114
               by_cases c115 : t228 = t221
               ·rw [if_pos c115] at H
                have c115b0 : (t228 == t221) = true := beq_iff_eq.mpr c115
                have c115b1 : (t228 != t221) = false := bne_eq_false_iff_eq.mpr c115
                clear c115
                obtain rfl := Option.some.inj H
                have p275 : 0 ≤ (0 : Int) := (by omega)
                have q275 : 0 < (t189.length : Int) := of_decide_eq_true (by first | (with_reducible assumption) | assumption)
                obtain ⟨ad275, e275, hx275_0⟩ := Kd.at_int (Kd.R_reads' HO_6.out).2.2 0 p275 q275
                obtain rfl : ad193 = ad275 := (by injection e275)
                have qi275 : (0 < t189.length) = True := eq_true (by omega)
                (try rw [show ((0 : Int)).toNat = 0 from rfl] at hx275_0)
                (try rw [Addr.add_zero'] at hx275_0)
                replace p275 := eq_true p275
                replace q275 := eq_true q275
                have p276 : 0 ≤ (1 : Int) := (by omega)
                have q276 : 1 < (t189.length : Int) := of_decide_eq_true (by first | (with_reducible assumption) | assumption)
                obtain ⟨ad276, e276, hx276_0⟩ := Kd.at_int (Kd.R_reads' HO_6.out).2.2 1 p276 q276
                obtain rfl : ad193 = ad276 := (by injection e276)
                (try simp only [show (1 : Int).toNat = 1 from rfl, Nat.reduceMul, Nat.reduceEqDiff, Go.Addr.add, ↓reduceIte] at hx276_0)
                have qi276 : (1 < t189.length) = True := eq_true (by omega)
                (try rw [show ((1 : Int)).toNat = 1 from rfl] at hx276_0)
                replace p276 := eq_true p276
                replace q276 := eq_true q276
                go_wp2
                repeat (go_quiet (fail); try go_wp2)
                go_ret
                exact ⟨by first | rfl | (simp [errW_none, errW_some] <;> rfl) | (simp only [← hji66, ← hji68]; first | rfl | (simp [errW_none, errW_some] <;> rfl)) | (simp [*, errW_none, errW_some] <;> rfl), by repeat (first | (with_reducible first | exact HB.out | apply below_alloc | apply pw_below_drewN | apply below_drew1) | exact HB.out)⟩
               ·rw [if_neg c115] at H
                have c115b0 : (t228 == t221) = false := beq_eq_false_iff_ne.mpr c115
                have c115b1 : (t228 != t221) = true := bne_iff_ne.mpr c115
                by_cases c116 : (wrap64 ((rd t189 0) + (rd t189 1))) > (wrap64 ((wrap64 (2 * (ji68))) - 1))
                rotate_left
                ·rw [if_neg c116] at H
                 have c116b0 : decide ((wrap64 ((wrap64 (2 * (ji68))) - 1)) < (wrap64 ((rd t189 0) + (rd t189 1)))) = false := decide_eq_false c116
                 clear c116
                 obtain rfl := Option.some.inj H
                 exact absurd HRT.out (by decide)
                rw [if_pos c116] at H
                have c116b0 : decide ((wrap64 ((wrap64 (2 * (ji68))) - 1)) < (wrap64 ((rd t189 0) + (rd t189 1)))) = true := decide_eq_true c116
                clear c116
                obtain rfl := Option.some.inj H
                have p275 : 0 ≤ (0 : Int) := (by omega)
                have q275 : 0 < (t189.length : Int) := of_decide_eq_true (by first | (with_reducible assumption) | assumption)
                obtain ⟨ad275, e275, hx275_0⟩ := Kd.at_int (Kd.R_reads' HO_6.out).2.2 0 p275 q275
                obtain rfl : ad193 = ad275 := (by injection e275)
                have qi275 : (0 < t189.length) = True := eq_true (by omega)
                (try rw [show ((0 : Int)).toNat = 0 from rfl] at hx275_0)
                (try rw [Addr.add_zero'] at hx275_0)
                replace p275 := eq_true p275
                replace q275 := eq_true q275
                have p276 : 0 ≤ (1 : Int) := (by omega)
                have q276 : 1 < (t189.length : Int) := of_decide_eq_true (by first | (with_reducible assumption) | assumption)
                obtain ⟨ad276, e276, hx276_0⟩ := Kd.at_int (Kd.R_reads' HO_6.out).2.2 1 p276 q276
                obtain rfl : ad193 = ad276 := (by injection e276)
                (try simp only [show (1 : Int).toNat = 1 from rfl, Nat.reduceMul, Nat.reduceEqDiff, Go.Addr.add, ↓reduceIte] at hx276_0)
                have qi276 : (1 < t189.length) = True := eq_true (by omega)
                (try rw [show ((1 : Int)).toNat = 1 from rfl] at hx276_0)
                replace p276 := eq_true p276
                replace q276 := eq_true q276
                have p277 : 0 ≤ (0 : Int) := (by omega)
                have q277 : 0 < (t189.length : Int) := of_decide_eq_true (by first | (with_reducible assumption) | assumption)
                obtain ⟨ad277, e277, hx277_0⟩ := Kd.at_int (Kd.R_reads' HO_6.out).2.2 0 p277 q277
                obtain rfl : ad193 = ad277 := (by injection e277)
                have qi277 : (0 < t189.length) = True := eq_true (by omega)
                (try rw [show ((0 : Int)).toNat = 0 from rfl] at hx277_0)
                (try rw [Addr.add_zero'] at hx277_0)
                replace p277 := eq_true p277
                replace q277 := eq_true q277
                have p278 : 0 ≤ (1 : Int) := (by omega)
                have q278 : 1 < (t189.length : Int) := of_decide_eq_true (by first | (with_reducible assumption) | assumption)
                obtain ⟨ad278, e278, hx278_0⟩ := Kd.at_int (Kd.R_reads' HO_6.out).2.2 1 p278 q278
                obtain rfl : ad193 = ad278 := (by injection e278)
                (try simp only [show (1 : Int).toNat = 1 from rfl, Nat.reduceMul, Nat.reduceEqDiff, Go.Addr.add, ↓reduceIte] at hx278_0)
                have qi278 : (1 < t189.length) = True := eq_true (by omega)
                (try rw [show ((1 : Int)).toNat = 1 from rfl] at hx278_0)
                replace p278 := eq_true p278
                replace q278 := eq_true q278
                go_wp2
                repeat (go_quiet (fail); try go_wp2)
                go_ret
                exact ⟨by first | rfl | (simp [errW_none, errW_some] <;> rfl) | (simp only [← hji66, ← hji68]; first | rfl | (simp [errW_none, errW_some] <;> rfl)) | (simp [*, errW_none, errW_some] <;> rfl), by repeat (first | (with_reducible first | exact HB.out | apply below_alloc | apply pw_below_drewN | apply below_drew1) | exact HB.out)⟩
              ·rw [if_neg c114] at H
               have c114b0 : decide ((wrap64 ((rd t189 0) + (rd t189 1))) ≤ (wrap64 ((wrap64 (2 * (ji68))) - 1))) = false := decide_eq_false c114
               clear c114
               by_cases c117 : (wrap64 ((rd t189 0) + (rd t189 1))) > (wrap64 ((wrap64 (2 * (ji68))) - 1))
               rotate_left
               ·exact (ways_FnOps.z4 c114b0 c117).elim
               rw [if_pos c117] at H
               have c117b0 : decide ((wrap64 ((wrap64 (2 * (ji68))) - 1)) < (wrap64 ((rd t189 0) + (rd t189 1)))) = true := decide_eq_true c117
               clear c117
               obtain rfl := Option.some.inj H
               have p275 : 0 ≤ (0 : Int) := (by omega)
               have q275 : 0 < (t189.length : Int) := of_decide_eq_true (by first | (with_reducible assumption) | assumption)
               obtain ⟨ad275, e275, hx275_0⟩ := Kd.at_int (Kd.R_reads' HO_6.out).2.2 0 p275 q275
               obtain rfl : ad193 = ad275 := (by injection e275)
               have qi275 : (0 < t189.length) = True := eq_true (by omega)
               (try rw [show ((0 : Int)).toNat = 0 from rfl] at hx275_0)
               (try rw [Addr.add_zero'] at hx275_0)
               replace p275 := eq_true p275
               replace q275 := eq_true q275
               have p276 : 0 ≤ (1 : Int) := (by omega)
               have q276 : 1 < (t189.length : Int) := of_decide_eq_true (by first | (with_reducible assumption) | assumption)
               obtain ⟨ad276, e276, hx276_0⟩ := Kd.at_int (Kd.R_reads' HO_6.out).2.2 1 p276 q276
               obtain rfl : ad193 = ad276 := (by injection e276)
               (try simp only [show (1 : Int).toNat = 1 from rfl, Nat.reduceMul, Nat.reduceEqDiff, Go.Addr.add, ↓reduceIte] at hx276_0)
               have qi276 : (1 < t189.length) = True := eq_true (by omega)
               (try rw [show ((1 : Int)).toNat = 1 from rfl] at hx276_0)
               replace p276 := eq_true p276
               replace q276 := eq_true q276
               have p279 : 0 ≤ (0 : Int) := (by omega)
               have q279 : 0 < (t189.length : Int) := of_decide_eq_true (by first | (with_reducible assumption) | assumption)
               obtain ⟨ad279, e279, hx279_0⟩ := Kd.at_int (Kd.R_reads' HO_6.out).2.2 0 p279 q279
               obtain rfl : ad193 = ad279 := (by injection e279)
               have qi279 : (0 < t189.length) = True := eq_true (by omega)
               (try rw [show ((0 : Int)).toNat = 0 from rfl] at hx279_0)
               (try rw [Addr.add_zero'] at hx279_0)
               replace p279 := eq_true p279
               replace q279 := eq_true q279
               have p280 : 0 ≤ (1 : Int) := (by omega)
               have q280 : 1 < (t189.length : Int) := of_decide_eq_true (by first | (with_reducible assumption) | assumption)
               obtain ⟨ad280, e280, hx280_0⟩ := Kd.at_int (Kd.R_reads' HO_6.out).2.2 1 p280 q280
               obtain rfl : ad193 = ad280 := (by injection e280)
               (try simp only [show (1 : Int).toNat = 1 from rfl, Nat.reduceMul, Nat.reduceEqDiff, Go.Addr.add, ↓reduceIte] at hx280_0)
               have qi280 : (1 < t189.length) = True := eq_true (by omega)
               (try rw [show ((1 : Int)).toNat = 1 from rfl] at hx280_0)
               replace p280 := eq_true p280
               replace q280 := eq_true q280
               go_wp2
               repeat (go_quiet (fail); try go_wp2)
               go_ret
               exact ⟨by first | rfl | (simp [errW_none, errW_some] <;> rfl) | (simp only [← hji66, ← hji68]; first | rfl | (simp [errW_none, errW_some] <;> rfl)) | (simp [*, errW_none, errW_some] <;> rfl), by repeat (first | (with_reducible first | exact HB.out | apply below_alloc | apply pw_below_drewN | apply below_drew1) | exact HB.out)⟩
            ·exact (ways_FnOps.z2 c70b0 c102).elim
          ·rw [if_neg c69] at H
           have c69b0 : decide ((wrap64 (-(ji68))) ≤ (wrap64 (t235 + t238))) = false := decide_eq_false c69
           clear c69
           by_cases c132 : (wrap64 (t235 + t238)) ≥ (ji68)
           ·rw [if_pos c132] at H
            have c132b0 : decide ((ji68) ≤ (wrap64 (t235 + t238))) = true := decide_eq_true c132
            clear c132
            by_cases c133 : t240 = (wrap64 ((ji68) - 1))
            rotate_left
            ·rw [if_neg c133] at H
             have c133b0 : (t240 == (wrap64 ((ji68) - 1))) = false := beq_eq_false_iff_ne.mpr c133
             have c133b1 : (t240 != (wrap64 ((ji68) - 1))) = true := bne_iff_ne.mpr c133
             obtain rfl := Option.some.inj H
             exact absurd HRT.out (by decide)
            rw [if_pos c133] at H
            have c133b0 : (t240 == (wrap64 ((ji68) - 1))) = true := beq_iff_eq.mpr c133
            have c133b1 : (t240 != (wrap64 ((ji68) - 1))) = false := bne_eq_false_iff_eq.mpr c133
            clear c133
            by_cases c134 : (wrap64 (t235 + t238)) < (wrap64 (-(ji68)))
            ·rw [if_pos c134] at H
             have c134b0 : decide ((wrap64 (t235 + t238)) < (wrap64 (-(ji68)))) = true := decide_eq_true c134
             clear c134
             by_cases c135 : t240 = (wrap64 (-(ji68)))
             rotate_left
             ·rw [if_neg c135] at H
              have c135b0 : (t240 == (wrap64 (-(ji68)))) = false := beq_eq_false_iff_ne.mpr c135
              have c135b1 : (t240 != (wrap64 (-(ji68)))) = true := bne_iff_ne.mpr c135
              obtain rfl := Option.some.inj H
              exact absurd HRT.out (by decide)
             rw [if_pos c135] at H
             have c135b0 : (t240 == (wrap64 (-(ji68)))) = true := beq_iff_eq.mpr c135
             have c135b1 : (t240 != (wrap64 (-(ji68)))) = false := bne_eq_false_iff_eq.mpr c135
             clear c135
             by_cases c136 : 0 < (t189.length : Int)
             rotate_left
             ·rw [if_neg c136] at H
              exact absurd H (by simp)
             rw [if_pos c136] at H
             have c136b0 : decide (0 < (t189.length : Int)) = true := decide_eq_true c136
             have c136b1 : decide (0 < t189.length) = true := decide_eq_true (by omega)
             clear c136
             by_cases c137 : 1 < (t189.length : Int)
             rotate_left
             ·rw [if_neg c137] at H
              exact absurd H (by simp)
             rw [if_pos c137] at H
             have c137b0 : decide (1 < (t189.length : Int)) = true := decide_eq_true c137
             have c137b1 : decide (1 < t189.length) = true := decide_eq_true (by omega)
             clear c137
             by_cases c138 : (wrap64 ((rd t189 0) + (rd t189 1))) ≤ (wrap64 ((wrap64 (2 * (ji68))) - 1))
             ·rw [if_pos c138] at H
              have c138b0 : decide ((wrap64 ((rd t189 0) + (rd t189 1))) ≤ (wrap64 ((wrap64 (2 * (ji68))) - 1))) = true := decide_eq_true c138
              clear c138
              by_cases c139 : t228 = t221
              ·rw [if_pos c139] at H
               have c139b0 : (t228 == t221) = true := beq_iff_eq.mpr c139
               have c139b1 : (t228 != t221) = false := bne_eq_false_iff_eq.mpr c139
               clear c139
               obtain rfl := Option.some.inj H
               have p293 : 0 ≤ (0 : Int) := (by omega)
               have q293 : 0 < (t189.length : Int) := of_decide_eq_true (by first | (with_reducible assumption) | assumption)
               obtain ⟨ad293, e293, hx293_0⟩ := Kd.at_int (Kd.R_reads' HO_6.out).2.2 0 p293 q293
               obtain rfl : ad193 = ad293 := (by injection e293)
               have qi293 : (0 < t189.length) = True := eq_true (by omega)
               (try rw [show ((0 : Int)).toNat = 0 from rfl] at hx293_0)
               (try rw [Addr.add_zero'] at hx293_0)
               replace p293 := eq_true p293
               replace q293 := eq_true q293
               have p294 : 0 ≤ (1 : Int) := (by omega)
               have q294 : 1 < (t189.length : Int) := of_decide_eq_true (by first | (with_reducible assumption) | assumption)
               obtain ⟨ad294, e294, hx294_0⟩ := Kd.at_int (Kd.R_reads' HO_6.out).2.2 1 p294 q294
               obtain rfl : ad193 = ad294 := (by injection e294)
               (try simp only [show (1 : Int).toNat = 1 from rfl, Nat.reduceMul, Nat.reduceEqDiff, Go.Addr.add, ↓reduceIte] at hx294_0)
               have qi294 : (1 < t189.length) = True := eq_true (by omega)
               (try rw [show ((1 : Int)).toNat = 1 from rfl] at hx294_0)
               replace p294 := eq_true p294
               replace q294 := eq_true q294
               go_wp2
               repeat (go_quiet (fail); try go_wp2)
               go_ret
               exact ⟨by first | rfl | (simp [errW_none, errW_some] <;> rfl) | (simp only [← hji66, ← hji68]; first | rfl | (simp [errW_none, errW_some] <;> rfl)) | (simp [*, errW_none, errW_some] <;> rfl), by repeat (first | (with_reducible first | exact HB.out | apply below_alloc | apply pw_below_drewN | apply below_drew1) | exact HB.out)⟩
              ·rw [if_neg c139] at H
               have c139b0 : (t228 == t221) = false := beq_eq_false_iff_ne.mpr c139
               have c139b1 : (t228 != t221) = true := bne_iff_ne.mpr c139
               by_cases c140 : (wrap64 ((rd t189 0) + (rd t189 1))) > (wrap64 ((wrap64 (2 * (ji68))) - 1))
               rotate_left
               ·rw [if_neg c140] at H
                have c140b0 : decide ((wrap64 ((wrap64 (2 * (ji68))) - 1)) < (wrap64 ((rd t189 0) + (rd t189 1)))) = false := decide_eq_false c140
                clear c140
                obtain rfl := Option.some.inj H
                exact absurd HRT.out (by decide)
               rw [if_pos c140] at H
               have c140b0 : decide ((wrap64 ((wrap64 (2 * (ji68))) - 1)) < (wrap64 ((rd t189 0) + (rd t189 1)))) = true := decide_eq_true c140
               clear c140
               obtain rfl := Option.some.inj H
               have p293 : 0 ≤ (0 : Int) := (by omega)
               have q293 : 0 < (t189.length : Int) := of_decide_eq_true (by first | (with_reducible assumption) | assumption)
               obtain ⟨ad293, e293, hx293_0⟩ := Kd.at_int (Kd.R_reads' HO_6.out).2.2 0 p293 q293
               obtain rfl : ad193 = ad293 := (by injection e293)
               have qi293 : (0 < t189.length) = True := eq_true (by omega)
               (try rw [show ((0 : Int)).toNat = 0 from rfl] at hx293_0)
               (try rw [Addr.add_zero'] at hx293_0)
               replace p293 := eq_true p293
               replace q293 := eq_true q293
               have p294 : 0 ≤ (1 : Int) := (by omega)
               have q294 : 1 < (t189.length : Int) := of_decide_eq_true (by first | (with_reducible assumption) | assumption)
               obtain ⟨ad294, e294, hx294_0⟩ := Kd.at_int (Kd.R_reads' HO_6.out).2.2 1 p294 q294
               obtain rfl : ad193 = ad294 := (by injection e294)
               (try simp only [show (1 : Int).toNat = 1 from rfl, Nat.reduceMul, Nat.reduceEqDiff, Go.Addr.add, ↓reduceIte] at hx294_0)
               have qi294 : (1 < t189.length) = True := eq_true (by omega)
               (try rw [show ((1 : Int)).toNat = 1 from rfl] at hx294_0)
               replace p294 := eq_true p294
               replace q294 := eq_true q294
               have p295 : 0 ≤ (0 : Int) := (by omega)
               have q295 : 0 < (t189.length : Int) := of_decide_eq_true (by first | (with_reducible assumption) | assumption)
               obtain ⟨ad295, e295, hx295_0⟩ := Kd.at_int (Kd.R_reads' HO_6.out).2.2 0 p295 q295
               obtain rfl : ad193 = ad295 := (by injection e295)
               have qi295 : (0 < t189.length) = True := eq_true (by omega)
               (try rw [show ((0 : Int)).toNat = 0 from rfl] at hx295_0)
               (try rw [Addr.add_zero'] at hx295_0)
               replace p295 := eq_true p295
               replace q295 := eq_true q295
               have p296 : 0 ≤ (1 : Int) := (by omega)
               have q296 : 1 < (t189.length : Int) := of_decide_eq_true (by first | (with_reducible assumption) | assumption)
               obtain ⟨ad296, e296, hx296_0⟩ := Kd.at_int (Kd.R_reads' HO_6.out).2.2 1 p296 q296
               obtain rfl : ad193 = ad296 := (by injection e296)
               (try simp only [show (1 : Int).toNat = 1 from rfl, Nat.reduceMul, Nat.reduceEqDiff, Go.Addr.add, ↓reduceIte] at hx296_0)
               have qi296 : (1 < t189.length) = True := eq_true (by omega)
               (try rw [show ((1 : Int)).toNat = 1 from rfl] at hx296_0)
               replace p296 := eq_true p296
               replace q296 := eq_true q296
               go_wp2
               repeat (go_quiet (fail); try go_wp2)
               go_ret
               exact ⟨by first | rfl | (simp [errW_none, errW_some] <;> rfl) | (simp only [← hji66, ← hji68]; first | rfl | (simp [errW_none, errW_some] <;> rfl)) | (simp [*, errW_none, errW_some] <;> rfl), by repeat (first | (with_reducible first | exact HB.out | apply below_alloc | apply pw_below_drewN | apply below_drew1) | exact HB.out)⟩
             ·rw [if_neg c138] at H
              have c138b0 : decide ((wrap64 ((rd t189 0) + (rd t189 1))) ≤ (wrap64 ((wrap64 (2 * (ji68))) - 1))) = false := decide_eq_false c138
              clear c138
              by_cases c141 : (wrap64 ((rd t189 0) + (rd t189 1))) > (wrap64 ((wrap64 (2 * (ji68))) - 1))
              rotate_left
              ·exact (ways_FnOps.z4 c138b0 c141).elim
              rw [if_pos c141] at H
              have c141b0 : decide ((wrap64 ((wrap64 (2 * (ji68))) - 1)) < (wrap64 ((rd t189 0) + (rd t189 1)))) = true := decide_eq_true c141
              clear c141
              obtain rfl := Option.some.inj H
              have p293 : 0 ≤ (0 : Int) := (by omega)
              have q293 : 0 < (t189.length : Int) := of_decide_eq_true (by first | (with_reducible assumption) | assumption)
              obtain ⟨ad293, e293, hx293_0⟩ := Kd.at_int (Kd.R_reads' HO_6.out).2.2 0 p293 q293
              obtain rfl : ad193 = ad293 := (by injection e293)
              have qi293 : (0 < t189.length) = True := eq_true (by omega)
              (try rw [show ((0 : Int)).toNat = 0 from rfl] at hx293_0)
              (try rw [Addr.add_zero'] at hx293_0)
              replace p293 := eq_true p293
              replace q293 := eq_true q293
              have p294 : 0 ≤ (1 : Int) := (by omega)
              have q294 : 1 < (t189.length : Int) := of_decide_eq_true (by first | (with_reducible assumption) | assumption)
              obtain ⟨ad294, e294, hx294_0⟩ := Kd.at_int (Kd.R_reads' HO_6.out).2.2 1 p294 q294
              obtain rfl : ad193 = ad294 := (by injection e294)
              (try simp only [show (1 : Int).toNat = 1 from rfl, Nat.reduceMul, Nat.reduceEqDiff, Go.Addr.add, ↓reduceIte] at hx294_0)
              have qi294 : (1 < t189.length) = True := eq_true (by omega)
              (try rw [show ((1 : Int)).toNat = 1 from rfl] at hx294_0)
              replace p294 := eq_true p294
              replace q294 := eq_true q294
              have p297 : 0 ≤ (0 : Int) := (by omega)
              have q297 : 0 < (t189.length : Int) := of_decide_eq_true (by first | (with_reducible assumption) | assumption)
              obtain ⟨ad297, e297, hx297_0⟩ := Kd.at_int (Kd.R_reads' HO_6.out).2.2 0 p297 q297
              obtain rfl : ad193 = ad297 := (by injection e297)
              have qi297 : (0 < t189.length) = True := eq_true (by omega)
              (try rw [show ((0 : Int)).toNat = 0 from rfl] at hx297_0)
              (try rw [Addr.add_zero'] at hx297_0)
              replace p297 := eq_true p297
              replace q297 := eq_true q297
              have p298 : 0 ≤ (1 : Int) := (by omega)
              have q298 : 1 < (t189.length : Int) := of_decide_eq_true (by first | (with_reducible assumption) | assumption)
              obtain ⟨ad298, e298, hx298_0⟩ := Kd.at_int (Kd.R_reads' HO_6.out).2.2 1 p298 q298
              obtain rfl : ad193 = ad298 := (by injection e298)
              (try simp only [show (1 : Int).toNat = 1 from rfl, Nat.reduceMul, Nat.reduceEqDiff, Go.Addr.add, ↓reduceIte] at hx298_0)
              have qi298 : (1 < t189.length) = True := eq_true (by omega)
              (try rw [show ((1 : Int)).toNat = 1 from rfl] at hx298_0)
              replace p298 := eq_true p298
              replace q298 := eq_true q298
              go_wp2
              repeat (go_quiet (fail); try go_wp2)
              go_ret
              exact ⟨by first | rfl | (simp [errW_none, errW_some] <;> rfl) | (simp only [← hji66, ← hji68]; first | rfl | (simp [errW_none, errW_some] <;> rfl)) | (simp [*, errW_none, errW_some] <;> rfl), by repeat (first | (with_reducible first | exact HB.out | apply below_alloc | apply pw_below_drewN | apply below_drew1) | exact HB.out)⟩
            ·exact (ways_FnOps.z4 c69b0 c134).elim
           ·rw [if_neg c132] at H
            have c132b0 : decide ((ji68) ≤ (wrap64 (t235 + t238))) = false := decide_eq_false c132
            clear c132
            by_cases c148 : (wrap64 (t235 + t238)) < (wrap64 (-(ji68)))
            ·rw [if_pos c148] at H
             have c148b0 : decide ((wrap64 (t235 + t238)) < (wrap64 (-(ji68)))) = true := decide_eq_true c148
             clear c148
             by_cases c149 : t240 = (wrap64 (-(ji68)))
             rotate_left
             ·rw [if_neg c149] at H
              have c149b0 : (t240 == (wrap64 (-(ji68)))) = false := beq_eq_false_iff_ne.mpr c149
              have c149b1 : (t240 != (wrap64 (-(ji68)))) = true := bne_iff_ne.mpr c149
              obtain rfl := Option.some.inj H
              exact absurd HRT.out (by decide)
             rw [if_pos c149] at H
             have c149b0 : (t240 == (wrap64 (-(ji68)))) = true := beq_iff_eq.mpr c149
             have c149b1 : (t240 != (wrap64 (-(ji68)))) = false := bne_eq_false_iff_eq.mpr c149
             clear c149
             by_cases c150 : 0 < (t189.length : Int)
             rotate_left
             ·rw [if_neg c150] at H
              exact absurd H (by simp)
             rw [if_pos c150] at H
             have c150b0 : decide (0 < (t189.length : Int)) = true := decide_eq_true c150
             have c150b1 : decide (0 < t189.length) = true := decide_eq_true (by omega)
             clear c150
             by_cases c151 : 1 < (t189.length : Int)
             rotate_left
             ·rw [if_neg c151] at H
              exact absurd H (by simp)
             rw [if_pos c151] at H
             have c151b0 : decide (1 < (t189.length : Int)) = true := decide_eq_true c151
             have c151b1 : decide (1 < t189.length) = true := decide_eq_true (by omega)
             clear c151
             by_cases c152 : (wrap64 ((rd t189 0) + (rd t189 1))) ≤ (wrap64 ((wrap64 (2 * (ji68))) - 1))
             ·rw [if_pos c152] at H
              have c152b0 : decide ((wrap64 ((rd t189 0) + (rd t189 1))) ≤ (wrap64 ((wrap64 (2 * (ji68))) - 1))) = true := decide_eq_true c152
              clear c152
              by_cases c153 : t228 = t221
              ·rw [if_pos c153] at H
               have c153b0 : (t228 == t221) = true := beq_iff_eq.mpr c153
               have c153b1 : (t228 != t221) = false := bne_eq_false_iff_eq.mpr c153
               clear c153
               obtain rfl := Option.some.inj H
               have p305 : 0 ≤ (0 : Int) := (by omega)
               have q305 : 0 < (t189.length : Int) := of_decide_eq_true (by first | (with_reducible assumption) | assumption)
               obtain ⟨ad305, e305, hx305_0⟩ := Kd.at_int (Kd.R_reads' HO_6.out).2.2 0 p305 q305
               obtain rfl : ad193 = ad305 := (by injection e305)
               have qi305 : (0 < t189.length) = True := eq_true (by omega)
               (try rw [show ((0 : Int)).toNat = 0 from rfl] at hx305_0)
               (try rw [Addr.add_zero'] at hx305_0)
               replace p305 := eq_true p305
               replace q305 := eq_true q305
               have p306 : 0 ≤ (1 : Int) := (by omega)
               have q306 : 1 < (t189.length : Int) := of_decide_eq_true (by first | (with_reducible assumption) | assumption)
               obtain ⟨ad306, e306, hx306_0⟩ := Kd.at_int (Kd.R_reads' HO_6.out).2.2 1 p306 q306
               obtain rfl : ad193 = ad306 := (by injection e306)
               (try simp only [show (1 : Int).toNat = 1 from rfl, Nat.reduceMul, Nat.reduceEqDiff, Go.Addr.add, ↓reduceIte] at hx306_0)
               have qi306 : (1 < t189.length) = True := eq_true (by omega)
               (try rw [show ((1 : Int)).toNat = 1 from rfl] at hx306_0)
               replace p306 := eq_true p306
               replace q306 := eq_true q306
               go_wp2
               repeat (go_quiet (fail); try go_wp2)
               go_ret
               exact ⟨by first | rfl | (simp [errW_none, errW_some] <;> rfl) | (simp only [← hji66, ← hji68]; first | rfl | (simp [errW_none, errW_some] <;> rfl)) | (simp [*, errW_none, errW_some] <;> rfl), by repeat (first | (with_reducible first | exact HB.out | apply below_alloc | apply pw_below_drewN | apply below_drew1) | exact HB.out)⟩
              ·rw [if_neg c153] at H
               have c153b0 : (t228 == t221) = false := beq_eq_false_iff_ne.mpr c153
               have c153b1 : (t228 != t221) = true := bne_iff_ne.mpr c153
               by_cases c154 : (wrap64 ((rd t189 0) + (rd t189 1))) > (wrap64 ((wrap64 (2 * (ji68))) - 1))
               rotate_left
               ·rw [if_neg c154] at H
                have c154b0 : decide ((wrap64 ((wrap64 (2 * (ji68))) - 1)) < (wrap64 ((rd t189 0) + (rd t189 1)))) = false := decide_eq_false c154
                clear c154
                obtain rfl := Option.some.inj H
                exact absurd HRT.out (by decide)
               rw [if_pos c154] at H
               have c154b0 : decide ((wrap64 ((wrap64 (2 * (ji68))) - 1)) < (wrap64 ((rd t189 0) + (rd t189 1)))) = true := decide_eq_true c154
               clear c154
               obtain rfl := Option.some.inj H
               have p305 : 0 ≤ (0 : Int) := (by omega)
               have q305 : 0 < (t189.length : Int) := of_decide_eq_true (by first | (with_reducible assumption) | assumption)
               obtain ⟨ad305, e305, hx305_0⟩ := Kd.at_int (Kd.R_reads' HO_6.out).2.2 0 p305 q305
               obtain rfl : ad193 = ad305 := (by injection e305)
               have qi305 : (0 < t189.length) = True := eq_true (by omega)
               (try rw [show ((0 : Int)).toNat = 0 from rfl] at hx305_0)
               (try rw [Addr.add_zero'] at hx305_0)
               replace p305 := eq_true p305
               replace q305 := eq_true q305
               have p306 : 0 ≤ (1 : Int) := (by omega)
               have q306 : 1 < (t189.length : Int) := of_decide_eq_true (by first | (with_reducible assumption) | assumption)
               obtain ⟨ad306, e306, hx306_0⟩ := Kd.at_int (Kd.R_reads' HO_6.out).2.2 1 p306 q306
               obtain rfl : ad193 = ad306 := (by injection e306)
               (try simp only [show (1 : Int).toNat = 1 from rfl, Nat.reduceMul, Nat.reduceEqDiff, Go.Addr.add, ↓reduceIte] at hx306_0)
               have qi306 : (1 < t189.length) = True := eq_true (by omega)
               (try rw [show ((1 : Int)).toNat = 1 from rfl] at hx306_0)
               replace p306 := eq_true p306
               replace q306 := eq_true q306
               have p307 : 0 ≤ (0 : Int) := (by omega)
               have q307 : 0 < (t189.length : Int) := of_decide_eq_true (by first | (with_reducible assumption) | assumption)
               obtain ⟨ad307, e307, hx307_0⟩ := Kd.at_int (Kd.R_reads' HO_6.out).2.2 0 p307 q307
               obtain rfl : ad193 = ad307 := (by injection e307)
               have qi307 : (0 < t189.length) = True := eq_true (by omega)
               (try rw [show ((0 : Int)).toNat = 0 from rfl] at hx307_0)
               (try rw [Addr.add_zero'] at hx307_0)
               replace p307 := eq_true p307
               replace q307 := eq_true q307
               have p308 : 0 ≤ (1 : Int) := (by omega)
               have q308 : 1 < (t189.length : Int) := of_decide_eq_true (by first | (with_reducible assumption) | assumption)
               obtain ⟨ad308, e308, hx308_0⟩ := Kd.at_int (Kd.R_reads' HO_6.out).2.2 1 p308 q308
               obtain rfl : ad193 = ad308 := (by injection e308)
               (try simp only [show (1 : Int).toNat = 1 from rfl, Nat.reduceMul, Nat.reduceEqDiff, Go.Addr.add, ↓reduceIte] at hx308_0)
               have qi308 : (1 < t189.length) = True := eq_true (by omega)
               (try rw [show ((1 : Int)).toNat = 1 from rfl] at hx308_0)
               replace p308 := eq_true p308
               replace q308 := eq_true q308
               go_wp2
               repeat (go_quiet (fail); try go_wp2)
               go_ret
               exact ⟨by first | rfl | (simp [errW_none, errW_some] <;> rfl) | (simp only [← hji66, ← hji68]; first | rfl | (simp [errW_none, errW_some] <;> rfl)) | (simp [*, errW_none, errW_some] <;> rfl), by repeat (first | (with_reducible first | exact HB.out | apply below_alloc | apply pw_below_drewN | apply below_drew1) | exact HB.out)⟩
             ·rw [if_neg c152] at H
              have c152b0 : decide ((wrap64 ((rd t189 0) + (rd t189 1))) ≤ (wrap64 ((wrap64 (2 * (ji68))) - 1))) = false := decide_eq_false c152
              clear c152
              by_cases c155 : (wrap64 ((rd t189 0) + (rd t189 1))) > (wrap64 ((wrap64 (2 * (ji68))) - 1))
              rotate_left
              ·exact (ways_FnOps.z4 c152b0 c155).elim
              rw [if_pos c155] at H
              have c155b0 : decide ((wrap64 ((wrap64 (2 * (ji68))) - 1)) < (wrap64 ((rd t189 0) + (rd t189 1)))) = true := decide_eq_true c155
              clear c155
              obtain rfl := Option.some.inj H
              have p305 : 0 ≤ (0 : Int) := (by omega)
              have q305 : 0 < (t189.length : Int) := of_decide_eq_true (by first | (with_reducible assumption) | assumption)
              obtain ⟨ad305, e305, hx305_0⟩ := Kd.at_int (Kd.R_reads' HO_6.out).2.2 0 p305 q305
              obtain rfl : ad193 = ad305 := (by injection e305)
              have qi305 : (0 < t189.length) = True := eq_true (by omega)
              (try rw [show ((0 : Int)).toNat = 0 from rfl] at hx305_0)
              (try rw [Addr.add_zero'] at hx305_0)
              replace p305 := eq_true p305
              replace q305 := eq_true q305
              have p306 : 0 ≤ (1 : Int) := (by omega)
              have q306 : 1 < (t189.length : Int) := of_decide_eq_true (by first | (with_reducible assumption) | assumption)
              obtain ⟨ad306, e306, hx306_0⟩ := Kd.at_int (Kd.R_reads' HO_6.out).2.2 1 p306 q306
              obtain rfl : ad193 = ad306 := (by injection e306)
              (try simp only [show (1 : Int).toNat = 1 from rfl, Nat.reduceMul, Nat.reduceEqDiff, Go.Addr.add, ↓reduceIte] at hx306_0)
              have qi306 : (1 < t189.length) = True := eq_true (by omega)
              (try rw [show ((1 : Int)).toNat = 1 from rfl] at hx306_0)
              replace p306 := eq_true p306
              replace q306 := eq_true q306
              have p309 : 0 ≤ (0 : Int) := (by omega)
              have q309 : 0 < (t189.length : Int) := of_decide_eq_true (by first | (with_reducible assumption) | assumption)
              obtain ⟨ad309, e309, hx309_0⟩ := Kd.at_int (Kd.R_reads' HO_6.out).2.2 0 p309 q309
              obtain rfl : ad193 = ad309 := (by injection e309)
              have qi309 : (0 < t189.length) = True := eq_true (by omega)
              (try rw [show ((0 : Int)).toNat = 0 from rfl] at hx309_0)
              (try rw [Addr.add_zero'] at hx309_0)
              replace p309 := eq_true p309
              replace q309 := eq_true q309
              have p310 : 0 ≤ (1 : Int) := (by omega)
              have q310 : 1 < (t189.length : Int) := of_decide_eq_true (by first | (with_reducible assumption) | assumption)
              obtain ⟨ad310, e310, hx310_0⟩ := Kd.at_int (Kd.R_reads' HO_6.out).2.2 1 p310 q310
              obtain rfl : ad193 = ad310 := (by injection e310)
              (try simp only [show (1 : Int).toNat = 1 from rfl, Nat.reduceMul, Nat.reduceEqDiff, Go.Addr.add, ↓reduceIte] at hx310_0)
              have qi310 : (1 < t189.length) = True := eq_true (by omega)
              (try rw [show ((1 : Int)).toNat = 1 from rfl] at hx310_0)
              replace p310 := eq_true p310
              replace q310 := eq_true q310
              go_wp2
              repeat (go_quiet (fail); try go_wp2)
              go_ret
              exact ⟨by first | rfl | (simp [errW_none, errW_some] <;> rfl) | (simp only [← hji66, ← hji68]; first | rfl | (simp [errW_none, errW_some] <;> rfl)) | (simp [*, errW_none, errW_some] <;> rfl), by repeat (first | (with_reducible first | exact HB.out | apply below_alloc | apply pw_below_drewN | apply below_drew1) | exact HB.out)⟩
            ·exact (ways_FnOps.z4 c69b0 c148).elim/-- THE ONE PURE STATEMENT of laws_FnOps: yours. -/
def laws_FnOps.Pure : Prop := ∀ (l0 : List Int) (l1 : List Int), l0.length ≤ maxLen → l0.length * 1 ≤ 140737488351232 → (∀ x ∈ l0, (Lit.int .u8 x).wf = true) → l1.length ≤ maxLen → l1.length * 1 ≤ 140737488351232 → (∀ x ∈ l1, (Lit.int .u8 x).wf = true) → ∃ k, laws_FnOps.f k l0 l1 = some true
theorem laws_FnOps.walk (P : laws_FnOps.Pure) (a0 : Option Addr) (len0 cap0 : Nat) (z0 : List Int) (a1 : Option Addr) (len1 cap1 : Nat) (z1 : List Int) (w : World) (w0 : (a0 = none ∧ len0 = 0 ∧ cap0 = 0 ∧ z0 = []) ∨ ∃ x, a0 = some x ∧ len0 ≤ cap0 ∧ cap0 ≤ maxLen ∧ z0.length = cap0 ∧ (∀ i, i < z0.length → w.cell? (x.add i) = some (.int .u8 (z0.getD i 0))) ∧ ∀ n ∈ z0, (Lit.int .u8 n).wf = true) (y0 : len0 * 1 ≤ 140737488351232) (w1 : (a1 = none ∧ len1 = 0 ∧ cap1 = 0 ∧ z1 = []) ∨ ∃ x, a1 = some x ∧ len1 ≤ cap1 ∧ cap1 ≤ maxLen ∧ z1.length = cap1 ∧ (∀ i, i < z1.length → w.cell? (x.add i) = some (.int .u8 (z1.getD i 0))) ∧ ∀ n ∈ z1, (Lit.int .u8 n).wf = true) (y1 : len1 * 1 ≤ 140737488351232) :
  Calls Try.prog 12 #[.slice a0 len0 cap0, .slice a1 len1 cap1] w fun e w' => e = .returned (.bool true) ∧ Below w.heap.size w w' := by
 obtain ⟨l0, rfl, hr0, hm0, hw0, hc0⟩ := ReadsInt.ofRowC w0
 obtain ⟨l1, rfl, hr1, hm1, hw1, hc1⟩ := ReadsInt.ofRowC w1
 obtain ⟨k, h⟩ := P l0 l1 hm0 y0 hw0 hm1 y1 hw1
 refine (laws_FnOps.calls k _ _ l0 _ _ l1 true w (Kd.C_of_reads (d := (0 : Int)) (h1 := fun _ => rfl) hr0) hc0 (Kd.C_of_reads (d := (0 : Int)) (h1 := fun _ => rfl) hr1) hc1 h rfl).mono ?_
 rintro e w' ⟨rfl, hd⟩
 exact ⟨rfl, hd⟩

end Go.Proofs.Ytigffehcchhlkaa.K
