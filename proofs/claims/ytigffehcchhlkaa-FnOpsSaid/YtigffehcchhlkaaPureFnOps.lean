/- For all arguments the law FnOps answers true. No condition. -/
import Derived.Test.YtigffehcchhlkaaK4
import Derived.Test.YtigffehcchhlkaaDO
import Derived.Test.YtigffehcchhlkaaVA
namespace Go.Proofs.Ytigffehcchhlkaa.Pure
open Go.RowKit Go.Proofs.Ytigffehcchhlkaa.K Go.Proofs.Ytigffehcchhlkaa.V Go.Proofs.Ytigffehcchhlkaa.Bx Go.Proofs.YtigffehcchhlkaaW.PrintWords Go.Proofs.YtigffehcchhlkaaW.PrintLast
set_option linter.unusedVariables false

theorem op_ok {c b x y : Int} (hc : OpOk c) (hx : Word b x) (hy : Word b y) : impl_DoOp.f c b x y = some (res c b x y, true) := by
  rw [iDoOp]; unfold doOp; rw [if_pos ⟨hc, hx, hy⟩]
theorem sg_ok {b x : Int} (hx : Word b x) : impl_SignedOf.f b x = some (sg b x, true) := by
  rw [iSignedOf]; unfold signedOf; rw [if_pos hx]
theorem word_ok {b x : Int} (hx : Word b x) : impl_IsWord.f b x = some true := by
  rw [iWord, decide_eq_true hx]
theorem wordOf_ok {b n : Int} (hb : Bits b) (hn : isVal n) : impl_WordOf.f b n = some (n % M b, true) := by
  rw [iWordOf]; unfold wordOf; rw [if_pos ⟨hb, hn⟩]
theorem sg_wrap {b y : Int} (hb : Bits b) (h : -(M b / 2) ≤ y ∧ y < M b / 2) : sg b (y % M b) = y := by
  unfold sg
  rcases hb with rfl | rfl | rfl
  · rw [M4] at *; split <;> omega
  · rw [M8] at *; split <;> omega
  · rw [M16] at *; split <;> omega
theorem sg_sum {b x y : Int} (hx : Word b x) (hy : Word b y) : (sg b x + sg b y) % M b = (x + y) % M b := by
  rw [Int.add_emod, sg_mod hx, sg_mod hy]
theorem back_ok {b x y : Int} (hx : Word b x) (hy : Word b y) : ((x + y) % M b - y) % M b = x := by
  have h1 := hx.2
  have h2 := hy.2
  rcases hx.1 with rfl | rfl | rfl
  · rw [M4] at *; omega
  · rw [M8] at *; omega
  · rw [M16] at *; omega
theorem half_pos {b : Int} (hb : Bits b) : 8 ≤ M b / 2 ∧ M b / 2 ≤ 32768 ∧ M b = 2 * (M b / 2) := by rcases hb with rfl | rfl | rfl <;> decide
theorem fo0 (k : Nat) (x5 : Int) (x6 : List Int) (x7 : Int) (x8 : Int) (x12 : Int) (x112 : Bool) : laws_FnOps.j0 (k + 1) x5 x6 x7 x8 x12 x112 = (if x112 = true then (some false) else (if 2 < (x6.length : Int) then ((impl_DoOp.f x7 x5 x8 (rd x6 2)).bind fun bt209 => (if 0 < (x6.length : Int) then ((impl_DoOp.f x7 x5 (rd x6 0) x12).bind fun bt212 => (if bt209.2 = true then (if bt212.2 = true then ((impl_IsAssociative.f x7).bind fun t214 => (if t214 = true then (if bt209.1 = bt212.1 then ((impl_IsAssociative.f x7).bind fun t215 => (if t215 = true then ((impl_IsCommutative.f x7).bind fun t216 => (laws_FnOps.j1 k x5 x6 (!t216))) else (laws_FnOps.j1 k x5 x6 false))) else (laws_FnOps.j1 k x5 x6 true)) else ((impl_IsAssociative.f x7).bind fun t217 => (if t217 = true then ((impl_IsCommutative.f x7).bind fun t218 => (laws_FnOps.j1 k x5 x6 (!t218))) else (laws_FnOps.j1 k x5 x6 false))))) else (laws_FnOps.j1 k x5 x6 true)) else (laws_FnOps.j1 k x5 x6 true))) else (none))) else (none))) := rfl
theorem fo1 (k : Nat) (x5 : Int) (x6 : List Int) (x156 : Bool) : laws_FnOps.j1 (k + 1) x5 x6 x156 = (if x156 = true then (some false) else (if 0 < (x6.length : Int) then (if 1 < (x6.length : Int) then ((impl_DoOp.f 0 x5 (rd x6 0) (rd x6 1)).bind fun bt221 => ((impl_DoOp.f 1 x5 bt221.1 (rd x6 1)).bind fun bt224 => ((impl_DoOp.f 10 x5 (rd x6 0) (rd x6 1)).bind fun bt228 => ((impl_DoOp.f 11 x5 (rd x6 0) (rd x6 1)).bind fun bt232 => ((impl_SignedOf.f x5 (rd x6 0)).bind fun bt235 => ((impl_SignedOf.f x5 (rd x6 1)).bind fun bt238 => ((impl_SignedOf.f x5 bt232.1).bind fun bt240 => ((impl_WordOf.f x5 (wrap64 (bt235.1 + bt238.1))).bind fun bt242 => (if bt221.2 = true then (if bt224.2 = true then (if bt228.2 = true then (if bt232.2 = true then (if bt235.2 = true then (if bt238.2 = true then (if bt240.2 = true then (if bt242.2 = true then (if bt224.1 = (rd x6 0) then (laws_FnOps.j2 k x5 x6 bt221.1 bt228.1 bt232.1 bt235.1 bt238.1 bt240.1 (bt242.1 != bt221.1)) else (laws_FnOps.j2 k x5 x6 bt221.1 bt228.1 bt232.1 bt235.1 bt238.1 bt240.1 true)) else (laws_FnOps.j2 k x5 x6 bt221.1 bt228.1 bt232.1 bt235.1 bt238.1 bt240.1 true)) else (laws_FnOps.j2 k x5 x6 bt221.1 bt228.1 bt232.1 bt235.1 bt238.1 bt240.1 true)) else (laws_FnOps.j2 k x5 x6 bt221.1 bt228.1 bt232.1 bt235.1 bt238.1 bt240.1 true)) else (laws_FnOps.j2 k x5 x6 bt221.1 bt228.1 bt232.1 bt235.1 bt238.1 bt240.1 true)) else (laws_FnOps.j2 k x5 x6 bt221.1 bt228.1 bt232.1 bt235.1 bt238.1 bt240.1 true)) else (laws_FnOps.j2 k x5 x6 bt221.1 bt228.1 bt232.1 bt235.1 bt238.1 bt240.1 true)) else (laws_FnOps.j2 k x5 x6 bt221.1 bt228.1 bt232.1 bt235.1 bt238.1 bt240.1 true)) else (laws_FnOps.j2 k x5 x6 bt221.1 bt228.1 bt232.1 bt235.1 bt238.1 bt240.1 true)))))))))) else (none)) else (none))) := rfl
theorem fo2 (k : Nat) (x5 : Int) (x6 : List Int) (x18 : Int) (x22 : Int) (x24 : Int) (x26 : Int) (x28 : Int) (x30 : Int) (x270 : Bool) : laws_FnOps.j2 (k + 1) x5 x6 x18 x22 x24 x26 x28 x30 x270 = (if x270 = true then (some false) else (if 0 ≤ (IntKind.u64.wrap (wrap64 (x5 - 1))) then (if (wrap64 (x26 + x28)) ≥ (wrap64 (-(shl .i64 1 (IntKind.u64.wrap (wrap64 (x5 - 1)))))) then (if (wrap64 (x26 + x28)) < (shl .i64 1 (IntKind.u64.wrap (wrap64 (x5 - 1)))) then (if x24 = x18 then (if (wrap64 (x26 + x28)) ≥ (shl .i64 1 (IntKind.u64.wrap (wrap64 (x5 - 1)))) then (if x30 = (wrap64 ((shl .i64 1 (IntKind.u64.wrap (wrap64 (x5 - 1)))) - 1)) then (if (wrap64 (x26 + x28)) < (wrap64 (-(shl .i64 1 (IntKind.u64.wrap (wrap64 (x5 - 1)))))) then (if x30 = (wrap64 (-(shl .i64 1 (IntKind.u64.wrap (wrap64 (x5 - 1)))))) then (if 0 < (x6.length : Int) then (if 1 < (x6.length : Int) then (if (wrap64 ((rd x6 0) + (rd x6 1))) ≤ (wrap64 ((wrap64 (2 * (shl .i64 1 (IntKind.u64.wrap (wrap64 (x5 - 1)))))) - 1)) then (if x22 = x18 then (some true) else (if (wrap64 ((rd x6 0) + (rd x6 1))) > (wrap64 ((wrap64 (2 * (shl .i64 1 (IntKind.u64.wrap (wrap64 (x5 - 1)))))) - 1)) then (some (x22 == (wrap64 ((wrap64 (2 * (shl .i64 1 (IntKind.u64.wrap (wrap64 (x5 - 1)))))) - 1)))) else (some false))) else (if (wrap64 ((rd x6 0) + (rd x6 1))) > (wrap64 ((wrap64 (2 * (shl .i64 1 (IntKind.u64.wrap (wrap64 (x5 - 1)))))) - 1)) then (some (x22 == (wrap64 ((wrap64 (2 * (shl .i64 1 (IntKind.u64.wrap (wrap64 (x5 - 1)))))) - 1)))) else (some false))) else (none)) else (none)) else (some false)) else (if 0 < (x6.length : Int) then (if 1 < (x6.length : Int) then (if (wrap64 ((rd x6 0) + (rd x6 1))) ≤ (wrap64 ((wrap64 (2 * (shl .i64 1 (IntKind.u64.wrap (wrap64 (x5 - 1)))))) - 1)) then (if x22 = x18 then (some true) else (if (wrap64 ((rd x6 0) + (rd x6 1))) > (wrap64 ((wrap64 (2 * (shl .i64 1 (IntKind.u64.wrap (wrap64 (x5 - 1)))))) - 1)) then (some (x22 == (wrap64 ((wrap64 (2 * (shl .i64 1 (IntKind.u64.wrap (wrap64 (x5 - 1)))))) - 1)))) else (some false))) else (if (wrap64 ((rd x6 0) + (rd x6 1))) > (wrap64 ((wrap64 (2 * (shl .i64 1 (IntKind.u64.wrap (wrap64 (x5 - 1)))))) - 1)) then (some (x22 == (wrap64 ((wrap64 (2 * (shl .i64 1 (IntKind.u64.wrap (wrap64 (x5 - 1)))))) - 1)))) else (some false))) else (none)) else (none))) else (some false)) else (if (wrap64 (x26 + x28)) < (wrap64 (-(shl .i64 1 (IntKind.u64.wrap (wrap64 (x5 - 1)))))) then (if x30 = (wrap64 (-(shl .i64 1 (IntKind.u64.wrap (wrap64 (x5 - 1)))))) then (if 0 < (x6.length : Int) then (if 1 < (x6.length : Int) then (if (wrap64 ((rd x6 0) + (rd x6 1))) ≤ (wrap64 ((wrap64 (2 * (shl .i64 1 (IntKind.u64.wrap (wrap64 (x5 - 1)))))) - 1)) then (if x22 = x18 then (some true) else (if (wrap64 ((rd x6 0) + (rd x6 1))) > (wrap64 ((wrap64 (2 * (shl .i64 1 (IntKind.u64.wrap (wrap64 (x5 - 1)))))) - 1)) then (some (x22 == (wrap64 ((wrap64 (2 * (shl .i64 1 (IntKind.u64.wrap (wrap64 (x5 - 1)))))) - 1)))) else (some false))) else (if (wrap64 ((rd x6 0) + (rd x6 1))) > (wrap64 ((wrap64 (2 * (shl .i64 1 (IntKind.u64.wrap (wrap64 (x5 - 1)))))) - 1)) then (some (x22 == (wrap64 ((wrap64 (2 * (shl .i64 1 (IntKind.u64.wrap (wrap64 (x5 - 1)))))) - 1)))) else (some false))) else (none)) else (none)) else (some false)) else (if 0 < (x6.length : Int) then (if 1 < (x6.length : Int) then (if (wrap64 ((rd x6 0) + (rd x6 1))) ≤ (wrap64 ((wrap64 (2 * (shl .i64 1 (IntKind.u64.wrap (wrap64 (x5 - 1)))))) - 1)) then (if x22 = x18 then (some true) else (if (wrap64 ((rd x6 0) + (rd x6 1))) > (wrap64 ((wrap64 (2 * (shl .i64 1 (IntKind.u64.wrap (wrap64 (x5 - 1)))))) - 1)) then (some (x22 == (wrap64 ((wrap64 (2 * (shl .i64 1 (IntKind.u64.wrap (wrap64 (x5 - 1)))))) - 1)))) else (some false))) else (if (wrap64 ((rd x6 0) + (rd x6 1))) > (wrap64 ((wrap64 (2 * (shl .i64 1 (IntKind.u64.wrap (wrap64 (x5 - 1)))))) - 1)) then (some (x22 == (wrap64 ((wrap64 (2 * (shl .i64 1 (IntKind.u64.wrap (wrap64 (x5 - 1)))))) - 1)))) else (some false))) else (none)) else (none)))) else (some false)) else (if (wrap64 (x26 + x28)) ≥ (shl .i64 1 (IntKind.u64.wrap (wrap64 (x5 - 1)))) then (if x30 = (wrap64 ((shl .i64 1 (IntKind.u64.wrap (wrap64 (x5 - 1)))) - 1)) then (if (wrap64 (x26 + x28)) < (wrap64 (-(shl .i64 1 (IntKind.u64.wrap (wrap64 (x5 - 1)))))) then (if x30 = (wrap64 (-(shl .i64 1 (IntKind.u64.wrap (wrap64 (x5 - 1)))))) then (if 0 < (x6.length : Int) then (if 1 < (x6.length : Int) then (if (wrap64 ((rd x6 0) + (rd x6 1))) ≤ (wrap64 ((wrap64 (2 * (shl .i64 1 (IntKind.u64.wrap (wrap64 (x5 - 1)))))) - 1)) then (if x22 = x18 then (some true) else (if (wrap64 ((rd x6 0) + (rd x6 1))) > (wrap64 ((wrap64 (2 * (shl .i64 1 (IntKind.u64.wrap (wrap64 (x5 - 1)))))) - 1)) then (some (x22 == (wrap64 ((wrap64 (2 * (shl .i64 1 (IntKind.u64.wrap (wrap64 (x5 - 1)))))) - 1)))) else (some false))) else (if (wrap64 ((rd x6 0) + (rd x6 1))) > (wrap64 ((wrap64 (2 * (shl .i64 1 (IntKind.u64.wrap (wrap64 (x5 - 1)))))) - 1)) then (some (x22 == (wrap64 ((wrap64 (2 * (shl .i64 1 (IntKind.u64.wrap (wrap64 (x5 - 1)))))) - 1)))) else (some false))) else (none)) else (none)) else (some false)) else (if 0 < (x6.length : Int) then (if 1 < (x6.length : Int) then (if (wrap64 ((rd x6 0) + (rd x6 1))) ≤ (wrap64 ((wrap64 (2 * (shl .i64 1 (IntKind.u64.wrap (wrap64 (x5 - 1)))))) - 1)) then (if x22 = x18 then (some true) else (if (wrap64 ((rd x6 0) + (rd x6 1))) > (wrap64 ((wrap64 (2 * (shl .i64 1 (IntKind.u64.wrap (wrap64 (x5 - 1)))))) - 1)) then (some (x22 == (wrap64 ((wrap64 (2 * (shl .i64 1 (IntKind.u64.wrap (wrap64 (x5 - 1)))))) - 1)))) else (some false))) else (if (wrap64 ((rd x6 0) + (rd x6 1))) > (wrap64 ((wrap64 (2 * (shl .i64 1 (IntKind.u64.wrap (wrap64 (x5 - 1)))))) - 1)) then (some (x22 == (wrap64 ((wrap64 (2 * (shl .i64 1 (IntKind.u64.wrap (wrap64 (x5 - 1)))))) - 1)))) else (some false))) else (none)) else (none))) else (some false)) else (if (wrap64 (x26 + x28)) < (wrap64 (-(shl .i64 1 (IntKind.u64.wrap (wrap64 (x5 - 1)))))) then (if x30 = (wrap64 (-(shl .i64 1 (IntKind.u64.wrap (wrap64 (x5 - 1)))))) then (if 0 < (x6.length : Int) then (if 1 < (x6.length : Int) then (if (wrap64 ((rd x6 0) + (rd x6 1))) ≤ (wrap64 ((wrap64 (2 * (shl .i64 1 (IntKind.u64.wrap (wrap64 (x5 - 1)))))) - 1)) then (if x22 = x18 then (some true) else (if (wrap64 ((rd x6 0) + (rd x6 1))) > (wrap64 ((wrap64 (2 * (shl .i64 1 (IntKind.u64.wrap (wrap64 (x5 - 1)))))) - 1)) then (some (x22 == (wrap64 ((wrap64 (2 * (shl .i64 1 (IntKind.u64.wrap (wrap64 (x5 - 1)))))) - 1)))) else (some false))) else (if (wrap64 ((rd x6 0) + (rd x6 1))) > (wrap64 ((wrap64 (2 * (shl .i64 1 (IntKind.u64.wrap (wrap64 (x5 - 1)))))) - 1)) then (some (x22 == (wrap64 ((wrap64 (2 * (shl .i64 1 (IntKind.u64.wrap (wrap64 (x5 - 1)))))) - 1)))) else (some false))) else (none)) else (none)) else (some false)) else (if 0 < (x6.length : Int) then (if 1 < (x6.length : Int) then (if (wrap64 ((rd x6 0) + (rd x6 1))) ≤ (wrap64 ((wrap64 (2 * (shl .i64 1 (IntKind.u64.wrap (wrap64 (x5 - 1)))))) - 1)) then (if x22 = x18 then (some true) else (if (wrap64 ((rd x6 0) + (rd x6 1))) > (wrap64 ((wrap64 (2 * (shl .i64 1 (IntKind.u64.wrap (wrap64 (x5 - 1)))))) - 1)) then (some (x22 == (wrap64 ((wrap64 (2 * (shl .i64 1 (IntKind.u64.wrap (wrap64 (x5 - 1)))))) - 1)))) else (some false))) else (if (wrap64 ((rd x6 0) + (rd x6 1))) > (wrap64 ((wrap64 (2 * (shl .i64 1 (IntKind.u64.wrap (wrap64 (x5 - 1)))))) - 1)) then (some (x22 == (wrap64 ((wrap64 (2 * (shl .i64 1 (IntKind.u64.wrap (wrap64 (x5 - 1)))))) - 1)))) else (some false))) else (none)) else (none))))) else (if (wrap64 (x26 + x28)) ≥ (shl .i64 1 (IntKind.u64.wrap (wrap64 (x5 - 1)))) then (if x30 = (wrap64 ((shl .i64 1 (IntKind.u64.wrap (wrap64 (x5 - 1)))) - 1)) then (if (wrap64 (x26 + x28)) < (wrap64 (-(shl .i64 1 (IntKind.u64.wrap (wrap64 (x5 - 1)))))) then (if x30 = (wrap64 (-(shl .i64 1 (IntKind.u64.wrap (wrap64 (x5 - 1)))))) then (if 0 < (x6.length : Int) then (if 1 < (x6.length : Int) then (if (wrap64 ((rd x6 0) + (rd x6 1))) ≤ (wrap64 ((wrap64 (2 * (shl .i64 1 (IntKind.u64.wrap (wrap64 (x5 - 1)))))) - 1)) then (if x22 = x18 then (some true) else (if (wrap64 ((rd x6 0) + (rd x6 1))) > (wrap64 ((wrap64 (2 * (shl .i64 1 (IntKind.u64.wrap (wrap64 (x5 - 1)))))) - 1)) then (some (x22 == (wrap64 ((wrap64 (2 * (shl .i64 1 (IntKind.u64.wrap (wrap64 (x5 - 1)))))) - 1)))) else (some false))) else (if (wrap64 ((rd x6 0) + (rd x6 1))) > (wrap64 ((wrap64 (2 * (shl .i64 1 (IntKind.u64.wrap (wrap64 (x5 - 1)))))) - 1)) then (some (x22 == (wrap64 ((wrap64 (2 * (shl .i64 1 (IntKind.u64.wrap (wrap64 (x5 - 1)))))) - 1)))) else (some false))) else (none)) else (none)) else (some false)) else (if 0 < (x6.length : Int) then (if 1 < (x6.length : Int) then (if (wrap64 ((rd x6 0) + (rd x6 1))) ≤ (wrap64 ((wrap64 (2 * (shl .i64 1 (IntKind.u64.wrap (wrap64 (x5 - 1)))))) - 1)) then (if x22 = x18 then (some true) else (if (wrap64 ((rd x6 0) + (rd x6 1))) > (wrap64 ((wrap64 (2 * (shl .i64 1 (IntKind.u64.wrap (wrap64 (x5 - 1)))))) - 1)) then (some (x22 == (wrap64 ((wrap64 (2 * (shl .i64 1 (IntKind.u64.wrap (wrap64 (x5 - 1)))))) - 1)))) else (some false))) else (if (wrap64 ((rd x6 0) + (rd x6 1))) > (wrap64 ((wrap64 (2 * (shl .i64 1 (IntKind.u64.wrap (wrap64 (x5 - 1)))))) - 1)) then (some (x22 == (wrap64 ((wrap64 (2 * (shl .i64 1 (IntKind.u64.wrap (wrap64 (x5 - 1)))))) - 1)))) else (some false))) else (none)) else (none))) else (some false)) else (if (wrap64 (x26 + x28)) < (wrap64 (-(shl .i64 1 (IntKind.u64.wrap (wrap64 (x5 - 1)))))) then (if x30 = (wrap64 (-(shl .i64 1 (IntKind.u64.wrap (wrap64 (x5 - 1)))))) then (if 0 < (x6.length : Int) then (if 1 < (x6.length : Int) then (if (wrap64 ((rd x6 0) + (rd x6 1))) ≤ (wrap64 ((wrap64 (2 * (shl .i64 1 (IntKind.u64.wrap (wrap64 (x5 - 1)))))) - 1)) then (if x22 = x18 then (some true) else (if (wrap64 ((rd x6 0) + (rd x6 1))) > (wrap64 ((wrap64 (2 * (shl .i64 1 (IntKind.u64.wrap (wrap64 (x5 - 1)))))) - 1)) then (some (x22 == (wrap64 ((wrap64 (2 * (shl .i64 1 (IntKind.u64.wrap (wrap64 (x5 - 1)))))) - 1)))) else (some false))) else (if (wrap64 ((rd x6 0) + (rd x6 1))) > (wrap64 ((wrap64 (2 * (shl .i64 1 (IntKind.u64.wrap (wrap64 (x5 - 1)))))) - 1)) then (some (x22 == (wrap64 ((wrap64 (2 * (shl .i64 1 (IntKind.u64.wrap (wrap64 (x5 - 1)))))) - 1)))) else (some false))) else (none)) else (none)) else (some false)) else (if 0 < (x6.length : Int) then (if 1 < (x6.length : Int) then (if (wrap64 ((rd x6 0) + (rd x6 1))) ≤ (wrap64 ((wrap64 (2 * (shl .i64 1 (IntKind.u64.wrap (wrap64 (x5 - 1)))))) - 1)) then (if x22 = x18 then (some true) else (if (wrap64 ((rd x6 0) + (rd x6 1))) > (wrap64 ((wrap64 (2 * (shl .i64 1 (IntKind.u64.wrap (wrap64 (x5 - 1)))))) - 1)) then (some (x22 == (wrap64 ((wrap64 (2 * (shl .i64 1 (IntKind.u64.wrap (wrap64 (x5 - 1)))))) - 1)))) else (some false))) else (if (wrap64 ((rd x6 0) + (rd x6 1))) > (wrap64 ((wrap64 (2 * (shl .i64 1 (IntKind.u64.wrap (wrap64 (x5 - 1)))))) - 1)) then (some (x22 == (wrap64 ((wrap64 (2 * (shl .i64 1 (IntKind.u64.wrap (wrap64 (x5 - 1)))))) - 1)))) else (some false))) else (none)) else (none))))) else (none))) := rfl
theorem j2_ok {k : Nat} {b : Int} {l : List Int} {sum sat sign sa sb c H : Int} (hl : l.length = 3) (hH : 8 ≤ H ∧ H ≤ 32768)
    (e1 : shl .i64 1 (IntKind.u64.wrap (wrap64 (b - 1))) = H) (e2 : 0 ≤ IntKind.u64.wrap (wrap64 (b - 1))) (e3 : wrap64 (-H) = -H) (e4 : wrap64 (H - 1) = H - 1) (e5 : wrap64 (wrap64 (2 * H) - 1) = 2 * H - 1) (e6 : wrap64 (sa + sb) = sa + sb) (e7 : wrap64 (rd l 0 + rd l 1) = rd l 0 + rd l 1)
    (f1 : sa + sb ≥ -H → sa + sb < H → sign = sum) (f2 : sa + sb ≥ H → c = H - 1) (f3 : sa + sb < -H → c = -H) (f4 : rd l 0 + rd l 1 ≤ 2 * H - 1 → sat = sum) (f5 : rd l 0 + rd l 1 > 2 * H - 1 → sat = 2 * H - 1) :
    laws_FnOps.j2 (k + 1) b l sum sat sign sa sb c false = some true := by
  have p0 : (0 : Int) < (l.length : Int) := by omega
  have p1 : (1 : Int) < (l.length : Int) := by omega
  have pf : ¬ (false = true) := by simp
  rw [fo2]
  rw [e1, e3, e4, e5, e6, e7]
  generalize sa + sb = S at *
  generalize rd l 0 + rd l 1 = Z at *
  have key : (if Z ≤ 2 * H - 1 then (if sat = sum then (some true) else (if Z > 2 * H - 1 then (some (sat == 2 * H - 1)) else (some false))) else (if Z > 2 * H - 1 then (some (sat == 2 * H - 1)) else (some false))) = some true := by
    by_cases t : Z ≤ 2 * H - 1
    · rw [if_pos t, if_pos (f4 t)]
    · rw [if_neg t, if_pos (by omega), f5 (by omega), beq_self_eq_true]
  simp only [p0, p1, e2, if_true, key]
  by_cases c1 : S ≥ -H
  · have c4 : ¬ S < -H := by omega
    by_cases c2 : S < H
    · have c3 : ¬ S ≥ H := by omega
      simp only [c1, c2, c3, c4, f1 c1 c2, if_true, if_false]
      rfl
    · have c3 : S ≥ H := by omega
      simp only [c1, c2, c3, c4, f2 c3, if_true, if_false]
      rfl
  · have c4 : S < -H := by omega
    have c2 : S < H := by omega
    have c3 : ¬ S ≥ H := by omega
    simp only [c1, c2, c3, c4, f3 c4, if_true, if_false]
    rfl
theorem f1_ok {b x y : Int} (hx : Word b x) (hy : Word b y) (h1 : sg b x + sg b y ≥ -(M b / 2)) (h2 : sg b x + sg b y < M b / 2) : res 11 b x y = res 0 b x y := by
  show clamp (sg b x + sg b y) (-(M b / 2)) (M b / 2 - 1) % M b = (x + y) % M b
  rw [← sg_sum hx hy]
  generalize sg b x + sg b y = S at *
  generalize M b / 2 = H at *
  have e : clamp S (-H) (H - 1) = S := by unfold clamp; rw [if_neg (by omega), if_neg (by omega)]
  rw [e]
theorem f2_ok {b x y : Int} (hb : Bits b) (h : sg b x + sg b y ≥ M b / 2) : sg b (res 11 b x y) = M b / 2 - 1 := by
  show sg b (clamp (sg b x + sg b y) (-(M b / 2)) (M b / 2 - 1) % M b) = _
  have hH := half_pos hb
  generalize sg b x + sg b y = S at *
  have e : clamp S (-(M b / 2)) (M b / 2 - 1) = M b / 2 - 1 := by
    generalize M b / 2 = H at *
    unfold clamp; rw [if_neg (by omega), if_pos (by omega)]
  rw [e]
  exact sg_wrap hb (by omega)
theorem f3_ok {b x y : Int} (hb : Bits b) (h : sg b x + sg b y < -(M b / 2)) : sg b (res 11 b x y) = -(M b / 2) := by
  show sg b (clamp (sg b x + sg b y) (-(M b / 2)) (M b / 2 - 1) % M b) = _
  have hH := half_pos hb
  generalize sg b x + sg b y = S at *
  have e : clamp S (-(M b / 2)) (M b / 2 - 1) = -(M b / 2) := by
    generalize M b / 2 = H at *
    unfold clamp; rw [if_pos (by omega)]
  rw [e]
  exact sg_wrap hb (by omega)
theorem f4_ok {b x y : Int} (hx : Word b x) (hy : Word b y) (h : x + y ≤ 2 * (M b / 2) - 1) : res 10 b x y = res 0 b x y := by
  show clamp (x + y) 0 (M b - 1) = (x + y) % M b
  have hH := half_pos hx.1
  have h1 := hx.2
  have h2 := hy.2
  generalize M b = m at *
  have e : clamp (x + y) 0 (m - 1) = x + y := by unfold clamp; rw [if_neg (by omega), if_neg (by omega)]
  rw [e, Int.emod_eq_of_lt (by omega) (by omega)]
theorem f5_ok {b x y : Int} (hx : Word b x) (hy : Word b y) (h : x + y > 2 * (M b / 2) - 1) : res 10 b x y = 2 * (M b / 2) - 1 := by
  show clamp (x + y) 0 (M b - 1) = _
  have hH := half_pos hx.1
  have h1 := hx.2
  have h2 := hy.2
  generalize M b = m at *
  unfold clamp
  rw [if_neg (by omega), if_pos (by omega)]
  omega
theorem sums_le {b x y : Int} (hx : Word b x) (hy : Word b y) : wrap64 (sg b x + sg b y) = sg b x + sg b y ∧ wrap64 (x + y) = x + y ∧ isVal (sg b x + sg b y) := by
  have sx := sg_le hx
  have sy := sg_le hy
  have hL := @M_le b
  have h1 := hx.2
  have h2 := hy.2
  unfold isVal
  generalize sg b x = A at *
  generalize sg b y = B at *
  generalize M b = m at *
  exact ⟨w_small (by omega), w_small (by omega), by omega, by omega⟩
theorem halves_ok {b : Int} (hb : Bits b) : shl .i64 1 (IntKind.u64.wrap (wrap64 (b - 1))) = M b / 2 ∧ 0 ≤ IntKind.u64.wrap (wrap64 (b - 1)) ∧ wrap64 (-(M b / 2)) = -(M b / 2) ∧ wrap64 (M b / 2 - 1) = M b / 2 - 1 ∧ wrap64 (wrap64 (2 * (M b / 2)) - 1) = 2 * (M b / 2) - 1 := by
  have hbb := b_bounds hb
  have u : IntKind.u64.wrap (wrap64 (b - 1)) = b - 1 := by rw [w_small (by omega), u_small (by omega)]
  have hH := half_pos hb
  rw [u, shlB1 hb]
  generalize M b / 2 = H at *
  exact ⟨rfl, by omega, w_small (by omega), w_small (by omega), by rw [w_small (n := 2 * H) (by omega), w_small (by omega)]⟩
theorem FnOps : laws_FnOps.Pure := by
  intro l0 l1 _ _ h0 _ _ h1
  refine Ev.rounds (g := fun k => laws_FnOps.f k l0 l1) ?_
  have b0 := bytes_of h0
  have b1 := bytes_of h1
  unfold laws_FnOps.f
  have hlong : ∃ t, laws_b10Long.f l0 l1 = some t := by
    unfold laws_b10Long.f
    split <;> exact ⟨_, rfl⟩
  obtain ⟨t, ht⟩ := hlong
  refine ev_eq ht ?_
  by_cases htt : t = true
  · exact ev_if htt (Ev.now _)
  refine ev_else htt ?_
  obtain ⟨b, eb, hb⟩ := drawBits b0
  refine ev_eq eb ?_
  obtain ⟨l, el, hl, hw⟩ := drawWords b1 b hb 3 (by omega)
  refine Ev.bind el ?_
  obtain ⟨op, eo, ho0, ho1⟩ := b10At b0 1 18 (by omega) (by omega)
  have ho : OpOk op := ⟨ho0, by omega⟩
  have hx : Word b (rd l 0) := words_rd hw (by omega) (by omega)
  have hy : Word b (rd l 1) := words_rd hw (by omega) (by omega)
  have hz : Word b (rd l 2) := words_rd hw (by omega) (by omega)
  have q0 : OpOk 0 := ⟨by omega, by omega⟩
  have q1 : OpOk 1 := ⟨by omega, by omega⟩
  have q10 : OpOk 10 := ⟨by omega, by omega⟩
  have q11 : OpOk 11 := ⟨by omega, by omega⟩
  have hM := half_pos hb
  have hs := sums_le hx hy
  have hh := halves_ok hb
  have hw0 : Word b (res 0 b (rd l 0) (rd l 1)) := res_word hx hy
  have hw11 : Word b (res 11 b (rd l 0) (rd l 1)) := res_word hx hy
  have n0 : (0 : Int) < (l.length : Int) := by rw [hl]; decide
  have n1 : (1 : Int) < (l.length : Int) := by rw [hl]; decide
  have n2 : (2 : Int) < (l.length : Int) := by rw [hl]; decide
  have nf : ¬ (false = true) := by simp
  have j2ok : Ev (fun k => laws_FnOps.j2 k b l (res 0 b (rd l 0) (rd l 1)) (res 10 b (rd l 0) (rd l 1)) (res 11 b (rd l 0) (rd l 1)) (sg b (rd l 0)) (sg b (rd l 1)) (sg b (res 11 b (rd l 0) (rd l 1))) false) true := by
    refine ⟨1, fun k hk => ?_⟩
    obtain ⟨k, rfl⟩ : ∃ m, k = m + 1 := ⟨k - 1, by omega⟩
    exact j2_ok hl ⟨hM.1, hM.2.1⟩ hh.1 hh.2.1 hh.2.2.1 hh.2.2.2.1 hh.2.2.2.2 hs.1 hs.2.1 (f1_ok hx hy) (f2_ok hb) (f3_ok hb) (f4_ok hx hy) (f5_ok hx hy)
  have j1ok : Ev (fun k => laws_FnOps.j1 k b l false) true := by
    refine Ev.step (fun k => fo1 k b l false) ?_
    refine ev_else nf (ev_if n0 (ev_if n1 (ev_eq (op_ok q0 hx hy) (ev_eq (op_ok q1 hw0 hy) (ev_eq (op_ok q10 hx hy) (ev_eq (op_ok q11 hx hy) (ev_eq (sg_ok hx) (ev_eq (sg_ok hy) (ev_eq (sg_ok hw11) (ev_eq (by rw [hs.1]; exact wordOf_ok hb hs.2.2) (ev_if rfl (ev_if rfl (ev_if rfl (ev_if rfl (ev_if rfl (ev_if rfl (ev_if rfl (ev_if rfl (ev_if (back_ok hx hy) ?_)))))))))))))))))))
    show Ev (fun k => laws_FnOps.j2 k b l (res 0 b (rd l 0) (rd l 1)) (res 10 b (rd l 0) (rd l 1)) (res 11 b (rd l 0) (rd l 1)) (sg b (rd l 0)) (sg b (rd l 1)) (sg b (res 11 b (rd l 0) (rd l 1))) ((sg b (rd l 0) + sg b (rd l 1)) % M b != res 0 b (rd l 0) (rd l 1))) true
    have e : ((sg b (rd l 0) + sg b (rd l 1)) % M b != res 0 b (rd l 0) (rd l 1)) = false := by
      rw [sg_sum hx hy]
      show ((rd l 0 + rd l 1) % M b != (rd l 0 + rd l 1) % M b) = false
      simp
    rw [e]
    exact j2ok
  have j0ok : Ev (fun k => laws_FnOps.j0 k b l op (res op b (rd l 0) (rd l 1)) (res op b (rd l 1) (rd l 2)) false) true := by
    refine Ev.step (fun k => fo0 k b l op (res op b (rd l 0) (rd l 1)) (res op b (rd l 1) (rd l 2)) false) ?_
    refine ev_else nf (ev_if n2 (ev_eq (op_ok ho (res_word hx hy) hz) (ev_if n0 (ev_eq (op_ok ho hx (res_word hy hz)) (ev_if rfl (ev_if rfl (ev_eq (iAssoc op) ?_)))))))
    by_cases ha : Assoc op
    · have hc : Comm op := by unfold Assoc at ha; unfold Comm; omega
      refine ev_if (decide_eq_true ha) (ev_if (res_assoc ha hx hy hz) (ev_eq (iAssoc op) (ev_if (decide_eq_true ha) (ev_eq (iComm op) ?_))))
      have e : (!decide (op = 0 ∨ op = 14 ∨ (2 ≤ op ∧ op ≤ 11))) = false := by rw [decide_eq_true (show op = 0 ∨ op = 14 ∨ (2 ≤ op ∧ op ≤ 11) from hc)]; rfl
      rw [e]
      exact j1ok
    · exact ev_else (by rw [decide_eq_true_eq]; exact ha) (ev_eq (iAssoc op) (ev_else (by rw [decide_eq_true_eq]; exact ha) j1ok))
  refine ev_eq eo (ev_if n0 (ev_if n1 (ev_eq (op_ok ho hx hy) (ev_eq (op_ok ho hy hx) (ev_if n2 (ev_eq (op_ok ho hy hz) (ev_if rfl (ev_if rfl (ev_if rfl (ev_eq (word_ok (res_word hx hy)) (ev_if rfl (ev_eq (word_ok (res_word hy hz)) (ev_if rfl (ev_eq (iComm op) ?_))))))))))))))
  by_cases hc : Comm op
  · refine ev_if (decide_eq_true hc) ?_
    show Ev (fun k => laws_FnOps.j0 k b l op (res op b (rd l 0) (rd l 1)) (res op b (rd l 1) (rd l 2)) (res op b (rd l 0) (rd l 1) != res op b (rd l 1) (rd l 0))) true
    have e : (res op b (rd l 0) (rd l 1) != res op b (rd l 1) (rd l 0)) = false := by rw [res_comm hc hx hy]; simp
    rw [e]
    exact j0ok
  · exact ev_else (by rw [decide_eq_true_eq]; exact hc) j0ok

end Go.Proofs.Ytigffehcchhlkaa.Pure
