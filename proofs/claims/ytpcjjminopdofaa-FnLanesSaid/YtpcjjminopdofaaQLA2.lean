-- Laid by a program of this session.
import Derived.Test.YtpcjjminopdofaaK0
import Derived.Test.YtpcjjminopdofaaH0
import Derived.Test.YtpcjjminopdofaaQLA0
import Derived.Test.YtpcjjminopdofaaQLA1
namespace Go.Proofs.Ytpcjjminopdofaa.K
open Go.RowKit Go.Proofs.YtpcjjminopdofaaW.PrintWords Go.Proofs.YtpcjjminopdofaaW.PrintLast Go.Proofs.YtpcjjminopdofaaW.PrintMore Go.Proofs.Ytpcjjminopdofaa.Bx Go.Shelf
attribute [local go_sem] max2_int min2_int max_two min_two max_three min_three max_four min_four   -- for this text's walks alone
set_option linter.unusedVariables false
set_option linter.unusedSimpArgs false

/-! ### laws_FnLanes: function 26 -/
mutual
def laws_FnLanes.j0 : Nat → Int → List Int → List Int → List Int → Int → Int → List Int → List Int → List Int → List Int → List Int → Int → Int → Bool → Int → Bool → Option (Bool)
 | 0, _, _, _, _, _, _, _, _, _, _, _, _, _, _, _, _ => none
 | k + 1, x5, x7, x8, x9, x10, x11, x12, x14, x16, x18, x20, x22, x24, x25, x26, x190 => if x190 = true then (some false) else (laws_FnLanes.l0 k x5 x7 x8 x9 x10 x11 x12 x14 x16 x18 x20 x22 x24 x25 x26 0 0)
def laws_FnLanes.l0 : Nat → Int → List Int → List Int → List Int → Int → Int → List Int → List Int → List Int → List Int → List Int → Int → Int → Bool → Int → Int → Int → Option (Bool)
 | 0, _, _, _, _, _, _, _, _, _, _, _, _, _, _, _, _, _ => none
 | k + 1, x5, x7, x8, x9, x10, x11, x12, x14, x16, x18, x20, x22, x24, x25, x26, x27, x28 => if x28 < x26 then (if 0 ≤ x28 then (if x28 < (x7.length : Int) then (if x28 < (x8.length : Int) then ((impl_DoOp.f x10 x5 (rd x7 x28) (rd x8 x28)).bind fun bt1685 => ((impl_TestCmp.f x11 x5 (rd x7 x28) (rd x8 x28)).bind fun bt1689 => (if 0 < (x7.length : Int) then (if 0 < (x8.length : Int) then ((impl_WordOf.f x5 (wrap64 ((rd x7 0) + (wrap64 (x28 * (rd x8 0)))))).bind fun bt1693 => (if x28 < (x16.length : Int) then (if bt1685.2 = true then (if bt1689.2 = true then (if bt1693.2 = true then (if x28 < (x12.length : Int) then (if (rd x12 x28) = bt1685.1 then (if (((rd x16 x28) == 1) != bt1689.1) = true then (laws_FnLanes.j2 k x5 x7 x8 x9 x10 x11 x12 x14 x16 x18 x20 x22 x24 x25 x26 (wrap64 (x27 + (rd x16 x28))) x28 bt1685.1 bt1689.1 true) else (if x28 < (x20.length : Int) then (laws_FnLanes.j2 k x5 x7 x8 x9 x10 x11 x12 x14 x16 x18 x20 x22 x24 x25 x26 (wrap64 (x27 + (rd x16 x28))) x28 bt1685.1 bt1689.1 ((rd x20 x28) != bt1693.1)) else (none))) else (laws_FnLanes.j2 k x5 x7 x8 x9 x10 x11 x12 x14 x16 x18 x20 x22 x24 x25 x26 (wrap64 (x27 + (rd x16 x28))) x28 bt1685.1 bt1689.1 true)) else (none)) else (laws_FnLanes.j2 k x5 x7 x8 x9 x10 x11 x12 x14 x16 x18 x20 x22 x24 x25 x26 (wrap64 (x27 + (rd x16 x28))) x28 bt1685.1 bt1689.1 true)) else (laws_FnLanes.j2 k x5 x7 x8 x9 x10 x11 x12 x14 x16 x18 x20 x22 x24 x25 x26 (wrap64 (x27 + (rd x16 x28))) x28 bt1685.1 bt1689.1 true)) else (laws_FnLanes.j2 k x5 x7 x8 x9 x10 x11 x12 x14 x16 x18 x20 x22 x24 x25 x26 (wrap64 (x27 + (rd x16 x28))) x28 bt1685.1 bt1689.1 true)) else (none))) else (none)) else (none)))) else (none)) else (none)) else (none)) else (some (x27 == x22))
def laws_FnLanes.j2 : Nat → Int → List Int → List Int → List Int → Int → Int → List Int → List Int → List Int → List Int → List Int → Int → Int → Bool → Int → Int → Int → Int → Bool → Bool → Option (Bool)
 | 0, _, _, _, _, _, _, _, _, _, _, _, _, _, _, _, _, _, _, _, _ => none
 | k + 1, x5, x7, x8, x9, x10, x11, x12, x14, x16, x18, x20, x22, x24, x25, x26, x27, x28, x29, x31, x278 => if x278 = true then (some false) else (if 0 ≤ x28 then (if x28 < (x9.length : Int) then (if (rd x9 x28) = 1 then (if x28 < (x14.length : Int) then (if (rd x14 x28) = x29 then (if (rd x9 x28) = 0 then (if x28 < (x8.length : Int) then (if (rd x14 x28) = (rd x8 x28) then (if x31 = true then (if x28 < (x18.length : Int) then (if x28 < (x7.length : Int) then (if (rd x18 x28) = (rd x7 x28) then (if x25 = true then (if x28 < (x16.length : Int) then (if (rd x16 x28) = 1 then (if x28 < x24 then (some false) else (laws_FnLanes.l0 k x5 x7 x8 x9 x10 x11 x12 x14 x16 x18 x20 x22 x24 x25 x26 x27 (wrap64 (x28 + 1)))) else (laws_FnLanes.l0 k x5 x7 x8 x9 x10 x11 x12 x14 x16 x18 x20 x22 x24 x25 x26 x27 (wrap64 (x28 + 1)))) else (none)) else (laws_FnLanes.l0 k x5 x7 x8 x9 x10 x11 x12 x14 x16 x18 x20 x22 x24 x25 x26 x27 (wrap64 (x28 + 1)))) else (some false)) else (none)) else (none)) else (if x28 < (x18.length : Int) then (if (rd x18 x28) = (rd x8 x28) then (if x25 = true then (if x28 < (x16.length : Int) then (if (rd x16 x28) = 1 then (if x28 < x24 then (some false) else (laws_FnLanes.l0 k x5 x7 x8 x9 x10 x11 x12 x14 x16 x18 x20 x22 x24 x25 x26 x27 (wrap64 (x28 + 1)))) else (laws_FnLanes.l0 k x5 x7 x8 x9 x10 x11 x12 x14 x16 x18 x20 x22 x24 x25 x26 x27 (wrap64 (x28 + 1)))) else (none)) else (laws_FnLanes.l0 k x5 x7 x8 x9 x10 x11 x12 x14 x16 x18 x20 x22 x24 x25 x26 x27 (wrap64 (x28 + 1)))) else (some false)) else (none))) else (some false)) else (none)) else (if x31 = true then (if x28 < (x18.length : Int) then (if x28 < (x7.length : Int) then (if (rd x18 x28) = (rd x7 x28) then (if x25 = true then (if x28 < (x16.length : Int) then (if (rd x16 x28) = 1 then (if x28 < x24 then (some false) else (laws_FnLanes.l0 k x5 x7 x8 x9 x10 x11 x12 x14 x16 x18 x20 x22 x24 x25 x26 x27 (wrap64 (x28 + 1)))) else (laws_FnLanes.l0 k x5 x7 x8 x9 x10 x11 x12 x14 x16 x18 x20 x22 x24 x25 x26 x27 (wrap64 (x28 + 1)))) else (none)) else (laws_FnLanes.l0 k x5 x7 x8 x9 x10 x11 x12 x14 x16 x18 x20 x22 x24 x25 x26 x27 (wrap64 (x28 + 1)))) else (some false)) else (none)) else (none)) else (if x28 < (x18.length : Int) then (if x28 < (x8.length : Int) then (if (rd x18 x28) = (rd x8 x28) then (if x25 = true then (if x28 < (x16.length : Int) then (if (rd x16 x28) = 1 then (if x28 < x24 then (some false) else (laws_FnLanes.l0 k x5 x7 x8 x9 x10 x11 x12 x14 x16 x18 x20 x22 x24 x25 x26 x27 (wrap64 (x28 + 1)))) else (laws_FnLanes.l0 k x5 x7 x8 x9 x10 x11 x12 x14 x16 x18 x20 x22 x24 x25 x26 x27 (wrap64 (x28 + 1)))) else (none)) else (laws_FnLanes.l0 k x5 x7 x8 x9 x10 x11 x12 x14 x16 x18 x20 x22 x24 x25 x26 x27 (wrap64 (x28 + 1)))) else (some false)) else (none)) else (none)))) else (some false)) else (none)) else (if (rd x9 x28) = 0 then (if x28 < (x14.length : Int) then (if x28 < (x8.length : Int) then (if (rd x14 x28) = (rd x8 x28) then (if x31 = true then (if x28 < (x18.length : Int) then (if x28 < (x7.length : Int) then (if (rd x18 x28) = (rd x7 x28) then (if x25 = true then (if x28 < (x16.length : Int) then (if (rd x16 x28) = 1 then (if x28 < x24 then (some false) else (laws_FnLanes.l0 k x5 x7 x8 x9 x10 x11 x12 x14 x16 x18 x20 x22 x24 x25 x26 x27 (wrap64 (x28 + 1)))) else (laws_FnLanes.l0 k x5 x7 x8 x9 x10 x11 x12 x14 x16 x18 x20 x22 x24 x25 x26 x27 (wrap64 (x28 + 1)))) else (none)) else (laws_FnLanes.l0 k x5 x7 x8 x9 x10 x11 x12 x14 x16 x18 x20 x22 x24 x25 x26 x27 (wrap64 (x28 + 1)))) else (some false)) else (none)) else (none)) else (if x28 < (x18.length : Int) then (if (rd x18 x28) = (rd x8 x28) then (if x25 = true then (if x28 < (x16.length : Int) then (if (rd x16 x28) = 1 then (if x28 < x24 then (some false) else (laws_FnLanes.l0 k x5 x7 x8 x9 x10 x11 x12 x14 x16 x18 x20 x22 x24 x25 x26 x27 (wrap64 (x28 + 1)))) else (laws_FnLanes.l0 k x5 x7 x8 x9 x10 x11 x12 x14 x16 x18 x20 x22 x24 x25 x26 x27 (wrap64 (x28 + 1)))) else (none)) else (laws_FnLanes.l0 k x5 x7 x8 x9 x10 x11 x12 x14 x16 x18 x20 x22 x24 x25 x26 x27 (wrap64 (x28 + 1)))) else (some false)) else (none))) else (some false)) else (none)) else (none)) else (if x31 = true then (if x28 < (x18.length : Int) then (if x28 < (x7.length : Int) then (if (rd x18 x28) = (rd x7 x28) then (if x25 = true then (if x28 < (x16.length : Int) then (if (rd x16 x28) = 1 then (if x28 < x24 then (some false) else (laws_FnLanes.l0 k x5 x7 x8 x9 x10 x11 x12 x14 x16 x18 x20 x22 x24 x25 x26 x27 (wrap64 (x28 + 1)))) else (laws_FnLanes.l0 k x5 x7 x8 x9 x10 x11 x12 x14 x16 x18 x20 x22 x24 x25 x26 x27 (wrap64 (x28 + 1)))) else (none)) else (laws_FnLanes.l0 k x5 x7 x8 x9 x10 x11 x12 x14 x16 x18 x20 x22 x24 x25 x26 x27 (wrap64 (x28 + 1)))) else (some false)) else (none)) else (none)) else (if x28 < (x18.length : Int) then (if x28 < (x8.length : Int) then (if (rd x18 x28) = (rd x8 x28) then (if x25 = true then (if x28 < (x16.length : Int) then (if (rd x16 x28) = 1 then (if x28 < x24 then (some false) else (laws_FnLanes.l0 k x5 x7 x8 x9 x10 x11 x12 x14 x16 x18 x20 x22 x24 x25 x26 x27 (wrap64 (x28 + 1)))) else (laws_FnLanes.l0 k x5 x7 x8 x9 x10 x11 x12 x14 x16 x18 x20 x22 x24 x25 x26 x27 (wrap64 (x28 + 1)))) else (none)) else (laws_FnLanes.l0 k x5 x7 x8 x9 x10 x11 x12 x14 x16 x18 x20 x22 x24 x25 x26 x27 (wrap64 (x28 + 1)))) else (some false)) else (none)) else (none))))) else (none)) else (none))
end
def laws_FnLanes.f (k : Nat) (l0 : List Int) (l1 : List Int) : Option (Bool) := (laws_r8Long.f l0 l1).bind fun t1642 => (if t1642 = true then (some true) else ((spec_R8Bits.f l0).bind fun t1643 => ((spec_R8Lanes.f l1).bind fun t1644 => ((spec_R8Vector.f k l0 t1643 t1644).bind fun t1645 => ((spec_R8Vector.f k l1 t1643 t1644).bind fun t1648 => ((spec_R8Mask.f k l1 t1644).bind fun t1651 => ((laws_r8At.f l1 20 18).bind fun t1654 => ((laws_r8At.f l1 21 6).bind fun t1655 => ((impl_LaneWise.f k t1654 t1643 t1645 t1648).bind fun bt1656 => ((impl_LaneWiseMasked.f k t1654 t1643 t1651 t1648 t1645 t1648).bind fun bt1660 => ((impl_CompareLanes.f k t1655 t1643 t1645 t1648).bind fun bt1664 => ((impl_SelectLanes.f k t1643 bt1664.1 t1645 t1648).bind fun bt1668 => (if 0 < (t1645.length : Int) then (if 0 < (t1648.length : Int) then ((impl_RampLanes.f k t1643 t1644 (rd t1645 0) (rd t1648 0)).bind fun bt1674 => ((impl_CountLanes.f k bt1664.1).bind fun bt1678 => ((impl_FirstLane.f k bt1664.1).bind fun bt1680 => (if bt1656.2 = true then (if bt1660.2 = true then (if bt1664.2 = true then (if bt1668.2 = true then (if bt1674.2 = true then (if bt1678.2 = true then (if (bt1656.1.length : Int) = t1644 then (if (bt1660.1.length : Int) = t1644 then (if (bt1664.1.length : Int) = t1644 then (if (bt1668.1.length : Int) = t1644 then (if (bt1674.1.length : Int) = t1644 then (if (bt1680.2 != (decide (bt1678.1 > 0))) = true then (laws_FnLanes.j0 k t1643 t1645 t1648 t1651 t1654 t1655 bt1656.1 bt1660.1 bt1664.1 bt1668.1 bt1674.1 bt1678.1 bt1680.1 bt1680.2 t1644 true) else (if bt1680.2 = true then (if bt1680.1 < 0 then (laws_FnLanes.j0 k t1643 t1645 t1648 t1651 t1654 t1655 bt1656.1 bt1660.1 bt1664.1 bt1668.1 bt1674.1 bt1678.1 bt1680.1 bt1680.2 t1644 true) else (if bt1680.1 ≥ t1644 then (laws_FnLanes.j0 k t1643 t1645 t1648 t1651 t1654 t1655 bt1656.1 bt1660.1 bt1664.1 bt1668.1 bt1674.1 bt1678.1 bt1680.1 bt1680.2 t1644 true) else (if 0 ≤ bt1680.1 then (if bt1680.1 < (bt1664.1.length : Int) then (laws_FnLanes.j0 k t1643 t1645 t1648 t1651 t1654 t1655 bt1656.1 bt1660.1 bt1664.1 bt1668.1 bt1674.1 bt1678.1 bt1680.1 bt1680.2 t1644 ((rd bt1664.1 bt1680.1) != 1)) else (none)) else (none)))) else (laws_FnLanes.j0 k t1643 t1645 t1648 t1651 t1654 t1655 bt1656.1 bt1660.1 bt1664.1 bt1668.1 bt1674.1 bt1678.1 bt1680.1 bt1680.2 t1644 false))) else (laws_FnLanes.j0 k t1643 t1645 t1648 t1651 t1654 t1655 bt1656.1 bt1660.1 bt1664.1 bt1668.1 bt1674.1 bt1678.1 bt1680.1 bt1680.2 t1644 true)) else (laws_FnLanes.j0 k t1643 t1645 t1648 t1651 t1654 t1655 bt1656.1 bt1660.1 bt1664.1 bt1668.1 bt1674.1 bt1678.1 bt1680.1 bt1680.2 t1644 true)) else (laws_FnLanes.j0 k t1643 t1645 t1648 t1651 t1654 t1655 bt1656.1 bt1660.1 bt1664.1 bt1668.1 bt1674.1 bt1678.1 bt1680.1 bt1680.2 t1644 true)) else (laws_FnLanes.j0 k t1643 t1645 t1648 t1651 t1654 t1655 bt1656.1 bt1660.1 bt1664.1 bt1668.1 bt1674.1 bt1678.1 bt1680.1 bt1680.2 t1644 true)) else (laws_FnLanes.j0 k t1643 t1645 t1648 t1651 t1654 t1655 bt1656.1 bt1660.1 bt1664.1 bt1668.1 bt1674.1 bt1678.1 bt1680.1 bt1680.2 t1644 true)) else (laws_FnLanes.j0 k t1643 t1645 t1648 t1651 t1654 t1655 bt1656.1 bt1660.1 bt1664.1 bt1668.1 bt1674.1 bt1678.1 bt1680.1 bt1680.2 t1644 true)) else (laws_FnLanes.j0 k t1643 t1645 t1648 t1651 t1654 t1655 bt1656.1 bt1660.1 bt1664.1 bt1668.1 bt1674.1 bt1678.1 bt1680.1 bt1680.2 t1644 true)) else (laws_FnLanes.j0 k t1643 t1645 t1648 t1651 t1654 t1655 bt1656.1 bt1660.1 bt1664.1 bt1668.1 bt1674.1 bt1678.1 bt1680.1 bt1680.2 t1644 true)) else (laws_FnLanes.j0 k t1643 t1645 t1648 t1651 t1654 t1655 bt1656.1 bt1660.1 bt1664.1 bt1668.1 bt1674.1 bt1678.1 bt1680.1 bt1680.2 t1644 true)) else (laws_FnLanes.j0 k t1643 t1645 t1648 t1651 t1654 t1655 bt1656.1 bt1660.1 bt1664.1 bt1668.1 bt1674.1 bt1678.1 bt1680.1 bt1680.2 t1644 true)) else (laws_FnLanes.j0 k t1643 t1645 t1648 t1651 t1654 t1655 bt1656.1 bt1660.1 bt1664.1 bt1668.1 bt1674.1 bt1678.1 bt1680.1 bt1680.2 t1644 true))))) else (none)) else (none))))))))))))))
theorem laws_FnLanes.mono_l : ∀ k, (∀ y0 y1 y2 y3 y4 y5 y6 y7 y8 y9 y10 y11 y12 y13 y14 y15, LeO (laws_FnLanes.j0 k y0 y1 y2 y3 y4 y5 y6 y7 y8 y9 y10 y11 y12 y13 y14 y15) (laws_FnLanes.j0 (k + 1) y0 y1 y2 y3 y4 y5 y6 y7 y8 y9 y10 y11 y12 y13 y14 y15)) ∧ (∀ y0 y1 y2 y3 y4 y5 y6 y7 y8 y9 y10 y11 y12 y13 y14 y15 y16, LeO (laws_FnLanes.l0 k y0 y1 y2 y3 y4 y5 y6 y7 y8 y9 y10 y11 y12 y13 y14 y15 y16) (laws_FnLanes.l0 (k + 1) y0 y1 y2 y3 y4 y5 y6 y7 y8 y9 y10 y11 y12 y13 y14 y15 y16)) ∧ (∀ y0 y1 y2 y3 y4 y5 y6 y7 y8 y9 y10 y11 y12 y13 y14 y15 y16 y17 y18 y19, LeO (laws_FnLanes.j2 k y0 y1 y2 y3 y4 y5 y6 y7 y8 y9 y10 y11 y12 y13 y14 y15 y16 y17 y18 y19) (laws_FnLanes.j2 (k + 1) y0 y1 y2 y3 y4 y5 y6 y7 y8 y9 y10 y11 y12 y13 y14 y15 y16 y17 y18 y19))
 | 0 => ⟨fun _ _ _ _ _ _ _ _ _ _ _ _ _ _ _ _ r h => by simp [laws_FnLanes.j0] at h, fun _ _ _ _ _ _ _ _ _ _ _ _ _ _ _ _ _ r h => by simp [laws_FnLanes.l0] at h, fun _ _ _ _ _ _ _ _ _ _ _ _ _ _ _ _ _ _ _ _ r h => by simp [laws_FnLanes.j2] at h⟩
 | k + 1 => by
  obtain ⟨ih0, ih1, ih2⟩ := laws_FnLanes.mono_l k
  refine ⟨?_, ?_, ?_⟩
  ·intro y0 y1 y2 y3 y4 y5 y6 y7 y8 y9 y10 y11 y12 y13 y14 y15
   unfold laws_FnLanes.j0
   repeat' first
   | (with_reducible exact ih0 _ _ _ _ _ _ _ _ _ _ _ _ _ _ _ _)
   | (with_reducible exact ih1 _ _ _ _ _ _ _ _ _ _ _ _ _ _ _ _ _)
   | (with_reducible exact ih2 _ _ _ _ _ _ _ _ _ _ _ _ _ _ _ _ _ _ _ _)
   | (with_reducible exact impl_CompareLanes.mono _ _ _ _ _)
   | (with_reducible exact impl_CountLanes.mono _ _)
   | (with_reducible exact impl_FirstLane.mono _ _)
   | (with_reducible exact impl_LaneWise.mono _ _ _ _ _)
   | (with_reducible exact impl_LaneWiseMasked.mono _ _ _ _ _ _ _)
   | (with_reducible exact impl_RampLanes.mono _ _ _ _ _)
   | (with_reducible exact impl_SelectLanes.mono _ _ _ _ _)
   | (with_reducible exact spec_R8Mask.mono _ _ _)
   | (with_reducible exact spec_R8Vector.mono _ _ _ _)
   | (with_reducible exact LeO.refl _)
   | (with_reducible exact LeO.none _)
   | (with_reducible refine LeO.ite ?_ ?_)
   | (with_reducible refine LeO.bind ?_ (fun _ => ?_))
   | exact ih0 _ _ _ _ _ _ _ _ _ _ _ _ _ _ _ _
   | exact ih1 _ _ _ _ _ _ _ _ _ _ _ _ _ _ _ _ _
   | exact ih2 _ _ _ _ _ _ _ _ _ _ _ _ _ _ _ _ _ _ _ _
   | exact impl_CompareLanes.mono _ _ _ _ _
   | exact impl_CountLanes.mono _ _
   | exact impl_FirstLane.mono _ _
   | exact impl_LaneWise.mono _ _ _ _ _
   | exact impl_LaneWiseMasked.mono _ _ _ _ _ _ _
   | exact impl_RampLanes.mono _ _ _ _ _
   | exact impl_SelectLanes.mono _ _ _ _ _
   | exact spec_R8Mask.mono _ _ _
   | exact spec_R8Vector.mono _ _ _ _
   | exact LeO.none _
   | refine LeO.ite ?_ ?_
   | refine LeO.bind ?_ (fun _ => ?_)
  ·intro y0 y1 y2 y3 y4 y5 y6 y7 y8 y9 y10 y11 y12 y13 y14 y15 y16
   unfold laws_FnLanes.l0
   repeat' first
   | (with_reducible exact ih0 _ _ _ _ _ _ _ _ _ _ _ _ _ _ _ _)
   | (with_reducible exact ih1 _ _ _ _ _ _ _ _ _ _ _ _ _ _ _ _ _)
   | (with_reducible exact ih2 _ _ _ _ _ _ _ _ _ _ _ _ _ _ _ _ _ _ _ _)
   | (with_reducible exact impl_CompareLanes.mono _ _ _ _ _)
   | (with_reducible exact impl_CountLanes.mono _ _)
   | (with_reducible exact impl_FirstLane.mono _ _)
   | (with_reducible exact impl_LaneWise.mono _ _ _ _ _)
   | (with_reducible exact impl_LaneWiseMasked.mono _ _ _ _ _ _ _)
   | (with_reducible exact impl_RampLanes.mono _ _ _ _ _)
   | (with_reducible exact impl_SelectLanes.mono _ _ _ _ _)
   | (with_reducible exact spec_R8Mask.mono _ _ _)
   | (with_reducible exact spec_R8Vector.mono _ _ _ _)
   | (with_reducible exact LeO.refl _)
   | (with_reducible exact LeO.none _)
   | (with_reducible refine LeO.ite ?_ ?_)
   | (with_reducible refine LeO.bind ?_ (fun _ => ?_))
   | exact ih0 _ _ _ _ _ _ _ _ _ _ _ _ _ _ _ _
   | exact ih1 _ _ _ _ _ _ _ _ _ _ _ _ _ _ _ _ _
   | exact ih2 _ _ _ _ _ _ _ _ _ _ _ _ _ _ _ _ _ _ _ _
   | exact impl_CompareLanes.mono _ _ _ _ _
   | exact impl_CountLanes.mono _ _
   | exact impl_FirstLane.mono _ _
   | exact impl_LaneWise.mono _ _ _ _ _
   | exact impl_LaneWiseMasked.mono _ _ _ _ _ _ _
   | exact impl_RampLanes.mono _ _ _ _ _
   | exact impl_SelectLanes.mono _ _ _ _ _
   | exact spec_R8Mask.mono _ _ _
   | exact spec_R8Vector.mono _ _ _ _
   | exact LeO.none _
   | refine LeO.ite ?_ ?_
   | refine LeO.bind ?_ (fun _ => ?_)
  ·intro y0 y1 y2 y3 y4 y5 y6 y7 y8 y9 y10 y11 y12 y13 y14 y15 y16 y17 y18 y19
   unfold laws_FnLanes.j2
   repeat' first
   | (with_reducible exact ih0 _ _ _ _ _ _ _ _ _ _ _ _ _ _ _ _)
   | (with_reducible exact ih1 _ _ _ _ _ _ _ _ _ _ _ _ _ _ _ _ _)
   | (with_reducible exact ih2 _ _ _ _ _ _ _ _ _ _ _ _ _ _ _ _ _ _ _ _)
   | (with_reducible exact impl_CompareLanes.mono _ _ _ _ _)
   | (with_reducible exact impl_CountLanes.mono _ _)
   | (with_reducible exact impl_FirstLane.mono _ _)
   | (with_reducible exact impl_LaneWise.mono _ _ _ _ _)
   | (with_reducible exact impl_LaneWiseMasked.mono _ _ _ _ _ _ _)
   | (with_reducible exact impl_RampLanes.mono _ _ _ _ _)
   | (with_reducible exact impl_SelectLanes.mono _ _ _ _ _)
   | (with_reducible exact spec_R8Mask.mono _ _ _)
   | (with_reducible exact spec_R8Vector.mono _ _ _ _)
   | (with_reducible exact LeO.refl _)
   | (with_reducible exact LeO.none _)
   | (with_reducible refine LeO.ite ?_ ?_)
   | (with_reducible refine LeO.bind ?_ (fun _ => ?_))
   | exact ih0 _ _ _ _ _ _ _ _ _ _ _ _ _ _ _ _
   | exact ih1 _ _ _ _ _ _ _ _ _ _ _ _ _ _ _ _ _
   | exact ih2 _ _ _ _ _ _ _ _ _ _ _ _ _ _ _ _ _ _ _ _
   | exact impl_CompareLanes.mono _ _ _ _ _
   | exact impl_CountLanes.mono _ _
   | exact impl_FirstLane.mono _ _
   | exact impl_LaneWise.mono _ _ _ _ _
   | exact impl_LaneWiseMasked.mono _ _ _ _ _ _ _
   | exact impl_RampLanes.mono _ _ _ _ _
   | exact impl_SelectLanes.mono _ _ _ _ _
   | exact spec_R8Mask.mono _ _ _
   | exact spec_R8Vector.mono _ _ _ _
   | exact LeO.none _
   | refine LeO.ite ?_ ?_
   | refine LeO.bind ?_ (fun _ => ?_)
theorem laws_FnLanes.mono : ∀ a0 a1 k, LeO (laws_FnLanes.f k a0 a1) (laws_FnLanes.f (k + 1) a0 a1) := by
 intro a0 a1 k
 obtain ⟨ih0, ih1, ih2⟩ := laws_FnLanes.mono_l k
 unfold laws_FnLanes.f
 repeat' first
   | (with_reducible exact ih0 _ _ _ _ _ _ _ _ _ _ _ _ _ _ _ _)
   | (with_reducible exact ih1 _ _ _ _ _ _ _ _ _ _ _ _ _ _ _ _ _)
   | (with_reducible exact ih2 _ _ _ _ _ _ _ _ _ _ _ _ _ _ _ _ _ _ _ _)
   | (with_reducible exact impl_CompareLanes.mono _ _ _ _ _)
   | (with_reducible exact impl_CountLanes.mono _ _)
   | (with_reducible exact impl_FirstLane.mono _ _)
   | (with_reducible exact impl_LaneWise.mono _ _ _ _ _)
   | (with_reducible exact impl_LaneWiseMasked.mono _ _ _ _ _ _ _)
   | (with_reducible exact impl_RampLanes.mono _ _ _ _ _)
   | (with_reducible exact impl_SelectLanes.mono _ _ _ _ _)
   | (with_reducible exact spec_R8Mask.mono _ _ _)
   | (with_reducible exact spec_R8Vector.mono _ _ _ _)
   | (with_reducible exact LeO.refl _)
   | (with_reducible exact LeO.none _)
   | (with_reducible refine LeO.ite ?_ ?_)
   | (with_reducible refine LeO.bind ?_ (fun _ => ?_))
   | exact ih0 _ _ _ _ _ _ _ _ _ _ _ _ _ _ _ _
   | exact ih1 _ _ _ _ _ _ _ _ _ _ _ _ _ _ _ _ _
   | exact ih2 _ _ _ _ _ _ _ _ _ _ _ _ _ _ _ _ _ _ _ _
   | exact impl_CompareLanes.mono _ _ _ _ _
   | exact impl_CountLanes.mono _ _
   | exact impl_FirstLane.mono _ _
   | exact impl_LaneWise.mono _ _ _ _ _
   | exact impl_LaneWiseMasked.mono _ _ _ _ _ _ _
   | exact impl_RampLanes.mono _ _ _ _ _
   | exact impl_SelectLanes.mono _ _ _ _ _
   | exact spec_R8Mask.mono _ _ _
   | exact spec_R8Vector.mono _ _ _ _
   | exact LeO.none _
   | refine LeO.ite ?_ ?_
   | refine LeO.bind ?_ (fun _ => ?_)
def laws_FnLanes.T14 : Bool × List (List Nat × List Nat) := (true, [([], []), ([], []), ([], []), ([2], [2]), ([3], [3]), ([], []), ([5], [5]), ([6], [6]), ([0, 1, 4, 7], [0, 1, 4, 7]), ([8], [8]), ([9], [9]), ([9], [9]), ([10, 8, 0, 1, 2, 3, 4, 5, 6, 7, 8, 9, 10], [10]), ([11, 12, 0, 1, 2, 3, 4, 5, 6, 7, 8, 9, 10, 11, 12], [11])])
def laws_FnLanes.B14 : List Nat := [0, 0, 0, 4, 12, 0, 32, 96, 255, 511, 1023, 1023, 2047, 8191]
theorem laws_FnLanes.tab14 : rtab .any (opsOf Try.f26 14) = laws_FnLanes.T14 := by kernel_rfl
theorem laws_FnLanes.bits14 : waitsOk laws_FnLanes.T14.2 laws_FnLanes.B14 = true := by kernel_rfl
def laws_FnLanes.T24 : Bool × List (List Nat × List Nat) := (true, [([], []), ([], []), ([], []), ([], []), ([2, 3], [2, 3]), ([4], [4]), ([], []), ([], []), ([6, 7], [6, 7]), ([8], [8]), ([0, 1, 5, 9], [0, 1, 5, 9]), ([10], [10]), ([11], [11]), ([11], [11]), ([12, 10, 0, 1, 2, 3, 4, 5, 6, 7, 8, 9, 10, 11, 12], [12]), ([13, 14, 0, 1, 2, 3, 4, 5, 6, 7, 8, 9, 10, 11, 12, 13, 14], [13])])
def laws_FnLanes.B24 : List Nat := [0, 0, 0, 0, 12, 28, 0, 0, 192, 448, 1023, 2047, 4095, 4095, 8191, 32767]
theorem laws_FnLanes.tab24 : rtab .any (opsOf Try.f26 24) = laws_FnLanes.T24 := by kernel_rfl
theorem laws_FnLanes.bits24 : waitsOk laws_FnLanes.T24.2 laws_FnLanes.B24 = true := by kernel_rfl
def laws_FnLanes.T25 : Bool × List (List Nat × List Nat) := (true, [([], []), ([], []), ([], []), ([], []), ([2, 3], [2, 3]), ([4], [4]), ([], []), ([], []), ([6, 7], [6, 7]), ([8], [8]), ([0, 1, 5, 9], [0, 1, 5, 9]), ([10], [10]), ([11], [11]), ([11], [11]), ([12, 10, 0, 1, 2, 3, 4, 5, 6, 7, 8, 9, 10, 11, 12], [12]), ([13, 14, 0, 1, 2, 3, 4, 5, 6, 7, 8, 9, 10, 11, 12, 13, 14], [13])])
def laws_FnLanes.B25 : List Nat := [0, 0, 0, 0, 12, 28, 0, 0, 192, 448, 1023, 2047, 4095, 4095, 8191, 32767]
theorem laws_FnLanes.tab25 : rtab .any (opsOf Try.f26 25) = laws_FnLanes.T25 := by kernel_rfl
theorem laws_FnLanes.bits25 : waitsOk laws_FnLanes.T25.2 laws_FnLanes.B25 = true := by kernel_rfl
def laws_FnLanes.T26 : Bool × List (List Nat × List Nat) := (true, [([], []), ([], []), ([1], [1]), ([2], [2]), ([], []), ([], []), ([5], [5]), ([6], [6]), ([4, 7], [4, 7]), ([3, 8], [3, 8]), ([0, 9], [0, 9]), ([10], [10]), ([11], [11]), ([11], [11]), ([12, 10, 0, 1, 2, 3, 4, 5, 6, 7, 8, 9, 10, 11, 12], [12]), ([13, 14, 0, 1, 2, 3, 4, 5, 6, 7, 8, 9, 10, 11, 12, 13, 14], [13])])
def laws_FnLanes.B26 : List Nat := [0, 0, 2, 6, 0, 0, 32, 96, 240, 510, 1023, 2047, 4095, 4095, 8191, 32767]
theorem laws_FnLanes.tab26 : rtab .any (opsOf Try.f26 26) = laws_FnLanes.T26 := by kernel_rfl
theorem laws_FnLanes.bits26 : waitsOk laws_FnLanes.T26.2 laws_FnLanes.B26 = true := by kernel_rfl
/-- The last region of the round may be walked in the order of the text. -/
theorem laws_FnLanes.lex30 : Region.lexB .any (opsOf Try.f26 30) = true := by kernel_rfl
theorem laws_FnLanes.j0_no {k : Nat} {y0 : Int} {y1 : List Int} {y2 : List Int} {y3 : List Int} {y4 : Int} {y5 : Int} {y6 : List Int} {y7 : List Int} {y8 : List Int} {y9 : List Int} {y10 : List Int} {y11 : Int} {y12 : Int} {y13 : Bool} {y14 : Int} {r : Bool} (h : laws_FnLanes.j0 k y0 y1 y2 y3 y4 y5 y6 y7 y8 y9 y10 y11 y12 y13 y14 true = some r) (hr : r = true) : False := by
  cases k with
  | zero => exact nomatch (show (none : Option Bool) = some r from h)
  | succ k => exact absurd (Option.some.inj (show (some false : Option Bool) = some r from h)) (by rw [hr]; decide)
theorem laws_FnLanes.j2_no {k : Nat} {y0 : Int} {y1 : List Int} {y2 : List Int} {y3 : List Int} {y4 : Int} {y5 : Int} {y6 : List Int} {y7 : List Int} {y8 : List Int} {y9 : List Int} {y10 : List Int} {y11 : Int} {y12 : Int} {y13 : Bool} {y14 : Int} {y15 : Int} {y16 : Int} {y17 : Int} {y18 : Bool} {r : Bool} (h : laws_FnLanes.j2 k y0 y1 y2 y3 y4 y5 y6 y7 y8 y9 y10 y11 y12 y13 y14 y15 y16 y17 y18 true = some r) (hr : r = true) : False := by
  cases k with
  | zero => exact nomatch (show (none : Option Bool) = some r from h)
  | succ k => exact absurd (Option.some.inj (show (some false : Option Bool) = some r from h)) (by rw [hr]; decide)
theorem ways_FnLanes.z1 {a b : Int} (h : decide (a < b) = true) (q : b ≤ a) : False := by
  have := of_decide_eq_true h
  omega
theorem ways_FnLanes.z2 {a b : Int} (h : decide (a < b) = false) (q : ¬ b ≤ a) : False := by
  have := of_decide_eq_false h
  omega
theorem ways_FnLanes.z3 {a b : Int} (h : decide (b ≤ a) = true) (q : a < b) : False := by
  have := of_decide_eq_true h
  omega
theorem ways_FnLanes.z4 {a b : Int} (h : decide (b ≤ a) = false) (q : ¬ a < b) : False := by
  have := of_decide_eq_false h
  omega
theorem ways_FnLanes.z5 {a b : Int} (h : decide (a < b) = true) (q : ¬ a < b) : False := by
  have := of_decide_eq_true h
  omega
theorem ways_FnLanes.z6 {a b : Int} (h : decide (a < b) = false) (q : a < b) : False := by
  have := of_decide_eq_false h
  omega
theorem ways_FnLanes.z7 {a b : Int} (h : decide (b ≤ a) = true) (q : ¬ b ≤ a) : False := by
  have := of_decide_eq_true h
  omega
theorem ways_FnLanes.z8 {a b : Int} (h : decide (b ≤ a) = false) (q : b ≤ a) : False := by
  have := of_decide_eq_false h
  omega
set_option maxHeartbeats 16000000 in
set_option maxRecDepth 100000 in
theorem laws_FnLanes.calls (k : Nat) (A0 : Option Addr) (c0 : Nat) (l0 : List Int) (A1 : Option Addr) (c1 : Nat) (l1 : List Int) (r : Bool) (w : World) (hr0 : Kd.C (Kd.int .u8) w A0 l0.length l0) (hc0 : l0.length ≤ c0) (hr1 : Kd.C (Kd.int .u8) w A1 l1.length l1) (hc1 : l1.length ≤ c1) (h : laws_FnLanes.f k l0 l1 = some r) (hrtrue : r = true) :
  Calls Try.prog 26 #[.slice A0 l0.length c0, .slice A1 l1.length c1] w fun e w' => e = .returned (.bool r) ∧ Below w.heap.size w w' := by
 have HR0 := Aside0.mk hr0
 have HC0 := Aside0.mk hc0
 clear hr0 hc0
 have HR1 := Aside0.mk hr1
 have HC1 := Aside0.mk hc1
 clear hr1 hc1
 have HB := Aside0.mk (Below.refl w.heap.size w)
 have H : ((laws_r8Long.f l0 l1).bind fun t1642 => (if t1642 = true then (some true) else ((spec_R8Bits.f l0).bind fun t1643 => ((spec_R8Lanes.f l1).bind fun t1644 => ((spec_R8Vector.f k l0 t1643 t1644).bind fun t1645 => ((spec_R8Vector.f k l1 t1643 t1644).bind fun t1648 => ((spec_R8Mask.f k l1 t1644).bind fun t1651 => ((laws_r8At.f l1 20 18).bind fun t1654 => ((laws_r8At.f l1 21 6).bind fun t1655 => ((impl_LaneWise.f k t1654 t1643 t1645 t1648).bind fun bt1656 => ((impl_LaneWiseMasked.f k t1654 t1643 t1651 t1648 t1645 t1648).bind fun bt1660 => ((impl_CompareLanes.f k t1655 t1643 t1645 t1648).bind fun bt1664 => ((impl_SelectLanes.f k t1643 bt1664.1 t1645 t1648).bind fun bt1668 => (if 0 < (t1645.length : Int) then (if 0 < (t1648.length : Int) then ((impl_RampLanes.f k t1643 t1644 (rd t1645 0) (rd t1648 0)).bind fun bt1674 => ((impl_CountLanes.f k bt1664.1).bind fun bt1678 => ((impl_FirstLane.f k bt1664.1).bind fun bt1680 => (if bt1656.2 = true then (if bt1660.2 = true then (if bt1664.2 = true then (if bt1668.2 = true then (if bt1674.2 = true then (if bt1678.2 = true then (if (bt1656.1.length : Int) = t1644 then (if (bt1660.1.length : Int) = t1644 then (if (bt1664.1.length : Int) = t1644 then (if (bt1668.1.length : Int) = t1644 then (if (bt1674.1.length : Int) = t1644 then (if (bt1680.2 != (decide (bt1678.1 > 0))) = true then (laws_FnLanes.j0 k t1643 t1645 t1648 t1651 t1654 t1655 bt1656.1 bt1660.1 bt1664.1 bt1668.1 bt1674.1 bt1678.1 bt1680.1 bt1680.2 t1644 true) else (if bt1680.2 = true then (if bt1680.1 < 0 then (laws_FnLanes.j0 k t1643 t1645 t1648 t1651 t1654 t1655 bt1656.1 bt1660.1 bt1664.1 bt1668.1 bt1674.1 bt1678.1 bt1680.1 bt1680.2 t1644 true) else (if bt1680.1 ≥ t1644 then (laws_FnLanes.j0 k t1643 t1645 t1648 t1651 t1654 t1655 bt1656.1 bt1660.1 bt1664.1 bt1668.1 bt1674.1 bt1678.1 bt1680.1 bt1680.2 t1644 true) else (if 0 ≤ bt1680.1 then (if bt1680.1 < (bt1664.1.length : Int) then (laws_FnLanes.j0 k t1643 t1645 t1648 t1651 t1654 t1655 bt1656.1 bt1660.1 bt1664.1 bt1668.1 bt1674.1 bt1678.1 bt1680.1 bt1680.2 t1644 ((rd bt1664.1 bt1680.1) != 1)) else (none)) else (none)))) else (laws_FnLanes.j0 k t1643 t1645 t1648 t1651 t1654 t1655 bt1656.1 bt1660.1 bt1664.1 bt1668.1 bt1674.1 bt1678.1 bt1680.1 bt1680.2 t1644 false))) else (laws_FnLanes.j0 k t1643 t1645 t1648 t1651 t1654 t1655 bt1656.1 bt1660.1 bt1664.1 bt1668.1 bt1674.1 bt1678.1 bt1680.1 bt1680.2 t1644 true)) else (laws_FnLanes.j0 k t1643 t1645 t1648 t1651 t1654 t1655 bt1656.1 bt1660.1 bt1664.1 bt1668.1 bt1674.1 bt1678.1 bt1680.1 bt1680.2 t1644 true)) else (laws_FnLanes.j0 k t1643 t1645 t1648 t1651 t1654 t1655 bt1656.1 bt1660.1 bt1664.1 bt1668.1 bt1674.1 bt1678.1 bt1680.1 bt1680.2 t1644 true)) else (laws_FnLanes.j0 k t1643 t1645 t1648 t1651 t1654 t1655 bt1656.1 bt1660.1 bt1664.1 bt1668.1 bt1674.1 bt1678.1 bt1680.1 bt1680.2 t1644 true)) else (laws_FnLanes.j0 k t1643 t1645 t1648 t1651 t1654 t1655 bt1656.1 bt1660.1 bt1664.1 bt1668.1 bt1674.1 bt1678.1 bt1680.1 bt1680.2 t1644 true)) else (laws_FnLanes.j0 k t1643 t1645 t1648 t1651 t1654 t1655 bt1656.1 bt1660.1 bt1664.1 bt1668.1 bt1674.1 bt1678.1 bt1680.1 bt1680.2 t1644 true)) else (laws_FnLanes.j0 k t1643 t1645 t1648 t1651 t1654 t1655 bt1656.1 bt1660.1 bt1664.1 bt1668.1 bt1674.1 bt1678.1 bt1680.1 bt1680.2 t1644 true)) else (laws_FnLanes.j0 k t1643 t1645 t1648 t1651 t1654 t1655 bt1656.1 bt1660.1 bt1664.1 bt1668.1 bt1674.1 bt1678.1 bt1680.1 bt1680.2 t1644 true)) else (laws_FnLanes.j0 k t1643 t1645 t1648 t1651 t1654 t1655 bt1656.1 bt1660.1 bt1664.1 bt1668.1 bt1674.1 bt1678.1 bt1680.1 bt1680.2 t1644 true)) else (laws_FnLanes.j0 k t1643 t1645 t1648 t1651 t1654 t1655 bt1656.1 bt1660.1 bt1664.1 bt1668.1 bt1674.1 bt1678.1 bt1680.1 bt1680.2 t1644 true)) else (laws_FnLanes.j0 k t1643 t1645 t1648 t1651 t1654 t1655 bt1656.1 bt1660.1 bt1664.1 bt1668.1 bt1674.1 bt1678.1 bt1680.1 bt1680.2 t1644 true))))) else (none)) else (none))))))))))))))) = some r := h
 clear h
 have HRT := Aside0.mk hrtrue
 clear hrtrue
 replace H := Option.bind_eq_some_iff.mp H
 obtain ⟨t1642, A30, H⟩ := H
 try dsimp only at H
 have A3 := Aside0.mk A30
 clear A30
 by_cases c4 : t1642 = true
 ·subst c4
  rw [if_pos rfl] at H
  obtain rfl := Option.some.inj H
  go_enter Try.func26, Try.ntmps26
  go_wp2_with (first | ((with_reducible refine gate_callee (f := 71) rfl ?_); refine goesL_ (some 37) rfl rfl Try.func71 (by kernel_rfl) rfl #[.slice A0 l0.length c0, .slice A1 l1.length c1] rfl (by (try simp only [List.map_toArray, List.map_cons, List.map_nil]); first | done | rfl | (simp only [List.length_drop, List.length_take]; rfl)) ?_; (with_reducible refine (laws_r8Long.calls _ _ l0 _ _ l1 true _ ?side1 ?side2 ?side3 ?side4 A3.out).mono ?_); (case side1 => repeat (first | exact HR0.out | (with_reducible refine Kd.C_alloc ?_ _) | (with_reducible refine Kd.C_drewN ?_ _) | (with_reducible refine Kd.C_drew ?_))); (case side2 => exact HC0.out); (case side3 => repeat (first | exact HR1.out | (with_reducible refine Kd.C_alloc ?_ _) | (with_reducible refine Kd.C_drewN ?_ _) | (with_reducible refine Kd.C_drew ?_))); (case side4 => exact HC1.out); rintro e w' ⟨rfl, ⟨nd, rfl⟩⟩; refine ⟨_, rfl, ?_⟩))
  go_ret
  exact ⟨by first | rfl | (simp [errW_none, errW_some] <;> rfl) | (simp [*, errW_none, errW_some] <;> rfl), by repeat (first | (with_reducible first | exact HB.out | apply below_alloc | apply pw_below_drewN | apply below_drew1) | exact HB.out)⟩
 replace c4 := Bool.eq_false_iff.mpr c4
 subst c4
 rw [if_neg (show ¬ (false = true) by decide)] at H
 replace H := Option.bind_eq_some_iff.mp H
 obtain ⟨t1643, A50, H⟩ := H
 try dsimp only at H
 have A5 := Aside0.mk A50
 clear A50
 replace H := Option.bind_eq_some_iff.mp H
 obtain ⟨t1644, A60, H⟩ := H
 try dsimp only at H
 have A6 := Aside0.mk A60
 clear A60
 replace H := Option.bind_eq_some_iff.mp H
 obtain ⟨t1645, A70, H⟩ := H
 try dsimp only at H
 have A7 := Aside0.mk A70
 clear A70
 replace H := Option.bind_eq_some_iff.mp H
 obtain ⟨t1648, A80, H⟩ := H
 try dsimp only at H
 have A8 := Aside0.mk A80
 clear A80
 replace H := Option.bind_eq_some_iff.mp H
 obtain ⟨t1651, A90, H⟩ := H
 try dsimp only at H
 have A9 := Aside0.mk A90
 clear A90
 replace H := Option.bind_eq_some_iff.mp H
 obtain ⟨t1654, A100, H⟩ := H
 try dsimp only at H
 have A10 := Aside0.mk A100
 clear A100
 replace H := Option.bind_eq_some_iff.mp H
 obtain ⟨t1655, A110, H⟩ := H
 try dsimp only at H
 have A11 := Aside0.mk A110
 clear A110
 replace H := Option.bind_eq_some_iff.mp H
 obtain ⟨⟨t1656, t1659⟩, A120, H⟩ := H
 try dsimp only at H
 have A12 := Aside0.mk A120
 clear A120
 replace H := Option.bind_eq_some_iff.mp H
 obtain ⟨⟨t1660, t1663⟩, A130, H⟩ := H
 try dsimp only at H
 have A13 := Aside0.mk A130
 clear A130
 replace H := Option.bind_eq_some_iff.mp H
 obtain ⟨⟨t1664, t1667⟩, A140, H⟩ := H
 try dsimp only at H
 have A14 := Aside0.mk A140
 clear A140
 replace H := Option.bind_eq_some_iff.mp H
 obtain ⟨⟨t1668, t1671⟩, A150, H⟩ := H
 try dsimp only at H
 have A15 := Aside0.mk A150
 clear A150
 by_cases c16 : 0 < (t1645.length : Int)
 rotate_left
 ·rw [if_neg c16] at H
  exact absurd H (by simp)

 rw [if_pos c16] at H
 have c16b0 : decide (0 < (t1645.length : Int)) = true := decide_eq_true c16
 have c16b1 : decide (0 < t1645.length) = true := decide_eq_true (by omega)
 clear c16
 by_cases c17 : 0 < (t1648.length : Int)
 rotate_left
 ·rw [if_neg c17] at H
  exact absurd H (by simp)
 rw [if_pos c17] at H
 have c17b0 : decide (0 < (t1648.length : Int)) = true := decide_eq_true c17
 have c17b1 : decide (0 < t1648.length) = true := decide_eq_true (by omega)
 clear c17
 replace H := Option.bind_eq_some_iff.mp H
 obtain ⟨⟨t1674, t1675⟩, A180, H⟩ := H
 try dsimp only at H
 have A18 := Aside0.mk A180
 clear A180
 replace H := Option.bind_eq_some_iff.mp H
 obtain ⟨⟨t1678, t1679⟩, A190, H⟩ := H
 try dsimp only at H
 have A19 := Aside0.mk A190
 clear A190
 replace H := Option.bind_eq_some_iff.mp H
 obtain ⟨⟨t1680, t1681⟩, A200, H⟩ := H
 try dsimp only at H
 have A20 := Aside0.mk A200
 clear A200
 have HC21 := Aside0.mk H
 clear H
 go_enter Try.func26, Try.ntmps26
 try go_wp2_with (first | ((with_reducible refine gate_callee (f := 71) rfl ?_); refine goesL_ (some 37) rfl rfl Try.func71 (by kernel_rfl) rfl #[.slice A0 l0.length c0, .slice A1 l1.length c1] rfl (by (try simp only [List.map_toArray, List.map_cons, List.map_nil]); first | done | rfl | (simp only [List.length_drop, List.length_take]; rfl)) ?_; (with_reducible refine (laws_r8Long.calls _ _ l0 _ _ l1 false _ ?side1 ?side2 ?side3 ?side4 A3.out).mono ?_); (case side1 => repeat (first | exact HR0.out | (with_reducible refine Kd.C_alloc ?_ _) | (with_reducible refine Kd.C_drewN ?_ _) | (with_reducible refine Kd.C_drew ?_))); (case side2 => exact HC0.out); (case side3 => repeat (first | exact HR1.out | (with_reducible refine Kd.C_alloc ?_ _) | (with_reducible refine Kd.C_drewN ?_ _) | (with_reducible refine Kd.C_drew ?_))); (case side4 => exact HC1.out); rintro e w' ⟨rfl, ⟨nd, rfl⟩⟩; refine ⟨_, rfl, ?_⟩) | ((with_reducible refine gate_callee (f := 72) rfl ?_); refine goesL_ (some 39) rfl rfl Try.func72 (by kernel_rfl) rfl #[.slice A0 l0.length c0] rfl (by (try simp only [List.map_toArray, List.map_cons, List.map_nil]); first | done | rfl | (simp only [List.length_drop, List.length_take]; rfl)) ?_; (with_reducible refine (spec_R8Bits.calls _ _ l0 t1643 _ ?side1 ?side2 A5.out).mono ?_); (case side1 => repeat (first | exact HR0.out | (with_reducible refine Kd.C_alloc ?_ _) | (with_reducible refine Kd.C_drewN ?_ _) | (with_reducible refine Kd.C_drew ?_))); (case side2 => exact HC0.out); rintro e w22 ⟨rfl, hb⟩; refine ⟨_, rfl, ?_⟩; have n0_ := Aside0.mk (below_step (by repeat (first | (with_reducible first | exact HB.out | apply below_alloc | apply pw_below_drewN | apply below_drew1) | exact HB.out)) hb); clear HB; have HB := n0_; clear n0_; (try clear hb); (try clear hb2); (try clear hk); (try clear hi)) | ((with_reducible refine gate_callee (f := 73) rfl ?_); refine goesL_ (some 41) rfl rfl Try.func73 (by kernel_rfl) rfl #[.slice A1 l1.length c1] rfl (by (try simp only [List.map_toArray, List.map_cons, List.map_nil]); first | done | rfl | (simp only [List.length_drop, List.length_take]; rfl)) ?_; (with_reducible refine (spec_R8Lanes.calls _ _ l1 t1644 _ ?side1 ?side2 A6.out).mono ?_); (case side1 => repeat (first | exact (Kd.C_below HR1.out HB.out) | (with_reducible refine Kd.C_alloc ?_ _) | (with_reducible refine Kd.C_drewN ?_ _) | (with_reducible refine Kd.C_drew ?_))); (case side2 => exact HC1.out); rintro e w23 ⟨rfl, hb⟩; refine ⟨_, rfl, ?_⟩; have n0_ := Aside0.mk (below_step (by repeat (first | (with_reducible first | exact HB.out | apply below_alloc | apply pw_below_drewN | apply below_drew1) | exact HB.out)) hb); clear HB; have HB := n0_; clear n0_; (try clear hb); (try clear hb2); (try clear hk); (try clear hi)) | ((with_reducible refine gate_callee (f := 74) rfl ?_); refine goesL_ (some 45) rfl rfl Try.func74 (by kernel_rfl) rfl #[.slice A0 l0.length c0, .int .i64 t1643, .int .i64 t1644] rfl (by (try simp only [List.map_toArray, List.map_cons, List.map_nil]); first | done | rfl | (simp only [List.length_drop, List.length_take]; rfl)) ?_; (with_reducible refine (spec_R8Vector.calls k _ _ l0 t1643 t1644 t1645 _ ?side1 ?side2 A7.out).mono ?_); (case side1 => repeat (first | exact (Kd.C_below HR0.out HB.out) | (with_reducible refine Kd.C_alloc ?_ _) | (with_reducible refine Kd.C_drewN ?_ _) | (with_reducible refine Kd.C_drew ?_))); (case side2 => exact HC0.out); rintro e w24 ⟨v1646, rfl, ho0, hb⟩; refine ⟨_, rfl, ?_⟩; have n0_ := Aside0.mk (Kd.R_lower ho0 (below_size (by repeat (first | (with_reducible first | exact HB.out | apply below_alloc | apply pw_below_drewN | apply below_drew1) | exact HB.out)))); have n1_ := Aside0.mk (below_step (by repeat (first | (with_reducible first | exact HB.out | apply below_alloc | apply pw_below_drewN | apply below_drew1) | exact HB.out)) hb); clear HB; have HO1647 := n0_; have HB := n1_; clear n0_ n1_; (try clear hb); (try clear hb2); (try clear hk); (try clear hi); (try clear ho0)) | ((with_reducible refine gate_callee (f := 74) rfl ?_); refine goesL_ (some 49) rfl rfl Try.func74 (by kernel_rfl) rfl #[.slice A1 l1.length c1, .int .i64 t1643, .int .i64 t1644] rfl (by (try simp only [List.map_toArray, List.map_cons, List.map_nil]); first | done | rfl | (simp only [List.length_drop, List.length_take]; rfl)) ?_; (with_reducible refine (spec_R8Vector.calls k _ _ l1 t1643 t1644 t1648 _ ?side1 ?side2 A8.out).mono ?_); (case side1 => repeat (first | exact (Kd.C_below HR1.out HB.out) | (with_reducible refine Kd.C_alloc ?_ _) | (with_reducible refine Kd.C_drewN ?_ _) | (with_reducible refine Kd.C_drew ?_))); (case side2 => exact HC1.out); rintro e w25 ⟨v1649, rfl, ho0, hb⟩; refine ⟨_, rfl, ?_⟩; have n0_ := Aside0.mk (Kd.R_elder' (by (with_reducible repeat (first | apply Kd.R_alloc | apply Kd.R_drewN | apply Kd.R_drew)); exact HO1647.out) (Kd.R_base ho0) hb); have n1_ := Aside0.mk (Kd.R_lower (Kd.R_new' ho0 (Kd.R_lt (by (with_reducible repeat (first | apply Kd.R_alloc | apply Kd.R_drewN | apply Kd.R_drew)); exact HO1647.out))) (below_size (by repeat (first | (with_reducible first | exact HB.out | apply below_alloc | apply pw_below_drewN | apply below_drew1) | exact HB.out)))); have n2_ := Aside0.mk (below_step (by repeat (first | (with_reducible first | exact HB.out | apply below_alloc | apply pw_below_drewN | apply below_drew1) | exact HB.out)) hb); clear HO1647; clear HB; have HO1647 := n0_; have HO1650 := n1_; have HB := n2_; clear n0_ n1_ n2_; (try clear hb); (try clear hb2); (try clear hk); (try clear hi); (try clear ho0)) | ((with_reducible refine gate_callee (f := 81) rfl ?_); refine goesL_ (some 52) rfl rfl Try.func81 (by kernel_rfl) rfl #[.slice A1 l1.length c1, .int .i64 t1644] rfl (by (try simp only [List.map_toArray, List.map_cons, List.map_nil]); first | done | rfl | (simp only [List.length_drop, List.length_take]; rfl)) ?_; (with_reducible refine (spec_R8Mask.calls k _ _ l1 t1644 t1651 _ ?side1 ?side2 A9.out).mono ?_); (case side1 => repeat (first | exact (Kd.C_below HR1.out HB.out) | (with_reducible refine Kd.C_alloc ?_ _) | (with_reducible refine Kd.C_drewN ?_ _) | (with_reducible refine Kd.C_drew ?_))); (case side2 => exact HC1.out); rintro e w26 ⟨v1652, rfl, ho0, hb⟩; refine ⟨_, rfl, ?_⟩; have n0_ := Aside0.mk (Kd.R_elder' (by (with_reducible repeat (first | apply Kd.R_alloc | apply Kd.R_drewN | apply Kd.R_drew)); exact HO1647.out) (Kd.R_base ho0) hb); have n1_ := Aside0.mk (Kd.R_elder' (by (with_reducible repeat (first | apply Kd.R_alloc | apply Kd.R_drewN | apply Kd.R_drew)); exact HO1650.out) (Kd.R_base ho0) hb); have n2_ := Aside0.mk (Kd.R_lower (Kd.R_new' (Kd.R_new' ho0 (Kd.R_lt (by (with_reducible repeat (first | apply Kd.R_alloc | apply Kd.R_drewN | apply Kd.R_drew)); exact HO1647.out))) (Kd.R_lt (by (with_reducible repeat (first | apply Kd.R_alloc | apply Kd.R_drewN | apply Kd.R_drew)); exact HO1650.out))) (below_size (by repeat (first | (with_reducible first | exact HB.out | apply below_alloc | apply pw_below_drewN | apply below_drew1) | exact HB.out)))); have n3_ := Aside0.mk (below_step (by repeat (first | (with_reducible first | exact HB.out | apply below_alloc | apply pw_below_drewN | apply below_drew1) | exact HB.out)) hb); clear HO1647; clear HO1650; clear HB; have HO1647 := n0_; have HO1650 := n1_; have HO1653 := n2_; have HB := n3_; clear n0_ n1_ n2_ n3_; (try clear hb); (try clear hb2); (try clear hk); (try clear hi); (try clear ho0)) | ((with_reducible refine gate_callee (f := 75) rfl ?_); refine goesL_ (some 54) rfl rfl Try.func75 (by kernel_rfl) rfl #[.slice A1 l1.length c1, .int .i64 20, .int .i64 18] rfl (by (try simp only [List.map_toArray, List.map_cons, List.map_nil]); first | done | rfl | (simp only [List.length_drop, List.length_take]; rfl)) ?_; (with_reducible refine (laws_r8At.calls _ _ l1 20 18 t1654 _ ?side1 ?side2 A10.out).mono ?_); (case side1 => repeat (first | exact (Kd.C_below HR1.out HB.out) | (with_reducible refine Kd.C_alloc ?_ _) | (with_reducible refine Kd.C_drewN ?_ _) | (with_reducible refine Kd.C_drew ?_))); (case side2 => exact HC1.out); rintro e w' ⟨rfl, ⟨nd, rfl⟩⟩; refine ⟨_, rfl, ?_⟩) | ((with_reducible refine gate_callee (f := 75) rfl ?_); refine goesL_ (some 56) rfl rfl Try.func75 (by kernel_rfl) rfl #[.slice A1 l1.length c1, .int .i64 21, .int .i64 6] rfl (by (try simp only [List.map_toArray, List.map_cons, List.map_nil]); first | done | rfl | (simp only [List.length_drop, List.length_take]; rfl)) ?_; (with_reducible refine (laws_r8At.calls _ _ l1 21 6 t1655 _ ?side1 ?side2 A11.out).mono ?_); (case side1 => repeat (first | exact (Kd.C_below HR1.out (by repeat (first | (with_reducible first | exact HB.out | apply below_alloc | apply pw_below_drewN | apply below_drew1) | exact HB.out))) | (with_reducible refine Kd.C_alloc ?_ _) | (with_reducible refine Kd.C_drewN ?_ _) | (with_reducible refine Kd.C_drew ?_))); (case side2 => exact HC1.out); rintro e w' ⟨rfl, ⟨nd, rfl⟩⟩; refine ⟨_, rfl, ?_⟩; obtain ⟨Ao27, co27, eo27⟩ := Kd.R_slice HO1647.out; subst eo27; obtain ⟨Ao28, co28, eo28⟩ := Kd.R_slice HO1650.out; subst eo28) | ((with_reducible refine gate_callee (f := 66) rfl ?_); refine goesL_ (some 62) rfl rfl Try.func66 (by kernel_rfl) rfl #[.int .i64 t1654, .int .i64 t1643, .slice Ao27 t1645.length co27, .slice Ao28 t1648.length co28] rfl (by (try simp only [List.map_toArray, List.map_cons, List.map_nil]); first | done | rfl | (simp only [List.length_drop, List.length_take]; rfl)) ?_; (with_reducible refine (impl_LaneWise.calls k t1654 t1643 (fun k_ => some k_ = (.slice Ao27 t1645.length co27 : Value).ownBlock) _ _ t1645 (fun k_ => some k_ = (.slice Ao28 t1648.length co28 : Value).ownBlock) _ _ t1648 t1656 t1659 _ ?side1 ?side2 A12.out).mono ?_); (case side1 => exact Kd.R_V (Kd.R_tight rfl (HO1647.out))); (case side2 => exact Kd.R_V (Kd.R_tight rfl (HO1650.out))); rintro e w29 ⟨v1657, rfl, ho0, hb⟩; refine ⟨_, rfl, ?_⟩; have n0_ := Aside0.mk (Kd.R_elder' (by (with_reducible repeat (first | apply Kd.R_alloc | apply Kd.R_drewN | apply Kd.R_drew)); exact HO1647.out) (Kd.R_base ho0) hb); have n1_ := Aside0.mk (Kd.R_elder' (by (with_reducible repeat (first | apply Kd.R_alloc | apply Kd.R_drewN | apply Kd.R_drew)); exact HO1650.out) (Kd.R_base ho0) hb); have n2_ := Aside0.mk (Kd.R_elder' (by (with_reducible repeat (first | apply Kd.R_alloc | apply Kd.R_drewN | apply Kd.R_drew)); exact HO1653.out) (Kd.R_base ho0) hb); have n3_ := Aside0.mk (Kd.R_lower (Kd.R_new' (Kd.R_new' (Kd.R_new' (Kd.R_mono (ok' := fun k_ => True) ho0 (fun _ hk_ => trivial)) (Kd.R_lt (by (with_reducible repeat (first | apply Kd.R_alloc | apply Kd.R_drewN | apply Kd.R_drew)); exact HO1647.out))) (Kd.R_lt (by (with_reducible repeat (first | apply Kd.R_alloc | apply Kd.R_drewN | apply Kd.R_drew)); exact HO1650.out))) (Kd.R_lt (by (with_reducible repeat (first | apply Kd.R_alloc | apply Kd.R_drewN | apply Kd.R_drew)); exact HO1653.out))) (below_size (by repeat (first | (with_reducible first | exact HB.out | apply below_alloc | apply pw_below_drewN | apply below_drew1) | exact HB.out)))); have n4_ := Aside0.mk (below_step (by repeat (first | (with_reducible first | exact HB.out | apply below_alloc | apply pw_below_drewN | apply below_drew1) | exact HB.out)) hb); clear HO1647; clear HO1650; clear HO1653; clear HB; have HO1647 := n0_; have HO1650 := n1_; have HO1653 := n2_; have HO1658 := n3_; have HB := n4_; clear n0_ n1_ n2_ n3_ n4_; (try clear hb); (try clear hb2); (try clear hk); (try clear hi); (try clear ho0); obtain ⟨Ao30, co30, eo30⟩ := Kd.R_slice HO1653.out; subst eo30) | ((with_reducible refine gate_callee (f := 70) rfl ?_); refine goesL_ (some 72) rfl rfl Try.func70 (by kernel_rfl) rfl #[.int .i64 t1654, .int .i64 t1643, .slice Ao30 t1651.length co30, .slice Ao28 t1648.length co28, .slice Ao27 t1645.length co27, .slice Ao28 t1648.length co28] rfl (by (try simp only [List.map_toArray, List.map_cons, List.map_nil]); first | done | rfl | (simp only [List.length_drop, List.length_take]; rfl)) ?_; (with_reducible refine (impl_LaneWiseMasked.calls k t1654 t1643 _ _ t1651 (fun k_ => some k_ = (.slice Ao28 t1648.length co28 : Value).ownBlock) _ _ t1648 (fun k_ => some k_ = (.slice Ao27 t1645.length co27 : Value).ownBlock) _ _ t1645 (fun k_ => some k_ = (.slice Ao28 t1648.length co28 : Value).ownBlock) _ _ t1648 t1660 t1663 _ ?side1 ?side2 ?side3 ?side4 ?side5 A13.out).mono ?_); (case side1 => repeat (first | exact (Kd.R_reads' HO1653.out).2.2 | (with_reducible refine Kd.C_alloc ?_ _) | (with_reducible refine Kd.C_drewN ?_ _) | (with_reducible refine Kd.C_drew ?_))); (case side2 => exact (Kd.R_reads' HO1653.out).2.1); (case side3 => exact Kd.R_V (Kd.R_tight rfl (HO1650.out))); (case side4 => exact Kd.R_V (Kd.R_tight rfl (HO1647.out))); (case side5 => exact Kd.R_V (Kd.R_tight rfl (HO1650.out))); rintro e w31 ⟨v1661, rfl, ho0, hb⟩; refine ⟨_, rfl, ?_⟩; have n0_ := Aside0.mk (Kd.R_elder' (by (with_reducible repeat (first | apply Kd.R_alloc | apply Kd.R_drewN | apply Kd.R_drew)); exact HO1647.out) (Kd.R_base ho0) hb); have n1_ := Aside0.mk (Kd.R_elder' (by (with_reducible repeat (first | apply Kd.R_alloc | apply Kd.R_drewN | apply Kd.R_drew)); exact HO1650.out) (Kd.R_base ho0) hb); have n2_ := Aside0.mk (Kd.R_elder' (by (with_reducible repeat (first | apply Kd.R_alloc | apply Kd.R_drewN | apply Kd.R_drew)); exact HO1653.out) (Kd.R_base ho0) hb); have n3_ := Aside0.mk (Kd.R_elder' (by (with_reducible repeat (first | apply Kd.R_alloc | apply Kd.R_drewN | apply Kd.R_drew)); exact HO1658.out) (Kd.R_base ho0) hb); have n4_ := Aside0.mk (Kd.R_lower (Kd.R_new' (Kd.R_new' (Kd.R_new' (Kd.R_new' (Kd.R_mono (ok' := fun k_ => True) ho0 (fun _ hk_ => trivial)) (Kd.R_lt (by (with_reducible repeat (first | apply Kd.R_alloc | apply Kd.R_drewN | apply Kd.R_drew)); exact HO1647.out))) (Kd.R_lt (by (with_reducible repeat (first | apply Kd.R_alloc | apply Kd.R_drewN | apply Kd.R_drew)); exact HO1650.out))) (Kd.R_lt (by (with_reducible repeat (first | apply Kd.R_alloc | apply Kd.R_drewN | apply Kd.R_drew)); exact HO1653.out))) (Kd.R_lt (by (with_reducible repeat (first | apply Kd.R_alloc | apply Kd.R_drewN | apply Kd.R_drew)); exact HO1658.out))) (below_size (by repeat (first | (with_reducible first | exact HB.out | apply below_alloc | apply pw_below_drewN | apply below_drew1) | exact HB.out)))); have n5_ := Aside0.mk (below_step (by repeat (first | (with_reducible first | exact HB.out | apply below_alloc | apply pw_below_drewN | apply below_drew1) | exact HB.out)) hb); clear HO1647; clear HO1650; clear HO1653; clear HO1658; clear HB; have HO1647 := n0_; have HO1650 := n1_; have HO1653 := n2_; have HO1658 := n3_; have HO1662 := n4_; have HB := n5_; clear n0_ n1_ n2_ n3_ n4_ n5_; (try clear hb); (try clear hb2); (try clear hk); (try clear hi); (try clear ho0)) | ((with_reducible refine gate_callee (f := 58) rfl ?_); refine goesL_ (some 80) rfl rfl Try.func58 (by kernel_rfl) rfl #[.int .i64 t1655, .int .i64 t1643, .slice Ao27 t1645.length co27, .slice Ao28 t1648.length co28] rfl (by (try simp only [List.map_toArray, List.map_cons, List.map_nil]); first | done | rfl | (simp only [List.length_drop, List.length_take]; rfl)) ?_; (with_reducible refine (impl_CompareLanes.calls k t1655 t1643 (fun k_ => some k_ = (.slice Ao27 t1645.length co27 : Value).ownBlock) _ _ t1645 (fun k_ => some k_ = (.slice Ao28 t1648.length co28 : Value).ownBlock) _ _ t1648 t1664 t1667 _ ?side1 ?side2 A14.out).mono ?_); (case side1 => exact Kd.R_V (Kd.R_tight rfl (HO1647.out))); (case side2 => exact Kd.R_V (Kd.R_tight rfl (HO1650.out))); rintro e w32 ⟨v1665, rfl, ho0, hb⟩; refine ⟨_, rfl, ?_⟩; have n0_ := Aside0.mk (Kd.R_elder' (by (with_reducible repeat (first | apply Kd.R_alloc | apply Kd.R_drewN | apply Kd.R_drew)); exact HO1647.out) (Kd.R_base ho0) hb); have n1_ := Aside0.mk (Kd.R_elder' (by (with_reducible repeat (first | apply Kd.R_alloc | apply Kd.R_drewN | apply Kd.R_drew)); exact HO1650.out) (Kd.R_base ho0) hb); have n2_ := Aside0.mk (Kd.R_elder' (by (with_reducible repeat (first | apply Kd.R_alloc | apply Kd.R_drewN | apply Kd.R_drew)); exact HO1653.out) (Kd.R_base ho0) hb); have n3_ := Aside0.mk (Kd.R_elder' (by (with_reducible repeat (first | apply Kd.R_alloc | apply Kd.R_drewN | apply Kd.R_drew)); exact HO1658.out) (Kd.R_base ho0) hb); have n4_ := Aside0.mk (Kd.R_elder' (by (with_reducible repeat (first | apply Kd.R_alloc | apply Kd.R_drewN | apply Kd.R_drew)); exact HO1662.out) (Kd.R_base ho0) hb); have n5_ := Aside0.mk (Kd.R_lower (Kd.R_new' (Kd.R_new' (Kd.R_new' (Kd.R_new' (Kd.R_new' (Kd.R_mono (ok' := fun k_ => True) ho0 (fun _ hk_ => trivial)) (Kd.R_lt (by (with_reducible repeat (first | apply Kd.R_alloc | apply Kd.R_drewN | apply Kd.R_drew)); exact HO1647.out))) (Kd.R_lt (by (with_reducible repeat (first | apply Kd.R_alloc | apply Kd.R_drewN | apply Kd.R_drew)); exact HO1650.out))) (Kd.R_lt (by (with_reducible repeat (first | apply Kd.R_alloc | apply Kd.R_drewN | apply Kd.R_drew)); exact HO1653.out))) (Kd.R_lt (by (with_reducible repeat (first | apply Kd.R_alloc | apply Kd.R_drewN | apply Kd.R_drew)); exact HO1658.out))) (Kd.R_lt (by (with_reducible repeat (first | apply Kd.R_alloc | apply Kd.R_drewN | apply Kd.R_drew)); exact HO1662.out))) (below_size (by repeat (first | (with_reducible first | exact HB.out | apply below_alloc | apply pw_below_drewN | apply below_drew1) | exact HB.out)))); have n6_ := Aside0.mk (below_step (by repeat (first | (with_reducible first | exact HB.out | apply below_alloc | apply pw_below_drewN | apply below_drew1) | exact HB.out)) hb); clear HO1647; clear HO1650; clear HO1653; clear HO1658; clear HO1662; clear HB; have HO1647 := n0_; have HO1650 := n1_; have HO1653 := n2_; have HO1658 := n3_; have HO1662 := n4_; have HO1666 := n5_; have HB := n6_; clear n0_ n1_ n2_ n3_ n4_ n5_ n6_; (try clear hb); (try clear hb2); (try clear hk); (try clear hi); (try clear ho0); obtain ⟨Ao33, co33, eo33⟩ := Kd.R_slice HO1666.out; subst eo33) | ((with_reducible refine gate_callee (f := 54) rfl ?_); refine goesL_ (some 88) rfl rfl Try.func54 (by kernel_rfl) rfl #[.int .i64 t1643, .slice Ao33 t1664.length co33, .slice Ao27 t1645.length co27, .slice Ao28 t1648.length co28] rfl (by (try simp only [List.map_toArray, List.map_cons, List.map_nil]); first | done | rfl | (simp only [List.length_drop, List.length_take]; rfl)) ?_; (with_reducible refine (impl_SelectLanes.calls k t1643 _ _ t1664 (fun k_ => some k_ = (.slice Ao27 t1645.length co27 : Value).ownBlock) _ _ t1645 (fun k_ => some k_ = (.slice Ao28 t1648.length co28 : Value).ownBlock) _ _ t1648 t1668 t1671 _ ?side1 ?side2 ?side3 ?side4 A15.out).mono ?_); (case side1 => repeat (first | exact (Kd.R_reads' HO1666.out).2.2 | (with_reducible refine Kd.C_alloc ?_ _) | (with_reducible refine Kd.C_drewN ?_ _) | (with_reducible refine Kd.C_drew ?_))); (case side2 => exact (Kd.R_reads' HO1666.out).2.1); (case side3 => exact Kd.R_V (Kd.R_tight rfl (HO1647.out))); (case side4 => exact Kd.R_V (Kd.R_tight rfl (HO1650.out))); rintro e w34 ⟨v1669, rfl, ho0, hb⟩; refine ⟨_, rfl, ?_⟩; have n0_ := Aside0.mk (Kd.R_elder' (by (with_reducible repeat (first | apply Kd.R_alloc | apply Kd.R_drewN | apply Kd.R_drew)); exact HO1647.out) (Kd.R_base ho0) hb); have n1_ := Aside0.mk (Kd.R_elder' (by (with_reducible repeat (first | apply Kd.R_alloc | apply Kd.R_drewN | apply Kd.R_drew)); exact HO1650.out) (Kd.R_base ho0) hb); have n2_ := Aside0.mk (Kd.R_elder' (by (with_reducible repeat (first | apply Kd.R_alloc | apply Kd.R_drewN | apply Kd.R_drew)); exact HO1653.out) (Kd.R_base ho0) hb); have n3_ := Aside0.mk (Kd.R_elder' (by (with_reducible repeat (first | apply Kd.R_alloc | apply Kd.R_drewN | apply Kd.R_drew)); exact HO1658.out) (Kd.R_base ho0) hb); have n4_ := Aside0.mk (Kd.R_elder' (by (with_reducible repeat (first | apply Kd.R_alloc | apply Kd.R_drewN | apply Kd.R_drew)); exact HO1662.out) (Kd.R_base ho0) hb); have n5_ := Aside0.mk (Kd.R_elder' (by (with_reducible repeat (first | apply Kd.R_alloc | apply Kd.R_drewN | apply Kd.R_drew)); exact HO1666.out) (Kd.R_base ho0) hb); have n6_ := Aside0.mk (Kd.R_lower (Kd.R_new' (Kd.R_new' (Kd.R_new' (Kd.R_new' (Kd.R_new' (Kd.R_new' (Kd.R_mono (ok' := fun k_ => True) ho0 (fun _ hk_ => trivial)) (Kd.R_lt (by (with_reducible repeat (first | apply Kd.R_alloc | apply Kd.R_drewN | apply Kd.R_drew)); exact HO1647.out))) (Kd.R_lt (by (with_reducible repeat (first | apply Kd.R_alloc | apply Kd.R_drewN | apply Kd.R_drew)); exact HO1650.out))) (Kd.R_lt (by (with_reducible repeat (first | apply Kd.R_alloc | apply Kd.R_drewN | apply Kd.R_drew)); exact HO1653.out))) (Kd.R_lt (by (with_reducible repeat (first | apply Kd.R_alloc | apply Kd.R_drewN | apply Kd.R_drew)); exact HO1658.out))) (Kd.R_lt (by (with_reducible repeat (first | apply Kd.R_alloc | apply Kd.R_drewN | apply Kd.R_drew)); exact HO1662.out))) (Kd.R_lt (by (with_reducible repeat (first | apply Kd.R_alloc | apply Kd.R_drewN | apply Kd.R_drew)); exact HO1666.out))) (below_size (by repeat (first | (with_reducible first | exact HB.out | apply below_alloc | apply pw_below_drewN | apply below_drew1) | exact HB.out)))); have n7_ := Aside0.mk (below_step (by repeat (first | (with_reducible first | exact HB.out | apply below_alloc | apply pw_below_drewN | apply below_drew1) | exact HB.out)) hb); clear HO1647; clear HO1650; clear HO1653; clear HO1658; clear HO1662; clear HO1666; clear HB; have HO1647 := n0_; have HO1650 := n1_; have HO1653 := n2_; have HO1658 := n3_; have HO1662 := n4_; have HO1666 := n5_; have HO1670 := n6_; have HB := n7_; clear n0_ n1_ n2_ n3_ n4_ n5_ n6_ n7_; (try clear hb); (try clear hb2); (try clear hk); (try clear hi); (try clear ho0)))
 have n0_ := Aside0.mk (Kd.R_drew HO1647.out)
 have n1_ := Aside0.mk (Kd.R_drew HO1650.out)
 have n2_ := Aside0.mk (Kd.R_drew HO1653.out)
 have n3_ := Aside0.mk (Kd.R_drew HO1658.out)
 have n4_ := Aside0.mk (Kd.R_drew HO1662.out)
 have n5_ := Aside0.mk (Kd.R_drew HO1666.out)
 have n6_ := Aside0.mk (Kd.R_drew HO1670.out)
 have n7_ := Aside0.mk (below_drew1 HB.out)
 clear HO1647
 clear HO1650
 clear HO1653
 clear HO1658
 clear HO1662
 clear HO1666
 clear HO1670
 clear HB
 have HO1647 := n0_
 have HO1650 := n1_
 have HO1653 := n2_
 have HO1658 := n3_
 have HO1662 := n4_
 have HO1666 := n5_
 have HO1670 := n6_
 have HB := n7_
 clear n0_ n1_ n2_ n3_ n4_ n5_ n6_ n7_
 have p1672 : 0 ≤ (0 : Int) := (by omega)
 have q1672 : 0 < (t1645.length : Int) := of_decide_eq_true (by first | (with_reducible assumption) | assumption)
 obtain ⟨ad1672, e1672, hx1672_0⟩ := Kd.at_int (Kd.R_reads' HO1647.out).2.2 0 p1672 q1672
 cases e1672
 have qi1672 : (0 < t1645.length) = True := eq_true (by omega)
 (try rw [show ((0 : Int)).toNat = 0 from rfl] at hx1672_0)
 (try rw [Addr.add_zero'] at hx1672_0)
 replace p1672 := eq_true p1672
 replace q1672 := eq_true q1672
 have p1673 : 0 ≤ (0 : Int) := (by omega)
 have q1673 : 0 < (t1648.length : Int) := of_decide_eq_true (by first | (with_reducible assumption) | assumption)
 obtain ⟨ad1673, e1673, hx1673_0⟩ := Kd.at_int (Kd.R_reads' HO1650.out).2.2 0 p1673 q1673
 cases e1673
 have qi1673 : (0 < t1648.length) = True := eq_true (by omega)
 (try rw [show ((0 : Int)).toNat = 0 from rfl] at hx1673_0)
 (try rw [Addr.add_zero'] at hx1673_0)
 replace p1673 := eq_true p1673
 replace q1673 := eq_true q1673
 refine start_ (n := 14) (S := fun w' => w'.cell? ad1672 = some (.int .i64 (rd t1645 0)) ∧ w'.cell? ad1673 = some (.int .i64 (rd t1648 0))) (ds := []) #[false, false, false, false, false, false, false, false, false, false, false, false, false, false] (by kernel_rfl) rfl rfl ⟨hx1672_0, hx1673_0⟩ (fun hHeld => ?_); refine with_tabW laws_FnLanes.tab14 laws_FnLanes.bits14 (fun HT_ HW_ => ?_)
 generalize w34.drew = w35 at HO1647 HO1650 HO1653 HO1658 HO1662 HO1666 HO1670 HB hx1672_0 hx1673_0 hHeld ⊢
 refine pure_ (i := 0) (N := some 92) (v := ?_) (a' := ?_) #[true, false, false, false, false, false, false, false, false, false, false, false, false, false] rfl rfl (any_of HT_.out (by kernel_rfl)) (fun _ _ _ h => h) (Or.inl ⟨by rfl, ?_⟩) ?_ ?_
 rotate_left
 ·intro w'
  go_simp
  with_reducible rfl
 rotate_left
 ·simp only [Act.put, List.setIfInBounds_toArray, List.set_cons_zero, List.set_cons_succ, i64_w, i32_w]
  rfl
 refine pure_ (i := 1) (N := some 93) (v := ?_) (a' := ?_) #[true, true, false, false, false, false, false, false, false, false, false, false, false, false] rfl rfl (any_of HT_.out (by kernel_rfl)) (fun _ _ _ h => h) (Or.inl ⟨by rfl, ?_⟩) ?_ ?_
 rotate_left
 ·intro w'
  go_simp
  with_reducible rfl
 rotate_left
 ·simp only [Act.put, List.setIfInBounds_toArray, List.set_cons_zero, List.set_cons_succ, i64_w, i32_w]
  rfl
 refine pure_ (i := 2) (N := some 94) (v := ?_) (a' := ?_) #[true, true, true, false, false, false, false, false, false, false, false, false, false, false] rfl rfl (any_of HT_.out (by kernel_rfl)) (fun _ _ _ h => h) (Or.inl ⟨by rfl, ?_⟩) ?_ ?_
 rotate_left
 ·intro w'
  go_simp
  with_reducible rfl
 rotate_left
 ·simp only [Act.put, List.setIfInBounds_toArray, List.set_cons_zero, List.set_cons_succ, i64_w, i32_w]
  rfl
 refine pure_ (i := 3) (N := some 95) (v := ?_) (a' := ?_) #[true, true, true, true, false, false, false, false, false, false, false, false, false, false] rfl rfl (any_of HT_.out (by kernel_rfl)) (fun _ _ _ h => h) (Or.inl ⟨by rfl, ?_⟩) ?_ ?_
 rotate_left
 ·intro w'
  go_simp
  with_reducible rfl
 rotate_left
 ·simp only [Act.put, List.setIfInBounds_toArray, List.set_cons_zero, List.set_cons_succ, i64_w, i32_w]
  rfl
 refine pure_ (i := 5) (N := some 97) (v := ?_) (a' := ?_) #[true, true, true, true, false, true, false, false, false, false, false, false, false, false] rfl rfl (any_of HT_.out (by kernel_rfl)) (fun _ _ _ h => h) (Or.inl ⟨by rfl, ?_⟩) ?_ ?_
 rotate_left
 ·intro w'
  go_simp
  with_reducible rfl
 rotate_left
 ·simp only [Act.put, List.setIfInBounds_toArray, List.set_cons_zero, List.set_cons_succ, i64_w, i32_w]
  rfl
 refine pure_ (i := 6) (N := some 98) (v := ?_) (a' := ?_) #[true, true, true, true, false, true, true, false, false, false, false, false, false, false] rfl rfl (any_of HT_.out (by kernel_rfl)) (fun _ _ _ h => h) (Or.inl ⟨by rfl, ?_⟩) ?_ ?_
 rotate_left
 ·intro w'
  go_simp
  with_reducible rfl
 rotate_left
 ·simp only [Act.put, List.setIfInBounds_toArray, List.set_cons_zero, List.set_cons_succ, i64_w, i32_w]
  rfl
 refine take_ (i := 4) (N := some 96) (v := ?_) (a' := ?_) #[true, true, true, true, true, true, true, false, false, false, false, false, false, false] rfl rfl (take_ofW HT_.out HW_.out (by kernel_rfl)) (fun _ _ _ h => h) (Or.inl ⟨by rfl, ?_⟩) hHeld ?_ ?_
 rotate_left
 ·rintro w' ⟨s0, s1⟩
  go_simp
  with_reducible rfl
 rotate_left
 ·simp only [Act.put, List.setIfInBounds_toArray, List.set_cons_zero, List.set_cons_succ, i64_w, i32_w]
  rfl
 refine take_ (i := 7) (N := some 99) (v := ?_) (a' := ?_) #[true, true, true, true, true, true, true, true, false, false, false, false, false, false] rfl rfl (take_ofW HT_.out HW_.out (by kernel_rfl)) (fun _ _ _ h => h) (Or.inl ⟨by rfl, ?_⟩) hHeld ?_ ?_
 rotate_left
 ·rintro w' ⟨s0, s1⟩
  go_simp
  with_reducible rfl
 rotate_left
 ·simp only [Act.put, List.setIfInBounds_toArray, List.set_cons_zero, List.set_cons_succ, i64_w, i32_w]
  rfl
 refine one_ (i := 8) (N := some 100) #[true, true, true, true, true, true, true, true, true, false, false, false, false, false] rfl rfl (one_of HT_.out (by kernel_rfl)) (by decide) (fun K hK => ?_)
 refine goes_ Try.func34 (by kernel_rfl) rfl #[.int .i64 t1643, .int .i64 t1644, .int .i64 (rd t1645 0), .int .i64 (rd t1648 0)] (by rfl) rfl rfl (by (try simp only [List.map_toArray, List.map_cons, List.map_nil]); first | done | rfl | (simp only [List.length_drop, List.length_take]; rfl)) ?_
 with_reducible refine (impl_RampLanes.calls k t1643 t1644 (rd t1645 0) (rd t1648 0) t1674 t1675 _ A18.out).mono ?_
 rintro e w36 ⟨v1676, rfl, ho0, hb⟩
 have HS0_ := (hb.cell (World.block_lt_of_cell? _ _ (hHeld.1))).trans (hHeld.1)
 have HS1_ := (hb.cell (World.block_lt_of_cell? _ _ (hHeld.2))).trans (hHeld.2)
 refine ⟨_, rfl, ?_⟩
 have n0_ := Aside0.mk (Kd.R_elder' (by (with_reducible repeat (first | apply Kd.R_alloc | apply Kd.R_drewN | apply Kd.R_drew)); exact HO1647.out) (Kd.R_base ho0) hb)
 have n1_ := Aside0.mk (Kd.R_elder' (by (with_reducible repeat (first | apply Kd.R_alloc | apply Kd.R_drewN | apply Kd.R_drew)); exact HO1650.out) (Kd.R_base ho0) hb)
 have n2_ := Aside0.mk (Kd.R_elder' (by (with_reducible repeat (first | apply Kd.R_alloc | apply Kd.R_drewN | apply Kd.R_drew)); exact HO1653.out) (Kd.R_base ho0) hb)
 have n3_ := Aside0.mk (Kd.R_elder' (by (with_reducible repeat (first | apply Kd.R_alloc | apply Kd.R_drewN | apply Kd.R_drew)); exact HO1658.out) (Kd.R_base ho0) hb)
 have n4_ := Aside0.mk (Kd.R_elder' (by (with_reducible repeat (first | apply Kd.R_alloc | apply Kd.R_drewN | apply Kd.R_drew)); exact HO1662.out) (Kd.R_base ho0) hb)
 have n5_ := Aside0.mk (Kd.R_elder' (by (with_reducible repeat (first | apply Kd.R_alloc | apply Kd.R_drewN | apply Kd.R_drew)); exact HO1666.out) (Kd.R_base ho0) hb)
 have n6_ := Aside0.mk (Kd.R_elder' (by (with_reducible repeat (first | apply Kd.R_alloc | apply Kd.R_drewN | apply Kd.R_drew)); exact HO1670.out) (Kd.R_base ho0) hb)
 have n7_ := Aside0.mk (Kd.R_lower (Kd.R_new' (Kd.R_new' (Kd.R_new' (Kd.R_new' (Kd.R_new' (Kd.R_new' (Kd.R_new' ho0 (Kd.R_lt (by (with_reducible repeat (first | apply Kd.R_alloc | apply Kd.R_drewN | apply Kd.R_drew)); exact HO1647.out))) (Kd.R_lt (by (with_reducible repeat (first | apply Kd.R_alloc | apply Kd.R_drewN | apply Kd.R_drew)); exact HO1650.out))) (Kd.R_lt (by (with_reducible repeat (first | apply Kd.R_alloc | apply Kd.R_drewN | apply Kd.R_drew)); exact HO1653.out))) (Kd.R_lt (by (with_reducible repeat (first | apply Kd.R_alloc | apply Kd.R_drewN | apply Kd.R_drew)); exact HO1658.out))) (Kd.R_lt (by (with_reducible repeat (first | apply Kd.R_alloc | apply Kd.R_drewN | apply Kd.R_drew)); exact HO1662.out))) (Kd.R_lt (by (with_reducible repeat (first | apply Kd.R_alloc | apply Kd.R_drewN | apply Kd.R_drew)); exact HO1666.out))) (Kd.R_lt (by (with_reducible repeat (first | apply Kd.R_alloc | apply Kd.R_drewN | apply Kd.R_drew)); exact HO1670.out))) (below_size (by repeat (first | (with_reducible first | exact HB.out | apply below_alloc | apply pw_below_drewN | apply below_drew1) | exact HB.out))))
 have n8_ := Aside0.mk (below_step (by repeat (first | (with_reducible first | exact HB.out | apply below_alloc | apply pw_below_drewN | apply below_drew1) | exact HB.out)) hb)
 clear HO1647
 clear HO1650
 clear HO1653
 clear HO1658
 clear HO1662
 clear HO1666
 clear HO1670
 clear HB
 have HO1647 := n0_
 have HO1650 := n1_
 have HO1653 := n2_
 have HO1658 := n3_
 have HO1662 := n4_
 have HO1666 := n5_
 have HO1670 := n6_
 have HO1677 := n7_
 have HB := n8_
 clear n0_ n1_ n2_ n3_ n4_ n5_ n6_ n7_ n8_
 (try clear hb)
 (try clear hb2)
 (try clear hk)
 (try clear hi)
 (try clear ho0)
 refine hK.out _ _ ⟨HS0_, HS1_⟩ (fun hHeld => ?_)
 clear hK K
 refine norm_ (a' := ?_) ?_ ?_
 rotate_left
 ·show Act.put _ (some 100) _ = _
  simp only [Act.put, List.setIfInBounds_toArray, List.set_cons_zero, List.set_cons_succ, i64_w, i32_w]
  rfl
 refine pure_ (i := 9) (N := some 91) (v := ?_) (a' := ?_) #[true, true, true, true, true, true, true, true, true, true, false, false, false, false] rfl rfl (any_of HT_.out (by kernel_rfl)) (fun _ _ _ h => h) (Or.inl ⟨by rfl, ?_⟩) ?_ ?_
 rotate_left
 ·intro w'
  go_simp
  with_reducible rfl
 rotate_left
 ·simp only [Act.put, List.setIfInBounds_toArray, List.set_cons_zero, List.set_cons_succ, i64_w, i32_w]
  rfl
 refine pure_ (i := 10) (N := some 101) (v := ?_) (a' := ?_) #[true, true, true, true, true, true, true, true, true, true, true, false, false, false] rfl rfl (any_of HT_.out (by kernel_rfl)) (fun _ _ _ h => h) (Or.inl ⟨by rfl, ?_⟩) ?_ ?_
 rotate_left
 ·intro w'
  go_simp
  with_reducible rfl
 rotate_left
 ·simp only [Act.put, List.setIfInBounds_toArray, List.set_cons_zero, List.set_cons_succ, i64_w, i32_w]
  rfl
 refine pure_ (i := 11) (N := some 102) (v := ?_) (a' := ?_) #[true, true, true, true, true, true, true, true, true, true, true, true, false, false] rfl rfl (any_of HT_.out (by kernel_rfl)) (fun _ _ _ h => h) (Or.inl ⟨by rfl, ?_⟩) ?_ ?_
 rotate_left
 ·intro w'
  go_simp
  with_reducible rfl
 rotate_left
 ·simp only [Act.put, List.setIfInBounds_toArray, List.set_cons_zero, List.set_cons_succ, i64_w, i32_w]
  rfl
 refine pure_ (i := 12) (N := some 20) (v := ?_) (a' := ?_) #[true, true, true, true, true, true, true, true, true, true, true, true, true, false] rfl rfl (any_of HT_.out (by kernel_rfl)) (fun _ _ _ h => h) (Or.inl ⟨by rfl, ?_⟩) ?_ ?_
 rotate_left
 ·intro w'
  go_simp
  with_reducible rfl
 rotate_left
 ·simp only [Act.put, List.setIfInBounds_toArray, List.set_cons_zero, List.set_cons_succ, i64_w, i32_w]
  rfl
 refine pure_ (i := 13) (N := some 21) (v := ?_) (a' := ?_) #[true, true, true, true, true, true, true, true, true, true, true, true, true, true] rfl rfl (any_of HT_.out (by kernel_rfl)) (fun _ _ _ h => h) (Or.inl ⟨by rfl, ?_⟩) ?_ ?_
 rotate_left
 ·intro w'
  go_simp
  with_reducible rfl
 rotate_left
 ·simp only [Act.put, List.setIfInBounds_toArray, List.set_cons_zero, List.set_cons_succ, i64_w, i32_w]
  rfl
 refine done_ (done_of HT_.out (by kernel_rfl)) ?_
 go_upto_region 18 with (first | ((with_reducible refine gate_callee (f := 38) rfl ?_); refine goesL_ (some 105) rfl rfl Try.func38 (by kernel_rfl) rfl #[.slice Ao33 t1664.length co33] rfl (by (try simp only [List.map_toArray, List.map_cons, List.map_nil]); first | done | rfl | (simp only [List.length_drop, List.length_take]; rfl)) ?_; (with_reducible refine (impl_CountLanes.calls k _ _ t1664 t1678 t1679 _ ?side1 ?side2 A19.out).mono ?_); (case side1 => repeat (first | exact (Kd.R_reads' HO1666.out).2.2 | (with_reducible refine Kd.C_alloc ?_ _) | (with_reducible refine Kd.C_drewN ?_ _) | (with_reducible refine Kd.C_drew ?_))); (case side2 => exact (Kd.R_reads' HO1666.out).2.1); rintro e w37 ⟨rfl, hb⟩; refine ⟨_, rfl, ?_⟩; have n0_ := Aside0.mk (Kd.R_below (by (with_reducible repeat (first | apply Kd.R_alloc | apply Kd.R_drewN | apply Kd.R_drew)); exact HO1647.out) hb); have n1_ := Aside0.mk (Kd.R_below (by (with_reducible repeat (first | apply Kd.R_alloc | apply Kd.R_drewN | apply Kd.R_drew)); exact HO1650.out) hb); have n2_ := Aside0.mk (Kd.R_below (by (with_reducible repeat (first | apply Kd.R_alloc | apply Kd.R_drewN | apply Kd.R_drew)); exact HO1653.out) hb); have n3_ := Aside0.mk (Kd.R_below (by (with_reducible repeat (first | apply Kd.R_alloc | apply Kd.R_drewN | apply Kd.R_drew)); exact HO1658.out) hb); have n4_ := Aside0.mk (Kd.R_below (by (with_reducible repeat (first | apply Kd.R_alloc | apply Kd.R_drewN | apply Kd.R_drew)); exact HO1662.out) hb); have n5_ := Aside0.mk (Kd.R_below (by (with_reducible repeat (first | apply Kd.R_alloc | apply Kd.R_drewN | apply Kd.R_drew)); exact HO1666.out) hb); have n6_ := Aside0.mk (Kd.R_below (by (with_reducible repeat (first | apply Kd.R_alloc | apply Kd.R_drewN | apply Kd.R_drew)); exact HO1670.out) hb); have n7_ := Aside0.mk (Kd.R_below (by (with_reducible repeat (first | apply Kd.R_alloc | apply Kd.R_drewN | apply Kd.R_drew)); exact HO1677.out) hb); have n8_ := Aside0.mk (below_step (by repeat (first | (with_reducible first | exact HB.out | apply below_alloc | apply pw_below_drewN | apply below_drew1) | exact HB.out)) hb); clear HO1647; clear HO1650; clear HO1653; clear HO1658; clear HO1662; clear HO1666; clear HO1670; clear HO1677; clear HB; have HO1647 := n0_; have HO1650 := n1_; have HO1653 := n2_; have HO1658 := n3_; have HO1662 := n4_; have HO1666 := n5_; have HO1670 := n6_; have HO1677 := n7_; have HB := n8_; clear n0_ n1_ n2_ n3_ n4_ n5_ n6_ n7_ n8_; (try clear hb); (try clear hb2); (try clear hk); (try clear hi)) | ((with_reducible refine gate_callee (f := 40) rfl ?_); refine goesL_ (some 110) rfl rfl Try.func40 (by kernel_rfl) rfl #[.slice Ao33 t1664.length co33] rfl (by (try simp only [List.map_toArray, List.map_cons, List.map_nil]); first | done | rfl | (simp only [List.length_drop, List.length_take]; rfl)) ?_; (with_reducible refine (impl_FirstLane.calls k _ _ t1664 t1680 t1681 _ ?side1 ?side2 A20.out).mono ?_); (case side1 => repeat (first | exact (Kd.R_reads' HO1666.out).2.2 | (with_reducible refine Kd.C_alloc ?_ _) | (with_reducible refine Kd.C_drewN ?_ _) | (with_reducible refine Kd.C_drew ?_))); (case side2 => exact (Kd.R_reads' HO1666.out).2.1); rintro e w38 ⟨rfl, hb⟩; refine ⟨_, rfl, ?_⟩; have n0_ := Aside0.mk (Kd.R_below (by (with_reducible repeat (first | apply Kd.R_alloc | apply Kd.R_drewN | apply Kd.R_drew)); exact HO1647.out) hb); have n1_ := Aside0.mk (Kd.R_below (by (with_reducible repeat (first | apply Kd.R_alloc | apply Kd.R_drewN | apply Kd.R_drew)); exact HO1650.out) hb); have n2_ := Aside0.mk (Kd.R_below (by (with_reducible repeat (first | apply Kd.R_alloc | apply Kd.R_drewN | apply Kd.R_drew)); exact HO1653.out) hb); have n3_ := Aside0.mk (Kd.R_below (by (with_reducible repeat (first | apply Kd.R_alloc | apply Kd.R_drewN | apply Kd.R_drew)); exact HO1658.out) hb); have n4_ := Aside0.mk (Kd.R_below (by (with_reducible repeat (first | apply Kd.R_alloc | apply Kd.R_drewN | apply Kd.R_drew)); exact HO1662.out) hb); have n5_ := Aside0.mk (Kd.R_below (by (with_reducible repeat (first | apply Kd.R_alloc | apply Kd.R_drewN | apply Kd.R_drew)); exact HO1666.out) hb); have n6_ := Aside0.mk (Kd.R_below (by (with_reducible repeat (first | apply Kd.R_alloc | apply Kd.R_drewN | apply Kd.R_drew)); exact HO1670.out) hb); have n7_ := Aside0.mk (Kd.R_below (by (with_reducible repeat (first | apply Kd.R_alloc | apply Kd.R_drewN | apply Kd.R_drew)); exact HO1677.out) hb); have n8_ := Aside0.mk (below_step (by repeat (first | (with_reducible first | exact HB.out | apply below_alloc | apply pw_below_drewN | apply below_drew1) | exact HB.out)) hb); clear HO1647; clear HO1650; clear HO1653; clear HO1658; clear HO1662; clear HO1666; clear HO1670; clear HO1677; clear HB; have HO1647 := n0_; have HO1650 := n1_; have HO1653 := n2_; have HO1658 := n3_; have HO1662 := n4_; have HO1666 := n5_; have HO1670 := n6_; have HO1677 := n7_; have HB := n8_; clear n0_ n1_ n2_ n3_ n4_ n5_ n6_ n7_ n8_; (try clear hb); (try clear hb2); (try clear hk); (try clear hi)))
 (try simp only [Act.put, List.setIfInBounds_toArray, List.set_cons_zero, List.set_cons_succ])
 go_cut [190] (fun v190 wc => ∃ (kq : Nat) (x190_20 : Bool), v190 = .bool x190_20 ∧ Aside0 (laws_FnLanes.j0 kq t1643 t1645 t1648 t1651 t1654 t1655 t1656 t1660 t1664 t1668 t1674 t1678 t1680 t1681 t1644 x190_20 = some r) ∧ Aside0 (kq ≤ k) ∧ Aside0 (Kd.R (Kd.int .i64) 2 wc w.heap.size (fun k_ => some k_ ≠ ((.slice (some ad1673) t1648.length co28) : Value).ownBlock ∧ some k_ ≠ ((.slice Ao30 t1651.length co30) : Value).ownBlock ∧ some k_ ≠ (v1657 : Value).ownBlock ∧ some k_ ≠ (v1661 : Value).ownBlock ∧ some k_ ≠ ((.slice Ao33 t1664.length co33) : Value).ownBlock ∧ some k_ ≠ (v1669 : Value).ownBlock ∧ some k_ ≠ (v1676 : Value).ownBlock) (.slice (some ad1672) t1645.length co27) t1645) ∧ Aside0 (Kd.R (Kd.int .i64) 2 wc w.heap.size (fun k_ => some k_ ≠ ((.slice (some ad1672) t1645.length co27) : Value).ownBlock ∧ some k_ ≠ ((.slice Ao30 t1651.length co30) : Value).ownBlock ∧ some k_ ≠ (v1657 : Value).ownBlock ∧ some k_ ≠ (v1661 : Value).ownBlock ∧ some k_ ≠ ((.slice Ao33 t1664.length co33) : Value).ownBlock ∧ some k_ ≠ (v1669 : Value).ownBlock ∧ some k_ ≠ (v1676 : Value).ownBlock) (.slice (some ad1673) t1648.length co28) t1648) ∧ Aside0 (Kd.R (Kd.int .i64) 2 wc w.heap.size (fun k_ => some k_ ≠ ((.slice (some ad1672) t1645.length co27) : Value).ownBlock ∧ some k_ ≠ ((.slice (some ad1673) t1648.length co28) : Value).ownBlock ∧ some k_ ≠ (v1657 : Value).ownBlock ∧ some k_ ≠ (v1661 : Value).ownBlock ∧ some k_ ≠ ((.slice Ao33 t1664.length co33) : Value).ownBlock ∧ some k_ ≠ (v1669 : Value).ownBlock ∧ some k_ ≠ (v1676 : Value).ownBlock) (.slice Ao30 t1651.length co30) t1651) ∧ Aside0 (Kd.R (Kd.int .i64) 2 wc w.heap.size (fun k_ => some k_ ≠ ((.slice (some ad1672) t1645.length co27) : Value).ownBlock ∧ some k_ ≠ ((.slice (some ad1673) t1648.length co28) : Value).ownBlock ∧ some k_ ≠ ((.slice Ao30 t1651.length co30) : Value).ownBlock ∧ some k_ ≠ (v1661 : Value).ownBlock ∧ some k_ ≠ ((.slice Ao33 t1664.length co33) : Value).ownBlock ∧ some k_ ≠ (v1669 : Value).ownBlock ∧ some k_ ≠ (v1676 : Value).ownBlock) v1657 t1656) ∧ Aside0 (Kd.R (Kd.int .i64) 2 wc w.heap.size (fun k_ => some k_ ≠ ((.slice (some ad1672) t1645.length co27) : Value).ownBlock ∧ some k_ ≠ ((.slice (some ad1673) t1648.length co28) : Value).ownBlock ∧ some k_ ≠ ((.slice Ao30 t1651.length co30) : Value).ownBlock ∧ some k_ ≠ (v1657 : Value).ownBlock ∧ some k_ ≠ ((.slice Ao33 t1664.length co33) : Value).ownBlock ∧ some k_ ≠ (v1669 : Value).ownBlock ∧ some k_ ≠ (v1676 : Value).ownBlock) v1661 t1660) ∧ Aside0 (Kd.R (Kd.int .i64) 2 wc w.heap.size (fun k_ => some k_ ≠ ((.slice (some ad1672) t1645.length co27) : Value).ownBlock ∧ some k_ ≠ ((.slice (some ad1673) t1648.length co28) : Value).ownBlock ∧ some k_ ≠ ((.slice Ao30 t1651.length co30) : Value).ownBlock ∧ some k_ ≠ (v1657 : Value).ownBlock ∧ some k_ ≠ (v1661 : Value).ownBlock ∧ some k_ ≠ (v1669 : Value).ownBlock ∧ some k_ ≠ (v1676 : Value).ownBlock) (.slice Ao33 t1664.length co33) t1664) ∧ Aside0 (Kd.R (Kd.int .i64) 2 wc w.heap.size (fun k_ => some k_ ≠ ((.slice (some ad1672) t1645.length co27) : Value).ownBlock ∧ some k_ ≠ ((.slice (some ad1673) t1648.length co28) : Value).ownBlock ∧ some k_ ≠ ((.slice Ao30 t1651.length co30) : Value).ownBlock ∧ some k_ ≠ (v1657 : Value).ownBlock ∧ some k_ ≠ (v1661 : Value).ownBlock ∧ some k_ ≠ ((.slice Ao33 t1664.length co33) : Value).ownBlock ∧ some k_ ≠ (v1676 : Value).ownBlock) v1669 t1668) ∧ Aside0 (Kd.R (Kd.int .i64) 2 wc w.heap.size (fun k_ => some k_ ≠ ((.slice (some ad1672) t1645.length co27) : Value).ownBlock ∧ some k_ ≠ ((.slice (some ad1673) t1648.length co28) : Value).ownBlock ∧ some k_ ≠ ((.slice Ao30 t1651.length co30) : Value).ownBlock ∧ some k_ ≠ (v1657 : Value).ownBlock ∧ some k_ ≠ (v1661 : Value).ownBlock ∧ some k_ ≠ ((.slice Ao33 t1664.length co33) : Value).ownBlock ∧ some k_ ≠ (v1669 : Value).ownBlock) v1676 t1674) ∧ Aside0 (Below w.heap.size w wc))
 case first =>
  have H := HC21.out
  clear HC21
  by_cases c39 : t1659 = true
  rotate_left
  ·replace c39 := Bool.eq_false_iff.mpr c39
   subst c39
   rw [if_neg (show ¬ (false = true) by decide)] at H
   exact (laws_FnLanes.j0_no H HRT.out).elim
  subst c39
  rw [if_pos rfl] at H
  by_cases c40 : t1663 = true
  rotate_left
  ·replace c40 := Bool.eq_false_iff.mpr c40
   subst c40
   rw [if_neg (show ¬ (false = true) by decide)] at H
   exact (laws_FnLanes.j0_no H HRT.out).elim
  subst c40
  rw [if_pos rfl] at H
  by_cases c41 : t1667 = true
  rotate_left
  ·replace c41 := Bool.eq_false_iff.mpr c41
   subst c41
   rw [if_neg (show ¬ (false = true) by decide)] at H
   exact (laws_FnLanes.j0_no H HRT.out).elim
  subst c41
  rw [if_pos rfl] at H
  by_cases c42 : t1671 = true
  rotate_left
  ·replace c42 := Bool.eq_false_iff.mpr c42
   subst c42
   rw [if_neg (show ¬ (false = true) by decide)] at H
   exact (laws_FnLanes.j0_no H HRT.out).elim
  subst c42
  rw [if_pos rfl] at H
  by_cases c43 : t1675 = true
  rotate_left
  ·replace c43 := Bool.eq_false_iff.mpr c43
   subst c43
   rw [if_neg (show ¬ (false = true) by decide)] at H
   exact (laws_FnLanes.j0_no H HRT.out).elim
  subst c43
  rw [if_pos rfl] at H
  by_cases c44 : t1679 = true
  rotate_left
  ·replace c44 := Bool.eq_false_iff.mpr c44
   subst c44
   rw [if_neg (show ¬ (false = true) by decide)] at H
   exact (laws_FnLanes.j0_no H HRT.out).elim
  subst c44
  rw [if_pos rfl] at H
  by_cases c45 : (t1656.length : Int) = t1644
  rotate_left
  ·rw [if_neg c45] at H
   have c45b0 : ((t1656.length : Int) == t1644) = false := beq_eq_false_iff_ne.mpr c45
   have c45b1 : ((t1656.length : Int) != t1644) = true := bne_iff_ne.mpr c45
   (first | rw [c45b0] | (simp only [i64_w, i32_w]; rw [c45b0]) | skip)
   exact (laws_FnLanes.j0_no H HRT.out).elim
  rw [if_pos c45] at H
  have c45b0 : ((t1656.length : Int) == t1644) = true := beq_iff_eq.mpr c45
  have c45b1 : ((t1656.length : Int) != t1644) = false := bne_eq_false_iff_eq.mpr c45
  clear c45
  (first | rw [c45b0] | (simp only [i64_w, i32_w]; rw [c45b0]) | skip)
  by_cases c46 : (t1660.length : Int) = t1644
  rotate_left
  ·rw [if_neg c46] at H
   have c46b0 : ((t1660.length : Int) == t1644) = false := beq_eq_false_iff_ne.mpr c46
   have c46b1 : ((t1660.length : Int) != t1644) = true := bne_iff_ne.mpr c46
   exact (laws_FnLanes.j0_no H HRT.out).elim
  rw [if_pos c46] at H
  have c46b0 : ((t1660.length : Int) == t1644) = true := beq_iff_eq.mpr c46
  have c46b1 : ((t1660.length : Int) != t1644) = false := bne_eq_false_iff_eq.mpr c46
  clear c46
  by_cases c47 : (t1664.length : Int) = t1644
  rotate_left
  ·rw [if_neg c47] at H
   have c47b0 : ((t1664.length : Int) == t1644) = false := beq_eq_false_iff_ne.mpr c47
   have c47b1 : ((t1664.length : Int) != t1644) = true := bne_iff_ne.mpr c47
   exact (laws_FnLanes.j0_no H HRT.out).elim
  rw [if_pos c47] at H
  have c47b0 : ((t1664.length : Int) == t1644) = true := beq_iff_eq.mpr c47
  have c47b1 : ((t1664.length : Int) != t1644) = false := bne_eq_false_iff_eq.mpr c47
  clear c47
  by_cases c48 : (t1668.length : Int) = t1644
  rotate_left
  ·rw [if_neg c48] at H
   have c48b0 : ((t1668.length : Int) == t1644) = false := beq_eq_false_iff_ne.mpr c48
   have c48b1 : ((t1668.length : Int) != t1644) = true := bne_iff_ne.mpr c48
   exact (laws_FnLanes.j0_no H HRT.out).elim
  rw [if_pos c48] at H
  have c48b0 : ((t1668.length : Int) == t1644) = true := beq_iff_eq.mpr c48
  have c48b1 : ((t1668.length : Int) != t1644) = false := bne_eq_false_iff_eq.mpr c48
  clear c48
  by_cases c49 : (t1674.length : Int) = t1644
  ·rw [if_pos c49] at H
   have c49b0 : ((t1674.length : Int) == t1644) = true := beq_iff_eq.mpr c49
   have c49b1 : ((t1674.length : Int) != t1644) = false := bne_eq_false_iff_eq.mpr c49
   clear c49
   by_cases c50 : (t1681 != (decide (t1678 > 0))) = true
   ·rw [if_pos c50] at H
    have c50b0 : (t1681 != (decide (t1678 > 0))) = true := c50
    (try (have c50b1 : decide (t1681 = (decide (t1678 > 0))) = false := by simpa using c50))
    (try (have c50b2 : (t1681 == (decide (t1678 > 0))) = false := by simpa using c50))
    (try (have c50b3 : ¬ (t1681 = (decide (t1678 > 0))) := by simpa using c50))
    clear c50
    exact (laws_FnLanes.j0_no H HRT.out).elim
   ·rw [if_neg c50] at H
    have c50b0 : (t1681 != (decide (t1678 > 0))) = false := by simpa using c50
    (try (have c50b1 : decide (t1681 = (decide (t1678 > 0))) = true := by simpa using c50))
    (try (have c50b2 : (t1681 == (decide (t1678 > 0))) = true := by simpa using c50))
    clear c50
    by_cases c55 : t1681 = true
    ·subst c55
     rw [if_pos rfl] at H
     by_cases c56 : t1680 < 0
     ·rw [if_pos c56] at H
      have c56b0 : decide (t1680 < 0) = true := decide_eq_true c56
      clear c56
      exact (laws_FnLanes.j0_no H HRT.out).elim
     ·rw [if_neg c56] at H
      have c56b0 : decide (t1680 < 0) = false := decide_eq_false c56
      clear c56
      by_cases c61 : t1680 ≥ t1644
      ·rw [if_pos c61] at H
       have c61b0 : decide (t1644 ≤ t1680) = true := decide_eq_true c61
       clear c61
       exact (laws_FnLanes.j0_no H HRT.out).elim
      ·rw [if_neg c61] at H
       have c61b0 : decide (t1644 ≤ t1680) = false := decide_eq_false c61
       clear c61
       by_cases c66 : 0 ≤ t1680
       rotate_left
       ·exact (ways_FnLanes.z2 c56b0 c66).elim
       rw [if_pos c66] at H
       have c66b0 : decide (0 ≤ t1680) = true := decide_eq_true c66
       clear c66
       by_cases c67 : t1680 < (t1664.length : Int)
       rotate_left
       ·rw [if_neg c67] at H
        exact absurd H (by simp)
       rw [if_pos c67] at H
       have c67b0 : decide (t1680 < (t1664.length : Int)) = true := decide_eq_true c67
       clear c67
       have H' := Aside0.mk H
       clear H
       as_aux_lemma =>
        obtain ⟨Ao68, co68, eo68⟩ := Kd.R_slice HO1658.out
        subst eo68
        obtain ⟨Ao69, co69, eo69⟩ := Kd.R_slice HO1662.out
        subst eo69
        obtain ⟨Ao70, co70, eo70⟩ := Kd.R_slice HO1670.out
        subst eo70
        obtain ⟨Ao71, co71, eo71⟩ := Kd.R_slice HO1677.out
        subst eo71
        have p1682 : 0 ≤ (t1680 : Int) := of_decide_eq_true (by first | (with_reducible assumption) | assumption)
        have q1682 : t1680 < (t1664.length : Int) := of_decide_eq_true (by first | (with_reducible assumption) | assumption)
        obtain ⟨ad1682, e1682, hx1682_0⟩ := Kd.at_int (Kd.R_reads' HO1666.out).2.2 t1680 p1682 q1682
        cases e1682
        replace p1682 := eq_true p1682
        replace q1682 := eq_true q1682
        go_wp2
        go_meet
        case rel => exact ⟨_, (((rd t1664 t1680) != 1)), (by first | rfl | (simp; done) | (simp [*]; done)), H', ⟨by first | omega | exact Nat.le_refl _⟩, ⟨by (with_reducible repeat (first | apply Kd.R_alloc | apply Kd.R_drewN | apply Kd.R_drew)); exact Kd.R_mono HO1647.out (fun _ hk => ⟨hk.1.1.1.1.1.1.2, ⟨hk.1.1.1.1.1.2, ⟨hk.1.1.1.1.2, ⟨hk.1.1.1.2, ⟨hk.1.1.2, ⟨hk.1.2, hk.2⟩⟩⟩⟩⟩⟩)⟩, ⟨by (with_reducible repeat (first | apply Kd.R_alloc | apply Kd.R_drewN | apply Kd.R_drew)); exact Kd.R_mono HO1650.out (fun _ hk => ⟨hk.1.1.1.1.1.1.2, ⟨hk.1.1.1.1.1.2, ⟨hk.1.1.1.1.2, ⟨hk.1.1.1.2, ⟨hk.1.1.2, ⟨hk.1.2, hk.2⟩⟩⟩⟩⟩⟩)⟩, ⟨by (with_reducible repeat (first | apply Kd.R_alloc | apply Kd.R_drewN | apply Kd.R_drew)); exact Kd.R_mono HO1653.out (fun _ hk => ⟨hk.1.1.1.1.1.1.2, ⟨hk.1.1.1.1.1.2, ⟨hk.1.1.1.1.2, ⟨hk.1.1.1.2, ⟨hk.1.1.2, ⟨hk.1.2, hk.2⟩⟩⟩⟩⟩⟩)⟩, ⟨by (with_reducible repeat (first | apply Kd.R_alloc | apply Kd.R_drewN | apply Kd.R_drew)); exact Kd.R_mono HO1658.out (fun _ hk => ⟨hk.1.1.1.1.1.1.2, ⟨hk.1.1.1.1.1.2, ⟨hk.1.1.1.1.2, ⟨hk.1.1.1.2, ⟨hk.1.1.2, ⟨hk.1.2, hk.2⟩⟩⟩⟩⟩⟩)⟩, ⟨by (with_reducible repeat (first | apply Kd.R_alloc | apply Kd.R_drewN | apply Kd.R_drew)); exact Kd.R_mono HO1662.out (fun _ hk => ⟨hk.1.1.1.1.1.1.2, ⟨hk.1.1.1.1.1.2, ⟨hk.1.1.1.1.2, ⟨hk.1.1.1.2, ⟨hk.1.1.2, ⟨hk.1.2, hk.2⟩⟩⟩⟩⟩⟩)⟩, ⟨by (with_reducible repeat (first | apply Kd.R_alloc | apply Kd.R_drewN | apply Kd.R_drew)); exact Kd.R_mono HO1666.out (fun _ hk => ⟨hk.1.1.1.1.1.1.2, ⟨hk.1.1.1.1.1.2, ⟨hk.1.1.1.1.2, ⟨hk.1.1.1.2, ⟨hk.1.1.2, ⟨hk.1.2, hk.2⟩⟩⟩⟩⟩⟩)⟩, ⟨by (with_reducible repeat (first | apply Kd.R_alloc | apply Kd.R_drewN | apply Kd.R_drew)); exact Kd.R_mono HO1670.out (fun _ hk => ⟨hk.1.1.1.1.1.1.2, ⟨hk.1.1.1.1.1.2, ⟨hk.1.1.1.1.2, ⟨hk.1.1.1.2, ⟨hk.1.1.2, ⟨hk.1.2, hk.2⟩⟩⟩⟩⟩⟩)⟩, ⟨by (with_reducible repeat (first | apply Kd.R_alloc | apply Kd.R_drewN | apply Kd.R_drew)); exact Kd.R_mono HO1677.out (fun _ hk => ⟨hk.1.1.1.1.1.1.2, ⟨hk.1.1.1.1.1.2, ⟨hk.1.1.1.1.2, ⟨hk.1.1.1.2, ⟨hk.1.1.2, ⟨hk.1.2, hk.2⟩⟩⟩⟩⟩⟩)⟩, ⟨by repeat (first | (with_reducible first | exact HB.out | apply below_alloc | apply pw_below_drewN | apply below_drew1) | exact HB.out)⟩⟩
    ·replace c55 := Bool.eq_false_iff.mpr c55
     subst c55
     rw [if_neg (show ¬ (false = true) by decide)] at H
     have H' := Aside0.mk H
     clear H
     as_aux_lemma =>
      obtain ⟨Ao72, co72, eo72⟩ := Kd.R_slice HO1658.out
      subst eo72
      obtain ⟨Ao73, co73, eo73⟩ := Kd.R_slice HO1662.out
      subst eo73
      obtain ⟨Ao74, co74, eo74⟩ := Kd.R_slice HO1670.out
      subst eo74
      obtain ⟨Ao75, co75, eo75⟩ := Kd.R_slice HO1677.out
      subst eo75
      go_wp2
      ·exact absurd ‹some undef = some (Value.bool _)› (by simp [undef])
      ·exact absurd ‹some undef = some (Value.bool _)› (by simp [undef])
      go_meet
      case rel => exact ⟨_, (false), (by first | rfl | (simp; done) | (simp [*]; done)), H', ⟨by first | omega | exact Nat.le_refl _⟩, ⟨by (with_reducible repeat (first | apply Kd.R_alloc | apply Kd.R_drewN | apply Kd.R_drew)); exact Kd.R_mono HO1647.out (fun _ hk => ⟨hk.1.1.1.1.1.1.2, ⟨hk.1.1.1.1.1.2, ⟨hk.1.1.1.1.2, ⟨hk.1.1.1.2, ⟨hk.1.1.2, ⟨hk.1.2, hk.2⟩⟩⟩⟩⟩⟩)⟩, ⟨by (with_reducible repeat (first | apply Kd.R_alloc | apply Kd.R_drewN | apply Kd.R_drew)); exact Kd.R_mono HO1650.out (fun _ hk => ⟨hk.1.1.1.1.1.1.2, ⟨hk.1.1.1.1.1.2, ⟨hk.1.1.1.1.2, ⟨hk.1.1.1.2, ⟨hk.1.1.2, ⟨hk.1.2, hk.2⟩⟩⟩⟩⟩⟩)⟩, ⟨by (with_reducible repeat (first | apply Kd.R_alloc | apply Kd.R_drewN | apply Kd.R_drew)); exact Kd.R_mono HO1653.out (fun _ hk => ⟨hk.1.1.1.1.1.1.2, ⟨hk.1.1.1.1.1.2, ⟨hk.1.1.1.1.2, ⟨hk.1.1.1.2, ⟨hk.1.1.2, ⟨hk.1.2, hk.2⟩⟩⟩⟩⟩⟩)⟩, ⟨by (with_reducible repeat (first | apply Kd.R_alloc | apply Kd.R_drewN | apply Kd.R_drew)); exact Kd.R_mono HO1658.out (fun _ hk => ⟨hk.1.1.1.1.1.1.2, ⟨hk.1.1.1.1.1.2, ⟨hk.1.1.1.1.2, ⟨hk.1.1.1.2, ⟨hk.1.1.2, ⟨hk.1.2, hk.2⟩⟩⟩⟩⟩⟩)⟩, ⟨by (with_reducible repeat (first | apply Kd.R_alloc | apply Kd.R_drewN | apply Kd.R_drew)); exact Kd.R_mono HO1662.out (fun _ hk => ⟨hk.1.1.1.1.1.1.2, ⟨hk.1.1.1.1.1.2, ⟨hk.1.1.1.1.2, ⟨hk.1.1.1.2, ⟨hk.1.1.2, ⟨hk.1.2, hk.2⟩⟩⟩⟩⟩⟩)⟩, ⟨by (with_reducible repeat (first | apply Kd.R_alloc | apply Kd.R_drewN | apply Kd.R_drew)); exact Kd.R_mono HO1666.out (fun _ hk => ⟨hk.1.1.1.1.1.1.2, ⟨hk.1.1.1.1.1.2, ⟨hk.1.1.1.1.2, ⟨hk.1.1.1.2, ⟨hk.1.1.2, ⟨hk.1.2, hk.2⟩⟩⟩⟩⟩⟩)⟩, ⟨by (with_reducible repeat (first | apply Kd.R_alloc | apply Kd.R_drewN | apply Kd.R_drew)); exact Kd.R_mono HO1670.out (fun _ hk => ⟨hk.1.1.1.1.1.1.2, ⟨hk.1.1.1.1.1.2, ⟨hk.1.1.1.1.2, ⟨hk.1.1.1.2, ⟨hk.1.1.2, ⟨hk.1.2, hk.2⟩⟩⟩⟩⟩⟩)⟩, ⟨by (with_reducible repeat (first | apply Kd.R_alloc | apply Kd.R_drewN | apply Kd.R_drew)); exact Kd.R_mono HO1677.out (fun _ hk => ⟨hk.1.1.1.1.1.1.2, ⟨hk.1.1.1.1.1.2, ⟨hk.1.1.1.1.2, ⟨hk.1.1.1.2, ⟨hk.1.1.2, ⟨hk.1.2, hk.2⟩⟩⟩⟩⟩⟩)⟩, ⟨by repeat (first | (with_reducible first | exact HB.out | apply below_alloc | apply pw_below_drewN | apply below_drew1) | exact HB.out)⟩⟩
  ·rw [if_neg c49] at H
   have c49b0 : ((t1674.length : Int) == t1644) = false := beq_eq_false_iff_ne.mpr c49
   have c49b1 : ((t1674.length : Int) != t1644) = true := bne_iff_ne.mpr c49
   exact (laws_FnLanes.j0_no H HRT.out).elim
 case rest =>
  as_aux_lemma =>
   clear HC21
   try clear c1
   try clear p1
   try clear q1
   try clear hx1
   try clear qi1
   try clear c2
   try clear p2
   try clear c3
   try clear c4
   try clear c5
   try clear c6
   try clear c7
   try clear c8
   try clear c16
   try clear c16b0
   try clear c16b1
   try clear p16
   try clear q16
   try clear hx16
   try clear qi16
   try clear c17
   try clear c17b0
   try clear c17b1
   try clear c26
   try clear c34
   try clear c38
   try clear c39
   try clear c40
   try clear c41
   try clear c42
   try clear c43
   try clear c44
   try clear c45
   try clear c45b0
   try clear c45b1
   try clear c46
   try clear c46b0
   try clear c46b1
   try clear c47
   try clear c47b0
   try clear c47b1
   try clear c48
   try clear c48b0
   try clear c48b1
   try clear c49
   try clear c49b0
   try clear c49b1
   try clear c50
   try clear c50b0
   try clear c50b1
   try clear c50b2
   try clear c54
   try clear c55
   try clear c56
   try clear c56b0
   try clear c58
   try clear c61
   try clear c61b0
   try clear c66
   try clear c66b0
   try clear c67
   try clear c67b0
   try clear c70
   try clear c71
   try clear c72
   try clear c73
   try clear c74
   try clear c75
   try clear c81
   try clear hx1672_0
   try clear hx1673_0
   try clear hx1682_0
   try clear p1672
   try clear p1673
   try clear p1682
   try clear q1672
   try clear q1673
   try clear q1682
   obtain ⟨kq, x190_20, rfl, HA, HJ20, HO_7, HO_8, HO_9, HO_12, HO_14, HO_16, HO_18, HO_20, HB⟩ := hcut
   cases kq with
   | zero => exact absurd HA.out (by simp [laws_FnLanes.j0])
   | succ kj20 =>
    have H := HA.out
    clear HA
    simp only [laws_FnLanes.j0] at H
    by_cases c88 : x190_20 = true
    ·subst c88
     rw [if_pos rfl] at H
     obtain rfl := Option.some.inj H
     exact absurd HRT.out (by decide)
    replace c88 := Bool.eq_false_iff.mpr c88
    subst c88
    rw [if_neg (show ¬ (false = true) by decide)] at H
    have H' := Aside0.mk H
    clear H
    go_wp2
    go_loopg [27, 28] kj20 (fun kq v27 v28 w' => ∃ (x27_2 : Int) (x28_2 : Int), v27 = .int .i64 x27_2 ∧ v28 = .int .i64 x28_2 ∧ Aside0 (laws_FnLanes.l0 kq t1643 t1645 t1648 t1651 t1654 t1655 t1656 t1660 t1664 t1668 t1674 t1678 t1680 t1681 t1644 x27_2 x28_2 = some r) ∧ Aside0 (kq ≤ kj20) ∧ Aside0 (Kd.R (Kd.int .i64) 2 w' w.heap.size (fun k_ => some k_ ≠ ((.slice (some ad1673) t1648.length co28) : Value).ownBlock ∧ some k_ ≠ ((.slice Ao30 t1651.length co30) : Value).ownBlock ∧ some k_ ≠ (v1657 : Value).ownBlock ∧ some k_ ≠ (v1661 : Value).ownBlock ∧ some k_ ≠ ((.slice Ao33 t1664.length co33) : Value).ownBlock ∧ some k_ ≠ (v1669 : Value).ownBlock ∧ some k_ ≠ (v1676 : Value).ownBlock) (.slice (some ad1672) t1645.length co27) t1645) ∧ Aside0 (Kd.R (Kd.int .i64) 2 w' w.heap.size (fun k_ => some k_ ≠ ((.slice (some ad1672) t1645.length co27) : Value).ownBlock ∧ some k_ ≠ ((.slice Ao30 t1651.length co30) : Value).ownBlock ∧ some k_ ≠ (v1657 : Value).ownBlock ∧ some k_ ≠ (v1661 : Value).ownBlock ∧ some k_ ≠ ((.slice Ao33 t1664.length co33) : Value).ownBlock ∧ some k_ ≠ (v1669 : Value).ownBlock ∧ some k_ ≠ (v1676 : Value).ownBlock) (.slice (some ad1673) t1648.length co28) t1648) ∧ Aside0 (Kd.R (Kd.int .i64) 2 w' w.heap.size (fun k_ => some k_ ≠ ((.slice (some ad1672) t1645.length co27) : Value).ownBlock ∧ some k_ ≠ ((.slice (some ad1673) t1648.length co28) : Value).ownBlock ∧ some k_ ≠ (v1657 : Value).ownBlock ∧ some k_ ≠ (v1661 : Value).ownBlock ∧ some k_ ≠ ((.slice Ao33 t1664.length co33) : Value).ownBlock ∧ some k_ ≠ (v1669 : Value).ownBlock ∧ some k_ ≠ (v1676 : Value).ownBlock) (.slice Ao30 t1651.length co30) t1651) ∧ Aside0 (Kd.R (Kd.int .i64) 2 w' w.heap.size (fun k_ => some k_ ≠ ((.slice (some ad1672) t1645.length co27) : Value).ownBlock ∧ some k_ ≠ ((.slice (some ad1673) t1648.length co28) : Value).ownBlock ∧ some k_ ≠ ((.slice Ao30 t1651.length co30) : Value).ownBlock ∧ some k_ ≠ (v1661 : Value).ownBlock ∧ some k_ ≠ ((.slice Ao33 t1664.length co33) : Value).ownBlock ∧ some k_ ≠ (v1669 : Value).ownBlock ∧ some k_ ≠ (v1676 : Value).ownBlock) v1657 t1656) ∧ Aside0 (Kd.R (Kd.int .i64) 2 w' w.heap.size (fun k_ => some k_ ≠ ((.slice (some ad1672) t1645.length co27) : Value).ownBlock ∧ some k_ ≠ ((.slice (some ad1673) t1648.length co28) : Value).ownBlock ∧ some k_ ≠ ((.slice Ao30 t1651.length co30) : Value).ownBlock ∧ some k_ ≠ (v1657 : Value).ownBlock ∧ some k_ ≠ ((.slice Ao33 t1664.length co33) : Value).ownBlock ∧ some k_ ≠ (v1669 : Value).ownBlock ∧ some k_ ≠ (v1676 : Value).ownBlock) v1661 t1660) ∧ Aside0 (Kd.R (Kd.int .i64) 2 w' w.heap.size (fun k_ => some k_ ≠ ((.slice (some ad1672) t1645.length co27) : Value).ownBlock ∧ some k_ ≠ ((.slice (some ad1673) t1648.length co28) : Value).ownBlock ∧ some k_ ≠ ((.slice Ao30 t1651.length co30) : Value).ownBlock ∧ some k_ ≠ (v1657 : Value).ownBlock ∧ some k_ ≠ (v1661 : Value).ownBlock ∧ some k_ ≠ (v1669 : Value).ownBlock ∧ some k_ ≠ (v1676 : Value).ownBlock) (.slice Ao33 t1664.length co33) t1664) ∧ Aside0 (Kd.R (Kd.int .i64) 2 w' w.heap.size (fun k_ => some k_ ≠ ((.slice (some ad1672) t1645.length co27) : Value).ownBlock ∧ some k_ ≠ ((.slice (some ad1673) t1648.length co28) : Value).ownBlock ∧ some k_ ≠ ((.slice Ao30 t1651.length co30) : Value).ownBlock ∧ some k_ ≠ (v1657 : Value).ownBlock ∧ some k_ ≠ (v1661 : Value).ownBlock ∧ some k_ ≠ ((.slice Ao33 t1664.length co33) : Value).ownBlock ∧ some k_ ≠ (v1676 : Value).ownBlock) v1669 t1668) ∧ Aside0 (Kd.R (Kd.int .i64) 2 w' w.heap.size (fun k_ => some k_ ≠ ((.slice (some ad1672) t1645.length co27) : Value).ownBlock ∧ some k_ ≠ ((.slice (some ad1673) t1648.length co28) : Value).ownBlock ∧ some k_ ≠ ((.slice Ao30 t1651.length co30) : Value).ownBlock ∧ some k_ ≠ (v1657 : Value).ownBlock ∧ some k_ ≠ (v1661 : Value).ownBlock ∧ some k_ ≠ ((.slice Ao33 t1664.length co33) : Value).ownBlock ∧ some k_ ≠ (v1669 : Value).ownBlock) v1676 t1674) ∧ Aside0 (Below w.heap.size w w'))
    case atStart => exact ⟨(0), (0), (by first | rfl | (simp; done) | (simp [*]; done)), (by first | rfl | (simp; done) | (simp [*]; done)), H', ⟨Nat.le_refl _⟩, ⟨by (with_reducible repeat (first | apply Kd.R_alloc | apply Kd.R_drewN | apply Kd.R_drew)); exact HO_7.out⟩, ⟨by (with_reducible repeat (first | apply Kd.R_alloc | apply Kd.R_drewN | apply Kd.R_drew)); exact HO_8.out⟩, ⟨by (with_reducible repeat (first | apply Kd.R_alloc | apply Kd.R_drewN | apply Kd.R_drew)); exact HO_9.out⟩, ⟨by (with_reducible repeat (first | apply Kd.R_alloc | apply Kd.R_drewN | apply Kd.R_drew)); exact HO_12.out⟩, ⟨by (with_reducible repeat (first | apply Kd.R_alloc | apply Kd.R_drewN | apply Kd.R_drew)); exact HO_14.out⟩, ⟨by (with_reducible repeat (first | apply Kd.R_alloc | apply Kd.R_drewN | apply Kd.R_drew)); exact HO_16.out⟩, ⟨by (with_reducible repeat (first | apply Kd.R_alloc | apply Kd.R_drewN | apply Kd.R_drew)); exact HO_18.out⟩, ⟨by (with_reducible repeat (first | apply Kd.R_alloc | apply Kd.R_drewN | apply Kd.R_drew)); exact HO_20.out⟩, ⟨by repeat (first | (with_reducible first | exact HB.out | apply below_alloc | apply pw_below_drewN | apply below_drew1) | exact HB.out)⟩⟩
    case round =>
     as_aux_lemma =>
      clear H'
      try clear c1
      try clear p1
      try clear q1
      try clear hx1
      try clear qi1
      try clear c2
      try clear p2
      try clear c3
      try clear c4
      try clear c5
      try clear c6
      try clear c7
      try clear c8
      try clear c16
      try clear c16b0
      try clear c16b1
      try clear p16
      try clear q16
      try clear hx16
      try clear qi16
      try clear c17
      try clear c17b0
      try clear c17b1
      try clear c26
      try clear c34
      try clear c38
      try clear c39
      try clear c40
      try clear c41
      try clear c42
      try clear c43
      try clear c44
      try clear c45
      try clear c45b0
      try clear c45b1
      try clear c46
      try clear c46b0
      try clear c46b1
      try clear c47
      try clear c47b0
      try clear c47b1
      try clear c48
      try clear c48b0
      try clear c48b1
      try clear c49
      try clear c49b0
      try clear c49b1
      try clear c50
      try clear c50b0
      try clear c50b1
      try clear c50b2
      try clear c54
      try clear c55
      try clear c56
      try clear c56b0
      try clear c58
      try clear c61
      try clear c61b0
      try clear c66
      try clear c66b0
      try clear c67
      try clear c67b0
      try clear c70
      try clear c71
      try clear c72
      try clear c73
      try clear c74
      try clear c75
      try clear c81
      try clear c88
      try clear hx1672_0
      try clear hx1673_0
      try clear hx1682_0
      try clear p1
      try clear p16
      try clear p1672
      try clear p1673
      try clear p1682
      try clear p2
      try clear q1
      try clear q16
      try clear q1672
      try clear q1673
      try clear q1682
      obtain ⟨x27_2, x28_2, rfl, rfl, HA, HK2, HO_7, HO_8, HO_9, HO_12, HO_14, HO_16, HO_18, HO_20, HB⟩ := hrel
      cases gk with
      | zero => exact absurd HA.out (by simp [laws_FnLanes.l0])
      | succ k2 =>
       have H := HA.out
       clear HA
       simp only [laws_FnLanes.l0] at H
       by_cases c89 : x28_2 < t1644
       rotate_left
       ·rw [if_neg c89] at H
        have c89b0 : decide (x28_2 < t1644) = false := decide_eq_false c89
        clear c89
        obtain rfl := Option.some.inj H
        go_wp2
        go_ret
        exact ⟨by first | rfl | (simp [errW_none, errW_some] <;> rfl) | (simp [*, errW_none, errW_some] <;> rfl), by repeat (first | (with_reducible first | exact HB.out | apply below_alloc | apply pw_below_drewN | apply below_drew1) | exact HB.out)⟩
       rw [if_pos c89] at H
       have c89b0 : decide (x28_2 < t1644) = true := decide_eq_true c89
       clear c89
       by_cases c90 : 0 ≤ x28_2
       rotate_left
       ·rw [if_neg c90] at H
        exact absurd H (by simp)
       rw [if_pos c90] at H
       have c90b0 : decide (0 ≤ x28_2) = true := decide_eq_true c90
       clear c90
       by_cases c91 : x28_2 < (t1645.length : Int)
       rotate_left
       ·rw [if_neg c91] at H
        exact absurd H (by simp)
       rw [if_pos c91] at H
       have c91b0 : decide (x28_2 < (t1645.length : Int)) = true := decide_eq_true c91
       clear c91
       by_cases c92 : x28_2 < (t1648.length : Int)
       rotate_left
       ·rw [if_neg c92] at H
        exact absurd H (by simp)
       rw [if_pos c92] at H
       have c92b0 : decide (x28_2 < (t1648.length : Int)) = true := decide_eq_true c92
       clear c92
       replace H := Option.bind_eq_some_iff.mp H
       obtain ⟨⟨t1685, t1686⟩, A930, H⟩ := H
       try dsimp only at H
       have A93 := Aside0.mk A930
       clear A930
       replace H := Option.bind_eq_some_iff.mp H
       obtain ⟨⟨t1689, t1690⟩, A940, H⟩ := H
       try dsimp only at H
       have A94 := Aside0.mk A940
       clear A940
       by_cases c95 : 0 < (t1645.length : Int)
       rotate_left
       ·rw [if_neg c95] at H
        exact absurd H (by simp)
       rw [if_pos c95] at H
       have c95b0 : decide (0 < (t1645.length : Int)) = true := decide_eq_true c95
       have c95b1 : decide (0 < t1645.length) = true := decide_eq_true (by omega)
       clear c95
       by_cases c96 : 0 < (t1648.length : Int)
       rotate_left
       ·rw [if_neg c96] at H
        exact absurd H (by simp)
       rw [if_pos c96] at H
       have c96b0 : decide (0 < (t1648.length : Int)) = true := decide_eq_true c96
       have c96b1 : decide (0 < t1648.length) = true := decide_eq_true (by omega)
       clear c96
       replace H := Option.bind_eq_some_iff.mp H
       obtain ⟨⟨t1693, t1694⟩, A970, H⟩ := H
       try dsimp only at H
       have A97 := Aside0.mk A970
       clear A970
       by_cases c98 : x28_2 < (t1664.length : Int)
       rotate_left
       ·rw [if_neg c98] at H
        exact absurd H (by simp)
       rw [if_pos c98] at H
       have c98b0 : decide (x28_2 < (t1664.length : Int)) = true := decide_eq_true c98
       clear c98
       have HC99 := Aside0.mk H
       clear H
       try go_wp2
       have n0_ := Aside0.mk (Kd.R_drew HO_7.out)
       have n1_ := Aside0.mk (Kd.R_drew HO_8.out)
       have n2_ := Aside0.mk (Kd.R_drew HO_9.out)
       have n3_ := Aside0.mk (Kd.R_drew HO_12.out)
       have n4_ := Aside0.mk (Kd.R_drew HO_14.out)
       have n5_ := Aside0.mk (Kd.R_drew HO_16.out)
       have n6_ := Aside0.mk (Kd.R_drew HO_18.out)
       have n7_ := Aside0.mk (Kd.R_drew HO_20.out)
       have n8_ := Aside0.mk (below_drew1 HB.out)
       clear HO_7
       clear HO_8
       clear HO_9
       clear HO_12
       clear HO_14
       clear HO_16
       clear HO_18
       clear HO_20
       clear HB
       have HO_7 := n0_
       have HO_8 := n1_
       have HO_9 := n2_
       have HO_12 := n3_
       have HO_14 := n4_
       have HO_16 := n5_
       have HO_18 := n6_
       have HO_20 := n7_
       have HB := n8_
       clear n0_ n1_ n2_ n3_ n4_ n5_ n6_ n7_ n8_
       have p1683 : 0 ≤ (x28_2 : Int) := of_decide_eq_true (by first | (with_reducible assumption) | assumption)
       have q1683 : x28_2 < (t1645.length : Int) := of_decide_eq_true (by first | (with_reducible assumption) | assumption)
       obtain ⟨ad1683, e1683, hx1683_0⟩ := Kd.at_int (Kd.R_reads' HO_7.out).2.2 x28_2 p1683 q1683
       obtain rfl : ad1672 = ad1683 := (by injection e1683)
       replace p1683 := eq_true p1683
       replace q1683 := eq_true q1683
       have p1684 : 0 ≤ (x28_2 : Int) := of_decide_eq_true (by first | (with_reducible assumption) | assumption)
       have q1684 : x28_2 < (t1648.length : Int) := of_decide_eq_true (by first | (with_reducible assumption) | assumption)
       obtain ⟨ad1684, e1684, hx1684_0⟩ := Kd.at_int (Kd.R_reads' HO_8.out).2.2 x28_2 p1684 q1684
       obtain rfl : ad1673 = ad1684 := (by injection e1684)
       replace p1684 := eq_true p1684
       replace q1684 := eq_true q1684
       refine start_ (n := 16) (S := fun w' => w'.cell? (ad1672.add (x28_2).toNat) = some (.int .i64 (rd t1645 x28_2)) ∧ w'.cell? (ad1673.add (x28_2).toNat) = some (.int .i64 (rd t1648 x28_2))) (ds := []) #[false, false, false, false, false, false, false, false, false, false, false, false, false, false, false, false] (by kernel_rfl) rfl rfl ⟨hx1683_0, hx1684_0⟩ (fun hHeld => ?_); refine with_tabW laws_FnLanes.tab24 laws_FnLanes.bits24 (fun HT_ HW_ => ?_)
       generalize wr.drew = w100 at HO_7 HO_8 HO_9 HO_12 HO_14 HO_16 HO_18 HO_20 HB hx1683_0 hx1684_0 hHeld ⊢
       refine pure_ (i := 0) (N := some 197) (v := ?_) (a' := ?_) #[true, false, false, false, false, false, false, false, false, false, false, false, false, false, false, false] rfl rfl (any_of HT_.out (by kernel_rfl)) (fun _ _ _ h => h) (Or.inl ⟨by rfl, ?_⟩) ?_ ?_
       rotate_left
       ·intro w'
        go_simp
        with_reducible rfl
       rotate_left
       ·simp only [Act.put, List.setIfInBounds_toArray, List.set_cons_zero, List.set_cons_succ, i64_w, i32_w]
        rfl
       refine pure_ (i := 1) (N := some 198) (v := ?_) (a' := ?_) #[true, true, false, false, false, false, false, false, false, false, false, false, false, false, false, false] rfl rfl (any_of HT_.out (by kernel_rfl)) (fun _ _ _ h => h) (Or.inl ⟨by rfl, ?_⟩) ?_ ?_
       rotate_left
       ·intro w'
        go_simp
        with_reducible rfl
       rotate_left
       ·simp only [Act.put, List.setIfInBounds_toArray, List.set_cons_zero, List.set_cons_succ, i64_w, i32_w]
        rfl
       refine pure_ (i := 2) (N := some 199) (v := ?_) (a' := ?_) #[true, true, true, false, false, false, false, false, false, false, false, false, false, false, false, false] rfl rfl (any_of HT_.out (by kernel_rfl)) (fun _ _ _ h => h) (Or.inl ⟨by rfl, ?_⟩) ?_ ?_
       rotate_left
       ·intro w'
        go_simp
        with_reducible rfl
       rotate_left
       ·simp only [Act.put, List.setIfInBounds_toArray, List.set_cons_zero, List.set_cons_succ, i64_w, i32_w]
        rfl
       refine pure_ (i := 3) (N := some 200) (v := ?_) (a' := ?_) #[true, true, true, true, false, false, false, false, false, false, false, false, false, false, false, false] rfl rfl (any_of HT_.out (by kernel_rfl)) (fun _ _ _ h => h) (Or.inl ⟨by rfl, ?_⟩) ?_ ?_
       rotate_left
       ·intro w'
        go_simp
        with_reducible rfl
       rotate_left
       ·simp only [Act.put, List.setIfInBounds_toArray, List.set_cons_zero, List.set_cons_succ, i64_w, i32_w]
        rfl
       refine pure_ (i := 4) (N := some 201) (v := ?_) (a' := ?_) #[true, true, true, true, true, false, false, false, false, false, false, false, false, false, false, false] rfl rfl (any_of HT_.out (by kernel_rfl)) (fun _ _ _ h => h) (Or.inl ⟨by rfl, ?_⟩) ?_ ?_
       rotate_left
       ·intro w'
        go_simp
        with_reducible rfl
       rotate_left
       ·simp only [Act.put, List.setIfInBounds_toArray, List.set_cons_zero, List.set_cons_succ, i64_w, i32_w]
        rfl
       refine pure_ (i := 6) (N := some 203) (v := ?_) (a' := ?_) #[true, true, true, true, true, false, true, false, false, false, false, false, false, false, false, false] rfl rfl (any_of HT_.out (by kernel_rfl)) (fun _ _ _ h => h) (Or.inl ⟨by rfl, ?_⟩) ?_ ?_
       rotate_left
       ·intro w'
        go_simp
        with_reducible rfl
       rotate_left
       ·simp only [Act.put, List.setIfInBounds_toArray, List.set_cons_zero, List.set_cons_succ, i64_w, i32_w]
        rfl
       refine pure_ (i := 7) (N := some 204) (v := ?_) (a' := ?_) #[true, true, true, true, true, false, true, true, false, false, false, false, false, false, false, false] rfl rfl (any_of HT_.out (by kernel_rfl)) (fun _ _ _ h => h) (Or.inl ⟨by rfl, ?_⟩) ?_ ?_
       rotate_left
       ·intro w'
        go_simp
        with_reducible rfl
       rotate_left
       ·simp only [Act.put, List.setIfInBounds_toArray, List.set_cons_zero, List.set_cons_succ, i64_w, i32_w]
        rfl
       refine pure_ (i := 8) (N := some 205) (v := ?_) (a' := ?_) #[true, true, true, true, true, false, true, true, true, false, false, false, false, false, false, false] rfl rfl (any_of HT_.out (by kernel_rfl)) (fun _ _ _ h => h) (Or.inl ⟨by rfl, ?_⟩) ?_ ?_
       rotate_left
       ·intro w'
        go_simp
        with_reducible rfl
       rotate_left
       ·simp only [Act.put, List.setIfInBounds_toArray, List.set_cons_zero, List.set_cons_succ, i64_w, i32_w]
        rfl
       refine take_ (i := 5) (N := some 202) (v := ?_) (a' := ?_) #[true, true, true, true, true, true, true, true, true, false, false, false, false, false, false, false] rfl rfl (take_ofW HT_.out HW_.out (by kernel_rfl)) (fun _ _ _ h => h) (Or.inl ⟨by rfl, ?_⟩) hHeld ?_ ?_
       rotate_left
       ·rintro w' ⟨s0, s1⟩
        go_simp
        with_reducible rfl
       rotate_left
       ·simp only [Act.put, List.setIfInBounds_toArray, List.set_cons_zero, List.set_cons_succ, i64_w, i32_w]
        rfl
       refine take_ (i := 9) (N := some 206) (v := ?_) (a' := ?_) #[true, true, true, true, true, true, true, true, true, true, false, false, false, false, false, false] rfl rfl (take_ofW HT_.out HW_.out (by kernel_rfl)) (fun _ _ _ h => h) (Or.inl ⟨by rfl, ?_⟩) hHeld ?_ ?_
       rotate_left
       ·rintro w' ⟨s0, s1⟩
        go_simp
        with_reducible rfl
       rotate_left
       ·simp only [Act.put, List.setIfInBounds_toArray, List.set_cons_zero, List.set_cons_succ, i64_w, i32_w]
        rfl
       refine one_ (i := 10) (N := some 207) #[true, true, true, true, true, true, true, true, true, true, true, false, false, false, false, false] rfl rfl (one_of HT_.out (by kernel_rfl)) (by decide) (fun K hK => ?_)
       refine goes_ Try.func78 (by kernel_rfl) rfl #[.int .i64 t1654, .int .i64 t1643, .int .i64 (rd t1645 x28_2), .int .i64 (rd t1648 x28_2)] (by rfl) rfl rfl (by (try simp only [List.map_toArray, List.map_cons, List.map_nil]); first | done | rfl | (simp only [List.length_drop, List.length_take]; rfl)) ?_
       with_reducible refine (impl_DoOp.calls t1654 t1643 (rd t1645 x28_2) (rd t1648 x28_2) t1685 t1686 _ A93.out).mono ?_
       rintro e w' ⟨rfl, ⟨nd, rfl⟩⟩
       refine ⟨_, rfl, ?_⟩
       refine hK.out _ _ ⟨hHeld.1, hHeld.2⟩ (fun hHeld => ?_)
       clear hK K
       refine norm_ (a' := ?_) ?_ ?_
       rotate_left
       ·show Act.put _ (some 207) _ = _
        simp only [Act.put, List.setIfInBounds_toArray, List.set_cons_zero, List.set_cons_succ, i64_w, i32_w]
        rfl
       refine pure_ (i := 11) (N := some 196) (v := ?_) (a' := ?_) #[true, true, true, true, true, true, true, true, true, true, true, true, false, false, false, false] rfl rfl (any_of HT_.out (by kernel_rfl)) (fun _ _ _ h => h) (Or.inl ⟨by rfl, ?_⟩) ?_ ?_
       rotate_left
       ·intro w'
        go_simp
        with_reducible rfl
       rotate_left
       ·simp only [Act.put, List.setIfInBounds_toArray, List.set_cons_zero, List.set_cons_succ, i64_w, i32_w]
        rfl
       refine pure_ (i := 12) (N := some 208) (v := ?_) (a' := ?_) #[true, true, true, true, true, true, true, true, true, true, true, true, true, false, false, false] rfl rfl (any_of HT_.out (by kernel_rfl)) (fun _ _ _ h => h) (Or.inl ⟨by rfl, ?_⟩) ?_ ?_
       rotate_left
       ·intro w'
        go_simp
        with_reducible rfl
       rotate_left
       ·simp only [Act.put, List.setIfInBounds_toArray, List.set_cons_zero, List.set_cons_succ, i64_w, i32_w]
        rfl
       refine pure_ (i := 13) (N := some 209) (v := ?_) (a' := ?_) #[true, true, true, true, true, true, true, true, true, true, true, true, true, true, false, false] rfl rfl (any_of HT_.out (by kernel_rfl)) (fun _ _ _ h => h) (Or.inl ⟨by rfl, ?_⟩) ?_ ?_
       rotate_left
       ·intro w'
        go_simp
        with_reducible rfl
       rotate_left
       ·simp only [Act.put, List.setIfInBounds_toArray, List.set_cons_zero, List.set_cons_succ, i64_w, i32_w]
        rfl
       refine pure_ (i := 14) (N := some 29) (v := ?_) (a' := ?_) #[true, true, true, true, true, true, true, true, true, true, true, true, true, true, true, false] rfl rfl (any_of HT_.out (by kernel_rfl)) (fun _ _ _ h => h) (Or.inl ⟨by rfl, ?_⟩) ?_ ?_
       rotate_left
       ·intro w'
        go_simp
        with_reducible rfl
       rotate_left
       ·simp only [Act.put, List.setIfInBounds_toArray, List.set_cons_zero, List.set_cons_succ, i64_w, i32_w]
        rfl
       refine pure_ (i := 15) (N := some 30) (v := ?_) (a' := ?_) #[true, true, true, true, true, true, true, true, true, true, true, true, true, true, true, true] rfl rfl (any_of HT_.out (by kernel_rfl)) (fun _ _ _ h => h) (Or.inl ⟨by rfl, ?_⟩) ?_ ?_
       rotate_left
       ·intro w'
        go_simp
        with_reducible rfl
       rotate_left
       ·simp only [Act.put, List.setIfInBounds_toArray, List.set_cons_zero, List.set_cons_succ, i64_w, i32_w]
        rfl
       refine done_ (done_of HT_.out (by kernel_rfl)) ?_
       try go_wp2
       (try (rw [drewN_self w100]; generalize hq_ : World.drewN w100 _ = w100; have n0_ : Aside0 (Kd.R (Kd.int .i64) 2 w100 w.heap.size (fun k_ => some k_ ≠ (.slice (some ad1672) t1645.length co27 : Value).ownBlock ∧ some k_ ≠ (.slice (some ad1673) t1648.length co28 : Value).ownBlock ∧ some k_ ≠ (.slice Ao30 t1651.length co30 : Value).ownBlock ∧ some k_ ≠ (v1661 : Value).ownBlock ∧ some k_ ≠ (.slice Ao33 t1664.length co33 : Value).ownBlock ∧ some k_ ≠ (v1669 : Value).ownBlock ∧ some k_ ≠ (v1676 : Value).ownBlock) v1657 t1656) := ⟨by rw [← hq_]; exact (by (with_reducible repeat (first | apply Kd.R_alloc | apply Kd.R_drewN | apply Kd.R_drew)); exact HO_12.out)⟩; have n1_ : Aside0 (Kd.R (Kd.int .i64) 2 w100 w.heap.size (fun k_ => some k_ ≠ (.slice (some ad1672) t1645.length co27 : Value).ownBlock ∧ some k_ ≠ (.slice (some ad1673) t1648.length co28 : Value).ownBlock ∧ some k_ ≠ (.slice Ao30 t1651.length co30 : Value).ownBlock ∧ some k_ ≠ (v1657 : Value).ownBlock ∧ some k_ ≠ (.slice Ao33 t1664.length co33 : Value).ownBlock ∧ some k_ ≠ (v1669 : Value).ownBlock ∧ some k_ ≠ (v1676 : Value).ownBlock) v1661 t1660) := ⟨by rw [← hq_]; exact (by (with_reducible repeat (first | apply Kd.R_alloc | apply Kd.R_drewN | apply Kd.R_drew)); exact HO_14.out)⟩; have n2_ : Aside0 (Kd.R (Kd.int .i64) 2 w100 w.heap.size (fun k_ => some k_ ≠ (.slice (some ad1672) t1645.length co27 : Value).ownBlock ∧ some k_ ≠ (.slice (some ad1673) t1648.length co28 : Value).ownBlock ∧ some k_ ≠ (.slice Ao30 t1651.length co30 : Value).ownBlock ∧ some k_ ≠ (v1657 : Value).ownBlock ∧ some k_ ≠ (v1661 : Value).ownBlock ∧ some k_ ≠ (v1669 : Value).ownBlock ∧ some k_ ≠ (v1676 : Value).ownBlock) (.slice Ao33 t1664.length co33) t1664) := ⟨by rw [← hq_]; exact (by (with_reducible repeat (first | apply Kd.R_alloc | apply Kd.R_drewN | apply Kd.R_drew)); exact HO_16.out)⟩; have n3_ : Aside0 (Kd.R (Kd.int .i64) 2 w100 w.heap.size (fun k_ => some k_ ≠ (.slice (some ad1672) t1645.length co27 : Value).ownBlock ∧ some k_ ≠ (.slice (some ad1673) t1648.length co28 : Value).ownBlock ∧ some k_ ≠ (.slice Ao30 t1651.length co30 : Value).ownBlock ∧ some k_ ≠ (v1657 : Value).ownBlock ∧ some k_ ≠ (v1661 : Value).ownBlock ∧ some k_ ≠ (.slice Ao33 t1664.length co33 : Value).ownBlock ∧ some k_ ≠ (v1676 : Value).ownBlock) v1669 t1668) := ⟨by rw [← hq_]; exact (by (with_reducible repeat (first | apply Kd.R_alloc | apply Kd.R_drewN | apply Kd.R_drew)); exact HO_18.out)⟩; have n4_ : Aside0 (Kd.R (Kd.int .i64) 2 w100 w.heap.size (fun k_ => some k_ ≠ (.slice (some ad1672) t1645.length co27 : Value).ownBlock ∧ some k_ ≠ (.slice (some ad1673) t1648.length co28 : Value).ownBlock ∧ some k_ ≠ (.slice Ao30 t1651.length co30 : Value).ownBlock ∧ some k_ ≠ (v1657 : Value).ownBlock ∧ some k_ ≠ (v1661 : Value).ownBlock ∧ some k_ ≠ (.slice Ao33 t1664.length co33 : Value).ownBlock ∧ some k_ ≠ (v1669 : Value).ownBlock) v1676 t1674) := ⟨by rw [← hq_]; exact (by (with_reducible repeat (first | apply Kd.R_alloc | apply Kd.R_drewN | apply Kd.R_drew)); exact HO_20.out)⟩; have n5_ : Aside0 (Kd.R (Kd.int .i64) 2 w100 w.heap.size (fun k_ => some k_ ≠ (.slice (some ad1673) t1648.length co28 : Value).ownBlock ∧ some k_ ≠ (.slice Ao30 t1651.length co30 : Value).ownBlock ∧ some k_ ≠ (v1657 : Value).ownBlock ∧ some k_ ≠ (v1661 : Value).ownBlock ∧ some k_ ≠ (.slice Ao33 t1664.length co33 : Value).ownBlock ∧ some k_ ≠ (v1669 : Value).ownBlock ∧ some k_ ≠ (v1676 : Value).ownBlock) (.slice (some ad1672) t1645.length co27) t1645) := ⟨by rw [← hq_]; exact (by (with_reducible repeat (first | apply Kd.R_alloc | apply Kd.R_drewN | apply Kd.R_drew)); exact HO_7.out)⟩; have n6_ : Aside0 (Kd.R (Kd.int .i64) 2 w100 w.heap.size (fun k_ => some k_ ≠ (.slice (some ad1672) t1645.length co27 : Value).ownBlock ∧ some k_ ≠ (.slice Ao30 t1651.length co30 : Value).ownBlock ∧ some k_ ≠ (v1657 : Value).ownBlock ∧ some k_ ≠ (v1661 : Value).ownBlock ∧ some k_ ≠ (.slice Ao33 t1664.length co33 : Value).ownBlock ∧ some k_ ≠ (v1669 : Value).ownBlock ∧ some k_ ≠ (v1676 : Value).ownBlock) (.slice (some ad1673) t1648.length co28) t1648) := ⟨by rw [← hq_]; exact (by (with_reducible repeat (first | apply Kd.R_alloc | apply Kd.R_drewN | apply Kd.R_drew)); exact HO_8.out)⟩; have n7_ : Aside0 (Kd.R (Kd.int .i64) 2 w100 w.heap.size (fun k_ => some k_ ≠ (.slice (some ad1672) t1645.length co27 : Value).ownBlock ∧ some k_ ≠ (.slice (some ad1673) t1648.length co28 : Value).ownBlock ∧ some k_ ≠ (v1657 : Value).ownBlock ∧ some k_ ≠ (v1661 : Value).ownBlock ∧ some k_ ≠ (.slice Ao33 t1664.length co33 : Value).ownBlock ∧ some k_ ≠ (v1669 : Value).ownBlock ∧ some k_ ≠ (v1676 : Value).ownBlock) (.slice Ao30 t1651.length co30) t1651) := ⟨by rw [← hq_]; exact (by (with_reducible repeat (first | apply Kd.R_alloc | apply Kd.R_drewN | apply Kd.R_drew)); exact HO_9.out)⟩; have n8_ : Aside0 (Below w.heap.size w w100) := ⟨by rw [← hq_]; exact (by repeat (first | (with_reducible first | exact HB.out | apply below_alloc | apply pw_below_drewN | apply below_drew1) | exact HB.out))⟩; clear HO_12 HO_14 HO_16 HO_18 HO_20 HO_7 HO_8 HO_9 HB hq_; have HO_12 := n0_; have HO_14 := n1_; have HO_16 := n2_; have HO_18 := n3_; have HO_20 := n4_; have HO_7 := n5_; have HO_8 := n6_; have HO_9 := n7_; have HB := n8_; clear n0_ n1_ n2_ n3_ n4_ n5_ n6_ n7_ n8_))
       have n0_ := Aside0.mk (Kd.R_drew HO_7.out)
       have n1_ := Aside0.mk (Kd.R_drew HO_8.out)
       have n2_ := Aside0.mk (Kd.R_drew HO_9.out)
       have n3_ := Aside0.mk (Kd.R_drew HO_12.out)
       have n4_ := Aside0.mk (Kd.R_drew HO_14.out)
       have n5_ := Aside0.mk (Kd.R_drew HO_16.out)
       have n6_ := Aside0.mk (Kd.R_drew HO_18.out)
       have n7_ := Aside0.mk (Kd.R_drew HO_20.out)
       have n8_ := Aside0.mk (below_drew1 HB.out)
       clear HO_7
       clear HO_8
       clear HO_9
       clear HO_12
       clear HO_14
       clear HO_16
       clear HO_18
       clear HO_20
       clear HB
       have HO_7 := n0_
       have HO_8 := n1_
       have HO_9 := n2_
       have HO_12 := n3_
       have HO_14 := n4_
       have HO_16 := n5_
       have HO_18 := n6_
       have HO_20 := n7_
       have HB := n8_
       clear n0_ n1_ n2_ n3_ n4_ n5_ n6_ n7_ n8_
       have p1687 : 0 ≤ (x28_2 : Int) := of_decide_eq_true (by first | (with_reducible assumption) | assumption)
       have q1687 : x28_2 < (t1645.length : Int) := of_decide_eq_true (by first | (with_reducible assumption) | assumption)
       obtain ⟨ad1687, e1687, hx1687_0⟩ := Kd.at_int (Kd.R_reads' HO_7.out).2.2 x28_2 p1687 q1687
       obtain rfl : ad1672 = ad1687 := (by injection e1687)
       replace p1687 := eq_true p1687
       replace q1687 := eq_true q1687
       have p1688 : 0 ≤ (x28_2 : Int) := of_decide_eq_true (by first | (with_reducible assumption) | assumption)
       have q1688 : x28_2 < (t1648.length : Int) := of_decide_eq_true (by first | (with_reducible assumption) | assumption)
       obtain ⟨ad1688, e1688, hx1688_0⟩ := Kd.at_int (Kd.R_reads' HO_8.out).2.2 x28_2 p1688 q1688
       obtain rfl : ad1673 = ad1688 := (by injection e1688)
       replace p1688 := eq_true p1688
       replace q1688 := eq_true q1688
       refine start_ (n := 16) (S := fun w' => w'.cell? (ad1672.add (x28_2).toNat) = some (.int .i64 (rd t1645 x28_2)) ∧ w'.cell? (ad1673.add (x28_2).toNat) = some (.int .i64 (rd t1648 x28_2))) (ds := []) #[false, false, false, false, false, false, false, false, false, false, false, false, false, false, false, false] (by kernel_rfl) rfl rfl ⟨hx1687_0, hx1688_0⟩ (fun hHeld => ?_); refine with_tabW laws_FnLanes.tab25 laws_FnLanes.bits25 (fun HT_ HW_ => ?_)
       generalize w100.drew = w101 at HO_7 HO_8 HO_9 HO_12 HO_14 HO_16 HO_18 HO_20 HB hx1687_0 hx1688_0 hHeld ⊢
       refine pure_ (i := 0) (N := some 211) (v := ?_) (a' := ?_) #[true, false, false, false, false, false, false, false, false, false, false, false, false, false, false, false] rfl rfl (any_of HT_.out (by kernel_rfl)) (fun _ _ _ h => h) (Or.inl ⟨by rfl, ?_⟩) ?_ ?_
       rotate_left
       ·intro w'
        go_simp
        with_reducible rfl
       rotate_left
       ·simp only [Act.put, List.setIfInBounds_toArray, List.set_cons_zero, List.set_cons_succ, i64_w, i32_w]
        rfl
       refine pure_ (i := 1) (N := some 212) (v := ?_) (a' := ?_) #[true, true, false, false, false, false, false, false, false, false, false, false, false, false, false, false] rfl rfl (any_of HT_.out (by kernel_rfl)) (fun _ _ _ h => h) (Or.inl ⟨by rfl, ?_⟩) ?_ ?_
       rotate_left
       ·intro w'
        go_simp
        with_reducible rfl
       rotate_left
       ·simp only [Act.put, List.setIfInBounds_toArray, List.set_cons_zero, List.set_cons_succ, i64_w, i32_w]
        rfl
       refine pure_ (i := 2) (N := some 213) (v := ?_) (a' := ?_) #[true, true, true, false, false, false, false, false, false, false, false, false, false, false, false, false] rfl rfl (any_of HT_.out (by kernel_rfl)) (fun _ _ _ h => h) (Or.inl ⟨by rfl, ?_⟩) ?_ ?_
       rotate_left
       ·intro w'
        go_simp
        with_reducible rfl
       rotate_left
       ·simp only [Act.put, List.setIfInBounds_toArray, List.set_cons_zero, List.set_cons_succ, i64_w, i32_w]
        rfl
       refine pure_ (i := 3) (N := some 214) (v := ?_) (a' := ?_) #[true, true, true, true, false, false, false, false, false, false, false, false, false, false, false, false] rfl rfl (any_of HT_.out (by kernel_rfl)) (fun _ _ _ h => h) (Or.inl ⟨by rfl, ?_⟩) ?_ ?_
       rotate_left
       ·intro w'
        go_simp
        with_reducible rfl
       rotate_left
       ·simp only [Act.put, List.setIfInBounds_toArray, List.set_cons_zero, List.set_cons_succ, i64_w, i32_w]
        rfl
       refine pure_ (i := 4) (N := some 215) (v := ?_) (a' := ?_) #[true, true, true, true, true, false, false, false, false, false, false, false, false, false, false, false] rfl rfl (any_of HT_.out (by kernel_rfl)) (fun _ _ _ h => h) (Or.inl ⟨by rfl, ?_⟩) ?_ ?_
       rotate_left
       ·intro w'
        go_simp
        with_reducible rfl
       rotate_left
       ·simp only [Act.put, List.setIfInBounds_toArray, List.set_cons_zero, List.set_cons_succ, i64_w, i32_w]
        rfl
       refine pure_ (i := 6) (N := some 217) (v := ?_) (a' := ?_) #[true, true, true, true, true, false, true, false, false, false, false, false, false, false, false, false] rfl rfl (any_of HT_.out (by kernel_rfl)) (fun _ _ _ h => h) (Or.inl ⟨by rfl, ?_⟩) ?_ ?_
       rotate_left
       ·intro w'
        go_simp
        with_reducible rfl
       rotate_left
       ·simp only [Act.put, List.setIfInBounds_toArray, List.set_cons_zero, List.set_cons_succ, i64_w, i32_w]
        rfl
       refine pure_ (i := 7) (N := some 218) (v := ?_) (a' := ?_) #[true, true, true, true, true, false, true, true, false, false, false, false, false, false, false, false] rfl rfl (any_of HT_.out (by kernel_rfl)) (fun _ _ _ h => h) (Or.inl ⟨by rfl, ?_⟩) ?_ ?_
       rotate_left
       ·intro w'
        go_simp
        with_reducible rfl
       rotate_left
       ·simp only [Act.put, List.setIfInBounds_toArray, List.set_cons_zero, List.set_cons_succ, i64_w, i32_w]
        rfl
       refine pure_ (i := 8) (N := some 219) (v := ?_) (a' := ?_) #[true, true, true, true, true, false, true, true, true, false, false, false, false, false, false, false] rfl rfl (any_of HT_.out (by kernel_rfl)) (fun _ _ _ h => h) (Or.inl ⟨by rfl, ?_⟩) ?_ ?_
       rotate_left
       ·intro w'
        go_simp
        with_reducible rfl
       rotate_left
       ·simp only [Act.put, List.setIfInBounds_toArray, List.set_cons_zero, List.set_cons_succ, i64_w, i32_w]
        rfl
       refine take_ (i := 5) (N := some 216) (v := ?_) (a' := ?_) #[true, true, true, true, true, true, true, true, true, false, false, false, false, false, false, false] rfl rfl (take_ofW HT_.out HW_.out (by kernel_rfl)) (fun _ _ _ h => h) (Or.inl ⟨by rfl, ?_⟩) hHeld ?_ ?_
       rotate_left
       ·rintro w' ⟨s0, s1⟩
        go_simp
        with_reducible rfl
       rotate_left
       ·simp only [Act.put, List.setIfInBounds_toArray, List.set_cons_zero, List.set_cons_succ, i64_w, i32_w]
        rfl
       refine take_ (i := 9) (N := some 220) (v := ?_) (a' := ?_) #[true, true, true, true, true, true, true, true, true, true, false, false, false, false, false, false] rfl rfl (take_ofW HT_.out HW_.out (by kernel_rfl)) (fun _ _ _ h => h) (Or.inl ⟨by rfl, ?_⟩) hHeld ?_ ?_
       rotate_left
       ·rintro w' ⟨s0, s1⟩
        go_simp
        with_reducible rfl
       rotate_left
       ·simp only [Act.put, List.setIfInBounds_toArray, List.set_cons_zero, List.set_cons_succ, i64_w, i32_w]
        rfl
       refine one_ (i := 10) (N := some 221) #[true, true, true, true, true, true, true, true, true, true, true, false, false, false, false, false] rfl rfl (one_of HT_.out (by kernel_rfl)) (by decide) (fun K hK => ?_)
       refine goes_ Try.func82 (by kernel_rfl) rfl #[.int .i64 t1655, .int .i64 t1643, .int .i64 (rd t1645 x28_2), .int .i64 (rd t1648 x28_2)] (by rfl) rfl rfl (by (try simp only [List.map_toArray, List.map_cons, List.map_nil]); first | done | rfl | (simp only [List.length_drop, List.length_take]; rfl)) ?_
       with_reducible refine (impl_TestCmp.calls t1655 t1643 (rd t1645 x28_2) (rd t1648 x28_2) t1689 t1690 _ A94.out).mono ?_
       rintro e w' ⟨rfl, ⟨nd, rfl⟩⟩
       refine ⟨_, rfl, ?_⟩
       refine hK.out _ _ ⟨hHeld.1, hHeld.2⟩ (fun hHeld => ?_)
       clear hK K
       refine norm_ (a' := ?_) ?_ ?_
       rotate_left
       ·show Act.put _ (some 221) _ = _
        simp only [Act.put, List.setIfInBounds_toArray, List.set_cons_zero, List.set_cons_succ, i64_w, i32_w]
        rfl
       refine pure_ (i := 11) (N := some 210) (v := ?_) (a' := ?_) #[true, true, true, true, true, true, true, true, true, true, true, true, false, false, false, false] rfl rfl (any_of HT_.out (by kernel_rfl)) (fun _ _ _ h => h) (Or.inl ⟨by rfl, ?_⟩) ?_ ?_
       rotate_left
       ·intro w'
        go_simp
        with_reducible rfl
       rotate_left
       ·simp only [Act.put, List.setIfInBounds_toArray, List.set_cons_zero, List.set_cons_succ, i64_w, i32_w]
        rfl
       refine pure_ (i := 12) (N := some 222) (v := ?_) (a' := ?_) #[true, true, true, true, true, true, true, true, true, true, true, true, true, false, false, false] rfl rfl (any_of HT_.out (by kernel_rfl)) (fun _ _ _ h => h) (Or.inl ⟨by rfl, ?_⟩) ?_ ?_
       rotate_left
       ·intro w'
        go_simp
        with_reducible rfl
       rotate_left
       ·simp only [Act.put, List.setIfInBounds_toArray, List.set_cons_zero, List.set_cons_succ, i64_w, i32_w]
        rfl
       refine pure_ (i := 13) (N := some 223) (v := ?_) (a' := ?_) #[true, true, true, true, true, true, true, true, true, true, true, true, true, true, false, false] rfl rfl (any_of HT_.out (by kernel_rfl)) (fun _ _ _ h => h) (Or.inl ⟨by rfl, ?_⟩) ?_ ?_
       rotate_left
       ·intro w'
        go_simp
        with_reducible rfl
       rotate_left
       ·simp only [Act.put, List.setIfInBounds_toArray, List.set_cons_zero, List.set_cons_succ, i64_w, i32_w]
        rfl
       refine pure_ (i := 14) (N := some 31) (v := ?_) (a' := ?_) #[true, true, true, true, true, true, true, true, true, true, true, true, true, true, true, false] rfl rfl (any_of HT_.out (by kernel_rfl)) (fun _ _ _ h => h) (Or.inl ⟨by rfl, ?_⟩) ?_ ?_
       rotate_left
       ·intro w'
        go_simp
        with_reducible rfl
       rotate_left
       ·simp only [Act.put, List.setIfInBounds_toArray, List.set_cons_zero, List.set_cons_succ, i64_w, i32_w]
        rfl
       refine pure_ (i := 15) (N := some 32) (v := ?_) (a' := ?_) #[true, true, true, true, true, true, true, true, true, true, true, true, true, true, true, true] rfl rfl (any_of HT_.out (by kernel_rfl)) (fun _ _ _ h => h) (Or.inl ⟨by rfl, ?_⟩) ?_ ?_
       rotate_left
       ·intro w'
        go_simp
        with_reducible rfl
       rotate_left
       ·simp only [Act.put, List.setIfInBounds_toArray, List.set_cons_zero, List.set_cons_succ, i64_w, i32_w]
        rfl
       refine done_ (done_of HT_.out (by kernel_rfl)) ?_
       try go_wp2
       (try (rw [drewN_self w101]; generalize hq_ : World.drewN w101 _ = w101; have n0_ : Aside0 (Kd.R (Kd.int .i64) 2 w101 w.heap.size (fun k_ => some k_ ≠ (.slice (some ad1672) t1645.length co27 : Value).ownBlock ∧ some k_ ≠ (.slice (some ad1673) t1648.length co28 : Value).ownBlock ∧ some k_ ≠ (.slice Ao30 t1651.length co30 : Value).ownBlock ∧ some k_ ≠ (v1661 : Value).ownBlock ∧ some k_ ≠ (.slice Ao33 t1664.length co33 : Value).ownBlock ∧ some k_ ≠ (v1669 : Value).ownBlock ∧ some k_ ≠ (v1676 : Value).ownBlock) v1657 t1656) := ⟨by rw [← hq_]; exact (by (with_reducible repeat (first | apply Kd.R_alloc | apply Kd.R_drewN | apply Kd.R_drew)); exact HO_12.out)⟩; have n1_ : Aside0 (Kd.R (Kd.int .i64) 2 w101 w.heap.size (fun k_ => some k_ ≠ (.slice (some ad1672) t1645.length co27 : Value).ownBlock ∧ some k_ ≠ (.slice (some ad1673) t1648.length co28 : Value).ownBlock ∧ some k_ ≠ (.slice Ao30 t1651.length co30 : Value).ownBlock ∧ some k_ ≠ (v1657 : Value).ownBlock ∧ some k_ ≠ (.slice Ao33 t1664.length co33 : Value).ownBlock ∧ some k_ ≠ (v1669 : Value).ownBlock ∧ some k_ ≠ (v1676 : Value).ownBlock) v1661 t1660) := ⟨by rw [← hq_]; exact (by (with_reducible repeat (first | apply Kd.R_alloc | apply Kd.R_drewN | apply Kd.R_drew)); exact HO_14.out)⟩; have n2_ : Aside0 (Kd.R (Kd.int .i64) 2 w101 w.heap.size (fun k_ => some k_ ≠ (.slice (some ad1672) t1645.length co27 : Value).ownBlock ∧ some k_ ≠ (.slice (some ad1673) t1648.length co28 : Value).ownBlock ∧ some k_ ≠ (.slice Ao30 t1651.length co30 : Value).ownBlock ∧ some k_ ≠ (v1657 : Value).ownBlock ∧ some k_ ≠ (v1661 : Value).ownBlock ∧ some k_ ≠ (v1669 : Value).ownBlock ∧ some k_ ≠ (v1676 : Value).ownBlock) (.slice Ao33 t1664.length co33) t1664) := ⟨by rw [← hq_]; exact (by (with_reducible repeat (first | apply Kd.R_alloc | apply Kd.R_drewN | apply Kd.R_drew)); exact HO_16.out)⟩; have n3_ : Aside0 (Kd.R (Kd.int .i64) 2 w101 w.heap.size (fun k_ => some k_ ≠ (.slice (some ad1672) t1645.length co27 : Value).ownBlock ∧ some k_ ≠ (.slice (some ad1673) t1648.length co28 : Value).ownBlock ∧ some k_ ≠ (.slice Ao30 t1651.length co30 : Value).ownBlock ∧ some k_ ≠ (v1657 : Value).ownBlock ∧ some k_ ≠ (v1661 : Value).ownBlock ∧ some k_ ≠ (.slice Ao33 t1664.length co33 : Value).ownBlock ∧ some k_ ≠ (v1676 : Value).ownBlock) v1669 t1668) := ⟨by rw [← hq_]; exact (by (with_reducible repeat (first | apply Kd.R_alloc | apply Kd.R_drewN | apply Kd.R_drew)); exact HO_18.out)⟩; have n4_ : Aside0 (Kd.R (Kd.int .i64) 2 w101 w.heap.size (fun k_ => some k_ ≠ (.slice (some ad1672) t1645.length co27 : Value).ownBlock ∧ some k_ ≠ (.slice (some ad1673) t1648.length co28 : Value).ownBlock ∧ some k_ ≠ (.slice Ao30 t1651.length co30 : Value).ownBlock ∧ some k_ ≠ (v1657 : Value).ownBlock ∧ some k_ ≠ (v1661 : Value).ownBlock ∧ some k_ ≠ (.slice Ao33 t1664.length co33 : Value).ownBlock ∧ some k_ ≠ (v1669 : Value).ownBlock) v1676 t1674) := ⟨by rw [← hq_]; exact (by (with_reducible repeat (first | apply Kd.R_alloc | apply Kd.R_drewN | apply Kd.R_drew)); exact HO_20.out)⟩; have n5_ : Aside0 (Kd.R (Kd.int .i64) 2 w101 w.heap.size (fun k_ => some k_ ≠ (.slice (some ad1673) t1648.length co28 : Value).ownBlock ∧ some k_ ≠ (.slice Ao30 t1651.length co30 : Value).ownBlock ∧ some k_ ≠ (v1657 : Value).ownBlock ∧ some k_ ≠ (v1661 : Value).ownBlock ∧ some k_ ≠ (.slice Ao33 t1664.length co33 : Value).ownBlock ∧ some k_ ≠ (v1669 : Value).ownBlock ∧ some k_ ≠ (v1676 : Value).ownBlock) (.slice (some ad1672) t1645.length co27) t1645) := ⟨by rw [← hq_]; exact (by (with_reducible repeat (first | apply Kd.R_alloc | apply Kd.R_drewN | apply Kd.R_drew)); exact HO_7.out)⟩; have n6_ : Aside0 (Kd.R (Kd.int .i64) 2 w101 w.heap.size (fun k_ => some k_ ≠ (.slice (some ad1672) t1645.length co27 : Value).ownBlock ∧ some k_ ≠ (.slice Ao30 t1651.length co30 : Value).ownBlock ∧ some k_ ≠ (v1657 : Value).ownBlock ∧ some k_ ≠ (v1661 : Value).ownBlock ∧ some k_ ≠ (.slice Ao33 t1664.length co33 : Value).ownBlock ∧ some k_ ≠ (v1669 : Value).ownBlock ∧ some k_ ≠ (v1676 : Value).ownBlock) (.slice (some ad1673) t1648.length co28) t1648) := ⟨by rw [← hq_]; exact (by (with_reducible repeat (first | apply Kd.R_alloc | apply Kd.R_drewN | apply Kd.R_drew)); exact HO_8.out)⟩; have n7_ : Aside0 (Kd.R (Kd.int .i64) 2 w101 w.heap.size (fun k_ => some k_ ≠ (.slice (some ad1672) t1645.length co27 : Value).ownBlock ∧ some k_ ≠ (.slice (some ad1673) t1648.length co28 : Value).ownBlock ∧ some k_ ≠ (v1657 : Value).ownBlock ∧ some k_ ≠ (v1661 : Value).ownBlock ∧ some k_ ≠ (.slice Ao33 t1664.length co33 : Value).ownBlock ∧ some k_ ≠ (v1669 : Value).ownBlock ∧ some k_ ≠ (v1676 : Value).ownBlock) (.slice Ao30 t1651.length co30) t1651) := ⟨by rw [← hq_]; exact (by (with_reducible repeat (first | apply Kd.R_alloc | apply Kd.R_drewN | apply Kd.R_drew)); exact HO_9.out)⟩; have n8_ : Aside0 (Below w.heap.size w w101) := ⟨by rw [← hq_]; exact (by repeat (first | (with_reducible first | exact HB.out | apply below_alloc | apply pw_below_drewN | apply below_drew1) | exact HB.out))⟩; clear HO_12 HO_14 HO_16 HO_18 HO_20 HO_7 HO_8 HO_9 HB hq_; have HO_12 := n0_; have HO_14 := n1_; have HO_16 := n2_; have HO_18 := n3_; have HO_20 := n4_; have HO_7 := n5_; have HO_8 := n6_; have HO_9 := n7_; have HB := n8_; clear n0_ n1_ n2_ n3_ n4_ n5_ n6_ n7_ n8_))
       have n0_ := Aside0.mk (Kd.R_drew HO_7.out)
       have n1_ := Aside0.mk (Kd.R_drew HO_8.out)
       have n2_ := Aside0.mk (Kd.R_drew HO_9.out)
       have n3_ := Aside0.mk (Kd.R_drew HO_12.out)
       have n4_ := Aside0.mk (Kd.R_drew HO_14.out)
       have n5_ := Aside0.mk (Kd.R_drew HO_16.out)
       have n6_ := Aside0.mk (Kd.R_drew HO_18.out)
       have n7_ := Aside0.mk (Kd.R_drew HO_20.out)
       have n8_ := Aside0.mk (below_drew1 HB.out)
       clear HO_7
       clear HO_8
       clear HO_9
       clear HO_12
       clear HO_14
       clear HO_16
       clear HO_18
       clear HO_20
       clear HB
       have HO_7 := n0_
       have HO_8 := n1_
       have HO_9 := n2_
       have HO_12 := n3_
       have HO_14 := n4_
       have HO_16 := n5_
       have HO_18 := n6_
       have HO_20 := n7_
       have HB := n8_
       clear n0_ n1_ n2_ n3_ n4_ n5_ n6_ n7_ n8_
       have p1691 : 0 ≤ (0 : Int) := (by omega)
       have q1691 : 0 < (t1645.length : Int) := of_decide_eq_true (by first | (with_reducible assumption) | assumption)
       obtain ⟨ad1691, e1691, hx1691_0⟩ := Kd.at_int (Kd.R_reads' HO_7.out).2.2 0 p1691 q1691
       obtain rfl : ad1672 = ad1691 := (by injection e1691)
       have qi1691 : (0 < t1645.length) = True := eq_true (by omega)
       (try rw [show ((0 : Int)).toNat = 0 from rfl] at hx1691_0)
       (try rw [Addr.add_zero'] at hx1691_0)
       replace p1691 := eq_true p1691
       replace q1691 := eq_true q1691
       have p1692 : 0 ≤ (0 : Int) := (by omega)
       have q1692 : 0 < (t1648.length : Int) := of_decide_eq_true (by first | (with_reducible assumption) | assumption)
       obtain ⟨ad1692, e1692, hx1692_0⟩ := Kd.at_int (Kd.R_reads' HO_8.out).2.2 0 p1692 q1692
       obtain rfl : ad1673 = ad1692 := (by injection e1692)
       have qi1692 : (0 < t1648.length) = True := eq_true (by omega)
       (try rw [show ((0 : Int)).toNat = 0 from rfl] at hx1692_0)
       (try rw [Addr.add_zero'] at hx1692_0)
       replace p1692 := eq_true p1692
       replace q1692 := eq_true q1692
       refine start_ (n := 16) (S := fun w' => w'.cell? ad1672 = some (.int .i64 (rd t1645 0)) ∧ w'.cell? ad1673 = some (.int .i64 (rd t1648 0))) (ds := []) #[false, false, false, false, false, false, false, false, false, false, false, false, false, false, false, false] (by kernel_rfl) rfl rfl ⟨hx1691_0, hx1692_0⟩ (fun hHeld => ?_); refine with_tabW laws_FnLanes.tab26 laws_FnLanes.bits26 (fun HT_ HW_ => ?_)
       generalize w101.drew = w102 at HO_7 HO_8 HO_9 HO_12 HO_14 HO_16 HO_18 HO_20 HB hx1691_0 hx1692_0 hHeld ⊢
       refine pure_ (i := 0) (N := some 225) (v := ?_) (a' := ?_) #[true, false, false, false, false, false, false, false, false, false, false, false, false, false, false, false] rfl rfl (any_of HT_.out (by kernel_rfl)) (fun _ _ _ h => h) (Or.inl ⟨by rfl, ?_⟩) ?_ ?_
       rotate_left
       ·intro w'
        go_simp
        with_reducible rfl
       rotate_left
       ·simp only [Act.put, List.setIfInBounds_toArray, List.set_cons_zero, List.set_cons_succ, i64_w, i32_w]
        rfl
       refine pure_ (i := 1) (N := some 226) (v := ?_) (a' := ?_) #[true, true, false, false, false, false, false, false, false, false, false, false, false, false, false, false] rfl rfl (any_of HT_.out (by kernel_rfl)) (fun _ _ _ h => h) (Or.inl ⟨by rfl, ?_⟩) ?_ ?_
       rotate_left
       ·intro w'
        go_simp
        with_reducible rfl
       rotate_left
       ·simp only [Act.put, List.setIfInBounds_toArray, List.set_cons_zero, List.set_cons_succ, i64_w, i32_w]
        rfl
       refine pure_ (i := 2) (N := some 227) (v := ?_) (a' := ?_) #[true, true, true, false, false, false, false, false, false, false, false, false, false, false, false, false] rfl rfl (any_of HT_.out (by kernel_rfl)) (fun _ _ _ h => h) (Or.inl ⟨by rfl, ?_⟩) ?_ ?_
       rotate_left
       ·intro w'
        go_simp
        with_reducible rfl
       rotate_left
       ·simp only [Act.put, List.setIfInBounds_toArray, List.set_cons_zero, List.set_cons_succ, i64_w, i32_w]
        rfl
       refine pure_ (i := 4) (N := some 229) (v := ?_) (a' := ?_) #[true, true, true, false, true, false, false, false, false, false, false, false, false, false, false, false] rfl rfl (any_of HT_.out (by kernel_rfl)) (fun _ _ _ h => h) (Or.inl ⟨by rfl, ?_⟩) ?_ ?_
       rotate_left
       ·intro w'
        go_simp
        with_reducible rfl
       rotate_left
       ·simp only [Act.put, List.setIfInBounds_toArray, List.set_cons_zero, List.set_cons_succ, i64_w, i32_w]
        rfl
       refine pure_ (i := 5) (N := some 230) (v := ?_) (a' := ?_) #[true, true, true, false, true, true, false, false, false, false, false, false, false, false, false, false] rfl rfl (any_of HT_.out (by kernel_rfl)) (fun _ _ _ h => h) (Or.inl ⟨by rfl, ?_⟩) ?_ ?_
       rotate_left
       ·intro w'
        go_simp
        with_reducible rfl
       rotate_left
       ·simp only [Act.put, List.setIfInBounds_toArray, List.set_cons_zero, List.set_cons_succ, i64_w, i32_w]
        rfl
       refine pure_ (i := 6) (N := some 231) (v := ?_) (a' := ?_) #[true, true, true, false, true, true, true, false, false, false, false, false, false, false, false, false] rfl rfl (any_of HT_.out (by kernel_rfl)) (fun _ _ _ h => h) (Or.inl ⟨by rfl, ?_⟩) ?_ ?_
       rotate_left
       ·intro w'
        go_simp
        with_reducible rfl
       rotate_left
       ·simp only [Act.put, List.setIfInBounds_toArray, List.set_cons_zero, List.set_cons_succ, i64_w, i32_w]
        rfl
       refine take_ (i := 3) (N := some 228) (v := ?_) (a' := ?_) #[true, true, true, true, true, true, true, false, false, false, false, false, false, false, false, false] rfl rfl (take_ofW HT_.out HW_.out (by kernel_rfl)) (fun _ _ _ h => h) (Or.inl ⟨by rfl, ?_⟩) hHeld ?_ ?_
       rotate_left
       ·rintro w' ⟨s0, s1⟩
        go_simp
        with_reducible rfl
       rotate_left
       ·simp only [Act.put, List.setIfInBounds_toArray, List.set_cons_zero, List.set_cons_succ, i64_w, i32_w]
        rfl
       refine take_ (i := 7) (N := some 232) (v := ?_) (a' := ?_) #[true, true, true, true, true, true, true, true, false, false, false, false, false, false, false, false] rfl rfl (take_ofW HT_.out HW_.out (by kernel_rfl)) (fun _ _ _ h => h) (Or.inl ⟨by rfl, ?_⟩) hHeld ?_ ?_
       rotate_left
       ·rintro w' ⟨s0, s1⟩
        go_simp
        with_reducible rfl
       rotate_left
       ·simp only [Act.put, List.setIfInBounds_toArray, List.set_cons_zero, List.set_cons_succ, i64_w, i32_w]
        rfl
       refine pure_ (i := 8) (N := some 233) (v := ?_) (a' := ?_) #[true, true, true, true, true, true, true, true, true, false, false, false, false, false, false, false] rfl rfl (any_of HT_.out (by kernel_rfl)) (fun _ _ _ h => h) (Or.inl ⟨by rfl, ?_⟩) ?_ ?_
       rotate_left
       ·intro w'
        go_simp
        with_reducible rfl
       rotate_left
       ·simp only [Act.put, List.setIfInBounds_toArray, List.set_cons_zero, List.set_cons_succ, i64_w, i32_w]
        rfl
       refine pure_ (i := 9) (N := some 234) (v := ?_) (a' := ?_) #[true, true, true, true, true, true, true, true, true, true, false, false, false, false, false, false] rfl rfl (any_of HT_.out (by kernel_rfl)) (fun _ _ _ h => h) (Or.inl ⟨by rfl, ?_⟩) ?_ ?_
       rotate_left
       ·intro w'
        go_simp
        with_reducible rfl
       rotate_left
       ·simp only [Act.put, List.setIfInBounds_toArray, List.set_cons_zero, List.set_cons_succ, i64_w, i32_w]
        rfl
       refine one_ (i := 10) (N := some 235) #[true, true, true, true, true, true, true, true, true, true, true, false, false, false, false, false] rfl rfl (one_of HT_.out (by kernel_rfl)) (by decide) (fun K hK => ?_)
       refine goes_ Try.func83 (by kernel_rfl) rfl #[.int .i64 t1643, .int .i64 (wrap64 ((rd t1645 0) + (wrap64 (x28_2 * (rd t1648 0)))))] (by rfl) rfl rfl (by (try simp only [List.map_toArray, List.map_cons, List.map_nil]); first | done | rfl | (simp only [List.length_drop, List.length_take]; rfl)) ?_
       with_reducible refine (impl_WordOf.calls t1643 (wrap64 ((rd t1645 0) + (wrap64 (x28_2 * (rd t1648 0))))) t1693 t1694 _ A97.out).mono ?_
       rintro e w' ⟨rfl, ⟨nd, rfl⟩⟩
       refine ⟨_, rfl, ?_⟩
       refine hK.out _ _ ⟨hHeld.1, hHeld.2⟩ (fun hHeld => ?_)
       clear hK K
       refine norm_ (a' := ?_) ?_ ?_
       rotate_left
       ·show Act.put _ (some 235) _ = _
        simp only [Act.put, List.setIfInBounds_toArray, List.set_cons_zero, List.set_cons_succ, i64_w, i32_w]
        rfl
       refine pure_ (i := 11) (N := some 224) (v := ?_) (a' := ?_) #[true, true, true, true, true, true, true, true, true, true, true, true, false, false, false, false] rfl rfl (any_of HT_.out (by kernel_rfl)) (fun _ _ _ h => h) (Or.inl ⟨by rfl, ?_⟩) ?_ ?_
       rotate_left
       ·intro w'
        go_simp
        with_reducible rfl
       rotate_left
       ·simp only [Act.put, List.setIfInBounds_toArray, List.set_cons_zero, List.set_cons_succ, i64_w, i32_w]
        rfl
       refine pure_ (i := 12) (N := some 236) (v := ?_) (a' := ?_) #[true, true, true, true, true, true, true, true, true, true, true, true, true, false, false, false] rfl rfl (any_of HT_.out (by kernel_rfl)) (fun _ _ _ h => h) (Or.inl ⟨by rfl, ?_⟩) ?_ ?_
       rotate_left
       ·intro w'
        go_simp
        with_reducible rfl
       rotate_left
       ·simp only [Act.put, List.setIfInBounds_toArray, List.set_cons_zero, List.set_cons_succ, i64_w, i32_w]
        rfl
       refine pure_ (i := 13) (N := some 237) (v := ?_) (a' := ?_) #[true, true, true, true, true, true, true, true, true, true, true, true, true, true, false, false] rfl rfl (any_of HT_.out (by kernel_rfl)) (fun _ _ _ h => h) (Or.inl ⟨by rfl, ?_⟩) ?_ ?_
       rotate_left
       ·intro w'
        go_simp
        with_reducible rfl
       rotate_left
       ·simp only [Act.put, List.setIfInBounds_toArray, List.set_cons_zero, List.set_cons_succ, i64_w, i32_w]
        rfl
       refine pure_ (i := 14) (N := some 33) (v := ?_) (a' := ?_) #[true, true, true, true, true, true, true, true, true, true, true, true, true, true, true, false] rfl rfl (any_of HT_.out (by kernel_rfl)) (fun _ _ _ h => h) (Or.inl ⟨by rfl, ?_⟩) ?_ ?_
       rotate_left
       ·intro w'
        go_simp
        with_reducible rfl
       rotate_left
       ·simp only [Act.put, List.setIfInBounds_toArray, List.set_cons_zero, List.set_cons_succ, i64_w, i32_w]
        rfl
       refine pure_ (i := 15) (N := some 34) (v := ?_) (a' := ?_) #[true, true, true, true, true, true, true, true, true, true, true, true, true, true, true, true] rfl rfl (any_of HT_.out (by kernel_rfl)) (fun _ _ _ h => h) (Or.inl ⟨by rfl, ?_⟩) ?_ ?_
       rotate_left
       ·intro w'
        go_simp
        with_reducible rfl
       rotate_left
       ·simp only [Act.put, List.setIfInBounds_toArray, List.set_cons_zero, List.set_cons_succ, i64_w, i32_w]
        rfl
       refine done_ (done_of HT_.out (by kernel_rfl)) ?_
       have p1695 : 0 ≤ (x28_2 : Int) := of_decide_eq_true (by first | (with_reducible assumption) | assumption)
       have q1695 : x28_2 < (t1664.length : Int) := of_decide_eq_true (by first | (with_reducible assumption) | assumption)
       obtain ⟨ad1695, e1695, hx1695_0⟩ := Kd.at_int (Kd.R_reads' HO_16.out).2.2 x28_2 p1695 q1695
       cases e1695
       replace p1695 := eq_true p1695
       replace q1695 := eq_true q1695
       go_upto_region 28 with (fail)
       go_cut [278] (fun v278 wc => ∃ (kq : Nat) (x278_98 : Bool), v278 = .bool x278_98 ∧ Aside0 (laws_FnLanes.j2 kq t1643 t1645 t1648 t1651 t1654 t1655 t1656 t1660 t1664 t1668 t1674 t1678 t1680 t1681 t1644 (wrap64 (x27_2 + (rd t1664 x28_2))) x28_2 t1685 t1689 x278_98 = some r) ∧ Aside0 (kq ≤ k2) ∧ Aside0 (Kd.R (Kd.int .i64) 2 wc w.heap.size (fun k_ => some k_ ≠ ((.slice (some ad1673) t1648.length co28) : Value).ownBlock ∧ some k_ ≠ ((.slice Ao30 t1651.length co30) : Value).ownBlock ∧ some k_ ≠ (v1657 : Value).ownBlock ∧ some k_ ≠ (v1661 : Value).ownBlock ∧ some k_ ≠ ((.slice (some ad1695) t1664.length co33) : Value).ownBlock ∧ some k_ ≠ (v1669 : Value).ownBlock ∧ some k_ ≠ (v1676 : Value).ownBlock) (.slice (some ad1672) t1645.length co27) t1645) ∧ Aside0 (Kd.R (Kd.int .i64) 2 wc w.heap.size (fun k_ => some k_ ≠ ((.slice (some ad1672) t1645.length co27) : Value).ownBlock ∧ some k_ ≠ ((.slice Ao30 t1651.length co30) : Value).ownBlock ∧ some k_ ≠ (v1657 : Value).ownBlock ∧ some k_ ≠ (v1661 : Value).ownBlock ∧ some k_ ≠ ((.slice (some ad1695) t1664.length co33) : Value).ownBlock ∧ some k_ ≠ (v1669 : Value).ownBlock ∧ some k_ ≠ (v1676 : Value).ownBlock) (.slice (some ad1673) t1648.length co28) t1648) ∧ Aside0 (Kd.R (Kd.int .i64) 2 wc w.heap.size (fun k_ => some k_ ≠ ((.slice (some ad1672) t1645.length co27) : Value).ownBlock ∧ some k_ ≠ ((.slice (some ad1673) t1648.length co28) : Value).ownBlock ∧ some k_ ≠ (v1657 : Value).ownBlock ∧ some k_ ≠ (v1661 : Value).ownBlock ∧ some k_ ≠ ((.slice (some ad1695) t1664.length co33) : Value).ownBlock ∧ some k_ ≠ (v1669 : Value).ownBlock ∧ some k_ ≠ (v1676 : Value).ownBlock) (.slice Ao30 t1651.length co30) t1651) ∧ Aside0 (Kd.R (Kd.int .i64) 2 wc w.heap.size (fun k_ => some k_ ≠ ((.slice (some ad1672) t1645.length co27) : Value).ownBlock ∧ some k_ ≠ ((.slice (some ad1673) t1648.length co28) : Value).ownBlock ∧ some k_ ≠ ((.slice Ao30 t1651.length co30) : Value).ownBlock ∧ some k_ ≠ (v1661 : Value).ownBlock ∧ some k_ ≠ ((.slice (some ad1695) t1664.length co33) : Value).ownBlock ∧ some k_ ≠ (v1669 : Value).ownBlock ∧ some k_ ≠ (v1676 : Value).ownBlock) v1657 t1656) ∧ Aside0 (Kd.R (Kd.int .i64) 2 wc w.heap.size (fun k_ => some k_ ≠ ((.slice (some ad1672) t1645.length co27) : Value).ownBlock ∧ some k_ ≠ ((.slice (some ad1673) t1648.length co28) : Value).ownBlock ∧ some k_ ≠ ((.slice Ao30 t1651.length co30) : Value).ownBlock ∧ some k_ ≠ (v1657 : Value).ownBlock ∧ some k_ ≠ ((.slice (some ad1695) t1664.length co33) : Value).ownBlock ∧ some k_ ≠ (v1669 : Value).ownBlock ∧ some k_ ≠ (v1676 : Value).ownBlock) v1661 t1660) ∧ Aside0 (Kd.R (Kd.int .i64) 2 wc w.heap.size (fun k_ => some k_ ≠ ((.slice (some ad1672) t1645.length co27) : Value).ownBlock ∧ some k_ ≠ ((.slice (some ad1673) t1648.length co28) : Value).ownBlock ∧ some k_ ≠ ((.slice Ao30 t1651.length co30) : Value).ownBlock ∧ some k_ ≠ (v1657 : Value).ownBlock ∧ some k_ ≠ (v1661 : Value).ownBlock ∧ some k_ ≠ (v1669 : Value).ownBlock ∧ some k_ ≠ (v1676 : Value).ownBlock) (.slice (some ad1695) t1664.length co33) t1664) ∧ Aside0 (Kd.R (Kd.int .i64) 2 wc w.heap.size (fun k_ => some k_ ≠ ((.slice (some ad1672) t1645.length co27) : Value).ownBlock ∧ some k_ ≠ ((.slice (some ad1673) t1648.length co28) : Value).ownBlock ∧ some k_ ≠ ((.slice Ao30 t1651.length co30) : Value).ownBlock ∧ some k_ ≠ (v1657 : Value).ownBlock ∧ some k_ ≠ (v1661 : Value).ownBlock ∧ some k_ ≠ ((.slice (some ad1695) t1664.length co33) : Value).ownBlock ∧ some k_ ≠ (v1676 : Value).ownBlock) v1669 t1668) ∧ Aside0 (Kd.R (Kd.int .i64) 2 wc w.heap.size (fun k_ => some k_ ≠ ((.slice (some ad1672) t1645.length co27) : Value).ownBlock ∧ some k_ ≠ ((.slice (some ad1673) t1648.length co28) : Value).ownBlock ∧ some k_ ≠ ((.slice Ao30 t1651.length co30) : Value).ownBlock ∧ some k_ ≠ (v1657 : Value).ownBlock ∧ some k_ ≠ (v1661 : Value).ownBlock ∧ some k_ ≠ ((.slice (some ad1695) t1664.length co33) : Value).ownBlock ∧ some k_ ≠ (v1669 : Value).ownBlock) v1676 t1674) ∧ Aside0 (Below w.heap.size w wc))
       case first =>
        have H := HC99.out
        clear HC99
        by_cases c103 : t1686 = true
        rotate_left
        ·replace c103 := Bool.eq_false_iff.mpr c103
         subst c103
         rw [if_neg (show ¬ (false = true) by decide)] at H
         exact (laws_FnLanes.j2_no H HRT.out).elim
        subst c103
        rw [if_pos rfl] at H
        by_cases c104 : t1690 = true
        rotate_left
        ·replace c104 := Bool.eq_false_iff.mpr c104
         subst c104
         rw [if_neg (show ¬ (false = true) by decide)] at H
         exact (laws_FnLanes.j2_no H HRT.out).elim
        subst c104
        rw [if_pos rfl] at H
        by_cases c105 : t1694 = true
        rotate_left
        ·replace c105 := Bool.eq_false_iff.mpr c105
         subst c105
         rw [if_neg (show ¬ (false = true) by decide)] at H
         exact (laws_FnLanes.j2_no H HRT.out).elim
        subst c105
        rw [if_pos rfl] at H
        by_cases c106 : x28_2 < (t1656.length : Int)
        rotate_left
        ·rw [if_neg c106] at H
         exact absurd H (by simp)
        rw [if_pos c106] at H
        have c106b0 : decide (x28_2 < (t1656.length : Int)) = true := decide_eq_true c106
        clear c106
        (first | rw [c106b0] | (simp only [i64_w, i32_w]; rw [c106b0]) | skip)
        by_cases c107 : (rd t1656 x28_2) = t1685
        ·rw [if_pos c107] at H
         have c107b0 : ((rd t1656 x28_2) == t1685) = true := beq_iff_eq.mpr c107
         have c107b1 : ((rd t1656 x28_2) != t1685) = false := bne_eq_false_iff_eq.mpr c107
         clear c107
         by_cases c108 : (((rd t1664 x28_2) == 1) != t1689) = true
         ·rw [if_pos c108] at H
          have c108b0 : (((rd t1664 x28_2) == 1) != t1689) = true := c108
          (try (have c108b1 : decide (((rd t1664 x28_2) == 1) = t1689) = false := by simpa using c108))
          (try (have c108b2 : (((rd t1664 x28_2) == 1) == t1689) = false := by simpa using c108))
          (try (have c108b3 : ¬ (((rd t1664 x28_2) == 1) = t1689) := by simpa using c108))
          clear c108
          exact (laws_FnLanes.j2_no H HRT.out).elim
         ·rw [if_neg c108] at H
          have c108b0 : (((rd t1664 x28_2) == 1) != t1689) = false := by simpa using c108
          (try (have c108b1 : decide (((rd t1664 x28_2) == 1) = t1689) = true := by simpa using c108))
          (try (have c108b2 : (((rd t1664 x28_2) == 1) == t1689) = true := by simpa using c108))
          clear c108
          by_cases c110 : x28_2 < (t1674.length : Int)
          rotate_left
          ·rw [if_neg c110] at H
           exact absurd H (by simp)
          rw [if_pos c110] at H
          have c110b0 : decide (x28_2 < (t1674.length : Int)) = true := decide_eq_true c110
          clear c110
          have H' := Aside0.mk H
          clear H
          as_aux_lemma =>
           obtain ⟨Ao111, co111, eo111⟩ := Kd.R_slice HO_12.out
           subst eo111
           have p1696 : 0 ≤ (x28_2 : Int) := of_decide_eq_true (by first | (with_reducible assumption) | assumption)
           have q1696 : x28_2 < (t1656.length : Int) := of_decide_eq_true (by first | (with_reducible assumption) | assumption)
           obtain ⟨ad1696, e1696, hx1696_0⟩ := Kd.at_int (Kd.R_reads' HO_12.out).2.2 x28_2 p1696 q1696
           cases e1696
           replace p1696 := eq_true p1696
           replace q1696 := eq_true q1696
           have p1697 : 0 ≤ (x28_2 : Int) := of_decide_eq_true (by first | (with_reducible assumption) | assumption)
           have q1697 : x28_2 < (t1664.length : Int) := of_decide_eq_true (by first | (with_reducible assumption) | assumption)
           obtain ⟨ad1697, e1697, hx1697_0⟩ := Kd.at_int (Kd.R_reads' HO_16.out).2.2 x28_2 p1697 q1697
           obtain rfl : ad1695 = ad1697 := (by injection e1697)
           replace p1697 := eq_true p1697
           replace q1697 := eq_true q1697
           obtain ⟨Ao112, co112, eo112⟩ := Kd.R_slice HO_20.out
           subst eo112
           have p1698 : 0 ≤ (x28_2 : Int) := of_decide_eq_true (by first | (with_reducible assumption) | assumption)
           have q1698 : x28_2 < (t1674.length : Int) := of_decide_eq_true (by first | (with_reducible assumption) | assumption)
           obtain ⟨ad1698, e1698, hx1698_0⟩ := Kd.at_int (Kd.R_reads' HO_20.out).2.2 x28_2 p1698 q1698
           cases e1698
           replace p1698 := eq_true p1698
           replace q1698 := eq_true q1698
           go_wp2
           go_meet
           case rel => exact ⟨_, (((rd t1674 x28_2) != t1693)), (by first | rfl | (simp; done) | (simp [*]; done)), H', ⟨by have := HJ20.out; have := HK2.out; first | omega | exact Nat.le_refl _⟩, ⟨by (with_reducible repeat (first | apply Kd.R_alloc | apply Kd.R_drewN | apply Kd.R_drew)); exact HO_7.out⟩, ⟨by (with_reducible repeat (first | apply Kd.R_alloc | apply Kd.R_drewN | apply Kd.R_drew)); exact HO_8.out⟩, ⟨by (with_reducible repeat (first | apply Kd.R_alloc | apply Kd.R_drewN | apply Kd.R_drew)); exact HO_9.out⟩, ⟨by (with_reducible repeat (first | apply Kd.R_alloc | apply Kd.R_drewN | apply Kd.R_drew)); exact HO_12.out⟩, ⟨by (with_reducible repeat (first | apply Kd.R_alloc | apply Kd.R_drewN | apply Kd.R_drew)); exact HO_14.out⟩, ⟨by (with_reducible repeat (first | apply Kd.R_alloc | apply Kd.R_drewN | apply Kd.R_drew)); exact HO_16.out⟩, ⟨by (with_reducible repeat (first | apply Kd.R_alloc | apply Kd.R_drewN | apply Kd.R_drew)); exact HO_18.out⟩, ⟨by (with_reducible repeat (first | apply Kd.R_alloc | apply Kd.R_drewN | apply Kd.R_drew)); exact HO_20.out⟩, ⟨by repeat (first | (with_reducible first | exact HB.out | apply below_alloc | apply pw_below_drewN | apply below_drew1) | exact HB.out)⟩⟩
        ·rw [if_neg c107] at H
         have c107b0 : ((rd t1656 x28_2) == t1685) = false := beq_eq_false_iff_ne.mpr c107
         have c107b1 : ((rd t1656 x28_2) != t1685) = true := bne_iff_ne.mpr c107
         exact (laws_FnLanes.j2_no H HRT.out).elim
       case rest =>
        as_aux_lemma =>
         clear HC99
         try clear c1
         try clear p1
         try clear q1
         try clear hx1
         try clear qi1
         try clear p2
         try clear p6
         try clear c7
         try clear c8
         try clear c10
         try clear c11
         try clear p16
         try clear q16
         try clear hx16
         try clear qi16
         try clear p64
         try clear c78
         try clear c82
         try clear c83
         try clear c103
         try clear c104
         try clear c105
         try clear c106
         try clear c106b0
         try clear c107
         try clear c107b0
         try clear c107b1
         try clear c108
         try clear c108b0
         try clear c108b1
         try clear c108b2
         try clear c110
         try clear c110b0
         try clear hx1687_0
         try clear hx1688_0
         try clear hx1691_0
         try clear hx1692_0
         try clear hx1695_0
         try clear hx1696_0
         try clear hx1697_0
         try clear hx1698_0
         try clear p1687
         try clear p1688
         try clear p1691
         try clear p1692
         try clear p1695
         try clear p1696
         try clear p1697
         try clear p1698
         try clear q1687
         try clear q1688
         try clear q1691
         try clear q1692
         try clear q1695
         try clear q1696
         try clear q1697
         try clear q1698
         obtain ⟨kq, x278_98, rfl, HA, HJ98, HO_7, HO_8, HO_9, HO_12, HO_14, HO_16, HO_18, HO_20, HB⟩ := hcut
         cases kq with
         | zero => exact absurd HA.out (by simp [laws_FnLanes.j2])
         | succ kj98 =>
          have H := HA.out
          clear HA
          simp only [laws_FnLanes.j2] at H
          by_cases c114 : x278_98 = true
          ·subst c114
           rw [if_pos rfl] at H
           obtain rfl := Option.some.inj H
           exact absurd HRT.out (by decide)
          replace c114 := Bool.eq_false_iff.mpr c114
          subst c114
          rw [if_neg (show ¬ (false = true) by decide)] at H
          by_cases c115 : 0 ≤ x28_2
          rotate_left
          ·rw [if_neg c115] at H
           exact absurd H (by simp)
          rw [if_pos c115] at H
          have c115b0 : decide (0 ≤ x28_2) = true := decide_eq_true c115
          clear c115
          by_cases c116 : x28_2 < (t1651.length : Int)
          rotate_left
          ·rw [if_neg c116] at H
           exact absurd H (by simp)
          rw [if_pos c116] at H
          have c116b0 : decide (x28_2 < (t1651.length : Int)) = true := decide_eq_true c116
          clear c116
          by_cases c117 : (rd t1651 x28_2) = 1
          ·rw [if_pos c117] at H
           have c117b0 : ((rd t1651 x28_2) == 1) = true := beq_iff_eq.mpr c117
           have c117b1 : ((rd t1651 x28_2) != 1) = false := bne_eq_false_iff_eq.mpr c117
           clear c117
           by_cases c118 : x28_2 < (t1660.length : Int)
           rotate_left
           ·rw [if_neg c118] at H
            exact absurd H (by simp)
           rw [if_pos c118] at H
           have c118b0 : decide (x28_2 < (t1660.length : Int)) = true := decide_eq_true c118
           clear c118
           by_cases c119 : (rd t1660 x28_2) = t1685
           rotate_left
           ·rw [if_neg c119] at H
            have c119b0 : ((rd t1660 x28_2) == t1685) = false := beq_eq_false_iff_ne.mpr c119
            have c119b1 : ((rd t1660 x28_2) != t1685) = true := bne_iff_ne.mpr c119
            obtain rfl := Option.some.inj H
            exact absurd HRT.out (by decide)
           rw [if_pos c119] at H
           have c119b0 : ((rd t1660 x28_2) == t1685) = true := beq_iff_eq.mpr c119
           have c119b1 : ((rd t1660 x28_2) != t1685) = false := bne_eq_false_iff_eq.mpr c119
           clear c119
           by_cases c120 : (rd t1651 x28_2) = 0
           ·exact absurd (eq_of_beq c117b0) (by rw [c120]; decide)
           ·rw [if_neg c120] at H
            have c120b0 : ((rd t1651 x28_2) == 0) = false := beq_eq_false_iff_ne.mpr c120
            have c120b1 : ((rd t1651 x28_2) != 0) = true := bne_iff_ne.mpr c120
            by_cases c155 : t1689 = true
            ·subst c155
             rw [if_pos rfl] at H
             by_cases c156 : x28_2 < (t1668.length : Int)
             rotate_left
             ·rw [if_neg c156] at H
              exact absurd H (by simp)
             rw [if_pos c156] at H
             have c156b0 : decide (x28_2 < (t1668.length : Int)) = true := decide_eq_true c156
             clear c156
             by_cases c157 : x28_2 < (t1645.length : Int)
             rotate_left
             ·rw [if_neg c157] at H
              exact absurd H (by simp)
             rw [if_pos c157] at H
             have c157b0 : decide (x28_2 < (t1645.length : Int)) = true := decide_eq_true c157
             clear c157
             by_cases c158 : (rd t1668 x28_2) = (rd t1645 x28_2)
             rotate_left
             ·rw [if_neg c158] at H
              have c158b0 : ((rd t1668 x28_2) == (rd t1645 x28_2)) = false := beq_eq_false_iff_ne.mpr c158
              have c158b1 : ((rd t1668 x28_2) != (rd t1645 x28_2)) = true := bne_iff_ne.mpr c158
              obtain rfl := Option.some.inj H
              exact absurd HRT.out (by decide)
             rw [if_pos c158] at H
             have c158b0 : ((rd t1668 x28_2) == (rd t1645 x28_2)) = true := beq_iff_eq.mpr c158
             have c158b1 : ((rd t1668 x28_2) != (rd t1645 x28_2)) = false := bne_eq_false_iff_eq.mpr c158
             clear c158
             have HG := Aside0.mk H
             clear H
             as_aux_lemma =>
              try go_wp2
              have p1699 : 0 ≤ (x28_2 : Int) := of_decide_eq_true (by first | (with_reducible assumption) | assumption)
              have q1699 : x28_2 < (t1651.length : Int) := of_decide_eq_true (by first | (with_reducible assumption) | assumption)
              obtain ⟨ad1699, e1699, hx1699_0⟩ := Kd.at_int (Kd.R_reads' HO_9.out).2.2 x28_2 p1699 q1699
              cases e1699
              replace p1699 := eq_true p1699
              replace q1699 := eq_true q1699
              obtain ⟨Ao170, co170, eo170⟩ := Kd.R_slice HO_14.out
              (first | subst eo170 | (injection eo170 with f1_ f2_ f3_; have f4_ := f1_.symm; have f5_ := f3_.symm; clear f1_ f2_ f3_; subst f4_; subst f5_))
              have p1700 : 0 ≤ (x28_2 : Int) := of_decide_eq_true (by first | (with_reducible assumption) | assumption)
              have q1700 : x28_2 < (t1660.length : Int) := of_decide_eq_true (by first | (with_reducible assumption) | assumption)
              obtain ⟨ad1700, e1700, hx1700_0⟩ := Kd.at_int (Kd.R_reads' HO_14.out).2.2 x28_2 p1700 q1700
              cases e1700
              replace p1700 := eq_true p1700
              replace q1700 := eq_true q1700
              have p1701 : 0 ≤ (x28_2 : Int) := of_decide_eq_true (by first | (with_reducible assumption) | assumption)
              have q1701 : x28_2 < (t1651.length : Int) := of_decide_eq_true (by first | (with_reducible assumption) | assumption)
              obtain ⟨ad1701, e1701, hx1701_0⟩ := Kd.at_int (Kd.R_reads' HO_9.out).2.2 x28_2 p1701 q1701
              obtain rfl : ad1699 = ad1701 := (by injection e1701)
              replace p1701 := eq_true p1701
              replace q1701 := eq_true q1701
              obtain ⟨Ao171, co171, eo171⟩ := Kd.R_slice HO_18.out
              (first | subst eo171 | (injection eo171 with f1_ f2_ f3_; have f4_ := f1_.symm; have f5_ := f3_.symm; clear f1_ f2_ f3_; subst f4_; subst f5_))
              have p1710 : 0 ≤ (x28_2 : Int) := of_decide_eq_true (by first | (with_reducible assumption) | assumption)
              have q1710 : x28_2 < (t1668.length : Int) := of_decide_eq_true (by first | (with_reducible assumption) | assumption)
              obtain ⟨ad1710, e1710, hx1710_0⟩ := Kd.at_int (Kd.R_reads' HO_18.out).2.2 x28_2 p1710 q1710
              cases e1710
              replace p1710 := eq_true p1710
              replace q1710 := eq_true q1710
              have p1711 : 0 ≤ (x28_2 : Int) := of_decide_eq_true (by first | (with_reducible assumption) | assumption)
              have q1711 : x28_2 < (t1645.length : Int) := of_decide_eq_true (by first | (with_reducible assumption) | assumption)
              obtain ⟨ad1711, e1711, hx1711_0⟩ := Kd.at_int (Kd.R_reads' HO_7.out).2.2 x28_2 p1711 q1711
              obtain rfl : ad1672 = ad1711 := (by injection e1711)
              replace p1711 := eq_true p1711
              replace q1711 := eq_true q1711
              (try dsimp only [List.append])
              refine wp_region_quiet_lit (by kernel_rfl) laws_FnLanes.lex30 ?_
              iterate 20 (first | go_big_quiet_step (fail) | skip)
              as_aux_lemma =>
               iterate 20 (first | go_big_quiet_step (fail) | skip)
               as_aux_lemma =>
                repeat (go_big_quiet_step (fail))
                have H := HG.out
                clear HG
                by_cases c159 : t1681 = true
                ·subst c159
                 rw [if_pos rfl] at H
                 by_cases c160 : x28_2 < (t1664.length : Int)
                 rotate_left
                 ·rw [if_neg c160] at H
                  exact absurd H (by simp)
                 rw [if_pos c160] at H
                 have c160b0 : decide (x28_2 < (t1664.length : Int)) = true := decide_eq_true c160
                 clear c160
                 by_cases c161 : (rd t1664 x28_2) = 1
                 ·rw [if_pos c161] at H
                  have c161b0 : ((rd t1664 x28_2) == 1) = true := beq_iff_eq.mpr c161
                  have c161b1 : ((rd t1664 x28_2) != 1) = false := bne_eq_false_iff_eq.mpr c161
                  clear c161
                  by_cases c162 : x28_2 < t1680
                  ·rw [if_pos c162] at H
                   have c162b0 : decide (x28_2 < t1680) = true := decide_eq_true c162
                   clear c162
                   obtain rfl := Option.some.inj H
                   exact absurd HRT.out (by decide)
                  rw [if_neg c162] at H
                  have c162b0 : decide (x28_2 < t1680) = false := decide_eq_false c162
                  clear c162
                  have H' := Aside0.mk H
                  clear H
                  as_aux_lemma =>
                   have p1712 : 0 ≤ (x28_2 : Int) := of_decide_eq_true (by first | (with_reducible assumption) | assumption)
                   have q1712 : x28_2 < (t1664.length : Int) := of_decide_eq_true (by first | (with_reducible assumption) | assumption)
                   obtain ⟨ad1712, e1712, hx1712_0⟩ := Kd.at_int (Kd.R_reads' HO_16.out).2.2 x28_2 p1712 q1712
                   obtain rfl : ad1695 = ad1712 := (by injection e1712)
                   replace p1712 := eq_true p1712
                   replace q1712 := eq_true q1712
                   repeat (go_big_quiet_step (fail))
                   refine wpQuiet_nil ?_
                   intro _ hw'
                   obtain ⟨nq, hw''⟩ := hw'
                   subst hw''
                   try go_wp2
                   repeat (go_quiet (fail); try go_wp2)
                   try go_wp2
                   go_roundg kj98
                   case measure => have := HJ20.out; have := HK2.out; have := HJ98.out; omega
                   case rel => exact ⟨((wrap64 (x27_2 + (rd t1664 x28_2)))), (wrap64 (x28_2 + 1)), (by first | rfl | (simp; done) | (simp [*]; done)), (by first | rfl | (simp; done) | (simp [*]; done)), H', ⟨by have := HJ20.out; have := HK2.out; have := HJ98.out; omega⟩, ⟨by (with_reducible repeat (first | apply Kd.R_alloc | apply Kd.R_drewN | apply Kd.R_drew)); exact HO_7.out⟩, ⟨by (with_reducible repeat (first | apply Kd.R_alloc | apply Kd.R_drewN | apply Kd.R_drew)); exact HO_8.out⟩, ⟨by (with_reducible repeat (first | apply Kd.R_alloc | apply Kd.R_drewN | apply Kd.R_drew)); exact HO_9.out⟩, ⟨by (with_reducible repeat (first | apply Kd.R_alloc | apply Kd.R_drewN | apply Kd.R_drew)); exact HO_12.out⟩, ⟨by (with_reducible repeat (first | apply Kd.R_alloc | apply Kd.R_drewN | apply Kd.R_drew)); exact HO_14.out⟩, ⟨by (with_reducible repeat (first | apply Kd.R_alloc | apply Kd.R_drewN | apply Kd.R_drew)); exact HO_16.out⟩, ⟨by (with_reducible repeat (first | apply Kd.R_alloc | apply Kd.R_drewN | apply Kd.R_drew)); exact HO_18.out⟩, ⟨by (with_reducible repeat (first | apply Kd.R_alloc | apply Kd.R_drewN | apply Kd.R_drew)); exact HO_20.out⟩, ⟨by repeat (first | (with_reducible first | exact HB.out | apply below_alloc | apply pw_below_drewN | apply below_drew1) | exact HB.out)⟩⟩
                 ·rw [if_neg c161] at H
                  have c161b0 : ((rd t1664 x28_2) == 1) = false := beq_eq_false_iff_ne.mpr c161
                  have c161b1 : ((rd t1664 x28_2) != 1) = true := bne_iff_ne.mpr c161
                  have H' := Aside0.mk H
                  clear H
                  as_aux_lemma =>
                   have p1712 : 0 ≤ (x28_2 : Int) := of_decide_eq_true (by first | (with_reducible assumption) | assumption)
                   have q1712 : x28_2 < (t1664.length : Int) := of_decide_eq_true (by first | (with_reducible assumption) | assumption)
                   obtain ⟨ad1712, e1712, hx1712_0⟩ := Kd.at_int (Kd.R_reads' HO_16.out).2.2 x28_2 p1712 q1712
                   obtain rfl : ad1695 = ad1712 := (by injection e1712)
                   replace p1712 := eq_true p1712
                   replace q1712 := eq_true q1712
                   repeat (go_big_quiet_step (fail))
                   refine wpQuiet_nil ?_
                   intro _ hw'
                   obtain ⟨nq, hw''⟩ := hw'
                   subst hw''
                   try go_wp2
                   repeat (go_quiet (fail); try go_wp2)
                   try go_wp2
                   go_roundg kj98
                   case measure => have := HJ20.out; have := HK2.out; have := HJ98.out; omega
                   case rel => exact ⟨((wrap64 (x27_2 + (rd t1664 x28_2)))), (wrap64 (x28_2 + 1)), (by first | rfl | (simp; done) | (simp [*]; done)), (by first | rfl | (simp; done) | (simp [*]; done)), H', ⟨by have := HJ20.out; have := HK2.out; have := HJ98.out; omega⟩, ⟨by (with_reducible repeat (first | apply Kd.R_alloc | apply Kd.R_drewN | apply Kd.R_drew)); exact HO_7.out⟩, ⟨by (with_reducible repeat (first | apply Kd.R_alloc | apply Kd.R_drewN | apply Kd.R_drew)); exact HO_8.out⟩, ⟨by (with_reducible repeat (first | apply Kd.R_alloc | apply Kd.R_drewN | apply Kd.R_drew)); exact HO_9.out⟩, ⟨by (with_reducible repeat (first | apply Kd.R_alloc | apply Kd.R_drewN | apply Kd.R_drew)); exact HO_12.out⟩, ⟨by (with_reducible repeat (first | apply Kd.R_alloc | apply Kd.R_drewN | apply Kd.R_drew)); exact HO_14.out⟩, ⟨by (with_reducible repeat (first | apply Kd.R_alloc | apply Kd.R_drewN | apply Kd.R_drew)); exact HO_16.out⟩, ⟨by (with_reducible repeat (first | apply Kd.R_alloc | apply Kd.R_drewN | apply Kd.R_drew)); exact HO_18.out⟩, ⟨by (with_reducible repeat (first | apply Kd.R_alloc | apply Kd.R_drewN | apply Kd.R_drew)); exact HO_20.out⟩, ⟨by repeat (first | (with_reducible first | exact HB.out | apply below_alloc | apply pw_below_drewN | apply below_drew1) | exact HB.out)⟩⟩
                ·replace c159 := Bool.eq_false_iff.mpr c159
                 subst c159
                 rw [if_neg (show ¬ (false = true) by decide)] at H
                 have H' := Aside0.mk H
                 clear H
                 as_aux_lemma =>
                  repeat (go_big_quiet_step (fail))
                  refine wpQuiet_nil ?_
                  intro _ hw'
                  obtain ⟨nq, hw''⟩ := hw'
                  subst hw''
                  try go_wp2
                  repeat (go_quiet (fail); try go_wp2)
                  try go_wp2
                  go_roundg kj98
                  case measure => have := HJ20.out; have := HK2.out; have := HJ98.out; omega
                  case rel => exact ⟨((wrap64 (x27_2 + (rd t1664 x28_2)))), (wrap64 (x28_2 + 1)), (by first | rfl | (simp; done) | (simp [*]; done)), (by first | rfl | (simp; done) | (simp [*]; done)), H', ⟨by have := HJ20.out; have := HK2.out; have := HJ98.out; omega⟩, ⟨by (with_reducible repeat (first | apply Kd.R_alloc | apply Kd.R_drewN | apply Kd.R_drew)); exact HO_7.out⟩, ⟨by (with_reducible repeat (first | apply Kd.R_alloc | apply Kd.R_drewN | apply Kd.R_drew)); exact HO_8.out⟩, ⟨by (with_reducible repeat (first | apply Kd.R_alloc | apply Kd.R_drewN | apply Kd.R_drew)); exact HO_9.out⟩, ⟨by (with_reducible repeat (first | apply Kd.R_alloc | apply Kd.R_drewN | apply Kd.R_drew)); exact HO_12.out⟩, ⟨by (with_reducible repeat (first | apply Kd.R_alloc | apply Kd.R_drewN | apply Kd.R_drew)); exact HO_14.out⟩, ⟨by (with_reducible repeat (first | apply Kd.R_alloc | apply Kd.R_drewN | apply Kd.R_drew)); exact HO_16.out⟩, ⟨by (with_reducible repeat (first | apply Kd.R_alloc | apply Kd.R_drewN | apply Kd.R_drew)); exact HO_18.out⟩, ⟨by (with_reducible repeat (first | apply Kd.R_alloc | apply Kd.R_drewN | apply Kd.R_drew)); exact HO_20.out⟩, ⟨by repeat (first | (with_reducible first | exact HB.out | apply below_alloc | apply pw_below_drewN | apply below_drew1) | exact HB.out)⟩⟩
            ·replace c155 := Bool.eq_false_iff.mpr c155
             subst c155
             rw [if_neg (show ¬ (false = true) by decide)] at H
             by_cases c172 : x28_2 < (t1668.length : Int)
             rotate_left
             ·rw [if_neg c172] at H
              exact absurd H (by simp)
             rw [if_pos c172] at H
             have c172b0 : decide (x28_2 < (t1668.length : Int)) = true := decide_eq_true c172
             clear c172
             by_cases c173 : x28_2 < (t1648.length : Int)
             rotate_left
             ·rw [if_neg c173] at H
              exact absurd H (by simp)
             rw [if_pos c173] at H
             have c173b0 : decide (x28_2 < (t1648.length : Int)) = true := decide_eq_true c173
             clear c173
             by_cases c174 : (rd t1668 x28_2) = (rd t1648 x28_2)
             rotate_left
             ·rw [if_neg c174] at H
              have c174b0 : ((rd t1668 x28_2) == (rd t1648 x28_2)) = false := beq_eq_false_iff_ne.mpr c174
              have c174b1 : ((rd t1668 x28_2) != (rd t1648 x28_2)) = true := bne_iff_ne.mpr c174
              obtain rfl := Option.some.inj H
              exact absurd HRT.out (by decide)
             rw [if_pos c174] at H
             have c174b0 : ((rd t1668 x28_2) == (rd t1648 x28_2)) = true := beq_iff_eq.mpr c174
             have c174b1 : ((rd t1668 x28_2) != (rd t1648 x28_2)) = false := bne_eq_false_iff_eq.mpr c174
             clear c174
             have HG := Aside0.mk H
             clear H
             as_aux_lemma =>
              try go_wp2
              have p1699 : 0 ≤ (x28_2 : Int) := of_decide_eq_true (by first | (with_reducible assumption) | assumption)
              have q1699 : x28_2 < (t1651.length : Int) := of_decide_eq_true (by first | (with_reducible assumption) | assumption)
              obtain ⟨ad1699, e1699, hx1699_0⟩ := Kd.at_int (Kd.R_reads' HO_9.out).2.2 x28_2 p1699 q1699
              cases e1699
              replace p1699 := eq_true p1699
              replace q1699 := eq_true q1699
              obtain ⟨Ao186, co186, eo186⟩ := Kd.R_slice HO_14.out
              (first | subst eo186 | (injection eo186 with f1_ f2_ f3_; have f4_ := f1_.symm; have f5_ := f3_.symm; clear f1_ f2_ f3_; subst f4_; subst f5_))
              have p1700 : 0 ≤ (x28_2 : Int) := of_decide_eq_true (by first | (with_reducible assumption) | assumption)
              have q1700 : x28_2 < (t1660.length : Int) := of_decide_eq_true (by first | (with_reducible assumption) | assumption)
              obtain ⟨ad1700, e1700, hx1700_0⟩ := Kd.at_int (Kd.R_reads' HO_14.out).2.2 x28_2 p1700 q1700
              cases e1700
              replace p1700 := eq_true p1700
              replace q1700 := eq_true q1700
              have p1701 : 0 ≤ (x28_2 : Int) := of_decide_eq_true (by first | (with_reducible assumption) | assumption)
              have q1701 : x28_2 < (t1651.length : Int) := of_decide_eq_true (by first | (with_reducible assumption) | assumption)
              obtain ⟨ad1701, e1701, hx1701_0⟩ := Kd.at_int (Kd.R_reads' HO_9.out).2.2 x28_2 p1701 q1701
              obtain rfl : ad1699 = ad1701 := (by injection e1701)
              replace p1701 := eq_true p1701
              replace q1701 := eq_true q1701
              obtain ⟨Ao187, co187, eo187⟩ := Kd.R_slice HO_18.out
              (first | subst eo187 | (injection eo187 with f1_ f2_ f3_; have f4_ := f1_.symm; have f5_ := f3_.symm; clear f1_ f2_ f3_; subst f4_; subst f5_))
              have p1713 : 0 ≤ (x28_2 : Int) := of_decide_eq_true (by first | (with_reducible assumption) | assumption)
              have q1713 : x28_2 < (t1668.length : Int) := of_decide_eq_true (by first | (with_reducible assumption) | assumption)
              obtain ⟨ad1713, e1713, hx1713_0⟩ := Kd.at_int (Kd.R_reads' HO_18.out).2.2 x28_2 p1713 q1713
              cases e1713
              replace p1713 := eq_true p1713
              replace q1713 := eq_true q1713
              have p1714 : 0 ≤ (x28_2 : Int) := of_decide_eq_true (by first | (with_reducible assumption) | assumption)
              have q1714 : x28_2 < (t1648.length : Int) := of_decide_eq_true (by first | (with_reducible assumption) | assumption)
              obtain ⟨ad1714, e1714, hx1714_0⟩ := Kd.at_int (Kd.R_reads' HO_8.out).2.2 x28_2 p1714 q1714
              obtain rfl : ad1673 = ad1714 := (by injection e1714)
              replace p1714 := eq_true p1714
              replace q1714 := eq_true q1714
              (try dsimp only [List.append])
              refine wp_region_quiet_lit (by kernel_rfl) laws_FnLanes.lex30 ?_
              iterate 20 (first | go_big_quiet_step (fail) | skip)
              as_aux_lemma =>
               iterate 20 (first | go_big_quiet_step (fail) | skip)
               as_aux_lemma =>
                repeat (go_big_quiet_step (fail))
                have H := HG.out
                clear HG
                by_cases c175 : t1681 = true
                ·subst c175
                 rw [if_pos rfl] at H
                 by_cases c176 : x28_2 < (t1664.length : Int)
                 rotate_left
                 ·rw [if_neg c176] at H
                  exact absurd H (by simp)
                 rw [if_pos c176] at H
                 have c176b0 : decide (x28_2 < (t1664.length : Int)) = true := decide_eq_true c176
                 clear c176
                 by_cases c177 : (rd t1664 x28_2) = 1
                 ·rw [if_pos c177] at H
                  have c177b0 : ((rd t1664 x28_2) == 1) = true := beq_iff_eq.mpr c177
                  have c177b1 : ((rd t1664 x28_2) != 1) = false := bne_eq_false_iff_eq.mpr c177
                  clear c177
                  by_cases c178 : x28_2 < t1680
                  ·rw [if_pos c178] at H
                   have c178b0 : decide (x28_2 < t1680) = true := decide_eq_true c178
                   clear c178
                   obtain rfl := Option.some.inj H
                   exact absurd HRT.out (by decide)
                  rw [if_neg c178] at H
                  have c178b0 : decide (x28_2 < t1680) = false := decide_eq_false c178
                  clear c178
                  have H' := Aside0.mk H
                  clear H
                  as_aux_lemma =>
                   have p1715 : 0 ≤ (x28_2 : Int) := of_decide_eq_true (by first | (with_reducible assumption) | assumption)
                   have q1715 : x28_2 < (t1664.length : Int) := of_decide_eq_true (by first | (with_reducible assumption) | assumption)
                   obtain ⟨ad1715, e1715, hx1715_0⟩ := Kd.at_int (Kd.R_reads' HO_16.out).2.2 x28_2 p1715 q1715
                   obtain rfl : ad1695 = ad1715 := (by injection e1715)
                   replace p1715 := eq_true p1715
                   replace q1715 := eq_true q1715
                   repeat (go_big_quiet_step (fail))
                   refine wpQuiet_nil ?_
                   intro _ hw'
                   obtain ⟨nq, hw''⟩ := hw'
                   subst hw''
                   try go_wp2
                   repeat (go_quiet (fail); try go_wp2)
                   try go_wp2
                   go_roundg kj98
                   case measure => have := HJ20.out; have := HK2.out; have := HJ98.out; omega
                   case rel => exact ⟨((wrap64 (x27_2 + (rd t1664 x28_2)))), (wrap64 (x28_2 + 1)), (by first | rfl | (simp; done) | (simp [*]; done)), (by first | rfl | (simp; done) | (simp [*]; done)), H', ⟨by have := HJ20.out; have := HK2.out; have := HJ98.out; omega⟩, ⟨by (with_reducible repeat (first | apply Kd.R_alloc | apply Kd.R_drewN | apply Kd.R_drew)); exact HO_7.out⟩, ⟨by (with_reducible repeat (first | apply Kd.R_alloc | apply Kd.R_drewN | apply Kd.R_drew)); exact HO_8.out⟩, ⟨by (with_reducible repeat (first | apply Kd.R_alloc | apply Kd.R_drewN | apply Kd.R_drew)); exact HO_9.out⟩, ⟨by (with_reducible repeat (first | apply Kd.R_alloc | apply Kd.R_drewN | apply Kd.R_drew)); exact HO_12.out⟩, ⟨by (with_reducible repeat (first | apply Kd.R_alloc | apply Kd.R_drewN | apply Kd.R_drew)); exact HO_14.out⟩, ⟨by (with_reducible repeat (first | apply Kd.R_alloc | apply Kd.R_drewN | apply Kd.R_drew)); exact HO_16.out⟩, ⟨by (with_reducible repeat (first | apply Kd.R_alloc | apply Kd.R_drewN | apply Kd.R_drew)); exact HO_18.out⟩, ⟨by (with_reducible repeat (first | apply Kd.R_alloc | apply Kd.R_drewN | apply Kd.R_drew)); exact HO_20.out⟩, ⟨by repeat (first | (with_reducible first | exact HB.out | apply below_alloc | apply pw_below_drewN | apply below_drew1) | exact HB.out)⟩⟩
                 ·rw [if_neg c177] at H
                  have c177b0 : ((rd t1664 x28_2) == 1) = false := beq_eq_false_iff_ne.mpr c177
                  have c177b1 : ((rd t1664 x28_2) != 1) = true := bne_iff_ne.mpr c177
                  have H' := Aside0.mk H
                  clear H
                  as_aux_lemma =>
                   have p1715 : 0 ≤ (x28_2 : Int) := of_decide_eq_true (by first | (with_reducible assumption) | assumption)
                   have q1715 : x28_2 < (t1664.length : Int) := of_decide_eq_true (by first | (with_reducible assumption) | assumption)
                   obtain ⟨ad1715, e1715, hx1715_0⟩ := Kd.at_int (Kd.R_reads' HO_16.out).2.2 x28_2 p1715 q1715
                   obtain rfl : ad1695 = ad1715 := (by injection e1715)
                   replace p1715 := eq_true p1715
                   replace q1715 := eq_true q1715
                   repeat (go_big_quiet_step (fail))
                   refine wpQuiet_nil ?_
                   intro _ hw'
                   obtain ⟨nq, hw''⟩ := hw'
                   subst hw''
                   try go_wp2
                   repeat (go_quiet (fail); try go_wp2)
                   try go_wp2
                   go_roundg kj98
                   case measure => have := HJ20.out; have := HK2.out; have := HJ98.out; omega
                   case rel => exact ⟨((wrap64 (x27_2 + (rd t1664 x28_2)))), (wrap64 (x28_2 + 1)), (by first | rfl | (simp; done) | (simp [*]; done)), (by first | rfl | (simp; done) | (simp [*]; done)), H', ⟨by have := HJ20.out; have := HK2.out; have := HJ98.out; omega⟩, ⟨by (with_reducible repeat (first | apply Kd.R_alloc | apply Kd.R_drewN | apply Kd.R_drew)); exact HO_7.out⟩, ⟨by (with_reducible repeat (first | apply Kd.R_alloc | apply Kd.R_drewN | apply Kd.R_drew)); exact HO_8.out⟩, ⟨by (with_reducible repeat (first | apply Kd.R_alloc | apply Kd.R_drewN | apply Kd.R_drew)); exact HO_9.out⟩, ⟨by (with_reducible repeat (first | apply Kd.R_alloc | apply Kd.R_drewN | apply Kd.R_drew)); exact HO_12.out⟩, ⟨by (with_reducible repeat (first | apply Kd.R_alloc | apply Kd.R_drewN | apply Kd.R_drew)); exact HO_14.out⟩, ⟨by (with_reducible repeat (first | apply Kd.R_alloc | apply Kd.R_drewN | apply Kd.R_drew)); exact HO_16.out⟩, ⟨by (with_reducible repeat (first | apply Kd.R_alloc | apply Kd.R_drewN | apply Kd.R_drew)); exact HO_18.out⟩, ⟨by (with_reducible repeat (first | apply Kd.R_alloc | apply Kd.R_drewN | apply Kd.R_drew)); exact HO_20.out⟩, ⟨by repeat (first | (with_reducible first | exact HB.out | apply below_alloc | apply pw_below_drewN | apply below_drew1) | exact HB.out)⟩⟩
                ·replace c175 := Bool.eq_false_iff.mpr c175
                 subst c175
                 rw [if_neg (show ¬ (false = true) by decide)] at H
                 have H' := Aside0.mk H
                 clear H
                 as_aux_lemma =>
                  repeat (go_big_quiet_step (fail))
                  refine wpQuiet_nil ?_
                  intro _ hw'
                  obtain ⟨nq, hw''⟩ := hw'
                  subst hw''
                  try go_wp2
                  repeat (go_quiet (fail); try go_wp2)
                  try go_wp2
                  go_roundg kj98
                  case measure => have := HJ20.out; have := HK2.out; have := HJ98.out; omega
                  case rel => exact ⟨((wrap64 (x27_2 + (rd t1664 x28_2)))), (wrap64 (x28_2 + 1)), (by first | rfl | (simp; done) | (simp [*]; done)), (by first | rfl | (simp; done) | (simp [*]; done)), H', ⟨by have := HJ20.out; have := HK2.out; have := HJ98.out; omega⟩, ⟨by (with_reducible repeat (first | apply Kd.R_alloc | apply Kd.R_drewN | apply Kd.R_drew)); exact HO_7.out⟩, ⟨by (with_reducible repeat (first | apply Kd.R_alloc | apply Kd.R_drewN | apply Kd.R_drew)); exact HO_8.out⟩, ⟨by (with_reducible repeat (first | apply Kd.R_alloc | apply Kd.R_drewN | apply Kd.R_drew)); exact HO_9.out⟩, ⟨by (with_reducible repeat (first | apply Kd.R_alloc | apply Kd.R_drewN | apply Kd.R_drew)); exact HO_12.out⟩, ⟨by (with_reducible repeat (first | apply Kd.R_alloc | apply Kd.R_drewN | apply Kd.R_drew)); exact HO_14.out⟩, ⟨by (with_reducible repeat (first | apply Kd.R_alloc | apply Kd.R_drewN | apply Kd.R_drew)); exact HO_16.out⟩, ⟨by (with_reducible repeat (first | apply Kd.R_alloc | apply Kd.R_drewN | apply Kd.R_drew)); exact HO_18.out⟩, ⟨by (with_reducible repeat (first | apply Kd.R_alloc | apply Kd.R_drewN | apply Kd.R_drew)); exact HO_20.out⟩, ⟨by repeat (first | (with_reducible first | exact HB.out | apply below_alloc | apply pw_below_drewN | apply below_drew1) | exact HB.out)⟩⟩
          ·rw [if_neg c117] at H
           have c117b0 : ((rd t1651 x28_2) == 1) = false := beq_eq_false_iff_ne.mpr c117
           have c117b1 : ((rd t1651 x28_2) != 1) = true := bne_iff_ne.mpr c117
           by_cases c188 : (rd t1651 x28_2) = 0
           ·rw [if_pos c188] at H
            have c188b0 : ((rd t1651 x28_2) == 0) = true := beq_iff_eq.mpr c188
            have c188b1 : ((rd t1651 x28_2) != 0) = false := bne_eq_false_iff_eq.mpr c188
            clear c188
            by_cases c189 : x28_2 < (t1660.length : Int)
            rotate_left
            ·rw [if_neg c189] at H
             exact absurd H (by simp)
            rw [if_pos c189] at H
            have c189b0 : decide (x28_2 < (t1660.length : Int)) = true := decide_eq_true c189
            clear c189
            by_cases c190 : x28_2 < (t1648.length : Int)
            rotate_left
            ·rw [if_neg c190] at H
             exact absurd H (by simp)
            rw [if_pos c190] at H
            have c190b0 : decide (x28_2 < (t1648.length : Int)) = true := decide_eq_true c190
            clear c190
            by_cases c191 : (rd t1660 x28_2) = (rd t1648 x28_2)
            rotate_left
            ·rw [if_neg c191] at H
             have c191b0 : ((rd t1660 x28_2) == (rd t1648 x28_2)) = false := beq_eq_false_iff_ne.mpr c191
             have c191b1 : ((rd t1660 x28_2) != (rd t1648 x28_2)) = true := bne_iff_ne.mpr c191
             obtain rfl := Option.some.inj H
             exact absurd HRT.out (by decide)
            rw [if_pos c191] at H
            have c191b0 : ((rd t1660 x28_2) == (rd t1648 x28_2)) = true := beq_iff_eq.mpr c191
            have c191b1 : ((rd t1660 x28_2) != (rd t1648 x28_2)) = false := bne_eq_false_iff_eq.mpr c191
            clear c191
            by_cases c192 : t1689 = true
            ·subst c192
             rw [if_pos rfl] at H
             by_cases c193 : x28_2 < (t1668.length : Int)
             rotate_left
             ·rw [if_neg c193] at H
              exact absurd H (by simp)
             rw [if_pos c193] at H
             have c193b0 : decide (x28_2 < (t1668.length : Int)) = true := decide_eq_true c193
             clear c193
             by_cases c194 : x28_2 < (t1645.length : Int)
             rotate_left
             ·rw [if_neg c194] at H
              exact absurd H (by simp)
             rw [if_pos c194] at H
             have c194b0 : decide (x28_2 < (t1645.length : Int)) = true := decide_eq_true c194
             clear c194
             by_cases c195 : (rd t1668 x28_2) = (rd t1645 x28_2)
             rotate_left
             ·rw [if_neg c195] at H
              have c195b0 : ((rd t1668 x28_2) == (rd t1645 x28_2)) = false := beq_eq_false_iff_ne.mpr c195
              have c195b1 : ((rd t1668 x28_2) != (rd t1645 x28_2)) = true := bne_iff_ne.mpr c195
              obtain rfl := Option.some.inj H
              exact absurd HRT.out (by decide)
             rw [if_pos c195] at H
             have c195b0 : ((rd t1668 x28_2) == (rd t1645 x28_2)) = true := beq_iff_eq.mpr c195
             have c195b1 : ((rd t1668 x28_2) != (rd t1645 x28_2)) = false := bne_eq_false_iff_eq.mpr c195
             clear c195
             have HG := Aside0.mk H
             clear H
             as_aux_lemma =>
              try go_wp2
              have p1699 : 0 ≤ (x28_2 : Int) := of_decide_eq_true (by first | (with_reducible assumption) | assumption)
              have q1699 : x28_2 < (t1651.length : Int) := of_decide_eq_true (by first | (with_reducible assumption) | assumption)
              obtain ⟨ad1699, e1699, hx1699_0⟩ := Kd.at_int (Kd.R_reads' HO_9.out).2.2 x28_2 p1699 q1699
              cases e1699
              replace p1699 := eq_true p1699
              replace q1699 := eq_true q1699
              have p1716 : 0 ≤ (x28_2 : Int) := of_decide_eq_true (by first | (with_reducible assumption) | assumption)
              have q1716 : x28_2 < (t1651.length : Int) := of_decide_eq_true (by first | (with_reducible assumption) | assumption)
              obtain ⟨ad1716, e1716, hx1716_0⟩ := Kd.at_int (Kd.R_reads' HO_9.out).2.2 x28_2 p1716 q1716
              obtain rfl : ad1699 = ad1716 := (by injection e1716)
              replace p1716 := eq_true p1716
              replace q1716 := eq_true q1716
              obtain ⟨Ao207, co207, eo207⟩ := Kd.R_slice HO_14.out
              (first | subst eo207 | (injection eo207 with f1_ f2_ f3_; have f4_ := f1_.symm; have f5_ := f3_.symm; clear f1_ f2_ f3_; subst f4_; subst f5_))
              have p1717 : 0 ≤ (x28_2 : Int) := of_decide_eq_true (by first | (with_reducible assumption) | assumption)
              have q1717 : x28_2 < (t1660.length : Int) := of_decide_eq_true (by first | (with_reducible assumption) | assumption)
              obtain ⟨ad1717, e1717, hx1717_0⟩ := Kd.at_int (Kd.R_reads' HO_14.out).2.2 x28_2 p1717 q1717
              cases e1717
              replace p1717 := eq_true p1717
              replace q1717 := eq_true q1717
              have p1718 : 0 ≤ (x28_2 : Int) := of_decide_eq_true (by first | (with_reducible assumption) | assumption)
              have q1718 : x28_2 < (t1648.length : Int) := of_decide_eq_true (by first | (with_reducible assumption) | assumption)
              obtain ⟨ad1718, e1718, hx1718_0⟩ := Kd.at_int (Kd.R_reads' HO_8.out).2.2 x28_2 p1718 q1718
              obtain rfl : ad1673 = ad1718 := (by injection e1718)
              replace p1718 := eq_true p1718
              replace q1718 := eq_true q1718
              obtain ⟨Ao208, co208, eo208⟩ := Kd.R_slice HO_18.out
              (first | subst eo208 | (injection eo208 with f1_ f2_ f3_; have f4_ := f1_.symm; have f5_ := f3_.symm; clear f1_ f2_ f3_; subst f4_; subst f5_))
              have p1719 : 0 ≤ (x28_2 : Int) := of_decide_eq_true (by first | (with_reducible assumption) | assumption)
              have q1719 : x28_2 < (t1668.length : Int) := of_decide_eq_true (by first | (with_reducible assumption) | assumption)
              obtain ⟨ad1719, e1719, hx1719_0⟩ := Kd.at_int (Kd.R_reads' HO_18.out).2.2 x28_2 p1719 q1719
              cases e1719
              replace p1719 := eq_true p1719
              replace q1719 := eq_true q1719
              have p1720 : 0 ≤ (x28_2 : Int) := of_decide_eq_true (by first | (with_reducible assumption) | assumption)
              have q1720 : x28_2 < (t1645.length : Int) := of_decide_eq_true (by first | (with_reducible assumption) | assumption)
              obtain ⟨ad1720, e1720, hx1720_0⟩ := Kd.at_int (Kd.R_reads' HO_7.out).2.2 x28_2 p1720 q1720
              obtain rfl : ad1672 = ad1720 := (by injection e1720)
              replace p1720 := eq_true p1720
              replace q1720 := eq_true q1720
              (try dsimp only [List.append])
              refine wp_region_quiet_lit (by kernel_rfl) laws_FnLanes.lex30 ?_
              iterate 20 (first | go_big_quiet_step (fail) | skip)
              as_aux_lemma =>
               iterate 20 (first | go_big_quiet_step (fail) | skip)
               as_aux_lemma =>
                repeat (go_big_quiet_step (fail))
                have H := HG.out
                clear HG
                by_cases c196 : t1681 = true
                ·subst c196
                 rw [if_pos rfl] at H
                 by_cases c197 : x28_2 < (t1664.length : Int)
                 rotate_left
                 ·rw [if_neg c197] at H
                  exact absurd H (by simp)
                 rw [if_pos c197] at H
                 have c197b0 : decide (x28_2 < (t1664.length : Int)) = true := decide_eq_true c197
                 clear c197
                 by_cases c198 : (rd t1664 x28_2) = 1
                 ·rw [if_pos c198] at H
                  have c198b0 : ((rd t1664 x28_2) == 1) = true := beq_iff_eq.mpr c198
                  have c198b1 : ((rd t1664 x28_2) != 1) = false := bne_eq_false_iff_eq.mpr c198
                  clear c198
                  by_cases c199 : x28_2 < t1680
                  ·rw [if_pos c199] at H
                   have c199b0 : decide (x28_2 < t1680) = true := decide_eq_true c199
                   clear c199
                   obtain rfl := Option.some.inj H
                   exact absurd HRT.out (by decide)
                  rw [if_neg c199] at H
                  have c199b0 : decide (x28_2 < t1680) = false := decide_eq_false c199
                  clear c199
                  have H' := Aside0.mk H
                  clear H
                  as_aux_lemma =>
                   have p1721 : 0 ≤ (x28_2 : Int) := of_decide_eq_true (by first | (with_reducible assumption) | assumption)
                   have q1721 : x28_2 < (t1664.length : Int) := of_decide_eq_true (by first | (with_reducible assumption) | assumption)
                   obtain ⟨ad1721, e1721, hx1721_0⟩ := Kd.at_int (Kd.R_reads' HO_16.out).2.2 x28_2 p1721 q1721
                   obtain rfl : ad1695 = ad1721 := (by injection e1721)
                   replace p1721 := eq_true p1721
                   replace q1721 := eq_true q1721
                   repeat (go_big_quiet_step (fail))
                   refine wpQuiet_nil ?_
                   intro _ hw'
                   obtain ⟨nq, hw''⟩ := hw'
                   subst hw''
                   try go_wp2
                   repeat (go_quiet (fail); try go_wp2)
                   try go_wp2
                   go_roundg kj98
                   case measure => have := HJ20.out; have := HK2.out; have := HJ98.out; omega
                   case rel => exact ⟨((wrap64 (x27_2 + (rd t1664 x28_2)))), (wrap64 (x28_2 + 1)), (by first | rfl | (simp; done) | (simp [*]; done)), (by first | rfl | (simp; done) | (simp [*]; done)), H', ⟨by have := HJ20.out; have := HK2.out; have := HJ98.out; omega⟩, ⟨by (with_reducible repeat (first | apply Kd.R_alloc | apply Kd.R_drewN | apply Kd.R_drew)); exact HO_7.out⟩, ⟨by (with_reducible repeat (first | apply Kd.R_alloc | apply Kd.R_drewN | apply Kd.R_drew)); exact HO_8.out⟩, ⟨by (with_reducible repeat (first | apply Kd.R_alloc | apply Kd.R_drewN | apply Kd.R_drew)); exact HO_9.out⟩, ⟨by (with_reducible repeat (first | apply Kd.R_alloc | apply Kd.R_drewN | apply Kd.R_drew)); exact HO_12.out⟩, ⟨by (with_reducible repeat (first | apply Kd.R_alloc | apply Kd.R_drewN | apply Kd.R_drew)); exact HO_14.out⟩, ⟨by (with_reducible repeat (first | apply Kd.R_alloc | apply Kd.R_drewN | apply Kd.R_drew)); exact HO_16.out⟩, ⟨by (with_reducible repeat (first | apply Kd.R_alloc | apply Kd.R_drewN | apply Kd.R_drew)); exact HO_18.out⟩, ⟨by (with_reducible repeat (first | apply Kd.R_alloc | apply Kd.R_drewN | apply Kd.R_drew)); exact HO_20.out⟩, ⟨by repeat (first | (with_reducible first | exact HB.out | apply below_alloc | apply pw_below_drewN | apply below_drew1) | exact HB.out)⟩⟩
                 ·rw [if_neg c198] at H
                  have c198b0 : ((rd t1664 x28_2) == 1) = false := beq_eq_false_iff_ne.mpr c198
                  have c198b1 : ((rd t1664 x28_2) != 1) = true := bne_iff_ne.mpr c198
                  have H' := Aside0.mk H
                  clear H
                  as_aux_lemma =>
                   have p1721 : 0 ≤ (x28_2 : Int) := of_decide_eq_true (by first | (with_reducible assumption) | assumption)
                   have q1721 : x28_2 < (t1664.length : Int) := of_decide_eq_true (by first | (with_reducible assumption) | assumption)
                   obtain ⟨ad1721, e1721, hx1721_0⟩ := Kd.at_int (Kd.R_reads' HO_16.out).2.2 x28_2 p1721 q1721
                   obtain rfl : ad1695 = ad1721 := (by injection e1721)
                   replace p1721 := eq_true p1721
                   replace q1721 := eq_true q1721
                   repeat (go_big_quiet_step (fail))
                   refine wpQuiet_nil ?_
                   intro _ hw'
                   obtain ⟨nq, hw''⟩ := hw'
                   subst hw''
                   try go_wp2
                   repeat (go_quiet (fail); try go_wp2)
                   try go_wp2
                   go_roundg kj98
                   case measure => have := HJ20.out; have := HK2.out; have := HJ98.out; omega
                   case rel => exact ⟨((wrap64 (x27_2 + (rd t1664 x28_2)))), (wrap64 (x28_2 + 1)), (by first | rfl | (simp; done) | (simp [*]; done)), (by first | rfl | (simp; done) | (simp [*]; done)), H', ⟨by have := HJ20.out; have := HK2.out; have := HJ98.out; omega⟩, ⟨by (with_reducible repeat (first | apply Kd.R_alloc | apply Kd.R_drewN | apply Kd.R_drew)); exact HO_7.out⟩, ⟨by (with_reducible repeat (first | apply Kd.R_alloc | apply Kd.R_drewN | apply Kd.R_drew)); exact HO_8.out⟩, ⟨by (with_reducible repeat (first | apply Kd.R_alloc | apply Kd.R_drewN | apply Kd.R_drew)); exact HO_9.out⟩, ⟨by (with_reducible repeat (first | apply Kd.R_alloc | apply Kd.R_drewN | apply Kd.R_drew)); exact HO_12.out⟩, ⟨by (with_reducible repeat (first | apply Kd.R_alloc | apply Kd.R_drewN | apply Kd.R_drew)); exact HO_14.out⟩, ⟨by (with_reducible repeat (first | apply Kd.R_alloc | apply Kd.R_drewN | apply Kd.R_drew)); exact HO_16.out⟩, ⟨by (with_reducible repeat (first | apply Kd.R_alloc | apply Kd.R_drewN | apply Kd.R_drew)); exact HO_18.out⟩, ⟨by (with_reducible repeat (first | apply Kd.R_alloc | apply Kd.R_drewN | apply Kd.R_drew)); exact HO_20.out⟩, ⟨by repeat (first | (with_reducible first | exact HB.out | apply below_alloc | apply pw_below_drewN | apply below_drew1) | exact HB.out)⟩⟩
                ·replace c196 := Bool.eq_false_iff.mpr c196
                 subst c196
                 rw [if_neg (show ¬ (false = true) by decide)] at H
                 have H' := Aside0.mk H
                 clear H
                 as_aux_lemma =>
                  repeat (go_big_quiet_step (fail))
                  refine wpQuiet_nil ?_
                  intro _ hw'
                  obtain ⟨nq, hw''⟩ := hw'
                  subst hw''
                  try go_wp2
                  repeat (go_quiet (fail); try go_wp2)
                  try go_wp2
                  go_roundg kj98
                  case measure => have := HJ20.out; have := HK2.out; have := HJ98.out; omega
                  case rel => exact ⟨((wrap64 (x27_2 + (rd t1664 x28_2)))), (wrap64 (x28_2 + 1)), (by first | rfl | (simp; done) | (simp [*]; done)), (by first | rfl | (simp; done) | (simp [*]; done)), H', ⟨by have := HJ20.out; have := HK2.out; have := HJ98.out; omega⟩, ⟨by (with_reducible repeat (first | apply Kd.R_alloc | apply Kd.R_drewN | apply Kd.R_drew)); exact HO_7.out⟩, ⟨by (with_reducible repeat (first | apply Kd.R_alloc | apply Kd.R_drewN | apply Kd.R_drew)); exact HO_8.out⟩, ⟨by (with_reducible repeat (first | apply Kd.R_alloc | apply Kd.R_drewN | apply Kd.R_drew)); exact HO_9.out⟩, ⟨by (with_reducible repeat (first | apply Kd.R_alloc | apply Kd.R_drewN | apply Kd.R_drew)); exact HO_12.out⟩, ⟨by (with_reducible repeat (first | apply Kd.R_alloc | apply Kd.R_drewN | apply Kd.R_drew)); exact HO_14.out⟩, ⟨by (with_reducible repeat (first | apply Kd.R_alloc | apply Kd.R_drewN | apply Kd.R_drew)); exact HO_16.out⟩, ⟨by (with_reducible repeat (first | apply Kd.R_alloc | apply Kd.R_drewN | apply Kd.R_drew)); exact HO_18.out⟩, ⟨by (with_reducible repeat (first | apply Kd.R_alloc | apply Kd.R_drewN | apply Kd.R_drew)); exact HO_20.out⟩, ⟨by repeat (first | (with_reducible first | exact HB.out | apply below_alloc | apply pw_below_drewN | apply below_drew1) | exact HB.out)⟩⟩
            ·replace c192 := Bool.eq_false_iff.mpr c192
             subst c192
             rw [if_neg (show ¬ (false = true) by decide)] at H
             by_cases c209 : x28_2 < (t1668.length : Int)
             rotate_left
             ·rw [if_neg c209] at H
              exact absurd H (by simp)
             rw [if_pos c209] at H
             have c209b0 : decide (x28_2 < (t1668.length : Int)) = true := decide_eq_true c209
             clear c209
             by_cases c210 : (rd t1668 x28_2) = (rd t1648 x28_2)
             rotate_left
             ·rw [if_neg c210] at H
              have c210b0 : ((rd t1668 x28_2) == (rd t1648 x28_2)) = false := beq_eq_false_iff_ne.mpr c210
              have c210b1 : ((rd t1668 x28_2) != (rd t1648 x28_2)) = true := bne_iff_ne.mpr c210
              obtain rfl := Option.some.inj H
              exact absurd HRT.out (by decide)
             rw [if_pos c210] at H
             have c210b0 : ((rd t1668 x28_2) == (rd t1648 x28_2)) = true := beq_iff_eq.mpr c210
             have c210b1 : ((rd t1668 x28_2) != (rd t1648 x28_2)) = false := bne_eq_false_iff_eq.mpr c210
             clear c210
             have HG := Aside0.mk H
             clear H
             as_aux_lemma =>
              try go_wp2
              have p1699 : 0 ≤ (x28_2 : Int) := of_decide_eq_true (by first | (with_reducible assumption) | assumption)
              have q1699 : x28_2 < (t1651.length : Int) := of_decide_eq_true (by first | (with_reducible assumption) | assumption)
              obtain ⟨ad1699, e1699, hx1699_0⟩ := Kd.at_int (Kd.R_reads' HO_9.out).2.2 x28_2 p1699 q1699
              cases e1699
              replace p1699 := eq_true p1699
              replace q1699 := eq_true q1699
              have p1716 : 0 ≤ (x28_2 : Int) := of_decide_eq_true (by first | (with_reducible assumption) | assumption)
              have q1716 : x28_2 < (t1651.length : Int) := of_decide_eq_true (by first | (with_reducible assumption) | assumption)
              obtain ⟨ad1716, e1716, hx1716_0⟩ := Kd.at_int (Kd.R_reads' HO_9.out).2.2 x28_2 p1716 q1716
              obtain rfl : ad1699 = ad1716 := (by injection e1716)
              replace p1716 := eq_true p1716
              replace q1716 := eq_true q1716
              obtain ⟨Ao222, co222, eo222⟩ := Kd.R_slice HO_14.out
              (first | subst eo222 | (injection eo222 with f1_ f2_ f3_; have f4_ := f1_.symm; have f5_ := f3_.symm; clear f1_ f2_ f3_; subst f4_; subst f5_))
              have p1717 : 0 ≤ (x28_2 : Int) := of_decide_eq_true (by first | (with_reducible assumption) | assumption)
              have q1717 : x28_2 < (t1660.length : Int) := of_decide_eq_true (by first | (with_reducible assumption) | assumption)
              obtain ⟨ad1717, e1717, hx1717_0⟩ := Kd.at_int (Kd.R_reads' HO_14.out).2.2 x28_2 p1717 q1717
              cases e1717
              replace p1717 := eq_true p1717
              replace q1717 := eq_true q1717
              have p1718 : 0 ≤ (x28_2 : Int) := of_decide_eq_true (by first | (with_reducible assumption) | assumption)
              have q1718 : x28_2 < (t1648.length : Int) := of_decide_eq_true (by first | (with_reducible assumption) | assumption)
              obtain ⟨ad1718, e1718, hx1718_0⟩ := Kd.at_int (Kd.R_reads' HO_8.out).2.2 x28_2 p1718 q1718
              obtain rfl : ad1673 = ad1718 := (by injection e1718)
              replace p1718 := eq_true p1718
              replace q1718 := eq_true q1718
              obtain ⟨Ao223, co223, eo223⟩ := Kd.R_slice HO_18.out
              (first | subst eo223 | (injection eo223 with f1_ f2_ f3_; have f4_ := f1_.symm; have f5_ := f3_.symm; clear f1_ f2_ f3_; subst f4_; subst f5_))
              have p1722 : 0 ≤ (x28_2 : Int) := of_decide_eq_true (by first | (with_reducible assumption) | assumption)
              have q1722 : x28_2 < (t1668.length : Int) := of_decide_eq_true (by first | (with_reducible assumption) | assumption)
              obtain ⟨ad1722, e1722, hx1722_0⟩ := Kd.at_int (Kd.R_reads' HO_18.out).2.2 x28_2 p1722 q1722
              cases e1722
              replace p1722 := eq_true p1722
              replace q1722 := eq_true q1722
              have p1723 : 0 ≤ (x28_2 : Int) := of_decide_eq_true (by first | (with_reducible assumption) | assumption)
              have q1723 : x28_2 < (t1648.length : Int) := of_decide_eq_true (by first | (with_reducible assumption) | assumption)
              obtain ⟨ad1723, e1723, hx1723_0⟩ := Kd.at_int (Kd.R_reads' HO_8.out).2.2 x28_2 p1723 q1723
              obtain rfl : ad1673 = ad1723 := (by injection e1723)
              replace p1723 := eq_true p1723
              replace q1723 := eq_true q1723
              (try dsimp only [List.append])
              refine wp_region_quiet_lit (by kernel_rfl) laws_FnLanes.lex30 ?_
              iterate 20 (first | go_big_quiet_step (fail) | skip)
              as_aux_lemma =>
               iterate 20 (first | go_big_quiet_step (fail) | skip)
               as_aux_lemma =>
                repeat (go_big_quiet_step (fail))
                have H := HG.out
                clear HG
                by_cases c211 : t1681 = true
                ·subst c211
                 rw [if_pos rfl] at H
                 by_cases c212 : x28_2 < (t1664.length : Int)
                 rotate_left
                 ·rw [if_neg c212] at H
                  exact absurd H (by simp)
                 rw [if_pos c212] at H
                 have c212b0 : decide (x28_2 < (t1664.length : Int)) = true := decide_eq_true c212
                 clear c212
                 by_cases c213 : (rd t1664 x28_2) = 1
                 ·rw [if_pos c213] at H
                  have c213b0 : ((rd t1664 x28_2) == 1) = true := beq_iff_eq.mpr c213
                  have c213b1 : ((rd t1664 x28_2) != 1) = false := bne_eq_false_iff_eq.mpr c213
                  clear c213
                  by_cases c214 : x28_2 < t1680
                  ·rw [if_pos c214] at H
                   have c214b0 : decide (x28_2 < t1680) = true := decide_eq_true c214
                   clear c214
                   obtain rfl := Option.some.inj H
                   exact absurd HRT.out (by decide)
                  rw [if_neg c214] at H
                  have c214b0 : decide (x28_2 < t1680) = false := decide_eq_false c214
                  clear c214
                  have H' := Aside0.mk H
                  clear H
                  as_aux_lemma =>
                   have p1724 : 0 ≤ (x28_2 : Int) := of_decide_eq_true (by first | (with_reducible assumption) | assumption)
                   have q1724 : x28_2 < (t1664.length : Int) := of_decide_eq_true (by first | (with_reducible assumption) | assumption)
                   obtain ⟨ad1724, e1724, hx1724_0⟩ := Kd.at_int (Kd.R_reads' HO_16.out).2.2 x28_2 p1724 q1724
                   obtain rfl : ad1695 = ad1724 := (by injection e1724)
                   replace p1724 := eq_true p1724
                   replace q1724 := eq_true q1724
                   repeat (go_big_quiet_step (fail))
                   refine wpQuiet_nil ?_
                   intro _ hw'
                   obtain ⟨nq, hw''⟩ := hw'
                   subst hw''
                   try go_wp2
                   repeat (go_quiet (fail); try go_wp2)
                   try go_wp2
                   go_roundg kj98
                   case measure => have := HJ20.out; have := HK2.out; have := HJ98.out; omega
                   case rel => exact ⟨((wrap64 (x27_2 + (rd t1664 x28_2)))), (wrap64 (x28_2 + 1)), (by first | rfl | (simp; done) | (simp [*]; done)), (by first | rfl | (simp; done) | (simp [*]; done)), H', ⟨by have := HJ20.out; have := HK2.out; have := HJ98.out; omega⟩, ⟨by (with_reducible repeat (first | apply Kd.R_alloc | apply Kd.R_drewN | apply Kd.R_drew)); exact HO_7.out⟩, ⟨by (with_reducible repeat (first | apply Kd.R_alloc | apply Kd.R_drewN | apply Kd.R_drew)); exact HO_8.out⟩, ⟨by (with_reducible repeat (first | apply Kd.R_alloc | apply Kd.R_drewN | apply Kd.R_drew)); exact HO_9.out⟩, ⟨by (with_reducible repeat (first | apply Kd.R_alloc | apply Kd.R_drewN | apply Kd.R_drew)); exact HO_12.out⟩, ⟨by (with_reducible repeat (first | apply Kd.R_alloc | apply Kd.R_drewN | apply Kd.R_drew)); exact HO_14.out⟩, ⟨by (with_reducible repeat (first | apply Kd.R_alloc | apply Kd.R_drewN | apply Kd.R_drew)); exact HO_16.out⟩, ⟨by (with_reducible repeat (first | apply Kd.R_alloc | apply Kd.R_drewN | apply Kd.R_drew)); exact HO_18.out⟩, ⟨by (with_reducible repeat (first | apply Kd.R_alloc | apply Kd.R_drewN | apply Kd.R_drew)); exact HO_20.out⟩, ⟨by repeat (first | (with_reducible first | exact HB.out | apply below_alloc | apply pw_below_drewN | apply below_drew1) | exact HB.out)⟩⟩
                 ·rw [if_neg c213] at H
                  have c213b0 : ((rd t1664 x28_2) == 1) = false := beq_eq_false_iff_ne.mpr c213
                  have c213b1 : ((rd t1664 x28_2) != 1) = true := bne_iff_ne.mpr c213
                  have H' := Aside0.mk H
                  clear H
                  as_aux_lemma =>
                   have p1724 : 0 ≤ (x28_2 : Int) := of_decide_eq_true (by first | (with_reducible assumption) | assumption)
                   have q1724 : x28_2 < (t1664.length : Int) := of_decide_eq_true (by first | (with_reducible assumption) | assumption)
                   obtain ⟨ad1724, e1724, hx1724_0⟩ := Kd.at_int (Kd.R_reads' HO_16.out).2.2 x28_2 p1724 q1724
                   obtain rfl : ad1695 = ad1724 := (by injection e1724)
                   replace p1724 := eq_true p1724
                   replace q1724 := eq_true q1724
                   repeat (go_big_quiet_step (fail))
                   refine wpQuiet_nil ?_
                   intro _ hw'
                   obtain ⟨nq, hw''⟩ := hw'
                   subst hw''
                   try go_wp2
                   repeat (go_quiet (fail); try go_wp2)
                   try go_wp2
                   go_roundg kj98
                   case measure => have := HJ20.out; have := HK2.out; have := HJ98.out; omega
                   case rel => exact ⟨((wrap64 (x27_2 + (rd t1664 x28_2)))), (wrap64 (x28_2 + 1)), (by first | rfl | (simp; done) | (simp [*]; done)), (by first | rfl | (simp; done) | (simp [*]; done)), H', ⟨by have := HJ20.out; have := HK2.out; have := HJ98.out; omega⟩, ⟨by (with_reducible repeat (first | apply Kd.R_alloc | apply Kd.R_drewN | apply Kd.R_drew)); exact HO_7.out⟩, ⟨by (with_reducible repeat (first | apply Kd.R_alloc | apply Kd.R_drewN | apply Kd.R_drew)); exact HO_8.out⟩, ⟨by (with_reducible repeat (first | apply Kd.R_alloc | apply Kd.R_drewN | apply Kd.R_drew)); exact HO_9.out⟩, ⟨by (with_reducible repeat (first | apply Kd.R_alloc | apply Kd.R_drewN | apply Kd.R_drew)); exact HO_12.out⟩, ⟨by (with_reducible repeat (first | apply Kd.R_alloc | apply Kd.R_drewN | apply Kd.R_drew)); exact HO_14.out⟩, ⟨by (with_reducible repeat (first | apply Kd.R_alloc | apply Kd.R_drewN | apply Kd.R_drew)); exact HO_16.out⟩, ⟨by (with_reducible repeat (first | apply Kd.R_alloc | apply Kd.R_drewN | apply Kd.R_drew)); exact HO_18.out⟩, ⟨by (with_reducible repeat (first | apply Kd.R_alloc | apply Kd.R_drewN | apply Kd.R_drew)); exact HO_20.out⟩, ⟨by repeat (first | (with_reducible first | exact HB.out | apply below_alloc | apply pw_below_drewN | apply below_drew1) | exact HB.out)⟩⟩
                ·replace c211 := Bool.eq_false_iff.mpr c211
                 subst c211
                 rw [if_neg (show ¬ (false = true) by decide)] at H
                 have H' := Aside0.mk H
                 clear H
                 as_aux_lemma =>
                  repeat (go_big_quiet_step (fail))
                  refine wpQuiet_nil ?_
                  intro _ hw'
                  obtain ⟨nq, hw''⟩ := hw'
                  subst hw''
                  try go_wp2
                  repeat (go_quiet (fail); try go_wp2)
                  try go_wp2
                  go_roundg kj98
                  case measure => have := HJ20.out; have := HK2.out; have := HJ98.out; omega
                  case rel => exact ⟨((wrap64 (x27_2 + (rd t1664 x28_2)))), (wrap64 (x28_2 + 1)), (by first | rfl | (simp; done) | (simp [*]; done)), (by first | rfl | (simp; done) | (simp [*]; done)), H', ⟨by have := HJ20.out; have := HK2.out; have := HJ98.out; omega⟩, ⟨by (with_reducible repeat (first | apply Kd.R_alloc | apply Kd.R_drewN | apply Kd.R_drew)); exact HO_7.out⟩, ⟨by (with_reducible repeat (first | apply Kd.R_alloc | apply Kd.R_drewN | apply Kd.R_drew)); exact HO_8.out⟩, ⟨by (with_reducible repeat (first | apply Kd.R_alloc | apply Kd.R_drewN | apply Kd.R_drew)); exact HO_9.out⟩, ⟨by (with_reducible repeat (first | apply Kd.R_alloc | apply Kd.R_drewN | apply Kd.R_drew)); exact HO_12.out⟩, ⟨by (with_reducible repeat (first | apply Kd.R_alloc | apply Kd.R_drewN | apply Kd.R_drew)); exact HO_14.out⟩, ⟨by (with_reducible repeat (first | apply Kd.R_alloc | apply Kd.R_drewN | apply Kd.R_drew)); exact HO_16.out⟩, ⟨by (with_reducible repeat (first | apply Kd.R_alloc | apply Kd.R_drewN | apply Kd.R_drew)); exact HO_18.out⟩, ⟨by (with_reducible repeat (first | apply Kd.R_alloc | apply Kd.R_drewN | apply Kd.R_drew)); exact HO_20.out⟩, ⟨by repeat (first | (with_reducible first | exact HB.out | apply below_alloc | apply pw_below_drewN | apply below_drew1) | exact HB.out)⟩⟩
           ·rw [if_neg c188] at H
            have c188b0 : ((rd t1651 x28_2) == 0) = false := beq_eq_false_iff_ne.mpr c188
            have c188b1 : ((rd t1651 x28_2) != 0) = true := bne_iff_ne.mpr c188
            by_cases c224 : t1689 = true
            ·subst c224
             rw [if_pos rfl] at H
             by_cases c225 : x28_2 < (t1668.length : Int)
             rotate_left
             ·rw [if_neg c225] at H
              exact absurd H (by simp)
             rw [if_pos c225] at H
             have c225b0 : decide (x28_2 < (t1668.length : Int)) = true := decide_eq_true c225
             clear c225
             by_cases c226 : x28_2 < (t1645.length : Int)
             rotate_left
             ·rw [if_neg c226] at H
              exact absurd H (by simp)
             rw [if_pos c226] at H
             have c226b0 : decide (x28_2 < (t1645.length : Int)) = true := decide_eq_true c226
             clear c226
             by_cases c227 : (rd t1668 x28_2) = (rd t1645 x28_2)
             rotate_left
             ·rw [if_neg c227] at H
              have c227b0 : ((rd t1668 x28_2) == (rd t1645 x28_2)) = false := beq_eq_false_iff_ne.mpr c227
              have c227b1 : ((rd t1668 x28_2) != (rd t1645 x28_2)) = true := bne_iff_ne.mpr c227
              obtain rfl := Option.some.inj H
              exact absurd HRT.out (by decide)
             rw [if_pos c227] at H
             have c227b0 : ((rd t1668 x28_2) == (rd t1645 x28_2)) = true := beq_iff_eq.mpr c227
             have c227b1 : ((rd t1668 x28_2) != (rd t1645 x28_2)) = false := bne_eq_false_iff_eq.mpr c227
             clear c227
             have HG := Aside0.mk H
             clear H
             as_aux_lemma =>
              try go_wp2
              have p1699 : 0 ≤ (x28_2 : Int) := of_decide_eq_true (by first | (with_reducible assumption) | assumption)
              have q1699 : x28_2 < (t1651.length : Int) := of_decide_eq_true (by first | (with_reducible assumption) | assumption)
              obtain ⟨ad1699, e1699, hx1699_0⟩ := Kd.at_int (Kd.R_reads' HO_9.out).2.2 x28_2 p1699 q1699
              cases e1699
              replace p1699 := eq_true p1699
              replace q1699 := eq_true q1699
              have p1716 : 0 ≤ (x28_2 : Int) := of_decide_eq_true (by first | (with_reducible assumption) | assumption)
              have q1716 : x28_2 < (t1651.length : Int) := of_decide_eq_true (by first | (with_reducible assumption) | assumption)
              obtain ⟨ad1716, e1716, hx1716_0⟩ := Kd.at_int (Kd.R_reads' HO_9.out).2.2 x28_2 p1716 q1716
              obtain rfl : ad1699 = ad1716 := (by injection e1716)
              replace p1716 := eq_true p1716
              replace q1716 := eq_true q1716
              obtain ⟨Ao237, co237, eo237⟩ := Kd.R_slice HO_18.out
              (first | subst eo237 | (injection eo237 with f1_ f2_ f3_; have f4_ := f1_.symm; have f5_ := f3_.symm; clear f1_ f2_ f3_; subst f4_; subst f5_))
              have p1725 : 0 ≤ (x28_2 : Int) := of_decide_eq_true (by first | (with_reducible assumption) | assumption)
              have q1725 : x28_2 < (t1668.length : Int) := of_decide_eq_true (by first | (with_reducible assumption) | assumption)
              obtain ⟨ad1725, e1725, hx1725_0⟩ := Kd.at_int (Kd.R_reads' HO_18.out).2.2 x28_2 p1725 q1725
              cases e1725
              replace p1725 := eq_true p1725
              replace q1725 := eq_true q1725
              have p1726 : 0 ≤ (x28_2 : Int) := of_decide_eq_true (by first | (with_reducible assumption) | assumption)
              have q1726 : x28_2 < (t1645.length : Int) := of_decide_eq_true (by first | (with_reducible assumption) | assumption)
              obtain ⟨ad1726, e1726, hx1726_0⟩ := Kd.at_int (Kd.R_reads' HO_7.out).2.2 x28_2 p1726 q1726
              obtain rfl : ad1672 = ad1726 := (by injection e1726)
              replace p1726 := eq_true p1726
              replace q1726 := eq_true q1726
              (try dsimp only [List.append])
              refine wp_region_quiet_lit (by kernel_rfl) laws_FnLanes.lex30 ?_
              iterate 20 (first | go_big_quiet_step (fail) | skip)
              as_aux_lemma =>
               iterate 20 (first | go_big_quiet_step (fail) | skip)
               as_aux_lemma =>
                repeat (go_big_quiet_step (fail))
                have H := HG.out
                clear HG
                by_cases c228 : t1681 = true
                ·subst c228
                 rw [if_pos rfl] at H
                 by_cases c229 : x28_2 < (t1664.length : Int)
                 rotate_left
                 ·rw [if_neg c229] at H
                  exact absurd H (by simp)
                 rw [if_pos c229] at H
                 have c229b0 : decide (x28_2 < (t1664.length : Int)) = true := decide_eq_true c229
                 clear c229
                 by_cases c230 : (rd t1664 x28_2) = 1
                 ·rw [if_pos c230] at H
                  have c230b0 : ((rd t1664 x28_2) == 1) = true := beq_iff_eq.mpr c230
                  have c230b1 : ((rd t1664 x28_2) != 1) = false := bne_eq_false_iff_eq.mpr c230
                  clear c230
                  by_cases c231 : x28_2 < t1680
                  ·rw [if_pos c231] at H
                   have c231b0 : decide (x28_2 < t1680) = true := decide_eq_true c231
                   clear c231
                   obtain rfl := Option.some.inj H
                   exact absurd HRT.out (by decide)
                  rw [if_neg c231] at H
                  have c231b0 : decide (x28_2 < t1680) = false := decide_eq_false c231
                  clear c231
                  have H' := Aside0.mk H
                  clear H
                  as_aux_lemma =>
                   have p1727 : 0 ≤ (x28_2 : Int) := of_decide_eq_true (by first | (with_reducible assumption) | assumption)
                   have q1727 : x28_2 < (t1664.length : Int) := of_decide_eq_true (by first | (with_reducible assumption) | assumption)
                   obtain ⟨ad1727, e1727, hx1727_0⟩ := Kd.at_int (Kd.R_reads' HO_16.out).2.2 x28_2 p1727 q1727
                   obtain rfl : ad1695 = ad1727 := (by injection e1727)
                   replace p1727 := eq_true p1727
                   replace q1727 := eq_true q1727
                   repeat (go_big_quiet_step (fail))
                   refine wpQuiet_nil ?_
                   intro _ hw'
                   obtain ⟨nq, hw''⟩ := hw'
                   subst hw''
                   try go_wp2
                   repeat (go_quiet (fail); try go_wp2)
                   try go_wp2
                   go_roundg kj98
                   case measure => have := HJ20.out; have := HK2.out; have := HJ98.out; omega
                   case rel => exact ⟨((wrap64 (x27_2 + (rd t1664 x28_2)))), (wrap64 (x28_2 + 1)), (by first | rfl | (simp; done) | (simp [*]; done)), (by first | rfl | (simp; done) | (simp [*]; done)), H', ⟨by have := HJ20.out; have := HK2.out; have := HJ98.out; omega⟩, ⟨by (with_reducible repeat (first | apply Kd.R_alloc | apply Kd.R_drewN | apply Kd.R_drew)); exact HO_7.out⟩, ⟨by (with_reducible repeat (first | apply Kd.R_alloc | apply Kd.R_drewN | apply Kd.R_drew)); exact HO_8.out⟩, ⟨by (with_reducible repeat (first | apply Kd.R_alloc | apply Kd.R_drewN | apply Kd.R_drew)); exact HO_9.out⟩, ⟨by (with_reducible repeat (first | apply Kd.R_alloc | apply Kd.R_drewN | apply Kd.R_drew)); exact HO_12.out⟩, ⟨by (with_reducible repeat (first | apply Kd.R_alloc | apply Kd.R_drewN | apply Kd.R_drew)); exact HO_14.out⟩, ⟨by (with_reducible repeat (first | apply Kd.R_alloc | apply Kd.R_drewN | apply Kd.R_drew)); exact HO_16.out⟩, ⟨by (with_reducible repeat (first | apply Kd.R_alloc | apply Kd.R_drewN | apply Kd.R_drew)); exact HO_18.out⟩, ⟨by (with_reducible repeat (first | apply Kd.R_alloc | apply Kd.R_drewN | apply Kd.R_drew)); exact HO_20.out⟩, ⟨by repeat (first | (with_reducible first | exact HB.out | apply below_alloc | apply pw_below_drewN | apply below_drew1) | exact HB.out)⟩⟩
                 ·rw [if_neg c230] at H
                  have c230b0 : ((rd t1664 x28_2) == 1) = false := beq_eq_false_iff_ne.mpr c230
                  have c230b1 : ((rd t1664 x28_2) != 1) = true := bne_iff_ne.mpr c230
                  have H' := Aside0.mk H
                  clear H
                  as_aux_lemma =>
                   have p1727 : 0 ≤ (x28_2 : Int) := of_decide_eq_true (by first | (with_reducible assumption) | assumption)
                   have q1727 : x28_2 < (t1664.length : Int) := of_decide_eq_true (by first | (with_reducible assumption) | assumption)
                   obtain ⟨ad1727, e1727, hx1727_0⟩ := Kd.at_int (Kd.R_reads' HO_16.out).2.2 x28_2 p1727 q1727
                   obtain rfl : ad1695 = ad1727 := (by injection e1727)
                   replace p1727 := eq_true p1727
                   replace q1727 := eq_true q1727
                   repeat (go_big_quiet_step (fail))
                   refine wpQuiet_nil ?_
                   intro _ hw'
                   obtain ⟨nq, hw''⟩ := hw'
                   subst hw''
                   try go_wp2
                   repeat (go_quiet (fail); try go_wp2)
                   try go_wp2
                   go_roundg kj98
                   case measure => have := HJ20.out; have := HK2.out; have := HJ98.out; omega
                   case rel => exact ⟨((wrap64 (x27_2 + (rd t1664 x28_2)))), (wrap64 (x28_2 + 1)), (by first | rfl | (simp; done) | (simp [*]; done)), (by first | rfl | (simp; done) | (simp [*]; done)), H', ⟨by have := HJ20.out; have := HK2.out; have := HJ98.out; omega⟩, ⟨by (with_reducible repeat (first | apply Kd.R_alloc | apply Kd.R_drewN | apply Kd.R_drew)); exact HO_7.out⟩, ⟨by (with_reducible repeat (first | apply Kd.R_alloc | apply Kd.R_drewN | apply Kd.R_drew)); exact HO_8.out⟩, ⟨by (with_reducible repeat (first | apply Kd.R_alloc | apply Kd.R_drewN | apply Kd.R_drew)); exact HO_9.out⟩, ⟨by (with_reducible repeat (first | apply Kd.R_alloc | apply Kd.R_drewN | apply Kd.R_drew)); exact HO_12.out⟩, ⟨by (with_reducible repeat (first | apply Kd.R_alloc | apply Kd.R_drewN | apply Kd.R_drew)); exact HO_14.out⟩, ⟨by (with_reducible repeat (first | apply Kd.R_alloc | apply Kd.R_drewN | apply Kd.R_drew)); exact HO_16.out⟩, ⟨by (with_reducible repeat (first | apply Kd.R_alloc | apply Kd.R_drewN | apply Kd.R_drew)); exact HO_18.out⟩, ⟨by (with_reducible repeat (first | apply Kd.R_alloc | apply Kd.R_drewN | apply Kd.R_drew)); exact HO_20.out⟩, ⟨by repeat (first | (with_reducible first | exact HB.out | apply below_alloc | apply pw_below_drewN | apply below_drew1) | exact HB.out)⟩⟩
                ·replace c228 := Bool.eq_false_iff.mpr c228
                 subst c228
                 rw [if_neg (show ¬ (false = true) by decide)] at H
                 have H' := Aside0.mk H
                 clear H
                 as_aux_lemma =>
                  repeat (go_big_quiet_step (fail))
                  refine wpQuiet_nil ?_
                  intro _ hw'
                  obtain ⟨nq, hw''⟩ := hw'
                  subst hw''
                  try go_wp2
                  repeat (go_quiet (fail); try go_wp2)
                  try go_wp2
                  go_roundg kj98
                  case measure => have := HJ20.out; have := HK2.out; have := HJ98.out; omega
                  case rel => exact ⟨((wrap64 (x27_2 + (rd t1664 x28_2)))), (wrap64 (x28_2 + 1)), (by first | rfl | (simp; done) | (simp [*]; done)), (by first | rfl | (simp; done) | (simp [*]; done)), H', ⟨by have := HJ20.out; have := HK2.out; have := HJ98.out; omega⟩, ⟨by (with_reducible repeat (first | apply Kd.R_alloc | apply Kd.R_drewN | apply Kd.R_drew)); exact HO_7.out⟩, ⟨by (with_reducible repeat (first | apply Kd.R_alloc | apply Kd.R_drewN | apply Kd.R_drew)); exact HO_8.out⟩, ⟨by (with_reducible repeat (first | apply Kd.R_alloc | apply Kd.R_drewN | apply Kd.R_drew)); exact HO_9.out⟩, ⟨by (with_reducible repeat (first | apply Kd.R_alloc | apply Kd.R_drewN | apply Kd.R_drew)); exact HO_12.out⟩, ⟨by (with_reducible repeat (first | apply Kd.R_alloc | apply Kd.R_drewN | apply Kd.R_drew)); exact HO_14.out⟩, ⟨by (with_reducible repeat (first | apply Kd.R_alloc | apply Kd.R_drewN | apply Kd.R_drew)); exact HO_16.out⟩, ⟨by (with_reducible repeat (first | apply Kd.R_alloc | apply Kd.R_drewN | apply Kd.R_drew)); exact HO_18.out⟩, ⟨by (with_reducible repeat (first | apply Kd.R_alloc | apply Kd.R_drewN | apply Kd.R_drew)); exact HO_20.out⟩, ⟨by repeat (first | (with_reducible first | exact HB.out | apply below_alloc | apply pw_below_drewN | apply below_drew1) | exact HB.out)⟩⟩
            ·replace c224 := Bool.eq_false_iff.mpr c224
             subst c224
             rw [if_neg (show ¬ (false = true) by decide)] at H
             by_cases c238 : x28_2 < (t1668.length : Int)
             rotate_left
             ·rw [if_neg c238] at H
              exact absurd H (by simp)
             rw [if_pos c238] at H
             have c238b0 : decide (x28_2 < (t1668.length : Int)) = true := decide_eq_true c238
             clear c238
             by_cases c239 : x28_2 < (t1648.length : Int)
             rotate_left
             ·rw [if_neg c239] at H
              exact absurd H (by simp)
             rw [if_pos c239] at H
             have c239b0 : decide (x28_2 < (t1648.length : Int)) = true := decide_eq_true c239
             clear c239
             by_cases c240 : (rd t1668 x28_2) = (rd t1648 x28_2)
             rotate_left
             ·rw [if_neg c240] at H
              have c240b0 : ((rd t1668 x28_2) == (rd t1648 x28_2)) = false := beq_eq_false_iff_ne.mpr c240
              have c240b1 : ((rd t1668 x28_2) != (rd t1648 x28_2)) = true := bne_iff_ne.mpr c240
              obtain rfl := Option.some.inj H
              exact absurd HRT.out (by decide)
             rw [if_pos c240] at H
             have c240b0 : ((rd t1668 x28_2) == (rd t1648 x28_2)) = true := beq_iff_eq.mpr c240
             have c240b1 : ((rd t1668 x28_2) != (rd t1648 x28_2)) = false := bne_eq_false_iff_eq.mpr c240
             clear c240
             have HG := Aside0.mk H
             clear H
             as_aux_lemma =>
              try go_wp2
              have p1699 : 0 ≤ (x28_2 : Int) := of_decide_eq_true (by first | (with_reducible assumption) | assumption)
              have q1699 : x28_2 < (t1651.length : Int) := of_decide_eq_true (by first | (with_reducible assumption) | assumption)
              obtain ⟨ad1699, e1699, hx1699_0⟩ := Kd.at_int (Kd.R_reads' HO_9.out).2.2 x28_2 p1699 q1699
              cases e1699
              replace p1699 := eq_true p1699
              replace q1699 := eq_true q1699
              have p1716 : 0 ≤ (x28_2 : Int) := of_decide_eq_true (by first | (with_reducible assumption) | assumption)
              have q1716 : x28_2 < (t1651.length : Int) := of_decide_eq_true (by first | (with_reducible assumption) | assumption)
              obtain ⟨ad1716, e1716, hx1716_0⟩ := Kd.at_int (Kd.R_reads' HO_9.out).2.2 x28_2 p1716 q1716
              obtain rfl : ad1699 = ad1716 := (by injection e1716)
              replace p1716 := eq_true p1716
              replace q1716 := eq_true q1716
              obtain ⟨Ao250, co250, eo250⟩ := Kd.R_slice HO_18.out
              (first | subst eo250 | (injection eo250 with f1_ f2_ f3_; have f4_ := f1_.symm; have f5_ := f3_.symm; clear f1_ f2_ f3_; subst f4_; subst f5_))
              have p1728 : 0 ≤ (x28_2 : Int) := of_decide_eq_true (by first | (with_reducible assumption) | assumption)
              have q1728 : x28_2 < (t1668.length : Int) := of_decide_eq_true (by first | (with_reducible assumption) | assumption)
              obtain ⟨ad1728, e1728, hx1728_0⟩ := Kd.at_int (Kd.R_reads' HO_18.out).2.2 x28_2 p1728 q1728
              cases e1728
              replace p1728 := eq_true p1728
              replace q1728 := eq_true q1728
              have p1729 : 0 ≤ (x28_2 : Int) := of_decide_eq_true (by first | (with_reducible assumption) | assumption)
              have q1729 : x28_2 < (t1648.length : Int) := of_decide_eq_true (by first | (with_reducible assumption) | assumption)
              obtain ⟨ad1729, e1729, hx1729_0⟩ := Kd.at_int (Kd.R_reads' HO_8.out).2.2 x28_2 p1729 q1729
              obtain rfl : ad1673 = ad1729 := (by injection e1729)
              replace p1729 := eq_true p1729
              replace q1729 := eq_true q1729
              (try dsimp only [List.append])
              refine wp_region_quiet_lit (by kernel_rfl) laws_FnLanes.lex30 ?_
              iterate 20 (first | go_big_quiet_step (fail) | skip)
              as_aux_lemma =>
               iterate 20 (first | go_big_quiet_step (fail) | skip)
               as_aux_lemma =>
                repeat (go_big_quiet_step (fail))
                have H := HG.out
                clear HG
                by_cases c241 : t1681 = true
                ·subst c241
                 rw [if_pos rfl] at H
                 by_cases c242 : x28_2 < (t1664.length : Int)
                 rotate_left
                 ·rw [if_neg c242] at H
                  exact absurd H (by simp)
                 rw [if_pos c242] at H
                 have c242b0 : decide (x28_2 < (t1664.length : Int)) = true := decide_eq_true c242
                 clear c242
                 by_cases c243 : (rd t1664 x28_2) = 1
                 ·rw [if_pos c243] at H
                  have c243b0 : ((rd t1664 x28_2) == 1) = true := beq_iff_eq.mpr c243
                  have c243b1 : ((rd t1664 x28_2) != 1) = false := bne_eq_false_iff_eq.mpr c243
                  clear c243
                  by_cases c244 : x28_2 < t1680
                  ·rw [if_pos c244] at H
                   have c244b0 : decide (x28_2 < t1680) = true := decide_eq_true c244
                   clear c244
                   obtain rfl := Option.some.inj H
                   exact absurd HRT.out (by decide)
                  rw [if_neg c244] at H
                  have c244b0 : decide (x28_2 < t1680) = false := decide_eq_false c244
                  clear c244
                  have H' := Aside0.mk H
                  clear H
                  as_aux_lemma =>
                   have p1730 : 0 ≤ (x28_2 : Int) := of_decide_eq_true (by first | (with_reducible assumption) | assumption)
                   have q1730 : x28_2 < (t1664.length : Int) := of_decide_eq_true (by first | (with_reducible assumption) | assumption)
                   obtain ⟨ad1730, e1730, hx1730_0⟩ := Kd.at_int (Kd.R_reads' HO_16.out).2.2 x28_2 p1730 q1730
                   obtain rfl : ad1695 = ad1730 := (by injection e1730)
                   replace p1730 := eq_true p1730
                   replace q1730 := eq_true q1730
                   repeat (go_big_quiet_step (fail))
                   refine wpQuiet_nil ?_
                   intro _ hw'
                   obtain ⟨nq, hw''⟩ := hw'
                   subst hw''
                   try go_wp2
                   repeat (go_quiet (fail); try go_wp2)
                   try go_wp2
                   go_roundg kj98
                   case measure => have := HJ20.out; have := HK2.out; have := HJ98.out; omega
                   case rel => exact ⟨((wrap64 (x27_2 + (rd t1664 x28_2)))), (wrap64 (x28_2 + 1)), (by first | rfl | (simp; done) | (simp [*]; done)), (by first | rfl | (simp; done) | (simp [*]; done)), H', ⟨by have := HJ20.out; have := HK2.out; have := HJ98.out; omega⟩, ⟨by (with_reducible repeat (first | apply Kd.R_alloc | apply Kd.R_drewN | apply Kd.R_drew)); exact HO_7.out⟩, ⟨by (with_reducible repeat (first | apply Kd.R_alloc | apply Kd.R_drewN | apply Kd.R_drew)); exact HO_8.out⟩, ⟨by (with_reducible repeat (first | apply Kd.R_alloc | apply Kd.R_drewN | apply Kd.R_drew)); exact HO_9.out⟩, ⟨by (with_reducible repeat (first | apply Kd.R_alloc | apply Kd.R_drewN | apply Kd.R_drew)); exact HO_12.out⟩, ⟨by (with_reducible repeat (first | apply Kd.R_alloc | apply Kd.R_drewN | apply Kd.R_drew)); exact HO_14.out⟩, ⟨by (with_reducible repeat (first | apply Kd.R_alloc | apply Kd.R_drewN | apply Kd.R_drew)); exact HO_16.out⟩, ⟨by (with_reducible repeat (first | apply Kd.R_alloc | apply Kd.R_drewN | apply Kd.R_drew)); exact HO_18.out⟩, ⟨by (with_reducible repeat (first | apply Kd.R_alloc | apply Kd.R_drewN | apply Kd.R_drew)); exact HO_20.out⟩, ⟨by repeat (first | (with_reducible first | exact HB.out | apply below_alloc | apply pw_below_drewN | apply below_drew1) | exact HB.out)⟩⟩
                 ·rw [if_neg c243] at H
                  have c243b0 : ((rd t1664 x28_2) == 1) = false := beq_eq_false_iff_ne.mpr c243
                  have c243b1 : ((rd t1664 x28_2) != 1) = true := bne_iff_ne.mpr c243
                  have H' := Aside0.mk H
                  clear H
                  as_aux_lemma =>
                   have p1730 : 0 ≤ (x28_2 : Int) := of_decide_eq_true (by first | (with_reducible assumption) | assumption)
                   have q1730 : x28_2 < (t1664.length : Int) := of_decide_eq_true (by first | (with_reducible assumption) | assumption)
                   obtain ⟨ad1730, e1730, hx1730_0⟩ := Kd.at_int (Kd.R_reads' HO_16.out).2.2 x28_2 p1730 q1730
                   obtain rfl : ad1695 = ad1730 := (by injection e1730)
                   replace p1730 := eq_true p1730
                   replace q1730 := eq_true q1730
                   repeat (go_big_quiet_step (fail))
                   refine wpQuiet_nil ?_
                   intro _ hw'
                   obtain ⟨nq, hw''⟩ := hw'
                   subst hw''
                   try go_wp2
                   repeat (go_quiet (fail); try go_wp2)
                   try go_wp2
                   go_roundg kj98
                   case measure => have := HJ20.out; have := HK2.out; have := HJ98.out; omega
                   case rel => exact ⟨((wrap64 (x27_2 + (rd t1664 x28_2)))), (wrap64 (x28_2 + 1)), (by first | rfl | (simp; done) | (simp [*]; done)), (by first | rfl | (simp; done) | (simp [*]; done)), H', ⟨by have := HJ20.out; have := HK2.out; have := HJ98.out; omega⟩, ⟨by (with_reducible repeat (first | apply Kd.R_alloc | apply Kd.R_drewN | apply Kd.R_drew)); exact HO_7.out⟩, ⟨by (with_reducible repeat (first | apply Kd.R_alloc | apply Kd.R_drewN | apply Kd.R_drew)); exact HO_8.out⟩, ⟨by (with_reducible repeat (first | apply Kd.R_alloc | apply Kd.R_drewN | apply Kd.R_drew)); exact HO_9.out⟩, ⟨by (with_reducible repeat (first | apply Kd.R_alloc | apply Kd.R_drewN | apply Kd.R_drew)); exact HO_12.out⟩, ⟨by (with_reducible repeat (first | apply Kd.R_alloc | apply Kd.R_drewN | apply Kd.R_drew)); exact HO_14.out⟩, ⟨by (with_reducible repeat (first | apply Kd.R_alloc | apply Kd.R_drewN | apply Kd.R_drew)); exact HO_16.out⟩, ⟨by (with_reducible repeat (first | apply Kd.R_alloc | apply Kd.R_drewN | apply Kd.R_drew)); exact HO_18.out⟩, ⟨by (with_reducible repeat (first | apply Kd.R_alloc | apply Kd.R_drewN | apply Kd.R_drew)); exact HO_20.out⟩, ⟨by repeat (first | (with_reducible first | exact HB.out | apply below_alloc | apply pw_below_drewN | apply below_drew1) | exact HB.out)⟩⟩
                ·replace c241 := Bool.eq_false_iff.mpr c241
                 subst c241
                 rw [if_neg (show ¬ (false = true) by decide)] at H
                 have H' := Aside0.mk H
                 clear H
                 as_aux_lemma =>
                  repeat (go_big_quiet_step (fail))
                  refine wpQuiet_nil ?_
                  intro _ hw'
                  obtain ⟨nq, hw''⟩ := hw'
                  subst hw''
                  try go_wp2
                  repeat (go_quiet (fail); try go_wp2)
                  try go_wp2
                  go_roundg kj98
                  case measure => have := HJ20.out; have := HK2.out; have := HJ98.out; omega
                  case rel => exact ⟨((wrap64 (x27_2 + (rd t1664 x28_2)))), (wrap64 (x28_2 + 1)), (by first | rfl | (simp; done) | (simp [*]; done)), (by first | rfl | (simp; done) | (simp [*]; done)), H', ⟨by have := HJ20.out; have := HK2.out; have := HJ98.out; omega⟩, ⟨by (with_reducible repeat (first | apply Kd.R_alloc | apply Kd.R_drewN | apply Kd.R_drew)); exact HO_7.out⟩, ⟨by (with_reducible repeat (first | apply Kd.R_alloc | apply Kd.R_drewN | apply Kd.R_drew)); exact HO_8.out⟩, ⟨by (with_reducible repeat (first | apply Kd.R_alloc | apply Kd.R_drewN | apply Kd.R_drew)); exact HO_9.out⟩, ⟨by (with_reducible repeat (first | apply Kd.R_alloc | apply Kd.R_drewN | apply Kd.R_drew)); exact HO_12.out⟩, ⟨by (with_reducible repeat (first | apply Kd.R_alloc | apply Kd.R_drewN | apply Kd.R_drew)); exact HO_14.out⟩, ⟨by (with_reducible repeat (first | apply Kd.R_alloc | apply Kd.R_drewN | apply Kd.R_drew)); exact HO_16.out⟩, ⟨by (with_reducible repeat (first | apply Kd.R_alloc | apply Kd.R_drewN | apply Kd.R_drew)); exact HO_18.out⟩, ⟨by (with_reducible repeat (first | apply Kd.R_alloc | apply Kd.R_drewN | apply Kd.R_drew)); exact HO_20.out⟩, ⟨by repeat (first | (with_reducible first | exact HB.out | apply below_alloc | apply pw_below_drewN | apply below_drew1) | exact HB.out)⟩⟩
/-- THE ONE PURE STATEMENT of laws_FnLanes: yours. -/
def laws_FnLanes.Pure : Prop := ∀ (l0 : List Int) (l1 : List Int), l0.length ≤ maxLen → l0.length * 1 ≤ 140737488351232 → (∀ x ∈ l0, (Lit.int .u8 x).wf = true) → l1.length ≤ maxLen → l1.length * 1 ≤ 140737488351232 → (∀ x ∈ l1, (Lit.int .u8 x).wf = true) → ∃ k, laws_FnLanes.f k l0 l1 = some true
theorem laws_FnLanes.walk (P : laws_FnLanes.Pure) (a0 : Option Addr) (len0 cap0 : Nat) (z0 : List Int) (a1 : Option Addr) (len1 cap1 : Nat) (z1 : List Int) (w : World) (w0 : (a0 = none ∧ len0 = 0 ∧ cap0 = 0 ∧ z0 = []) ∨ ∃ x, a0 = some x ∧ len0 ≤ cap0 ∧ cap0 ≤ maxLen ∧ z0.length = cap0 ∧ (∀ i, i < z0.length → w.cell? (x.add i) = some (.int .u8 (z0.getD i 0))) ∧ ∀ n ∈ z0, (Lit.int .u8 n).wf = true) (y0 : len0 * 1 ≤ 140737488351232) (w1 : (a1 = none ∧ len1 = 0 ∧ cap1 = 0 ∧ z1 = []) ∨ ∃ x, a1 = some x ∧ len1 ≤ cap1 ∧ cap1 ≤ maxLen ∧ z1.length = cap1 ∧ (∀ i, i < z1.length → w.cell? (x.add i) = some (.int .u8 (z1.getD i 0))) ∧ ∀ n ∈ z1, (Lit.int .u8 n).wf = true) (y1 : len1 * 1 ≤ 140737488351232) :
  Calls Try.prog 26 #[.slice a0 len0 cap0, .slice a1 len1 cap1] w fun e w' => e = .returned (.bool true) ∧ Below w.heap.size w w' := by
 obtain ⟨l0, rfl, hr0, hm0, hw0, hc0⟩ := ReadsInt.ofRowC w0
 obtain ⟨l1, rfl, hr1, hm1, hw1, hc1⟩ := ReadsInt.ofRowC w1
 obtain ⟨k, h⟩ := P l0 l1 hm0 y0 hw0 hm1 y1 hw1
 refine (laws_FnLanes.calls k _ _ l0 _ _ l1 true w (Kd.C_of_reads (d := (0 : Int)) (h1 := fun _ => rfl) hr0) hc0 (Kd.C_of_reads (d := (0 : Int)) (h1 := fun _ => rfl) hr1) hc1 h rfl).mono ?_
 rintro e w' ⟨rfl, hd⟩
 exact ⟨rfl, hd⟩

end Go.Proofs.Ytpcjjminopdofaa.K
