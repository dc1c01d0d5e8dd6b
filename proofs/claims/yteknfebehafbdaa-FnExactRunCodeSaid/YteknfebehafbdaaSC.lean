/- The reference's functions on words in closed form. No condition but the bounds of the arguments. -/
import Derived.Test.YteknfebehafbdaaK0
import Derived.Test.YteknfebehafbdaaB0
import Derived.Test.YteknfebehafbdaaSB
import Derived.Test.YteknfebehafbdaaSA
import Derived.Test.YteknfebehafbdaaK1
import Derived.Test.YteknfebehafbdaaK15
import Derived.Test.YteknfebehafbdaaK16
namespace Go.Proofs.Yteknfebehafbdaa.V
open Go.RowKit Go.Proofs.Yteknfebehafbdaa.K Go.Proofs.Yteknfebehafbdaa.Bx Go.Proofs.YteknfebehafbdaaW.PrintWords Go.Proofs.YteknfebehafbdaaW.PrintLast
set_option linter.unusedVariables false
set_option linter.unusedSimpArgs false

theorem sMin (a b : Int) : spec_l00Min.f a b = some (if a < b then a else b) := by unfold spec_l00Min.f; split <;> rfl
theorem sMax (a b : Int) : spec_l00Max.f a b = some (if a > b then a else b) := by unfold spec_l00Max.f; split <;> rfl
theorem sBetween (n lo hi : Int) (h : lo ≤ hi) : spec_l01Between.f n lo hi = some (clamp n lo hi) := by
  unfold spec_l01Between.f
  rw [sMax, Option.bind_some, sMin, Option.bind_some]
  unfold clamp
  congr 1
  repeat' split
  all_goals omega
theorem sResult {op b x y : Int} (hop : 0 ≤ op ∧ op ≤ 17) (hx : Word b x) (hy : Word b y) : spec_l01Do.f op b x y = some (res op b x y) := by
  have hb := hx.1
  have hM := @M_pos b
  have hL := @M_le b
  have hbb := b_bounds hb
  have hx2 := hx.2
  have hy2 := hy.2
  have hk0 : 0 ≤ y % b := Int.emod_nonneg _ (by omega)
  have hk1 : y % b < b := Int.emod_lt_of_pos _ (by omega)
  have h2 : 2 ≤ M b := by rcases hb with rfl | rfl | rfl <;> decide
  have s1 := sg_le hx
  have s2 := sg_le hy
  have exy : -9223372036854775808 ≤ x * y ∧ x * y < 9223372036854775808 := by
    have h1 : x * y ≤ 65536 * 65536 := Int.mul_le_mul (by omega) (by omega) (by omega) (by omega)
    have h2 : 0 ≤ x * y := Int.mul_nonneg (by omega) (by omega)
    omega
  unfold spec_l01Do.f res
  rw [u_small (n := b) (by omega), if_pos (by omega), w_small (n := b - 1) (by omega), u_small (n := b - 1) (by omega), if_pos (by omega), sSg hx, sSg hy]
  simp only [Option.bind_some]
  rw [if_neg (by omega)]
  by_cases c0 : op = 0
  · rw [if_pos c0, if_pos c0, w_small (by omega), sWrap hb]; rfl
  rw [if_neg c0, if_neg c0]
  by_cases c1 : op = 1
  · rw [if_pos c1, if_pos c1, w_small (by omega), sWrap hb]; rfl
  rw [if_neg c1, if_neg c1]
  by_cases c2 : op = 2
  · rw [if_pos c2, if_pos c2, w_small exy, sWrap hb]; rfl
  rw [if_neg c2, if_neg c2]
  by_cases c3 : op = 3
  · rw [if_pos c3, if_pos c3]
  rw [if_neg c3, if_neg c3]
  by_cases c4 : op = 4
  · rw [if_pos c4, if_pos c4]
  rw [if_neg c4, if_neg c4]
  by_cases c5 : op = 5
  · rw [if_pos c5, if_pos c5]
  rw [if_neg c5, if_neg c5]
  by_cases c6 : op = 6
  · rw [if_pos c6, if_pos c6, sMin]; rfl
  rw [if_neg c6, if_neg c6]
  by_cases c7 : op = 7
  · rw [if_pos c7, if_pos c7, sMax]; rfl
  rw [if_neg c7, if_neg c7]
  by_cases c8 : op = 8
  · rw [if_pos c8, if_pos c8, sMin, Option.bind_some, sWrap hb, Option.bind_some]
    congr 1
    by_cases c : sg b x ≤ sg b y
    · rw [if_pos c]
      by_cases d : sg b x < sg b y
      · rw [if_pos d, sg_mod hx]
      · rw [if_neg d, show sg b y = sg b x by omega, sg_mod hx]
    · rw [if_neg c, if_neg (by omega), sg_mod hy]
  rw [if_neg c8, if_neg c8]
  by_cases c9 : op = 9
  · rw [if_pos c9, if_pos c9, sMax, Option.bind_some, sWrap hb, Option.bind_some]
    congr 1
    by_cases c : sg b x ≥ sg b y
    · rw [if_pos c]
      by_cases d : sg b x > sg b y
      · rw [if_pos d, sg_mod hx]
      · rw [if_neg d, show sg b y = sg b x by omega, sg_mod hx]
    · rw [if_neg c, if_neg (by omega), sg_mod hy]
  rw [if_neg c9, if_neg c9]
  by_cases c10 : op = 10
  · rw [if_pos c10, if_pos c10, shlB hb, w_small (by omega), w_small (by omega), sMin, Option.bind_some]
    unfold clamp; congr 1; repeat' split
    all_goals omega
  rw [if_neg c10, if_neg c10]
  by_cases c11 : op = 11
  · rw [if_pos c11, if_pos c11, w_small (by omega), shlB1 hb, w_small (by omega), w_small (by omega), sBetween _ _ _ (by omega), Option.bind_some, sWrap hb]; rfl
  rw [if_neg c11, if_neg c11]
  by_cases c12 : op = 12
  · rw [if_pos c12, if_pos c12, w_small (by omega), sMax, Option.bind_some]
    unfold clamp; congr 1; repeat' split
    all_goals omega
  rw [if_neg c12, if_neg c12]
  by_cases c13 : op = 13
  · rw [if_pos c13, if_pos c13, w_small (by omega), shlB1 hb, w_small (by omega), w_small (by omega), sBetween _ _ _ (by omega), Option.bind_some, sWrap hb]; rfl
  rw [if_neg c13, if_neg c13]
  by_cases c14 : op = 14
  · rw [if_pos c14, if_pos c14, w_small (n := x + y) (by omega), w_small (n := x + y + 1) (by omega), tdiv2 (by omega), w_small (by omega)]
  rw [if_neg c14, if_neg c14]
  rw [tmod_b hy2.1, u_small (n := y % b) (by omega)]
  by_cases c15 : op = 15
  · rw [if_pos c15, if_pos c15, if_pos hk0, sWrap hb]; rfl
  rw [if_neg c15, if_neg c15]
  by_cases c16 : op = 16
  · rw [if_pos c16, if_pos c16, if_pos hk0]
  rw [if_neg c16, if_neg c16, if_pos hk0, sWrap hb]; rfl
theorem sOp (op : Int) : spec_l01OpIs.f op = some (decide (OpOk op)) := by unfold spec_l01OpIs.f; rw [sIn]; rfl
end Go.Proofs.Yteknfebehafbdaa.V
