/- Plain lemmas on the printed functions: closed forms. No condition but the bounds of the arguments. -/
import Derived.Test.YtigffehcchhlkaaPFnExactDoOpx0
import Derived.Test.YtigffehcchhlkaaPFnExactDoOpx1
import Derived.Test.YtigffehcchhlkaaPFnExactDoOpx2
import Derived.Test.YtigffehcchhlkaaB0
namespace Go.Proofs.Ytigffehcchhlkaa.BwPFnExactDoOp
open Go.RowKit Go.Proofs.Ytigffehcchhlkaa.PFnExactDoOp Go.Proofs.YtigffehcchhlkaaW.PrintWords Go.Proofs.YtigffehcchhlkaaW.PrintLast Go.Proofs.Ytigffehcchhlkaa.Bx
set_option linter.unusedVariables false
set_option linter.unusedSimpArgs false

theorem sIn (n lo hi : Int) : spec_l00In.f n lo hi = some (decide (lo ≤ n ∧ n ≤ hi)) := by
  unfold spec_l00In.f
  by_cases h : n ≥ lo
  · rw [if_pos h]; congr 1; simp; omega
  · rw [if_neg h]; congr 1; simp; omega
theorem iIn (n lo hi : Int) : impl_within.f n lo hi = some (decide (lo ≤ n ∧ n ≤ hi)) := by
  unfold impl_within.f
  by_cases h : lo ≤ n
  · rw [if_pos h]; congr 1; simp; omega
  · rw [if_neg h]; congr 1; simp; omega
theorem sBits (b : Int) : spec_l01Bits.f b = some (decide (Bits b)) := by
  unfold spec_l01Bits.f Bits
  by_cases h : b = 4
  · simp [h]
  · by_cases h8 : b = 8
    · simp [h8]
    · simp only [if_neg h, if_neg h8]; congr 1
      by_cases h16 : b = 16 <;> simp [h, h8, h16]
theorem iBits (b : Int) : impl_isBits.f b = some (decide (Bits b)) := by
  unfold impl_isBits.f Bits
  by_cases h : b = 4
  · simp [h]
  · by_cases h8 : b = 8
    · simp [h8]
    · simp only [if_neg h, if_neg h8]; congr 1
      by_cases h16 : b = 16 <;> simp [h, h8, h16]
theorem sWord (b x : Int) : spec_l01Word.f b x = some (decide (Word b x)) := by
  unfold spec_l01Word.f
  rw [sBits]
  by_cases h : Bits b
  · simp only [h, decide_true, Option.bind_some, if_true]
    have hb := h
    rcases hb with rfl | rfl | rfl
    · rw [u_small (by omega), if_pos (by omega), shl4, w_small (by omega), sIn]
      simp only [Option.bind_some]; exact congrArg some (decide_eq_decide.mpr ⟨fun hh => ⟨h, by rw [M4]; omega⟩, fun hh => by have := hh.2; rw [M4] at this; omega⟩)
    · rw [u_small (by omega), if_pos (by omega), shl8, w_small (by omega), sIn]
      simp only [Option.bind_some]; exact congrArg some (decide_eq_decide.mpr ⟨fun hh => ⟨h, by rw [M8]; omega⟩, fun hh => by have := hh.2; rw [M8] at this; omega⟩)
    · rw [u_small (by omega), if_pos (by omega), shl16, w_small (by omega), sIn]
      simp only [Option.bind_some]; exact congrArg some (decide_eq_decide.mpr ⟨fun hh => ⟨h, by rw [M16]; omega⟩, fun hh => by have := hh.2; rw [M16] at this; omega⟩)
  · simp [Word, h]
theorem iWord (b x : Int) : impl_IsWord.f b x = some (decide (Word b x)) := by
  unfold impl_IsWord.f
  rw [iBits]
  by_cases h : Bits b
  · simp only [h, decide_true, Option.bind_some, if_true]
    have hb := h
    rcases hb with rfl | rfl | rfl
    · rw [if_pos (by omega), shl4, w_small (by omega), iIn]
      simp only [Option.bind_some]; exact congrArg some (decide_eq_decide.mpr ⟨fun hh => ⟨h, by rw [M4]; omega⟩, fun hh => by have := hh.2; rw [M4] at this; omega⟩)
    · rw [if_pos (by omega), shl8, w_small (by omega), iIn]
      simp only [Option.bind_some]; exact congrArg some (decide_eq_decide.mpr ⟨fun hh => ⟨h, by rw [M8]; omega⟩, fun hh => by have := hh.2; rw [M8] at this; omega⟩)
    · rw [if_pos (by omega), shl16, w_small (by omega), iIn]
      simp only [Option.bind_some]; exact congrArg some (decide_eq_decide.mpr ⟨fun hh => ⟨h, by rw [M16]; omega⟩, fun hh => by have := hh.2; rw [M16] at this; omega⟩)
  · simp [Word, h]
theorem iWrap {b : Int} (h : Bits b) (n : Int) : impl_wrapped.f b n = some (n % M b) := by
  unfold impl_wrapped.f
  rcases h with rfl | rfl | rfl
  · rw [if_pos (by omega), shl4, w_small (by omega), M4]; exact congrArg some (m4 n)
  · rw [if_pos (by omega), shl8, w_small (by omega), M8]; exact congrArg some (m8 n)
  · rw [if_pos (by omega), shl16, w_small (by omega), M16]; exact congrArg some (m16 n)
theorem sWrap {b : Int} (h : Bits b) (n : Int) : spec_l01Wrap.f b n = some (n % M b) := by
  unfold spec_l01Wrap.f
  rcases h with rfl | rfl | rfl
  · rw [u_small (by omega), if_pos (by omega), shl4, w_small (by omega), M4]; exact congrArg some (m4 n)
  · rw [u_small (by omega), if_pos (by omega), shl8, w_small (by omega), M8]; exact congrArg some (m8 n)
  · rw [u_small (by omega), if_pos (by omega), shl16, w_small (by omega), M16]; exact congrArg some (m16 n)
theorem shr3 (x : Int) : shr .i64 x 3 = x / 8 := rfl
theorem shr7 (x : Int) : shr .i64 x 7 = x / 128 := rfl
theorem shr15 (x : Int) : shr .i64 x 15 = x / 32768 := rfl
theorem iSg {b x : Int} (h : Word b x) : impl_signedOf.f b x = some (sg b x) := by
  obtain ⟨hb, h0, h1⟩ := h
  unfold impl_signedOf.f sg
  rcases hb with rfl | rfl | rfl
  · rw [M4] at h1 ⊢; rw [w_small (n := 4 - 1) (by omega), show (4 - 1 : Int) = 3 from rfl, if_pos (by omega), shl3, shl4]
    by_cases c : x < 8
    · rw [if_pos c, if_pos (by omega)]
    · rw [if_neg c, if_pos (by omega), if_neg (by omega), w_small (by omega)]
  · rw [M8] at h1 ⊢; rw [w_small (n := 8 - 1) (by omega), show (8 - 1 : Int) = 7 from rfl, if_pos (by omega), shl7, shl8]
    by_cases c : x < 128
    · rw [if_pos c, if_pos (by omega)]
    · rw [if_neg c, if_pos (by omega), if_neg (by omega), w_small (by omega)]
  · rw [M16] at h1 ⊢; rw [w_small (n := 16 - 1) (by omega), show (16 - 1 : Int) = 15 from rfl, if_pos (by omega), shl15, shl16]
    by_cases c : x < 32768
    · rw [if_pos c, if_pos (by omega)]
    · rw [if_neg c, if_pos (by omega), if_neg (by omega), w_small (by omega)]
theorem sSg {b x : Int} (h : Word b x) : spec_l01Signed.f b x = some (sg b x) := by
  obtain ⟨hb, h0, h1⟩ := h
  unfold spec_l01Signed.f sg
  rcases hb with rfl | rfl | rfl
  · rw [M4] at h1 ⊢; rw [w_small (n := 4 - 1) (by omega), show (4 - 1 : Int) = 3 from rfl, u_small (n := 3) (by omega), if_pos (by omega), shr3, u_small (n := 4) (by omega), shl4]
    by_cases c : x < 8
    · rw [if_neg (by omega), if_pos (by omega)]
    · rw [if_pos (by omega), if_pos (by omega), if_neg (by omega), w_small (by omega)]
  · rw [M8] at h1 ⊢; rw [w_small (n := 8 - 1) (by omega), show (8 - 1 : Int) = 7 from rfl, u_small (n := 7) (by omega), if_pos (by omega), shr7, u_small (n := 8) (by omega), shl8]
    by_cases c : x < 128
    · rw [if_neg (by omega), if_pos (by omega)]
    · rw [if_pos (by omega), if_pos (by omega), if_neg (by omega), w_small (by omega)]
  · rw [M16] at h1 ⊢; rw [w_small (n := 16 - 1) (by omega), show (16 - 1 : Int) = 15 from rfl, u_small (n := 15) (by omega), if_pos (by omega), shr15, u_small (n := 16) (by omega), shl16]
    by_cases c : x < 32768
    · rw [if_neg (by omega), if_pos (by omega)]
    · rw [if_pos (by omega), if_pos (by omega), if_neg (by omega), w_small (by omega)]
theorem sg_le {b x : Int} (h : Word b x) : -(M b / 2) ≤ sg b x ∧ sg b x < M b / 2 := by
  obtain ⟨hb, h0, h1⟩ := h
  unfold sg
  rcases hb with rfl | rfl | rfl
  · rw [M4] at *; split <;> omega
  · rw [M8] at *; split <;> omega
  · rw [M16] at *; split <;> omega
/-- A word is what its signed value wraps to. -/
theorem sg_mod {b x : Int} (h : Word b x) : sg b x % M b = x := by
  obtain ⟨hb, h0, h1⟩ := h
  unfold sg
  rcases hb with rfl | rfl | rfl
  · rw [M4] at *; split <;> omega
  · rw [M8] at *; split <;> omega
  · rw [M16] at *; split <;> omega
theorem mx_eq (a b : Int) : mx a b = if a < b then b else a := rfl
theorem mn_clamp (n lo hi : Int) (h : lo ≤ hi) : mx lo (mn n hi) = clamp n lo hi := by
  unfold mx mn clamp
  repeat' split
  all_goals omega
theorem iBounded (n lo hi : Int) (h : lo ≤ hi) : impl_bounded.f n lo hi = some (clamp n lo hi) := by
  unfold impl_bounded.f; rw [mn_clamp n lo hi h]
theorem sMin (a b : Int) : spec_l00Min.f a b = some (if a < b then a else b) := by unfold spec_l00Min.f; split <;> rfl
theorem sMax (a b : Int) : spec_l00Max.f a b = some (if a > b then a else b) := by unfold spec_l00Max.f; split <;> rfl
theorem sBetween (n lo hi : Int) (h : lo ≤ hi) : spec_l01Between.f n lo hi = some (clamp n lo hi) := by
  unfold spec_l01Between.f
  rw [sMax, Option.bind_some, sMin, Option.bind_some]
  unfold clamp
  congr 1
  repeat' split
  all_goals omega
theorem shlB {b : Int} (h : Bits b) : shl .i64 1 b = M b := by rcases h with rfl | rfl | rfl <;> decide
theorem shlB1 {b : Int} (h : Bits b) : shl .i64 1 (b - 1) = M b / 2 := by rcases h with rfl | rfl | rfl <;> decide
theorem iNearest {b : Int} (h : Bits b) (n : Int) : impl_nearest.f b n = some (clamp n (-(M b / 2)) (M b / 2 - 1) % M b) := by
  have hM := @M_pos b
  have hL := @M_le b
  have hb1 : wrap64 (b - 1) = b - 1 := by rcases h with rfl | rfl | rfl <;> exact w_small (by omega)
  have h0 : 0 ≤ b - 1 := by rcases h with rfl | rfl | rfl <;> omega
  have h2 : 2 ≤ M b := by rcases h with rfl | rfl | rfl <;> decide
  unfold impl_nearest.f
  rw [hb1, if_pos h0, shlB1 h, w_small (by omega), w_small (by omega), iBounded _ _ _ (by omega), Option.bind_some, iWrap h, Option.bind_some]
theorem tdiv2 {n : Int} (h : 0 ≤ n) : Int.tdiv n 2 = n / 2 := Int.tdiv_eq_ediv_of_nonneg h
theorem tmod_b {y b : Int} (hy : 0 ≤ y) : Int.tmod y b = y % b := Int.tmod_eq_emod_of_nonneg hy
theorem b_bounds {b : Int} (h : Bits b) : 4 ≤ b ∧ b ≤ 16 := by rcases h with rfl | rfl | rfl <;> omega

theorem iResult {op b x y : Int} (hop : 0 ≤ op ∧ op ≤ 17) (hx : Word b x) (hy : Word b y) : impl_result.f op b x y = some (res op b x y) := by
  have hb := hx.1
  have hM := @M_pos b
  have hL := @M_le b
  have hbb := b_bounds hb
  have hx2 := hx.2
  have hy2 := hy.2
  have hk0 : 0 ≤ y % b := Int.emod_nonneg _ (by omega)
  have h2 : 2 ≤ M b := by rcases hb with rfl | rfl | rfl <;> decide
  have s1 := sg_le hx
  have s2 := sg_le hy
  have exy : -9223372036854775808 ≤ x * y ∧ x * y < 9223372036854775808 := by
    have h1 : x * y ≤ 65536 * 65536 := Int.mul_le_mul (by omega) (by omega) (by omega) (by omega)
    have h2 : 0 ≤ x * y := Int.mul_nonneg (by omega) (by omega)
    omega
  unfold impl_result.f res
  rw [if_pos (by omega), if_neg (by omega), iSg hx, iSg hy]
  simp only [Option.bind_some]
  by_cases c0 : op = 0
  · rw [if_pos c0, if_pos c0, w_small (by omega), iWrap hb]; rfl
  rw [if_neg c0, if_neg c0]
  by_cases c1 : op = 1
  · rw [if_pos c1, if_pos c1, w_small (by omega), iWrap hb]; rfl
  rw [if_neg c1, if_neg c1]
  by_cases c2 : op = 2
  · rw [if_pos c2, if_pos c2, w_small exy, iWrap hb]; rfl
  rw [if_neg c2, if_neg c2]
  by_cases c3 : op = 3
  · rw [if_pos c3, if_pos c3]
  rw [if_neg c3, if_neg c3]
  by_cases c4 : op = 4
  · rw [if_pos c4, if_pos c4]
  rw [if_neg c4, if_neg c4]
  by_cases c5 : op = 5
  · rw [if_pos c5, if_pos c5]
  rw [if_neg c5, if_neg c5]
  by_cases c6 : op = 6
  · rw [if_pos c6, if_pos c6]; unfold mn; congr 1; repeat' split
    all_goals omega
  rw [if_neg c6, if_neg c6]
  by_cases c7 : op = 7
  · rw [if_pos c7, if_pos c7]; unfold mx; congr 1; repeat' split
    all_goals omega
  rw [if_neg c7, if_neg c7]
  by_cases c8 : op = 8
  · rw [if_pos c8, if_pos c8]; unfold impl_pick.f
    by_cases c : sg b x ≤ sg b y <;> simp [c]
  rw [if_neg c8, if_neg c8]
  by_cases c9 : op = 9
  · rw [if_pos c9, if_pos c9]; unfold impl_pick.f
    by_cases c : sg b x ≥ sg b y <;> simp [c]
  rw [if_neg c9, if_neg c9]
  by_cases c10 : op = 10
  · rw [if_pos c10, if_pos c10, shlB hb, w_small (by omega), w_small (by omega), iBounded _ _ _ (by omega)]; rfl
  rw [if_neg c10, if_neg c10]
  by_cases c11 : op = 11
  · rw [if_pos c11, if_pos c11, w_small (by omega), iNearest hb]; rfl
  rw [if_neg c11, if_neg c11]
  by_cases c12 : op = 12
  · rw [if_pos c12, if_pos c12, shlB hb, w_small (by omega), w_small (by omega), iBounded _ _ _ (by omega)]; rfl
  rw [if_neg c12, if_neg c12]
  by_cases c13 : op = 13
  · rw [if_pos c13, if_pos c13, w_small (by omega), iNearest hb]; rfl
  rw [if_neg c13, if_neg c13]
  by_cases c14 : op = 14
  · rw [if_pos c14, if_pos c14, w_small (n := x + y) (by omega), w_small (n := x + y + 1) (by omega), tdiv2 (by omega), w_small (by omega)]
  rw [if_neg c14, if_neg c14]
  rw [tmod_b hy2.1]
  by_cases c15 : op = 15
  · rw [if_pos c15, if_pos c15, if_pos hk0, iWrap hb]; rfl
  rw [if_neg c15, if_neg c15]
  by_cases c16 : op = 16
  · rw [if_pos c16, if_pos c16, if_pos hk0]
  rw [if_neg c16, if_neg c16, if_pos hk0, iWrap hb]; rfl

theorem sResult {op b x y : Int} (hop : 0 ≤ op ∧ op ≤ 17) (hx : Word b x) (hy : Word b y) : spec_l01Do.f op b x y = some (res op b x y) := by
  have hb := hx.1
  have hM := @M_pos b
  have hL := @M_le b
  have hbb := b_bounds hb
  have hx2 := hx.2
  have hy2 := hy.2
  have hk0 : 0 ≤ y % b := Int.emod_nonneg _ (by omega)
  have hk1 : y % b < b := Int.emod_lt_of_pos _ (by omega)
  have h2 : 2 ≤ M b := by rcases hb with rfl | rfl | rfl <;> decide
  have s1 := sg_le hx
  have s2 := sg_le hy
  have exy : -9223372036854775808 ≤ x * y ∧ x * y < 9223372036854775808 := by
    have h1 : x * y ≤ 65536 * 65536 := Int.mul_le_mul (by omega) (by omega) (by omega) (by omega)
    have h2 : 0 ≤ x * y := Int.mul_nonneg (by omega) (by omega)
    omega
  unfold spec_l01Do.f res
  rw [u_small (n := b) (by omega), if_pos (by omega), w_small (n := b - 1) (by omega), u_small (n := b - 1) (by omega), if_pos (by omega), sSg hx, sSg hy]
  simp only [Option.bind_some]
  rw [if_neg (by omega)]
  by_cases c0 : op = 0
  · rw [if_pos c0, if_pos c0, w_small (by omega), sWrap hb]; rfl
  rw [if_neg c0, if_neg c0]
  by_cases c1 : op = 1
  · rw [if_pos c1, if_pos c1, w_small (by omega), sWrap hb]; rfl
  rw [if_neg c1, if_neg c1]
  by_cases c2 : op = 2
  · rw [if_pos c2, if_pos c2, w_small exy, sWrap hb]; rfl
  rw [if_neg c2, if_neg c2]
  by_cases c3 : op = 3
  · rw [if_pos c3, if_pos c3]
  rw [if_neg c3, if_neg c3]
  by_cases c4 : op = 4
  · rw [if_pos c4, if_pos c4]
  rw [if_neg c4, if_neg c4]
  by_cases c5 : op = 5
  · rw [if_pos c5, if_pos c5]
  rw [if_neg c5, if_neg c5]
  by_cases c6 : op = 6
  · rw [if_pos c6, if_pos c6, sMin]; rfl
  rw [if_neg c6, if_neg c6]
  by_cases c7 : op = 7
  · rw [if_pos c7, if_pos c7, sMax]; rfl
  rw [if_neg c7, if_neg c7]
  by_cases c8 : op = 8
  · rw [if_pos c8, if_pos c8, sMin, Option.bind_some, sWrap hb, Option.bind_some]
    congr 1
    by_cases c : sg b x ≤ sg b y
    · rw [if_pos c]
      by_cases d : sg b x < sg b y
      · rw [if_pos d, sg_mod hx]
      · rw [if_neg d, show sg b y = sg b x by omega, sg_mod hx]
    · rw [if_neg c, if_neg (by omega), sg_mod hy]
  rw [if_neg c8, if_neg c8]
  by_cases c9 : op = 9
  · rw [if_pos c9, if_pos c9, sMax, Option.bind_some, sWrap hb, Option.bind_some]
    congr 1
    by_cases c : sg b x ≥ sg b y
    · rw [if_pos c]
      by_cases d : sg b x > sg b y
      · rw [if_pos d, sg_mod hx]
      · rw [if_neg d, show sg b y = sg b x by omega, sg_mod hx]
    · rw [if_neg c, if_neg (by omega), sg_mod hy]
  rw [if_neg c9, if_neg c9]
  by_cases c10 : op = 10
  · rw [if_pos c10, if_pos c10, shlB hb, w_small (by omega), w_small (by omega), sMin, Option.bind_some]
    unfold clamp; congr 1; repeat' split
    all_goals omega
  rw [if_neg c10, if_neg c10]
  by_cases c11 : op = 11
  · rw [if_pos c11, if_pos c11, w_small (by omega), shlB1 hb, w_small (by omega), w_small (by omega), sBetween _ _ _ (by omega), Option.bind_some, sWrap hb]; rfl
  rw [if_neg c11, if_neg c11]
  by_cases c12 : op = 12
  · rw [if_pos c12, if_pos c12, w_small (by omega), sMax, Option.bind_some]
    unfold clamp; congr 1; repeat' split
    all_goals omega
  rw [if_neg c12, if_neg c12]
  by_cases c13 : op = 13
  · rw [if_pos c13, if_pos c13, w_small (by omega), shlB1 hb, w_small (by omega), w_small (by omega), sBetween _ _ _ (by omega), Option.bind_some, sWrap hb]; rfl
  rw [if_neg c13, if_neg c13]
  by_cases c14 : op = 14
  · rw [if_pos c14, if_pos c14, w_small (n := x + y) (by omega), w_small (n := x + y + 1) (by omega), tdiv2 (by omega), w_small (by omega)]
  rw [if_neg c14, if_neg c14]
  rw [tmod_b hy2.1, u_small (n := y % b) (by omega)]
  by_cases c15 : op = 15
  · rw [if_pos c15, if_pos c15, if_pos hk0, sWrap hb]; rfl
  rw [if_neg c15, if_neg c15]
  by_cases c16 : op = 16
  · rw [if_pos c16, if_pos c16, if_pos hk0]
  rw [if_neg c16, if_neg c16, if_pos hk0, sWrap hb]; rfl
/-- Is a number one of an operation. -/
def Op (op : Int) : Prop := 0 ≤ op ∧ op ≤ 17
instance (op : Int) : Decidable (Op op) := inferInstanceAs (Decidable (_ ∧ _))
theorem iOp (op : Int) : impl_isOp.f op = some (decide (Op op)) := by unfold impl_isOp.f; rw [iIn]; rfl
theorem sOp (op : Int) : spec_l01OpIs.f op = some (decide (Op op)) := by unfold spec_l01OpIs.f; rw [sIn]; rfl
def doOp (op b x y : Int) : Int × Bool := if Op op ∧ Word b x ∧ Word b y then (res op b x y, true) else (0, false)
theorem iDoOp (op b x y : Int) : impl_DoOp.f op b x y = some (doOp op b x y) := by
  unfold impl_DoOp.f doOp
  rw [iOp, Option.bind_some]
  by_cases h : Op op
  · simp only [h, decide_true, if_true, iWord, Option.bind_some, true_and]
    by_cases h1 : Word b x
    · simp only [h1, decide_true, if_true, iWord, Option.bind_some, true_and]
      by_cases h2 : Word b y
      · simp only [h2, decide_true, if_true, iResult h h1 h2, Option.bind_some]
      · simp [h2]
    · simp [h1]
  · simp [h]
theorem sDoOp (op b x y : Int) : spec_DoOp.f op b x y = some (doOp op b x y) := by
  unfold spec_DoOp.f doOp
  rw [sOp, Option.bind_some]
  by_cases h : Op op
  · simp only [h, decide_true, if_true, sWord, Option.bind_some, true_and]
    by_cases h1 : Word b x
    · simp only [h1, decide_true, if_true, sWord, Option.bind_some, true_and]
      by_cases h2 : Word b y
      · simp only [h2, decide_true, if_true, sResult h h1 h2, Option.bind_some]
      · simp [h2]
    · simp [h1]
  · simp [h]
/-- The result of a comparison, in closed form. -/
def cmpB (c b x y : Int) : Bool := if c = 0 then x == y else if c = 1 then x != y else if c = 2 then decide (x < y) else if c = 3 then decide (x ≤ y) else if c = 4 then decide (sg b x < sg b y) else decide (sg b x ≤ sg b y)
def testCmp (c b x y : Int) : Bool × Bool := if (0 ≤ c ∧ c ≤ 5) ∧ Word b x ∧ Word b y then (cmpB c b x y, true) else (false, false)
def signedOf (b x : Int) : Int × Bool := if Word b x then (sg b x, true) else (0, false)
def isVal (n : Int) : Prop := -1000000000 ≤ n ∧ n ≤ 1000000000
instance (n : Int) : Decidable (isVal n) := inferInstanceAs (Decidable (_ ∧ _))
def wordOf (b n : Int) : Int × Bool := if Bits b ∧ isVal n then (n % M b, true) else (0, false)
end Go.Proofs.Ytigffehcchhlkaa.BwPFnExactDoOp
