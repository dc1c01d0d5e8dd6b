/- Plain lemmas on the printed functions: closed forms. No condition but the bounds of the arguments. -/
import Derived.Test.YtigffehcchhlkaaPFnExactWordOfx0
import Derived.Test.YtigffehcchhlkaaPFnExactWordOfx1
import Derived.Test.YtigffehcchhlkaaB0
namespace Go.Proofs.Ytigffehcchhlkaa.BwPFnExactWordOf
open Go.RowKit Go.Proofs.Ytigffehcchhlkaa.PFnExactWordOf Go.Proofs.YtigffehcchhlkaaW.PrintWords Go.Proofs.YtigffehcchhlkaaW.PrintLast Go.Proofs.Ytigffehcchhlkaa.Bx
set_option linter.unusedVariables false
set_option linter.unusedSimpArgs false

theorem sIn (n lo hi : Int) : spec_l00In.f n lo hi = some (decide (lo ≤ n ∧ n ≤ hi)) := by
  unfold spec_l00In.f
  by_cases h : n ≥ lo
  · rw [if_pos h]; congr 1; simp; omega
  · rw [if_neg h]; congr 1; simp; omega
theorem iIn (n lo hi : Int) : impl_within.f n lo hi = some (decide (lo ≤ n ∧ n ≤ hi)) := by
  unfold impl_within.f
  by_cases h : lo ≤ n
  · rw [if_pos h]; congr 1; simp; omega
  · rw [if_neg h]; congr 1; simp; omega
theorem sBits (b : Int) : spec_l01Bits.f b = some (decide (Bits b)) := by
  unfold spec_l01Bits.f Bits
  by_cases h : b = 4
  · simp [h]
  · by_cases h8 : b = 8
    · simp [h8]
    · simp only [if_neg h, if_neg h8]; congr 1
      by_cases h16 : b = 16 <;> simp [h, h8, h16]
theorem iBits (b : Int) : impl_isBits.f b = some (decide (Bits b)) := by
  unfold impl_isBits.f Bits
  by_cases h : b = 4
  · simp [h]
  · by_cases h8 : b = 8
    · simp [h8]
    · simp only [if_neg h, if_neg h8]; congr 1
      by_cases h16 : b = 16 <;> simp [h, h8, h16]
theorem iWrap {b : Int} (h : Bits b) (n : Int) : impl_wrapped.f b n = some (n % M b) := by
  unfold impl_wrapped.f
  rcases h with rfl | rfl | rfl
  · rw [if_pos (by omega), shl4, w_small (by omega), M4]; exact congrArg some (m4 n)
  · rw [if_pos (by omega), shl8, w_small (by omega), M8]; exact congrArg some (m8 n)
  · rw [if_pos (by omega), shl16, w_small (by omega), M16]; exact congrArg some (m16 n)
theorem sWrap {b : Int} (h : Bits b) (n : Int) : spec_l01Wrap.f b n = some (n % M b) := by
  unfold spec_l01Wrap.f
  rcases h with rfl | rfl | rfl
  · rw [u_small (by omega), if_pos (by omega), shl4, w_small (by omega), M4]; exact congrArg some (m4 n)
  · rw [u_small (by omega), if_pos (by omega), shl8, w_small (by omega), M8]; exact congrArg some (m8 n)
  · rw [u_small (by omega), if_pos (by omega), shl16, w_small (by omega), M16]; exact congrArg some (m16 n)
theorem shr3 (x : Int) : shr .i64 x 3 = x / 8 := rfl
theorem shr7 (x : Int) : shr .i64 x 7 = x / 128 := rfl
theorem shr15 (x : Int) : shr .i64 x 15 = x / 32768 := rfl
theorem sg_le {b x : Int} (h : Word b x) : -(M b / 2) ≤ sg b x ∧ sg b x < M b / 2 := by
  obtain ⟨hb, h0, h1⟩ := h
  unfold sg
  rcases hb with rfl | rfl | rfl
  · rw [M4] at *; split <;> omega
  · rw [M8] at *; split <;> omega
  · rw [M16] at *; split <;> omega
/-- A word is what its signed value wraps to. -/
theorem sg_mod {b x : Int} (h : Word b x) : sg b x % M b = x := by
  obtain ⟨hb, h0, h1⟩ := h
  unfold sg
  rcases hb with rfl | rfl | rfl
  · rw [M4] at *; split <;> omega
  · rw [M8] at *; split <;> omega
  · rw [M16] at *; split <;> omega
theorem mx_eq (a b : Int) : mx a b = if a < b then b else a := rfl
theorem mn_clamp (n lo hi : Int) (h : lo ≤ hi) : mx lo (mn n hi) = clamp n lo hi := by
  unfold mx mn clamp
  repeat' split
  all_goals omega
theorem shlB {b : Int} (h : Bits b) : shl .i64 1 b = M b := by rcases h with rfl | rfl | rfl <;> decide
theorem shlB1 {b : Int} (h : Bits b) : shl .i64 1 (b - 1) = M b / 2 := by rcases h with rfl | rfl | rfl <;> decide
theorem tdiv2 {n : Int} (h : 0 ≤ n) : Int.tdiv n 2 = n / 2 := Int.tdiv_eq_ediv_of_nonneg h
theorem tmod_b {y b : Int} (hy : 0 ≤ y) : Int.tmod y b = y % b := Int.tmod_eq_emod_of_nonneg hy
theorem b_bounds {b : Int} (h : Bits b) : 4 ≤ b ∧ b ≤ 16 := by rcases h with rfl | rfl | rfl <;> omega

/-- Is a number one of an operation. -/
def Op (op : Int) : Prop := 0 ≤ op ∧ op ≤ 17
instance (op : Int) : Decidable (Op op) := inferInstanceAs (Decidable (_ ∧ _))
def doOp (op b x y : Int) : Int × Bool := if Op op ∧ Word b x ∧ Word b y then (res op b x y, true) else (0, false)
/-- The result of a comparison, in closed form. -/
def cmpB (c b x y : Int) : Bool := if c = 0 then x == y else if c = 1 then x != y else if c = 2 then decide (x < y) else if c = 3 then decide (x ≤ y) else if c = 4 then decide (sg b x < sg b y) else decide (sg b x ≤ sg b y)
def testCmp (c b x y : Int) : Bool × Bool := if (0 ≤ c ∧ c ≤ 5) ∧ Word b x ∧ Word b y then (cmpB c b x y, true) else (false, false)
def signedOf (b x : Int) : Int × Bool := if Word b x then (sg b x, true) else (0, false)
def isVal (n : Int) : Prop := -1000000000 ≤ n ∧ n ≤ 1000000000
instance (n : Int) : Decidable (isVal n) := inferInstanceAs (Decidable (_ ∧ _))
theorem iVal (n : Int) : impl_isValue.f n = some (decide (isVal n)) := by unfold impl_isValue.f; rw [iIn]; rfl
def wordOf (b n : Int) : Int × Bool := if Bits b ∧ isVal n then (n % M b, true) else (0, false)
theorem iWordOf (b n : Int) : impl_WordOf.f b n = some (wordOf b n) := by
  unfold impl_WordOf.f wordOf
  rw [iBits, Option.bind_some]
  by_cases h : Bits b
  · by_cases h2 : isVal n
    · simp [h, h2, iVal, iWrap h]
    · simp [h, h2, iVal]
  · simp [h]
theorem sWordOf (b n : Int) : spec_WordOf.f b n = some (wordOf b n) := by
  unfold spec_WordOf.f wordOf
  rw [sBits, Option.bind_some]
  by_cases h : Bits b
  · by_cases h2 : isVal n
    · simp only [h, decide_true, if_true, sIn, Option.bind_some, true_and, h2]
      unfold isVal at h2
      simp [h2, sWrap h]
    · simp only [h, decide_true, if_true, sIn, Option.bind_some, true_and, h2]
      unfold isVal at h2
      simp [h2]
  · simp [h]
end Go.Proofs.Ytigffehcchhlkaa.BwPFnExactWordOf
