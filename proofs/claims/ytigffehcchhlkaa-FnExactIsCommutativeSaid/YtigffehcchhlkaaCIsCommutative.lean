/- Plain lemmas on the printed functions: closed forms. No condition but the bounds of the arguments. -/
import Derived.Test.YtigffehcchhlkaaPFnExactIsCommutativex0
import Derived.Test.YtigffehcchhlkaaPFnExactIsCommutativex1
import Derived.Test.YtigffehcchhlkaaB0
namespace Go.Proofs.Ytigffehcchhlkaa.BwPFnExactIsCommutative
open Go.RowKit Go.Proofs.Ytigffehcchhlkaa.PFnExactIsCommutative Go.Proofs.YtigffehcchhlkaaW.PrintWords Go.Proofs.YtigffehcchhlkaaW.PrintLast Go.Proofs.Ytigffehcchhlkaa.Bx
set_option linter.unusedVariables false
set_option linter.unusedSimpArgs false

theorem sIn (n lo hi : Int) : spec_l00In.f n lo hi = some (decide (lo ≤ n ∧ n ≤ hi)) := by
  unfold spec_l00In.f
  by_cases h : n ≥ lo
  · rw [if_pos h]; congr 1; simp; omega
  · rw [if_neg h]; congr 1; simp; omega
theorem iIn (n lo hi : Int) : impl_within.f n lo hi = some (decide (lo ≤ n ∧ n ≤ hi)) := by
  unfold impl_within.f
  by_cases h : lo ≤ n
  · rw [if_pos h]; congr 1; simp; omega
  · rw [if_neg h]; congr 1; simp; omega
theorem shr3 (x : Int) : shr .i64 x 3 = x / 8 := rfl
theorem shr7 (x : Int) : shr .i64 x 7 = x / 128 := rfl
theorem shr15 (x : Int) : shr .i64 x 15 = x / 32768 := rfl
theorem sg_le {b x : Int} (h : Word b x) : -(M b / 2) ≤ sg b x ∧ sg b x < M b / 2 := by
  obtain ⟨hb, h0, h1⟩ := h
  unfold sg
  rcases hb with rfl | rfl | rfl
  · rw [M4] at *; split <;> omega
  · rw [M8] at *; split <;> omega
  · rw [M16] at *; split <;> omega
/-- A word is what its signed value wraps to. -/
theorem sg_mod {b x : Int} (h : Word b x) : sg b x % M b = x := by
  obtain ⟨hb, h0, h1⟩ := h
  unfold sg
  rcases hb with rfl | rfl | rfl
  · rw [M4] at *; split <;> omega
  · rw [M8] at *; split <;> omega
  · rw [M16] at *; split <;> omega
theorem mx_eq (a b : Int) : mx a b = if a < b then b else a := rfl
theorem mn_clamp (n lo hi : Int) (h : lo ≤ hi) : mx lo (mn n hi) = clamp n lo hi := by
  unfold mx mn clamp
  repeat' split
  all_goals omega
theorem shlB {b : Int} (h : Bits b) : shl .i64 1 b = M b := by rcases h with rfl | rfl | rfl <;> decide
theorem shlB1 {b : Int} (h : Bits b) : shl .i64 1 (b - 1) = M b / 2 := by rcases h with rfl | rfl | rfl <;> decide
theorem tdiv2 {n : Int} (h : 0 ≤ n) : Int.tdiv n 2 = n / 2 := Int.tdiv_eq_ediv_of_nonneg h
theorem tmod_b {y b : Int} (hy : 0 ≤ y) : Int.tmod y b = y % b := Int.tmod_eq_emod_of_nonneg hy
theorem b_bounds {b : Int} (h : Bits b) : 4 ≤ b ∧ b ≤ 16 := by rcases h with rfl | rfl | rfl <;> omega

/-- Is a number one of an operation. -/
def Op (op : Int) : Prop := 0 ≤ op ∧ op ≤ 17
instance (op : Int) : Decidable (Op op) := inferInstanceAs (Decidable (_ ∧ _))
theorem sOp (op : Int) : spec_l01OpIs.f op = some (decide (Op op)) := by unfold spec_l01OpIs.f; rw [sIn]; rfl
def doOp (op b x y : Int) : Int × Bool := if Op op ∧ Word b x ∧ Word b y then (res op b x y, true) else (0, false)
/-- The result of a comparison, in closed form. -/
def cmpB (c b x y : Int) : Bool := if c = 0 then x == y else if c = 1 then x != y else if c = 2 then decide (x < y) else if c = 3 then decide (x ≤ y) else if c = 4 then decide (sg b x < sg b y) else decide (sg b x ≤ sg b y)
def testCmp (c b x y : Int) : Bool × Bool := if (0 ≤ c ∧ c ≤ 5) ∧ Word b x ∧ Word b y then (cmpB c b x y, true) else (false, false)
def signedOf (b x : Int) : Int × Bool := if Word b x then (sg b x, true) else (0, false)
def isVal (n : Int) : Prop := -1000000000 ≤ n ∧ n ≤ 1000000000
instance (n : Int) : Decidable (isVal n) := inferInstanceAs (Decidable (_ ∧ _))
def wordOf (b n : Int) : Int × Bool := if Bits b ∧ isVal n then (n % M b, true) else (0, false)
theorem iComm (op : Int) : impl_IsCommutative.f op = some (decide (op = 0 ∨ op = 14 ∨ (2 ≤ op ∧ op ≤ 11))) := by
  unfold impl_IsCommutative.f
  by_cases h : op = 0
  · simp [h]
  · by_cases h2 : op = 14
    · simp [h2]
    · simp [h, h2, iIn]
theorem sComm (op : Int) : spec_l01Commutes.f op = some (decide (op = 0 ∨ op = 14 ∨ (2 ≤ op ∧ op ≤ 11))) := by
  unfold spec_l01Commutes.f spec_l01OpIs.f
  rw [sIn]
  by_cases c1 : op = 1
  · subst c1; decide
  by_cases c2 : op = 12
  · subst c2; decide
  by_cases c3 : op = 13
  · subst c3; decide
  by_cases c4 : op = 15
  · subst c4; decide
  by_cases c5 : op = 16
  · subst c5; decide
  by_cases c6 : op = 17
  · subst c6; decide
  rw [if_neg c1, if_neg c2, if_neg c3, if_neg c4, if_neg c5, if_neg c6]
  simp only [Option.bind_some]
  exact congrArg some (decide_eq_decide.mpr (by omega))
theorem sComm' (op : Int) : spec_IsCommutative.f op = some (decide (op = 0 ∨ op = 14 ∨ (2 ≤ op ∧ op ≤ 11))) := by
  unfold spec_IsCommutative.f; rw [sComm]; rfl
end Go.Proofs.Ytigffehcchhlkaa.BwPFnExactIsCommutative
