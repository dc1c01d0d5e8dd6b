/- Plain lemmas on the printed functions: closed forms. No condition but the bounds of the arguments. -/
import Derived.Test.YtigffehcchhlkaaPFnExactTestCmpx0
import Derived.Test.YtigffehcchhlkaaPFnExactTestCmpx1
import Derived.Test.YtigffehcchhlkaaB0
namespace Go.Proofs.Ytigffehcchhlkaa.BwPFnExactTestCmp
open Go.RowKit Go.Proofs.Ytigffehcchhlkaa.PFnExactTestCmp Go.Proofs.YtigffehcchhlkaaW.PrintWords Go.Proofs.YtigffehcchhlkaaW.PrintLast Go.Proofs.Ytigffehcchhlkaa.Bx
set_option linter.unusedVariables false
set_option linter.unusedSimpArgs false

theorem sIn (n lo hi : Int) : spec_l00In.f n lo hi = some (decide (lo ≤ n ∧ n ≤ hi)) := by
  unfold spec_l00In.f
  by_cases h : n ≥ lo
  · rw [if_pos h]; congr 1; simp; omega
  · rw [if_neg h]; congr 1; simp; omega
theorem iIn (n lo hi : Int) : impl_within.f n lo hi = some (decide (lo ≤ n ∧ n ≤ hi)) := by
  unfold impl_within.f
  by_cases h : lo ≤ n
  · rw [if_pos h]; congr 1; simp; omega
  · rw [if_neg h]; congr 1; simp; omega
theorem sBits (b : Int) : spec_l01Bits.f b = some (decide (Bits b)) := by
  unfold spec_l01Bits.f Bits
  by_cases h : b = 4
  · simp [h]
  · by_cases h8 : b = 8
    · simp [h8]
    · simp only [if_neg h, if_neg h8]; congr 1
      by_cases h16 : b = 16 <;> simp [h, h8, h16]
theorem iBits (b : Int) : impl_isBits.f b = some (decide (Bits b)) := by
  unfold impl_isBits.f Bits
  by_cases h : b = 4
  · simp [h]
  · by_cases h8 : b = 8
    · simp [h8]
    · simp only [if_neg h, if_neg h8]; congr 1
      by_cases h16 : b = 16 <;> simp [h, h8, h16]
theorem sWord (b x : Int) : spec_l01Word.f b x = some (decide (Word b x)) := by
  unfold spec_l01Word.f
  rw [sBits]
  by_cases h : Bits b
  · simp only [h, decide_true, Option.bind_some, if_true]
    have hb := h
    rcases hb with rfl | rfl | rfl
    · rw [u_small (by omega), if_pos (by omega), shl4, w_small (by omega), sIn]
      simp only [Option.bind_some]; exact congrArg some (decide_eq_decide.mpr ⟨fun hh => ⟨h, by rw [M4]; omega⟩, fun hh => by have := hh.2; rw [M4] at this; omega⟩)
    · rw [u_small (by omega), if_pos (by omega), shl8, w_small (by omega), sIn]
      simp only [Option.bind_some]; exact congrArg some (decide_eq_decide.mpr ⟨fun hh => ⟨h, by rw [M8]; omega⟩, fun hh => by have := hh.2; rw [M8] at this; omega⟩)
    · rw [u_small (by omega), if_pos (by omega), shl16, w_small (by omega), sIn]
      simp only [Option.bind_some]; exact congrArg some (decide_eq_decide.mpr ⟨fun hh => ⟨h, by rw [M16]; omega⟩, fun hh => by have := hh.2; rw [M16] at this; omega⟩)
  · simp [Word, h]
theorem iWord (b x : Int) : impl_IsWord.f b x = some (decide (Word b x)) := by
  unfold impl_IsWord.f
  rw [iBits]
  by_cases h : Bits b
  · simp only [h, decide_true, Option.bind_some, if_true]
    have hb := h
    rcases hb with rfl | rfl | rfl
    · rw [if_pos (by omega), shl4, w_small (by omega), iIn]
      simp only [Option.bind_some]; exact congrArg some (decide_eq_decide.mpr ⟨fun hh => ⟨h, by rw [M4]; omega⟩, fun hh => by have := hh.2; rw [M4] at this; omega⟩)
    · rw [if_pos (by omega), shl8, w_small (by omega), iIn]
      simp only [Option.bind_some]; exact congrArg some (decide_eq_decide.mpr ⟨fun hh => ⟨h, by rw [M8]; omega⟩, fun hh => by have := hh.2; rw [M8] at this; omega⟩)
    · rw [if_pos (by omega), shl16, w_small (by omega), iIn]
      simp only [Option.bind_some]; exact congrArg some (decide_eq_decide.mpr ⟨fun hh => ⟨h, by rw [M16]; omega⟩, fun hh => by have := hh.2; rw [M16] at this; omega⟩)
  · simp [Word, h]
theorem shr3 (x : Int) : shr .i64 x 3 = x / 8 := rfl
theorem shr7 (x : Int) : shr .i64 x 7 = x / 128 := rfl
theorem shr15 (x : Int) : shr .i64 x 15 = x / 32768 := rfl
theorem iSg {b x : Int} (h : Word b x) : impl_signedOf.f b x = some (sg b x) := by
  obtain ⟨hb, h0, h1⟩ := h
  unfold impl_signedOf.f sg
  rcases hb with rfl | rfl | rfl
  · rw [M4] at h1 ⊢; rw [w_small (n := 4 - 1) (by omega), show (4 - 1 : Int) = 3 from rfl, if_pos (by omega), shl3, shl4]
    by_cases c : x < 8
    · rw [if_pos c, if_pos (by omega)]
    · rw [if_neg c, if_pos (by omega), if_neg (by omega), w_small (by omega)]
  · rw [M8] at h1 ⊢; rw [w_small (n := 8 - 1) (by omega), show (8 - 1 : Int) = 7 from rfl, if_pos (by omega), shl7, shl8]
    by_cases c : x < 128
    · rw [if_pos c, if_pos (by omega)]
    · rw [if_neg c, if_pos (by omega), if_neg (by omega), w_small (by omega)]
  · rw [M16] at h1 ⊢; rw [w_small (n := 16 - 1) (by omega), show (16 - 1 : Int) = 15 from rfl, if_pos (by omega), shl15, shl16]
    by_cases c : x < 32768
    · rw [if_pos c, if_pos (by omega)]
    · rw [if_neg c, if_pos (by omega), if_neg (by omega), w_small (by omega)]
theorem sSg {b x : Int} (h : Word b x) : spec_l01Signed.f b x = some (sg b x) := by
  obtain ⟨hb, h0, h1⟩ := h
  unfold spec_l01Signed.f sg
  rcases hb with rfl | rfl | rfl
  · rw [M4] at h1 ⊢; rw [w_small (n := 4 - 1) (by omega), show (4 - 1 : Int) = 3 from rfl, u_small (n := 3) (by omega), if_pos (by omega), shr3, u_small (n := 4) (by omega), shl4]
    by_cases c : x < 8
    · rw [if_neg (by omega), if_pos (by omega)]
    · rw [if_pos (by omega), if_pos (by omega), if_neg (by omega), w_small (by omega)]
  · rw [M8] at h1 ⊢; rw [w_small (n := 8 - 1) (by omega), show (8 - 1 : Int) = 7 from rfl, u_small (n := 7) (by omega), if_pos (by omega), shr7, u_small (n := 8) (by omega), shl8]
    by_cases c : x < 128
    · rw [if_neg (by omega), if_pos (by omega)]
    · rw [if_pos (by omega), if_pos (by omega), if_neg (by omega), w_small (by omega)]
  · rw [M16] at h1 ⊢; rw [w_small (n := 16 - 1) (by omega), show (16 - 1 : Int) = 15 from rfl, u_small (n := 15) (by omega), if_pos (by omega), shr15, u_small (n := 16) (by omega), shl16]
    by_cases c : x < 32768
    · rw [if_neg (by omega), if_pos (by omega)]
    · rw [if_pos (by omega), if_pos (by omega), if_neg (by omega), w_small (by omega)]
theorem sg_le {b x : Int} (h : Word b x) : -(M b / 2) ≤ sg b x ∧ sg b x < M b / 2 := by
  obtain ⟨hb, h0, h1⟩ := h
  unfold sg
  rcases hb with rfl | rfl | rfl
  · rw [M4] at *; split <;> omega
  · rw [M8] at *; split <;> omega
  · rw [M16] at *; split <;> omega
/-- A word is what its signed value wraps to. -/
theorem sg_mod {b x : Int} (h : Word b x) : sg b x % M b = x := by
  obtain ⟨hb, h0, h1⟩ := h
  unfold sg
  rcases hb with rfl | rfl | rfl
  · rw [M4] at *; split <;> omega
  · rw [M8] at *; split <;> omega
  · rw [M16] at *; split <;> omega
theorem mx_eq (a b : Int) : mx a b = if a < b then b else a := rfl
theorem mn_clamp (n lo hi : Int) (h : lo ≤ hi) : mx lo (mn n hi) = clamp n lo hi := by
  unfold mx mn clamp
  repeat' split
  all_goals omega
theorem shlB {b : Int} (h : Bits b) : shl .i64 1 b = M b := by rcases h with rfl | rfl | rfl <;> decide
theorem shlB1 {b : Int} (h : Bits b) : shl .i64 1 (b - 1) = M b / 2 := by rcases h with rfl | rfl | rfl <;> decide
theorem tdiv2 {n : Int} (h : 0 ≤ n) : Int.tdiv n 2 = n / 2 := Int.tdiv_eq_ediv_of_nonneg h
theorem tmod_b {y b : Int} (hy : 0 ≤ y) : Int.tmod y b = y % b := Int.tmod_eq_emod_of_nonneg hy
theorem b_bounds {b : Int} (h : Bits b) : 4 ≤ b ∧ b ≤ 16 := by rcases h with rfl | rfl | rfl <;> omega

/-- Is a number one of an operation. -/
def Op (op : Int) : Prop := 0 ≤ op ∧ op ≤ 17
instance (op : Int) : Decidable (Op op) := inferInstanceAs (Decidable (_ ∧ _))
def doOp (op b x y : Int) : Int × Bool := if Op op ∧ Word b x ∧ Word b y then (res op b x y, true) else (0, false)
theorem iCmp (c : Int) : impl_isCmp.f c = some (decide (0 ≤ c ∧ c ≤ 5)) := by unfold impl_isCmp.f; rw [iIn]; rfl
theorem sCmp (c : Int) : spec_l01CmpIs.f c = some (decide (0 ≤ c ∧ c ≤ 5)) := by unfold spec_l01CmpIs.f; rw [sIn]; rfl
/-- The result of a comparison, in closed form. -/
def cmpB (c b x y : Int) : Bool := if c = 0 then x == y else if c = 1 then x != y else if c = 2 then decide (x < y) else if c = 3 then decide (x ≤ y) else if c = 4 then decide (sg b x < sg b y) else decide (sg b x ≤ sg b y)
theorem iHolds {c b x y : Int} (hx : Word b x) (hy : Word b y) : impl_holds.f c b x y = some (cmpB c b x y) := by
  unfold impl_holds.f cmpB
  rw [iSg hx, iSg hy]
  simp only [Option.bind_some]
  repeat' split
  all_goals rfl
theorem sHolds {c b x y : Int} (hx : Word b x) (hy : Word b y) : spec_l01Test.f c b x y = some (cmpB c b x y) := by
  unfold spec_l01Test.f cmpB
  rw [sSg hx, sSg hy]
  simp only [Option.bind_some]
  repeat' split
  all_goals rfl
def testCmp (c b x y : Int) : Bool × Bool := if (0 ≤ c ∧ c ≤ 5) ∧ Word b x ∧ Word b y then (cmpB c b x y, true) else (false, false)
theorem iTestCmp (c b x y : Int) : impl_TestCmp.f c b x y = some (testCmp c b x y) := by
  unfold impl_TestCmp.f testCmp
  rw [iCmp, Option.bind_some]
  by_cases h : 0 ≤ c ∧ c ≤ 5
  · simp only [h, decide_true, if_true, and_self, iWord, Option.bind_some, true_and]
    by_cases h1 : Word b x
    · simp only [h1, decide_true, if_true, true_and]
      by_cases h2 : Word b y
      · simp only [h2, decide_true, if_true, iHolds h1 h2, Option.bind_some]
      · simp [h2]
    · simp [h1]
  · simp [h]
theorem sTestCmp (c b x y : Int) : spec_TestCmp.f c b x y = some (testCmp c b x y) := by
  unfold spec_TestCmp.f testCmp
  rw [sCmp, Option.bind_some]
  by_cases h : 0 ≤ c ∧ c ≤ 5
  · simp only [h, decide_true, if_true, and_self, sWord, Option.bind_some, true_and]
    by_cases h1 : Word b x
    · simp only [h1, decide_true, if_true, true_and]
      by_cases h2 : Word b y
      · simp only [h2, decide_true, if_true, sHolds h1 h2, Option.bind_some]
      · simp [h2]
    · simp [h1]
  · simp [h]
def signedOf (b x : Int) : Int × Bool := if Word b x then (sg b x, true) else (0, false)
def isVal (n : Int) : Prop := -1000000000 ≤ n ∧ n ≤ 1000000000
instance (n : Int) : Decidable (isVal n) := inferInstanceAs (Decidable (_ ∧ _))
def wordOf (b n : Int) : Int × Bool := if Bits b ∧ isVal n then (n % M b, true) else (0, false)
end Go.Proofs.Ytigffehcchhlkaa.BwPFnExactTestCmp
