/- The reference's functions on words in closed form. No condition but the bounds of the arguments. -/
import Derived.Test.YteknfebehafbdaaK0
import Derived.Test.YteknfebehafbdaaB0
import Derived.Test.YteknfebehafbdaaVC
import Derived.Test.YteknfebehafbdaaK15
namespace Go.Proofs.Yteknfebehafbdaa.V
open Go.RowKit Go.Proofs.Yteknfebehafbdaa.K Go.Proofs.Yteknfebehafbdaa.Bx Go.Proofs.YteknfebehafbdaaW.PrintWords Go.Proofs.YteknfebehafbdaaW.PrintLast
set_option linter.unusedVariables false
set_option linter.unusedSimpArgs false

theorem sBits (b : Int) : spec_l01Bits.f b = some (decide (Bits b)) := by
  unfold spec_l01Bits.f Bits
  by_cases h : b = 4
  · simp [h]
  · by_cases h8 : b = 8
    · simp [h8]
    · simp only [if_neg h, if_neg h8]; congr 1
      by_cases h16 : b = 16 <;> simp [h, h8, h16]
theorem sWord (b x : Int) : spec_l01Word.f b x = some (decide (Word b x)) := by
  unfold spec_l01Word.f
  rw [sBits]
  by_cases h : Bits b
  · simp only [h, decide_true, Option.bind_some, if_true]
    have hb := h
    rcases hb with rfl | rfl | rfl
    · rw [u_small (by omega), if_pos (by omega), shl4, w_small (by omega), sIn]
      simp only [Option.bind_some]; exact congrArg some (decide_eq_decide.mpr ⟨fun hh => ⟨h, by rw [M4]; omega⟩, fun hh => by have := hh.2; rw [M4] at this; omega⟩)
    · rw [u_small (by omega), if_pos (by omega), shl8, w_small (by omega), sIn]
      simp only [Option.bind_some]; exact congrArg some (decide_eq_decide.mpr ⟨fun hh => ⟨h, by rw [M8]; omega⟩, fun hh => by have := hh.2; rw [M8] at this; omega⟩)
    · rw [u_small (by omega), if_pos (by omega), shl16, w_small (by omega), sIn]
      simp only [Option.bind_some]; exact congrArg some (decide_eq_decide.mpr ⟨fun hh => ⟨h, by rw [M16]; omega⟩, fun hh => by have := hh.2; rw [M16] at this; omega⟩)
  · simp [Word, h]
end Go.Proofs.Yteknfebehafbdaa.V
