/- The reference's functions on words in closed form. No condition but the bounds of the arguments. -/
import Derived.Test.YteknfebehafbdaaK0
import Derived.Test.YteknfebehafbdaaB0
import Derived.Test.YteknfebehafbdaaSA
import Derived.Test.YteknfebehafbdaaK15
namespace Go.Proofs.Yteknfebehafbdaa.V
open Go.RowKit Go.Proofs.Yteknfebehafbdaa.K Go.Proofs.Yteknfebehafbdaa.Bx Go.Proofs.YteknfebehafbdaaW.PrintWords Go.Proofs.YteknfebehafbdaaW.PrintLast
set_option linter.unusedVariables false
set_option linter.unusedSimpArgs false

theorem sWrap {b : Int} (h : Bits b) (n : Int) : spec_l01Wrap.f b n = some (n % M b) := by
  unfold spec_l01Wrap.f
  rcases h with rfl | rfl | rfl
  · rw [u_small (by omega), if_pos (by omega), shl4, w_small (by omega), M4]; exact congrArg some (m4 n)
  · rw [u_small (by omega), if_pos (by omega), shl8, w_small (by omega), M8]; exact congrArg some (m8 n)
  · rw [u_small (by omega), if_pos (by omega), shl16, w_small (by omega), M16]; exact congrArg some (m16 n)
theorem sSg {b x : Int} (h : Word b x) : spec_l01Signed.f b x = some (sg b x) := by
  obtain ⟨hb, h0, h1⟩ := h
  unfold spec_l01Signed.f sg
  rcases hb with rfl | rfl | rfl
  · rw [M4] at h1 ⊢; rw [w_small (n := 4 - 1) (by omega), show (4 - 1 : Int) = 3 from rfl, u_small (n := 3) (by omega), if_pos (by omega), shr3, u_small (n := 4) (by omega), shl4]
    by_cases c : x < 8
    · rw [if_neg (by omega), if_pos (by omega)]
    · rw [if_pos (by omega), if_pos (by omega), if_neg (by omega), w_small (by omega)]
  · rw [M8] at h1 ⊢; rw [w_small (n := 8 - 1) (by omega), show (8 - 1 : Int) = 7 from rfl, u_small (n := 7) (by omega), if_pos (by omega), shr7, u_small (n := 8) (by omega), shl8]
    by_cases c : x < 128
    · rw [if_neg (by omega), if_pos (by omega)]
    · rw [if_pos (by omega), if_pos (by omega), if_neg (by omega), w_small (by omega)]
  · rw [M16] at h1 ⊢; rw [w_small (n := 16 - 1) (by omega), show (16 - 1 : Int) = 15 from rfl, u_small (n := 15) (by omega), if_pos (by omega), shr15, u_small (n := 16) (by omega), shl16]
    by_cases c : x < 32768
    · rw [if_neg (by omega), if_pos (by omega)]
    · rw [if_pos (by omega), if_pos (by omega), if_neg (by omega), w_small (by omega)]
end Go.Proofs.Yteknfebehafbdaa.V
