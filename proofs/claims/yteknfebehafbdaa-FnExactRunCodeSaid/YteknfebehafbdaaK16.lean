-- Laid by a program of this session.
import Derived.Test.YteknfebehafbdaaK0
import Derived.Test.YteknfebehafbdaaH0
import Derived.Test.YteknfebehafbdaaK15
namespace Go.Proofs.Yteknfebehafbdaa.K
open Go.RowKit Go.Proofs.YteknfebehafbdaaW.PrintWords Go.Proofs.YteknfebehafbdaaW.PrintLast Go.Proofs.YteknfebehafbdaaW.PrintMore Go.Proofs.Yteknfebehafbdaa.Bx Go.Shelf
attribute [local go_sem] max2_int min2_int max_two min_two max_three min_three max_four min_four   -- for this text's walks alone
set_option linter.unusedVariables false
set_option linter.unusedSimpArgs false

/-! ### spec_l01Do: function 111 -/
def spec_l01Do.f (a0 : Int) (a1 : Int) (a2 : Int) (a3 : Int) : Option (Int) := if 0 ≤ (IntKind.u64.wrap (a1)) then (if 0 ≤ (IntKind.u64.wrap (wrap64 (a1 - 1))) then ((spec_l01Signed.f a1 a2).bind fun t403 => ((spec_l01Signed.f a1 a3).bind fun t404 => (if a1 = 0 then (none) else (if a0 = 0 then ((spec_l01Wrap.f a1 (wrap64 (a2 + a3))).bind fun t405 => (some t405)) else (if a0 = 1 then ((spec_l01Wrap.f a1 (wrap64 (a2 - a3))).bind fun t406 => (some t406)) else (if a0 = 2 then ((spec_l01Wrap.f a1 (wrap64 (a2 * a3))).bind fun t407 => (some t407)) else (if a0 = 3 then (some (Go.bits .and .i64 a2 a3)) else (if a0 = 4 then (some (Go.bits .or .i64 a2 a3)) else (if a0 = 5 then (some (Go.bits .xor .i64 a2 a3)) else (if a0 = 6 then ((spec_l00Min.f a2 a3).bind fun t408 => (some t408)) else (if a0 = 7 then ((spec_l00Max.f a2 a3).bind fun t409 => (some t409)) else (if a0 = 8 then ((spec_l00Min.f t403 t404).bind fun t410 => ((spec_l01Wrap.f a1 t410).bind fun t411 => (some t411))) else (if a0 = 9 then ((spec_l00Max.f t403 t404).bind fun t412 => ((spec_l01Wrap.f a1 t412).bind fun t413 => (some t413))) else (if a0 = 10 then ((spec_l00Min.f (wrap64 (a2 + a3)) (wrap64 ((shl .i64 1 (IntKind.u64.wrap (a1))) - 1))).bind fun t414 => (some t414)) else (if a0 = 11 then ((spec_l01Between.f (wrap64 (t403 + t404)) (wrap64 (-(shl .i64 1 (IntKind.u64.wrap (wrap64 (a1 - 1)))))) (wrap64 ((shl .i64 1 (IntKind.u64.wrap (wrap64 (a1 - 1)))) - 1))).bind fun t415 => ((spec_l01Wrap.f a1 t415).bind fun t416 => (some t416))) else (if a0 = 12 then ((spec_l00Max.f (wrap64 (a2 - a3)) 0).bind fun t417 => (some t417)) else (if a0 = 13 then ((spec_l01Between.f (wrap64 (t403 - t404)) (wrap64 (-(shl .i64 1 (IntKind.u64.wrap (wrap64 (a1 - 1)))))) (wrap64 ((shl .i64 1 (IntKind.u64.wrap (wrap64 (a1 - 1)))) - 1))).bind fun t418 => ((spec_l01Wrap.f a1 t418).bind fun t419 => (some t419))) else (if a0 = 14 then (some (wrap64 (Int.tdiv (wrap64 ((wrap64 (a2 + a3)) + 1)) 2))) else (if a0 = 15 then (if 0 ≤ (IntKind.u64.wrap (Int.tmod a3 a1)) then ((spec_l01Wrap.f a1 (shl .i64 a2 (IntKind.u64.wrap (Int.tmod a3 a1)))).bind fun t420 => (some t420)) else (none)) else (if a0 = 16 then (if 0 ≤ (IntKind.u64.wrap (Int.tmod a3 a1)) then (some (shr .i64 a2 (IntKind.u64.wrap (Int.tmod a3 a1)))) else (none)) else (if 0 ≤ (IntKind.u64.wrap (Int.tmod a3 a1)) then ((spec_l01Wrap.f a1 (shr .i64 t403 (IntKind.u64.wrap (Int.tmod a3 a1)))).bind fun t421 => (some t421)) else (none)))))))))))))))))))))) else (none)) else (none)
set_option maxHeartbeats 8000000 in
set_option maxRecDepth 100000 in
theorem spec_l01Do.calls (a0 : Int) (a1 : Int) (a2 : Int) (a3 : Int) (r : Int) (w : World) (h : spec_l01Do.f a0 a1 a2 a3 = some r) :
  Calls Try.prog 111 #[.int .i64 a0, .int .i64 a1, .int .i64 a2, .int .i64 a3] w fun e w' => e = .returned (.int .i64 r) ∧ Drawn0 w w' := by
 have H : (if 0 ≤ (IntKind.u64.wrap (a1)) then (if 0 ≤ (IntKind.u64.wrap (wrap64 (a1 - 1))) then ((spec_l01Signed.f a1 a2).bind fun t403 => ((spec_l01Signed.f a1 a3).bind fun t404 => (if a1 = 0 then (none) else (if a0 = 0 then ((spec_l01Wrap.f a1 (wrap64 (a2 + a3))).bind fun t405 => (some t405)) else (if a0 = 1 then ((spec_l01Wrap.f a1 (wrap64 (a2 - a3))).bind fun t406 => (some t406)) else (if a0 = 2 then ((spec_l01Wrap.f a1 (wrap64 (a2 * a3))).bind fun t407 => (some t407)) else (if a0 = 3 then (some (Go.bits .and .i64 a2 a3)) else (if a0 = 4 then (some (Go.bits .or .i64 a2 a3)) else (if a0 = 5 then (some (Go.bits .xor .i64 a2 a3)) else (if a0 = 6 then ((spec_l00Min.f a2 a3).bind fun t408 => (some t408)) else (if a0 = 7 then ((spec_l00Max.f a2 a3).bind fun t409 => (some t409)) else (if a0 = 8 then ((spec_l00Min.f t403 t404).bind fun t410 => ((spec_l01Wrap.f a1 t410).bind fun t411 => (some t411))) else (if a0 = 9 then ((spec_l00Max.f t403 t404).bind fun t412 => ((spec_l01Wrap.f a1 t412).bind fun t413 => (some t413))) else (if a0 = 10 then ((spec_l00Min.f (wrap64 (a2 + a3)) (wrap64 ((shl .i64 1 (IntKind.u64.wrap (a1))) - 1))).bind fun t414 => (some t414)) else (if a0 = 11 then ((spec_l01Between.f (wrap64 (t403 + t404)) (wrap64 (-(shl .i64 1 (IntKind.u64.wrap (wrap64 (a1 - 1)))))) (wrap64 ((shl .i64 1 (IntKind.u64.wrap (wrap64 (a1 - 1)))) - 1))).bind fun t415 => ((spec_l01Wrap.f a1 t415).bind fun t416 => (some t416))) else (if a0 = 12 then ((spec_l00Max.f (wrap64 (a2 - a3)) 0).bind fun t417 => (some t417)) else (if a0 = 13 then ((spec_l01Between.f (wrap64 (t403 - t404)) (wrap64 (-(shl .i64 1 (IntKind.u64.wrap (wrap64 (a1 - 1)))))) (wrap64 ((shl .i64 1 (IntKind.u64.wrap (wrap64 (a1 - 1)))) - 1))).bind fun t418 => ((spec_l01Wrap.f a1 t418).bind fun t419 => (some t419))) else (if a0 = 14 then (some (wrap64 (Int.tdiv (wrap64 ((wrap64 (a2 + a3)) + 1)) 2))) else (if a0 = 15 then (if 0 ≤ (IntKind.u64.wrap (Int.tmod a3 a1)) then ((spec_l01Wrap.f a1 (shl .i64 a2 (IntKind.u64.wrap (Int.tmod a3 a1)))).bind fun t420 => (some t420)) else (none)) else (if a0 = 16 then (if 0 ≤ (IntKind.u64.wrap (Int.tmod a3 a1)) then (some (shr .i64 a2 (IntKind.u64.wrap (Int.tmod a3 a1)))) else (none)) else (if 0 ≤ (IntKind.u64.wrap (Int.tmod a3 a1)) then ((spec_l01Wrap.f a1 (shr .i64 t403 (IntKind.u64.wrap (Int.tmod a3 a1)))).bind fun t421 => (some t421)) else (none)))))))))))))))))))))) else (none)) else (none)) = some r := h
 clear h
 obtain ⟨ji5, hji5⟩ : ∃ j_ : Int, (IntKind.u64.wrap (a1)) = j_ := ⟨_, rfl⟩
 replace H : (if 0 ≤ (ji5) then (if 0 ≤ (IntKind.u64.wrap (wrap64 (a1 - 1))) then ((spec_l01Signed.f a1 a2).bind fun t403 => ((spec_l01Signed.f a1 a3).bind fun t404 => (if a1 = 0 then (none) else (if a0 = 0 then ((spec_l01Wrap.f a1 (wrap64 (a2 + a3))).bind fun t405 => (some t405)) else (if a0 = 1 then ((spec_l01Wrap.f a1 (wrap64 (a2 - a3))).bind fun t406 => (some t406)) else (if a0 = 2 then ((spec_l01Wrap.f a1 (wrap64 (a2 * a3))).bind fun t407 => (some t407)) else (if a0 = 3 then (some (Go.bits .and .i64 a2 a3)) else (if a0 = 4 then (some (Go.bits .or .i64 a2 a3)) else (if a0 = 5 then (some (Go.bits .xor .i64 a2 a3)) else (if a0 = 6 then ((spec_l00Min.f a2 a3).bind fun t408 => (some t408)) else (if a0 = 7 then ((spec_l00Max.f a2 a3).bind fun t409 => (some t409)) else (if a0 = 8 then ((spec_l00Min.f t403 t404).bind fun t410 => ((spec_l01Wrap.f a1 t410).bind fun t411 => (some t411))) else (if a0 = 9 then ((spec_l00Max.f t403 t404).bind fun t412 => ((spec_l01Wrap.f a1 t412).bind fun t413 => (some t413))) else (if a0 = 10 then ((spec_l00Min.f (wrap64 (a2 + a3)) (wrap64 ((shl .i64 1 (ji5)) - 1))).bind fun t414 => (some t414)) else (if a0 = 11 then ((spec_l01Between.f (wrap64 (t403 + t404)) (wrap64 (-(shl .i64 1 (IntKind.u64.wrap (wrap64 (a1 - 1)))))) (wrap64 ((shl .i64 1 (IntKind.u64.wrap (wrap64 (a1 - 1)))) - 1))).bind fun t415 => ((spec_l01Wrap.f a1 t415).bind fun t416 => (some t416))) else (if a0 = 12 then ((spec_l00Max.f (wrap64 (a2 - a3)) 0).bind fun t417 => (some t417)) else (if a0 = 13 then ((spec_l01Between.f (wrap64 (t403 - t404)) (wrap64 (-(shl .i64 1 (IntKind.u64.wrap (wrap64 (a1 - 1)))))) (wrap64 ((shl .i64 1 (IntKind.u64.wrap (wrap64 (a1 - 1)))) - 1))).bind fun t418 => ((spec_l01Wrap.f a1 t418).bind fun t419 => (some t419))) else (if a0 = 14 then (some (wrap64 (Int.tdiv (wrap64 ((wrap64 (a2 + a3)) + 1)) 2))) else (if a0 = 15 then (if 0 ≤ (IntKind.u64.wrap (Int.tmod a3 a1)) then ((spec_l01Wrap.f a1 (shl .i64 a2 (IntKind.u64.wrap (Int.tmod a3 a1)))).bind fun t420 => (some t420)) else (none)) else (if a0 = 16 then (if 0 ≤ (IntKind.u64.wrap (Int.tmod a3 a1)) then (some (shr .i64 a2 (IntKind.u64.wrap (Int.tmod a3 a1)))) else (none)) else (if 0 ≤ (IntKind.u64.wrap (Int.tmod a3 a1)) then ((spec_l01Wrap.f a1 (shr .i64 t403 (IntKind.u64.wrap (Int.tmod a3 a1)))).bind fun t421 => (some t421)) else (none)))))))))))))))))))))) else (none)) else (none)) = some r := by first | (rw [hji5] at H; exact H) | (simp only [hji5] at H ⊢; exact H)
 by_cases c6 : 0 ≤ (ji5)
 rotate_left
 ·rw [if_neg c6] at H
  exact absurd H (by simp)

 rw [if_pos c6] at H
 have c6b0 := eq_true c6
 have c6b1 : decide (0 ≤ (ji5)) = true := decide_eq_true c6
 clear c6
 obtain ⟨ji7, hji7⟩ : ∃ j_ : Int, (shl .i64 1 (ji5)) = j_ := ⟨_, rfl⟩
 replace H : (if 0 ≤ (IntKind.u64.wrap (wrap64 (a1 - 1))) then ((spec_l01Signed.f a1 a2).bind fun t403 => ((spec_l01Signed.f a1 a3).bind fun t404 => (if a1 = 0 then (none) else (if a0 = 0 then ((spec_l01Wrap.f a1 (wrap64 (a2 + a3))).bind fun t405 => (some t405)) else (if a0 = 1 then ((spec_l01Wrap.f a1 (wrap64 (a2 - a3))).bind fun t406 => (some t406)) else (if a0 = 2 then ((spec_l01Wrap.f a1 (wrap64 (a2 * a3))).bind fun t407 => (some t407)) else (if a0 = 3 then (some (Go.bits .and .i64 a2 a3)) else (if a0 = 4 then (some (Go.bits .or .i64 a2 a3)) else (if a0 = 5 then (some (Go.bits .xor .i64 a2 a3)) else (if a0 = 6 then ((spec_l00Min.f a2 a3).bind fun t408 => (some t408)) else (if a0 = 7 then ((spec_l00Max.f a2 a3).bind fun t409 => (some t409)) else (if a0 = 8 then ((spec_l00Min.f t403 t404).bind fun t410 => ((spec_l01Wrap.f a1 t410).bind fun t411 => (some t411))) else (if a0 = 9 then ((spec_l00Max.f t403 t404).bind fun t412 => ((spec_l01Wrap.f a1 t412).bind fun t413 => (some t413))) else (if a0 = 10 then ((spec_l00Min.f (wrap64 (a2 + a3)) (wrap64 ((ji7) - 1))).bind fun t414 => (some t414)) else (if a0 = 11 then ((spec_l01Between.f (wrap64 (t403 + t404)) (wrap64 (-(shl .i64 1 (IntKind.u64.wrap (wrap64 (a1 - 1)))))) (wrap64 ((shl .i64 1 (IntKind.u64.wrap (wrap64 (a1 - 1)))) - 1))).bind fun t415 => ((spec_l01Wrap.f a1 t415).bind fun t416 => (some t416))) else (if a0 = 12 then ((spec_l00Max.f (wrap64 (a2 - a3)) 0).bind fun t417 => (some t417)) else (if a0 = 13 then ((spec_l01Between.f (wrap64 (t403 - t404)) (wrap64 (-(shl .i64 1 (IntKind.u64.wrap (wrap64 (a1 - 1)))))) (wrap64 ((shl .i64 1 (IntKind.u64.wrap (wrap64 (a1 - 1)))) - 1))).bind fun t418 => ((spec_l01Wrap.f a1 t418).bind fun t419 => (some t419))) else (if a0 = 14 then (some (wrap64 (Int.tdiv (wrap64 ((wrap64 (a2 + a3)) + 1)) 2))) else (if a0 = 15 then (if 0 ≤ (IntKind.u64.wrap (Int.tmod a3 a1)) then ((spec_l01Wrap.f a1 (shl .i64 a2 (IntKind.u64.wrap (Int.tmod a3 a1)))).bind fun t420 => (some t420)) else (none)) else (if a0 = 16 then (if 0 ≤ (IntKind.u64.wrap (Int.tmod a3 a1)) then (some (shr .i64 a2 (IntKind.u64.wrap (Int.tmod a3 a1)))) else (none)) else (if 0 ≤ (IntKind.u64.wrap (Int.tmod a3 a1)) then ((spec_l01Wrap.f a1 (shr .i64 t403 (IntKind.u64.wrap (Int.tmod a3 a1)))).bind fun t421 => (some t421)) else (none)))))))))))))))))))))) else (none)) = some r := by first | (rw [hji7] at H; exact H) | (simp only [hji7] at H ⊢; exact H)
 have hji7_ : (IntKind.i64.wrap (1 * 2 ^ min (ji5).toNat 64)) = ji7 := hji7
 have hji7z : (ji5) ≤ 64 → (IntKind.i64.wrap (1 * 2 ^ (ji5).toNat)) = ji7 := shl_small hji7
 have hji7u : (IntKind.i64.wrap (2 ^ min (ji5).toNat 64)) = ji7 := by have h_ := hji7_; rw [Int.one_mul] at h_; exact h_
 have hji7v : (ji5) ≤ 64 → (IntKind.i64.wrap (2 ^ (ji5).toNat)) = ji7 := fun hle_ => by have h_ := hji7z hle_; rw [Int.one_mul] at h_; exact h_
 have hji7y : (wrap64 (1 * 2 ^ min (ji5).toNat 64)) = ji7 := (i64_w _).symm.trans hji7_
 have hji7x : (ji5) ≤ 64 → (wrap64 (1 * 2 ^ (ji5).toNat)) = ji7 := fun h_ => (i64_w _).symm.trans (hji7z h_)
 obtain ⟨ji8, hji8⟩ : ∃ j_ : Int, (IntKind.u64.wrap (wrap64 (a1 - 1))) = j_ := ⟨_, rfl⟩
 replace H : (if 0 ≤ (ji8) then ((spec_l01Signed.f a1 a2).bind fun t403 => ((spec_l01Signed.f a1 a3).bind fun t404 => (if a1 = 0 then (none) else (if a0 = 0 then ((spec_l01Wrap.f a1 (wrap64 (a2 + a3))).bind fun t405 => (some t405)) else (if a0 = 1 then ((spec_l01Wrap.f a1 (wrap64 (a2 - a3))).bind fun t406 => (some t406)) else (if a0 = 2 then ((spec_l01Wrap.f a1 (wrap64 (a2 * a3))).bind fun t407 => (some t407)) else (if a0 = 3 then (some (Go.bits .and .i64 a2 a3)) else (if a0 = 4 then (some (Go.bits .or .i64 a2 a3)) else (if a0 = 5 then (some (Go.bits .xor .i64 a2 a3)) else (if a0 = 6 then ((spec_l00Min.f a2 a3).bind fun t408 => (some t408)) else (if a0 = 7 then ((spec_l00Max.f a2 a3).bind fun t409 => (some t409)) else (if a0 = 8 then ((spec_l00Min.f t403 t404).bind fun t410 => ((spec_l01Wrap.f a1 t410).bind fun t411 => (some t411))) else (if a0 = 9 then ((spec_l00Max.f t403 t404).bind fun t412 => ((spec_l01Wrap.f a1 t412).bind fun t413 => (some t413))) else (if a0 = 10 then ((spec_l00Min.f (wrap64 (a2 + a3)) (wrap64 ((ji7) - 1))).bind fun t414 => (some t414)) else (if a0 = 11 then ((spec_l01Between.f (wrap64 (t403 + t404)) (wrap64 (-(shl .i64 1 (ji8)))) (wrap64 ((shl .i64 1 (ji8)) - 1))).bind fun t415 => ((spec_l01Wrap.f a1 t415).bind fun t416 => (some t416))) else (if a0 = 12 then ((spec_l00Max.f (wrap64 (a2 - a3)) 0).bind fun t417 => (some t417)) else (if a0 = 13 then ((spec_l01Between.f (wrap64 (t403 - t404)) (wrap64 (-(shl .i64 1 (ji8)))) (wrap64 ((shl .i64 1 (ji8)) - 1))).bind fun t418 => ((spec_l01Wrap.f a1 t418).bind fun t419 => (some t419))) else (if a0 = 14 then (some (wrap64 (Int.tdiv (wrap64 ((wrap64 (a2 + a3)) + 1)) 2))) else (if a0 = 15 then (if 0 ≤ (IntKind.u64.wrap (Int.tmod a3 a1)) then ((spec_l01Wrap.f a1 (shl .i64 a2 (IntKind.u64.wrap (Int.tmod a3 a1)))).bind fun t420 => (some t420)) else (none)) else (if a0 = 16 then (if 0 ≤ (IntKind.u64.wrap (Int.tmod a3 a1)) then (some (shr .i64 a2 (IntKind.u64.wrap (Int.tmod a3 a1)))) else (none)) else (if 0 ≤ (IntKind.u64.wrap (Int.tmod a3 a1)) then ((spec_l01Wrap.f a1 (shr .i64 t403 (IntKind.u64.wrap (Int.tmod a3 a1)))).bind fun t421 => (some t421)) else (none)))))))))))))))))))))) else (none)) = some r := by first | (rw [hji8] at H; exact H) | (simp only [hji8] at H ⊢; exact H)
 by_cases c9 : 0 ≤ (ji8)
 rotate_left
 ·rw [if_neg c9] at H
  exact absurd H (by simp)
 rw [if_pos c9] at H
 have c9b0 := eq_true c9
 have c9b1 : decide (0 ≤ (ji8)) = true := decide_eq_true c9
 clear c9
 obtain ⟨ji10, hji10⟩ : ∃ j_ : Int, (shl .i64 1 (ji8)) = j_ := ⟨_, rfl⟩
 replace H : ((spec_l01Signed.f a1 a2).bind fun t403 => ((spec_l01Signed.f a1 a3).bind fun t404 => (if a1 = 0 then (none) else (if a0 = 0 then ((spec_l01Wrap.f a1 (wrap64 (a2 + a3))).bind fun t405 => (some t405)) else (if a0 = 1 then ((spec_l01Wrap.f a1 (wrap64 (a2 - a3))).bind fun t406 => (some t406)) else (if a0 = 2 then ((spec_l01Wrap.f a1 (wrap64 (a2 * a3))).bind fun t407 => (some t407)) else (if a0 = 3 then (some (Go.bits .and .i64 a2 a3)) else (if a0 = 4 then (some (Go.bits .or .i64 a2 a3)) else (if a0 = 5 then (some (Go.bits .xor .i64 a2 a3)) else (if a0 = 6 then ((spec_l00Min.f a2 a3).bind fun t408 => (some t408)) else (if a0 = 7 then ((spec_l00Max.f a2 a3).bind fun t409 => (some t409)) else (if a0 = 8 then ((spec_l00Min.f t403 t404).bind fun t410 => ((spec_l01Wrap.f a1 t410).bind fun t411 => (some t411))) else (if a0 = 9 then ((spec_l00Max.f t403 t404).bind fun t412 => ((spec_l01Wrap.f a1 t412).bind fun t413 => (some t413))) else (if a0 = 10 then ((spec_l00Min.f (wrap64 (a2 + a3)) (wrap64 ((ji7) - 1))).bind fun t414 => (some t414)) else (if a0 = 11 then ((spec_l01Between.f (wrap64 (t403 + t404)) (wrap64 (-(ji10))) (wrap64 ((ji10) - 1))).bind fun t415 => ((spec_l01Wrap.f a1 t415).bind fun t416 => (some t416))) else (if a0 = 12 then ((spec_l00Max.f (wrap64 (a2 - a3)) 0).bind fun t417 => (some t417)) else (if a0 = 13 then ((spec_l01Between.f (wrap64 (t403 - t404)) (wrap64 (-(ji10))) (wrap64 ((ji10) - 1))).bind fun t418 => ((spec_l01Wrap.f a1 t418).bind fun t419 => (some t419))) else (if a0 = 14 then (some (wrap64 (Int.tdiv (wrap64 ((wrap64 (a2 + a3)) + 1)) 2))) else (if a0 = 15 then (if 0 ≤ (IntKind.u64.wrap (Int.tmod a3 a1)) then ((spec_l01Wrap.f a1 (shl .i64 a2 (IntKind.u64.wrap (Int.tmod a3 a1)))).bind fun t420 => (some t420)) else (none)) else (if a0 = 16 then (if 0 ≤ (IntKind.u64.wrap (Int.tmod a3 a1)) then (some (shr .i64 a2 (IntKind.u64.wrap (Int.tmod a3 a1)))) else (none)) else (if 0 ≤ (IntKind.u64.wrap (Int.tmod a3 a1)) then ((spec_l01Wrap.f a1 (shr .i64 t403 (IntKind.u64.wrap (Int.tmod a3 a1)))).bind fun t421 => (some t421)) else (none)))))))))))))))))))))) = some r := by first | (rw [hji10] at H; exact H) | (simp only [hji10] at H ⊢; exact H)
 have hji10_ : (IntKind.i64.wrap (1 * 2 ^ min (ji8).toNat 64)) = ji10 := hji10
 have hji10z : (ji8) ≤ 64 → (IntKind.i64.wrap (1 * 2 ^ (ji8).toNat)) = ji10 := shl_small hji10
 have hji10u : (IntKind.i64.wrap (2 ^ min (ji8).toNat 64)) = ji10 := by have h_ := hji10_; rw [Int.one_mul] at h_; exact h_
 have hji10v : (ji8) ≤ 64 → (IntKind.i64.wrap (2 ^ (ji8).toNat)) = ji10 := fun hle_ => by have h_ := hji10z hle_; rw [Int.one_mul] at h_; exact h_
 have hji10y : (wrap64 (1 * 2 ^ min (ji8).toNat 64)) = ji10 := (i64_w _).symm.trans hji10_
 have hji10x : (ji8) ≤ 64 → (wrap64 (1 * 2 ^ (ji8).toNat)) = ji10 := fun h_ => (i64_w _).symm.trans (hji10z h_)
 replace H := Option.bind_eq_some_iff.mp H
 obtain ⟨t403, A110, H⟩ := H
 try dsimp only at H
 have A11 := Aside0.mk A110
 clear A110
 replace H := Option.bind_eq_some_iff.mp H
 obtain ⟨t404, A120, H⟩ := H
 try dsimp only at H
 have A12 := Aside0.mk A120
 clear A120
 by_cases c13 : a1 = 0
 ·rw [if_pos c13] at H
  exact absurd H (by simp)
 rw [if_neg c13] at H
 have c13b0 : (a1 == 0) = false := beq_eq_false_iff_ne.mpr c13
 have c13b1 : (a1 != 0) = true := bne_iff_ne.mpr c13
 by_cases c14 : a0 = 0
 ·rw [if_pos c14] at H
  have c14b0 : (a0 == 0) = true := beq_iff_eq.mpr c14
  have c14b1 : (a0 != 0) = false := bne_eq_false_iff_eq.mpr c14
  clear c14
  replace H := Option.bind_eq_some_iff.mp H
  obtain ⟨t405, A150, H⟩ := H
  try dsimp only at H
  have A15 := Aside0.mk A150
  clear A150
  obtain rfl := Option.some.inj H
  go_enter Try.func111, Try.ntmps111
  go_wp2_with (first | ((with_reducible refine gate_callee (f := 123) rfl ?_); refine goesL_ (some 24) rfl rfl Try.func123 (by kernel_rfl) rfl #[.int .i64 a1, .int .i64 a2] rfl (by (try simp only [List.map_toArray, List.map_cons, List.map_nil]); first | done | rfl | (simp only [List.length_drop, List.length_take]; rfl)) ?_; (with_reducible refine (spec_l01Signed.calls a1 a2 t403 _ A11.out).mono ?_); rintro e w' ⟨rfl, ⟨nd, rfl⟩⟩; refine ⟨_, rfl, ?_⟩) | ((with_reducible refine gate_callee (f := 123) rfl ?_); refine goesL_ (some 27) rfl rfl Try.func123 (by kernel_rfl) rfl #[.int .i64 a1, .int .i64 a3] rfl (by (try simp only [List.map_toArray, List.map_cons, List.map_nil]); first | done | rfl | (simp only [List.length_drop, List.length_take]; rfl)) ?_; (with_reducible refine (spec_l01Signed.calls a1 a3 t404 _ A12.out).mono ?_); rintro e w' ⟨rfl, ⟨nd, rfl⟩⟩; refine ⟨_, rfl, ?_⟩) | ((with_reducible refine gate_callee (f := 124) rfl ?_); refine goesL_ (some 39) rfl rfl Try.func124 (by kernel_rfl) rfl #[.int .i64 a1, .int .i64 (wrap64 (a2 + a3))] rfl (by (try simp only [List.map_toArray, List.map_cons, List.map_nil]); first | done | rfl | (simp only [List.length_drop, List.length_take]; rfl)) ?_; (with_reducible refine (spec_l01Wrap.calls a1 (wrap64 (a2 + a3)) t405 _ A15.out).mono ?_); rintro e w' ⟨rfl, ⟨nd, rfl⟩⟩; refine ⟨_, rfl, ?_⟩))
  go_ret
  exact ⟨by first | rfl | (simp; done) | (simp only [← hji5, ← hji7, ← hji8, ← hji10] <;> (first | rfl | simp)) | (simp [*]; done), by repeat (first | exact Drawn0.refl _ | apply Drawn0.step)⟩
 rw [if_neg c14] at H
 have c14b0 : (a0 == 0) = false := beq_eq_false_iff_ne.mpr c14
 have c14b1 : (a0 != 0) = true := bne_iff_ne.mpr c14
 by_cases c16 : a0 = 1
 ·rw [if_pos c16] at H
  have c16b0 : (a0 == 1) = true := beq_iff_eq.mpr c16
  have c16b1 : (a0 != 1) = false := bne_eq_false_iff_eq.mpr c16
  clear c16
  replace H := Option.bind_eq_some_iff.mp H
  obtain ⟨t406, A170, H⟩ := H
  try dsimp only at H
  have A17 := Aside0.mk A170
  clear A170
  obtain rfl := Option.some.inj H
  go_enter Try.func111, Try.ntmps111
  go_wp2_with (first | ((with_reducible refine gate_callee (f := 123) rfl ?_); refine goesL_ (some 24) rfl rfl Try.func123 (by kernel_rfl) rfl #[.int .i64 a1, .int .i64 a2] rfl (by (try simp only [List.map_toArray, List.map_cons, List.map_nil]); first | done | rfl | (simp only [List.length_drop, List.length_take]; rfl)) ?_; (with_reducible refine (spec_l01Signed.calls a1 a2 t403 _ A11.out).mono ?_); rintro e w' ⟨rfl, ⟨nd, rfl⟩⟩; refine ⟨_, rfl, ?_⟩) | ((with_reducible refine gate_callee (f := 123) rfl ?_); refine goesL_ (some 27) rfl rfl Try.func123 (by kernel_rfl) rfl #[.int .i64 a1, .int .i64 a3] rfl (by (try simp only [List.map_toArray, List.map_cons, List.map_nil]); first | done | rfl | (simp only [List.length_drop, List.length_take]; rfl)) ?_; (with_reducible refine (spec_l01Signed.calls a1 a3 t404 _ A12.out).mono ?_); rintro e w' ⟨rfl, ⟨nd, rfl⟩⟩; refine ⟨_, rfl, ?_⟩) | ((with_reducible refine gate_callee (f := 124) rfl ?_); refine goesL_ (some 46) rfl rfl Try.func124 (by kernel_rfl) rfl #[.int .i64 a1, .int .i64 (wrap64 (a2 - a3))] rfl (by (try simp only [List.map_toArray, List.map_cons, List.map_nil]); first | done | rfl | (simp only [List.length_drop, List.length_take]; rfl)) ?_; (with_reducible refine (spec_l01Wrap.calls a1 (wrap64 (a2 - a3)) t406 _ A17.out).mono ?_); rintro e w' ⟨rfl, ⟨nd, rfl⟩⟩; refine ⟨_, rfl, ?_⟩))
  go_ret
  exact ⟨by first | rfl | (simp; done) | (simp only [← hji5, ← hji7, ← hji8, ← hji10] <;> (first | rfl | simp)) | (simp [*]; done), by repeat (first | exact Drawn0.refl _ | apply Drawn0.step)⟩
 rw [if_neg c16] at H
 have c16b0 : (a0 == 1) = false := beq_eq_false_iff_ne.mpr c16
 have c16b1 : (a0 != 1) = true := bne_iff_ne.mpr c16
 by_cases c18 : a0 = 2
 ·rw [if_pos c18] at H
  have c18b0 : (a0 == 2) = true := beq_iff_eq.mpr c18
  have c18b1 : (a0 != 2) = false := bne_eq_false_iff_eq.mpr c18
  clear c18
  replace H := Option.bind_eq_some_iff.mp H
  obtain ⟨t407, A190, H⟩ := H
  try dsimp only at H
  have A19 := Aside0.mk A190
  clear A190
  obtain rfl := Option.some.inj H
  go_enter Try.func111, Try.ntmps111
  go_wp2_with (first | ((with_reducible refine gate_callee (f := 123) rfl ?_); refine goesL_ (some 24) rfl rfl Try.func123 (by kernel_rfl) rfl #[.int .i64 a1, .int .i64 a2] rfl (by (try simp only [List.map_toArray, List.map_cons, List.map_nil]); first | done | rfl | (simp only [List.length_drop, List.length_take]; rfl)) ?_; (with_reducible refine (spec_l01Signed.calls a1 a2 t403 _ A11.out).mono ?_); rintro e w' ⟨rfl, ⟨nd, rfl⟩⟩; refine ⟨_, rfl, ?_⟩) | ((with_reducible refine gate_callee (f := 123) rfl ?_); refine goesL_ (some 27) rfl rfl Try.func123 (by kernel_rfl) rfl #[.int .i64 a1, .int .i64 a3] rfl (by (try simp only [List.map_toArray, List.map_cons, List.map_nil]); first | done | rfl | (simp only [List.length_drop, List.length_take]; rfl)) ?_; (with_reducible refine (spec_l01Signed.calls a1 a3 t404 _ A12.out).mono ?_); rintro e w' ⟨rfl, ⟨nd, rfl⟩⟩; refine ⟨_, rfl, ?_⟩) | ((with_reducible refine gate_callee (f := 124) rfl ?_); refine goesL_ (some 53) rfl rfl Try.func124 (by kernel_rfl) rfl #[.int .i64 a1, .int .i64 (wrap64 (a2 * a3))] rfl (by (try simp only [List.map_toArray, List.map_cons, List.map_nil]); first | done | rfl | (simp only [List.length_drop, List.length_take]; rfl)) ?_; (with_reducible refine (spec_l01Wrap.calls a1 (wrap64 (a2 * a3)) t407 _ A19.out).mono ?_); rintro e w' ⟨rfl, ⟨nd, rfl⟩⟩; refine ⟨_, rfl, ?_⟩))
  go_ret
  exact ⟨by first | rfl | (simp; done) | (simp only [← hji5, ← hji7, ← hji8, ← hji10] <;> (first | rfl | simp)) | (simp [*]; done), by repeat (first | exact Drawn0.refl _ | apply Drawn0.step)⟩
 rw [if_neg c18] at H
 have c18b0 : (a0 == 2) = false := beq_eq_false_iff_ne.mpr c18
 have c18b1 : (a0 != 2) = true := bne_iff_ne.mpr c18
 by_cases c20 : a0 = 3
 ·rw [if_pos c20] at H
  have c20b0 : (a0 == 3) = true := beq_iff_eq.mpr c20
  have c20b1 : (a0 != 3) = false := bne_eq_false_iff_eq.mpr c20
  clear c20
  obtain rfl := Option.some.inj H
  go_enter Try.func111, Try.ntmps111
  go_wp2_with (first | ((with_reducible refine gate_callee (f := 123) rfl ?_); refine goesL_ (some 24) rfl rfl Try.func123 (by kernel_rfl) rfl #[.int .i64 a1, .int .i64 a2] rfl (by (try simp only [List.map_toArray, List.map_cons, List.map_nil]); first | done | rfl | (simp only [List.length_drop, List.length_take]; rfl)) ?_; (with_reducible refine (spec_l01Signed.calls a1 a2 t403 _ A11.out).mono ?_); rintro e w' ⟨rfl, ⟨nd, rfl⟩⟩; refine ⟨_, rfl, ?_⟩) | ((with_reducible refine gate_callee (f := 123) rfl ?_); refine goesL_ (some 27) rfl rfl Try.func123 (by kernel_rfl) rfl #[.int .i64 a1, .int .i64 a3] rfl (by (try simp only [List.map_toArray, List.map_cons, List.map_nil]); first | done | rfl | (simp only [List.length_drop, List.length_take]; rfl)) ?_; (with_reducible refine (spec_l01Signed.calls a1 a3 t404 _ A12.out).mono ?_); rintro e w' ⟨rfl, ⟨nd, rfl⟩⟩; refine ⟨_, rfl, ?_⟩))
  go_ret
  exact ⟨by first | rfl | (simp; done) | (simp only [← hji5, ← hji7, ← hji8, ← hji10] <;> (first | rfl | simp)) | (simp [*]; done), by repeat (first | exact Drawn0.refl _ | apply Drawn0.step)⟩
 rw [if_neg c20] at H
 have c20b0 : (a0 == 3) = false := beq_eq_false_iff_ne.mpr c20
 have c20b1 : (a0 != 3) = true := bne_iff_ne.mpr c20
 by_cases c21 : a0 = 4
 ·rw [if_pos c21] at H
  have c21b0 : (a0 == 4) = true := beq_iff_eq.mpr c21
  have c21b1 : (a0 != 4) = false := bne_eq_false_iff_eq.mpr c21
  clear c21
  obtain rfl := Option.some.inj H
  go_enter Try.func111, Try.ntmps111
  go_wp2_with (first | ((with_reducible refine gate_callee (f := 123) rfl ?_); refine goesL_ (some 24) rfl rfl Try.func123 (by kernel_rfl) rfl #[.int .i64 a1, .int .i64 a2] rfl (by (try simp only [List.map_toArray, List.map_cons, List.map_nil]); first | done | rfl | (simp only [List.length_drop, List.length_take]; rfl)) ?_; (with_reducible refine (spec_l01Signed.calls a1 a2 t403 _ A11.out).mono ?_); rintro e w' ⟨rfl, ⟨nd, rfl⟩⟩; refine ⟨_, rfl, ?_⟩) | ((with_reducible refine gate_callee (f := 123) rfl ?_); refine goesL_ (some 27) rfl rfl Try.func123 (by kernel_rfl) rfl #[.int .i64 a1, .int .i64 a3] rfl (by (try simp only [List.map_toArray, List.map_cons, List.map_nil]); first | done | rfl | (simp only [List.length_drop, List.length_take]; rfl)) ?_; (with_reducible refine (spec_l01Signed.calls a1 a3 t404 _ A12.out).mono ?_); rintro e w' ⟨rfl, ⟨nd, rfl⟩⟩; refine ⟨_, rfl, ?_⟩))
  go_ret
  exact ⟨by first | rfl | (simp; done) | (simp only [← hji5, ← hji7, ← hji8, ← hji10] <;> (first | rfl | simp)) | (simp [*]; done), by repeat (first | exact Drawn0.refl _ | apply Drawn0.step)⟩
 rw [if_neg c21] at H
 have c21b0 : (a0 == 4) = false := beq_eq_false_iff_ne.mpr c21
 have c21b1 : (a0 != 4) = true := bne_iff_ne.mpr c21
 by_cases c22 : a0 = 5
 ·rw [if_pos c22] at H
  have c22b0 : (a0 == 5) = true := beq_iff_eq.mpr c22
  have c22b1 : (a0 != 5) = false := bne_eq_false_iff_eq.mpr c22
  clear c22
  obtain rfl := Option.some.inj H
  go_enter Try.func111, Try.ntmps111
  go_wp2_with (first | ((with_reducible refine gate_callee (f := 123) rfl ?_); refine goesL_ (some 24) rfl rfl Try.func123 (by kernel_rfl) rfl #[.int .i64 a1, .int .i64 a2] rfl (by (try simp only [List.map_toArray, List.map_cons, List.map_nil]); first | done | rfl | (simp only [List.length_drop, List.length_take]; rfl)) ?_; (with_reducible refine (spec_l01Signed.calls a1 a2 t403 _ A11.out).mono ?_); rintro e w' ⟨rfl, ⟨nd, rfl⟩⟩; refine ⟨_, rfl, ?_⟩) | ((with_reducible refine gate_callee (f := 123) rfl ?_); refine goesL_ (some 27) rfl rfl Try.func123 (by kernel_rfl) rfl #[.int .i64 a1, .int .i64 a3] rfl (by (try simp only [List.map_toArray, List.map_cons, List.map_nil]); first | done | rfl | (simp only [List.length_drop, List.length_take]; rfl)) ?_; (with_reducible refine (spec_l01Signed.calls a1 a3 t404 _ A12.out).mono ?_); rintro e w' ⟨rfl, ⟨nd, rfl⟩⟩; refine ⟨_, rfl, ?_⟩))
  go_ret
  exact ⟨by first | rfl | (simp; done) | (simp only [← hji5, ← hji7, ← hji8, ← hji10] <;> (first | rfl | simp)) | (simp [*]; done), by repeat (first | exact Drawn0.refl _ | apply Drawn0.step)⟩
 rw [if_neg c22] at H
 have c22b0 : (a0 == 5) = false := beq_eq_false_iff_ne.mpr c22
 have c22b1 : (a0 != 5) = true := bne_iff_ne.mpr c22
 by_cases c23 : a0 = 6
 ·rw [if_pos c23] at H
  have c23b0 : (a0 == 6) = true := beq_iff_eq.mpr c23
  have c23b1 : (a0 != 6) = false := bne_eq_false_iff_eq.mpr c23
  clear c23
  replace H := Option.bind_eq_some_iff.mp H
  obtain ⟨t408, A240, H⟩ := H
  try dsimp only at H
  have A24 := Aside0.mk A240
  clear A240
  obtain rfl := Option.some.inj H
  go_enter Try.func111, Try.ntmps111
  go_wp2_with (first | ((with_reducible refine gate_callee (f := 123) rfl ?_); refine goesL_ (some 24) rfl rfl Try.func123 (by kernel_rfl) rfl #[.int .i64 a1, .int .i64 a2] rfl (by (try simp only [List.map_toArray, List.map_cons, List.map_nil]); first | done | rfl | (simp only [List.length_drop, List.length_take]; rfl)) ?_; (with_reducible refine (spec_l01Signed.calls a1 a2 t403 _ A11.out).mono ?_); rintro e w' ⟨rfl, ⟨nd, rfl⟩⟩; refine ⟨_, rfl, ?_⟩) | ((with_reducible refine gate_callee (f := 123) rfl ?_); refine goesL_ (some 27) rfl rfl Try.func123 (by kernel_rfl) rfl #[.int .i64 a1, .int .i64 a3] rfl (by (try simp only [List.map_toArray, List.map_cons, List.map_nil]); first | done | rfl | (simp only [List.length_drop, List.length_take]; rfl)) ?_; (with_reducible refine (spec_l01Signed.calls a1 a3 t404 _ A12.out).mono ?_); rintro e w' ⟨rfl, ⟨nd, rfl⟩⟩; refine ⟨_, rfl, ?_⟩) | ((with_reducible refine gate_callee (f := 125) rfl ?_); refine goesL_ (some 73) rfl rfl Try.func125 (by kernel_rfl) rfl #[.int .i64 a2, .int .i64 a3] rfl (by (try simp only [List.map_toArray, List.map_cons, List.map_nil]); first | done | rfl | (simp only [List.length_drop, List.length_take]; rfl)) ?_; (with_reducible refine (spec_l00Min.calls a2 a3 t408 _ A24.out).mono ?_); rintro e w' ⟨rfl, ⟨nd, rfl⟩⟩; refine ⟨_, rfl, ?_⟩))
  go_ret
  exact ⟨by first | rfl | (simp; done) | (simp only [← hji5, ← hji7, ← hji8, ← hji10] <;> (first | rfl | simp)) | (simp [*]; done), by repeat (first | exact Drawn0.refl _ | apply Drawn0.step)⟩
 rw [if_neg c23] at H
 have c23b0 : (a0 == 6) = false := beq_eq_false_iff_ne.mpr c23
 have c23b1 : (a0 != 6) = true := bne_iff_ne.mpr c23
 by_cases c25 : a0 = 7
 ·rw [if_pos c25] at H
  have c25b0 : (a0 == 7) = true := beq_iff_eq.mpr c25
  have c25b1 : (a0 != 7) = false := bne_eq_false_iff_eq.mpr c25
  clear c25
  replace H := Option.bind_eq_some_iff.mp H
  obtain ⟨t409, A260, H⟩ := H
  try dsimp only at H
  have A26 := Aside0.mk A260
  clear A260
  obtain rfl := Option.some.inj H
  go_enter Try.func111, Try.ntmps111
  go_wp2_with (first | ((with_reducible refine gate_callee (f := 123) rfl ?_); refine goesL_ (some 24) rfl rfl Try.func123 (by kernel_rfl) rfl #[.int .i64 a1, .int .i64 a2] rfl (by (try simp only [List.map_toArray, List.map_cons, List.map_nil]); first | done | rfl | (simp only [List.length_drop, List.length_take]; rfl)) ?_; (with_reducible refine (spec_l01Signed.calls a1 a2 t403 _ A11.out).mono ?_); rintro e w' ⟨rfl, ⟨nd, rfl⟩⟩; refine ⟨_, rfl, ?_⟩) | ((with_reducible refine gate_callee (f := 123) rfl ?_); refine goesL_ (some 27) rfl rfl Try.func123 (by kernel_rfl) rfl #[.int .i64 a1, .int .i64 a3] rfl (by (try simp only [List.map_toArray, List.map_cons, List.map_nil]); first | done | rfl | (simp only [List.length_drop, List.length_take]; rfl)) ?_; (with_reducible refine (spec_l01Signed.calls a1 a3 t404 _ A12.out).mono ?_); rintro e w' ⟨rfl, ⟨nd, rfl⟩⟩; refine ⟨_, rfl, ?_⟩) | ((with_reducible refine gate_callee (f := 105) rfl ?_); refine goesL_ (some 78) rfl rfl Try.func105 (by kernel_rfl) rfl #[.int .i64 a2, .int .i64 a3] rfl (by (try simp only [List.map_toArray, List.map_cons, List.map_nil]); first | done | rfl | (simp only [List.length_drop, List.length_take]; rfl)) ?_; (with_reducible refine (spec_l00Max.calls a2 a3 t409 _ A26.out).mono ?_); rintro e w' ⟨rfl, ⟨nd, rfl⟩⟩; refine ⟨_, rfl, ?_⟩))
  go_ret
  exact ⟨by first | rfl | (simp; done) | (simp only [← hji5, ← hji7, ← hji8, ← hji10] <;> (first | rfl | simp)) | (simp [*]; done), by repeat (first | exact Drawn0.refl _ | apply Drawn0.step)⟩
 rw [if_neg c25] at H
 have c25b0 : (a0 == 7) = false := beq_eq_false_iff_ne.mpr c25
 have c25b1 : (a0 != 7) = true := bne_iff_ne.mpr c25
 by_cases c27 : a0 = 8
 ·rw [if_pos c27] at H
  have c27b0 : (a0 == 8) = true := beq_iff_eq.mpr c27
  have c27b1 : (a0 != 8) = false := bne_eq_false_iff_eq.mpr c27
  clear c27
  replace H := Option.bind_eq_some_iff.mp H
  obtain ⟨t410, A280, H⟩ := H
  try dsimp only at H
  have A28 := Aside0.mk A280
  clear A280
  replace H := Option.bind_eq_some_iff.mp H
  obtain ⟨t411, A290, H⟩ := H
  try dsimp only at H
  have A29 := Aside0.mk A290
  clear A290
  obtain rfl := Option.some.inj H
  go_enter Try.func111, Try.ntmps111
  go_wp2_with (first | ((with_reducible refine gate_callee (f := 123) rfl ?_); refine goesL_ (some 24) rfl rfl Try.func123 (by kernel_rfl) rfl #[.int .i64 a1, .int .i64 a2] rfl (by (try simp only [List.map_toArray, List.map_cons, List.map_nil]); first | done | rfl | (simp only [List.length_drop, List.length_take]; rfl)) ?_; (with_reducible refine (spec_l01Signed.calls a1 a2 t403 _ A11.out).mono ?_); rintro e w' ⟨rfl, ⟨nd, rfl⟩⟩; refine ⟨_, rfl, ?_⟩) | ((with_reducible refine gate_callee (f := 123) rfl ?_); refine goesL_ (some 27) rfl rfl Try.func123 (by kernel_rfl) rfl #[.int .i64 a1, .int .i64 a3] rfl (by (try simp only [List.map_toArray, List.map_cons, List.map_nil]); first | done | rfl | (simp only [List.length_drop, List.length_take]; rfl)) ?_; (with_reducible refine (spec_l01Signed.calls a1 a3 t404 _ A12.out).mono ?_); rintro e w' ⟨rfl, ⟨nd, rfl⟩⟩; refine ⟨_, rfl, ?_⟩) | ((with_reducible refine gate_callee (f := 125) rfl ?_); refine goesL_ (some 84) rfl rfl Try.func125 (by kernel_rfl) rfl #[.int .i64 t403, .int .i64 t404] rfl (by (try simp only [List.map_toArray, List.map_cons, List.map_nil]); first | done | rfl | (simp only [List.length_drop, List.length_take]; rfl)) ?_; (with_reducible refine (spec_l00Min.calls t403 t404 t410 _ A28.out).mono ?_); rintro e w' ⟨rfl, ⟨nd, rfl⟩⟩; refine ⟨_, rfl, ?_⟩) | ((with_reducible refine gate_callee (f := 124) rfl ?_); refine goesL_ (some 85) rfl rfl Try.func124 (by kernel_rfl) rfl #[.int .i64 a1, .int .i64 t410] rfl (by (try simp only [List.map_toArray, List.map_cons, List.map_nil]); first | done | rfl | (simp only [List.length_drop, List.length_take]; rfl)) ?_; (with_reducible refine (spec_l01Wrap.calls a1 t410 t411 _ A29.out).mono ?_); rintro e w' ⟨rfl, ⟨nd, rfl⟩⟩; refine ⟨_, rfl, ?_⟩))
  go_ret
  exact ⟨by first | rfl | (simp; done) | (simp only [← hji5, ← hji7, ← hji8, ← hji10] <;> (first | rfl | simp)) | (simp [*]; done), by repeat (first | exact Drawn0.refl _ | apply Drawn0.step)⟩
 ·rw [if_neg c27] at H
  have c27b0 : (a0 == 8) = false := beq_eq_false_iff_ne.mpr c27
  have c27b1 : (a0 != 8) = true := bne_iff_ne.mpr c27
  by_cases c30 : a0 = 9
  ·rw [if_pos c30] at H
   have c30b0 : (a0 == 9) = true := beq_iff_eq.mpr c30
   have c30b1 : (a0 != 9) = false := bne_eq_false_iff_eq.mpr c30
   clear c30
   replace H := Option.bind_eq_some_iff.mp H
   obtain ⟨t412, A310, H⟩ := H
   try dsimp only at H
   have A31 := Aside0.mk A310
   clear A310
   replace H := Option.bind_eq_some_iff.mp H
   obtain ⟨t413, A320, H⟩ := H
   try dsimp only at H
   have A32 := Aside0.mk A320
   clear A320
   obtain rfl := Option.some.inj H
   go_enter Try.func111, Try.ntmps111
   go_wp2_with (first | ((with_reducible refine gate_callee (f := 123) rfl ?_); refine goesL_ (some 24) rfl rfl Try.func123 (by kernel_rfl) rfl #[.int .i64 a1, .int .i64 a2] rfl (by (try simp only [List.map_toArray, List.map_cons, List.map_nil]); first | done | rfl | (simp only [List.length_drop, List.length_take]; rfl)) ?_; (with_reducible refine (spec_l01Signed.calls a1 a2 t403 _ A11.out).mono ?_); rintro e w' ⟨rfl, ⟨nd, rfl⟩⟩; refine ⟨_, rfl, ?_⟩) | ((with_reducible refine gate_callee (f := 123) rfl ?_); refine goesL_ (some 27) rfl rfl Try.func123 (by kernel_rfl) rfl #[.int .i64 a1, .int .i64 a3] rfl (by (try simp only [List.map_toArray, List.map_cons, List.map_nil]); first | done | rfl | (simp only [List.length_drop, List.length_take]; rfl)) ?_; (with_reducible refine (spec_l01Signed.calls a1 a3 t404 _ A12.out).mono ?_); rintro e w' ⟨rfl, ⟨nd, rfl⟩⟩; refine ⟨_, rfl, ?_⟩) | ((with_reducible refine gate_callee (f := 105) rfl ?_); refine goesL_ (some 91) rfl rfl Try.func105 (by kernel_rfl) rfl #[.int .i64 t403, .int .i64 t404] rfl (by (try simp only [List.map_toArray, List.map_cons, List.map_nil]); first | done | rfl | (simp only [List.length_drop, List.length_take]; rfl)) ?_; (with_reducible refine (spec_l00Max.calls t403 t404 t412 _ A31.out).mono ?_); rintro e w' ⟨rfl, ⟨nd, rfl⟩⟩; refine ⟨_, rfl, ?_⟩) | ((with_reducible refine gate_callee (f := 124) rfl ?_); refine goesL_ (some 92) rfl rfl Try.func124 (by kernel_rfl) rfl #[.int .i64 a1, .int .i64 t412] rfl (by (try simp only [List.map_toArray, List.map_cons, List.map_nil]); first | done | rfl | (simp only [List.length_drop, List.length_take]; rfl)) ?_; (with_reducible refine (spec_l01Wrap.calls a1 t412 t413 _ A32.out).mono ?_); rintro e w' ⟨rfl, ⟨nd, rfl⟩⟩; refine ⟨_, rfl, ?_⟩))
   go_ret
   exact ⟨by first | rfl | (simp; done) | (simp only [← hji5, ← hji7, ← hji8, ← hji10] <;> (first | rfl | simp)) | (simp [*]; done), by repeat (first | exact Drawn0.refl _ | apply Drawn0.step)⟩
  ·rw [if_neg c30] at H
   have c30b0 : (a0 == 9) = false := beq_eq_false_iff_ne.mpr c30
   have c30b1 : (a0 != 9) = true := bne_iff_ne.mpr c30
   by_cases c33 : a0 = 10
   ·rw [if_pos c33] at H
    have c33b0 : (a0 == 10) = true := beq_iff_eq.mpr c33
    have c33b1 : (a0 != 10) = false := bne_eq_false_iff_eq.mpr c33
    clear c33
    replace H := Option.bind_eq_some_iff.mp H
    obtain ⟨t414, A340, H⟩ := H
    try dsimp only at H
    have A34 := Aside0.mk A340
    clear A340
    obtain rfl := Option.some.inj H
    go_enter Try.func111, Try.ntmps111
    go_wp2_with (first | ((with_reducible refine gate_callee (f := 123) rfl ?_); refine goesL_ (some 24) rfl rfl Try.func123 (by kernel_rfl) rfl #[.int .i64 a1, .int .i64 a2] rfl (by (try simp only [List.map_toArray, List.map_cons, List.map_nil]); first | done | rfl | (simp only [List.length_drop, List.length_take]; rfl)) ?_; (with_reducible refine (spec_l01Signed.calls a1 a2 t403 _ A11.out).mono ?_); rintro e w' ⟨rfl, ⟨nd, rfl⟩⟩; refine ⟨_, rfl, ?_⟩) | ((with_reducible refine gate_callee (f := 123) rfl ?_); refine goesL_ (some 27) rfl rfl Try.func123 (by kernel_rfl) rfl #[.int .i64 a1, .int .i64 a3] rfl (by (try simp only [List.map_toArray, List.map_cons, List.map_nil]); first | done | rfl | (simp only [List.length_drop, List.length_take]; rfl)) ?_; (with_reducible refine (spec_l01Signed.calls a1 a3 t404 _ A12.out).mono ?_); rintro e w' ⟨rfl, ⟨nd, rfl⟩⟩; refine ⟨_, rfl, ?_⟩) | ((with_reducible refine gate_callee (f := 125) rfl ?_); refine goesL_ (some 99) rfl rfl Try.func125 (by kernel_rfl) rfl #[.int .i64 (wrap64 (a2 + a3)), .int .i64 (wrap64 ((ji7) - 1))] rfl (by (try simp only [List.map_toArray, List.map_cons, List.map_nil]); first | done | (simp only [hji7]; rfl) | rfl | (simp only [List.length_drop, List.length_take]; rfl)) ?_; (with_reducible refine (spec_l00Min.calls (wrap64 (a2 + a3)) (wrap64 ((ji7) - 1)) t414 _ A34.out).mono ?_); rintro e w' ⟨rfl, ⟨nd, rfl⟩⟩; refine ⟨_, rfl, ?_⟩))
    go_ret
    exact ⟨by first | rfl | (simp; done) | (simp only [← hji5, ← hji7, ← hji8, ← hji10] <;> (first | rfl | simp)) | (simp [*]; done), by repeat (first | exact Drawn0.refl _ | apply Drawn0.step)⟩
   rw [if_neg c33] at H
   have c33b0 : (a0 == 10) = false := beq_eq_false_iff_ne.mpr c33
   have c33b1 : (a0 != 10) = true := bne_iff_ne.mpr c33
   by_cases c35 : a0 = 11
   ·rw [if_pos c35] at H
    have c35b0 : (a0 == 11) = true := beq_iff_eq.mpr c35
    have c35b1 : (a0 != 11) = false := bne_eq_false_iff_eq.mpr c35
    clear c35
    replace H := Option.bind_eq_some_iff.mp H
    obtain ⟨t415, A360, H⟩ := H
    try dsimp only at H
    have A36 := Aside0.mk A360
    clear A360
    replace H := Option.bind_eq_some_iff.mp H
    obtain ⟨t416, A370, H⟩ := H
    try dsimp only at H
    have A37 := Aside0.mk A370
    clear A370
    obtain rfl := Option.some.inj H
    go_enter Try.func111, Try.ntmps111
    go_wp2_with (first | ((with_reducible refine gate_callee (f := 123) rfl ?_); refine goesL_ (some 24) rfl rfl Try.func123 (by kernel_rfl) rfl #[.int .i64 a1, .int .i64 a2] rfl (by (try simp only [List.map_toArray, List.map_cons, List.map_nil]); first | done | rfl | (simp only [List.length_drop, List.length_take]; rfl)) ?_; (with_reducible refine (spec_l01Signed.calls a1 a2 t403 _ A11.out).mono ?_); rintro e w' ⟨rfl, ⟨nd, rfl⟩⟩; refine ⟨_, rfl, ?_⟩) | ((with_reducible refine gate_callee (f := 123) rfl ?_); refine goesL_ (some 27) rfl rfl Try.func123 (by kernel_rfl) rfl #[.int .i64 a1, .int .i64 a3] rfl (by (try simp only [List.map_toArray, List.map_cons, List.map_nil]); first | done | rfl | (simp only [List.length_drop, List.length_take]; rfl)) ?_; (with_reducible refine (spec_l01Signed.calls a1 a3 t404 _ A12.out).mono ?_); rintro e w' ⟨rfl, ⟨nd, rfl⟩⟩; refine ⟨_, rfl, ?_⟩) | ((with_reducible refine gate_callee (f := 126) rfl ?_); refine goesL_ (some 110) rfl rfl Try.func126 (by kernel_rfl) rfl #[.int .i64 (wrap64 (t403 + t404)), .int .i64 (wrap64 (-(ji10))), .int .i64 (wrap64 ((ji10) - 1))] rfl (by (try simp only [List.map_toArray, List.map_cons, List.map_nil]); first | done | (simp only [hji10]; rfl) | rfl | (simp only [List.length_drop, List.length_take]; rfl)) ?_; (with_reducible refine (spec_l01Between.calls (wrap64 (t403 + t404)) (wrap64 (-(ji10))) (wrap64 ((ji10) - 1)) t415 _ A36.out).mono ?_); rintro e w' ⟨rfl, ⟨nd, rfl⟩⟩; refine ⟨_, rfl, ?_⟩) | ((with_reducible refine gate_callee (f := 124) rfl ?_); refine goesL_ (some 111) rfl rfl Try.func124 (by kernel_rfl) rfl #[.int .i64 a1, .int .i64 t415] rfl (by (try simp only [List.map_toArray, List.map_cons, List.map_nil]); first | done | rfl | (simp only [List.length_drop, List.length_take]; rfl)) ?_; (with_reducible refine (spec_l01Wrap.calls a1 t415 t416 _ A37.out).mono ?_); rintro e w' ⟨rfl, ⟨nd, rfl⟩⟩; refine ⟨_, rfl, ?_⟩))
    go_ret
    exact ⟨by first | rfl | (simp; done) | (simp only [← hji5, ← hji7, ← hji8, ← hji10] <;> (first | rfl | simp)) | (simp [*]; done), by repeat (first | exact Drawn0.refl _ | apply Drawn0.step)⟩
   ·rw [if_neg c35] at H
    have c35b0 : (a0 == 11) = false := beq_eq_false_iff_ne.mpr c35
    have c35b1 : (a0 != 11) = true := bne_iff_ne.mpr c35
    by_cases c38 : a0 = 12
    ·rw [if_pos c38] at H
     have c38b0 : (a0 == 12) = true := beq_iff_eq.mpr c38
     have c38b1 : (a0 != 12) = false := bne_eq_false_iff_eq.mpr c38
     clear c38
     replace H := Option.bind_eq_some_iff.mp H
     obtain ⟨t417, A390, H⟩ := H
     try dsimp only at H
     have A39 := Aside0.mk A390
     clear A390
     obtain rfl := Option.some.inj H
     go_enter Try.func111, Try.ntmps111
     go_wp2_with (first | ((with_reducible refine gate_callee (f := 123) rfl ?_); refine goesL_ (some 24) rfl rfl Try.func123 (by kernel_rfl) rfl #[.int .i64 a1, .int .i64 a2] rfl (by (try simp only [List.map_toArray, List.map_cons, List.map_nil]); first | done | rfl | (simp only [List.length_drop, List.length_take]; rfl)) ?_; (with_reducible refine (spec_l01Signed.calls a1 a2 t403 _ A11.out).mono ?_); rintro e w' ⟨rfl, ⟨nd, rfl⟩⟩; refine ⟨_, rfl, ?_⟩) | ((with_reducible refine gate_callee (f := 123) rfl ?_); refine goesL_ (some 27) rfl rfl Try.func123 (by kernel_rfl) rfl #[.int .i64 a1, .int .i64 a3] rfl (by (try simp only [List.map_toArray, List.map_cons, List.map_nil]); first | done | rfl | (simp only [List.length_drop, List.length_take]; rfl)) ?_; (with_reducible refine (spec_l01Signed.calls a1 a3 t404 _ A12.out).mono ?_); rintro e w' ⟨rfl, ⟨nd, rfl⟩⟩; refine ⟨_, rfl, ?_⟩) | ((with_reducible refine gate_callee (f := 105) rfl ?_); refine goesL_ (some 117) rfl rfl Try.func105 (by kernel_rfl) rfl #[.int .i64 (wrap64 (a2 - a3)), .int .i64 0] rfl (by (try simp only [List.map_toArray, List.map_cons, List.map_nil]); first | done | rfl | (simp only [List.length_drop, List.length_take]; rfl)) ?_; (with_reducible refine (spec_l00Max.calls (wrap64 (a2 - a3)) 0 t417 _ A39.out).mono ?_); rintro e w' ⟨rfl, ⟨nd, rfl⟩⟩; refine ⟨_, rfl, ?_⟩))
     go_ret
     exact ⟨by first | rfl | (simp; done) | (simp only [← hji5, ← hji7, ← hji8, ← hji10] <;> (first | rfl | simp)) | (simp [*]; done), by repeat (first | exact Drawn0.refl _ | apply Drawn0.step)⟩
    rw [if_neg c38] at H
    have c38b0 : (a0 == 12) = false := beq_eq_false_iff_ne.mpr c38
    have c38b1 : (a0 != 12) = true := bne_iff_ne.mpr c38
    by_cases c40 : a0 = 13
    ·rw [if_pos c40] at H
     have c40b0 : (a0 == 13) = true := beq_iff_eq.mpr c40
     have c40b1 : (a0 != 13) = false := bne_eq_false_iff_eq.mpr c40
     clear c40
     replace H := Option.bind_eq_some_iff.mp H
     obtain ⟨t418, A410, H⟩ := H
     try dsimp only at H
     have A41 := Aside0.mk A410
     clear A410
     replace H := Option.bind_eq_some_iff.mp H
     obtain ⟨t419, A420, H⟩ := H
     try dsimp only at H
     have A42 := Aside0.mk A420
     clear A420
     obtain rfl := Option.some.inj H
     go_enter Try.func111, Try.ntmps111
     go_wp2_with (first | ((with_reducible refine gate_callee (f := 123) rfl ?_); refine goesL_ (some 24) rfl rfl Try.func123 (by kernel_rfl) rfl #[.int .i64 a1, .int .i64 a2] rfl (by (try simp only [List.map_toArray, List.map_cons, List.map_nil]); first | done | rfl | (simp only [List.length_drop, List.length_take]; rfl)) ?_; (with_reducible refine (spec_l01Signed.calls a1 a2 t403 _ A11.out).mono ?_); rintro e w' ⟨rfl, ⟨nd, rfl⟩⟩; refine ⟨_, rfl, ?_⟩) | ((with_reducible refine gate_callee (f := 123) rfl ?_); refine goesL_ (some 27) rfl rfl Try.func123 (by kernel_rfl) rfl #[.int .i64 a1, .int .i64 a3] rfl (by (try simp only [List.map_toArray, List.map_cons, List.map_nil]); first | done | rfl | (simp only [List.length_drop, List.length_take]; rfl)) ?_; (with_reducible refine (spec_l01Signed.calls a1 a3 t404 _ A12.out).mono ?_); rintro e w' ⟨rfl, ⟨nd, rfl⟩⟩; refine ⟨_, rfl, ?_⟩) | ((with_reducible refine gate_callee (f := 126) rfl ?_); refine goesL_ (some 128) rfl rfl Try.func126 (by kernel_rfl) rfl #[.int .i64 (wrap64 (t403 - t404)), .int .i64 (wrap64 (-(ji10))), .int .i64 (wrap64 ((ji10) - 1))] rfl (by (try simp only [List.map_toArray, List.map_cons, List.map_nil]); first | done | (simp only [hji10]; rfl) | rfl | (simp only [List.length_drop, List.length_take]; rfl)) ?_; (with_reducible refine (spec_l01Between.calls (wrap64 (t403 - t404)) (wrap64 (-(ji10))) (wrap64 ((ji10) - 1)) t418 _ A41.out).mono ?_); rintro e w' ⟨rfl, ⟨nd, rfl⟩⟩; refine ⟨_, rfl, ?_⟩) | ((with_reducible refine gate_callee (f := 124) rfl ?_); refine goesL_ (some 129) rfl rfl Try.func124 (by kernel_rfl) rfl #[.int .i64 a1, .int .i64 t418] rfl (by (try simp only [List.map_toArray, List.map_cons, List.map_nil]); first | done | rfl | (simp only [List.length_drop, List.length_take]; rfl)) ?_; (with_reducible refine (spec_l01Wrap.calls a1 t418 t419 _ A42.out).mono ?_); rintro e w' ⟨rfl, ⟨nd, rfl⟩⟩; refine ⟨_, rfl, ?_⟩))
     go_ret
     exact ⟨by first | rfl | (simp; done) | (simp only [← hji5, ← hji7, ← hji8, ← hji10] <;> (first | rfl | simp)) | (simp [*]; done), by repeat (first | exact Drawn0.refl _ | apply Drawn0.step)⟩
    ·rw [if_neg c40] at H
     have c40b0 : (a0 == 13) = false := beq_eq_false_iff_ne.mpr c40
     have c40b1 : (a0 != 13) = true := bne_iff_ne.mpr c40
     by_cases c43 : a0 = 14
     ·rw [if_pos c43] at H
      have c43b0 : (a0 == 14) = true := beq_iff_eq.mpr c43
      have c43b1 : (a0 != 14) = false := bne_eq_false_iff_eq.mpr c43
      clear c43
      obtain rfl := Option.some.inj H
      go_enter Try.func111, Try.ntmps111
      go_wp2_with (first | ((with_reducible refine gate_callee (f := 123) rfl ?_); refine goesL_ (some 24) rfl rfl Try.func123 (by kernel_rfl) rfl #[.int .i64 a1, .int .i64 a2] rfl (by (try simp only [List.map_toArray, List.map_cons, List.map_nil]); first | done | rfl | (simp only [List.length_drop, List.length_take]; rfl)) ?_; (with_reducible refine (spec_l01Signed.calls a1 a2 t403 _ A11.out).mono ?_); rintro e w' ⟨rfl, ⟨nd, rfl⟩⟩; refine ⟨_, rfl, ?_⟩) | ((with_reducible refine gate_callee (f := 123) rfl ?_); refine goesL_ (some 27) rfl rfl Try.func123 (by kernel_rfl) rfl #[.int .i64 a1, .int .i64 a3] rfl (by (try simp only [List.map_toArray, List.map_cons, List.map_nil]); first | done | rfl | (simp only [List.length_drop, List.length_take]; rfl)) ?_; (with_reducible refine (spec_l01Signed.calls a1 a3 t404 _ A12.out).mono ?_); rintro e w' ⟨rfl, ⟨nd, rfl⟩⟩; refine ⟨_, rfl, ?_⟩))
      go_ret
      exact ⟨by first | rfl | (simp; done) | (simp only [← hji5, ← hji7, ← hji8, ← hji10] <;> (first | rfl | simp)) | (simp [*]; done), by repeat (first | exact Drawn0.refl _ | apply Drawn0.step)⟩
     rw [if_neg c43] at H
     have c43b0 : (a0 == 14) = false := beq_eq_false_iff_ne.mpr c43
     have c43b1 : (a0 != 14) = true := bne_iff_ne.mpr c43
     by_cases c44 : a0 = 15
     ·rw [if_pos c44] at H
      have c44b0 : (a0 == 15) = true := beq_iff_eq.mpr c44
      have c44b1 : (a0 != 15) = false := bne_eq_false_iff_eq.mpr c44
      clear c44
      obtain ⟨ji45, hji45⟩ : ∃ j_ : Int, (IntKind.u64.wrap (Int.tmod a3 a1)) = j_ := ⟨_, rfl⟩
      replace H : (if 0 ≤ (ji45) then ((spec_l01Wrap.f a1 (shl .i64 a2 (ji45))).bind fun t420 => (some t420)) else (none)) = some r := by first | (rw [hji45] at H; exact H) | (simp only [hji45] at H ⊢; exact H)
      (try rw [hji45] at A11)
      (try rw [hji45] at A12)
      by_cases c46 : 0 ≤ (ji45)
      rotate_left
      ·rw [if_neg c46] at H
       exact absurd H (by simp)
      rw [if_pos c46] at H
      have c46b0 := eq_true c46
      have c46b1 : decide (0 ≤ (ji45)) = true := decide_eq_true c46
      clear c46
      obtain ⟨ji47, hji47⟩ : ∃ j_ : Int, (shl .i64 a2 (ji45)) = j_ := ⟨_, rfl⟩
      replace H : ((spec_l01Wrap.f a1 (ji47)).bind fun t420 => (some t420)) = some r := by first | (rw [hji47] at H; exact H) | (simp only [hji47] at H ⊢; exact H)
      (try rw [hji47] at A11)
      (try rw [hji47] at A12)
      have hji47_ : (IntKind.i64.wrap (a2 * 2 ^ min (ji45).toNat 64)) = ji47 := hji47
      have hji47z : (ji45) ≤ 64 → (IntKind.i64.wrap (a2 * 2 ^ (ji45).toNat)) = ji47 := shl_small hji47
      have hji47y : (wrap64 (a2 * 2 ^ min (ji45).toNat 64)) = ji47 := (i64_w _).symm.trans hji47_
      have hji47x : (ji45) ≤ 64 → (wrap64 (a2 * 2 ^ (ji45).toNat)) = ji47 := fun h_ => (i64_w _).symm.trans (hji47z h_)
      replace H := Option.bind_eq_some_iff.mp H
      obtain ⟨t420, A480, H⟩ := H
      try dsimp only at H
      have A48 := Aside0.mk A480
      clear A480
      obtain rfl := Option.some.inj H
      go_enter Try.func111, Try.ntmps111
      go_wp2_with (first | ((with_reducible refine gate_callee (f := 123) rfl ?_); refine goesL_ (some 24) rfl rfl Try.func123 (by kernel_rfl) rfl #[.int .i64 a1, .int .i64 a2] rfl (by (try simp only [List.map_toArray, List.map_cons, List.map_nil]); first | done | rfl | (simp only [List.length_drop, List.length_take]; rfl)) ?_; (with_reducible refine (spec_l01Signed.calls a1 a2 t403 _ A11.out).mono ?_); rintro e w' ⟨rfl, ⟨nd, rfl⟩⟩; refine ⟨_, rfl, ?_⟩) | ((with_reducible refine gate_callee (f := 123) rfl ?_); refine goesL_ (some 27) rfl rfl Try.func123 (by kernel_rfl) rfl #[.int .i64 a1, .int .i64 a3] rfl (by (try simp only [List.map_toArray, List.map_cons, List.map_nil]); first | done | rfl | (simp only [List.length_drop, List.length_take]; rfl)) ?_; (with_reducible refine (spec_l01Signed.calls a1 a3 t404 _ A12.out).mono ?_); rintro e w' ⟨rfl, ⟨nd, rfl⟩⟩; refine ⟨_, rfl, ?_⟩) | ((with_reducible refine gate_callee (f := 124) rfl ?_); refine goesL_ (some 143) rfl rfl Try.func124 (by kernel_rfl) rfl #[.int .i64 a1, .int .i64 ji47] rfl (by (try simp only [List.map_toArray, List.map_cons, List.map_nil]); first | done | (simp only [hji47]; rfl) | rfl | (simp only [List.length_drop, List.length_take]; rfl)) ?_; (with_reducible refine (spec_l01Wrap.calls a1 ji47 t420 _ A48.out).mono ?_); rintro e w' ⟨rfl, ⟨nd, rfl⟩⟩; refine ⟨_, rfl, ?_⟩))
      go_ret
      exact ⟨by first | rfl | (simp; done) | (simp only [← hji5, ← hji7, ← hji8, ← hji10, ← hji45, ← hji47] <;> (first | rfl | simp)) | (simp [*]; done), by repeat (first | exact Drawn0.refl _ | apply Drawn0.step)⟩
     ·rw [if_neg c44] at H
      have c44b0 : (a0 == 15) = false := beq_eq_false_iff_ne.mpr c44
      have c44b1 : (a0 != 15) = true := bne_iff_ne.mpr c44
      by_cases c49 : a0 = 16
      ·rw [if_pos c49] at H
       have c49b0 : (a0 == 16) = true := beq_iff_eq.mpr c49
       have c49b1 : (a0 != 16) = false := bne_eq_false_iff_eq.mpr c49
       clear c49
       obtain ⟨ji50, hji50⟩ : ∃ j_ : Int, (IntKind.u64.wrap (Int.tmod a3 a1)) = j_ := ⟨_, rfl⟩
       replace H : (if 0 ≤ (ji50) then (some (shr .i64 a2 (ji50))) else (none)) = some r := by first | (rw [hji50] at H; exact H) | (simp only [hji50] at H ⊢; exact H)
       (try rw [hji50] at A11)
       (try rw [hji50] at A12)
       by_cases c51 : 0 ≤ (ji50)
       rotate_left
       ·rw [if_neg c51] at H
        exact absurd H (by simp)
       rw [if_pos c51] at H
       have c51b0 := eq_true c51
       have c51b1 : decide (0 ≤ (ji50)) = true := decide_eq_true c51
       clear c51
       obtain ⟨ji52, hji52⟩ : ∃ j_ : Int, (shr .i64 a2 (ji50)) = j_ := ⟨_, rfl⟩
       replace H : (some ji52) = some r := by first | (rw [hji52] at H; exact H) | (simp only [hji52] at H ⊢; exact H)
       (try rw [hji52] at A11)
       (try rw [hji52] at A12)
       have hji52_ : (a2 / 2 ^ min (ji50).toNat 64) = ji52 := hji52
       have hji52z : (ji50) ≤ 64 → (a2 / 2 ^ (ji50).toNat) = ji52 := shr_small hji52
       obtain rfl := Option.some.inj H
       go_enter Try.func111, Try.ntmps111
       go_wp2_with (first | ((with_reducible refine gate_callee (f := 123) rfl ?_); refine goesL_ (some 24) rfl rfl Try.func123 (by kernel_rfl) rfl #[.int .i64 a1, .int .i64 a2] rfl (by (try simp only [List.map_toArray, List.map_cons, List.map_nil]); first | done | rfl | (simp only [List.length_drop, List.length_take]; rfl)) ?_; (with_reducible refine (spec_l01Signed.calls a1 a2 t403 _ A11.out).mono ?_); rintro e w' ⟨rfl, ⟨nd, rfl⟩⟩; refine ⟨_, rfl, ?_⟩) | ((with_reducible refine gate_callee (f := 123) rfl ?_); refine goesL_ (some 27) rfl rfl Try.func123 (by kernel_rfl) rfl #[.int .i64 a1, .int .i64 a3] rfl (by (try simp only [List.map_toArray, List.map_cons, List.map_nil]); first | done | rfl | (simp only [List.length_drop, List.length_take]; rfl)) ?_; (with_reducible refine (spec_l01Signed.calls a1 a3 t404 _ A12.out).mono ?_); rintro e w' ⟨rfl, ⟨nd, rfl⟩⟩; refine ⟨_, rfl, ?_⟩))
       go_ret
       exact ⟨by first | rfl | (simp; done) | (simp only [← hji5, ← hji7, ← hji8, ← hji10, ← hji50, ← hji52] <;> (first | rfl | simp)) | (simp [*]; done), by repeat (first | exact Drawn0.refl _ | apply Drawn0.step)⟩
      ·rw [if_neg c49] at H
       have c49b0 : (a0 == 16) = false := beq_eq_false_iff_ne.mpr c49
       have c49b1 : (a0 != 16) = true := bne_iff_ne.mpr c49
       obtain ⟨ji53, hji53⟩ : ∃ j_ : Int, (IntKind.u64.wrap (Int.tmod a3 a1)) = j_ := ⟨_, rfl⟩
       replace H : (if 0 ≤ (ji53) then ((spec_l01Wrap.f a1 (shr .i64 t403 (ji53))).bind fun t421 => (some t421)) else (none)) = some r := by first | (rw [hji53] at H; exact H) | (simp only [hji53] at H ⊢; exact H)
       (try rw [hji53] at A11)
       (try rw [hji53] at A12)
       by_cases c54 : 0 ≤ (ji53)
       rotate_left
       ·rw [if_neg c54] at H
        exact absurd H (by simp)
       rw [if_pos c54] at H
       have c54b0 := eq_true c54
       have c54b1 : decide (0 ≤ (ji53)) = true := decide_eq_true c54
       clear c54
       obtain ⟨ji55, hji55⟩ : ∃ j_ : Int, (shr .i64 t403 (ji53)) = j_ := ⟨_, rfl⟩
       replace H : ((spec_l01Wrap.f a1 (ji55)).bind fun t421 => (some t421)) = some r := by first | (rw [hji55] at H; exact H) | (simp only [hji55] at H ⊢; exact H)
       (try rw [hji55] at A11)
       (try rw [hji55] at A12)
       have hji55_ : (t403 / 2 ^ min (ji53).toNat 64) = ji55 := hji55
       have hji55z : (ji53) ≤ 64 → (t403 / 2 ^ (ji53).toNat) = ji55 := shr_small hji55
       replace H := Option.bind_eq_some_iff.mp H
       obtain ⟨t421, A560, H⟩ := H
       try dsimp only at H
       have A56 := Aside0.mk A560
       clear A560
       obtain rfl := Option.some.inj H
       go_enter Try.func111, Try.ntmps111
       go_wp2_with (first | ((with_reducible refine gate_callee (f := 123) rfl ?_); refine goesL_ (some 24) rfl rfl Try.func123 (by kernel_rfl) rfl #[.int .i64 a1, .int .i64 a2] rfl (by (try simp only [List.map_toArray, List.map_cons, List.map_nil]); first | done | rfl | (simp only [List.length_drop, List.length_take]; rfl)) ?_; (with_reducible refine (spec_l01Signed.calls a1 a2 t403 _ A11.out).mono ?_); rintro e w' ⟨rfl, ⟨nd, rfl⟩⟩; refine ⟨_, rfl, ?_⟩) | ((with_reducible refine gate_callee (f := 123) rfl ?_); refine goesL_ (some 27) rfl rfl Try.func123 (by kernel_rfl) rfl #[.int .i64 a1, .int .i64 a3] rfl (by (try simp only [List.map_toArray, List.map_cons, List.map_nil]); first | done | rfl | (simp only [List.length_drop, List.length_take]; rfl)) ?_; (with_reducible refine (spec_l01Signed.calls a1 a3 t404 _ A12.out).mono ?_); rintro e w' ⟨rfl, ⟨nd, rfl⟩⟩; refine ⟨_, rfl, ?_⟩) | ((with_reducible refine gate_callee (f := 124) rfl ?_); refine goesL_ (some 153) rfl rfl Try.func124 (by kernel_rfl) rfl #[.int .i64 a1, .int .i64 ji55] rfl (by (try simp only [List.map_toArray, List.map_cons, List.map_nil]); first | done | (simp only [hji55]; rfl) | rfl | (simp only [List.length_drop, List.length_take]; rfl)) ?_; (with_reducible refine (spec_l01Wrap.calls a1 ji55 t421 _ A56.out).mono ?_); rintro e w' ⟨rfl, ⟨nd, rfl⟩⟩; refine ⟨_, rfl, ?_⟩))
       go_ret
       exact ⟨by first | rfl | (simp; done) | (simp only [← hji5, ← hji7, ← hji8, ← hji10, ← hji53, ← hji55] <;> (first | rfl | simp)) | (simp [*]; done), by repeat (first | exact Drawn0.refl _ | apply Drawn0.step)⟩
end Go.Proofs.Yteknfebehafbdaa.K
