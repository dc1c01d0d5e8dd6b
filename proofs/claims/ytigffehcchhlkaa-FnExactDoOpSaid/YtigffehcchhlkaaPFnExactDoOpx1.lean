-- PRINTED BY print.sh 35421559b90ae4d0a3588c463048766b98c2df88dd9212a6774a882060cdf62d: not written by this session
import Derived.Test.YtigffehcchhlkaaPFnExactDoOpx0
namespace Go.Proofs.Ytigffehcchhlkaa.PFnExactDoOp
open Go.RowKit Go.Proofs.YtigffehcchhlkaaW.PrintWords Go.Proofs.YtigffehcchhlkaaW.PrintLast Go.Proofs.YtigffehcchhlkaaW.PrintMore
attribute [local go_sem] max2_int min2_int max_two min_two max_three min_three max_four min_four   -- for this text's walks alone
set_option linter.unusedVariables false
set_option linter.unusedSimpArgs false

/-! ### spec_l01Bits: function 39 -/
def spec_l01Bits.f (a0 : Int) : Option (Bool) := if a0 = 4 then (some true) else (if a0 = 8 then (some true) else (some (a0 == 16)))
set_option maxHeartbeats 8000000 in
set_option maxRecDepth 100000 in
theorem spec_l01Bits.calls (a0 : Int) (r : Bool) (w : World) (h : spec_l01Bits.f a0 = some r) :
    Calls Try.prog 39 #[.int .i64 a0] w fun e w' => e = .returned (.bool r) ∧ Drawn0 w w' := by
  have H : (if a0 = 4 then (some true) else (if a0 = 8 then (some true) else (some (a0 == 16)))) = some r := h
  clear h
  by_cases c2 : a0 = 4
  · rw [if_pos c2] at H
    have c2b0 : (a0 == 4) = true := beq_iff_eq.mpr c2
    have c2b1 : (a0 != 4) = false := bne_eq_false_iff_eq.mpr c2
    clear c2
    obtain rfl := Option.some.inj H
    go_enter Try.func39, Try.ntmps39
    go_wp2
    go_ret
    exact ⟨by first | rfl | (simp; done) | (simp [*]; done), by repeat (first | exact Drawn0.refl _ | apply Drawn0.step)⟩
  · rw [if_neg c2] at H
    have c2b0 : (a0 == 4) = false := beq_eq_false_iff_ne.mpr c2
    have c2b1 : (a0 != 4) = true := bne_iff_ne.mpr c2
    by_cases c3 : a0 = 8
    · rw [if_pos c3] at H
      have c3b0 : (a0 == 8) = true := beq_iff_eq.mpr c3
      have c3b1 : (a0 != 8) = false := bne_eq_false_iff_eq.mpr c3
      clear c3
      obtain rfl := Option.some.inj H
      go_enter Try.func39, Try.ntmps39
      go_wp2
      go_ret
      exact ⟨by first | rfl | (simp; done) | (simp [*]; done), by repeat (first | exact Drawn0.refl _ | apply Drawn0.step)⟩
    · rw [if_neg c3] at H
      have c3b0 : (a0 == 8) = false := beq_eq_false_iff_ne.mpr c3
      have c3b1 : (a0 != 8) = true := bne_iff_ne.mpr c3
      obtain rfl := Option.some.inj H
      go_enter Try.func39, Try.ntmps39
      go_wp2
      go_ret
      exact ⟨by first | rfl | (simp; done) | (simp [*]; done), by repeat (first | exact Drawn0.refl _ | apply Drawn0.step)⟩

/-! ### spec_l00In: function 40 -/
def spec_l00In.f (a0 : Int) (a1 : Int) (a2 : Int) : Option (Bool) := if a0 ≥ a1 then (some (decide (a0 ≤ a2))) else (some false)
set_option maxHeartbeats 8000000 in
set_option maxRecDepth 100000 in
theorem spec_l00In.calls (a0 : Int) (a1 : Int) (a2 : Int) (r : Bool) (w : World) (h : spec_l00In.f a0 a1 a2 = some r) :
    Calls Try.prog 40 #[.int .i64 a0, .int .i64 a1, .int .i64 a2] w fun e w' => e = .returned (.bool r) ∧ Drawn0 w w' := by
  have H : (if a0 ≥ a1 then (some (decide (a0 ≤ a2))) else (some false)) = some r := h
  clear h
  by_cases c4 : a0 ≥ a1
  · rw [if_pos c4] at H
    have c4b0 : decide (a1 ≤ a0) = true := decide_eq_true c4
    clear c4
    obtain rfl := Option.some.inj H
    go_enter Try.func40, Try.ntmps40
    go_wp2
    go_ret
    exact ⟨by first | rfl | (simp; done) | (simp [*]; done), by repeat (first | exact Drawn0.refl _ | apply Drawn0.step)⟩
  · rw [if_neg c4] at H
    have c4b0 : decide (a1 ≤ a0) = false := decide_eq_false c4
    clear c4
    obtain rfl := Option.some.inj H
    go_enter Try.func40, Try.ntmps40
    go_wp2
    go_ret
    exact ⟨by first | rfl | (simp; done) | (simp [*]; done), by repeat (first | exact Drawn0.refl _ | apply Drawn0.step)⟩

/-! ### spec_l01Word: function 34 -/
def spec_l01Word.f (a0 : Int) (a1 : Int) : Option (Bool) := (spec_l01Bits.f a0).bind fun t101 => (if t101 = true then (if 0 ≤ (IntKind.u64.wrap (a0)) then ((spec_l00In.f a1 0 (wrap64 ((shl .i64 1 (IntKind.u64.wrap (a0))) - 1))).bind fun t102 => (some t102)) else (none)) else (some false))
set_option maxHeartbeats 8000000 in
set_option maxRecDepth 100000 in
theorem spec_l01Word.calls (a0 : Int) (a1 : Int) (r : Bool) (w : World) (h : spec_l01Word.f a0 a1 = some r) :
    Calls Try.prog 34 #[.int .i64 a0, .int .i64 a1] w fun e w' => e = .returned (.bool r) ∧ Drawn0 w w' := by
  have H : ((spec_l01Bits.f a0).bind fun t101 => (if t101 = true then (if 0 ≤ (IntKind.u64.wrap (a0)) then ((spec_l00In.f a1 0 (wrap64 ((shl .i64 1 (IntKind.u64.wrap (a0))) - 1))).bind fun t102 => (some t102)) else (none)) else (some false))) = some r := h
  clear h
  replace H := Option.bind_eq_some_iff.mp H
  obtain ⟨t101, A30, H⟩ := H
  replace H : (if t101 = true then (if 0 ≤ (IntKind.u64.wrap (a0)) then ((spec_l00In.f a1 0 (wrap64 ((shl .i64 1 (IntKind.u64.wrap (a0))) - 1))).bind fun t102 => (some t102)) else (none)) else (some false)) = some r := H
  have A3 := Aside0.mk A30
  clear A30
  by_cases c4 : t101 = true
  · subst c4
    have H1 : (if 0 ≤ (IntKind.u64.wrap (a0)) then ((spec_l00In.f a1 0 (wrap64 ((shl .i64 1 (IntKind.u64.wrap (a0))) - 1))).bind fun t102 => (some t102)) else (none)) = some r := by rw [if_pos rfl] at H; exact H
    clear H
    have H := H1
    clear H1
    obtain ⟨ji5, hji5⟩ : ∃ j_ : Int, (IntKind.u64.wrap (a0)) = j_ := ⟨_, rfl⟩
    replace H : (if 0 ≤ (ji5) then ((spec_l00In.f a1 0 (wrap64 ((shl .i64 1 (ji5)) - 1))).bind fun t102 => (some t102)) else (none)) = some r := by first | (rw [hji5] at H; exact H) | (simp only [hji5] at H ⊢; exact H)
    (try rw [hji5] at A3)
    by_cases c6 : 0 ≤ (ji5)
    · rw [if_pos c6] at H
      have c6b0 := eq_true c6
      have c6b1 : decide (0 ≤ (ji5)) = true := decide_eq_true c6
      clear c6
      obtain ⟨ji7, hji7⟩ : ∃ j_ : Int, (shl .i64 1 (ji5)) = j_ := ⟨_, rfl⟩
      replace H : ((spec_l00In.f a1 0 (wrap64 ((ji7) - 1))).bind fun t102 => (some t102)) = some r := by first | (rw [hji7] at H; exact H) | (simp only [hji7] at H ⊢; exact H)
      (try rw [hji7] at A3)
      have hji7_ : (IntKind.i64.wrap (1 * 2 ^ min (ji5).toNat 64)) = ji7 := hji7
      have hji7z : (ji5) ≤ 64 → (IntKind.i64.wrap (1 * 2 ^ (ji5).toNat)) = ji7 := shl_small hji7
      have hji7u : (IntKind.i64.wrap (2 ^ min (ji5).toNat 64)) = ji7 := by have h_ := hji7_; rw [Int.one_mul] at h_; exact h_
      have hji7v : (ji5) ≤ 64 → (IntKind.i64.wrap (2 ^ (ji5).toNat)) = ji7 := fun hle_ => by have h_ := hji7z hle_; rw [Int.one_mul] at h_; exact h_
      have hji7y : (wrap64 (1 * 2 ^ min (ji5).toNat 64)) = ji7 := (i64_w _).symm.trans hji7_
      have hji7x : (ji5) ≤ 64 → (wrap64 (1 * 2 ^ (ji5).toNat)) = ji7 := fun h_ => (i64_w _).symm.trans (hji7z h_)
      replace H := Option.bind_eq_some_iff.mp H
      obtain ⟨t102, A80, H⟩ := H
      replace H : (some t102) = some r := H
      have A8 := Aside0.mk A80
      clear A80
      obtain rfl := Option.some.inj H
      go_enter Try.func34, Try.ntmps34
      go_wp2_with (first | ((with_reducible refine gate_callee (f := 39) rfl ?_); refine goesL_ (some 6) rfl rfl Try.func39 (by kernel_rfl) rfl #[.int .i64 a0] rfl (by (try simp only [List.map_toArray, List.map_cons, List.map_nil]); first | done | rfl | (simp only [List.length_drop, List.length_take]; rfl)) ?_; (with_reducible refine (spec_l01Bits.calls a0 true _ A3.out).mono ?_); rintro e w' ⟨rfl, ⟨nd, rfl⟩⟩; refine ⟨_, rfl, ?_⟩) | (go_at_call 40; (with_reducible refine (spec_l00In.calls a1 0 (wrap64 ((ji7) - 1)) t102 _ A8.out).mono ?_); rintro e w' ⟨rfl, ⟨nd, rfl⟩⟩))
      go_ret
      exact ⟨by first | rfl | (simp; done) | (simp only [← hji5, ← hji7] <;> (first | rfl | simp)) | (simp [*]; done), by repeat (first | exact Drawn0.refl _ | apply Drawn0.step)⟩
    · rw [if_neg c6] at H
      exact absurd H (by simp)
  · replace c4 := Bool.eq_false_iff.mpr c4
    subst c4
    have H1 : (some false) = some r := by rw [if_neg (show ¬ (false = true) by decide)] at H; exact H
    clear H
    have H := H1
    clear H1
    obtain rfl := Option.some.inj H
    go_enter Try.func34, Try.ntmps34
    go_wp2_with (first | ((with_reducible refine gate_callee (f := 39) rfl ?_); refine goesL_ (some 6) rfl rfl Try.func39 (by kernel_rfl) rfl #[.int .i64 a0] rfl (by (try simp only [List.map_toArray, List.map_cons, List.map_nil]); first | done | rfl | (simp only [List.length_drop, List.length_take]; rfl)) ?_; (with_reducible refine (spec_l01Bits.calls a0 false _ A3.out).mono ?_); rintro e w' ⟨rfl, ⟨nd, rfl⟩⟩; refine ⟨_, rfl, ?_⟩))
    go_ret
    exact ⟨by first | rfl | (simp; done) | (simp [*]; done), by repeat (first | exact Drawn0.refl _ | apply Drawn0.step)⟩

/-! ### spec_l01OpIs: function 51 -/
def spec_l01OpIs.f (a0 : Int) : Option (Bool) := (spec_l00In.f a0 0 17).bind fun t103 => (some t103)
set_option maxHeartbeats 8000000 in
set_option maxRecDepth 100000 in
theorem spec_l01OpIs.calls (a0 : Int) (r : Bool) (w : World) (h : spec_l01OpIs.f a0 = some r) :
    Calls Try.prog 51 #[.int .i64 a0] w fun e w' => e = .returned (.bool r) ∧ Drawn0 w w' := by
  have H : ((spec_l00In.f a0 0 17).bind fun t103 => (some t103)) = some r := h
  clear h
  replace H := Option.bind_eq_some_iff.mp H
  obtain ⟨t103, A20, H⟩ := H
  replace H : (some t103) = some r := H
  have A2 := Aside0.mk A20
  clear A20
  obtain rfl := Option.some.inj H
  go_enter Try.func51, Try.ntmps51
  go_wp2_with (first | ((with_reducible refine gate_callee (f := 40) rfl ?_); refine goesL_ (some 4) rfl rfl Try.func40 (by kernel_rfl) rfl #[.int .i64 a0, .int .i64 0, .int .i64 17] rfl (by (try simp only [List.map_toArray, List.map_cons, List.map_nil]); first | done | rfl | (simp only [List.length_drop, List.length_take]; rfl)) ?_; (with_reducible refine (spec_l00In.calls a0 0 17 t103 _ A2.out).mono ?_); rintro e w' ⟨rfl, ⟨nd, rfl⟩⟩; refine ⟨_, rfl, ?_⟩))
  go_ret
  exact ⟨by first | rfl | (simp; done) | (simp [*]; done), by repeat (first | exact Drawn0.refl _ | apply Drawn0.step)⟩

/-! ### spec_l01Wrap: function 41 -/
def spec_l01Wrap.f (a0 : Int) (a1 : Int) : Option (Int) := if 0 ≤ (IntKind.u64.wrap (a0)) then (some (Go.bits .and .i64 a1 (wrap64 ((shl .i64 1 (IntKind.u64.wrap (a0))) - 1)))) else (none)
set_option maxHeartbeats 8000000 in
set_option maxRecDepth 100000 in
theorem spec_l01Wrap.calls (a0 : Int) (a1 : Int) (r : Int) (w : World) (h : spec_l01Wrap.f a0 a1 = some r) :
    Calls Try.prog 41 #[.int .i64 a0, .int .i64 a1] w fun e w' => e = .returned (.int .i64 r) ∧ Drawn0 w w' := by
  have H : (if 0 ≤ (IntKind.u64.wrap (a0)) then (some (Go.bits .and .i64 a1 (wrap64 ((shl .i64 1 (IntKind.u64.wrap (a0))) - 1)))) else (none)) = some r := h
  clear h
  obtain ⟨ji3, hji3⟩ : ∃ j_ : Int, (IntKind.u64.wrap (a0)) = j_ := ⟨_, rfl⟩
  replace H : (if 0 ≤ (ji3) then (some (Go.bits .and .i64 a1 (wrap64 ((shl .i64 1 (ji3)) - 1)))) else (none)) = some r := by first | (rw [hji3] at H; exact H) | (simp only [hji3] at H ⊢; exact H)
  by_cases c4 : 0 ≤ (ji3)
  · rw [if_pos c4] at H
    have c4b0 := eq_true c4
    have c4b1 : decide (0 ≤ (ji3)) = true := decide_eq_true c4
    clear c4
    obtain ⟨ji5, hji5⟩ : ∃ j_ : Int, (shl .i64 1 (ji3)) = j_ := ⟨_, rfl⟩
    replace H : (some (Go.bits .and .i64 a1 (wrap64 ((ji5) - 1)))) = some r := by first | (rw [hji5] at H; exact H) | (simp only [hji5] at H ⊢; exact H)
    have hji5_ : (IntKind.i64.wrap (1 * 2 ^ min (ji3).toNat 64)) = ji5 := hji5
    have hji5z : (ji3) ≤ 64 → (IntKind.i64.wrap (1 * 2 ^ (ji3).toNat)) = ji5 := shl_small hji5
    have hji5u : (IntKind.i64.wrap (2 ^ min (ji3).toNat 64)) = ji5 := by have h_ := hji5_; rw [Int.one_mul] at h_; exact h_
    have hji5v : (ji3) ≤ 64 → (IntKind.i64.wrap (2 ^ (ji3).toNat)) = ji5 := fun hle_ => by have h_ := hji5z hle_; rw [Int.one_mul] at h_; exact h_
    have hji5y : (wrap64 (1 * 2 ^ min (ji3).toNat 64)) = ji5 := (i64_w _).symm.trans hji5_
    have hji5x : (ji3) ≤ 64 → (wrap64 (1 * 2 ^ (ji3).toNat)) = ji5 := fun h_ => (i64_w _).symm.trans (hji5z h_)
    obtain rfl := Option.some.inj H
    go_enter Try.func41, Try.ntmps41
    go_wp2
    go_ret
    exact ⟨by first | rfl | (simp; done) | (simp only [← hji3, ← hji5] <;> (first | rfl | simp)) | (simp [*]; done), by repeat (first | exact Drawn0.refl _ | apply Drawn0.step)⟩
  · rw [if_neg c4] at H
    exact absurd H (by simp)

/-! ### spec_l01Signed: function 45 -/
def spec_l01Signed.f (a0 : Int) (a1 : Int) : Option (Int) := if 0 ≤ (IntKind.u64.wrap (wrap64 (a0 - 1))) then (if (shr .i64 a1 (IntKind.u64.wrap (wrap64 (a0 - 1)))) = 1 then (if 0 ≤ (IntKind.u64.wrap (a0)) then (some (wrap64 (a1 - (shl .i64 1 (IntKind.u64.wrap (a0)))))) else (none)) else (some a1)) else (none)
set_option maxHeartbeats 8000000 in
set_option maxRecDepth 100000 in
theorem spec_l01Signed.calls (a0 : Int) (a1 : Int) (r : Int) (w : World) (h : spec_l01Signed.f a0 a1 = some r) :
    Calls Try.prog 45 #[.int .i64 a0, .int .i64 a1] w fun e w' => e = .returned (.int .i64 r) ∧ Drawn0 w w' := by
  have H : (if 0 ≤ (IntKind.u64.wrap (wrap64 (a0 - 1))) then (if (shr .i64 a1 (IntKind.u64.wrap (wrap64 (a0 - 1)))) = 1 then (if 0 ≤ (IntKind.u64.wrap (a0)) then (some (wrap64 (a1 - (shl .i64 1 (IntKind.u64.wrap (a0)))))) else (none)) else (some a1)) else (none)) = some r := h
  clear h
  obtain ⟨ji3, hji3⟩ : ∃ j_ : Int, (IntKind.u64.wrap (wrap64 (a0 - 1))) = j_ := ⟨_, rfl⟩
  replace H : (if 0 ≤ (ji3) then (if (shr .i64 a1 (ji3)) = 1 then (if 0 ≤ (IntKind.u64.wrap (a0)) then (some (wrap64 (a1 - (shl .i64 1 (IntKind.u64.wrap (a0)))))) else (none)) else (some a1)) else (none)) = some r := by first | (rw [hji3] at H; exact H) | (simp only [hji3] at H ⊢; exact H)
  by_cases c4 : 0 ≤ (ji3)
  · rw [if_pos c4] at H
    have c4b0 := eq_true c4
    have c4b1 : decide (0 ≤ (ji3)) = true := decide_eq_true c4
    clear c4
    obtain ⟨ji5, hji5⟩ : ∃ j_ : Int, (shr .i64 a1 (ji3)) = j_ := ⟨_, rfl⟩
    replace H : (if (ji5) = 1 then (if 0 ≤ (IntKind.u64.wrap (a0)) then (some (wrap64 (a1 - (shl .i64 1 (IntKind.u64.wrap (a0)))))) else (none)) else (some a1)) = some r := by first | (rw [hji5] at H; exact H) | (simp only [hji5] at H ⊢; exact H)
    have hji5_ : (a1 / 2 ^ min (ji3).toNat 64) = ji5 := hji5
    have hji5z : (ji3) ≤ 64 → (a1 / 2 ^ (ji3).toNat) = ji5 := shr_small hji5
    by_cases c6 : (ji5) = 1
    · rw [if_pos c6] at H
      have c6b0 : ((ji5) == 1) = true := beq_iff_eq.mpr c6
      have c6b1 : ((ji5) != 1) = false := bne_eq_false_iff_eq.mpr c6
      clear c6
      obtain ⟨ji7, hji7⟩ : ∃ j_ : Int, (IntKind.u64.wrap (a0)) = j_ := ⟨_, rfl⟩
      replace H : (if 0 ≤ (ji7) then (some (wrap64 (a1 - (shl .i64 1 (ji7))))) else (none)) = some r := by first | (rw [hji7] at H; exact H) | (simp only [hji7] at H ⊢; exact H)
      by_cases c8 : 0 ≤ (ji7)
      · rw [if_pos c8] at H
        have c8b0 := eq_true c8
        have c8b1 : decide (0 ≤ (ji7)) = true := decide_eq_true c8
        clear c8
        obtain ⟨ji9, hji9⟩ : ∃ j_ : Int, (shl .i64 1 (ji7)) = j_ := ⟨_, rfl⟩
        replace H : (some (wrap64 (a1 - (ji9)))) = some r := by first | (rw [hji9] at H; exact H) | (simp only [hji9] at H ⊢; exact H)
        have hji9_ : (IntKind.i64.wrap (1 * 2 ^ min (ji7).toNat 64)) = ji9 := hji9
        have hji9z : (ji7) ≤ 64 → (IntKind.i64.wrap (1 * 2 ^ (ji7).toNat)) = ji9 := shl_small hji9
        have hji9u : (IntKind.i64.wrap (2 ^ min (ji7).toNat 64)) = ji9 := by have h_ := hji9_; rw [Int.one_mul] at h_; exact h_
        have hji9v : (ji7) ≤ 64 → (IntKind.i64.wrap (2 ^ (ji7).toNat)) = ji9 := fun hle_ => by have h_ := hji9z hle_; rw [Int.one_mul] at h_; exact h_
        have hji9y : (wrap64 (1 * 2 ^ min (ji7).toNat 64)) = ji9 := (i64_w _).symm.trans hji9_
        have hji9x : (ji7) ≤ 64 → (wrap64 (1 * 2 ^ (ji7).toNat)) = ji9 := fun h_ => (i64_w _).symm.trans (hji9z h_)
        obtain rfl := Option.some.inj H
        go_enter Try.func45, Try.ntmps45
        go_wp2
        go_ret
        exact ⟨by first | rfl | (simp; done) | (simp only [← hji3, ← hji5, ← hji7, ← hji9] <;> (first | rfl | simp)) | (simp [*]; done), by repeat (first | exact Drawn0.refl _ | apply Drawn0.step)⟩
      · rw [if_neg c8] at H
        exact absurd H (by simp)
    · rw [if_neg c6] at H
      have c6b0 : ((ji5) == 1) = false := beq_eq_false_iff_ne.mpr c6
      have c6b1 : ((ji5) != 1) = true := bne_iff_ne.mpr c6
      obtain rfl := Option.some.inj H
      go_enter Try.func45, Try.ntmps45
      go_wp2
      go_ret
      exact ⟨by first | rfl | (simp; done) | (simp only [← hji3, ← hji5] <;> (first | rfl | simp)) | (simp [*]; done), by repeat (first | exact Drawn0.refl _ | apply Drawn0.step)⟩
  · rw [if_neg c4] at H
    exact absurd H (by simp)

/-! ### spec_l00Min: function 58 -/
def spec_l00Min.f (a0 : Int) (a1 : Int) : Option (Int) := if a0 < a1 then (some a0) else (some a1)
set_option maxHeartbeats 8000000 in
set_option maxRecDepth 100000 in
theorem spec_l00Min.calls (a0 : Int) (a1 : Int) (r : Int) (w : World) (h : spec_l00Min.f a0 a1 = some r) :
    Calls Try.prog 58 #[.int .i64 a0, .int .i64 a1] w fun e w' => e = .returned (.int .i64 r) ∧ Drawn0 w w' := by
  have H : (if a0 < a1 then (some a0) else (some a1)) = some r := h
  clear h
  by_cases c3 : a0 < a1
  · rw [if_pos c3] at H
    have c3b0 : decide (a0 < a1) = true := decide_eq_true c3
    clear c3
    obtain rfl := Option.some.inj H
    go_enter Try.func58, Try.ntmps58
    go_wp2
    go_ret
    exact ⟨by first | rfl | (simp; done) | (simp [*]; done), by repeat (first | exact Drawn0.refl _ | apply Drawn0.step)⟩
  · rw [if_neg c3] at H
    have c3b0 : decide (a0 < a1) = false := decide_eq_false c3
    clear c3
    obtain rfl := Option.some.inj H
    go_enter Try.func58, Try.ntmps58
    go_wp2
    go_ret
    exact ⟨by first | rfl | (simp; done) | (simp [*]; done), by repeat (first | exact Drawn0.refl _ | apply Drawn0.step)⟩

/-! ### spec_l00Max: function 59 -/
def spec_l00Max.f (a0 : Int) (a1 : Int) : Option (Int) := if a0 > a1 then (some a0) else (some a1)
set_option maxHeartbeats 8000000 in
set_option maxRecDepth 100000 in
theorem spec_l00Max.calls (a0 : Int) (a1 : Int) (r : Int) (w : World) (h : spec_l00Max.f a0 a1 = some r) :
    Calls Try.prog 59 #[.int .i64 a0, .int .i64 a1] w fun e w' => e = .returned (.int .i64 r) ∧ Drawn0 w w' := by
  have H : (if a0 > a1 then (some a0) else (some a1)) = some r := h
  clear h
  by_cases c3 : a0 > a1
  · rw [if_pos c3] at H
    have c3b0 : decide (a1 < a0) = true := decide_eq_true c3
    clear c3
    obtain rfl := Option.some.inj H
    go_enter Try.func59, Try.ntmps59
    go_wp2
    go_ret
    exact ⟨by first | rfl | (simp; done) | (simp [*]; done), by repeat (first | exact Drawn0.refl _ | apply Drawn0.step)⟩
  · rw [if_neg c3] at H
    have c3b0 : decide (a1 < a0) = false := decide_eq_false c3
    clear c3
    obtain rfl := Option.some.inj H
    go_enter Try.func59, Try.ntmps59
    go_wp2
    go_ret
    exact ⟨by first | rfl | (simp; done) | (simp [*]; done), by repeat (first | exact Drawn0.refl _ | apply Drawn0.step)⟩

/-! ### spec_l01Between: function 60 -/
def spec_l01Between.f (a0 : Int) (a1 : Int) (a2 : Int) : Option (Int) := (spec_l00Max.f a1 a0).bind fun t104 => ((spec_l00Min.f a2 t104).bind fun t105 => (some t105))
set_option maxHeartbeats 8000000 in
set_option maxRecDepth 100000 in
theorem spec_l01Between.calls (a0 : Int) (a1 : Int) (a2 : Int) (r : Int) (w : World) (h : spec_l01Between.f a0 a1 a2 = some r) :
    Calls Try.prog 60 #[.int .i64 a0, .int .i64 a1, .int .i64 a2] w fun e w' => e = .returned (.int .i64 r) ∧ Drawn0 w w' := by
  have H : ((spec_l00Max.f a1 a0).bind fun t104 => ((spec_l00Min.f a2 t104).bind fun t105 => (some t105))) = some r := h
  clear h
  replace H := Option.bind_eq_some_iff.mp H
  obtain ⟨t104, A40, H⟩ := H
  replace H : ((spec_l00Min.f a2 t104).bind fun t105 => (some t105)) = some r := H
  have A4 := Aside0.mk A40
  clear A40
  replace H := Option.bind_eq_some_iff.mp H
  obtain ⟨t105, A50, H⟩ := H
  replace H : (some t105) = some r := H
  have A5 := Aside0.mk A50
  clear A50
  obtain rfl := Option.some.inj H
  go_enter Try.func60, Try.ntmps60
  go_wp2_with (first | ((with_reducible refine gate_callee (f := 59) rfl ?_); refine goesL_ (some 10) rfl rfl Try.func59 (by kernel_rfl) rfl #[.int .i64 a1, .int .i64 a0] rfl (by (try simp only [List.map_toArray, List.map_cons, List.map_nil]); first | done | rfl | (simp only [List.length_drop, List.length_take]; rfl)) ?_; (with_reducible refine (spec_l00Max.calls a1 a0 t104 _ A4.out).mono ?_); rintro e w' ⟨rfl, ⟨nd, rfl⟩⟩; refine ⟨_, rfl, ?_⟩) | ((with_reducible refine gate_callee (f := 58) rfl ?_); refine goesL_ (some 11) rfl rfl Try.func58 (by kernel_rfl) rfl #[.int .i64 a2, .int .i64 t104] rfl (by (try simp only [List.map_toArray, List.map_cons, List.map_nil]); first | done | rfl | (simp only [List.length_drop, List.length_take]; rfl)) ?_; (with_reducible refine (spec_l00Min.calls a2 t104 t105 _ A5.out).mono ?_); rintro e w' ⟨rfl, ⟨nd, rfl⟩⟩; refine ⟨_, rfl, ?_⟩))
  go_ret
  exact ⟨by first | rfl | (simp; done) | (simp [*]; done), by repeat (first | exact Drawn0.refl _ | apply Drawn0.step)⟩

/-! ### spec_l01Do: function 52 -/
def spec_l01Do.f (a0 : Int) (a1 : Int) (a2 : Int) (a3 : Int) : Option (Int) := if 0 ≤ (IntKind.u64.wrap (a1)) then (if 0 ≤ (IntKind.u64.wrap (wrap64 (a1 - 1))) then ((spec_l01Signed.f a1 a2).bind fun t106 => ((spec_l01Signed.f a1 a3).bind fun t107 => (if a1 = 0 then (none) else (if a0 = 0 then ((spec_l01Wrap.f a1 (wrap64 (a2 + a3))).bind fun t108 => (some t108)) else (if a0 = 1 then ((spec_l01Wrap.f a1 (wrap64 (a2 - a3))).bind fun t109 => (some t109)) else (if a0 = 2 then ((spec_l01Wrap.f a1 (wrap64 (a2 * a3))).bind fun t110 => (some t110)) else (if a0 = 3 then (some (Go.bits .and .i64 a2 a3)) else (if a0 = 4 then (some (Go.bits .or .i64 a2 a3)) else (if a0 = 5 then (some (Go.bits .xor .i64 a2 a3)) else (if a0 = 6 then ((spec_l00Min.f a2 a3).bind fun t111 => (some t111)) else (if a0 = 7 then ((spec_l00Max.f a2 a3).bind fun t112 => (some t112)) else (if a0 = 8 then ((spec_l00Min.f t106 t107).bind fun t113 => ((spec_l01Wrap.f a1 t113).bind fun t114 => (some t114))) else (if a0 = 9 then ((spec_l00Max.f t106 t107).bind fun t115 => ((spec_l01Wrap.f a1 t115).bind fun t116 => (some t116))) else (if a0 = 10 then ((spec_l00Min.f (wrap64 (a2 + a3)) (wrap64 ((shl .i64 1 (IntKind.u64.wrap (a1))) - 1))).bind fun t117 => (some t117)) else (if a0 = 11 then ((spec_l01Between.f (wrap64 (t106 + t107)) (wrap64 (-(shl .i64 1 (IntKind.u64.wrap (wrap64 (a1 - 1)))))) (wrap64 ((shl .i64 1 (IntKind.u64.wrap (wrap64 (a1 - 1)))) - 1))).bind fun t118 => ((spec_l01Wrap.f a1 t118).bind fun t119 => (some t119))) else (if a0 = 12 then ((spec_l00Max.f (wrap64 (a2 - a3)) 0).bind fun t120 => (some t120)) else (if a0 = 13 then ((spec_l01Between.f (wrap64 (t106 - t107)) (wrap64 (-(shl .i64 1 (IntKind.u64.wrap (wrap64 (a1 - 1)))))) (wrap64 ((shl .i64 1 (IntKind.u64.wrap (wrap64 (a1 - 1)))) - 1))).bind fun t121 => ((spec_l01Wrap.f a1 t121).bind fun t122 => (some t122))) else (if a0 = 14 then (some (wrap64 (Int.tdiv (wrap64 ((wrap64 (a2 + a3)) + 1)) 2))) else (if a0 = 15 then (if 0 ≤ (IntKind.u64.wrap (Int.tmod a3 a1)) then ((spec_l01Wrap.f a1 (shl .i64 a2 (IntKind.u64.wrap (Int.tmod a3 a1)))).bind fun t123 => (some t123)) else (none)) else (if a0 = 16 then (if 0 ≤ (IntKind.u64.wrap (Int.tmod a3 a1)) then (some (shr .i64 a2 (IntKind.u64.wrap (Int.tmod a3 a1)))) else (none)) else (if 0 ≤ (IntKind.u64.wrap (Int.tmod a3 a1)) then ((spec_l01Wrap.f a1 (shr .i64 t106 (IntKind.u64.wrap (Int.tmod a3 a1)))).bind fun t124 => (some t124)) else (none)))))))))))))))))))))) else (none)) else (none)
set_option maxHeartbeats 8000000 in
set_option maxRecDepth 100000 in
theorem spec_l01Do.calls (a0 : Int) (a1 : Int) (a2 : Int) (a3 : Int) (r : Int) (w : World) (h : spec_l01Do.f a0 a1 a2 a3 = some r) :
    Calls Try.prog 52 #[.int .i64 a0, .int .i64 a1, .int .i64 a2, .int .i64 a3] w fun e w' => e = .returned (.int .i64 r) ∧ Drawn0 w w' := by
  have H : (if 0 ≤ (IntKind.u64.wrap (a1)) then (if 0 ≤ (IntKind.u64.wrap (wrap64 (a1 - 1))) then ((spec_l01Signed.f a1 a2).bind fun t106 => ((spec_l01Signed.f a1 a3).bind fun t107 => (if a1 = 0 then (none) else (if a0 = 0 then ((spec_l01Wrap.f a1 (wrap64 (a2 + a3))).bind fun t108 => (some t108)) else (if a0 = 1 then ((spec_l01Wrap.f a1 (wrap64 (a2 - a3))).bind fun t109 => (some t109)) else (if a0 = 2 then ((spec_l01Wrap.f a1 (wrap64 (a2 * a3))).bind fun t110 => (some t110)) else (if a0 = 3 then (some (Go.bits .and .i64 a2 a3)) else (if a0 = 4 then (some (Go.bits .or .i64 a2 a3)) else (if a0 = 5 then (some (Go.bits .xor .i64 a2 a3)) else (if a0 = 6 then ((spec_l00Min.f a2 a3).bind fun t111 => (some t111)) else (if a0 = 7 then ((spec_l00Max.f a2 a3).bind fun t112 => (some t112)) else (if a0 = 8 then ((spec_l00Min.f t106 t107).bind fun t113 => ((spec_l01Wrap.f a1 t113).bind fun t114 => (some t114))) else (if a0 = 9 then ((spec_l00Max.f t106 t107).bind fun t115 => ((spec_l01Wrap.f a1 t115).bind fun t116 => (some t116))) else (if a0 = 10 then ((spec_l00Min.f (wrap64 (a2 + a3)) (wrap64 ((shl .i64 1 (IntKind.u64.wrap (a1))) - 1))).bind fun t117 => (some t117)) else (if a0 = 11 then ((spec_l01Between.f (wrap64 (t106 + t107)) (wrap64 (-(shl .i64 1 (IntKind.u64.wrap (wrap64 (a1 - 1)))))) (wrap64 ((shl .i64 1 (IntKind.u64.wrap (wrap64 (a1 - 1)))) - 1))).bind fun t118 => ((spec_l01Wrap.f a1 t118).bind fun t119 => (some t119))) else (if a0 = 12 then ((spec_l00Max.f (wrap64 (a2 - a3)) 0).bind fun t120 => (some t120)) else (if a0 = 13 then ((spec_l01Between.f (wrap64 (t106 - t107)) (wrap64 (-(shl .i64 1 (IntKind.u64.wrap (wrap64 (a1 - 1)))))) (wrap64 ((shl .i64 1 (IntKind.u64.wrap (wrap64 (a1 - 1)))) - 1))).bind fun t121 => ((spec_l01Wrap.f a1 t121).bind fun t122 => (some t122))) else (if a0 = 14 then (some (wrap64 (Int.tdiv (wrap64 ((wrap64 (a2 + a3)) + 1)) 2))) else (if a0 = 15 then (if 0 ≤ (IntKind.u64.wrap (Int.tmod a3 a1)) then ((spec_l01Wrap.f a1 (shl .i64 a2 (IntKind.u64.wrap (Int.tmod a3 a1)))).bind fun t123 => (some t123)) else (none)) else (if a0 = 16 then (if 0 ≤ (IntKind.u64.wrap (Int.tmod a3 a1)) then (some (shr .i64 a2 (IntKind.u64.wrap (Int.tmod a3 a1)))) else (none)) else (if 0 ≤ (IntKind.u64.wrap (Int.tmod a3 a1)) then ((spec_l01Wrap.f a1 (shr .i64 t106 (IntKind.u64.wrap (Int.tmod a3 a1)))).bind fun t124 => (some t124)) else (none)))))))))))))))))))))) else (none)) else (none)) = some r := h
  clear h
  obtain ⟨ji5, hji5⟩ : ∃ j_ : Int, (IntKind.u64.wrap (a1)) = j_ := ⟨_, rfl⟩
  replace H : (if 0 ≤ (ji5) then (if 0 ≤ (IntKind.u64.wrap (wrap64 (a1 - 1))) then ((spec_l01Signed.f a1 a2).bind fun t106 => ((spec_l01Signed.f a1 a3).bind fun t107 => (if a1 = 0 then (none) else (if a0 = 0 then ((spec_l01Wrap.f a1 (wrap64 (a2 + a3))).bind fun t108 => (some t108)) else (if a0 = 1 then ((spec_l01Wrap.f a1 (wrap64 (a2 - a3))).bind fun t109 => (some t109)) else (if a0 = 2 then ((spec_l01Wrap.f a1 (wrap64 (a2 * a3))).bind fun t110 => (some t110)) else (if a0 = 3 then (some (Go.bits .and .i64 a2 a3)) else (if a0 = 4 then (some (Go.bits .or .i64 a2 a3)) else (if a0 = 5 then (some (Go.bits .xor .i64 a2 a3)) else (if a0 = 6 then ((spec_l00Min.f a2 a3).bind fun t111 => (some t111)) else (if a0 = 7 then ((spec_l00Max.f a2 a3).bind fun t112 => (some t112)) else (if a0 = 8 then ((spec_l00Min.f t106 t107).bind fun t113 => ((spec_l01Wrap.f a1 t113).bind fun t114 => (some t114))) else (if a0 = 9 then ((spec_l00Max.f t106 t107).bind fun t115 => ((spec_l01Wrap.f a1 t115).bind fun t116 => (some t116))) else (if a0 = 10 then ((spec_l00Min.f (wrap64 (a2 + a3)) (wrap64 ((shl .i64 1 (ji5)) - 1))).bind fun t117 => (some t117)) else (if a0 = 11 then ((spec_l01Between.f (wrap64 (t106 + t107)) (wrap64 (-(shl .i64 1 (IntKind.u64.wrap (wrap64 (a1 - 1)))))) (wrap64 ((shl .i64 1 (IntKind.u64.wrap (wrap64 (a1 - 1)))) - 1))).bind fun t118 => ((spec_l01Wrap.f a1 t118).bind fun t119 => (some t119))) else (if a0 = 12 then ((spec_l00Max.f (wrap64 (a2 - a3)) 0).bind fun t120 => (some t120)) else (if a0 = 13 then ((spec_l01Between.f (wrap64 (t106 - t107)) (wrap64 (-(shl .i64 1 (IntKind.u64.wrap (wrap64 (a1 - 1)))))) (wrap64 ((shl .i64 1 (IntKind.u64.wrap (wrap64 (a1 - 1)))) - 1))).bind fun t121 => ((spec_l01Wrap.f a1 t121).bind fun t122 => (some t122))) else (if a0 = 14 then (some (wrap64 (Int.tdiv (wrap64 ((wrap64 (a2 + a3)) + 1)) 2))) else (if a0 = 15 then (if 0 ≤ (IntKind.u64.wrap (Int.tmod a3 a1)) then ((spec_l01Wrap.f a1 (shl .i64 a2 (IntKind.u64.wrap (Int.tmod a3 a1)))).bind fun t123 => (some t123)) else (none)) else (if a0 = 16 then (if 0 ≤ (IntKind.u64.wrap (Int.tmod a3 a1)) then (some (shr .i64 a2 (IntKind.u64.wrap (Int.tmod a3 a1)))) else (none)) else (if 0 ≤ (IntKind.u64.wrap (Int.tmod a3 a1)) then ((spec_l01Wrap.f a1 (shr .i64 t106 (IntKind.u64.wrap (Int.tmod a3 a1)))).bind fun t124 => (some t124)) else (none)))))))))))))))))))))) else (none)) else (none)) = some r := by first | (rw [hji5] at H; exact H) | (simp only [hji5] at H ⊢; exact H)
  by_cases c6 : 0 ≤ (ji5)
  · rw [if_pos c6] at H
    have c6b0 := eq_true c6
    have c6b1 : decide (0 ≤ (ji5)) = true := decide_eq_true c6
    clear c6
    obtain ⟨ji7, hji7⟩ : ∃ j_ : Int, (shl .i64 1 (ji5)) = j_ := ⟨_, rfl⟩
    replace H : (if 0 ≤ (IntKind.u64.wrap (wrap64 (a1 - 1))) then ((spec_l01Signed.f a1 a2).bind fun t106 => ((spec_l01Signed.f a1 a3).bind fun t107 => (if a1 = 0 then (none) else (if a0 = 0 then ((spec_l01Wrap.f a1 (wrap64 (a2 + a3))).bind fun t108 => (some t108)) else (if a0 = 1 then ((spec_l01Wrap.f a1 (wrap64 (a2 - a3))).bind fun t109 => (some t109)) else (if a0 = 2 then ((spec_l01Wrap.f a1 (wrap64 (a2 * a3))).bind fun t110 => (some t110)) else (if a0 = 3 then (some (Go.bits .and .i64 a2 a3)) else (if a0 = 4 then (some (Go.bits .or .i64 a2 a3)) else (if a0 = 5 then (some (Go.bits .xor .i64 a2 a3)) else (if a0 = 6 then ((spec_l00Min.f a2 a3).bind fun t111 => (some t111)) else (if a0 = 7 then ((spec_l00Max.f a2 a3).bind fun t112 => (some t112)) else (if a0 = 8 then ((spec_l00Min.f t106 t107).bind fun t113 => ((spec_l01Wrap.f a1 t113).bind fun t114 => (some t114))) else (if a0 = 9 then ((spec_l00Max.f t106 t107).bind fun t115 => ((spec_l01Wrap.f a1 t115).bind fun t116 => (some t116))) else (if a0 = 10 then ((spec_l00Min.f (wrap64 (a2 + a3)) (wrap64 ((ji7) - 1))).bind fun t117 => (some t117)) else (if a0 = 11 then ((spec_l01Between.f (wrap64 (t106 + t107)) (wrap64 (-(shl .i64 1 (IntKind.u64.wrap (wrap64 (a1 - 1)))))) (wrap64 ((shl .i64 1 (IntKind.u64.wrap (wrap64 (a1 - 1)))) - 1))).bind fun t118 => ((spec_l01Wrap.f a1 t118).bind fun t119 => (some t119))) else (if a0 = 12 then ((spec_l00Max.f (wrap64 (a2 - a3)) 0).bind fun t120 => (some t120)) else (if a0 = 13 then ((spec_l01Between.f (wrap64 (t106 - t107)) (wrap64 (-(shl .i64 1 (IntKind.u64.wrap (wrap64 (a1 - 1)))))) (wrap64 ((shl .i64 1 (IntKind.u64.wrap (wrap64 (a1 - 1)))) - 1))).bind fun t121 => ((spec_l01Wrap.f a1 t121).bind fun t122 => (some t122))) else (if a0 = 14 then (some (wrap64 (Int.tdiv (wrap64 ((wrap64 (a2 + a3)) + 1)) 2))) else (if a0 = 15 then (if 0 ≤ (IntKind.u64.wrap (Int.tmod a3 a1)) then ((spec_l01Wrap.f a1 (shl .i64 a2 (IntKind.u64.wrap (Int.tmod a3 a1)))).bind fun t123 => (some t123)) else (none)) else (if a0 = 16 then (if 0 ≤ (IntKind.u64.wrap (Int.tmod a3 a1)) then (some (shr .i64 a2 (IntKind.u64.wrap (Int.tmod a3 a1)))) else (none)) else (if 0 ≤ (IntKind.u64.wrap (Int.tmod a3 a1)) then ((spec_l01Wrap.f a1 (shr .i64 t106 (IntKind.u64.wrap (Int.tmod a3 a1)))).bind fun t124 => (some t124)) else (none)))))))))))))))))))))) else (none)) = some r := by first | (rw [hji7] at H; exact H) | (simp only [hji7] at H ⊢; exact H)
    have hji7_ : (IntKind.i64.wrap (1 * 2 ^ min (ji5).toNat 64)) = ji7 := hji7
    have hji7z : (ji5) ≤ 64 → (IntKind.i64.wrap (1 * 2 ^ (ji5).toNat)) = ji7 := shl_small hji7
    have hji7u : (IntKind.i64.wrap (2 ^ min (ji5).toNat 64)) = ji7 := by have h_ := hji7_; rw [Int.one_mul] at h_; exact h_
    have hji7v : (ji5) ≤ 64 → (IntKind.i64.wrap (2 ^ (ji5).toNat)) = ji7 := fun hle_ => by have h_ := hji7z hle_; rw [Int.one_mul] at h_; exact h_
    have hji7y : (wrap64 (1 * 2 ^ min (ji5).toNat 64)) = ji7 := (i64_w _).symm.trans hji7_
    have hji7x : (ji5) ≤ 64 → (wrap64 (1 * 2 ^ (ji5).toNat)) = ji7 := fun h_ => (i64_w _).symm.trans (hji7z h_)
    obtain ⟨ji8, hji8⟩ : ∃ j_ : Int, (IntKind.u64.wrap (wrap64 (a1 - 1))) = j_ := ⟨_, rfl⟩
    replace H : (if 0 ≤ (ji8) then ((spec_l01Signed.f a1 a2).bind fun t106 => ((spec_l01Signed.f a1 a3).bind fun t107 => (if a1 = 0 then (none) else (if a0 = 0 then ((spec_l01Wrap.f a1 (wrap64 (a2 + a3))).bind fun t108 => (some t108)) else (if a0 = 1 then ((spec_l01Wrap.f a1 (wrap64 (a2 - a3))).bind fun t109 => (some t109)) else (if a0 = 2 then ((spec_l01Wrap.f a1 (wrap64 (a2 * a3))).bind fun t110 => (some t110)) else (if a0 = 3 then (some (Go.bits .and .i64 a2 a3)) else (if a0 = 4 then (some (Go.bits .or .i64 a2 a3)) else (if a0 = 5 then (some (Go.bits .xor .i64 a2 a3)) else (if a0 = 6 then ((spec_l00Min.f a2 a3).bind fun t111 => (some t111)) else (if a0 = 7 then ((spec_l00Max.f a2 a3).bind fun t112 => (some t112)) else (if a0 = 8 then ((spec_l00Min.f t106 t107).bind fun t113 => ((spec_l01Wrap.f a1 t113).bind fun t114 => (some t114))) else (if a0 = 9 then ((spec_l00Max.f t106 t107).bind fun t115 => ((spec_l01Wrap.f a1 t115).bind fun t116 => (some t116))) else (if a0 = 10 then ((spec_l00Min.f (wrap64 (a2 + a3)) (wrap64 ((ji7) - 1))).bind fun t117 => (some t117)) else (if a0 = 11 then ((spec_l01Between.f (wrap64 (t106 + t107)) (wrap64 (-(shl .i64 1 (ji8)))) (wrap64 ((shl .i64 1 (ji8)) - 1))).bind fun t118 => ((spec_l01Wrap.f a1 t118).bind fun t119 => (some t119))) else (if a0 = 12 then ((spec_l00Max.f (wrap64 (a2 - a3)) 0).bind fun t120 => (some t120)) else (if a0 = 13 then ((spec_l01Between.f (wrap64 (t106 - t107)) (wrap64 (-(shl .i64 1 (ji8)))) (wrap64 ((shl .i64 1 (ji8)) - 1))).bind fun t121 => ((spec_l01Wrap.f a1 t121).bind fun t122 => (some t122))) else (if a0 = 14 then (some (wrap64 (Int.tdiv (wrap64 ((wrap64 (a2 + a3)) + 1)) 2))) else (if a0 = 15 then (if 0 ≤ (IntKind.u64.wrap (Int.tmod a3 a1)) then ((spec_l01Wrap.f a1 (shl .i64 a2 (IntKind.u64.wrap (Int.tmod a3 a1)))).bind fun t123 => (some t123)) else (none)) else (if a0 = 16 then (if 0 ≤ (IntKind.u64.wrap (Int.tmod a3 a1)) then (some (shr .i64 a2 (IntKind.u64.wrap (Int.tmod a3 a1)))) else (none)) else (if 0 ≤ (IntKind.u64.wrap (Int.tmod a3 a1)) then ((spec_l01Wrap.f a1 (shr .i64 t106 (IntKind.u64.wrap (Int.tmod a3 a1)))).bind fun t124 => (some t124)) else (none)))))))))))))))))))))) else (none)) = some r := by first | (rw [hji8] at H; exact H) | (simp only [hji8] at H ⊢; exact H)
    by_cases c9 : 0 ≤ (ji8)
    · rw [if_pos c9] at H
      have c9b0 := eq_true c9
      have c9b1 : decide (0 ≤ (ji8)) = true := decide_eq_true c9
      clear c9
      obtain ⟨ji10, hji10⟩ : ∃ j_ : Int, (shl .i64 1 (ji8)) = j_ := ⟨_, rfl⟩
      replace H : ((spec_l01Signed.f a1 a2).bind fun t106 => ((spec_l01Signed.f a1 a3).bind fun t107 => (if a1 = 0 then (none) else (if a0 = 0 then ((spec_l01Wrap.f a1 (wrap64 (a2 + a3))).bind fun t108 => (some t108)) else (if a0 = 1 then ((spec_l01Wrap.f a1 (wrap64 (a2 - a3))).bind fun t109 => (some t109)) else (if a0 = 2 then ((spec_l01Wrap.f a1 (wrap64 (a2 * a3))).bind fun t110 => (some t110)) else (if a0 = 3 then (some (Go.bits .and .i64 a2 a3)) else (if a0 = 4 then (some (Go.bits .or .i64 a2 a3)) else (if a0 = 5 then (some (Go.bits .xor .i64 a2 a3)) else (if a0 = 6 then ((spec_l00Min.f a2 a3).bind fun t111 => (some t111)) else (if a0 = 7 then ((spec_l00Max.f a2 a3).bind fun t112 => (some t112)) else (if a0 = 8 then ((spec_l00Min.f t106 t107).bind fun t113 => ((spec_l01Wrap.f a1 t113).bind fun t114 => (some t114))) else (if a0 = 9 then ((spec_l00Max.f t106 t107).bind fun t115 => ((spec_l01Wrap.f a1 t115).bind fun t116 => (some t116))) else (if a0 = 10 then ((spec_l00Min.f (wrap64 (a2 + a3)) (wrap64 ((ji7) - 1))).bind fun t117 => (some t117)) else (if a0 = 11 then ((spec_l01Between.f (wrap64 (t106 + t107)) (wrap64 (-(ji10))) (wrap64 ((ji10) - 1))).bind fun t118 => ((spec_l01Wrap.f a1 t118).bind fun t119 => (some t119))) else (if a0 = 12 then ((spec_l00Max.f (wrap64 (a2 - a3)) 0).bind fun t120 => (some t120)) else (if a0 = 13 then ((spec_l01Between.f (wrap64 (t106 - t107)) (wrap64 (-(ji10))) (wrap64 ((ji10) - 1))).bind fun t121 => ((spec_l01Wrap.f a1 t121).bind fun t122 => (some t122))) else (if a0 = 14 then (some (wrap64 (Int.tdiv (wrap64 ((wrap64 (a2 + a3)) + 1)) 2))) else (if a0 = 15 then (if 0 ≤ (IntKind.u64.wrap (Int.tmod a3 a1)) then ((spec_l01Wrap.f a1 (shl .i64 a2 (IntKind.u64.wrap (Int.tmod a3 a1)))).bind fun t123 => (some t123)) else (none)) else (if a0 = 16 then (if 0 ≤ (IntKind.u64.wrap (Int.tmod a3 a1)) then (some (shr .i64 a2 (IntKind.u64.wrap (Int.tmod a3 a1)))) else (none)) else (if 0 ≤ (IntKind.u64.wrap (Int.tmod a3 a1)) then ((spec_l01Wrap.f a1 (shr .i64 t106 (IntKind.u64.wrap (Int.tmod a3 a1)))).bind fun t124 => (some t124)) else (none)))))))))))))))))))))) = some r := by first | (rw [hji10] at H; exact H) | (simp only [hji10] at H ⊢; exact H)
      have hji10_ : (IntKind.i64.wrap (1 * 2 ^ min (ji8).toNat 64)) = ji10 := hji10
      have hji10z : (ji8) ≤ 64 → (IntKind.i64.wrap (1 * 2 ^ (ji8).toNat)) = ji10 := shl_small hji10
      have hji10u : (IntKind.i64.wrap (2 ^ min (ji8).toNat 64)) = ji10 := by have h_ := hji10_; rw [Int.one_mul] at h_; exact h_
      have hji10v : (ji8) ≤ 64 → (IntKind.i64.wrap (2 ^ (ji8).toNat)) = ji10 := fun hle_ => by have h_ := hji10z hle_; rw [Int.one_mul] at h_; exact h_
      have hji10y : (wrap64 (1 * 2 ^ min (ji8).toNat 64)) = ji10 := (i64_w _).symm.trans hji10_
      have hji10x : (ji8) ≤ 64 → (wrap64 (1 * 2 ^ (ji8).toNat)) = ji10 := fun h_ => (i64_w _).symm.trans (hji10z h_)
      replace H := Option.bind_eq_some_iff.mp H
      obtain ⟨t106, A110, H⟩ := H
      replace H : ((spec_l01Signed.f a1 a3).bind fun t107 => (if a1 = 0 then (none) else (if a0 = 0 then ((spec_l01Wrap.f a1 (wrap64 (a2 + a3))).bind fun t108 => (some t108)) else (if a0 = 1 then ((spec_l01Wrap.f a1 (wrap64 (a2 - a3))).bind fun t109 => (some t109)) else (if a0 = 2 then ((spec_l01Wrap.f a1 (wrap64 (a2 * a3))).bind fun t110 => (some t110)) else (if a0 = 3 then (some (Go.bits .and .i64 a2 a3)) else (if a0 = 4 then (some (Go.bits .or .i64 a2 a3)) else (if a0 = 5 then (some (Go.bits .xor .i64 a2 a3)) else (if a0 = 6 then ((spec_l00Min.f a2 a3).bind fun t111 => (some t111)) else (if a0 = 7 then ((spec_l00Max.f a2 a3).bind fun t112 => (some t112)) else (if a0 = 8 then ((spec_l00Min.f t106 t107).bind fun t113 => ((spec_l01Wrap.f a1 t113).bind fun t114 => (some t114))) else (if a0 = 9 then ((spec_l00Max.f t106 t107).bind fun t115 => ((spec_l01Wrap.f a1 t115).bind fun t116 => (some t116))) else (if a0 = 10 then ((spec_l00Min.f (wrap64 (a2 + a3)) (wrap64 ((ji7) - 1))).bind fun t117 => (some t117)) else (if a0 = 11 then ((spec_l01Between.f (wrap64 (t106 + t107)) (wrap64 (-(ji10))) (wrap64 ((ji10) - 1))).bind fun t118 => ((spec_l01Wrap.f a1 t118).bind fun t119 => (some t119))) else (if a0 = 12 then ((spec_l00Max.f (wrap64 (a2 - a3)) 0).bind fun t120 => (some t120)) else (if a0 = 13 then ((spec_l01Between.f (wrap64 (t106 - t107)) (wrap64 (-(ji10))) (wrap64 ((ji10) - 1))).bind fun t121 => ((spec_l01Wrap.f a1 t121).bind fun t122 => (some t122))) else (if a0 = 14 then (some (wrap64 (Int.tdiv (wrap64 ((wrap64 (a2 + a3)) + 1)) 2))) else (if a0 = 15 then (if 0 ≤ (IntKind.u64.wrap (Int.tmod a3 a1)) then ((spec_l01Wrap.f a1 (shl .i64 a2 (IntKind.u64.wrap (Int.tmod a3 a1)))).bind fun t123 => (some t123)) else (none)) else (if a0 = 16 then (if 0 ≤ (IntKind.u64.wrap (Int.tmod a3 a1)) then (some (shr .i64 a2 (IntKind.u64.wrap (Int.tmod a3 a1)))) else (none)) else (if 0 ≤ (IntKind.u64.wrap (Int.tmod a3 a1)) then ((spec_l01Wrap.f a1 (shr .i64 t106 (IntKind.u64.wrap (Int.tmod a3 a1)))).bind fun t124 => (some t124)) else (none))))))))))))))))))))) = some r := H
      have A11 := Aside0.mk A110
      clear A110
      replace H := Option.bind_eq_some_iff.mp H
      obtain ⟨t107, A120, H⟩ := H
      replace H : (if a1 = 0 then (none) else (if a0 = 0 then ((spec_l01Wrap.f a1 (wrap64 (a2 + a3))).bind fun t108 => (some t108)) else (if a0 = 1 then ((spec_l01Wrap.f a1 (wrap64 (a2 - a3))).bind fun t109 => (some t109)) else (if a0 = 2 then ((spec_l01Wrap.f a1 (wrap64 (a2 * a3))).bind fun t110 => (some t110)) else (if a0 = 3 then (some (Go.bits .and .i64 a2 a3)) else (if a0 = 4 then (some (Go.bits .or .i64 a2 a3)) else (if a0 = 5 then (some (Go.bits .xor .i64 a2 a3)) else (if a0 = 6 then ((spec_l00Min.f a2 a3).bind fun t111 => (some t111)) else (if a0 = 7 then ((spec_l00Max.f a2 a3).bind fun t112 => (some t112)) else (if a0 = 8 then ((spec_l00Min.f t106 t107).bind fun t113 => ((spec_l01Wrap.f a1 t113).bind fun t114 => (some t114))) else (if a0 = 9 then ((spec_l00Max.f t106 t107).bind fun t115 => ((spec_l01Wrap.f a1 t115).bind fun t116 => (some t116))) else (if a0 = 10 then ((spec_l00Min.f (wrap64 (a2 + a3)) (wrap64 ((ji7) - 1))).bind fun t117 => (some t117)) else (if a0 = 11 then ((spec_l01Between.f (wrap64 (t106 + t107)) (wrap64 (-(ji10))) (wrap64 ((ji10) - 1))).bind fun t118 => ((spec_l01Wrap.f a1 t118).bind fun t119 => (some t119))) else (if a0 = 12 then ((spec_l00Max.f (wrap64 (a2 - a3)) 0).bind fun t120 => (some t120)) else (if a0 = 13 then ((spec_l01Between.f (wrap64 (t106 - t107)) (wrap64 (-(ji10))) (wrap64 ((ji10) - 1))).bind fun t121 => ((spec_l01Wrap.f a1 t121).bind fun t122 => (some t122))) else (if a0 = 14 then (some (wrap64 (Int.tdiv (wrap64 ((wrap64 (a2 + a3)) + 1)) 2))) else (if a0 = 15 then (if 0 ≤ (IntKind.u64.wrap (Int.tmod a3 a1)) then ((spec_l01Wrap.f a1 (shl .i64 a2 (IntKind.u64.wrap (Int.tmod a3 a1)))).bind fun t123 => (some t123)) else (none)) else (if a0 = 16 then (if 0 ≤ (IntKind.u64.wrap (Int.tmod a3 a1)) then (some (shr .i64 a2 (IntKind.u64.wrap (Int.tmod a3 a1)))) else (none)) else (if 0 ≤ (IntKind.u64.wrap (Int.tmod a3 a1)) then ((spec_l01Wrap.f a1 (shr .i64 t106 (IntKind.u64.wrap (Int.tmod a3 a1)))).bind fun t124 => (some t124)) else (none)))))))))))))))))))) = some r := H
      have A12 := Aside0.mk A120
      clear A120
      by_cases c13 : a1 = 0
      · rw [if_pos c13] at H
        exact absurd H (by simp)
      · rw [if_neg c13] at H
        have c13b0 : (a1 == 0) = false := beq_eq_false_iff_ne.mpr c13
        have c13b1 : (a1 != 0) = true := bne_iff_ne.mpr c13
        by_cases c14 : a0 = 0
        · rw [if_pos c14] at H
          have c14b0 : (a0 == 0) = true := beq_iff_eq.mpr c14
          have c14b1 : (a0 != 0) = false := bne_eq_false_iff_eq.mpr c14
          clear c14
          replace H := Option.bind_eq_some_iff.mp H
          obtain ⟨t108, A150, H⟩ := H
          replace H : (some t108) = some r := H
          have A15 := Aside0.mk A150
          clear A150
          obtain rfl := Option.some.inj H
          go_enter Try.func52, Try.ntmps52
          go_wp2_with (first | ((with_reducible refine gate_callee (f := 45) rfl ?_); refine goesL_ (some 24) rfl rfl Try.func45 (by kernel_rfl) rfl #[.int .i64 a1, .int .i64 a2] rfl (by (try simp only [List.map_toArray, List.map_cons, List.map_nil]); first | done | rfl | (simp only [List.length_drop, List.length_take]; rfl)) ?_; (with_reducible refine (spec_l01Signed.calls a1 a2 t106 _ A11.out).mono ?_); rintro e w' ⟨rfl, ⟨nd, rfl⟩⟩; refine ⟨_, rfl, ?_⟩) | ((with_reducible refine gate_callee (f := 45) rfl ?_); refine goesL_ (some 27) rfl rfl Try.func45 (by kernel_rfl) rfl #[.int .i64 a1, .int .i64 a3] rfl (by (try simp only [List.map_toArray, List.map_cons, List.map_nil]); first | done | rfl | (simp only [List.length_drop, List.length_take]; rfl)) ?_; (with_reducible refine (spec_l01Signed.calls a1 a3 t107 _ A12.out).mono ?_); rintro e w' ⟨rfl, ⟨nd, rfl⟩⟩; refine ⟨_, rfl, ?_⟩) | ((with_reducible refine gate_callee (f := 41) rfl ?_); refine goesL_ (some 39) rfl rfl Try.func41 (by kernel_rfl) rfl #[.int .i64 a1, .int .i64 (wrap64 (a2 + a3))] rfl (by (try simp only [List.map_toArray, List.map_cons, List.map_nil]); first | done | rfl | (simp only [List.length_drop, List.length_take]; rfl)) ?_; (with_reducible refine (spec_l01Wrap.calls a1 (wrap64 (a2 + a3)) t108 _ A15.out).mono ?_); rintro e w' ⟨rfl, ⟨nd, rfl⟩⟩; refine ⟨_, rfl, ?_⟩))
          go_ret
          exact ⟨by first | rfl | (simp; done) | (simp only [← hji5, ← hji7, ← hji8, ← hji10] <;> (first | rfl | simp)) | (simp [*]; done), by repeat (first | exact Drawn0.refl _ | apply Drawn0.step)⟩
        · rw [if_neg c14] at H
          have c14b0 : (a0 == 0) = false := beq_eq_false_iff_ne.mpr c14
          have c14b1 : (a0 != 0) = true := bne_iff_ne.mpr c14
          by_cases c16 : a0 = 1
          · rw [if_pos c16] at H
            have c16b0 : (a0 == 1) = true := beq_iff_eq.mpr c16
            have c16b1 : (a0 != 1) = false := bne_eq_false_iff_eq.mpr c16
            clear c16
            replace H := Option.bind_eq_some_iff.mp H
            obtain ⟨t109, A170, H⟩ := H
            replace H : (some t109) = some r := H
            have A17 := Aside0.mk A170
            clear A170
            obtain rfl := Option.some.inj H
            go_enter Try.func52, Try.ntmps52
            go_wp2_with (first | ((with_reducible refine gate_callee (f := 45) rfl ?_); refine goesL_ (some 24) rfl rfl Try.func45 (by kernel_rfl) rfl #[.int .i64 a1, .int .i64 a2] rfl (by (try simp only [List.map_toArray, List.map_cons, List.map_nil]); first | done | rfl | (simp only [List.length_drop, List.length_take]; rfl)) ?_; (with_reducible refine (spec_l01Signed.calls a1 a2 t106 _ A11.out).mono ?_); rintro e w' ⟨rfl, ⟨nd, rfl⟩⟩; refine ⟨_, rfl, ?_⟩) | ((with_reducible refine gate_callee (f := 45) rfl ?_); refine goesL_ (some 27) rfl rfl Try.func45 (by kernel_rfl) rfl #[.int .i64 a1, .int .i64 a3] rfl (by (try simp only [List.map_toArray, List.map_cons, List.map_nil]); first | done | rfl | (simp only [List.length_drop, List.length_take]; rfl)) ?_; (with_reducible refine (spec_l01Signed.calls a1 a3 t107 _ A12.out).mono ?_); rintro e w' ⟨rfl, ⟨nd, rfl⟩⟩; refine ⟨_, rfl, ?_⟩) | ((with_reducible refine gate_callee (f := 41) rfl ?_); refine goesL_ (some 46) rfl rfl Try.func41 (by kernel_rfl) rfl #[.int .i64 a1, .int .i64 (wrap64 (a2 - a3))] rfl (by (try simp only [List.map_toArray, List.map_cons, List.map_nil]); first | done | rfl | (simp only [List.length_drop, List.length_take]; rfl)) ?_; (with_reducible refine (spec_l01Wrap.calls a1 (wrap64 (a2 - a3)) t109 _ A17.out).mono ?_); rintro e w' ⟨rfl, ⟨nd, rfl⟩⟩; refine ⟨_, rfl, ?_⟩))
            go_ret
            exact ⟨by first | rfl | (simp; done) | (simp only [← hji5, ← hji7, ← hji8, ← hji10] <;> (first | rfl | simp)) | (simp [*]; done), by repeat (first | exact Drawn0.refl _ | apply Drawn0.step)⟩
          · rw [if_neg c16] at H
            have c16b0 : (a0 == 1) = false := beq_eq_false_iff_ne.mpr c16
            have c16b1 : (a0 != 1) = true := bne_iff_ne.mpr c16
            by_cases c18 : a0 = 2
            · rw [if_pos c18] at H
              have c18b0 : (a0 == 2) = true := beq_iff_eq.mpr c18
              have c18b1 : (a0 != 2) = false := bne_eq_false_iff_eq.mpr c18
              clear c18
              replace H := Option.bind_eq_some_iff.mp H
              obtain ⟨t110, A190, H⟩ := H
              replace H : (some t110) = some r := H
              have A19 := Aside0.mk A190
              clear A190
              obtain rfl := Option.some.inj H
              go_enter Try.func52, Try.ntmps52
              go_wp2_with (first | ((with_reducible refine gate_callee (f := 45) rfl ?_); refine goesL_ (some 24) rfl rfl Try.func45 (by kernel_rfl) rfl #[.int .i64 a1, .int .i64 a2] rfl (by (try simp only [List.map_toArray, List.map_cons, List.map_nil]); first | done | rfl | (simp only [List.length_drop, List.length_take]; rfl)) ?_; (with_reducible refine (spec_l01Signed.calls a1 a2 t106 _ A11.out).mono ?_); rintro e w' ⟨rfl, ⟨nd, rfl⟩⟩; refine ⟨_, rfl, ?_⟩) | ((with_reducible refine gate_callee (f := 45) rfl ?_); refine goesL_ (some 27) rfl rfl Try.func45 (by kernel_rfl) rfl #[.int .i64 a1, .int .i64 a3] rfl (by (try simp only [List.map_toArray, List.map_cons, List.map_nil]); first | done | rfl | (simp only [List.length_drop, List.length_take]; rfl)) ?_; (with_reducible refine (spec_l01Signed.calls a1 a3 t107 _ A12.out).mono ?_); rintro e w' ⟨rfl, ⟨nd, rfl⟩⟩; refine ⟨_, rfl, ?_⟩) | ((with_reducible refine gate_callee (f := 41) rfl ?_); refine goesL_ (some 53) rfl rfl Try.func41 (by kernel_rfl) rfl #[.int .i64 a1, .int .i64 (wrap64 (a2 * a3))] rfl (by (try simp only [List.map_toArray, List.map_cons, List.map_nil]); first | done | rfl | (simp only [List.length_drop, List.length_take]; rfl)) ?_; (with_reducible refine (spec_l01Wrap.calls a1 (wrap64 (a2 * a3)) t110 _ A19.out).mono ?_); rintro e w' ⟨rfl, ⟨nd, rfl⟩⟩; refine ⟨_, rfl, ?_⟩))
              go_ret
              exact ⟨by first | rfl | (simp; done) | (simp only [← hji5, ← hji7, ← hji8, ← hji10] <;> (first | rfl | simp)) | (simp [*]; done), by repeat (first | exact Drawn0.refl _ | apply Drawn0.step)⟩
            · rw [if_neg c18] at H
              have c18b0 : (a0 == 2) = false := beq_eq_false_iff_ne.mpr c18
              have c18b1 : (a0 != 2) = true := bne_iff_ne.mpr c18
              by_cases c20 : a0 = 3
              · rw [if_pos c20] at H
                have c20b0 : (a0 == 3) = true := beq_iff_eq.mpr c20
                have c20b1 : (a0 != 3) = false := bne_eq_false_iff_eq.mpr c20
                clear c20
                obtain rfl := Option.some.inj H
                go_enter Try.func52, Try.ntmps52
                go_wp2_with (first | ((with_reducible refine gate_callee (f := 45) rfl ?_); refine goesL_ (some 24) rfl rfl Try.func45 (by kernel_rfl) rfl #[.int .i64 a1, .int .i64 a2] rfl (by (try simp only [List.map_toArray, List.map_cons, List.map_nil]); first | done | rfl | (simp only [List.length_drop, List.length_take]; rfl)) ?_; (with_reducible refine (spec_l01Signed.calls a1 a2 t106 _ A11.out).mono ?_); rintro e w' ⟨rfl, ⟨nd, rfl⟩⟩; refine ⟨_, rfl, ?_⟩) | ((with_reducible refine gate_callee (f := 45) rfl ?_); refine goesL_ (some 27) rfl rfl Try.func45 (by kernel_rfl) rfl #[.int .i64 a1, .int .i64 a3] rfl (by (try simp only [List.map_toArray, List.map_cons, List.map_nil]); first | done | rfl | (simp only [List.length_drop, List.length_take]; rfl)) ?_; (with_reducible refine (spec_l01Signed.calls a1 a3 t107 _ A12.out).mono ?_); rintro e w' ⟨rfl, ⟨nd, rfl⟩⟩; refine ⟨_, rfl, ?_⟩))
                go_ret
                exact ⟨by first | rfl | (simp; done) | (simp only [← hji5, ← hji7, ← hji8, ← hji10] <;> (first | rfl | simp)) | (simp [*]; done), by repeat (first | exact Drawn0.refl _ | apply Drawn0.step)⟩
              · rw [if_neg c20] at H
                have c20b0 : (a0 == 3) = false := beq_eq_false_iff_ne.mpr c20
                have c20b1 : (a0 != 3) = true := bne_iff_ne.mpr c20
                by_cases c21 : a0 = 4
                · rw [if_pos c21] at H
                  have c21b0 : (a0 == 4) = true := beq_iff_eq.mpr c21
                  have c21b1 : (a0 != 4) = false := bne_eq_false_iff_eq.mpr c21
                  clear c21
                  obtain rfl := Option.some.inj H
                  go_enter Try.func52, Try.ntmps52
                  go_wp2_with (first | ((with_reducible refine gate_callee (f := 45) rfl ?_); refine goesL_ (some 24) rfl rfl Try.func45 (by kernel_rfl) rfl #[.int .i64 a1, .int .i64 a2] rfl (by (try simp only [List.map_toArray, List.map_cons, List.map_nil]); first | done | rfl | (simp only [List.length_drop, List.length_take]; rfl)) ?_; (with_reducible refine (spec_l01Signed.calls a1 a2 t106 _ A11.out).mono ?_); rintro e w' ⟨rfl, ⟨nd, rfl⟩⟩; refine ⟨_, rfl, ?_⟩) | ((with_reducible refine gate_callee (f := 45) rfl ?_); refine goesL_ (some 27) rfl rfl Try.func45 (by kernel_rfl) rfl #[.int .i64 a1, .int .i64 a3] rfl (by (try simp only [List.map_toArray, List.map_cons, List.map_nil]); first | done | rfl | (simp only [List.length_drop, List.length_take]; rfl)) ?_; (with_reducible refine (spec_l01Signed.calls a1 a3 t107 _ A12.out).mono ?_); rintro e w' ⟨rfl, ⟨nd, rfl⟩⟩; refine ⟨_, rfl, ?_⟩))
                  go_ret
                  exact ⟨by first | rfl | (simp; done) | (simp only [← hji5, ← hji7, ← hji8, ← hji10] <;> (first | rfl | simp)) | (simp [*]; done), by repeat (first | exact Drawn0.refl _ | apply Drawn0.step)⟩
                · rw [if_neg c21] at H
                  have c21b0 : (a0 == 4) = false := beq_eq_false_iff_ne.mpr c21
                  have c21b1 : (a0 != 4) = true := bne_iff_ne.mpr c21
                  by_cases c22 : a0 = 5
                  · rw [if_pos c22] at H
                    have c22b0 : (a0 == 5) = true := beq_iff_eq.mpr c22
                    have c22b1 : (a0 != 5) = false := bne_eq_false_iff_eq.mpr c22
                    clear c22
                    obtain rfl := Option.some.inj H
                    go_enter Try.func52, Try.ntmps52
                    go_wp2_with (first | ((with_reducible refine gate_callee (f := 45) rfl ?_); refine goesL_ (some 24) rfl rfl Try.func45 (by kernel_rfl) rfl #[.int .i64 a1, .int .i64 a2] rfl (by (try simp only [List.map_toArray, List.map_cons, List.map_nil]); first | done | rfl | (simp only [List.length_drop, List.length_take]; rfl)) ?_; (with_reducible refine (spec_l01Signed.calls a1 a2 t106 _ A11.out).mono ?_); rintro e w' ⟨rfl, ⟨nd, rfl⟩⟩; refine ⟨_, rfl, ?_⟩) | ((with_reducible refine gate_callee (f := 45) rfl ?_); refine goesL_ (some 27) rfl rfl Try.func45 (by kernel_rfl) rfl #[.int .i64 a1, .int .i64 a3] rfl (by (try simp only [List.map_toArray, List.map_cons, List.map_nil]); first | done | rfl | (simp only [List.length_drop, List.length_take]; rfl)) ?_; (with_reducible refine (spec_l01Signed.calls a1 a3 t107 _ A12.out).mono ?_); rintro e w' ⟨rfl, ⟨nd, rfl⟩⟩; refine ⟨_, rfl, ?_⟩))
                    go_ret
                    exact ⟨by first | rfl | (simp; done) | (simp only [← hji5, ← hji7, ← hji8, ← hji10] <;> (first | rfl | simp)) | (simp [*]; done), by repeat (first | exact Drawn0.refl _ | apply Drawn0.step)⟩
                  · rw [if_neg c22] at H
                    have c22b0 : (a0 == 5) = false := beq_eq_false_iff_ne.mpr c22
                    have c22b1 : (a0 != 5) = true := bne_iff_ne.mpr c22
                    by_cases c23 : a0 = 6
                    · rw [if_pos c23] at H
                      have c23b0 : (a0 == 6) = true := beq_iff_eq.mpr c23
                      have c23b1 : (a0 != 6) = false := bne_eq_false_iff_eq.mpr c23
                      clear c23
                      replace H := Option.bind_eq_some_iff.mp H
                      obtain ⟨t111, A240, H⟩ := H
                      replace H : (some t111) = some r := H
                      have A24 := Aside0.mk A240
                      clear A240
                      obtain rfl := Option.some.inj H
                      go_enter Try.func52, Try.ntmps52
                      go_wp2_with (first | ((with_reducible refine gate_callee (f := 45) rfl ?_); refine goesL_ (some 24) rfl rfl Try.func45 (by kernel_rfl) rfl #[.int .i64 a1, .int .i64 a2] rfl (by (try simp only [List.map_toArray, List.map_cons, List.map_nil]); first | done | rfl | (simp only [List.length_drop, List.length_take]; rfl)) ?_; (with_reducible refine (spec_l01Signed.calls a1 a2 t106 _ A11.out).mono ?_); rintro e w' ⟨rfl, ⟨nd, rfl⟩⟩; refine ⟨_, rfl, ?_⟩) | ((with_reducible refine gate_callee (f := 45) rfl ?_); refine goesL_ (some 27) rfl rfl Try.func45 (by kernel_rfl) rfl #[.int .i64 a1, .int .i64 a3] rfl (by (try simp only [List.map_toArray, List.map_cons, List.map_nil]); first | done | rfl | (simp only [List.length_drop, List.length_take]; rfl)) ?_; (with_reducible refine (spec_l01Signed.calls a1 a3 t107 _ A12.out).mono ?_); rintro e w' ⟨rfl, ⟨nd, rfl⟩⟩; refine ⟨_, rfl, ?_⟩) | ((with_reducible refine gate_callee (f := 58) rfl ?_); refine goesL_ (some 73) rfl rfl Try.func58 (by kernel_rfl) rfl #[.int .i64 a2, .int .i64 a3] rfl (by (try simp only [List.map_toArray, List.map_cons, List.map_nil]); first | done | rfl | (simp only [List.length_drop, List.length_take]; rfl)) ?_; (with_reducible refine (spec_l00Min.calls a2 a3 t111 _ A24.out).mono ?_); rintro e w' ⟨rfl, ⟨nd, rfl⟩⟩; refine ⟨_, rfl, ?_⟩))
                      go_ret
                      exact ⟨by first | rfl | (simp; done) | (simp only [← hji5, ← hji7, ← hji8, ← hji10] <;> (first | rfl | simp)) | (simp [*]; done), by repeat (first | exact Drawn0.refl _ | apply Drawn0.step)⟩
                    · rw [if_neg c23] at H
                      have c23b0 : (a0 == 6) = false := beq_eq_false_iff_ne.mpr c23
                      have c23b1 : (a0 != 6) = true := bne_iff_ne.mpr c23
                      by_cases c25 : a0 = 7
                      · rw [if_pos c25] at H
                        have c25b0 : (a0 == 7) = true := beq_iff_eq.mpr c25
                        have c25b1 : (a0 != 7) = false := bne_eq_false_iff_eq.mpr c25
                        clear c25
                        replace H := Option.bind_eq_some_iff.mp H
                        obtain ⟨t112, A260, H⟩ := H
                        replace H : (some t112) = some r := H
                        have A26 := Aside0.mk A260
                        clear A260
                        obtain rfl := Option.some.inj H
                        go_enter Try.func52, Try.ntmps52
                        go_wp2_with (first | ((with_reducible refine gate_callee (f := 45) rfl ?_); refine goesL_ (some 24) rfl rfl Try.func45 (by kernel_rfl) rfl #[.int .i64 a1, .int .i64 a2] rfl (by (try simp only [List.map_toArray, List.map_cons, List.map_nil]); first | done | rfl | (simp only [List.length_drop, List.length_take]; rfl)) ?_; (with_reducible refine (spec_l01Signed.calls a1 a2 t106 _ A11.out).mono ?_); rintro e w' ⟨rfl, ⟨nd, rfl⟩⟩; refine ⟨_, rfl, ?_⟩) | ((with_reducible refine gate_callee (f := 45) rfl ?_); refine goesL_ (some 27) rfl rfl Try.func45 (by kernel_rfl) rfl #[.int .i64 a1, .int .i64 a3] rfl (by (try simp only [List.map_toArray, List.map_cons, List.map_nil]); first | done | rfl | (simp only [List.length_drop, List.length_take]; rfl)) ?_; (with_reducible refine (spec_l01Signed.calls a1 a3 t107 _ A12.out).mono ?_); rintro e w' ⟨rfl, ⟨nd, rfl⟩⟩; refine ⟨_, rfl, ?_⟩) | ((with_reducible refine gate_callee (f := 59) rfl ?_); refine goesL_ (some 78) rfl rfl Try.func59 (by kernel_rfl) rfl #[.int .i64 a2, .int .i64 a3] rfl (by (try simp only [List.map_toArray, List.map_cons, List.map_nil]); first | done | rfl | (simp only [List.length_drop, List.length_take]; rfl)) ?_; (with_reducible refine (spec_l00Max.calls a2 a3 t112 _ A26.out).mono ?_); rintro e w' ⟨rfl, ⟨nd, rfl⟩⟩; refine ⟨_, rfl, ?_⟩))
                        go_ret
                        exact ⟨by first | rfl | (simp; done) | (simp only [← hji5, ← hji7, ← hji8, ← hji10] <;> (first | rfl | simp)) | (simp [*]; done), by repeat (first | exact Drawn0.refl _ | apply Drawn0.step)⟩
                      · rw [if_neg c25] at H
                        have c25b0 : (a0 == 7) = false := beq_eq_false_iff_ne.mpr c25
                        have c25b1 : (a0 != 7) = true := bne_iff_ne.mpr c25
                        by_cases c27 : a0 = 8
                        · rw [if_pos c27] at H
                          have c27b0 : (a0 == 8) = true := beq_iff_eq.mpr c27
                          have c27b1 : (a0 != 8) = false := bne_eq_false_iff_eq.mpr c27
                          clear c27
                          replace H := Option.bind_eq_some_iff.mp H
                          obtain ⟨t113, A280, H⟩ := H
                          replace H : ((spec_l01Wrap.f a1 t113).bind fun t114 => (some t114)) = some r := H
                          have A28 := Aside0.mk A280
                          clear A280
                          replace H := Option.bind_eq_some_iff.mp H
                          obtain ⟨t114, A290, H⟩ := H
                          replace H : (some t114) = some r := H
                          have A29 := Aside0.mk A290
                          clear A290
                          obtain rfl := Option.some.inj H
                          go_enter Try.func52, Try.ntmps52
                          go_wp2_with (first | ((with_reducible refine gate_callee (f := 45) rfl ?_); refine goesL_ (some 24) rfl rfl Try.func45 (by kernel_rfl) rfl #[.int .i64 a1, .int .i64 a2] rfl (by (try simp only [List.map_toArray, List.map_cons, List.map_nil]); first | done | rfl | (simp only [List.length_drop, List.length_take]; rfl)) ?_; (with_reducible refine (spec_l01Signed.calls a1 a2 t106 _ A11.out).mono ?_); rintro e w' ⟨rfl, ⟨nd, rfl⟩⟩; refine ⟨_, rfl, ?_⟩) | ((with_reducible refine gate_callee (f := 45) rfl ?_); refine goesL_ (some 27) rfl rfl Try.func45 (by kernel_rfl) rfl #[.int .i64 a1, .int .i64 a3] rfl (by (try simp only [List.map_toArray, List.map_cons, List.map_nil]); first | done | rfl | (simp only [List.length_drop, List.length_take]; rfl)) ?_; (with_reducible refine (spec_l01Signed.calls a1 a3 t107 _ A12.out).mono ?_); rintro e w' ⟨rfl, ⟨nd, rfl⟩⟩; refine ⟨_, rfl, ?_⟩) | ((with_reducible refine gate_callee (f := 58) rfl ?_); refine goesL_ (some 84) rfl rfl Try.func58 (by kernel_rfl) rfl #[.int .i64 t106, .int .i64 t107] rfl (by (try simp only [List.map_toArray, List.map_cons, List.map_nil]); first | done | rfl | (simp only [List.length_drop, List.length_take]; rfl)) ?_; (with_reducible refine (spec_l00Min.calls t106 t107 t113 _ A28.out).mono ?_); rintro e w' ⟨rfl, ⟨nd, rfl⟩⟩; refine ⟨_, rfl, ?_⟩) | ((with_reducible refine gate_callee (f := 41) rfl ?_); refine goesL_ (some 85) rfl rfl Try.func41 (by kernel_rfl) rfl #[.int .i64 a1, .int .i64 t113] rfl (by (try simp only [List.map_toArray, List.map_cons, List.map_nil]); first | done | rfl | (simp only [List.length_drop, List.length_take]; rfl)) ?_; (with_reducible refine (spec_l01Wrap.calls a1 t113 t114 _ A29.out).mono ?_); rintro e w' ⟨rfl, ⟨nd, rfl⟩⟩; refine ⟨_, rfl, ?_⟩))
                          go_ret
                          exact ⟨by first | rfl | (simp; done) | (simp only [← hji5, ← hji7, ← hji8, ← hji10] <;> (first | rfl | simp)) | (simp [*]; done), by repeat (first | exact Drawn0.refl _ | apply Drawn0.step)⟩
                        · rw [if_neg c27] at H
                          have c27b0 : (a0 == 8) = false := beq_eq_false_iff_ne.mpr c27
                          have c27b1 : (a0 != 8) = true := bne_iff_ne.mpr c27
                          by_cases c30 : a0 = 9
                          · rw [if_pos c30] at H
                            have c30b0 : (a0 == 9) = true := beq_iff_eq.mpr c30
                            have c30b1 : (a0 != 9) = false := bne_eq_false_iff_eq.mpr c30
                            clear c30
                            replace H := Option.bind_eq_some_iff.mp H
                            obtain ⟨t115, A310, H⟩ := H
                            replace H : ((spec_l01Wrap.f a1 t115).bind fun t116 => (some t116)) = some r := H
                            have A31 := Aside0.mk A310
                            clear A310
                            replace H := Option.bind_eq_some_iff.mp H
                            obtain ⟨t116, A320, H⟩ := H
                            replace H : (some t116) = some r := H
                            have A32 := Aside0.mk A320
                            clear A320
                            obtain rfl := Option.some.inj H
                            go_enter Try.func52, Try.ntmps52
                            go_wp2_with (first | ((with_reducible refine gate_callee (f := 45) rfl ?_); refine goesL_ (some 24) rfl rfl Try.func45 (by kernel_rfl) rfl #[.int .i64 a1, .int .i64 a2] rfl (by (try simp only [List.map_toArray, List.map_cons, List.map_nil]); first | done | rfl | (simp only [List.length_drop, List.length_take]; rfl)) ?_; (with_reducible refine (spec_l01Signed.calls a1 a2 t106 _ A11.out).mono ?_); rintro e w' ⟨rfl, ⟨nd, rfl⟩⟩; refine ⟨_, rfl, ?_⟩) | ((with_reducible refine gate_callee (f := 45) rfl ?_); refine goesL_ (some 27) rfl rfl Try.func45 (by kernel_rfl) rfl #[.int .i64 a1, .int .i64 a3] rfl (by (try simp only [List.map_toArray, List.map_cons, List.map_nil]); first | done | rfl | (simp only [List.length_drop, List.length_take]; rfl)) ?_; (with_reducible refine (spec_l01Signed.calls a1 a3 t107 _ A12.out).mono ?_); rintro e w' ⟨rfl, ⟨nd, rfl⟩⟩; refine ⟨_, rfl, ?_⟩) | ((with_reducible refine gate_callee (f := 59) rfl ?_); refine goesL_ (some 91) rfl rfl Try.func59 (by kernel_rfl) rfl #[.int .i64 t106, .int .i64 t107] rfl (by (try simp only [List.map_toArray, List.map_cons, List.map_nil]); first | done | rfl | (simp only [List.length_drop, List.length_take]; rfl)) ?_; (with_reducible refine (spec_l00Max.calls t106 t107 t115 _ A31.out).mono ?_); rintro e w' ⟨rfl, ⟨nd, rfl⟩⟩; refine ⟨_, rfl, ?_⟩) | ((with_reducible refine gate_callee (f := 41) rfl ?_); refine goesL_ (some 92) rfl rfl Try.func41 (by kernel_rfl) rfl #[.int .i64 a1, .int .i64 t115] rfl (by (try simp only [List.map_toArray, List.map_cons, List.map_nil]); first | done | rfl | (simp only [List.length_drop, List.length_take]; rfl)) ?_; (with_reducible refine (spec_l01Wrap.calls a1 t115 t116 _ A32.out).mono ?_); rintro e w' ⟨rfl, ⟨nd, rfl⟩⟩; refine ⟨_, rfl, ?_⟩))
                            go_ret
                            exact ⟨by first | rfl | (simp; done) | (simp only [← hji5, ← hji7, ← hji8, ← hji10] <;> (first | rfl | simp)) | (simp [*]; done), by repeat (first | exact Drawn0.refl _ | apply Drawn0.step)⟩
                          · rw [if_neg c30] at H
                            have c30b0 : (a0 == 9) = false := beq_eq_false_iff_ne.mpr c30
                            have c30b1 : (a0 != 9) = true := bne_iff_ne.mpr c30
                            by_cases c33 : a0 = 10
                            · rw [if_pos c33] at H
                              have c33b0 : (a0 == 10) = true := beq_iff_eq.mpr c33
                              have c33b1 : (a0 != 10) = false := bne_eq_false_iff_eq.mpr c33
                              clear c33
                              replace H := Option.bind_eq_some_iff.mp H
                              obtain ⟨t117, A340, H⟩ := H
                              replace H : (some t117) = some r := H
                              have A34 := Aside0.mk A340
                              clear A340
                              obtain rfl := Option.some.inj H
                              go_enter Try.func52, Try.ntmps52
                              go_wp2_with (first | ((with_reducible refine gate_callee (f := 45) rfl ?_); refine goesL_ (some 24) rfl rfl Try.func45 (by kernel_rfl) rfl #[.int .i64 a1, .int .i64 a2] rfl (by (try simp only [List.map_toArray, List.map_cons, List.map_nil]); first | done | rfl | (simp only [List.length_drop, List.length_take]; rfl)) ?_; (with_reducible refine (spec_l01Signed.calls a1 a2 t106 _ A11.out).mono ?_); rintro e w' ⟨rfl, ⟨nd, rfl⟩⟩; refine ⟨_, rfl, ?_⟩) | ((with_reducible refine gate_callee (f := 45) rfl ?_); refine goesL_ (some 27) rfl rfl Try.func45 (by kernel_rfl) rfl #[.int .i64 a1, .int .i64 a3] rfl (by (try simp only [List.map_toArray, List.map_cons, List.map_nil]); first | done | rfl | (simp only [List.length_drop, List.length_take]; rfl)) ?_; (with_reducible refine (spec_l01Signed.calls a1 a3 t107 _ A12.out).mono ?_); rintro e w' ⟨rfl, ⟨nd, rfl⟩⟩; refine ⟨_, rfl, ?_⟩) | ((with_reducible refine gate_callee (f := 58) rfl ?_); refine goesL_ (some 99) rfl rfl Try.func58 (by kernel_rfl) rfl #[.int .i64 (wrap64 (a2 + a3)), .int .i64 (wrap64 ((ji7) - 1))] rfl (by (try simp only [List.map_toArray, List.map_cons, List.map_nil]); first | done | (simp only [hji7]; rfl) | rfl | (simp only [List.length_drop, List.length_take]; rfl)) ?_; (with_reducible refine (spec_l00Min.calls (wrap64 (a2 + a3)) (wrap64 ((ji7) - 1)) t117 _ A34.out).mono ?_); rintro e w' ⟨rfl, ⟨nd, rfl⟩⟩; refine ⟨_, rfl, ?_⟩))
                              go_ret
                              exact ⟨by first | rfl | (simp; done) | (simp only [← hji5, ← hji7, ← hji8, ← hji10] <;> (first | rfl | simp)) | (simp [*]; done), by repeat (first | exact Drawn0.refl _ | apply Drawn0.step)⟩
                            · rw [if_neg c33] at H
                              have c33b0 : (a0 == 10) = false := beq_eq_false_iff_ne.mpr c33
                              have c33b1 : (a0 != 10) = true := bne_iff_ne.mpr c33
                              by_cases c35 : a0 = 11
                              · rw [if_pos c35] at H
                                have c35b0 : (a0 == 11) = true := beq_iff_eq.mpr c35
                                have c35b1 : (a0 != 11) = false := bne_eq_false_iff_eq.mpr c35
                                clear c35
                                replace H := Option.bind_eq_some_iff.mp H
                                obtain ⟨t118, A360, H⟩ := H
                                replace H : ((spec_l01Wrap.f a1 t118).bind fun t119 => (some t119)) = some r := H
                                have A36 := Aside0.mk A360
                                clear A360
                                replace H := Option.bind_eq_some_iff.mp H
                                obtain ⟨t119, A370, H⟩ := H
                                replace H : (some t119) = some r := H
                                have A37 := Aside0.mk A370
                                clear A370
                                obtain rfl := Option.some.inj H
                                go_enter Try.func52, Try.ntmps52
                                go_wp2_with (first | ((with_reducible refine gate_callee (f := 45) rfl ?_); refine goesL_ (some 24) rfl rfl Try.func45 (by kernel_rfl) rfl #[.int .i64 a1, .int .i64 a2] rfl (by (try simp only [List.map_toArray, List.map_cons, List.map_nil]); first | done | rfl | (simp only [List.length_drop, List.length_take]; rfl)) ?_; (with_reducible refine (spec_l01Signed.calls a1 a2 t106 _ A11.out).mono ?_); rintro e w' ⟨rfl, ⟨nd, rfl⟩⟩; refine ⟨_, rfl, ?_⟩) | ((with_reducible refine gate_callee (f := 45) rfl ?_); refine goesL_ (some 27) rfl rfl Try.func45 (by kernel_rfl) rfl #[.int .i64 a1, .int .i64 a3] rfl (by (try simp only [List.map_toArray, List.map_cons, List.map_nil]); first | done | rfl | (simp only [List.length_drop, List.length_take]; rfl)) ?_; (with_reducible refine (spec_l01Signed.calls a1 a3 t107 _ A12.out).mono ?_); rintro e w' ⟨rfl, ⟨nd, rfl⟩⟩; refine ⟨_, rfl, ?_⟩) | ((with_reducible refine gate_callee (f := 60) rfl ?_); refine goesL_ (some 110) rfl rfl Try.func60 (by kernel_rfl) rfl #[.int .i64 (wrap64 (t106 + t107)), .int .i64 (wrap64 (-(ji10))), .int .i64 (wrap64 ((ji10) - 1))] rfl (by (try simp only [List.map_toArray, List.map_cons, List.map_nil]); first | done | (simp only [hji10]; rfl) | rfl | (simp only [List.length_drop, List.length_take]; rfl)) ?_; (with_reducible refine (spec_l01Between.calls (wrap64 (t106 + t107)) (wrap64 (-(ji10))) (wrap64 ((ji10) - 1)) t118 _ A36.out).mono ?_); rintro e w' ⟨rfl, ⟨nd, rfl⟩⟩; refine ⟨_, rfl, ?_⟩) | ((with_reducible refine gate_callee (f := 41) rfl ?_); refine goesL_ (some 111) rfl rfl Try.func41 (by kernel_rfl) rfl #[.int .i64 a1, .int .i64 t118] rfl (by (try simp only [List.map_toArray, List.map_cons, List.map_nil]); first | done | rfl | (simp only [List.length_drop, List.length_take]; rfl)) ?_; (with_reducible refine (spec_l01Wrap.calls a1 t118 t119 _ A37.out).mono ?_); rintro e w' ⟨rfl, ⟨nd, rfl⟩⟩; refine ⟨_, rfl, ?_⟩))
                                go_ret
                                exact ⟨by first | rfl | (simp; done) | (simp only [← hji5, ← hji7, ← hji8, ← hji10] <;> (first | rfl | simp)) | (simp [*]; done), by repeat (first | exact Drawn0.refl _ | apply Drawn0.step)⟩
                              · rw [if_neg c35] at H
                                have c35b0 : (a0 == 11) = false := beq_eq_false_iff_ne.mpr c35
                                have c35b1 : (a0 != 11) = true := bne_iff_ne.mpr c35
                                by_cases c38 : a0 = 12
                                · rw [if_pos c38] at H
                                  have c38b0 : (a0 == 12) = true := beq_iff_eq.mpr c38
                                  have c38b1 : (a0 != 12) = false := bne_eq_false_iff_eq.mpr c38
                                  clear c38
                                  replace H := Option.bind_eq_some_iff.mp H
                                  obtain ⟨t120, A390, H⟩ := H
                                  replace H : (some t120) = some r := H
                                  have A39 := Aside0.mk A390
                                  clear A390
                                  obtain rfl := Option.some.inj H
                                  go_enter Try.func52, Try.ntmps52
                                  go_wp2_with (first | ((with_reducible refine gate_callee (f := 45) rfl ?_); refine goesL_ (some 24) rfl rfl Try.func45 (by kernel_rfl) rfl #[.int .i64 a1, .int .i64 a2] rfl (by (try simp only [List.map_toArray, List.map_cons, List.map_nil]); first | done | rfl | (simp only [List.length_drop, List.length_take]; rfl)) ?_; (with_reducible refine (spec_l01Signed.calls a1 a2 t106 _ A11.out).mono ?_); rintro e w' ⟨rfl, ⟨nd, rfl⟩⟩; refine ⟨_, rfl, ?_⟩) | ((with_reducible refine gate_callee (f := 45) rfl ?_); refine goesL_ (some 27) rfl rfl Try.func45 (by kernel_rfl) rfl #[.int .i64 a1, .int .i64 a3] rfl (by (try simp only [List.map_toArray, List.map_cons, List.map_nil]); first | done | rfl | (simp only [List.length_drop, List.length_take]; rfl)) ?_; (with_reducible refine (spec_l01Signed.calls a1 a3 t107 _ A12.out).mono ?_); rintro e w' ⟨rfl, ⟨nd, rfl⟩⟩; refine ⟨_, rfl, ?_⟩) | ((with_reducible refine gate_callee (f := 59) rfl ?_); refine goesL_ (some 117) rfl rfl Try.func59 (by kernel_rfl) rfl #[.int .i64 (wrap64 (a2 - a3)), .int .i64 0] rfl (by (try simp only [List.map_toArray, List.map_cons, List.map_nil]); first | done | rfl | (simp only [List.length_drop, List.length_take]; rfl)) ?_; (with_reducible refine (spec_l00Max.calls (wrap64 (a2 - a3)) 0 t120 _ A39.out).mono ?_); rintro e w' ⟨rfl, ⟨nd, rfl⟩⟩; refine ⟨_, rfl, ?_⟩))
                                  go_ret
                                  exact ⟨by first | rfl | (simp; done) | (simp only [← hji5, ← hji7, ← hji8, ← hji10] <;> (first | rfl | simp)) | (simp [*]; done), by repeat (first | exact Drawn0.refl _ | apply Drawn0.step)⟩
                                · rw [if_neg c38] at H
                                  have c38b0 : (a0 == 12) = false := beq_eq_false_iff_ne.mpr c38
                                  have c38b1 : (a0 != 12) = true := bne_iff_ne.mpr c38
                                  by_cases c40 : a0 = 13
                                  · rw [if_pos c40] at H
                                    have c40b0 : (a0 == 13) = true := beq_iff_eq.mpr c40
                                    have c40b1 : (a0 != 13) = false := bne_eq_false_iff_eq.mpr c40
                                    clear c40
                                    replace H := Option.bind_eq_some_iff.mp H
                                    obtain ⟨t121, A410, H⟩ := H
                                    replace H : ((spec_l01Wrap.f a1 t121).bind fun t122 => (some t122)) = some r := H
                                    have A41 := Aside0.mk A410
                                    clear A410
                                    replace H := Option.bind_eq_some_iff.mp H
                                    obtain ⟨t122, A420, H⟩ := H
                                    replace H : (some t122) = some r := H
                                    have A42 := Aside0.mk A420
                                    clear A420
                                    obtain rfl := Option.some.inj H
                                    go_enter Try.func52, Try.ntmps52
                                    go_wp2_with (first | ((with_reducible refine gate_callee (f := 45) rfl ?_); refine goesL_ (some 24) rfl rfl Try.func45 (by kernel_rfl) rfl #[.int .i64 a1, .int .i64 a2] rfl (by (try simp only [List.map_toArray, List.map_cons, List.map_nil]); first | done | rfl | (simp only [List.length_drop, List.length_take]; rfl)) ?_; (with_reducible refine (spec_l01Signed.calls a1 a2 t106 _ A11.out).mono ?_); rintro e w' ⟨rfl, ⟨nd, rfl⟩⟩; refine ⟨_, rfl, ?_⟩) | ((with_reducible refine gate_callee (f := 45) rfl ?_); refine goesL_ (some 27) rfl rfl Try.func45 (by kernel_rfl) rfl #[.int .i64 a1, .int .i64 a3] rfl (by (try simp only [List.map_toArray, List.map_cons, List.map_nil]); first | done | rfl | (simp only [List.length_drop, List.length_take]; rfl)) ?_; (with_reducible refine (spec_l01Signed.calls a1 a3 t107 _ A12.out).mono ?_); rintro e w' ⟨rfl, ⟨nd, rfl⟩⟩; refine ⟨_, rfl, ?_⟩) | ((with_reducible refine gate_callee (f := 60) rfl ?_); refine goesL_ (some 128) rfl rfl Try.func60 (by kernel_rfl) rfl #[.int .i64 (wrap64 (t106 - t107)), .int .i64 (wrap64 (-(ji10))), .int .i64 (wrap64 ((ji10) - 1))] rfl (by (try simp only [List.map_toArray, List.map_cons, List.map_nil]); first | done | (simp only [hji10]; rfl) | rfl | (simp only [List.length_drop, List.length_take]; rfl)) ?_; (with_reducible refine (spec_l01Between.calls (wrap64 (t106 - t107)) (wrap64 (-(ji10))) (wrap64 ((ji10) - 1)) t121 _ A41.out).mono ?_); rintro e w' ⟨rfl, ⟨nd, rfl⟩⟩; refine ⟨_, rfl, ?_⟩) | ((with_reducible refine gate_callee (f := 41) rfl ?_); refine goesL_ (some 129) rfl rfl Try.func41 (by kernel_rfl) rfl #[.int .i64 a1, .int .i64 t121] rfl (by (try simp only [List.map_toArray, List.map_cons, List.map_nil]); first | done | rfl | (simp only [List.length_drop, List.length_take]; rfl)) ?_; (with_reducible refine (spec_l01Wrap.calls a1 t121 t122 _ A42.out).mono ?_); rintro e w' ⟨rfl, ⟨nd, rfl⟩⟩; refine ⟨_, rfl, ?_⟩))
                                    go_ret
                                    exact ⟨by first | rfl | (simp; done) | (simp only [← hji5, ← hji7, ← hji8, ← hji10] <;> (first | rfl | simp)) | (simp [*]; done), by repeat (first | exact Drawn0.refl _ | apply Drawn0.step)⟩
                                  · rw [if_neg c40] at H
                                    have c40b0 : (a0 == 13) = false := beq_eq_false_iff_ne.mpr c40
                                    have c40b1 : (a0 != 13) = true := bne_iff_ne.mpr c40
                                    by_cases c43 : a0 = 14
                                    · rw [if_pos c43] at H
                                      have c43b0 : (a0 == 14) = true := beq_iff_eq.mpr c43
                                      have c43b1 : (a0 != 14) = false := bne_eq_false_iff_eq.mpr c43
                                      clear c43
                                      obtain rfl := Option.some.inj H
                                      go_enter Try.func52, Try.ntmps52
                                      go_wp2_with (first | ((with_reducible refine gate_callee (f := 45) rfl ?_); refine goesL_ (some 24) rfl rfl Try.func45 (by kernel_rfl) rfl #[.int .i64 a1, .int .i64 a2] rfl (by (try simp only [List.map_toArray, List.map_cons, List.map_nil]); first | done | rfl | (simp only [List.length_drop, List.length_take]; rfl)) ?_; (with_reducible refine (spec_l01Signed.calls a1 a2 t106 _ A11.out).mono ?_); rintro e w' ⟨rfl, ⟨nd, rfl⟩⟩; refine ⟨_, rfl, ?_⟩) | ((with_reducible refine gate_callee (f := 45) rfl ?_); refine goesL_ (some 27) rfl rfl Try.func45 (by kernel_rfl) rfl #[.int .i64 a1, .int .i64 a3] rfl (by (try simp only [List.map_toArray, List.map_cons, List.map_nil]); first | done | rfl | (simp only [List.length_drop, List.length_take]; rfl)) ?_; (with_reducible refine (spec_l01Signed.calls a1 a3 t107 _ A12.out).mono ?_); rintro e w' ⟨rfl, ⟨nd, rfl⟩⟩; refine ⟨_, rfl, ?_⟩))
                                      go_ret
                                      exact ⟨by first | rfl | (simp; done) | (simp only [← hji5, ← hji7, ← hji8, ← hji10] <;> (first | rfl | simp)) | (simp [*]; done), by repeat (first | exact Drawn0.refl _ | apply Drawn0.step)⟩
                                    · rw [if_neg c43] at H
                                      have c43b0 : (a0 == 14) = false := beq_eq_false_iff_ne.mpr c43
                                      have c43b1 : (a0 != 14) = true := bne_iff_ne.mpr c43
                                      by_cases c44 : a0 = 15
                                      · rw [if_pos c44] at H
                                        have c44b0 : (a0 == 15) = true := beq_iff_eq.mpr c44
                                        have c44b1 : (a0 != 15) = false := bne_eq_false_iff_eq.mpr c44
                                        clear c44
                                        obtain ⟨ji45, hji45⟩ : ∃ j_ : Int, (IntKind.u64.wrap (Int.tmod a3 a1)) = j_ := ⟨_, rfl⟩
                                        replace H : (if 0 ≤ (ji45) then ((spec_l01Wrap.f a1 (shl .i64 a2 (ji45))).bind fun t123 => (some t123)) else (none)) = some r := by first | (rw [hji45] at H; exact H) | (simp only [hji45] at H ⊢; exact H)
                                        (try rw [hji45] at A11)
                                        (try rw [hji45] at A12)
                                        by_cases c46 : 0 ≤ (ji45)
                                        · rw [if_pos c46] at H
                                          have c46b0 := eq_true c46
                                          have c46b1 : decide (0 ≤ (ji45)) = true := decide_eq_true c46
                                          clear c46
                                          obtain ⟨ji47, hji47⟩ : ∃ j_ : Int, (shl .i64 a2 (ji45)) = j_ := ⟨_, rfl⟩
                                          replace H : ((spec_l01Wrap.f a1 (ji47)).bind fun t123 => (some t123)) = some r := by first | (rw [hji47] at H; exact H) | (simp only [hji47] at H ⊢; exact H)
                                          (try rw [hji47] at A11)
                                          (try rw [hji47] at A12)
                                          have hji47_ : (IntKind.i64.wrap (a2 * 2 ^ min (ji45).toNat 64)) = ji47 := hji47
                                          have hji47z : (ji45) ≤ 64 → (IntKind.i64.wrap (a2 * 2 ^ (ji45).toNat)) = ji47 := shl_small hji47
                                          have hji47y : (wrap64 (a2 * 2 ^ min (ji45).toNat 64)) = ji47 := (i64_w _).symm.trans hji47_
                                          have hji47x : (ji45) ≤ 64 → (wrap64 (a2 * 2 ^ (ji45).toNat)) = ji47 := fun h_ => (i64_w _).symm.trans (hji47z h_)
                                          replace H := Option.bind_eq_some_iff.mp H
                                          obtain ⟨t123, A480, H⟩ := H
                                          replace H : (some t123) = some r := H
                                          have A48 := Aside0.mk A480
                                          clear A480
                                          obtain rfl := Option.some.inj H
                                          go_enter Try.func52, Try.ntmps52
                                          go_wp2_with (first | ((with_reducible refine gate_callee (f := 45) rfl ?_); refine goesL_ (some 24) rfl rfl Try.func45 (by kernel_rfl) rfl #[.int .i64 a1, .int .i64 a2] rfl (by (try simp only [List.map_toArray, List.map_cons, List.map_nil]); first | done | rfl | (simp only [List.length_drop, List.length_take]; rfl)) ?_; (with_reducible refine (spec_l01Signed.calls a1 a2 t106 _ A11.out).mono ?_); rintro e w' ⟨rfl, ⟨nd, rfl⟩⟩; refine ⟨_, rfl, ?_⟩) | ((with_reducible refine gate_callee (f := 45) rfl ?_); refine goesL_ (some 27) rfl rfl Try.func45 (by kernel_rfl) rfl #[.int .i64 a1, .int .i64 a3] rfl (by (try simp only [List.map_toArray, List.map_cons, List.map_nil]); first | done | rfl | (simp only [List.length_drop, List.length_take]; rfl)) ?_; (with_reducible refine (spec_l01Signed.calls a1 a3 t107 _ A12.out).mono ?_); rintro e w' ⟨rfl, ⟨nd, rfl⟩⟩; refine ⟨_, rfl, ?_⟩) | ((with_reducible refine gate_callee (f := 41) rfl ?_); refine goesL_ (some 143) rfl rfl Try.func41 (by kernel_rfl) rfl #[.int .i64 a1, .int .i64 ji47] rfl (by (try simp only [List.map_toArray, List.map_cons, List.map_nil]); first | done | (simp only [hji47]; rfl) | rfl | (simp only [List.length_drop, List.length_take]; rfl)) ?_; (with_reducible refine (spec_l01Wrap.calls a1 ji47 t123 _ A48.out).mono ?_); rintro e w' ⟨rfl, ⟨nd, rfl⟩⟩; refine ⟨_, rfl, ?_⟩))
                                          go_ret
                                          exact ⟨by first | rfl | (simp; done) | (simp only [← hji5, ← hji7, ← hji8, ← hji10, ← hji45, ← hji47] <;> (first | rfl | simp)) | (simp [*]; done), by repeat (first | exact Drawn0.refl _ | apply Drawn0.step)⟩
                                        · rw [if_neg c46] at H
                                          exact absurd H (by simp)
                                      · rw [if_neg c44] at H
                                        have c44b0 : (a0 == 15) = false := beq_eq_false_iff_ne.mpr c44
                                        have c44b1 : (a0 != 15) = true := bne_iff_ne.mpr c44
                                        by_cases c49 : a0 = 16
                                        · rw [if_pos c49] at H
                                          have c49b0 : (a0 == 16) = true := beq_iff_eq.mpr c49
                                          have c49b1 : (a0 != 16) = false := bne_eq_false_iff_eq.mpr c49
                                          clear c49
                                          obtain ⟨ji50, hji50⟩ : ∃ j_ : Int, (IntKind.u64.wrap (Int.tmod a3 a1)) = j_ := ⟨_, rfl⟩
                                          replace H : (if 0 ≤ (ji50) then (some (shr .i64 a2 (ji50))) else (none)) = some r := by first | (rw [hji50] at H; exact H) | (simp only [hji50] at H ⊢; exact H)
                                          (try rw [hji50] at A11)
                                          (try rw [hji50] at A12)
                                          by_cases c51 : 0 ≤ (ji50)
                                          · rw [if_pos c51] at H
                                            have c51b0 := eq_true c51
                                            have c51b1 : decide (0 ≤ (ji50)) = true := decide_eq_true c51
                                            clear c51
                                            obtain ⟨ji52, hji52⟩ : ∃ j_ : Int, (shr .i64 a2 (ji50)) = j_ := ⟨_, rfl⟩
                                            replace H : (some ji52) = some r := by first | (rw [hji52] at H; exact H) | (simp only [hji52] at H ⊢; exact H)
                                            (try rw [hji52] at A11)
                                            (try rw [hji52] at A12)
                                            have hji52_ : (a2 / 2 ^ min (ji50).toNat 64) = ji52 := hji52
                                            have hji52z : (ji50) ≤ 64 → (a2 / 2 ^ (ji50).toNat) = ji52 := shr_small hji52
                                            obtain rfl := Option.some.inj H
                                            go_enter Try.func52, Try.ntmps52
                                            go_wp2_with (first | ((with_reducible refine gate_callee (f := 45) rfl ?_); refine goesL_ (some 24) rfl rfl Try.func45 (by kernel_rfl) rfl #[.int .i64 a1, .int .i64 a2] rfl (by (try simp only [List.map_toArray, List.map_cons, List.map_nil]); first | done | rfl | (simp only [List.length_drop, List.length_take]; rfl)) ?_; (with_reducible refine (spec_l01Signed.calls a1 a2 t106 _ A11.out).mono ?_); rintro e w' ⟨rfl, ⟨nd, rfl⟩⟩; refine ⟨_, rfl, ?_⟩) | ((with_reducible refine gate_callee (f := 45) rfl ?_); refine goesL_ (some 27) rfl rfl Try.func45 (by kernel_rfl) rfl #[.int .i64 a1, .int .i64 a3] rfl (by (try simp only [List.map_toArray, List.map_cons, List.map_nil]); first | done | rfl | (simp only [List.length_drop, List.length_take]; rfl)) ?_; (with_reducible refine (spec_l01Signed.calls a1 a3 t107 _ A12.out).mono ?_); rintro e w' ⟨rfl, ⟨nd, rfl⟩⟩; refine ⟨_, rfl, ?_⟩))
                                            go_ret
                                            exact ⟨by first | rfl | (simp; done) | (simp only [← hji5, ← hji7, ← hji8, ← hji10, ← hji50, ← hji52] <;> (first | rfl | simp)) | (simp [*]; done), by repeat (first | exact Drawn0.refl _ | apply Drawn0.step)⟩
                                          · rw [if_neg c51] at H
                                            exact absurd H (by simp)
                                        · rw [if_neg c49] at H
                                          have c49b0 : (a0 == 16) = false := beq_eq_false_iff_ne.mpr c49
                                          have c49b1 : (a0 != 16) = true := bne_iff_ne.mpr c49
                                          obtain ⟨ji53, hji53⟩ : ∃ j_ : Int, (IntKind.u64.wrap (Int.tmod a3 a1)) = j_ := ⟨_, rfl⟩
                                          replace H : (if 0 ≤ (ji53) then ((spec_l01Wrap.f a1 (shr .i64 t106 (ji53))).bind fun t124 => (some t124)) else (none)) = some r := by first | (rw [hji53] at H; exact H) | (simp only [hji53] at H ⊢; exact H)
                                          (try rw [hji53] at A11)
                                          (try rw [hji53] at A12)
                                          by_cases c54 : 0 ≤ (ji53)
                                          · rw [if_pos c54] at H
                                            have c54b0 := eq_true c54
                                            have c54b1 : decide (0 ≤ (ji53)) = true := decide_eq_true c54
                                            clear c54
                                            obtain ⟨ji55, hji55⟩ : ∃ j_ : Int, (shr .i64 t106 (ji53)) = j_ := ⟨_, rfl⟩
                                            replace H : ((spec_l01Wrap.f a1 (ji55)).bind fun t124 => (some t124)) = some r := by first | (rw [hji55] at H; exact H) | (simp only [hji55] at H ⊢; exact H)
                                            (try rw [hji55] at A11)
                                            (try rw [hji55] at A12)
                                            have hji55_ : (t106 / 2 ^ min (ji53).toNat 64) = ji55 := hji55
                                            have hji55z : (ji53) ≤ 64 → (t106 / 2 ^ (ji53).toNat) = ji55 := shr_small hji55
                                            replace H := Option.bind_eq_some_iff.mp H
                                            obtain ⟨t124, A560, H⟩ := H
                                            replace H : (some t124) = some r := H
                                            have A56 := Aside0.mk A560
                                            clear A560
                                            obtain rfl := Option.some.inj H
                                            go_enter Try.func52, Try.ntmps52
                                            go_wp2_with (first | ((with_reducible refine gate_callee (f := 45) rfl ?_); refine goesL_ (some 24) rfl rfl Try.func45 (by kernel_rfl) rfl #[.int .i64 a1, .int .i64 a2] rfl (by (try simp only [List.map_toArray, List.map_cons, List.map_nil]); first | done | rfl | (simp only [List.length_drop, List.length_take]; rfl)) ?_; (with_reducible refine (spec_l01Signed.calls a1 a2 t106 _ A11.out).mono ?_); rintro e w' ⟨rfl, ⟨nd, rfl⟩⟩; refine ⟨_, rfl, ?_⟩) | ((with_reducible refine gate_callee (f := 45) rfl ?_); refine goesL_ (some 27) rfl rfl Try.func45 (by kernel_rfl) rfl #[.int .i64 a1, .int .i64 a3] rfl (by (try simp only [List.map_toArray, List.map_cons, List.map_nil]); first | done | rfl | (simp only [List.length_drop, List.length_take]; rfl)) ?_; (with_reducible refine (spec_l01Signed.calls a1 a3 t107 _ A12.out).mono ?_); rintro e w' ⟨rfl, ⟨nd, rfl⟩⟩; refine ⟨_, rfl, ?_⟩) | ((with_reducible refine gate_callee (f := 41) rfl ?_); refine goesL_ (some 153) rfl rfl Try.func41 (by kernel_rfl) rfl #[.int .i64 a1, .int .i64 ji55] rfl (by (try simp only [List.map_toArray, List.map_cons, List.map_nil]); first | done | (simp only [hji55]; rfl) | rfl | (simp only [List.length_drop, List.length_take]; rfl)) ?_; (with_reducible refine (spec_l01Wrap.calls a1 ji55 t124 _ A56.out).mono ?_); rintro e w' ⟨rfl, ⟨nd, rfl⟩⟩; refine ⟨_, rfl, ?_⟩))
                                            go_ret
                                            exact ⟨by first | rfl | (simp; done) | (simp only [← hji5, ← hji7, ← hji8, ← hji10, ← hji53, ← hji55] <;> (first | rfl | simp)) | (simp [*]; done), by repeat (first | exact Drawn0.refl _ | apply Drawn0.step)⟩
                                          · rw [if_neg c54] at H
                                            exact absurd H (by simp)
    · rw [if_neg c9] at H
      exact absurd H (by simp)
  · rw [if_neg c6] at H
    exact absurd H (by simp)

/-! ### spec_DoOp: function 28 -/
def spec_DoOp.f (a0 : Int) (a1 : Int) (a2 : Int) (a3 : Int) : Option (Int × Bool) := (spec_l01OpIs.f a0).bind fun t125 => (if t125 = true then ((spec_l01Word.f a1 a2).bind fun t126 => (if t126 = true then ((spec_l01Word.f a1 a3).bind fun t127 => (if t127 = true then ((spec_l01Do.f a0 a1 a2 a3).bind fun t128 => (some (t128, true))) else (some (0, false)))) else (some (0, false)))) else (some (0, false)))
set_option maxHeartbeats 8000000 in
set_option maxRecDepth 100000 in
theorem spec_DoOp.calls (a0 : Int) (a1 : Int) (a2 : Int) (a3 : Int) (r1 : Int) (r2 : Bool) (w : World) (h : spec_DoOp.f a0 a1 a2 a3 = some (r1, r2)) :
    Calls Try.prog 28 #[.int .i64 a0, .int .i64 a1, .int .i64 a2, .int .i64 a3] w fun e w' => e = .returned (.tuple #[.int .i64 r1, .bool r2]) ∧ Drawn0 w w' := by
  have H : ((spec_l01OpIs.f a0).bind fun t125 => (if t125 = true then ((spec_l01Word.f a1 a2).bind fun t126 => (if t126 = true then ((spec_l01Word.f a1 a3).bind fun t127 => (if t127 = true then ((spec_l01Do.f a0 a1 a2 a3).bind fun t128 => (some (t128, true))) else (some (0, false)))) else (some (0, false)))) else (some (0, false)))) = some (r1, r2) := h
  clear h
  replace H := Option.bind_eq_some_iff.mp H
  obtain ⟨t125, A50, H⟩ := H
  replace H : (if t125 = true then ((spec_l01Word.f a1 a2).bind fun t126 => (if t126 = true then ((spec_l01Word.f a1 a3).bind fun t127 => (if t127 = true then ((spec_l01Do.f a0 a1 a2 a3).bind fun t128 => (some (t128, true))) else (some (0, false)))) else (some (0, false)))) else (some (0, false))) = some (r1, r2) := H
  have A5 := Aside0.mk A50
  clear A50
  by_cases c6 : t125 = true
  · subst c6
    have H1 : ((spec_l01Word.f a1 a2).bind fun t126 => (if t126 = true then ((spec_l01Word.f a1 a3).bind fun t127 => (if t127 = true then ((spec_l01Do.f a0 a1 a2 a3).bind fun t128 => (some (t128, true))) else (some (0, false)))) else (some (0, false)))) = some (r1, r2) := by rw [if_pos rfl] at H; exact H
    clear H
    have H := H1
    clear H1
    replace H := Option.bind_eq_some_iff.mp H
    obtain ⟨t126, A70, H⟩ := H
    replace H : (if t126 = true then ((spec_l01Word.f a1 a3).bind fun t127 => (if t127 = true then ((spec_l01Do.f a0 a1 a2 a3).bind fun t128 => (some (t128, true))) else (some (0, false)))) else (some (0, false))) = some (r1, r2) := H
    have A7 := Aside0.mk A70
    clear A70
    by_cases c8 : t126 = true
    · subst c8
      have H1 : ((spec_l01Word.f a1 a3).bind fun t127 => (if t127 = true then ((spec_l01Do.f a0 a1 a2 a3).bind fun t128 => (some (t128, true))) else (some (0, false)))) = some (r1, r2) := by rw [if_pos rfl] at H; exact H
      clear H
      have H := H1
      clear H1
      replace H := Option.bind_eq_some_iff.mp H
      obtain ⟨t127, A90, H⟩ := H
      replace H : (if t127 = true then ((spec_l01Do.f a0 a1 a2 a3).bind fun t128 => (some (t128, true))) else (some (0, false))) = some (r1, r2) := H
      have A9 := Aside0.mk A90
      clear A90
      by_cases c10 : t127 = true
      · subst c10
        have H1 : ((spec_l01Do.f a0 a1 a2 a3).bind fun t128 => (some (t128, true))) = some (r1, r2) := by rw [if_pos rfl] at H; exact H
        clear H
        have H := H1
        clear H1
        replace H := Option.bind_eq_some_iff.mp H
        obtain ⟨t128, A110, H⟩ := H
        replace H : (some (t128, true)) = some (r1, r2) := H
        have A11 := Aside0.mk A110
        clear A110
        simp only [Option.some.injEq, Prod.mk.injEq] at H
        obtain ⟨rfl, rfl⟩ := H
        go_enter Try.func28, Try.ntmps28
        go_wp2_with (first | ((with_reducible refine gate_callee (f := 51) rfl ?_); refine goesL_ (some 11) rfl rfl Try.func51 (by kernel_rfl) rfl #[.int .i64 a0] rfl (by (try simp only [List.map_toArray, List.map_cons, List.map_nil]); first | done | rfl | (simp only [List.length_drop, List.length_take]; rfl)) ?_; (with_reducible refine (spec_l01OpIs.calls a0 true _ A5.out).mono ?_); rintro e w' ⟨rfl, ⟨nd, rfl⟩⟩; refine ⟨_, rfl, ?_⟩) | (go_at_call 34; (with_reducible refine (spec_l01Word.calls a1 a2 true _ A7.out).mono ?_); rintro e w' ⟨rfl, ⟨nd, rfl⟩⟩) | (go_at_call 34; (with_reducible refine (spec_l01Word.calls a1 a3 true _ A9.out).mono ?_); rintro e w' ⟨rfl, ⟨nd, rfl⟩⟩) | ((with_reducible refine gate_callee (f := 52) rfl ?_); refine goesL_ (some 29) rfl rfl Try.func52 (by kernel_rfl) rfl #[.int .i64 a0, .int .i64 a1, .int .i64 a2, .int .i64 a3] rfl (by (try simp only [List.map_toArray, List.map_cons, List.map_nil]); first | done | rfl | (simp only [List.length_drop, List.length_take]; rfl)) ?_; (with_reducible refine (spec_l01Do.calls a0 a1 a2 a3 t128 _ A11.out).mono ?_); rintro e w' ⟨rfl, ⟨nd, rfl⟩⟩; refine ⟨_, rfl, ?_⟩))
        go_ret2
        exact ⟨by first | rfl | (simp; done) | (simp [*]; done), by repeat (first | exact Drawn0.refl _ | apply Drawn0.step)⟩
      · replace c10 := Bool.eq_false_iff.mpr c10
        subst c10
        have H1 : (some (0, false)) = some (r1, r2) := by rw [if_neg (show ¬ (false = true) by decide)] at H; exact H
        clear H
        have H := H1
        clear H1
        simp only [Option.some.injEq, Prod.mk.injEq] at H
        obtain ⟨rfl, rfl⟩ := H
        go_enter Try.func28, Try.ntmps28
        go_wp2_with (first | ((with_reducible refine gate_callee (f := 51) rfl ?_); refine goesL_ (some 11) rfl rfl Try.func51 (by kernel_rfl) rfl #[.int .i64 a0] rfl (by (try simp only [List.map_toArray, List.map_cons, List.map_nil]); first | done | rfl | (simp only [List.length_drop, List.length_take]; rfl)) ?_; (with_reducible refine (spec_l01OpIs.calls a0 true _ A5.out).mono ?_); rintro e w' ⟨rfl, ⟨nd, rfl⟩⟩; refine ⟨_, rfl, ?_⟩) | (go_at_call 34; (with_reducible refine (spec_l01Word.calls a1 a2 true _ A7.out).mono ?_); rintro e w' ⟨rfl, ⟨nd, rfl⟩⟩) | (go_at_call 34; (with_reducible refine (spec_l01Word.calls a1 a3 false _ A9.out).mono ?_); rintro e w' ⟨rfl, ⟨nd, rfl⟩⟩))
        go_ret2
        exact ⟨by first | rfl | (simp; done) | (simp [*]; done), by repeat (first | exact Drawn0.refl _ | apply Drawn0.step)⟩
    · replace c8 := Bool.eq_false_iff.mpr c8
      subst c8
      have H1 : (some (0, false)) = some (r1, r2) := by rw [if_neg (show ¬ (false = true) by decide)] at H; exact H
      clear H
      have H := H1
      clear H1
      simp only [Option.some.injEq, Prod.mk.injEq] at H
      obtain ⟨rfl, rfl⟩ := H
      go_enter Try.func28, Try.ntmps28
      go_wp2_with (first | ((with_reducible refine gate_callee (f := 51) rfl ?_); refine goesL_ (some 11) rfl rfl Try.func51 (by kernel_rfl) rfl #[.int .i64 a0] rfl (by (try simp only [List.map_toArray, List.map_cons, List.map_nil]); first | done | rfl | (simp only [List.length_drop, List.length_take]; rfl)) ?_; (with_reducible refine (spec_l01OpIs.calls a0 true _ A5.out).mono ?_); rintro e w' ⟨rfl, ⟨nd, rfl⟩⟩; refine ⟨_, rfl, ?_⟩) | (go_at_call 34; (with_reducible refine (spec_l01Word.calls a1 a2 false _ A7.out).mono ?_); rintro e w' ⟨rfl, ⟨nd, rfl⟩⟩))
      go_ret2
      exact ⟨by first | rfl | (simp; done) | (simp [*]; done), by repeat (first | exact Drawn0.refl _ | apply Drawn0.step)⟩
  · replace c6 := Bool.eq_false_iff.mpr c6
    subst c6
    have H1 : (some (0, false)) = some (r1, r2) := by rw [if_neg (show ¬ (false = true) by decide)] at H; exact H
    clear H
    have H := H1
    clear H1
    simp only [Option.some.injEq, Prod.mk.injEq] at H
    obtain ⟨rfl, rfl⟩ := H
    go_enter Try.func28, Try.ntmps28
    go_wp2_with (first | ((with_reducible refine gate_callee (f := 51) rfl ?_); refine goesL_ (some 11) rfl rfl Try.func51 (by kernel_rfl) rfl #[.int .i64 a0] rfl (by (try simp only [List.map_toArray, List.map_cons, List.map_nil]); first | done | rfl | (simp only [List.length_drop, List.length_take]; rfl)) ?_; (with_reducible refine (spec_l01OpIs.calls a0 false _ A5.out).mono ?_); rintro e w' ⟨rfl, ⟨nd, rfl⟩⟩; refine ⟨_, rfl, ?_⟩))
    go_ret2
    exact ⟨by first | rfl | (simp; done) | (simp [*]; done), by repeat (first | exact Drawn0.refl _ | apply Drawn0.step)⟩

/-! ### impl_isBits: function 35 -/
def impl_isBits.f (a0 : Int) : Option (Bool) := if a0 = 4 then (some true) else (if a0 = 8 then (some true) else (some (a0 == 16)))
set_option maxHeartbeats 8000000 in
set_option maxRecDepth 100000 in
theorem impl_isBits.calls (a0 : Int) (r : Bool) (w : World) (h : impl_isBits.f a0 = some r) :
    Calls Try.prog 35 #[.int .i64 a0] w fun e w' => e = .returned (.bool r) ∧ Drawn0 w w' := by
  have H : (if a0 = 4 then (some true) else (if a0 = 8 then (some true) else (some (a0 == 16)))) = some r := h
  clear h
  by_cases c2 : a0 = 4
  · rw [if_pos c2] at H
    have c2b0 : (a0 == 4) = true := beq_iff_eq.mpr c2
    have c2b1 : (a0 != 4) = false := bne_eq_false_iff_eq.mpr c2
    clear c2
    obtain rfl := Option.some.inj H
    go_enter Try.func35, Try.ntmps35
    go_wp2
    go_ret
    exact ⟨by first | rfl | (simp; done) | (simp [*]; done), by repeat (first | exact Drawn0.refl _ | apply Drawn0.step)⟩
  · rw [if_neg c2] at H
    have c2b0 : (a0 == 4) = false := beq_eq_false_iff_ne.mpr c2
    have c2b1 : (a0 != 4) = true := bne_iff_ne.mpr c2
    by_cases c3 : a0 = 8
    · rw [if_pos c3] at H
      have c3b0 : (a0 == 8) = true := beq_iff_eq.mpr c3
      have c3b1 : (a0 != 8) = false := bne_eq_false_iff_eq.mpr c3
      clear c3
      obtain rfl := Option.some.inj H
      go_enter Try.func35, Try.ntmps35
      go_wp2
      go_ret
      exact ⟨by first | rfl | (simp; done) | (simp [*]; done), by repeat (first | exact Drawn0.refl _ | apply Drawn0.step)⟩
    · rw [if_neg c3] at H
      have c3b0 : (a0 == 8) = false := beq_eq_false_iff_ne.mpr c3
      have c3b1 : (a0 != 8) = true := bne_iff_ne.mpr c3
      obtain rfl := Option.some.inj H
      go_enter Try.func35, Try.ntmps35
      go_wp2
      go_ret
      exact ⟨by first | rfl | (simp; done) | (simp [*]; done), by repeat (first | exact Drawn0.refl _ | apply Drawn0.step)⟩

/-! ### impl_within: function 36 -/
def impl_within.f (a0 : Int) (a1 : Int) (a2 : Int) : Option (Bool) := if a1 ≤ a0 then (some (decide (a0 ≤ a2))) else (some false)
set_option maxHeartbeats 8000000 in
set_option maxRecDepth 100000 in
theorem impl_within.calls (a0 : Int) (a1 : Int) (a2 : Int) (r : Bool) (w : World) (h : impl_within.f a0 a1 a2 = some r) :
    Calls Try.prog 36 #[.int .i64 a0, .int .i64 a1, .int .i64 a2] w fun e w' => e = .returned (.bool r) ∧ Drawn0 w w' := by
  have H : (if a1 ≤ a0 then (some (decide (a0 ≤ a2))) else (some false)) = some r := h
  clear h
  by_cases c4 : a1 ≤ a0
  · rw [if_pos c4] at H
    have c4b0 : decide (a1 ≤ a0) = true := decide_eq_true c4
    clear c4
    obtain rfl := Option.some.inj H
    go_enter Try.func36, Try.ntmps36
    go_wp2
    go_ret
    exact ⟨by first | rfl | (simp; done) | (simp [*]; done), by repeat (first | exact Drawn0.refl _ | apply Drawn0.step)⟩
  · rw [if_neg c4] at H
    have c4b0 : decide (a1 ≤ a0) = false := decide_eq_false c4
    clear c4
    obtain rfl := Option.some.inj H
    go_enter Try.func36, Try.ntmps36
    go_wp2
    go_ret
    exact ⟨by first | rfl | (simp; done) | (simp [*]; done), by repeat (first | exact Drawn0.refl _ | apply Drawn0.step)⟩

end Go.Proofs.Ytigffehcchhlkaa.PFnExactDoOp
