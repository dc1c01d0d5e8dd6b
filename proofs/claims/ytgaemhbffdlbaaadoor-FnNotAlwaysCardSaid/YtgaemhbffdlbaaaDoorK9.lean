-- Laid by a program of this session.
import Derived.Test.YtgaemhbffdlbaaaDoorK0
import Derived.Test.YtgaemhbffdlbaaaDoorH0
import Derived.Test.YtgaemhbffdlbaaaDoorK7
import Derived.Lib.Hide
namespace Go.Proofs.YtgaemhbffdlbaaaDoor.K
open Go.RowKit Go.Proofs.YtgaemhbffdlbaaaDoorW.PrintWords Go.Proofs.YtgaemhbffdlbaaaDoorW.PrintLast Go.Proofs.YtgaemhbffdlbaaaDoorW.PrintMore Go.Proofs.YtgaemhbffdlbaaaDoor.Bx Go.Shelf Go.Lib
attribute [local go_sem] max2_int min2_int max_two min_two max_three min_three max_four min_four   -- for this text's walks alone
set_option linter.unusedVariables false
set_option linter.unusedSimpArgs false

/-! ### impl_IsCommutative: function 18 -/
def impl_IsCommutative.f (a0 : Int) : Option (Bool) := if a0 = 0 then (some true) else (if a0 = 14 then (some true) else ((impl_within.f a0 2 11).bind fun t293 => (some t293)))
set_option maxHeartbeats 8000000 in
set_option maxRecDepth 100000 in
theorem impl_IsCommutative.calls (a0 : Int) (r : Bool) (w : World) (h : impl_IsCommutative.f a0 = some r) :
  Calls Tryd.prog 18 #[.int .i64 a0] w fun e w' => e = .returned (.bool r) ∧ Drawn0 w w' := by
 have H : (if a0 = 0 then (some true) else (if a0 = 14 then (some true) else ((impl_within.f a0 2 11).bind fun t293 => (some t293)))) = some r := h
 clear h
 by_cases c2 : a0 = 0
 ·rw [if_pos c2] at H
  have c2b0 : (a0 == 0) = true := beq_iff_eq.mpr c2
  have c2b1 : (a0 != 0) = false := bne_eq_false_iff_eq.mpr c2
  clear c2
  obtain rfl := Option.some.inj H
  go_enter Tryd.func18, Tryd.ntmps18
  go_wp2
  go_ret
  exact ⟨by first | rfl | (simp; done) | (simp [*]; done), by repeat (first | exact Drawn0.refl _ | apply Drawn0.step)⟩
 rw [if_neg c2] at H
 have c2b0 : (a0 == 0) = false := beq_eq_false_iff_ne.mpr c2
 have c2b1 : (a0 != 0) = true := bne_iff_ne.mpr c2
 by_cases c3 : a0 = 14
 ·rw [if_pos c3] at H
  have c3b0 : (a0 == 14) = true := beq_iff_eq.mpr c3
  have c3b1 : (a0 != 14) = false := bne_eq_false_iff_eq.mpr c3
  clear c3
  obtain rfl := Option.some.inj H
  go_enter Tryd.func18, Tryd.ntmps18
  go_wp2
  go_ret
  exact ⟨by first | rfl | (simp; done) | (simp [*]; done), by repeat (first | exact Drawn0.refl _ | apply Drawn0.step)⟩
 rw [if_neg c3] at H
 have c3b0 : (a0 == 14) = false := beq_eq_false_iff_ne.mpr c3
 have c3b1 : (a0 != 14) = true := bne_iff_ne.mpr c3
 replace H := Option.bind_eq_some_iff.mp H
 obtain ⟨t293, A40, H⟩ := H
 try dsimp only at H
 have A4 := Aside0.mk A40
 clear A40
 obtain rfl := Option.some.inj H
 go_enter Tryd.func18, Tryd.ntmps18
 go_wp2_with (first | (go_at_call 42; (with_reducible refine (impl_within.calls a0 2 11 t293 _ A4.out).mono ?_); rintro e w' ⟨rfl, ⟨nd, rfl⟩⟩))
 go_ret
 exact ⟨by first | rfl | (simp; done) | (simp [*]; done), by repeat (first | exact Drawn0.refl _ | apply Drawn0.step)⟩
theorem iComm (op : Int) : impl_IsCommutative.f op = some (decide (op = 0 ∨ op = 14 ∨ (2 ≤ op ∧ op ≤ 11))) := by
 unfold impl_IsCommutative.f
 by_cases h : op = 0
 ·simp [h]
 by_cases h2 : op = 14
 ·simp [h2]
 simp [h, h2, iIn]

/-! ### impl_IsAssociative: function 19 -/
def impl_IsAssociative.f (a0 : Int) : Option (Bool) := if a0 = 0 then (some true) else ((impl_within.f a0 2 10).bind fun t294 => (some t294))
set_option maxHeartbeats 8000000 in
set_option maxRecDepth 100000 in
theorem impl_IsAssociative.calls (a0 : Int) (r : Bool) (w : World) (h : impl_IsAssociative.f a0 = some r) :
  Calls Tryd.prog 19 #[.int .i64 a0] w fun e w' => e = .returned (.bool r) ∧ Drawn0 w w' := by
 have H : (if a0 = 0 then (some true) else ((impl_within.f a0 2 10).bind fun t294 => (some t294))) = some r := h
 clear h
 by_cases c2 : a0 = 0
 ·rw [if_pos c2] at H
  have c2b0 : (a0 == 0) = true := beq_iff_eq.mpr c2
  have c2b1 : (a0 != 0) = false := bne_eq_false_iff_eq.mpr c2
  clear c2
  obtain rfl := Option.some.inj H
  go_enter Tryd.func19, Tryd.ntmps19
  go_wp2
  go_ret
  exact ⟨by first | rfl | (simp; done) | (simp [*]; done), by repeat (first | exact Drawn0.refl _ | apply Drawn0.step)⟩
 rw [if_neg c2] at H
 have c2b0 : (a0 == 0) = false := beq_eq_false_iff_ne.mpr c2
 have c2b1 : (a0 != 0) = true := bne_iff_ne.mpr c2
 replace H := Option.bind_eq_some_iff.mp H
 obtain ⟨t294, A30, H⟩ := H
 try dsimp only at H
 have A3 := Aside0.mk A30
 clear A30
 obtain rfl := Option.some.inj H
 go_enter Tryd.func19, Tryd.ntmps19
 go_wp2_with (first | (go_at_call 42; (with_reducible refine (impl_within.calls a0 2 10 t294 _ A3.out).mono ?_); rintro e w' ⟨rfl, ⟨nd, rfl⟩⟩))
 go_ret
 exact ⟨by first | rfl | (simp; done) | (simp [*]; done), by repeat (first | exact Drawn0.refl _ | apply Drawn0.step)⟩
theorem iAssoc (op : Int) : impl_IsAssociative.f op = some (decide (op = 0 ∨ (2 ≤ op ∧ op ≤ 10))) := by
 unfold impl_IsAssociative.f
 by_cases h : op = 0
 ·simp [h]
 simp [h, iIn]

end Go.Proofs.YtgaemhbffdlbaaaDoor.K
