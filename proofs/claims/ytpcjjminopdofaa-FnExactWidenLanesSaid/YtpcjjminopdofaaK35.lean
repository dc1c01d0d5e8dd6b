-- Laid by a program of this session.
import Derived.Test.YtpcjjminopdofaaK0
import Derived.Test.YtpcjjminopdofaaK29
import Derived.Test.YtpcjjminopdofaaH0
import Derived.Test.YtpcjjminopdofaaK3
import Derived.Test.YtpcjjminopdofaaK9
import Derived.Test.YtpcjjminopdofaaK12
import Derived.Test.YtpcjjminopdofaaK34
namespace Go.Proofs.Ytpcjjminopdofaa.K
open Go.RowKit Go.Proofs.YtpcjjminopdofaaW.PrintWords Go.Proofs.YtpcjjminopdofaaW.PrintLast Go.Proofs.YtpcjjminopdofaaW.PrintMore Go.Proofs.Ytpcjjminopdofaa.Bx Go.Shelf
attribute [local go_sem] max2_int min2_int max_two min_two max_three min_three max_four min_four   -- for this text's walks alone
set_option linter.unusedVariables false
set_option linter.unusedSimpArgs false

/-! ### impl_WidenLanes: function 56 -/
/-- The lanes in twice as many bits, both halves. -/
def wid (b : Int) (s : Bool) (x : Int) : Int := if s = true then sg b x % M (2 * b) else x
def widen (b : Int) (l : List Int) (s : Bool) : List Int := (List.range l.length).map fun (j : Nat) => wid b s (rd l (j : Int))
def WidOk (b : Int) (l : List Int) : Prop := b ≤ 8 ∧ vec b l = true ∧ 4 ≤ l.length
instance (b : Int) (l : List Int) : Decidable (WidOk b l) := inferInstanceAs (Decidable (_ ∧ _ ∧ _))
def impl_WidenLanes.f (_k : Nat) (a0 : Int) (l1 : List Int) (a2 : Bool) : Option (List Int × List Int × Bool) := some (if WidOk a0 l1 then ((widen a0 l1 a2).take (l1.length / 2), (widen a0 l1 a2).drop (l1.length / 2), true) else ([], [], false))
theorem impl_WidenLanes.mono : ∀ a0 a1 a2 k, LeO (impl_WidenLanes.f k a0 a1 a2) (impl_WidenLanes.f (k + 1) a0 a1 a2) := fun _ _ _ _ => LeO.refl _
set_option maxHeartbeats 4000000 in
theorem impl_WidenLanes.lit (b : Int) (l : List Int) (s : Bool) (A : Option Addr) (c : Nat) (B : Nat) (W : World) (j : Nat) (hj : j < l.length) (hb : b ≤ 8) (hw : Words b l)
  (h1 : W.cell? ⟨B, 0, none⟩ = some (.int .i64 b)) (h2 : W.cell? ⟨B + 1, 0, none⟩ = some (.slice A l.length c)) (h3 : W.cell? ⟨B + 1 + 1, 0, none⟩ = some (.bool s)) (hr : Kd.C (Kd.int .i64) W A l.length l) :
  Calls Try.prog 119 #[.int .i64 (j : Int), .pointer (some ⟨B + 1 + 1, 0, none⟩), .pointer (some ⟨B, 0, none⟩), .pointer (some ⟨B + 1, 0, none⟩)] W fun e w' => e = .returned (.int .i64 (wid b s (rd l (j : Int)))) ∧ Below W.heap.size W w' := by
 have hk : (j : Int) < (l.length : Int) := by omega
 have hj0 : 0 ≤ (j : Int) := Int.natCast_nonneg j
 have hx := words_rd hw hj0 hk
 have hbb := b_bounds hx.1
 have hb2 : Bits (2 * b) := by
  rcases hx.1 with rfl | rfl | rfl
  ·exact .inr (.inl rfl)
  ·exact .inr (.inr rfl)
  ·omega
 have HQ1 : Aside0 (impl_signedOf.f b (rd l (j : Int)) = some (sg b (rd l (j : Int)))) := ⟨iSg hx⟩
 have e2 : wrap64 (2 * b) = 2 * b := w_small (by omega)
 have HQ2 : Aside0 (impl_wrapped.f (wrap64 (2 * b)) (sg b (rd l (j : Int))) = some (sg b (rd l (j : Int)) % M (2 * b))) := ⟨by rw [e2]; exact iWrap hb2 _⟩
 obtain ⟨ad, e, hy⟩ := Kd.at_int hr (j : Int) hj0 hk
 cases e
 rw [Int.toNat_natCast] at hy
 clear hr hw hx hbb hb2 e2 hb
 generalize rd l (j : Int) = x at hy HQ1 HQ2 ⊢
 cases s with
 | true =>
  show Calls _ _ _ _ fun e w' => e = .returned (.int .i64 (sg b x % M (2 * b))) ∧ _
  go_enter Try.func119, Try.ntmps119
  go_wp2
  go_quiet (first | (go_at_call 120; exact quiet0 (impl_signedOf.calls _ _ _ _ HQ1.out)) | (go_at_call 98; exact quiet0 (impl_wrapped.calls _ _ _ _ HQ2.out)))
  go_wp2
  go_ret
  exact ⟨rfl, pw_below_drewN (Below.refl _ _) _⟩
 | false =>
  show Calls _ _ _ _ fun e w' => e = .returned (.int .i64 x) ∧ _
  go_enter Try.func119, Try.ntmps119
  go_wp2
  go_ret
  exact ⟨rfl, Below.refl _ _⟩
set_option maxHeartbeats 8000000 in
set_option maxRecDepth 100000 in
theorem impl_WidenLanes.calls (k : Nat) (a0 : Int) (A1 : Option Addr) (c1 : Nat) (l1 : List Int) (a2 : Bool) (r1 : List Int) (r2 : List Int) (r3 : Bool) (w : World) (hr1 : Kd.C (Kd.int .i64) w A1 l1.length l1) (hc1 : l1.length ≤ c1) (h : impl_WidenLanes.f k a0 l1 a2 = some (r1, r2, r3)) :
  Calls Try.prog 56 #[.int .i64 a0, .slice A1 l1.length c1, .bool a2] w fun e w' => ∃ v0_ v1_ : Value, e = .returned (.tuple #[v0_, v1_, .bool r3]) ∧ Kd.R (Kd.int .i64) 2 w' w.heap.size (fun k_ => some k_ ≠ (v1_ : Value).ownBlock) v0_ r1 ∧ Kd.R (Kd.int .i64) 2 w' w.heap.size (fun k_ => some k_ ≠ (v0_ : Value).ownBlock) v1_ r2 ∧ Below w.heap.size w w' := by
 have hv := Option.some.inj h
 clear h
 have HR := Aside0.mk hr1
 have HC := Aside0.mk hc1
 by_cases q : WidOk a0 l1
 ·rw [if_pos q] at hv
  obtain ⟨rfl, e2⟩ := Prod.mk.inj hv
  obtain ⟨rfl, rfl⟩ := Prod.mk.inj e2
  clear hv e2
  obtain ⟨hb, hx, h4⟩ := q
  have hl16 := lanes_le (vec_iff.mp hx).2.1
  have hw := (vec_iff.mp hx).2.2
  have HV : Aside0 (impl_IsVector.f 0 a0 l1 = some true) := ⟨by unfold impl_IsVector.f; rw [hx]⟩
  have hlen : (widen a0 l1 a2).length = l1.length := by unfold widen; simp
  have HH : Aside0 (impl_halves.f 0 (widen a0 l1 a2) = some ((widen a0 l1 a2).take (l1.length / 2), (widen a0 l1 a2).drop (l1.length / 2))) := ⟨by
   unfold impl_halves.f
   have e : wrap64 (((widen a0 l1 a2).length : Int) / 2) = ((l1.length / 2 : Nat) : Int) := by rw [hlen, w_small (by omega)]; omega
   rw [e, if_pos (by omega), if_pos (by omega), Int.toNat_natCast]
   unfold slices_Clone_int64_int64.f
   rw [if_pos (by rw [List.length_take]; omega), if_pos (by rw [List.length_drop]; omega)]
   rfl⟩
  have HA := Aside0.mk (fun (W : World) (hB : Below w.heap.size w W) (hB2 : w.heap.size + 1 + 1 < W.heap.size) (h1 : W.cell? ⟨w.heap.size, 0, none⟩ = some (.int .i64 a0)) (h2 : W.cell? ⟨w.heap.size + 1, 0, none⟩ = some (.slice A1 l1.length c1)) (h3 : W.cell? ⟨w.heap.size + 1 + 1, 0, none⟩ = some (.bool a2)) =>
   lanesOf_c 119 #[.pointer (some ⟨w.heap.size + 1 + 1, 0, none⟩), .pointer (some ⟨w.heap.size, 0, none⟩), .pointer (some ⟨w.heap.size + 1, 0, none⟩)] (enters_of Try.func119 (by kernel_rfl) rfl) l1.length (fun (j : Nat) => wid a0 a2 (rd l1 (j : Int))) W (by omega)
    (fun j hj W' hb' => impl_WidenLanes.lit a0 l1 a2 A1 c1 w.heap.size W' j hj hb hw
     ((hb'.cell (p := ⟨w.heap.size, 0, none⟩) (by show w.heap.size < _; omega)).trans h1) ((hb'.cell (p := ⟨w.heap.size + 1, 0, none⟩) (by show w.heap.size + 1 < _; omega)).trans h2)
     ((hb'.cell (p := ⟨w.heap.size + 1 + 1, 0, none⟩) (by show w.heap.size + 1 + 1 < _; omega)).trans h3) (Kd.C_below (Kd.C_below hr1 hB) hb')))
  have g1 : decide (a0 > 8) = false := decide_eq_false (by omega)
  have g2 : decide (8 < a0) = false := decide_eq_false (by omega)
  have g3 : decide ((l1.length : Int) < 4) = false := decide_eq_false (by omega)
  have g4 : decide (l1.length < 4) = false := decide_eq_false (by omega)
  clear hx hl16 hr1 hc1 hb h4 hw hlen
  go_enter Try.func56, Try.ntmps56
  go_wp2_with (first | (go_at_call 32; (with_reducible refine (impl_IsVector.calls 0 a0 A1 c1 l1 true _ ?s1 HC.out HV.out).mono ?_); (case s1 => exact Kd.C_below HR.out (by repeat (first | exact Below.refl _ _ | apply below_alloc | apply pw_below_drewN | apply below_drew1))); rintro e w1 ⟨rfl, hb1⟩; have hc1 : w1.cell? ⟨w.heap.size, 0, none⟩ = some (.int .i64 a0) := (hb1.cell (p := ⟨w.heap.size, 0, none⟩) (by simp; omega)).trans (by go_simp; done); have hc2 : w1.cell? ⟨w.heap.size + 1, 0, none⟩ = some (.slice A1 l1.length c1) := (hb1.cell (p := ⟨w.heap.size + 1, 0, none⟩) (by simp)).trans (by go_simp; done); have hc3 : w1.cell? ⟨w.heap.size + 1 + 1, 0, none⟩ = some (.bool a2) := (hb1.cell (p := ⟨w.heap.size + 1 + 1, 0, none⟩) (by simp)).trans (by go_simp; done); have hs1 : w.heap.size + 1 + 1 < w1.heap.size := (by have := below_size hb1; simp at this; omega); have HB1 : Aside0 (Below w.heap.size w w1) := ⟨below_step (by repeat (first | exact Below.refl _ _ | apply below_alloc | apply pw_below_drewN | apply below_drew1)) hb1⟩; clear hb1) | (go_at_call 96; refine (HA.out _ ?a1 ?a2 ?a3 ?a4 ?a5).mono ?_; (case a1 => repeat (first | exact HB1.out | apply below_alloc | apply pw_below_drewN | apply below_drew1)); (case a2 => first | exact hs1 | (simp; exact hs1)); (case a3 => first | exact hc1 | (go_simp; done)); (case a4 => first | exact hc2 | (go_simp; done)); (case a5 => first | exact hc3 | (go_simp; done)); rintro e w2 ⟨v, rfl, ho, hb⟩; have ho2 : Kd.R (Kd.int .i64) 2 w2 _ _ v (widen a0 l1 a2) := ho; clear ho; obtain ⟨Av, cv, rfl, hcv, hCv⟩ := Kd.R_reads ho2; have HB2 : Aside0 (Below w.heap.size w w2) := ⟨below_step (by repeat (first | exact HB1.out | apply below_alloc | apply pw_below_drewN | apply below_drew1)) hb⟩; clear hb ho2) | (go_at_call 111; (with_reducible refine (impl_halves.calls 0 Av cv (widen a0 l1 a2) _ _ _ ?h1 hcv HH.out).mono ?_); (case h1 => repeat (first | exact hCv | (with_reducible refine Kd.C_drewN ?_ _))); rintro e w3 ⟨v0, v1, rfl, hr0, hr1, hb3⟩))
  go_ret3
  refine ⟨_, _, rfl, Kd.R_lower hr0 ?_, Kd.R_lower hr1 ?_, below_step ?_ hb3⟩
  ·exact below_size (by repeat (first | exact HB2.out | apply below_alloc | apply pw_below_drewN | apply below_drew1))
  ·exact below_size (by repeat (first | exact HB2.out | apply below_alloc | apply pw_below_drewN | apply below_drew1))
  ·repeat (first | exact HB2.out | apply below_alloc | apply pw_below_drewN | apply below_drew1)
 ·rw [if_neg q] at hv
  obtain ⟨rfl, e2⟩ := Prod.mk.inj hv
  obtain ⟨rfl, rfl⟩ := Prod.mk.inj e2
  clear hv e2
  by_cases hb : a0 ≤ 8
  rotate_left
  ·have g1 : decide (a0 > 8) = true := decide_eq_true (by omega)
   have g2 : decide (8 < a0) = true := decide_eq_true (by omega)
   clear hr1 hc1 hb q
   go_enter Try.func56, Try.ntmps56
   go_wp2
   go_ret3
   refine ⟨_, _, rfl, Kd.R_nil _ _ _ _ _, Kd.R_nil _ _ _ _ _, ?_⟩
   repeat (first | exact Below.refl _ _ | apply below_alloc | apply pw_below_drewN | apply below_drew1)

  have g1 : decide (a0 > 8) = false := decide_eq_false (by omega)
  have g2 : decide (8 < a0) = false := decide_eq_false (by omega)
  by_cases hx : vec a0 l1 = true
  rotate_left
  ·have HV : Aside0 (impl_IsVector.f 0 a0 l1 = some false) := ⟨by unfold impl_IsVector.f; rw [Bool.not_eq_true] at hx; rw [hx]⟩
   clear hx hr1 hc1 hb q
   go_enter Try.func56, Try.ntmps56
   go_wp2_with (go_at_call 32; (with_reducible refine (impl_IsVector.calls 0 a0 A1 c1 l1 false _ ?s1 HC.out HV.out).mono ?_); (case s1 => exact Kd.C_below HR.out (by repeat (first | exact Below.refl _ _ | apply below_alloc | apply pw_below_drewN | apply below_drew1))); rintro e w1 ⟨rfl, hb1⟩; have hc2 : w1.cell? ⟨w.heap.size + 1, 0, none⟩ = some (.slice A1 l1.length c1) := (hb1.cell (p := ⟨w.heap.size + 1, 0, none⟩) (by simp)).trans (by go_simp; done); have HB1 : Aside0 (Below w.heap.size w w1) := ⟨below_step (by repeat (first | exact Below.refl _ _ | apply below_alloc | apply pw_below_drewN | apply below_drew1)) hb1⟩; clear hb1)
   go_ret3
   exact ⟨_, _, rfl, Kd.R_nil _ _ _ _ _, Kd.R_nil _ _ _ _ _, HB1.out⟩
  have HV : Aside0 (impl_IsVector.f 0 a0 l1 = some true) := ⟨by unfold impl_IsVector.f; rw [hx]⟩
  have hlt : ¬ 4 ≤ l1.length := fun hh => q ⟨hb, hx, hh⟩
  have g3 : decide ((l1.length : Int) < 4) = true := decide_eq_true (by omega)
  have g4 : decide (l1.length < 4) = true := decide_eq_true (by omega)
  clear hx hr1 hc1 hb q hlt
  go_enter Try.func56, Try.ntmps56
  go_wp2_with (go_at_call 32; (with_reducible refine (impl_IsVector.calls 0 a0 A1 c1 l1 true _ ?s1 HC.out HV.out).mono ?_); (case s1 => exact Kd.C_below HR.out (by repeat (first | exact Below.refl _ _ | apply below_alloc | apply pw_below_drewN | apply below_drew1))); rintro e w1 ⟨rfl, hb1⟩; have hc2 : w1.cell? ⟨w.heap.size + 1, 0, none⟩ = some (.slice A1 l1.length c1) := (hb1.cell (p := ⟨w.heap.size + 1, 0, none⟩) (by simp)).trans (by go_simp; done); have HB1 : Aside0 (Below w.heap.size w w1) := ⟨below_step (by repeat (first | exact Below.refl _ _ | apply below_alloc | apply pw_below_drewN | apply below_drew1)) hb1⟩; clear hb1)
  go_ret3
  exact ⟨_, _, rfl, Kd.R_nil _ _ _ _ _, Kd.R_nil _ _ _ _ _, HB1.out⟩
end Go.Proofs.Ytpcjjminopdofaa.K
