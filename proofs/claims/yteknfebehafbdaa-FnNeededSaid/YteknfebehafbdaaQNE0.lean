-- Laid by a program of this session.
import Derived.Test.YteknfebehafbdaaK0
import Derived.Test.YteknfebehafbdaaH0
import Derived.Test.YteknfebehafbdaaH4
import Derived.Test.YteknfebehafbdaaH6
import Derived.Test.YteknfebehafbdaaH7
namespace Go.Proofs.Yteknfebehafbdaa.K
open Go.RowKit Go.Proofs.YteknfebehafbdaaW.PrintWords Go.Proofs.YteknfebehafbdaaW.PrintLast Go.Proofs.YteknfebehafbdaaW.PrintMore Go.Proofs.Yteknfebehafbdaa.Bx Go.Shelf
attribute [local go_sem] max2_int min2_int max_two min_two max_three min_three max_four min_four   -- for this text's walks alone
set_option linter.unusedVariables false
set_option linter.unusedSimpArgs false

/-! ### impl_within: function 100 -/
def impl_within.f (a0 : Int) (a1 : Int) (a2 : Int) : Option (Bool) := if a1 ≤ a0 then (some (decide (a0 ≤ a2))) else (some false)
set_option maxHeartbeats 8000000 in
set_option maxRecDepth 100000 in
theorem impl_within.calls (a0 : Int) (a1 : Int) (a2 : Int) (r : Bool) (w : World) (h : impl_within.f a0 a1 a2 = some r) :
  Calls Try.prog 100 #[.int .i64 a0, .int .i64 a1, .int .i64 a2] w fun e w' => e = .returned (.bool r) ∧ Drawn0 w w' := by
 have H : (if a1 ≤ a0 then (some (decide (a0 ≤ a2))) else (some false)) = some r := h
 clear h
 by_cases c4 : a1 ≤ a0
 ·rw [if_pos c4] at H
  have c4b0 : decide (a1 ≤ a0) = true := decide_eq_true c4
  clear c4
  obtain rfl := Option.some.inj H
  go_enter Try.func100, Try.ntmps100
  go_wp2
  go_ret
  exact ⟨by first | rfl | (simp; done) | (simp [*]; done), by repeat (first | exact Drawn0.refl _ | apply Drawn0.step)⟩
 rw [if_neg c4] at H
 have c4b0 : decide (a1 ≤ a0) = false := decide_eq_false c4
 clear c4
 obtain rfl := Option.some.inj H
 go_enter Try.func100, Try.ntmps100
 go_wp2
 go_ret
 exact ⟨by first | rfl | (simp; done) | (simp [*]; done), by repeat (first | exact Drawn0.refl _ | apply Drawn0.step)⟩
theorem iIn (n lo hi : Int) : impl_within.f n lo hi = some (decide (lo ≤ n ∧ n ≤ hi)) := by
 unfold impl_within.f
 by_cases h : lo ≤ n
 ·rw [if_pos h]; congr 1; simp; omega
 rw [if_neg h]; congr 1; simp; omega

/-! ### impl_isOp: function 64 -/
def impl_isOp.f (a0 : Int) : Option (Bool) := (impl_within.f a0 0 17).bind fun t124 => (some t124)
set_option maxHeartbeats 8000000 in
set_option maxRecDepth 100000 in
theorem impl_isOp.calls (a0 : Int) (r : Bool) (w : World) (h : impl_isOp.f a0 = some r) :
  Calls Try.prog 64 #[.int .i64 a0] w fun e w' => e = .returned (.bool r) ∧ Drawn0 w w' := by
 have H : ((impl_within.f a0 0 17).bind fun t124 => (some t124)) = some r := h
 clear h
 replace H := Option.bind_eq_some_iff.mp H
 obtain ⟨t124, A20, H⟩ := H
 try dsimp only at H
 have A2 := Aside0.mk A20
 clear A20
 obtain rfl := Option.some.inj H
 go_enter Try.func64, Try.ntmps64
 go_wp2_with (first | ((with_reducible refine gate_callee (f := 100) rfl ?_); refine goesL_ (some 4) rfl rfl Try.func100 (by kernel_rfl) rfl #[.int .i64 a0, .int .i64 0, .int .i64 17] rfl (by (try simp only [List.map_toArray, List.map_cons, List.map_nil]); first | done | rfl | (simp only [List.length_drop, List.length_take]; rfl)) ?_; (with_reducible refine (impl_within.calls a0 0 17 t124 _ A2.out).mono ?_); rintro e w' ⟨rfl, ⟨nd, rfl⟩⟩; refine ⟨_, rfl, ?_⟩))
 go_ret
 exact ⟨by first | rfl | (simp; done) | (simp [*]; done), by repeat (first | exact Drawn0.refl _ | apply Drawn0.step)⟩
theorem iOp (op : Int) : impl_isOp.f op = some (decide (OpOk op)) := by unfold impl_isOp.f; rw [iIn]; rfl

/-! ### impl_isCell: function 65 -/
def impl_isCell.f (a0 : Int) : Option (Bool) := (impl_within.f a0 0 31).bind fun t125 => (some t125)
set_option maxHeartbeats 8000000 in
set_option maxRecDepth 100000 in
theorem impl_isCell.calls (a0 : Int) (r : Bool) (w : World) (h : impl_isCell.f a0 = some r) :
  Calls Try.prog 65 #[.int .i64 a0] w fun e w' => e = .returned (.bool r) ∧ Drawn0 w w' := by
 have H : ((impl_within.f a0 0 31).bind fun t125 => (some t125)) = some r := h
 clear h
 replace H := Option.bind_eq_some_iff.mp H
 obtain ⟨t125, A20, H⟩ := H
 try dsimp only at H
 have A2 := Aside0.mk A20
 clear A20
 obtain rfl := Option.some.inj H
 go_enter Try.func65, Try.ntmps65
 go_wp2_with (first | ((with_reducible refine gate_callee (f := 100) rfl ?_); refine goesL_ (some 4) rfl rfl Try.func100 (by kernel_rfl) rfl #[.int .i64 a0, .int .i64 0, .int .i64 31] rfl (by (try simp only [List.map_toArray, List.map_cons, List.map_nil]); first | done | rfl | (simp only [List.length_drop, List.length_take]; rfl)) ?_; (with_reducible refine (impl_within.calls a0 0 31 t125 _ A2.out).mono ?_); rintro e w' ⟨rfl, ⟨nd, rfl⟩⟩; refine ⟨_, rfl, ?_⟩))
 go_ret
 exact ⟨by first | rfl | (simp; done) | (simp [*]; done), by repeat (first | exact Drawn0.refl _ | apply Drawn0.step)⟩

/-! ### impl_ValidCode: function 21 -/
/-- A statement whose operation and cells are such. -/
def cellB (n : Int) : Bool := decide (0 ≤ n ∧ n ≤ 31)
def stOk (x : S58) : Bool := decide (OpOk x.f0) && (cellB x.f1 && (cellB x.f2 && cellB x.f3))
def impl_ValidCode.f (_k : Nat) (l0 : List (S58)) : Option (Bool) := some (decide (l0.length ≤ 16) && (List.range l0.length).all fun (j : Nat) => stOk (rd_T58 l0 (j : Int)))
theorem impl_ValidCode.mono : ∀ a0 k, LeO (impl_ValidCode.f k a0) (impl_ValidCode.f (k + 1) a0) := fun _ _ => LeO.refl _
theorem iCell (n : Int) : impl_isCell.f n = some (cellB n) := by
 unfold impl_isCell.f impl_within.f cellB
 by_cases h : 0 ≤ n
 ·rw [if_pos h, Option.bind_some]; simp [h]
 rw [if_neg h, Option.bind_some]; simp [h]
set_option maxHeartbeats 4000000 in
set_option maxRecDepth 100000 in
theorem impl_ValidCode.lit (x : S58) (W : World) :
  Calls Try.prog 63 #[agg x] W fun e w' => e = .returned (.bool (stOk x)) ∧ Below W.heap.size W w' := by
 obtain ⟨o, d, a, b⟩ := x
 have HQ0 : Aside0 (impl_isOp.f o = some (decide (OpOk o))) := ⟨iOp o⟩
 have HQ1 : Aside0 (impl_isCell.f d = some (cellB d)) := ⟨iCell d⟩
 have HQ2 : Aside0 (impl_isCell.f a = some (cellB a)) := ⟨iCell a⟩
 have HQ3 : Aside0 (impl_isCell.f b = some (cellB b)) := ⟨iCell b⟩
 show Calls Try.prog 63 #[.agg #[.int .i64 o, .int .i64 d, .int .i64 a, .int .i64 b]] W fun e w' => e = .returned (.bool (decide (OpOk o) && (cellB d && (cellB a && cellB b)))) ∧ Below W.heap.size W w'
 generalize decide (OpOk o) = b0 at HQ0 ⊢
 generalize cellB d = b1 at HQ1 ⊢
 generalize cellB a = b2 at HQ2 ⊢
 generalize cellB b = b3 at HQ3 ⊢
 cases b0 with
 | false =>
  go_enter Try.func63, Try.ntmps63
  go_wp2_with (first | (go_at_call 64; (with_reducible refine (impl_isOp.calls _ _ _ HQ0.out).mono ?_); rintro e w' ⟨rfl, ⟨nd, rfl⟩⟩) | (go_at_call 65; (with_reducible refine (impl_isCell.calls _ _ _ HQ1.out).mono ?_); rintro e w' ⟨rfl, ⟨nd, rfl⟩⟩) | (go_at_call 65; (with_reducible refine (impl_isCell.calls _ _ _ HQ2.out).mono ?_); rintro e w' ⟨rfl, ⟨nd, rfl⟩⟩) | (go_at_call 65; (with_reducible refine (impl_isCell.calls _ _ _ HQ3.out).mono ?_); rintro e w' ⟨rfl, ⟨nd, rfl⟩⟩))
  go_ret
  exact ⟨rfl, by repeat (first | exact Below.refl _ _ | apply below_alloc | apply pw_below_drewN | apply below_drew1)⟩
 | true =>
  cases b1 with
  | false =>
   go_enter Try.func63, Try.ntmps63
   go_wp2_with (first | (go_at_call 64; (with_reducible refine (impl_isOp.calls _ _ _ HQ0.out).mono ?_); rintro e w' ⟨rfl, ⟨nd, rfl⟩⟩) | (go_at_call 65; (with_reducible refine (impl_isCell.calls _ _ _ HQ1.out).mono ?_); rintro e w' ⟨rfl, ⟨nd, rfl⟩⟩) | (go_at_call 65; (with_reducible refine (impl_isCell.calls _ _ _ HQ2.out).mono ?_); rintro e w' ⟨rfl, ⟨nd, rfl⟩⟩) | (go_at_call 65; (with_reducible refine (impl_isCell.calls _ _ _ HQ3.out).mono ?_); rintro e w' ⟨rfl, ⟨nd, rfl⟩⟩))
   go_ret
   exact ⟨rfl, by repeat (first | exact Below.refl _ _ | apply below_alloc | apply pw_below_drewN | apply below_drew1)⟩
  | true =>
   cases b2 with
   | false =>
    go_enter Try.func63, Try.ntmps63
    go_wp2_with (first | (go_at_call 64; (with_reducible refine (impl_isOp.calls _ _ _ HQ0.out).mono ?_); rintro e w' ⟨rfl, ⟨nd, rfl⟩⟩) | (go_at_call 65; (with_reducible refine (impl_isCell.calls _ _ _ HQ1.out).mono ?_); rintro e w' ⟨rfl, ⟨nd, rfl⟩⟩) | (go_at_call 65; (with_reducible refine (impl_isCell.calls _ _ _ HQ2.out).mono ?_); rintro e w' ⟨rfl, ⟨nd, rfl⟩⟩) | (go_at_call 65; (with_reducible refine (impl_isCell.calls _ _ _ HQ3.out).mono ?_); rintro e w' ⟨rfl, ⟨nd, rfl⟩⟩))
    go_ret
    exact ⟨rfl, by repeat (first | exact Below.refl _ _ | apply below_alloc | apply pw_below_drewN | apply below_drew1)⟩
   | true => cases b3 with
    | false =>
     go_enter Try.func63, Try.ntmps63
     go_wp2_with (first | (go_at_call 64; (with_reducible refine (impl_isOp.calls _ _ _ HQ0.out).mono ?_); rintro e w' ⟨rfl, ⟨nd, rfl⟩⟩) | (go_at_call 65; (with_reducible refine (impl_isCell.calls _ _ _ HQ1.out).mono ?_); rintro e w' ⟨rfl, ⟨nd, rfl⟩⟩) | (go_at_call 65; (with_reducible refine (impl_isCell.calls _ _ _ HQ2.out).mono ?_); rintro e w' ⟨rfl, ⟨nd, rfl⟩⟩) | (go_at_call 65; (with_reducible refine (impl_isCell.calls _ _ _ HQ3.out).mono ?_); rintro e w' ⟨rfl, ⟨nd, rfl⟩⟩))
     go_ret
     exact ⟨rfl, by repeat (first | exact Below.refl _ _ | apply below_alloc | apply pw_below_drewN | apply below_drew1)⟩
    | true =>
     go_enter Try.func63, Try.ntmps63
     go_wp2_with (first | (go_at_call 64; (with_reducible refine (impl_isOp.calls _ _ _ HQ0.out).mono ?_); rintro e w' ⟨rfl, ⟨nd, rfl⟩⟩) | (go_at_call 65; (with_reducible refine (impl_isCell.calls _ _ _ HQ1.out).mono ?_); rintro e w' ⟨rfl, ⟨nd, rfl⟩⟩) | (go_at_call 65; (with_reducible refine (impl_isCell.calls _ _ _ HQ2.out).mono ?_); rintro e w' ⟨rfl, ⟨nd, rfl⟩⟩) | (go_at_call 65; (with_reducible refine (impl_isCell.calls _ _ _ HQ3.out).mono ?_); rintro e w' ⟨rfl, ⟨nd, rfl⟩⟩))
     go_ret
     exact ⟨rfl, by repeat (first | exact Below.refl _ _ | apply below_alloc | apply pw_below_drewN | apply below_drew1)⟩
set_option maxHeartbeats 8000000 in
set_option maxRecDepth 100000 in
theorem impl_ValidCode.calls (k : Nat) (A0 : Option Addr) (c0 : Nat) (l0 : List (S58)) (r : Bool) (w : World) (hr0 : Kd.C k58 w A0 l0.length l0) (hc0 : l0.length ≤ c0) (h : impl_ValidCode.f k l0 = some r) :
  Calls Try.prog 21 #[.slice A0 l0.length c0] w fun e w' => e = .returned (.bool r) ∧ Below w.heap.size w w' := by
 obtain rfl := Option.some.inj h
 clear h
 have HA := Aside0.mk (fun (W : World) (hC : Kd.C k58 W A0 l0.length l0) => areAll_s 63 #[] (enters_of Try.func63 (by kernel_rfl) rfl) A0 l0.length c0 l0 (fun (j : Nat) => stOk (rd_T58 l0 (j : Int))) W hC (fun j hj W' hb' => impl_ValidCode.lit _ W'))
 have HR := Aside0.mk hr0
 clear hr0
 by_cases hl : l0.length ≤ 16
 ·rw [decide_eq_true hl, Bool.true_and]
  have g1 : decide ((l0.length : Int) ≤ 16) = true := decide_eq_true (by omega)
  have g2 : decide (l0.length ≤ 16) = true := decide_eq_true hl
  clear hl
  go_enter Try.func21, Try.ntmps21
  go_wp2_with (go_at_call 62; refine (HA.out _ HR.out).mono ?_; rintro e w' ⟨rfl, hb⟩)
  go_ret
  exact ⟨rfl, hb⟩
 rw [decide_eq_false hl, Bool.false_and]
 have g1 : decide ((l0.length : Int) ≤ 16) = false := decide_eq_false (by omega)
 have g2 : decide (l0.length ≤ 16) = false := decide_eq_false hl
 clear hl
 go_enter Try.func21, Try.ntmps21
 go_wp2
 go_ret
 exact ⟨rfl, Below.refl _ _⟩

/-! ### impl_OutputsOf: function 37 -/
/-- The test of code. -/
def vOk (l : List S58) : Bool := decide (l.length ≤ 16) && (List.range l.length).all fun (j : Nat) => stOk (rd_T58 l (j : Int))
theorem vOk_len {l : List S58} (h : vOk l = true) : l.length ≤ 16 := by
 unfold vOk at h
 rw [Bool.and_eq_true] at h
 exact of_decide_eq_true h.1
theorem cellB_iff {n : Int} : cellB n = true ↔ 0 ≤ n ∧ n ≤ 31 := by unfold cellB; exact decide_eq_true_iff
theorem vOk_at {l : List S58} (h : vOk l = true) {j : Nat} (hj : j < l.length) : OpOk (rd_T58 l (j : Int)).f0 ∧ (0 ≤ (rd_T58 l (j : Int)).f1 ∧ (rd_T58 l (j : Int)).f1 ≤ 31) ∧ (0 ≤ (rd_T58 l (j : Int)).f2 ∧ (rd_T58 l (j : Int)).f2 ≤ 31) ∧ (0 ≤ (rd_T58 l (j : Int)).f3 ∧ (rd_T58 l (j : Int)).f3 ≤ 31) := by
 unfold vOk at h
 rw [Bool.and_eq_true, List.all_eq_true] at h
 have := h.2 j (List.mem_range.mpr hj)
 unfold stOk at this
 simp only [Bool.and_eq_true] at this
 exact ⟨of_decide_eq_true this.1, cellB_iff.mp this.2.1, cellB_iff.mp this.2.2.1, cellB_iff.mp this.2.2.2⟩
/-- The cells that the first x statements write. -/
def wrm (l : List S58) : Nat → Nat → Bool
 | 0 => fun _ => false
 | x + 1 => put (wrm l x) (rd_T58 l (x : Int)).f1 true
def impl_OutputsOf.f (_k : Nat) (l0 : List (S58)) : Option (List Int × Bool) := some (if vOk l0 = true then (setTo (wrm l0 l0.length) 32, true) else ([], false))
theorem impl_OutputsOf.mono : ∀ a0 k, LeO (impl_OutputsOf.f k a0) (impl_OutputsOf.f (k + 1) a0) := fun _ _ => LeO.refl _
set_option maxHeartbeats 8000000 in
set_option maxRecDepth 100000 in
theorem impl_OutputsOf.calls (k : Nat) (A0 : Option Addr) (c0 : Nat) (l0 : List (S58)) (r1 : List Int) (r2 : Bool) (w : World) (hr0 : Kd.C k58 w A0 l0.length l0) (hc0 : l0.length ≤ c0) (h : impl_OutputsOf.f k l0 = some (r1, r2)) :
  Calls Try.prog 37 #[.slice A0 l0.length c0] w fun e w' => ∃ v0_ : Value, e = .returned (.tuple #[v0_, .bool r2]) ∧ Kd.R (Kd.int .i64) 2 w' w.heap.size (fun _ => True) v0_ r1 ∧ Below w.heap.size w w' := by
 have hv := Option.some.inj h
 clear h
 have HR := Aside0.mk hr0
 have HC := Aside0.mk hc0
 by_cases hx : vOk l0 = true
 rotate_left
 ·rw [if_neg hx] at hv
  obtain ⟨rfl, rfl⟩ := Prod.mk.inj hv
  clear hv
  have HV : Aside0 (impl_ValidCode.f 0 l0 = some false) := ⟨by rw [Bool.not_eq_true] at hx; rw [← hx]; rfl⟩
  clear hx hr0 hc0
  go_enter Try.func37, Try.ntmps37
  go_wp2_with (go_at_call 21; (with_reducible refine (impl_ValidCode.calls 0 A0 c0 l0 false _ ?s1 HC.out HV.out).mono ?_); (case s1 => exact Kd.C_below HR.out (by repeat (first | exact Below.refl _ _ | apply below_alloc | apply pw_below_drewN | apply below_drew1))); rintro e w1 ⟨rfl, hb1⟩; have HB1 : Aside0 (Below w.heap.size w w1) := ⟨below_step (by repeat (first | exact Below.refl _ _ | apply below_alloc | apply pw_below_drewN | apply below_drew1)) hb1⟩; clear hb1)
  go_ret2
  refine ⟨_, rfl, Kd.R_nil _ _ _ _ _, HB1.out⟩

 rw [if_pos hx] at hv
 obtain ⟨rfl, rfl⟩ := Prod.mk.inj hv
 clear hv
 have hl16 := vOk_len hx
 have HL := Aside0.mk hl16
 have HX := Aside0.mk hx
 have HV : Aside0 (impl_ValidCode.f 0 l0 = some true) := ⟨by rw [← hx]; rfl⟩
 clear hx hl16 hr0 hc0
 go_enter Try.func37, Try.ntmps37
 go_wp2_with (first | (go_at_call 21; (with_reducible refine (impl_ValidCode.calls 0 A0 c0 l0 true _ ?s1 HC.out HV.out).mono ?_); (case s1 => exact Kd.C_below HR.out (by repeat (first | exact Below.refl _ _ | apply below_alloc | apply pw_below_drewN | apply below_drew1))); rintro e w1 ⟨rfl, hb1⟩; have HB1 : Aside0 (Below w.heap.size w w1) := ⟨below_step (by repeat (first | exact Below.refl _ _ | apply below_alloc | apply pw_below_drewN | apply below_drew1)) hb1⟩; clear hb1)
  )
 have HA : Aside0 (Arr (w1.alloc (.cells (mk32 fun _ => false) 79)) w.heap.size w1.heap.size (wrm l0 0)) := ⟨Arr_new w1 _ (below_size HB1.out) _⟩
 have HB2 : Aside0 (Below w.heap.size w (w1.alloc (.cells (mk32 fun _ => false) 79))) := ⟨below_alloc HB1.out _⟩
 unfold mk32 at HA HB2
 generalize w1.alloc _ = w2 at HA HB2 ⊢
 generalize w1.heap.size = g at HA ⊢
 clear HB1
 go_loopg [6, 12] 16 (fun kq v6 v12 w' => ∃ x : Nat, v12 = .int .i64 (x : Int) ∧ Aside0 (Arr w' w.heap.size g (wrm l0 x)) ∧ Aside0 (x ≤ l0.length) ∧ Aside0 (l0.length - x ≤ kq) ∧ Aside0 (Below w.heap.size w w'))
 case atStart => exact ⟨0, rfl, HA, ⟨Nat.zero_le _⟩, ⟨by have := HL.out; omega⟩, HB2⟩
 case round =>
  clear HA HB2
  obtain ⟨x, rfl, HA, H1, HK, HB⟩ := hrel
  by_cases c3 : (x : Int) < (l0.length : Int)
  rotate_left
  ·have c3b0 : decide ((x : Int) < (l0.length : Int)) = false := decide_eq_false c3
   have HX2 : Aside0 (x = l0.length) := ⟨by have := H1.out; omega⟩
   have c3n : (x < l0.length) = False := eq_false (by omega)
   clear c3
   go_wp2_with (first | ((with_reducible refine gate_dst (N := 20) rfl ?_); refine wpList_load_row rfl 79 (.tmp 4) rfl g rfl 79 _ (0, 0) _ (Arr_heap HA.out) Try.underlying79 rfl info79 ?_) | (go_at_call 79; refine (cellSet_c _ _).mono ?_; rintro e w' ⟨v, rfl, ho, hb⟩))
   go_ret2
   have ho2 := Kd.R_lower ho (below_size HB.out)
   rw [HX2.out] at ho2
   exact ⟨_, rfl, ho2, below_step HB.out hb⟩
  have hxl : x < l0.length := by omega
  obtain ⟨_, ⟨d0, d1⟩, _, _⟩ := vOk_at HX.out hxl
  have c6 : 0 ≤ (x : Int) := Int.natCast_nonneg _
  obtain ⟨ad, e1, hx0, hx1, hx2, hx3⟩ := at_T58 (Kd.C_below HR.out HB.out) (x : Int) c6 (by omega)
  cases e1
  rw [Int.toNat_natCast] at hx0 hx1 hx2 hx3
  have HW : Aside0 (wrap64 ((x : Int) + 1) = ((x + 1 : Nat) : Int)) := ⟨by have := HL.out; unfold wrap64; omega⟩
  have HX2 := Aside0.mk hxl
  have c3b0 : decide ((x : Int) < (l0.length : Int)) = true := decide_eq_true c3
  have D0 := Aside0.mk d0
  have D1 := Aside0.mk d1
  have hgb := Aside0.mk (Arr_base HA.out)
  have hA2 := Aside0.mk (fun o => Arr_below HA.out (below_alloc (Below.refl _ _) o))
  have hc : ∀ o, (wr.alloc o).cell? ⟨g, ((rd_T58 l0 (x : Int)).f1).toNat, none⟩ = some (.bool (wrm l0 x ((rd_T58 l0 (x : Int)).f1).toNat)) := fun o => (Arr_cell (hA2.out o) _ d0 d1).1
  have hf : ∀ o, (wr.alloc o).frozen? ⟨g, ((rd_T58 l0 (x : Int)).f1).toNat, none⟩ = false := fun o => (Arr_cell (hA2.out o) _ d0 d1).2
  have d32 : (rd_T58 l0 (x : Int)).f1 < 32 := by omega
  clear hxl
  go_wp2
  go_roundg (l0.length - (x + 1))
  case measure => have := HK.out; have := HX2.out; omega
  case rel =>
   have := HX2.out
   exact ⟨x + 1, by first | rfl | rw [HW.out], ⟨Arr_put (hA2.out _) _ D0.out D1.out true⟩, ⟨by omega⟩, ⟨by omega⟩, ⟨below_set (below_alloc HB.out _) hgb.out⟩⟩

/-! ### impl_InputsOf: function 46 -/
/-- The cells that the first x statements read before they write them. -/
def rd2 (R W : Nat → Bool) (a b : Int) : Nat → Bool := put (put R a (R a.toNat || !W a.toNat)) b ((put R a (R a.toNat || !W a.toNat)) b.toNat || !W b.toNat)
def rdm (l : List S58) : Nat → Nat → Bool
 | 0 => fun _ => false
 | x + 1 => rd2 (rdm l x) (wrm l x) (rd_T58 l (x : Int)).f2 (rd_T58 l (x : Int)).f3
def impl_InputsOf.f (_k : Nat) (l0 : List (S58)) : Option (List Int × Bool) := some (if vOk l0 = true then (setTo (rdm l0 l0.length) 32, true) else ([], false))
theorem impl_InputsOf.mono : ∀ a0 k, LeO (impl_InputsOf.f k a0) (impl_InputsOf.f (k + 1) a0) := fun _ _ => LeO.refl _
theorem Arr_far {w : World} {base g : Nat} {m : Nat → Bool} (h : Arr w base g m) {p : Addr} (hp : g ≠ p.block) (u : Value) : Arr (w.setCell p u) base g m := by
 exact Kd.R_mono (Kd.R_far (Kd.R_tight rfl h) (p := p) (fun k hk => by injection hk with hk; rw [hk]; exact hp) u) (fun _ _ => trivial)
/-- What stays while the marks change: a field of the statement's copy, and the list of its two cells. -/
def C3 (w : World) (hs : Nat) (d a b : Int) : Prop := w.cell? ⟨hs, 1, none⟩ = some (.int .i64 d) ∧ w.cell? ⟨hs + 1, 0, none⟩ = some (.int .i64 a) ∧ w.cell? ⟨hs + 1, 1, none⟩ = some (.int .i64 b)
theorem C3_new (w : World) (p d a b : Int) : C3 ((w.alloc (.cells #[.int .i64 p, .int .i64 d, .int .i64 a, .int .i64 b] 58)).alloc (.cells #[.int .i64 a, .int .i64 b] 2)) w.heap.size d a b := by
 have e := World.size_alloc (w := w) (o := .cells #[.int .i64 p, .int .i64 d, .int .i64 a, .int .i64 b] 58)
 refine ⟨?_, ?_, ?_⟩
 ·have h1 : (w.alloc (.cells #[.int .i64 p, .int .i64 d, .int .i64 a, .int .i64 b] 58)).cell? ⟨w.heap.size, 1, none⟩ = some (.int .i64 d) := by
   rw [World.cell?_alloc_new]; rfl
  rw [World.cell?_alloc_old _ _ _ (by rw [e]; show w.heap.size ≠ w.heap.size + 1; omega)]
  exact h1
 ·rw [← e, World.cell?_alloc_new]; rfl
 ·rw [← e, World.cell?_alloc_new]; rfl
theorem C3_far {w : World} {hs : Nat} {d a b : Int} (h : C3 w hs d a b) {p : Addr} (hp : p.block < hs) (u : Value) : C3 (w.setCell p u) hs d a b := by
 refine ⟨?_, ?_, ?_⟩
 ·rw [World.cell?_setCell_far _ _ _ _ (by show p.block ≠ hs; omega)]; exact h.1
 ·rw [World.cell?_setCell_far _ _ _ _ (by show p.block ≠ hs + 1; omega)]; exact h.2.1
 ·rw [World.cell?_setCell_far _ _ _ _ (by show p.block ≠ hs + 1; omega)]; exact h.2.2
/-- The cells read, behind y of a statement's two. -/
def rdy (R W : Nat → Bool) (a b : Int) : Nat → Nat → Bool
 | 0 => R
 | 1 => put R a (R a.toNat || !W a.toNat)
 | _ => rd2 R W a b
theorem Arr_lt {w : World} {base g : Nat} {m : Nat → Bool} (h : Arr w base g m) : g < w.heap.size := by
 have := Arr_heap h
 exact (Array.getElem?_eq_some_iff.mp this).1
set_option maxHeartbeats 8000000 in
set_option maxRecDepth 100000 in
theorem impl_InputsOf.calls (k : Nat) (A0 : Option Addr) (c0 : Nat) (l0 : List (S58)) (r1 : List Int) (r2 : Bool) (w : World) (hr0 : Kd.C k58 w A0 l0.length l0) (hc0 : l0.length ≤ c0) (h : impl_InputsOf.f k l0 = some (r1, r2)) :
  Calls Try.prog 46 #[.slice A0 l0.length c0] w fun e w' => ∃ v0_ : Value, e = .returned (.tuple #[v0_, .bool r2]) ∧ Kd.R (Kd.int .i64) 2 w' w.heap.size (fun _ => True) v0_ r1 ∧ Below w.heap.size w w' := by
 have hv := Option.some.inj h
 clear h
 have HR := Aside0.mk hr0
 have HC := Aside0.mk hc0
 by_cases hx : vOk l0 = true
 rotate_left
 ·rw [if_neg hx] at hv
  obtain ⟨rfl, rfl⟩ := Prod.mk.inj hv
  clear hv
  have HV : Aside0 (impl_ValidCode.f 0 l0 = some false) := ⟨by rw [Bool.not_eq_true] at hx; rw [← hx]; rfl⟩
  clear hx hr0 hc0
  go_enter Try.func46, Try.ntmps46
  go_wp2_with (go_at_call 21; (with_reducible refine (impl_ValidCode.calls 0 A0 c0 l0 false _ ?s1 HC.out HV.out).mono ?_); (case s1 => exact Kd.C_below HR.out (by repeat (first | exact Below.refl _ _ | apply below_alloc | apply pw_below_drewN | apply below_drew1))); rintro e w1 ⟨rfl, hb1⟩; have HB1 : Aside0 (Below w.heap.size w w1) := ⟨below_step (by repeat (first | exact Below.refl _ _ | apply below_alloc | apply pw_below_drewN | apply below_drew1)) hb1⟩; clear hb1)
  go_ret2
  refine ⟨_, rfl, Kd.R_nil _ _ _ _ _, HB1.out⟩

 rw [if_pos hx] at hv
 obtain ⟨rfl, rfl⟩ := Prod.mk.inj hv
 clear hv
 have hl16 := vOk_len hx
 have HL := Aside0.mk hl16
 have HX := Aside0.mk hx
 have HV : Aside0 (impl_ValidCode.f 0 l0 = some true) := ⟨by rw [← hx]; rfl⟩
 clear hx hl16 hr0 hc0
 go_enter Try.func46, Try.ntmps46
 go_wp2_with (first | (go_at_call 21; (with_reducible refine (impl_ValidCode.calls 0 A0 c0 l0 true _ ?s1 HC.out HV.out).mono ?_); (case s1 => exact Kd.C_below HR.out (by repeat (first | exact Below.refl _ _ | apply below_alloc | apply pw_below_drewN | apply below_drew1))); rintro e w1 ⟨rfl, hb1⟩; have HB1 : Aside0 (Below w.heap.size w w1) := ⟨below_step (by repeat (first | exact Below.refl _ _ | apply below_alloc | apply pw_below_drewN | apply below_drew1)) hb1⟩; clear hb1)
  )
 have hg1 : w.heap.size ≤ w1.heap.size := below_size HB1.out
 have HA : Aside0 (Arr ((w1.alloc (.cells (mk32 fun _ => false) 79)).alloc (.cells (mk32 fun _ => false) 79)) w.heap.size w1.heap.size (rdm l0 0)) := ⟨Arr_below (Arr_new w1 _ hg1 _) (below_alloc (Below.refl _ _) _)⟩
 have HW5 : Aside0 (Arr ((w1.alloc (.cells (mk32 fun _ => false) 79)).alloc (.cells (mk32 fun _ => false) 79)) w.heap.size (w1.heap.size + 1) (wrm l0 0)) := ⟨by have := Arr_new (w1.alloc (.cells (mk32 fun _ => false) 79)) w.heap.size (by rw [World.size_alloc]; omega) (wrm l0 0); rw [World.size_alloc] at this; exact this⟩
 have HB2 : Aside0 (Below w.heap.size w ((w1.alloc (.cells (mk32 fun _ => false) 79)).alloc (.cells (mk32 fun _ => false) 79))) := ⟨below_alloc (below_alloc HB1.out _) _⟩
 clear hg1
 unfold mk32 at HA HW5 HB2
 generalize (w1.alloc _).alloc _ = w2 at HA HW5 HB2 ⊢
 generalize w1.heap.size = g4 at HA HW5 ⊢
 clear HB1
 go_loopg [7, 9, 15] 16 (fun kq v7 v9 v15 w' => ∃ x : Nat, v15 = .int .i64 (x : Int) ∧ Aside0 (Arr w' w.heap.size g4 (rdm l0 x)) ∧ Aside0 (Arr w' w.heap.size (g4 + 1) (wrm l0 x)) ∧ Aside0 (x ≤ l0.length) ∧ Aside0 (l0.length - x ≤ kq) ∧ Aside0 (Below w.heap.size w w'))
 case atStart => exact ⟨0, rfl, HA, HW5, ⟨Nat.zero_le _⟩, ⟨by have := HL.out; omega⟩, HB2⟩
 case round =>
  clear HA HB2 HW5
  obtain ⟨x, rfl, HA, HA5, H1, HK, HB⟩ := hrel
  by_cases c3 : (x : Int) < (l0.length : Int)
  rotate_left
  ·have c3b0 : decide ((x : Int) < (l0.length : Int)) = false := decide_eq_false c3
   have HX2 : Aside0 (x = l0.length) := ⟨by have := H1.out; omega⟩
   have c3n : (x < l0.length) = False := eq_false (by omega)
   clear c3
   go_wp2_with (first | ((with_reducible refine gate_dst (N := 45) rfl ?_); refine wpList_load_row rfl 79 (.tmp 4) rfl g4 rfl 79 _ (0, 0) _ (Arr_heap HA.out) Try.underlying79 rfl info79 ?_) | (go_at_call 79; refine (cellSet_c _ _).mono ?_; rintro e w' ⟨v, rfl, ho, hb⟩))
   go_ret2
   have ho2 := Kd.R_lower ho (below_size HB.out)
   rw [HX2.out] at ho2
   exact ⟨_, rfl, ho2, below_step HB.out hb⟩
  have hxl : x < l0.length := by omega
  obtain ⟨_, ⟨d0, d1⟩, ⟨a0, a1⟩, b0, b1⟩ := vOk_at HX.out hxl
  have c6 : 0 ≤ (x : Int) := Int.natCast_nonneg _
  obtain ⟨ad, e1, hx0, hx1, hx2, hx3⟩ := at_T58 (Kd.C_below HR.out HB.out) (x : Int) c6 (by omega)
  cases e1
  rw [Int.toNat_natCast] at hx0 hx1 hx2 hx3
  have HW : Aside0 (wrap64 ((x : Int) + 1) = ((x + 1 : Nat) : Int)) := ⟨by have := HL.out; unfold wrap64; omega⟩
  have HX2 := Aside0.mk hxl
  have c3b0 : decide ((x : Int) < (l0.length : Int)) = true := decide_eq_true c3
  have D0 := Aside0.mk d0
  have D1 := Aside0.mk d1
  have E0 := Aside0.mk a0
  have E1 := Aside0.mk a1
  have F0 := Aside0.mk b0
  have F1 := Aside0.mk b1
  clear hxl d0 d1 a0 a1 b0 b1
  go_wp2
  have hs5 := Arr_lt HA5.out
  have H4 : Aside0 (Arr ((wr.alloc (.cells #[.int .i64 (rd_T58 l0 (x : Int)).f0, .int .i64 (rd_T58 l0 (x : Int)).f1, .int .i64 (rd_T58 l0 (x : Int)).f2, .int .i64 (rd_T58 l0 (x : Int)).f3] 58)).alloc (.cells #[.int .i64 (rd_T58 l0 (x : Int)).f2, .int .i64 (rd_T58 l0 (x : Int)).f3] 2)) w.heap.size g4 (rdm l0 x)) := ⟨Arr_below (Arr_below HA.out (below_alloc (Below.refl _ _) _)) (below_alloc (Below.refl _ _) _)⟩
  have H5 : Aside0 (Arr ((wr.alloc (.cells #[.int .i64 (rd_T58 l0 (x : Int)).f0, .int .i64 (rd_T58 l0 (x : Int)).f1, .int .i64 (rd_T58 l0 (x : Int)).f2, .int .i64 (rd_T58 l0 (x : Int)).f3] 58)).alloc (.cells #[.int .i64 (rd_T58 l0 (x : Int)).f2, .int .i64 (rd_T58 l0 (x : Int)).f3] 2)) w.heap.size (g4 + 1) (wrm l0 x)) := ⟨Arr_below (Arr_below HA5.out (below_alloc (Below.refl _ _) _)) (below_alloc (Below.refl _ _) _)⟩
  have HBi : Aside0 (Below w.heap.size w ((wr.alloc (.cells #[.int .i64 (rd_T58 l0 (x : Int)).f0, .int .i64 (rd_T58 l0 (x : Int)).f1, .int .i64 (rd_T58 l0 (x : Int)).f2, .int .i64 (rd_T58 l0 (x : Int)).f3] 58)).alloc (.cells #[.int .i64 (rd_T58 l0 (x : Int)).f2, .int .i64 (rd_T58 l0 (x : Int)).f3] 2))) := ⟨below_alloc (below_alloc HB.out _) _⟩
  have HC3 : Aside0 (C3 ((wr.alloc (.cells #[.int .i64 (rd_T58 l0 (x : Int)).f0, .int .i64 (rd_T58 l0 (x : Int)).f1, .int .i64 (rd_T58 l0 (x : Int)).f2, .int .i64 (rd_T58 l0 (x : Int)).f3] 58)).alloc (.cells #[.int .i64 (rd_T58 l0 (x : Int)).f2, .int .i64 (rd_T58 l0 (x : Int)).f3] 2)) wr.heap.size (rd_T58 l0 (x : Int)).f1 (rd_T58 l0 (x : Int)).f2 (rd_T58 l0 (x : Int)).f3) := ⟨C3_new _ _ _ _ _⟩
  have HS5 := Aside0.mk hs5
  clear hs5 hx0 hx1 hx2 hx3 HA HA5 HB
  generalize (wr.alloc _).alloc _ = w3 at H4 H5 HBi HC3 ⊢
  generalize wr.heap.size = hs at HC3 HS5 ⊢
  go_loopg [9, 25] 2 (fun kq v9 v25 w' => ∃ y : Nat, v25 = .int .i64 (y : Int) ∧ Aside0 (Arr w' w.heap.size g4 (rdy (rdm l0 x) (wrm l0 x) (rd_T58 l0 (x : Int)).f2 (rd_T58 l0 (x : Int)).f3 y)) ∧ Aside0 (Arr w' w.heap.size (g4 + 1) (wrm l0 x)) ∧ Aside0 (C3 w' hs (rd_T58 l0 (x : Int)).f1 (rd_T58 l0 (x : Int)).f2 (rd_T58 l0 (x : Int)).f3) ∧ Aside0 (y ≤ 2) ∧ Aside0 (2 - y ≤ kq) ∧ Aside0 (Below w.heap.size w w'))
  case atStart => exact ⟨0, rfl, H4, H5, HC3, ⟨by omega⟩, ⟨by omega⟩, HBi⟩
  case round =>
   clear H4 H5 HBi HC3
   obtain ⟨y, rfl, H4, H5, HC3, HY, HKY, HBi⟩ := hrel
   rcases (by have := HY.out; omega : y = 0 ∨ y = 1 ∨ y = 2) with rfl | rfl | rfl
   ·have hcc := HC3.out.2.1
    obtain ⟨p4, q4⟩ := Arr_cell H4.out (rd_T58 l0 (x : Int)).f2 E0.out E1.out
    obtain ⟨p5, q5⟩ := Arr_cell H5.out (rd_T58 l0 (x : Int)).f2 E0.out E1.out
    have l32 : (rd_T58 l0 (x : Int)).f2 < 32 := by have := E1.out; omega
    have l0_ : 0 ≤ (rd_T58 l0 (x : Int)).f2 := E0.out
    cases hR : (rdy (rdm l0 x) (wrm l0 x) (rd_T58 l0 (x : Int)).f2 (rd_T58 l0 (x : Int)).f3 0) ((rd_T58 l0 (x : Int)).f2).toNat with
    | true =>
     rw [hR] at p4
     have HR2 := Aside0.mk hR
     clear hR
     go_wp2
     go_roundg (2 - (0 + 1))
     case measure => have := HKY.out; omega
     case rel => exact ⟨0 + 1, rfl, ⟨by have := Arr_put H4.out (rd_T58 l0 (x : Int)).f2 E0.out E1.out true; have e : rdy (rdm l0 x) (wrm l0 x) (rd_T58 l0 (x : Int)).f2 (rd_T58 l0 (x : Int)).f3 (0 + 1) = put (rdy (rdm l0 x) (wrm l0 x) (rd_T58 l0 (x : Int)).f2 (rd_T58 l0 (x : Int)).f3 0) ((rd_T58 l0 (x : Int)).f2) ((rdy (rdm l0 x) (wrm l0 x) (rd_T58 l0 (x : Int)).f2 (rd_T58 l0 (x : Int)).f3 0) ((rd_T58 l0 (x : Int)).f2).toNat || !(wrm l0 x) ((rd_T58 l0 (x : Int)).f2).toNat) := rfl; rw [e, HR2.out]; exact this⟩, ⟨Arr_far H5.out (by show g4 + 1 ≠ g4; omega) _⟩, ⟨C3_far HC3.out (by show g4 < hs; have := HS5.out; omega) _⟩, ⟨by omega⟩, ⟨by omega⟩, ⟨below_set HBi.out (Arr_base H4.out)⟩⟩
    | false =>
     rw [hR] at p4
     have HR2 := Aside0.mk hR
     clear hR
     go_wp2
     go_roundg (2 - (0 + 1))
     case measure => have := HKY.out; omega
     case rel => exact ⟨0 + 1, rfl, ⟨by have := Arr_put H4.out (rd_T58 l0 (x : Int)).f2 E0.out E1.out (!(wrm l0 x) ((rd_T58 l0 (x : Int)).f2).toNat); have e : rdy (rdm l0 x) (wrm l0 x) (rd_T58 l0 (x : Int)).f2 (rd_T58 l0 (x : Int)).f3 (0 + 1) = put (rdy (rdm l0 x) (wrm l0 x) (rd_T58 l0 (x : Int)).f2 (rd_T58 l0 (x : Int)).f3 0) ((rd_T58 l0 (x : Int)).f2) ((rdy (rdm l0 x) (wrm l0 x) (rd_T58 l0 (x : Int)).f2 (rd_T58 l0 (x : Int)).f3 0) ((rd_T58 l0 (x : Int)).f2).toNat || !(wrm l0 x) ((rd_T58 l0 (x : Int)).f2).toNat) := rfl; rw [e, HR2.out]; exact this⟩, ⟨Arr_far H5.out (by show g4 + 1 ≠ g4; omega) _⟩, ⟨C3_far HC3.out (by show g4 < hs; have := HS5.out; omega) _⟩, ⟨by omega⟩, ⟨by omega⟩, ⟨below_set HBi.out (Arr_base H4.out)⟩⟩
   ·have hcc := HC3.out.2.2
    obtain ⟨p4, q4⟩ := Arr_cell H4.out (rd_T58 l0 (x : Int)).f3 F0.out F1.out
    obtain ⟨p5, q5⟩ := Arr_cell H5.out (rd_T58 l0 (x : Int)).f3 F0.out F1.out
    have l32 : (rd_T58 l0 (x : Int)).f3 < 32 := by have := F1.out; omega
    have l0_ : 0 ≤ (rd_T58 l0 (x : Int)).f3 := F0.out
    cases hR : (rdy (rdm l0 x) (wrm l0 x) (rd_T58 l0 (x : Int)).f2 (rd_T58 l0 (x : Int)).f3 1) ((rd_T58 l0 (x : Int)).f3).toNat with
    | true =>
     rw [hR] at p4
     have HR2 := Aside0.mk hR
     clear hR
     go_wp2
     go_roundg (2 - (1 + 1))
     case measure => have := HKY.out; omega
     case rel => exact ⟨1 + 1, rfl, ⟨by have := Arr_put H4.out (rd_T58 l0 (x : Int)).f3 F0.out F1.out true; have e : rdy (rdm l0 x) (wrm l0 x) (rd_T58 l0 (x : Int)).f2 (rd_T58 l0 (x : Int)).f3 (1 + 1) = put (rdy (rdm l0 x) (wrm l0 x) (rd_T58 l0 (x : Int)).f2 (rd_T58 l0 (x : Int)).f3 1) ((rd_T58 l0 (x : Int)).f3) ((rdy (rdm l0 x) (wrm l0 x) (rd_T58 l0 (x : Int)).f2 (rd_T58 l0 (x : Int)).f3 1) ((rd_T58 l0 (x : Int)).f3).toNat || !(wrm l0 x) ((rd_T58 l0 (x : Int)).f3).toNat) := rfl; rw [e, HR2.out]; exact this⟩, ⟨Arr_far H5.out (by show g4 + 1 ≠ g4; omega) _⟩, ⟨C3_far HC3.out (by show g4 < hs; have := HS5.out; omega) _⟩, ⟨by omega⟩, ⟨by omega⟩, ⟨below_set HBi.out (Arr_base H4.out)⟩⟩
    | false =>
     rw [hR] at p4
     have HR2 := Aside0.mk hR
     clear hR
     go_wp2
     go_roundg (2 - (1 + 1))
     case measure => have := HKY.out; omega
     case rel => exact ⟨1 + 1, rfl, ⟨by have := Arr_put H4.out (rd_T58 l0 (x : Int)).f3 F0.out F1.out (!(wrm l0 x) ((rd_T58 l0 (x : Int)).f3).toNat); have e : rdy (rdm l0 x) (wrm l0 x) (rd_T58 l0 (x : Int)).f2 (rd_T58 l0 (x : Int)).f3 (1 + 1) = put (rdy (rdm l0 x) (wrm l0 x) (rd_T58 l0 (x : Int)).f2 (rd_T58 l0 (x : Int)).f3 1) ((rd_T58 l0 (x : Int)).f3) ((rdy (rdm l0 x) (wrm l0 x) (rd_T58 l0 (x : Int)).f2 (rd_T58 l0 (x : Int)).f3 1) ((rd_T58 l0 (x : Int)).f3).toNat || !(wrm l0 x) ((rd_T58 l0 (x : Int)).f3).toNat) := rfl; rw [e, HR2.out]; exact this⟩, ⟨Arr_far H5.out (by show g4 + 1 ≠ g4; omega) _⟩, ⟨C3_far HC3.out (by show g4 < hs; have := HS5.out; omega) _⟩, ⟨by omega⟩, ⟨by omega⟩, ⟨below_set HBi.out (Arr_base H4.out)⟩⟩
   ·have hcc := HC3.out.1
    obtain ⟨p5, q5⟩ := Arr_cell H5.out (rd_T58 l0 (x : Int)).f1 D0.out D1.out
    have l32 : (rd_T58 l0 (x : Int)).f1 < 32 := by have := D1.out; omega
    have l0_ : 0 ≤ (rd_T58 l0 (x : Int)).f1 := D0.out
    go_wp2
    go_roundg (l0.length - (x + 1))
    case measure => have := HK.out; have := HX2.out; omega
    case rel =>
     have := HX2.out
     exact ⟨x + 1, by first | rfl | rw [HW.out], ⟨Arr_far H4.out (by show g4 ≠ g4 + 1; omega) _⟩, ⟨Arr_put H5.out _ D0.out D1.out true⟩, ⟨by omega⟩, ⟨by omega⟩, ⟨below_set HBi.out (Arr_base H5.out)⟩⟩

/-! ### impl_isBits: function 112 -/
def impl_isBits.f (a0 : Int) : Option (Bool) := if a0 = 4 then (some true) else (if a0 = 8 then (some true) else (some (a0 == 16)))
set_option maxHeartbeats 8000000 in
set_option maxRecDepth 100000 in
theorem impl_isBits.calls (a0 : Int) (r : Bool) (w : World) (h : impl_isBits.f a0 = some r) :
  Calls Try.prog 112 #[.int .i64 a0] w fun e w' => e = .returned (.bool r) ∧ Drawn0 w w' := by
 have H : (if a0 = 4 then (some true) else (if a0 = 8 then (some true) else (some (a0 == 16)))) = some r := h
 clear h
 by_cases c2 : a0 = 4
 ·rw [if_pos c2] at H
  have c2b0 : (a0 == 4) = true := beq_iff_eq.mpr c2
  have c2b1 : (a0 != 4) = false := bne_eq_false_iff_eq.mpr c2
  clear c2
  obtain rfl := Option.some.inj H
  go_enter Try.func112, Try.ntmps112
  go_wp2
  go_ret
  exact ⟨by first | rfl | (simp; done) | (simp [*]; done), by repeat (first | exact Drawn0.refl _ | apply Drawn0.step)⟩
 rw [if_neg c2] at H
 have c2b0 : (a0 == 4) = false := beq_eq_false_iff_ne.mpr c2
 have c2b1 : (a0 != 4) = true := bne_iff_ne.mpr c2
 by_cases c3 : a0 = 8
 rotate_left
 ·rw [if_neg c3] at H
  have c3b0 : (a0 == 8) = false := beq_eq_false_iff_ne.mpr c3
  have c3b1 : (a0 != 8) = true := bne_iff_ne.mpr c3
  obtain rfl := Option.some.inj H
  go_enter Try.func112, Try.ntmps112
  go_wp2
  go_ret
  exact ⟨by first | rfl | (simp; done) | (simp [*]; done), by repeat (first | exact Drawn0.refl _ | apply Drawn0.step)⟩
 rw [if_pos c3] at H
 have c3b0 : (a0 == 8) = true := beq_iff_eq.mpr c3
 have c3b1 : (a0 != 8) = false := bne_eq_false_iff_eq.mpr c3
 clear c3
 obtain rfl := Option.some.inj H
 go_enter Try.func112, Try.ntmps112
 go_wp2
 go_ret
 exact ⟨by first | rfl | (simp; done) | (simp [*]; done), by repeat (first | exact Drawn0.refl _ | apply Drawn0.step)⟩
theorem iBits (b : Int) : impl_isBits.f b = some (decide (Bits b)) := by
 unfold impl_isBits.f Bits
 by_cases h : b = 4
 ·simp [h]
 by_cases h8 : b = 8
 ·simp [h8]
 simp only [if_neg h, if_neg h8]; congr 1
 by_cases h16 : b = 16 <;> simp [h, h8, h16]

/-! ### impl_IsWord: function 114 -/
def impl_IsWord.f (a0 : Int) (a1 : Int) : Option (Bool) := (impl_isBits.f a0).bind fun t436 => (if t436 = true then (if 0 ≤ a0 then ((impl_within.f a1 0 (wrap64 ((shl .i64 1 a0) - 1))).bind fun t437 => (some t437)) else (none)) else (some false))
set_option maxHeartbeats 8000000 in
set_option maxRecDepth 100000 in
theorem impl_IsWord.calls (a0 : Int) (a1 : Int) (r : Bool) (w : World) (h : impl_IsWord.f a0 a1 = some r) :
  Calls Try.prog 114 #[.int .i64 a0, .int .i64 a1] w fun e w' => e = .returned (.bool r) ∧ Drawn0 w w' := by
 have H : ((impl_isBits.f a0).bind fun t436 => (if t436 = true then (if 0 ≤ a0 then ((impl_within.f a1 0 (wrap64 ((shl .i64 1 a0) - 1))).bind fun t437 => (some t437)) else (none)) else (some false))) = some r := h
 clear h
 replace H := Option.bind_eq_some_iff.mp H
 obtain ⟨t436, A30, H⟩ := H
 try dsimp only at H
 have A3 := Aside0.mk A30
 clear A30
 by_cases c4 : t436 = true
 rotate_left
 ·replace c4 := Bool.eq_false_iff.mpr c4
  subst c4
  rw [if_neg (show ¬ (false = true) by decide)] at H
  obtain rfl := Option.some.inj H
  go_enter Try.func114, Try.ntmps114
  go_wp2_with (first | ((with_reducible refine gate_callee (f := 112) rfl ?_); refine goesL_ (some 6) rfl rfl Try.func112 (by kernel_rfl) rfl #[.int .i64 a0] rfl (by (try simp only [List.map_toArray, List.map_cons, List.map_nil]); first | done | rfl | (simp only [List.length_drop, List.length_take]; rfl)) ?_; (with_reducible refine (impl_isBits.calls a0 false _ A3.out).mono ?_); rintro e w' ⟨rfl, ⟨nd, rfl⟩⟩; refine ⟨_, rfl, ?_⟩))
  go_ret
  exact ⟨by first | rfl | (simp; done) | (simp [*]; done), by repeat (first | exact Drawn0.refl _ | apply Drawn0.step)⟩
 subst c4
 rw [if_pos rfl] at H
 by_cases c5 : 0 ≤ a0
 rotate_left
 ·rw [if_neg c5] at H
  exact absurd H (by simp)
 rw [if_pos c5] at H
 have c5b0 := eq_true c5
 have c5b1 : decide (0 ≤ a0) = true := decide_eq_true c5
 clear c5
 obtain ⟨ji6, hji6⟩ : ∃ j_ : Int, (shl .i64 1 a0) = j_ := ⟨_, rfl⟩
 replace H : ((impl_within.f a1 0 (wrap64 ((ji6) - 1))).bind fun t437 => (some t437)) = some r := by first | (rw [hji6] at H; exact H) | (simp only [hji6] at H ⊢; exact H)
 (try rw [hji6] at A3)
 have hji6_ : (IntKind.i64.wrap (1 * 2 ^ min a0.toNat 64)) = ji6 := hji6
 have hji6z : a0 ≤ 64 → (IntKind.i64.wrap (1 * 2 ^ a0.toNat)) = ji6 := shl_small hji6
 have hji6u : (IntKind.i64.wrap (2 ^ min a0.toNat 64)) = ji6 := by have h_ := hji6_; rw [Int.one_mul] at h_; exact h_
 have hji6v : a0 ≤ 64 → (IntKind.i64.wrap (2 ^ a0.toNat)) = ji6 := fun hle_ => by have h_ := hji6z hle_; rw [Int.one_mul] at h_; exact h_
 have hji6y : (wrap64 (1 * 2 ^ min a0.toNat 64)) = ji6 := (i64_w _).symm.trans hji6_
 have hji6x : a0 ≤ 64 → (wrap64 (1 * 2 ^ a0.toNat)) = ji6 := fun h_ => (i64_w _).symm.trans (hji6z h_)
 replace H := Option.bind_eq_some_iff.mp H
 obtain ⟨t437, A70, H⟩ := H
 try dsimp only at H
 have A7 := Aside0.mk A70
 clear A70
 obtain rfl := Option.some.inj H
 go_enter Try.func114, Try.ntmps114
 go_wp2_with (first | ((with_reducible refine gate_callee (f := 112) rfl ?_); refine goesL_ (some 6) rfl rfl Try.func112 (by kernel_rfl) rfl #[.int .i64 a0] rfl (by (try simp only [List.map_toArray, List.map_cons, List.map_nil]); first | done | rfl | (simp only [List.length_drop, List.length_take]; rfl)) ?_; (with_reducible refine (impl_isBits.calls a0 true _ A3.out).mono ?_); rintro e w' ⟨rfl, ⟨nd, rfl⟩⟩; refine ⟨_, rfl, ?_⟩) | (go_at_call 100; (with_reducible refine (impl_within.calls a1 0 (wrap64 ((ji6) - 1)) t437 _ A7.out).mono ?_); rintro e w' ⟨rfl, ⟨nd, rfl⟩⟩))
 go_ret
 exact ⟨by first | rfl | (simp; done) | (simp only [← hji6] <;> (first | rfl | simp)) | (simp [*]; done), by repeat (first | exact Drawn0.refl _ | apply Drawn0.step)⟩
theorem iWord (b x : Int) : impl_IsWord.f b x = some (decide (Word b x)) := by
 unfold impl_IsWord.f
 rw [iBits]
 by_cases h : Bits b
 rotate_left
 ·simp [Word, h]

 simp only [h, decide_true, Option.bind_some, if_true]
 have hb := h
 rcases hb with rfl | rfl | rfl
 ·rw [if_pos (by omega), shl4, w_small (by omega), iIn]
  simp only [Option.bind_some]; exact congrArg some (decide_eq_decide.mpr ⟨fun hh => ⟨h, by rw [M4]; omega⟩, fun hh => by have := hh.2; rw [M4] at this; omega⟩)
 ·rw [if_pos (by omega), shl8, w_small (by omega), iIn]
  simp only [Option.bind_some]; exact congrArg some (decide_eq_decide.mpr ⟨fun hh => ⟨h, by rw [M8]; omega⟩, fun hh => by have := hh.2; rw [M8] at this; omega⟩)
 ·rw [if_pos (by omega), shl16, w_small (by omega), iIn]
  simp only [Option.bind_some]; exact congrArg some (decide_eq_decide.mpr ⟨fun hh => ⟨h, by rw [M16]; omega⟩, fun hh => by have := hh.2; rw [M16] at this; omega⟩)

/-! ### impl_areCells: function 90 -/
/-- The words of all cells. -/
def celB (b : Int) (l : List Int) : Bool := decide (Bits b) && (decide (l.length = 32) && (List.range l.length).all fun j => decide (Word b (rd l (j : Int))))
def impl_areCells.f (a0 : Int) (l1 : List Int) : Option (Bool) := some (celB a0 l1)
set_option maxHeartbeats 4000000 in
theorem impl_areCells.lit (b x : Int) (B : Nat) (W : World) (hc : W.cell? ⟨B, 0, none⟩ = some (.int .i64 b)) :
  Calls Try.prog 113 #[.int .i64 x, .pointer (some ⟨B, 0, none⟩)] W fun e w' => e = .returned (.bool (decide (Word b x))) ∧ Below W.heap.size W w' := by
 go_enter Try.func113, Try.ntmps113
 go_wp2_with (go_at_call 114; (with_reducible refine (impl_IsWord.calls b x _ _ (iWord b x)).mono ?_); rintro e w' ⟨rfl, ⟨nd, rfl⟩⟩)
 go_ret
 exact ⟨rfl, pw_below_drewN (Below.refl _ _) _⟩
set_option maxHeartbeats 8000000 in
set_option maxRecDepth 100000 in
theorem impl_areCells.calls (a0 : Int) (A1 : Option Addr) (c1 : Nat) (l1 : List Int) (r : Bool) (w : World) (hr1 : Kd.C (Kd.int .i64) w A1 l1.length l1) (hc1 : l1.length ≤ c1) (h : impl_areCells.f a0 l1 = some r) :
  Calls Try.prog 90 #[.int .i64 a0, .slice A1 l1.length c1] w fun e w' => e = .returned (.bool r) ∧ Below w.heap.size w w' := by
 obtain rfl := Option.some.inj h
 have HR := Aside0.mk hr1
 have HC := Aside0.mk hc1
 clear h hr1 hc1
 have hA := fun (W : World) (hB : Below w.heap.size w W) (hB2 : w.heap.size < W.heap.size) (hc : W.cell? ⟨w.heap.size, 0, none⟩ = some (.int .i64 a0)) =>
  areAll_i 113 #[.pointer (some ⟨w.heap.size, 0, none⟩)] (enters_of Try.func113 (by kernel_rfl) rfl) A1 l1.length c1 _ (fun j => decide (Word a0 (rd l1 (j : Int)))) W
   (ElemsI.of_ints (Kd.C_below HR.out hB))
   (fun j hj W' hb' => impl_areCells.lit a0 (rd l1 (j : Int)) w.heap.size W' ((hb'.cell (p := ⟨w.heap.size, 0, none⟩) hB2).trans hc))
 have HA := Aside0.mk hA
 clear hA
 by_cases hb : Bits a0
 rotate_left
 ·have HBT := Aside0.mk hb
  have HV : Aside0 (celB a0 l1 = false) := ⟨by unfold celB; simp [hb]⟩
  clear hb
  go_enter Try.func90, Try.ntmps90
  go_wp2_with (first | (go_at_call 112; (with_reducible refine (impl_isBits.calls a0 false _ (by rw [iBits, decide_eq_false HBT.out])).mono ?_); rintro e w' ⟨rfl, ⟨nd, rfl⟩⟩))
  go_ret
  refine ⟨by rw [HV.out]; rfl, ?_⟩
  repeat (first | exact Below.refl _ _ | apply below_alloc | apply pw_below_drewN | apply below_drew1)

 have HBT := Aside0.mk hb
 by_cases hl : l1.length = 32
 ·have HL := Aside0.mk hl
  have hlb : ((l1.length : Int) == 32) = true := beq_iff_eq.mpr (by omega)
  have HV : Aside0 (celB a0 l1 = (List.range l1.length).all fun j => decide (Word a0 (rd l1 (j : Int)))) := ⟨by unfold celB; rw [decide_eq_true hb, decide_eq_true hl]; rfl⟩
  have hlc : (l1.length == 32) = true := beq_iff_eq.mpr hl
  clear hb hl
  go_enter Try.func90, Try.ntmps90
  go_wp2_with (first | (go_at_call 112; (with_reducible refine (impl_isBits.calls a0 true _ (by rw [iBits, decide_eq_true HBT.out])).mono ?_); rintro e w' ⟨rfl, ⟨nd, rfl⟩⟩) | (go_at_call 86; refine (HA.out _ ?a1 ?a2 ?a3).mono ?_; (case a1 => repeat (first | exact Below.refl _ _ | apply below_alloc | apply pw_below_drewN | apply below_drew1)); (case a2 => simp); (case a3 => simp); rintro e w' ⟨rfl, hb⟩))
  go_ret
  refine ⟨by rw [HV.out]; rfl, below_step ?_ hb⟩
  repeat (first | exact Below.refl _ _ | apply below_alloc | apply pw_below_drewN | apply below_drew1)
 have HL := Aside0.mk hl
 have hlb : ((l1.length : Int) == 32) = false := beq_eq_false_iff_ne.mpr (by omega)
 have hlb2 : (l1.length = 32) = False := eq_false hl
 have HV : Aside0 (celB a0 l1 = false) := ⟨by unfold celB; simp [hl]⟩
 clear hb hl
 go_enter Try.func90, Try.ntmps90
 go_wp2_with (first | (go_at_call 112; (with_reducible refine (impl_isBits.calls a0 true _ (by rw [iBits, decide_eq_true HBT.out])).mono ?_); rintro e w' ⟨rfl, ⟨nd, rfl⟩⟩))
 go_ret
 refine ⟨by rw [HV.out]; rfl, ?_⟩
 repeat (first | exact Below.refl _ _ | apply below_alloc | apply pw_below_drewN | apply below_drew1)

/-! ### slices_Clone_int64_int64: function 115 -/
def slices_Clone_int64_int64.f (l0 : List Int) : Option (List Int) := if l0.length < 17592186044416 then some l0 else none
theorem run_eql_nil_here {P : Program} {w : World} {t e : TypeId} {a : Option Addr} {l c : Nat} (h : P.underlying t = some (.slice e)) : (binOp .eql t (.slice a l c) (.slice none 0 0)).run P w = .ok (.bool a.isNone) w := by
 have e : ∀ d, (Op.equalIn (d + 1) t (.slice a l c) (.slice none 0 0)).run P w = .ok a.isNone w := by intro d; cases a <;> simp [Op.equalIn, run_underlying h]
 simp only [binOp]
 simp [Op.equal, Op.maxDepth, e 9999]
set_option maxHeartbeats 8000000 in
set_option maxRecDepth 100000 in
theorem slices_Clone_int64_int64.calls (A0 : Option Addr) (c0 : Nat) (l0 : List Int) (r : List Int) (w : World) (hr0 : Kd.C (Kd.int .i64) w A0 l0.length l0) (hc0 : l0.length ≤ c0) (h : slices_Clone_int64_int64.f l0 = some r) :
  Calls Try.prog 115 #[.slice A0 l0.length c0] w fun e w' => ∃ v0_ : Value, e = .returned (v0_) ∧ Kd.R (Kd.int .i64) 2 w' w.heap.size (fun _ => True) v0_ r ∧ Below w.heap.size w w' := by
 unfold slices_Clone_int64_int64.f at h
 split at h
 ·rename_i c2
  obtain rfl := Option.some.inj h
  clear h
  have HR0 := Aside0.mk hr0
  have HB := Aside0.mk (Below.refl w.heap.size w)
  cases A0 with
  | none =>
   have hl : l0 = [] := by
    cases l0 with
    | nil => rfl
    | cons x xs =>
     obtain ⟨ad, e, _⟩ := Kd.at_int hr0 0 (Int.le_refl _) (by simp)
     cases e
   clear hr0 HR0 c2
   subst hl
   go_enter Try.func115, Try.ntmps115
   go_wp2
   rw [run_eql_nil_here Try.underlying33]
   go_wp2
   go_ret
   exact ⟨_, rfl, Kd.R_nil _ _ _ _ _, HB.out⟩
  | some ad =>
   have LMc2 : Aside0 (([] : List Int).length + l0.length < 17592186044416) := ⟨by simpa using c2⟩
   clear hr0 c2 hc0
   obtain ⟨y619, hy619⟩ : ∃ y_ : List Int, y_ = (([] : List Int)) := ⟨_, rfl⟩
   rw [← hy619] at LMc2
   have Ny619 := Aside0.mk hy619
   obtain ⟨y622, hy622⟩ : ∃ y_ : List Int, y_ = (y619 ++ l0) := ⟨_, rfl⟩
   have Ny622 := Aside0.mk hy622
   have HE : Aside0 (y622 = l0) := ⟨by rw [hy622, hy619]; rfl⟩
   clear hy619 hy622
   go_enter Try.func115, Try.ntmps115
   go_wp2
   rw [run_eql_nil_here Try.underlying33]
   go_wp2_with (first | ((with_reducible refine gate_dst (N := 5) rfl ?_); refine Kd.R_lit (Kd.int .i64) _ 2 ?hg (N := 5) ?hd (xs := ([] : List Int)) (inner := []) (ok := fun _ => True) (okp := fun _ => True) ?hr ?hp (fun _ hk => hk) trivial (Below.refl _ _) (Nat.le_refl _) (by simp) ?_; (case hd => rfl); (case hg => rfl); (case hr => first | (go_simp; done) | (go_simp; rfl)); (case hp => exact (Reps.none _ _)); intro v620 w3 ho4 hb hg_ hnew_; clear hg_ hnew_; (first | rw [← Ny619.out] at ho4 | (simp only [Int.reduceToNat] at ho4; rw [← Ny619.out] at ho4)); have n0_ := Aside0.mk (Kd.R_lower ho4 (below_size (by repeat (first | (with_reducible first | exact HB.out | apply below_alloc | apply pw_below_drewN | apply below_drew1) | exact HB.out)))); have n1_ := Aside0.mk (below_step (by repeat (first | (with_reducible first | exact HB.out | apply below_alloc | apply pw_below_drewN | apply below_drew1) | exact HB.out)) hb); clear HB; have HO621 := n0_; have HB := n1_; clear n0_ n1_; clear hb ho4) | ((with_reducible refine gate_builtin (b := .append) (xs := #[.tmp 5, .tmp 6]) rfl ?_); at_builtin; refine Kd.R_append_rows (Kd.int .i64) (w0 := w) w.heap.size rfl (.tmp 5) (.tmp 6) 33 2 (.int .i64 0) 8 rfl Try.underlying33 info2 rfl (by decide) (by omega) v620 y619 l0 _ _ _ (fun _ => True) (fun _ => False) rfl rfl ?aO ?aR (fun _ _ h => h) (fun _ h => h.elim) ?aF ?aB ?aS ?aL ?_; (case aR => repeat (first | exact (Kd.C_below HR0.out HB.out) | (with_reducible refine Kd.C_alloc ?_ _) | (with_reducible refine Kd.C_drewN ?_ _) | (with_reducible refine Kd.C_drew ?_))); (case aB => exact (by repeat (first | (with_reducible first | exact HB.out | apply below_alloc | apply pw_below_drewN | apply below_drew1) | exact HB.out))); (case aF => exact (fun _ _ => trivial)); (case aO => exact (by (with_reducible repeat (first | apply Kd.R_alloc | apply Kd.R_drewN | apply Kd.R_drew)); exact HO621.out)); (case aS => exact (below_size (by repeat (first | (with_reducible first | exact HB.out | apply below_alloc | apply pw_below_drewN | apply below_drew1) | exact HB.out)))); (case aL => have := LMc2.out; omega); intro v623 w5 ho hb hg hat; rw [← Ny622.out] at ho; have n0_ := Aside0.mk (hb); have n1_ := Aside0.mk (ho); clear HB; clear HO621; have HB := n0_; have HO624 := n1_; clear n0_ n1_; clear ho hb hg hat))
   go_ret
   refine ⟨_, rfl, ?_, HB.out⟩
   have := HO624.out
   rw [HE.out] at this
   exact this
 ·cases h

/-! ### impl_signedOf: function 127 -/
def impl_signedOf.f (a0 : Int) (a1 : Int) : Option (Int) := if 0 ≤ (wrap64 (a0 - 1)) then (if a1 < (shl .i64 1 (wrap64 (a0 - 1))) then (some a1) else (if 0 ≤ a0 then (some (wrap64 (a1 - (shl .i64 1 a0)))) else (none))) else (none)
set_option maxHeartbeats 8000000 in
set_option maxRecDepth 100000 in
theorem impl_signedOf.calls (a0 : Int) (a1 : Int) (r : Int) (w : World) (h : impl_signedOf.f a0 a1 = some r) :
  Calls Try.prog 127 #[.int .i64 a0, .int .i64 a1] w fun e w' => e = .returned (.int .i64 r) ∧ Drawn0 w w' := by
 have H : (if 0 ≤ (wrap64 (a0 - 1)) then (if a1 < (shl .i64 1 (wrap64 (a0 - 1))) then (some a1) else (if 0 ≤ a0 then (some (wrap64 (a1 - (shl .i64 1 a0)))) else (none))) else (none)) = some r := h
 clear h
 obtain ⟨ji3, hji3⟩ : ∃ j_ : Int, (wrap64 (a0 - 1)) = j_ := ⟨_, rfl⟩
 replace H : (if 0 ≤ (ji3) then (if a1 < (shl .i64 1 (ji3)) then (some a1) else (if 0 ≤ a0 then (some (wrap64 (a1 - (shl .i64 1 a0)))) else (none))) else (none)) = some r := by first | (rw [hji3] at H; exact H) | (simp only [hji3] at H ⊢; exact H)
 have hji3w : (IntKind.i64.wrap (a0 - 1)) = ji3 := (i64_w _).trans hji3
 by_cases c4 : 0 ≤ (ji3)
 rotate_left
 ·rw [if_neg c4] at H
  exact absurd H (by simp)
 rw [if_pos c4] at H
 have c4b0 := eq_true c4
 have c4b1 : decide (0 ≤ (ji3)) = true := decide_eq_true c4
 clear c4
 obtain ⟨ji5, hji5⟩ : ∃ j_ : Int, (shl .i64 1 (ji3)) = j_ := ⟨_, rfl⟩
 replace H : (if a1 < (ji5) then (some a1) else (if 0 ≤ a0 then (some (wrap64 (a1 - (shl .i64 1 a0)))) else (none))) = some r := by first | (rw [hji5] at H; exact H) | (simp only [hji5] at H ⊢; exact H)
 have hji5_ : (IntKind.i64.wrap (1 * 2 ^ min (ji3).toNat 64)) = ji5 := hji5
 have hji5z : (ji3) ≤ 64 → (IntKind.i64.wrap (1 * 2 ^ (ji3).toNat)) = ji5 := shl_small hji5
 have hji5u : (IntKind.i64.wrap (2 ^ min (ji3).toNat 64)) = ji5 := by have h_ := hji5_; rw [Int.one_mul] at h_; exact h_
 have hji5v : (ji3) ≤ 64 → (IntKind.i64.wrap (2 ^ (ji3).toNat)) = ji5 := fun hle_ => by have h_ := hji5z hle_; rw [Int.one_mul] at h_; exact h_
 have hji5y : (wrap64 (1 * 2 ^ min (ji3).toNat 64)) = ji5 := (i64_w _).symm.trans hji5_
 have hji5x : (ji3) ≤ 64 → (wrap64 (1 * 2 ^ (ji3).toNat)) = ji5 := fun h_ => (i64_w _).symm.trans (hji5z h_)
 by_cases c6 : a1 < (ji5)
 ·rw [if_pos c6] at H
  have c6b0 : decide (a1 < (ji5)) = true := decide_eq_true c6
  clear c6
  obtain rfl := Option.some.inj H
  go_enter Try.func127, Try.ntmps127
  go_wp2
  go_ret
  exact ⟨by first | rfl | (simp; done) | (simp only [← hji3, ← hji5] <;> (first | rfl | simp)) | (simp [*]; done), by repeat (first | exact Drawn0.refl _ | apply Drawn0.step)⟩
 rw [if_neg c6] at H
 have c6b0 : decide (a1 < (ji5)) = false := decide_eq_false c6
 clear c6
 by_cases c7 : 0 ≤ a0
 rotate_left
 ·rw [if_neg c7] at H
  exact absurd H (by simp)
 rw [if_pos c7] at H
 have c7b0 := eq_true c7
 have c7b1 : decide (0 ≤ a0) = true := decide_eq_true c7
 clear c7
 obtain ⟨ji8, hji8⟩ : ∃ j_ : Int, (shl .i64 1 a0) = j_ := ⟨_, rfl⟩
 replace H : (some (wrap64 (a1 - (ji8)))) = some r := by first | (rw [hji8] at H; exact H) | (simp only [hji8] at H ⊢; exact H)
 have hji8_ : (IntKind.i64.wrap (1 * 2 ^ min a0.toNat 64)) = ji8 := hji8
 have hji8z : a0 ≤ 64 → (IntKind.i64.wrap (1 * 2 ^ a0.toNat)) = ji8 := shl_small hji8
 have hji8u : (IntKind.i64.wrap (2 ^ min a0.toNat 64)) = ji8 := by have h_ := hji8_; rw [Int.one_mul] at h_; exact h_
 have hji8v : a0 ≤ 64 → (IntKind.i64.wrap (2 ^ a0.toNat)) = ji8 := fun hle_ => by have h_ := hji8z hle_; rw [Int.one_mul] at h_; exact h_
 have hji8y : (wrap64 (1 * 2 ^ min a0.toNat 64)) = ji8 := (i64_w _).symm.trans hji8_
 have hji8x : a0 ≤ 64 → (wrap64 (1 * 2 ^ a0.toNat)) = ji8 := fun h_ => (i64_w _).symm.trans (hji8z h_)
 obtain rfl := Option.some.inj H
 go_enter Try.func127, Try.ntmps127
 go_wp2
 go_ret
 exact ⟨by first | rfl | (simp; done) | (simp only [← hji3, ← hji5, ← hji8] <;> (first | rfl | simp)) | (simp [*]; done), by repeat (first | exact Drawn0.refl _ | apply Drawn0.step)⟩
theorem iSg {b x : Int} (h : Word b x) : impl_signedOf.f b x = some (sg b x) := by
 obtain ⟨hb, h0, h1⟩ := h
 unfold impl_signedOf.f sg
 rcases hb with rfl | rfl | rfl
 ·rw [M4] at h1 ⊢; rw [w_small (n := 4 - 1) (by omega), show (4 - 1 : Int) = 3 from rfl, if_pos (by omega), shl3, shl4]
  by_cases c : x < 8
  ·rw [if_pos c, if_pos (by omega)]
  rw [if_neg c, if_pos (by omega), if_neg (by omega), w_small (by omega)]
 ·rw [M8] at h1 ⊢; rw [w_small (n := 8 - 1) (by omega), show (8 - 1 : Int) = 7 from rfl, if_pos (by omega), shl7, shl8]
  by_cases c : x < 128
  ·rw [if_pos c, if_pos (by omega)]
  rw [if_neg c, if_pos (by omega), if_neg (by omega), w_small (by omega)]
 ·rw [M16] at h1 ⊢; rw [w_small (n := 16 - 1) (by omega), show (16 - 1 : Int) = 15 from rfl, if_pos (by omega), shl15, shl16]
  by_cases c : x < 32768
  ·rw [if_pos c, if_pos (by omega)]
  rw [if_neg c, if_pos (by omega), if_neg (by omega), w_small (by omega)]

/-! ### impl_wrapped: function 128 -/
def impl_wrapped.f (a0 : Int) (a1 : Int) : Option (Int) := if 0 ≤ a0 then (some (Go.bits .and .i64 a1 (wrap64 ((shl .i64 1 a0) - 1)))) else (none)
set_option maxHeartbeats 8000000 in
set_option maxRecDepth 100000 in
theorem impl_wrapped.calls (a0 : Int) (a1 : Int) (r : Int) (w : World) (h : impl_wrapped.f a0 a1 = some r) :
  Calls Try.prog 128 #[.int .i64 a0, .int .i64 a1] w fun e w' => e = .returned (.int .i64 r) ∧ Drawn0 w w' := by
 have H : (if 0 ≤ a0 then (some (Go.bits .and .i64 a1 (wrap64 ((shl .i64 1 a0) - 1)))) else (none)) = some r := h
 clear h
 by_cases c3 : 0 ≤ a0
 rotate_left
 ·rw [if_neg c3] at H
  exact absurd H (by simp)
 rw [if_pos c3] at H
 have c3b0 := eq_true c3
 have c3b1 : decide (0 ≤ a0) = true := decide_eq_true c3
 clear c3
 obtain ⟨ji4, hji4⟩ : ∃ j_ : Int, (shl .i64 1 a0) = j_ := ⟨_, rfl⟩
 replace H : (some (Go.bits .and .i64 a1 (wrap64 ((ji4) - 1)))) = some r := by first | (rw [hji4] at H; exact H) | (simp only [hji4] at H ⊢; exact H)
 have hji4_ : (IntKind.i64.wrap (1 * 2 ^ min a0.toNat 64)) = ji4 := hji4
 have hji4z : a0 ≤ 64 → (IntKind.i64.wrap (1 * 2 ^ a0.toNat)) = ji4 := shl_small hji4
 have hji4u : (IntKind.i64.wrap (2 ^ min a0.toNat 64)) = ji4 := by have h_ := hji4_; rw [Int.one_mul] at h_; exact h_
 have hji4v : a0 ≤ 64 → (IntKind.i64.wrap (2 ^ a0.toNat)) = ji4 := fun hle_ => by have h_ := hji4z hle_; rw [Int.one_mul] at h_; exact h_
 have hji4y : (wrap64 (1 * 2 ^ min a0.toNat 64)) = ji4 := (i64_w _).symm.trans hji4_
 have hji4x : a0 ≤ 64 → (wrap64 (1 * 2 ^ a0.toNat)) = ji4 := fun h_ => (i64_w _).symm.trans (hji4z h_)
 obtain rfl := Option.some.inj H
 go_enter Try.func128, Try.ntmps128
 go_wp2
 go_ret
 exact ⟨by first | rfl | (simp; done) | (simp only [← hji4] <;> (first | rfl | simp)) | (simp [*]; done), by repeat (first | exact Drawn0.refl _ | apply Drawn0.step)⟩
theorem iWrap {b : Int} (h : Bits b) (n : Int) : impl_wrapped.f b n = some (n % M b) := by
 unfold impl_wrapped.f
 rcases h with rfl | rfl | rfl
 ·rw [if_pos (by omega), shl4, w_small (by omega), M4]; exact congrArg some (m4 n)
 ·rw [if_pos (by omega), shl8, w_small (by omega), M8]; exact congrArg some (m8 n)
 ·rw [if_pos (by omega), shl16, w_small (by omega), M16]; exact congrArg some (m16 n)

/-! ### impl_pick: function 129 -/
def impl_pick.f (a0 : Bool) (a1 : Int) (a2 : Int) : Option (Int) := if a0 = true then (some a1) else (some a2)
set_option maxHeartbeats 8000000 in
set_option maxRecDepth 100000 in
theorem impl_pick.calls (a0 : Bool) (a1 : Int) (a2 : Int) (r : Int) (w : World) (h : impl_pick.f a0 a1 a2 = some r) :
  Calls Try.prog 129 #[.bool a0, .int .i64 a1, .int .i64 a2] w fun e w' => e = .returned (.int .i64 r) ∧ Drawn0 w w' := by
 have H : (if a0 = true then (some a1) else (some a2)) = some r := h
 clear h
 by_cases c4 : a0 = true
 ·subst c4
  rw [if_pos rfl] at H
  obtain rfl := Option.some.inj H
  go_enter Try.func129, Try.ntmps129
  go_wp2
  go_ret
  exact ⟨by first | rfl | (simp; done) | (simp [*]; done), by repeat (first | exact Drawn0.refl _ | apply Drawn0.step)⟩
 replace c4 := Bool.eq_false_iff.mpr c4
 subst c4
 rw [if_neg (show ¬ (false = true) by decide)] at H
 obtain rfl := Option.some.inj H
 go_enter Try.func129, Try.ntmps129
 go_wp2
 go_ret
 exact ⟨by first | rfl | (simp; done) | (simp [*]; done), by repeat (first | exact Drawn0.refl _ | apply Drawn0.step)⟩

/-! ### impl_bounded: function 130 -/
def impl_bounded.f (a0 : Int) (a1 : Int) (a2 : Int) : Option (Int) := some (mx a1 (mn a0 a2))
set_option maxHeartbeats 8000000 in
set_option maxRecDepth 100000 in
theorem impl_bounded.calls (a0 : Int) (a1 : Int) (a2 : Int) (r : Int) (w : World) (h : impl_bounded.f a0 a1 a2 = some r) :
  Calls Try.prog 130 #[.int .i64 a0, .int .i64 a1, .int .i64 a2] w fun e w' => e = .returned (.int .i64 r) ∧ Drawn0 w w' := by
 have H : (some (mx a1 (mn a0 a2))) = some r := h
 clear h
 obtain ⟨ji4, hji4⟩ : ∃ j_ : Int, (mn a0 a2) = j_ := ⟨_, rfl⟩
 replace H : (some (mx a1 (ji4))) = some r := by first | (rw [hji4] at H; exact H) | (simp only [hji4] at H ⊢; exact H)
 have hji4_ : (if a2 < a0 then a2 else a0) = ji4 := hji4
 obtain ⟨ji5, hji5⟩ : ∃ j_ : Int, (mx a1 (ji4)) = j_ := ⟨_, rfl⟩
 replace H : (some ji5) = some r := by first | (rw [hji5] at H; exact H) | (simp only [hji5] at H ⊢; exact H)
 have hji5_ : (if a1 < (ji4) then (ji4) else a1) = ji5 := hji5
 obtain rfl := Option.some.inj H
 go_enter Try.func130, Try.ntmps130
 go_wp2
 go_ret
 exact ⟨by first | rfl | (simp; done) | (simp only [← hji4, ← hji5] <;> (first | rfl | simp)) | (simp [*]; done), by repeat (first | exact Drawn0.refl _ | apply Drawn0.step)⟩
theorem iBounded (n lo hi : Int) (h : lo ≤ hi) : impl_bounded.f n lo hi = some (clamp n lo hi) := by
 unfold impl_bounded.f; rw [mn_clamp n lo hi h]

/-! ### impl_nearest: function 131 -/
def impl_nearest.f (a0 : Int) (a1 : Int) : Option (Int) := if 0 ≤ (wrap64 (a0 - 1)) then ((impl_bounded.f a1 (wrap64 (-(shl .i64 1 (wrap64 (a0 - 1))))) (wrap64 ((shl .i64 1 (wrap64 (a0 - 1))) - 1))).bind fun t448 => ((impl_wrapped.f a0 t448).bind fun t449 => (some t449))) else (none)
set_option maxHeartbeats 8000000 in
set_option maxRecDepth 100000 in
theorem impl_nearest.calls (a0 : Int) (a1 : Int) (r : Int) (w : World) (h : impl_nearest.f a0 a1 = some r) :
  Calls Try.prog 131 #[.int .i64 a0, .int .i64 a1] w fun e w' => e = .returned (.int .i64 r) ∧ Drawn0 w w' := by
 have H : (if 0 ≤ (wrap64 (a0 - 1)) then ((impl_bounded.f a1 (wrap64 (-(shl .i64 1 (wrap64 (a0 - 1))))) (wrap64 ((shl .i64 1 (wrap64 (a0 - 1))) - 1))).bind fun t448 => ((impl_wrapped.f a0 t448).bind fun t449 => (some t449))) else (none)) = some r := h
 clear h
 obtain ⟨ji3, hji3⟩ : ∃ j_ : Int, (wrap64 (a0 - 1)) = j_ := ⟨_, rfl⟩
 replace H : (if 0 ≤ (ji3) then ((impl_bounded.f a1 (wrap64 (-(shl .i64 1 (ji3)))) (wrap64 ((shl .i64 1 (ji3)) - 1))).bind fun t448 => ((impl_wrapped.f a0 t448).bind fun t449 => (some t449))) else (none)) = some r := by first | (rw [hji3] at H; exact H) | (simp only [hji3] at H ⊢; exact H)
 have hji3w : (IntKind.i64.wrap (a0 - 1)) = ji3 := (i64_w _).trans hji3
 by_cases c4 : 0 ≤ (ji3)
 rotate_left
 ·rw [if_neg c4] at H
  exact absurd H (by simp)
 rw [if_pos c4] at H
 have c4b0 := eq_true c4
 have c4b1 : decide (0 ≤ (ji3)) = true := decide_eq_true c4
 clear c4
 obtain ⟨ji5, hji5⟩ : ∃ j_ : Int, (shl .i64 1 (ji3)) = j_ := ⟨_, rfl⟩
 replace H : ((impl_bounded.f a1 (wrap64 (-(ji5))) (wrap64 ((ji5) - 1))).bind fun t448 => ((impl_wrapped.f a0 t448).bind fun t449 => (some t449))) = some r := by first | (rw [hji5] at H; exact H) | (simp only [hji5] at H ⊢; exact H)
 have hji5_ : (IntKind.i64.wrap (1 * 2 ^ min (ji3).toNat 64)) = ji5 := hji5
 have hji5z : (ji3) ≤ 64 → (IntKind.i64.wrap (1 * 2 ^ (ji3).toNat)) = ji5 := shl_small hji5
 have hji5u : (IntKind.i64.wrap (2 ^ min (ji3).toNat 64)) = ji5 := by have h_ := hji5_; rw [Int.one_mul] at h_; exact h_
 have hji5v : (ji3) ≤ 64 → (IntKind.i64.wrap (2 ^ (ji3).toNat)) = ji5 := fun hle_ => by have h_ := hji5z hle_; rw [Int.one_mul] at h_; exact h_
 have hji5y : (wrap64 (1 * 2 ^ min (ji3).toNat 64)) = ji5 := (i64_w _).symm.trans hji5_
 have hji5x : (ji3) ≤ 64 → (wrap64 (1 * 2 ^ (ji3).toNat)) = ji5 := fun h_ => (i64_w _).symm.trans (hji5z h_)
 replace H := Option.bind_eq_some_iff.mp H
 obtain ⟨t448, A60, H⟩ := H
 try dsimp only at H
 have A6 := Aside0.mk A60
 clear A60
 replace H := Option.bind_eq_some_iff.mp H
 obtain ⟨t449, A70, H⟩ := H
 try dsimp only at H
 have A7 := Aside0.mk A70
 clear A70
 obtain rfl := Option.some.inj H
 go_enter Try.func131, Try.ntmps131
 go_wp2_with (first | ((with_reducible refine gate_callee (f := 130) rfl ?_); refine goesL_ (some 15) rfl rfl Try.func130 (by kernel_rfl) rfl #[.int .i64 a1, .int .i64 (wrap64 (-(ji5))), .int .i64 (wrap64 ((ji5) - 1))] rfl (by (try simp only [List.map_toArray, List.map_cons, List.map_nil]); first | done | (simp only [hji5]; rfl) | rfl | (simp only [List.length_drop, List.length_take]; rfl)) ?_; (with_reducible refine (impl_bounded.calls a1 (wrap64 (-(ji5))) (wrap64 ((ji5) - 1)) t448 _ A6.out).mono ?_); rintro e w' ⟨rfl, ⟨nd, rfl⟩⟩; refine ⟨_, rfl, ?_⟩) | ((with_reducible refine gate_callee (f := 128) rfl ?_); refine goesL_ (some 16) rfl rfl Try.func128 (by kernel_rfl) rfl #[.int .i64 a0, .int .i64 t448] rfl (by (try simp only [List.map_toArray, List.map_cons, List.map_nil]); first | done | rfl | (simp only [List.length_drop, List.length_take]; rfl)) ?_; (with_reducible refine (impl_wrapped.calls a0 t448 t449 _ A7.out).mono ?_); rintro e w' ⟨rfl, ⟨nd, rfl⟩⟩; refine ⟨_, rfl, ?_⟩))
 go_ret
 exact ⟨by first | rfl | (simp; done) | (simp only [← hji3, ← hji5] <;> (first | rfl | simp)) | (simp [*]; done), by repeat (first | exact Drawn0.refl _ | apply Drawn0.step)⟩
theorem iNearest {b : Int} (h : Bits b) (n : Int) : impl_nearest.f b n = some (clamp n (-(M b / 2)) (M b / 2 - 1) % M b) := by
 have hM := @M_pos b
 have hL := @M_le b
 have hb1 : wrap64 (b - 1) = b - 1 := by rcases h with rfl | rfl | rfl <;> exact w_small (by omega)
 have h0 : 0 ≤ b - 1 := by rcases h with rfl | rfl | rfl <;> omega
 have h2 : 2 ≤ M b := by rcases h with rfl | rfl | rfl <;> decide
 unfold impl_nearest.f
 rw [hb1, if_pos h0, shlB1 h, w_small (by omega), w_small (by omega), iBounded _ _ _ (by omega), Option.bind_some, iWrap h, Option.bind_some]

/-! ### impl_result: function 116 -/
def impl_result.f (a0 : Int) (a1 : Int) (a2 : Int) (a3 : Int) : Option (Int) := if 0 ≤ a1 then (if a1 = 0 then (none) else ((impl_signedOf.f a1 a2).bind fun t450 => ((impl_signedOf.f a1 a3).bind fun t451 => (if a0 = 0 then ((impl_wrapped.f a1 (wrap64 (a2 + a3))).bind fun t452 => (some t452)) else (if a0 = 1 then ((impl_wrapped.f a1 (wrap64 (a2 - a3))).bind fun t453 => (some t453)) else (if a0 = 2 then ((impl_wrapped.f a1 (wrap64 (a2 * a3))).bind fun t454 => (some t454)) else (if a0 = 3 then (some (Go.bits .and .i64 a2 a3)) else (if a0 = 4 then (some (Go.bits .or .i64 a2 a3)) else (if a0 = 5 then (some (Go.bits .xor .i64 a2 a3)) else (if a0 = 6 then (some (mn a2 a3)) else (if a0 = 7 then (some (mx a2 a3)) else (if a0 = 8 then ((impl_pick.f (decide (t450 ≤ t451)) a2 a3).bind fun t455 => (some t455)) else (if a0 = 9 then ((impl_pick.f (decide (t450 ≥ t451)) a2 a3).bind fun t456 => (some t456)) else (if a0 = 10 then ((impl_bounded.f (wrap64 (a2 + a3)) 0 (wrap64 ((shl .i64 1 a1) - 1))).bind fun t457 => (some t457)) else (if a0 = 11 then ((impl_nearest.f a1 (wrap64 (t450 + t451))).bind fun t458 => (some t458)) else (if a0 = 12 then ((impl_bounded.f (wrap64 (a2 - a3)) 0 (wrap64 ((shl .i64 1 a1) - 1))).bind fun t459 => (some t459)) else (if a0 = 13 then ((impl_nearest.f a1 (wrap64 (t450 - t451))).bind fun t460 => (some t460)) else (if a0 = 14 then (some (wrap64 (Int.tdiv (wrap64 ((wrap64 (a2 + a3)) + 1)) 2))) else (if a0 = 15 then (if 0 ≤ (Int.tmod a3 a1) then ((impl_wrapped.f a1 (shl .i64 a2 (Int.tmod a3 a1))).bind fun t461 => (some t461)) else (none)) else (if a0 = 16 then (if 0 ≤ (Int.tmod a3 a1) then (some (shr .i64 a2 (Int.tmod a3 a1))) else (none)) else (if 0 ≤ (Int.tmod a3 a1) then ((impl_wrapped.f a1 (shr .i64 t450 (Int.tmod a3 a1))).bind fun t462 => (some t462)) else (none)))))))))))))))))))))) else (none)
set_option maxHeartbeats 8000000 in
set_option maxRecDepth 100000 in
theorem impl_result.calls (a0 : Int) (a1 : Int) (a2 : Int) (a3 : Int) (r : Int) (w : World) (h : impl_result.f a0 a1 a2 a3 = some r) :
  Calls Try.prog 116 #[.int .i64 a0, .int .i64 a1, .int .i64 a2, .int .i64 a3] w fun e w' => e = .returned (.int .i64 r) ∧ Drawn0 w w' := by
 have H : (if 0 ≤ a1 then (if a1 = 0 then (none) else ((impl_signedOf.f a1 a2).bind fun t450 => ((impl_signedOf.f a1 a3).bind fun t451 => (if a0 = 0 then ((impl_wrapped.f a1 (wrap64 (a2 + a3))).bind fun t452 => (some t452)) else (if a0 = 1 then ((impl_wrapped.f a1 (wrap64 (a2 - a3))).bind fun t453 => (some t453)) else (if a0 = 2 then ((impl_wrapped.f a1 (wrap64 (a2 * a3))).bind fun t454 => (some t454)) else (if a0 = 3 then (some (Go.bits .and .i64 a2 a3)) else (if a0 = 4 then (some (Go.bits .or .i64 a2 a3)) else (if a0 = 5 then (some (Go.bits .xor .i64 a2 a3)) else (if a0 = 6 then (some (mn a2 a3)) else (if a0 = 7 then (some (mx a2 a3)) else (if a0 = 8 then ((impl_pick.f (decide (t450 ≤ t451)) a2 a3).bind fun t455 => (some t455)) else (if a0 = 9 then ((impl_pick.f (decide (t450 ≥ t451)) a2 a3).bind fun t456 => (some t456)) else (if a0 = 10 then ((impl_bounded.f (wrap64 (a2 + a3)) 0 (wrap64 ((shl .i64 1 a1) - 1))).bind fun t457 => (some t457)) else (if a0 = 11 then ((impl_nearest.f a1 (wrap64 (t450 + t451))).bind fun t458 => (some t458)) else (if a0 = 12 then ((impl_bounded.f (wrap64 (a2 - a3)) 0 (wrap64 ((shl .i64 1 a1) - 1))).bind fun t459 => (some t459)) else (if a0 = 13 then ((impl_nearest.f a1 (wrap64 (t450 - t451))).bind fun t460 => (some t460)) else (if a0 = 14 then (some (wrap64 (Int.tdiv (wrap64 ((wrap64 (a2 + a3)) + 1)) 2))) else (if a0 = 15 then (if 0 ≤ (Int.tmod a3 a1) then ((impl_wrapped.f a1 (shl .i64 a2 (Int.tmod a3 a1))).bind fun t461 => (some t461)) else (none)) else (if a0 = 16 then (if 0 ≤ (Int.tmod a3 a1) then (some (shr .i64 a2 (Int.tmod a3 a1))) else (none)) else (if 0 ≤ (Int.tmod a3 a1) then ((impl_wrapped.f a1 (shr .i64 t450 (Int.tmod a3 a1))).bind fun t462 => (some t462)) else (none)))))))))))))))))))))) else (none)) = some r := h
 clear h
 by_cases c5 : 0 ≤ a1
 rotate_left
 ·rw [if_neg c5] at H
  exact absurd H (by simp)
 rw [if_pos c5] at H
 have c5b0 := eq_true c5
 have c5b1 : decide (0 ≤ a1) = true := decide_eq_true c5
 clear c5
 obtain ⟨ji6, hji6⟩ : ∃ j_ : Int, (shl .i64 1 a1) = j_ := ⟨_, rfl⟩
 replace H : (if a1 = 0 then (none) else ((impl_signedOf.f a1 a2).bind fun t450 => ((impl_signedOf.f a1 a3).bind fun t451 => (if a0 = 0 then ((impl_wrapped.f a1 (wrap64 (a2 + a3))).bind fun t452 => (some t452)) else (if a0 = 1 then ((impl_wrapped.f a1 (wrap64 (a2 - a3))).bind fun t453 => (some t453)) else (if a0 = 2 then ((impl_wrapped.f a1 (wrap64 (a2 * a3))).bind fun t454 => (some t454)) else (if a0 = 3 then (some (Go.bits .and .i64 a2 a3)) else (if a0 = 4 then (some (Go.bits .or .i64 a2 a3)) else (if a0 = 5 then (some (Go.bits .xor .i64 a2 a3)) else (if a0 = 6 then (some (mn a2 a3)) else (if a0 = 7 then (some (mx a2 a3)) else (if a0 = 8 then ((impl_pick.f (decide (t450 ≤ t451)) a2 a3).bind fun t455 => (some t455)) else (if a0 = 9 then ((impl_pick.f (decide (t450 ≥ t451)) a2 a3).bind fun t456 => (some t456)) else (if a0 = 10 then ((impl_bounded.f (wrap64 (a2 + a3)) 0 (wrap64 ((ji6) - 1))).bind fun t457 => (some t457)) else (if a0 = 11 then ((impl_nearest.f a1 (wrap64 (t450 + t451))).bind fun t458 => (some t458)) else (if a0 = 12 then ((impl_bounded.f (wrap64 (a2 - a3)) 0 (wrap64 ((ji6) - 1))).bind fun t459 => (some t459)) else (if a0 = 13 then ((impl_nearest.f a1 (wrap64 (t450 - t451))).bind fun t460 => (some t460)) else (if a0 = 14 then (some (wrap64 (Int.tdiv (wrap64 ((wrap64 (a2 + a3)) + 1)) 2))) else (if a0 = 15 then (if 0 ≤ (Int.tmod a3 a1) then ((impl_wrapped.f a1 (shl .i64 a2 (Int.tmod a3 a1))).bind fun t461 => (some t461)) else (none)) else (if a0 = 16 then (if 0 ≤ (Int.tmod a3 a1) then (some (shr .i64 a2 (Int.tmod a3 a1))) else (none)) else (if 0 ≤ (Int.tmod a3 a1) then ((impl_wrapped.f a1 (shr .i64 t450 (Int.tmod a3 a1))).bind fun t462 => (some t462)) else (none)))))))))))))))))))))) = some r := by first | (rw [hji6] at H; exact H) | (simp only [hji6] at H ⊢; exact H)
 have hji6_ : (IntKind.i64.wrap (1 * 2 ^ min a1.toNat 64)) = ji6 := hji6
 have hji6z : a1 ≤ 64 → (IntKind.i64.wrap (1 * 2 ^ a1.toNat)) = ji6 := shl_small hji6
 have hji6u : (IntKind.i64.wrap (2 ^ min a1.toNat 64)) = ji6 := by have h_ := hji6_; rw [Int.one_mul] at h_; exact h_
 have hji6v : a1 ≤ 64 → (IntKind.i64.wrap (2 ^ a1.toNat)) = ji6 := fun hle_ => by have h_ := hji6z hle_; rw [Int.one_mul] at h_; exact h_
 have hji6y : (wrap64 (1 * 2 ^ min a1.toNat 64)) = ji6 := (i64_w _).symm.trans hji6_
 have hji6x : a1 ≤ 64 → (wrap64 (1 * 2 ^ a1.toNat)) = ji6 := fun h_ => (i64_w _).symm.trans (hji6z h_)
 by_cases c7 : a1 = 0
 ·rw [if_pos c7] at H
  exact absurd H (by simp)
 rw [if_neg c7] at H
 have c7b0 : (a1 == 0) = false := beq_eq_false_iff_ne.mpr c7
 have c7b1 : (a1 != 0) = true := bne_iff_ne.mpr c7
 replace H := Option.bind_eq_some_iff.mp H
 obtain ⟨t450, A80, H⟩ := H
 try dsimp only at H
 have A8 := Aside0.mk A80
 clear A80
 replace H := Option.bind_eq_some_iff.mp H
 obtain ⟨t451, A90, H⟩ := H
 try dsimp only at H
 have A9 := Aside0.mk A90
 clear A90
 by_cases c10 : a0 = 0
 ·rw [if_pos c10] at H
  have c10b0 : (a0 == 0) = true := beq_iff_eq.mpr c10
  have c10b1 : (a0 != 0) = false := bne_eq_false_iff_eq.mpr c10
  clear c10
  replace H := Option.bind_eq_some_iff.mp H
  obtain ⟨t452, A110, H⟩ := H
  try dsimp only at H
  have A11 := Aside0.mk A110
  clear A110
  obtain rfl := Option.some.inj H
  go_enter Try.func116, Try.ntmps116
  go_wp2_with (first | (go_at_call 127; (with_reducible refine (impl_signedOf.calls a1 a2 t450 _ A8.out).mono ?_); rintro e w' ⟨rfl, ⟨nd, rfl⟩⟩; (try first | exact ⟨rfl, _, World.drewN_drewN _ _ _⟩ | exact ⟨rfl, _, Eq.trans (World.drewN_drewN _ _ _) (congrArg (World.drewN _) (Nat.add_assoc _ _ _))⟩)) | (go_at_call 127; (with_reducible refine (impl_signedOf.calls a1 a3 t451 _ A9.out).mono ?_); rintro e w' ⟨rfl, ⟨nd, rfl⟩⟩; (try first | exact ⟨rfl, _, World.drewN_drewN _ _ _⟩ | exact ⟨rfl, _, Eq.trans (World.drewN_drewN _ _ _) (congrArg (World.drewN _) (Nat.add_assoc _ _ _))⟩)) | (go_at_call 128; (with_reducible refine (impl_wrapped.calls a1 (wrap64 (a2 + a3)) t452 _ A11.out).mono ?_); rintro e w' ⟨rfl, ⟨nd, rfl⟩⟩; (try first | exact ⟨rfl, _, World.drewN_drewN _ _ _⟩ | exact ⟨rfl, _, Eq.trans (World.drewN_drewN _ _ _) (congrArg (World.drewN _) (Nat.add_assoc _ _ _))⟩)))
  repeat (go_quiet (first | (go_at_call 127; (with_reducible refine (impl_signedOf.calls a1 a2 t450 _ A8.out).mono ?_); rintro e w' ⟨rfl, ⟨nd, rfl⟩⟩; (try first | exact ⟨rfl, _, World.drewN_drewN _ _ _⟩ | exact ⟨rfl, _, Eq.trans (World.drewN_drewN _ _ _) (congrArg (World.drewN _) (Nat.add_assoc _ _ _))⟩)) | (go_at_call 127; (with_reducible refine (impl_signedOf.calls a1 a3 t451 _ A9.out).mono ?_); rintro e w' ⟨rfl, ⟨nd, rfl⟩⟩; (try first | exact ⟨rfl, _, World.drewN_drewN _ _ _⟩ | exact ⟨rfl, _, Eq.trans (World.drewN_drewN _ _ _) (congrArg (World.drewN _) (Nat.add_assoc _ _ _))⟩)) | (go_at_call 128; (with_reducible refine (impl_wrapped.calls a1 (wrap64 (a2 + a3)) t452 _ A11.out).mono ?_); rintro e w' ⟨rfl, ⟨nd, rfl⟩⟩; (try first | exact ⟨rfl, _, World.drewN_drewN _ _ _⟩ | exact ⟨rfl, _, Eq.trans (World.drewN_drewN _ _ _) (congrArg (World.drewN _) (Nat.add_assoc _ _ _))⟩))); try go_wp2_with (first | (go_at_call 127; (with_reducible refine (impl_signedOf.calls a1 a2 t450 _ A8.out).mono ?_); rintro e w' ⟨rfl, ⟨nd, rfl⟩⟩; (try first | exact ⟨rfl, _, World.drewN_drewN _ _ _⟩ | exact ⟨rfl, _, Eq.trans (World.drewN_drewN _ _ _) (congrArg (World.drewN _) (Nat.add_assoc _ _ _))⟩)) | (go_at_call 127; (with_reducible refine (impl_signedOf.calls a1 a3 t451 _ A9.out).mono ?_); rintro e w' ⟨rfl, ⟨nd, rfl⟩⟩; (try first | exact ⟨rfl, _, World.drewN_drewN _ _ _⟩ | exact ⟨rfl, _, Eq.trans (World.drewN_drewN _ _ _) (congrArg (World.drewN _) (Nat.add_assoc _ _ _))⟩)) | (go_at_call 128; (with_reducible refine (impl_wrapped.calls a1 (wrap64 (a2 + a3)) t452 _ A11.out).mono ?_); rintro e w' ⟨rfl, ⟨nd, rfl⟩⟩; (try first | exact ⟨rfl, _, World.drewN_drewN _ _ _⟩ | exact ⟨rfl, _, Eq.trans (World.drewN_drewN _ _ _) (congrArg (World.drewN _) (Nat.add_assoc _ _ _))⟩))))
  go_ret
  exact ⟨by first | rfl | (simp; done) | (simp only [← hji6] <;> (first | rfl | simp)) | (simp [*]; done), by repeat (first | exact Drawn0.refl _ | apply Drawn0.step)⟩
 ·rw [if_neg c10] at H
  have c10b0 : (a0 == 0) = false := beq_eq_false_iff_ne.mpr c10
  have c10b1 : (a0 != 0) = true := bne_iff_ne.mpr c10
  by_cases c12 : a0 = 1
  ·rw [if_pos c12] at H
   have c12b0 : (a0 == 1) = true := beq_iff_eq.mpr c12
   have c12b1 : (a0 != 1) = false := bne_eq_false_iff_eq.mpr c12
   clear c12
   replace H := Option.bind_eq_some_iff.mp H
   obtain ⟨t453, A130, H⟩ := H
   try dsimp only at H
   have A13 := Aside0.mk A130
   clear A130
   obtain rfl := Option.some.inj H
   go_enter Try.func116, Try.ntmps116
   go_wp2_with (first | (go_at_call 127; (with_reducible refine (impl_signedOf.calls a1 a2 t450 _ A8.out).mono ?_); rintro e w' ⟨rfl, ⟨nd, rfl⟩⟩; (try first | exact ⟨rfl, _, World.drewN_drewN _ _ _⟩ | exact ⟨rfl, _, Eq.trans (World.drewN_drewN _ _ _) (congrArg (World.drewN _) (Nat.add_assoc _ _ _))⟩)) | (go_at_call 127; (with_reducible refine (impl_signedOf.calls a1 a3 t451 _ A9.out).mono ?_); rintro e w' ⟨rfl, ⟨nd, rfl⟩⟩; (try first | exact ⟨rfl, _, World.drewN_drewN _ _ _⟩ | exact ⟨rfl, _, Eq.trans (World.drewN_drewN _ _ _) (congrArg (World.drewN _) (Nat.add_assoc _ _ _))⟩)) | (go_at_call 128; (with_reducible refine (impl_wrapped.calls a1 (wrap64 (a2 - a3)) t453 _ A13.out).mono ?_); rintro e w' ⟨rfl, ⟨nd, rfl⟩⟩; (try first | exact ⟨rfl, _, World.drewN_drewN _ _ _⟩ | exact ⟨rfl, _, Eq.trans (World.drewN_drewN _ _ _) (congrArg (World.drewN _) (Nat.add_assoc _ _ _))⟩)))
   repeat (go_quiet (first | (go_at_call 127; (with_reducible refine (impl_signedOf.calls a1 a2 t450 _ A8.out).mono ?_); rintro e w' ⟨rfl, ⟨nd, rfl⟩⟩; (try first | exact ⟨rfl, _, World.drewN_drewN _ _ _⟩ | exact ⟨rfl, _, Eq.trans (World.drewN_drewN _ _ _) (congrArg (World.drewN _) (Nat.add_assoc _ _ _))⟩)) | (go_at_call 127; (with_reducible refine (impl_signedOf.calls a1 a3 t451 _ A9.out).mono ?_); rintro e w' ⟨rfl, ⟨nd, rfl⟩⟩; (try first | exact ⟨rfl, _, World.drewN_drewN _ _ _⟩ | exact ⟨rfl, _, Eq.trans (World.drewN_drewN _ _ _) (congrArg (World.drewN _) (Nat.add_assoc _ _ _))⟩)) | (go_at_call 128; (with_reducible refine (impl_wrapped.calls a1 (wrap64 (a2 - a3)) t453 _ A13.out).mono ?_); rintro e w' ⟨rfl, ⟨nd, rfl⟩⟩; (try first | exact ⟨rfl, _, World.drewN_drewN _ _ _⟩ | exact ⟨rfl, _, Eq.trans (World.drewN_drewN _ _ _) (congrArg (World.drewN _) (Nat.add_assoc _ _ _))⟩))); try go_wp2_with (first | (go_at_call 127; (with_reducible refine (impl_signedOf.calls a1 a2 t450 _ A8.out).mono ?_); rintro e w' ⟨rfl, ⟨nd, rfl⟩⟩; (try first | exact ⟨rfl, _, World.drewN_drewN _ _ _⟩ | exact ⟨rfl, _, Eq.trans (World.drewN_drewN _ _ _) (congrArg (World.drewN _) (Nat.add_assoc _ _ _))⟩)) | (go_at_call 127; (with_reducible refine (impl_signedOf.calls a1 a3 t451 _ A9.out).mono ?_); rintro e w' ⟨rfl, ⟨nd, rfl⟩⟩; (try first | exact ⟨rfl, _, World.drewN_drewN _ _ _⟩ | exact ⟨rfl, _, Eq.trans (World.drewN_drewN _ _ _) (congrArg (World.drewN _) (Nat.add_assoc _ _ _))⟩)) | (go_at_call 128; (with_reducible refine (impl_wrapped.calls a1 (wrap64 (a2 - a3)) t453 _ A13.out).mono ?_); rintro e w' ⟨rfl, ⟨nd, rfl⟩⟩; (try first | exact ⟨rfl, _, World.drewN_drewN _ _ _⟩ | exact ⟨rfl, _, Eq.trans (World.drewN_drewN _ _ _) (congrArg (World.drewN _) (Nat.add_assoc _ _ _))⟩))))
   go_ret
   exact ⟨by first | rfl | (simp; done) | (simp only [← hji6] <;> (first | rfl | simp)) | (simp [*]; done), by repeat (first | exact Drawn0.refl _ | apply Drawn0.step)⟩
  ·rw [if_neg c12] at H
   have c12b0 : (a0 == 1) = false := beq_eq_false_iff_ne.mpr c12
   have c12b1 : (a0 != 1) = true := bne_iff_ne.mpr c12
   by_cases c14 : a0 = 2
   ·rw [if_pos c14] at H
    have c14b0 : (a0 == 2) = true := beq_iff_eq.mpr c14
    have c14b1 : (a0 != 2) = false := bne_eq_false_iff_eq.mpr c14
    clear c14
    replace H := Option.bind_eq_some_iff.mp H
    obtain ⟨t454, A150, H⟩ := H
    try dsimp only at H
    have A15 := Aside0.mk A150
    clear A150
    obtain rfl := Option.some.inj H
    go_enter Try.func116, Try.ntmps116
    go_wp2_with (first | (go_at_call 127; (with_reducible refine (impl_signedOf.calls a1 a2 t450 _ A8.out).mono ?_); rintro e w' ⟨rfl, ⟨nd, rfl⟩⟩; (try first | exact ⟨rfl, _, World.drewN_drewN _ _ _⟩ | exact ⟨rfl, _, Eq.trans (World.drewN_drewN _ _ _) (congrArg (World.drewN _) (Nat.add_assoc _ _ _))⟩)) | (go_at_call 127; (with_reducible refine (impl_signedOf.calls a1 a3 t451 _ A9.out).mono ?_); rintro e w' ⟨rfl, ⟨nd, rfl⟩⟩; (try first | exact ⟨rfl, _, World.drewN_drewN _ _ _⟩ | exact ⟨rfl, _, Eq.trans (World.drewN_drewN _ _ _) (congrArg (World.drewN _) (Nat.add_assoc _ _ _))⟩)) | (go_at_call 128; (with_reducible refine (impl_wrapped.calls a1 (wrap64 (a2 * a3)) t454 _ A15.out).mono ?_); rintro e w' ⟨rfl, ⟨nd, rfl⟩⟩; (try first | exact ⟨rfl, _, World.drewN_drewN _ _ _⟩ | exact ⟨rfl, _, Eq.trans (World.drewN_drewN _ _ _) (congrArg (World.drewN _) (Nat.add_assoc _ _ _))⟩)))
    repeat (go_quiet (first | (go_at_call 127; (with_reducible refine (impl_signedOf.calls a1 a2 t450 _ A8.out).mono ?_); rintro e w' ⟨rfl, ⟨nd, rfl⟩⟩; (try first | exact ⟨rfl, _, World.drewN_drewN _ _ _⟩ | exact ⟨rfl, _, Eq.trans (World.drewN_drewN _ _ _) (congrArg (World.drewN _) (Nat.add_assoc _ _ _))⟩)) | (go_at_call 127; (with_reducible refine (impl_signedOf.calls a1 a3 t451 _ A9.out).mono ?_); rintro e w' ⟨rfl, ⟨nd, rfl⟩⟩; (try first | exact ⟨rfl, _, World.drewN_drewN _ _ _⟩ | exact ⟨rfl, _, Eq.trans (World.drewN_drewN _ _ _) (congrArg (World.drewN _) (Nat.add_assoc _ _ _))⟩)) | (go_at_call 128; (with_reducible refine (impl_wrapped.calls a1 (wrap64 (a2 * a3)) t454 _ A15.out).mono ?_); rintro e w' ⟨rfl, ⟨nd, rfl⟩⟩; (try first | exact ⟨rfl, _, World.drewN_drewN _ _ _⟩ | exact ⟨rfl, _, Eq.trans (World.drewN_drewN _ _ _) (congrArg (World.drewN _) (Nat.add_assoc _ _ _))⟩))); try go_wp2_with (first | (go_at_call 127; (with_reducible refine (impl_signedOf.calls a1 a2 t450 _ A8.out).mono ?_); rintro e w' ⟨rfl, ⟨nd, rfl⟩⟩; (try first | exact ⟨rfl, _, World.drewN_drewN _ _ _⟩ | exact ⟨rfl, _, Eq.trans (World.drewN_drewN _ _ _) (congrArg (World.drewN _) (Nat.add_assoc _ _ _))⟩)) | (go_at_call 127; (with_reducible refine (impl_signedOf.calls a1 a3 t451 _ A9.out).mono ?_); rintro e w' ⟨rfl, ⟨nd, rfl⟩⟩; (try first | exact ⟨rfl, _, World.drewN_drewN _ _ _⟩ | exact ⟨rfl, _, Eq.trans (World.drewN_drewN _ _ _) (congrArg (World.drewN _) (Nat.add_assoc _ _ _))⟩)) | (go_at_call 128; (with_reducible refine (impl_wrapped.calls a1 (wrap64 (a2 * a3)) t454 _ A15.out).mono ?_); rintro e w' ⟨rfl, ⟨nd, rfl⟩⟩; (try first | exact ⟨rfl, _, World.drewN_drewN _ _ _⟩ | exact ⟨rfl, _, Eq.trans (World.drewN_drewN _ _ _) (congrArg (World.drewN _) (Nat.add_assoc _ _ _))⟩))))
    go_ret
    exact ⟨by first | rfl | (simp; done) | (simp only [← hji6] <;> (first | rfl | simp)) | (simp [*]; done), by repeat (first | exact Drawn0.refl _ | apply Drawn0.step)⟩
   ·rw [if_neg c14] at H
    have c14b0 : (a0 == 2) = false := beq_eq_false_iff_ne.mpr c14
    have c14b1 : (a0 != 2) = true := bne_iff_ne.mpr c14
    by_cases c16 : a0 = 3
    ·rw [if_pos c16] at H
     have c16b0 : (a0 == 3) = true := beq_iff_eq.mpr c16
     have c16b1 : (a0 != 3) = false := bne_eq_false_iff_eq.mpr c16
     clear c16
     obtain rfl := Option.some.inj H
     go_enter Try.func116, Try.ntmps116
     go_wp2_with (first | (go_at_call 127; (with_reducible refine (impl_signedOf.calls a1 a2 t450 _ A8.out).mono ?_); rintro e w' ⟨rfl, ⟨nd, rfl⟩⟩; (try first | exact ⟨rfl, _, World.drewN_drewN _ _ _⟩ | exact ⟨rfl, _, Eq.trans (World.drewN_drewN _ _ _) (congrArg (World.drewN _) (Nat.add_assoc _ _ _))⟩)) | (go_at_call 127; (with_reducible refine (impl_signedOf.calls a1 a3 t451 _ A9.out).mono ?_); rintro e w' ⟨rfl, ⟨nd, rfl⟩⟩; (try first | exact ⟨rfl, _, World.drewN_drewN _ _ _⟩ | exact ⟨rfl, _, Eq.trans (World.drewN_drewN _ _ _) (congrArg (World.drewN _) (Nat.add_assoc _ _ _))⟩)))
     repeat (go_quiet (first | (go_at_call 127; (with_reducible refine (impl_signedOf.calls a1 a2 t450 _ A8.out).mono ?_); rintro e w' ⟨rfl, ⟨nd, rfl⟩⟩; (try first | exact ⟨rfl, _, World.drewN_drewN _ _ _⟩ | exact ⟨rfl, _, Eq.trans (World.drewN_drewN _ _ _) (congrArg (World.drewN _) (Nat.add_assoc _ _ _))⟩)) | (go_at_call 127; (with_reducible refine (impl_signedOf.calls a1 a3 t451 _ A9.out).mono ?_); rintro e w' ⟨rfl, ⟨nd, rfl⟩⟩; (try first | exact ⟨rfl, _, World.drewN_drewN _ _ _⟩ | exact ⟨rfl, _, Eq.trans (World.drewN_drewN _ _ _) (congrArg (World.drewN _) (Nat.add_assoc _ _ _))⟩))); try go_wp2_with (first | (go_at_call 127; (with_reducible refine (impl_signedOf.calls a1 a2 t450 _ A8.out).mono ?_); rintro e w' ⟨rfl, ⟨nd, rfl⟩⟩; (try first | exact ⟨rfl, _, World.drewN_drewN _ _ _⟩ | exact ⟨rfl, _, Eq.trans (World.drewN_drewN _ _ _) (congrArg (World.drewN _) (Nat.add_assoc _ _ _))⟩)) | (go_at_call 127; (with_reducible refine (impl_signedOf.calls a1 a3 t451 _ A9.out).mono ?_); rintro e w' ⟨rfl, ⟨nd, rfl⟩⟩; (try first | exact ⟨rfl, _, World.drewN_drewN _ _ _⟩ | exact ⟨rfl, _, Eq.trans (World.drewN_drewN _ _ _) (congrArg (World.drewN _) (Nat.add_assoc _ _ _))⟩))))
     go_ret
     exact ⟨by first | rfl | (simp; done) | (simp only [← hji6] <;> (first | rfl | simp)) | (simp [*]; done), by repeat (first | exact Drawn0.refl _ | apply Drawn0.step)⟩
    rw [if_neg c16] at H
    have c16b0 : (a0 == 3) = false := beq_eq_false_iff_ne.mpr c16
    have c16b1 : (a0 != 3) = true := bne_iff_ne.mpr c16
    by_cases c17 : a0 = 4
    ·rw [if_pos c17] at H
     have c17b0 : (a0 == 4) = true := beq_iff_eq.mpr c17
     have c17b1 : (a0 != 4) = false := bne_eq_false_iff_eq.mpr c17
     clear c17
     obtain rfl := Option.some.inj H
     go_enter Try.func116, Try.ntmps116
     go_wp2_with (first | (go_at_call 127; (with_reducible refine (impl_signedOf.calls a1 a2 t450 _ A8.out).mono ?_); rintro e w' ⟨rfl, ⟨nd, rfl⟩⟩; (try first | exact ⟨rfl, _, World.drewN_drewN _ _ _⟩ | exact ⟨rfl, _, Eq.trans (World.drewN_drewN _ _ _) (congrArg (World.drewN _) (Nat.add_assoc _ _ _))⟩)) | (go_at_call 127; (with_reducible refine (impl_signedOf.calls a1 a3 t451 _ A9.out).mono ?_); rintro e w' ⟨rfl, ⟨nd, rfl⟩⟩; (try first | exact ⟨rfl, _, World.drewN_drewN _ _ _⟩ | exact ⟨rfl, _, Eq.trans (World.drewN_drewN _ _ _) (congrArg (World.drewN _) (Nat.add_assoc _ _ _))⟩)))
     repeat (go_quiet (first | (go_at_call 127; (with_reducible refine (impl_signedOf.calls a1 a2 t450 _ A8.out).mono ?_); rintro e w' ⟨rfl, ⟨nd, rfl⟩⟩; (try first | exact ⟨rfl, _, World.drewN_drewN _ _ _⟩ | exact ⟨rfl, _, Eq.trans (World.drewN_drewN _ _ _) (congrArg (World.drewN _) (Nat.add_assoc _ _ _))⟩)) | (go_at_call 127; (with_reducible refine (impl_signedOf.calls a1 a3 t451 _ A9.out).mono ?_); rintro e w' ⟨rfl, ⟨nd, rfl⟩⟩; (try first | exact ⟨rfl, _, World.drewN_drewN _ _ _⟩ | exact ⟨rfl, _, Eq.trans (World.drewN_drewN _ _ _) (congrArg (World.drewN _) (Nat.add_assoc _ _ _))⟩))); try go_wp2_with (first | (go_at_call 127; (with_reducible refine (impl_signedOf.calls a1 a2 t450 _ A8.out).mono ?_); rintro e w' ⟨rfl, ⟨nd, rfl⟩⟩; (try first | exact ⟨rfl, _, World.drewN_drewN _ _ _⟩ | exact ⟨rfl, _, Eq.trans (World.drewN_drewN _ _ _) (congrArg (World.drewN _) (Nat.add_assoc _ _ _))⟩)) | (go_at_call 127; (with_reducible refine (impl_signedOf.calls a1 a3 t451 _ A9.out).mono ?_); rintro e w' ⟨rfl, ⟨nd, rfl⟩⟩; (try first | exact ⟨rfl, _, World.drewN_drewN _ _ _⟩ | exact ⟨rfl, _, Eq.trans (World.drewN_drewN _ _ _) (congrArg (World.drewN _) (Nat.add_assoc _ _ _))⟩))))
     go_ret
     exact ⟨by first | rfl | (simp; done) | (simp only [← hji6] <;> (first | rfl | simp)) | (simp [*]; done), by repeat (first | exact Drawn0.refl _ | apply Drawn0.step)⟩
    rw [if_neg c17] at H
    have c17b0 : (a0 == 4) = false := beq_eq_false_iff_ne.mpr c17
    have c17b1 : (a0 != 4) = true := bne_iff_ne.mpr c17
    by_cases c18 : a0 = 5
    ·rw [if_pos c18] at H
     have c18b0 : (a0 == 5) = true := beq_iff_eq.mpr c18
     have c18b1 : (a0 != 5) = false := bne_eq_false_iff_eq.mpr c18
     clear c18
     obtain rfl := Option.some.inj H
     go_enter Try.func116, Try.ntmps116
     go_wp2_with (first | (go_at_call 127; (with_reducible refine (impl_signedOf.calls a1 a2 t450 _ A8.out).mono ?_); rintro e w' ⟨rfl, ⟨nd, rfl⟩⟩; (try first | exact ⟨rfl, _, World.drewN_drewN _ _ _⟩ | exact ⟨rfl, _, Eq.trans (World.drewN_drewN _ _ _) (congrArg (World.drewN _) (Nat.add_assoc _ _ _))⟩)) | (go_at_call 127; (with_reducible refine (impl_signedOf.calls a1 a3 t451 _ A9.out).mono ?_); rintro e w' ⟨rfl, ⟨nd, rfl⟩⟩; (try first | exact ⟨rfl, _, World.drewN_drewN _ _ _⟩ | exact ⟨rfl, _, Eq.trans (World.drewN_drewN _ _ _) (congrArg (World.drewN _) (Nat.add_assoc _ _ _))⟩)))
     repeat (go_quiet (first | (go_at_call 127; (with_reducible refine (impl_signedOf.calls a1 a2 t450 _ A8.out).mono ?_); rintro e w' ⟨rfl, ⟨nd, rfl⟩⟩; (try first | exact ⟨rfl, _, World.drewN_drewN _ _ _⟩ | exact ⟨rfl, _, Eq.trans (World.drewN_drewN _ _ _) (congrArg (World.drewN _) (Nat.add_assoc _ _ _))⟩)) | (go_at_call 127; (with_reducible refine (impl_signedOf.calls a1 a3 t451 _ A9.out).mono ?_); rintro e w' ⟨rfl, ⟨nd, rfl⟩⟩; (try first | exact ⟨rfl, _, World.drewN_drewN _ _ _⟩ | exact ⟨rfl, _, Eq.trans (World.drewN_drewN _ _ _) (congrArg (World.drewN _) (Nat.add_assoc _ _ _))⟩))); try go_wp2_with (first | (go_at_call 127; (with_reducible refine (impl_signedOf.calls a1 a2 t450 _ A8.out).mono ?_); rintro e w' ⟨rfl, ⟨nd, rfl⟩⟩; (try first | exact ⟨rfl, _, World.drewN_drewN _ _ _⟩ | exact ⟨rfl, _, Eq.trans (World.drewN_drewN _ _ _) (congrArg (World.drewN _) (Nat.add_assoc _ _ _))⟩)) | (go_at_call 127; (with_reducible refine (impl_signedOf.calls a1 a3 t451 _ A9.out).mono ?_); rintro e w' ⟨rfl, ⟨nd, rfl⟩⟩; (try first | exact ⟨rfl, _, World.drewN_drewN _ _ _⟩ | exact ⟨rfl, _, Eq.trans (World.drewN_drewN _ _ _) (congrArg (World.drewN _) (Nat.add_assoc _ _ _))⟩))))
     go_ret
     exact ⟨by first | rfl | (simp; done) | (simp only [← hji6] <;> (first | rfl | simp)) | (simp [*]; done), by repeat (first | exact Drawn0.refl _ | apply Drawn0.step)⟩
    rw [if_neg c18] at H
    have c18b0 : (a0 == 5) = false := beq_eq_false_iff_ne.mpr c18
    have c18b1 : (a0 != 5) = true := bne_iff_ne.mpr c18
    by_cases c19 : a0 = 6
    ·rw [if_pos c19] at H
     have c19b0 : (a0 == 6) = true := beq_iff_eq.mpr c19
     have c19b1 : (a0 != 6) = false := bne_eq_false_iff_eq.mpr c19
     clear c19
     obtain ⟨ji20, hji20⟩ : ∃ j_ : Int, (mn a2 a3) = j_ := ⟨_, rfl⟩
     replace H : (some ji20) = some r := by first | (rw [hji20] at H; exact H) | (simp only [hji20] at H ⊢; exact H)
     (try rw [hji20] at A8)
     (try rw [hji20] at A9)
     have hji20_ : (if a3 < a2 then a3 else a2) = ji20 := hji20
     obtain rfl := Option.some.inj H
     go_enter Try.func116, Try.ntmps116
     go_wp2_with (first | (go_at_call 127; (with_reducible refine (impl_signedOf.calls a1 a2 t450 _ A8.out).mono ?_); rintro e w' ⟨rfl, ⟨nd, rfl⟩⟩; (try first | exact ⟨rfl, _, World.drewN_drewN _ _ _⟩ | exact ⟨rfl, _, Eq.trans (World.drewN_drewN _ _ _) (congrArg (World.drewN _) (Nat.add_assoc _ _ _))⟩)) | (go_at_call 127; (with_reducible refine (impl_signedOf.calls a1 a3 t451 _ A9.out).mono ?_); rintro e w' ⟨rfl, ⟨nd, rfl⟩⟩; (try first | exact ⟨rfl, _, World.drewN_drewN _ _ _⟩ | exact ⟨rfl, _, Eq.trans (World.drewN_drewN _ _ _) (congrArg (World.drewN _) (Nat.add_assoc _ _ _))⟩)))
     repeat (go_quiet (first | (go_at_call 127; (with_reducible refine (impl_signedOf.calls a1 a2 t450 _ A8.out).mono ?_); rintro e w' ⟨rfl, ⟨nd, rfl⟩⟩; (try first | exact ⟨rfl, _, World.drewN_drewN _ _ _⟩ | exact ⟨rfl, _, Eq.trans (World.drewN_drewN _ _ _) (congrArg (World.drewN _) (Nat.add_assoc _ _ _))⟩)) | (go_at_call 127; (with_reducible refine (impl_signedOf.calls a1 a3 t451 _ A9.out).mono ?_); rintro e w' ⟨rfl, ⟨nd, rfl⟩⟩; (try first | exact ⟨rfl, _, World.drewN_drewN _ _ _⟩ | exact ⟨rfl, _, Eq.trans (World.drewN_drewN _ _ _) (congrArg (World.drewN _) (Nat.add_assoc _ _ _))⟩))); try go_wp2_with (first | (go_at_call 127; (with_reducible refine (impl_signedOf.calls a1 a2 t450 _ A8.out).mono ?_); rintro e w' ⟨rfl, ⟨nd, rfl⟩⟩; (try first | exact ⟨rfl, _, World.drewN_drewN _ _ _⟩ | exact ⟨rfl, _, Eq.trans (World.drewN_drewN _ _ _) (congrArg (World.drewN _) (Nat.add_assoc _ _ _))⟩)) | (go_at_call 127; (with_reducible refine (impl_signedOf.calls a1 a3 t451 _ A9.out).mono ?_); rintro e w' ⟨rfl, ⟨nd, rfl⟩⟩; (try first | exact ⟨rfl, _, World.drewN_drewN _ _ _⟩ | exact ⟨rfl, _, Eq.trans (World.drewN_drewN _ _ _) (congrArg (World.drewN _) (Nat.add_assoc _ _ _))⟩))))
     go_ret
     exact ⟨by first | rfl | (simp; done) | (simp only [← hji6, ← hji20] <;> (first | rfl | simp)) | (simp [*]; done), by repeat (first | exact Drawn0.refl _ | apply Drawn0.step)⟩
    ·rw [if_neg c19] at H
     have c19b0 : (a0 == 6) = false := beq_eq_false_iff_ne.mpr c19
     have c19b1 : (a0 != 6) = true := bne_iff_ne.mpr c19
     by_cases c21 : a0 = 7
     ·rw [if_pos c21] at H
      have c21b0 : (a0 == 7) = true := beq_iff_eq.mpr c21
      have c21b1 : (a0 != 7) = false := bne_eq_false_iff_eq.mpr c21
      clear c21
      obtain ⟨ji22, hji22⟩ : ∃ j_ : Int, (mx a2 a3) = j_ := ⟨_, rfl⟩
      replace H : (some ji22) = some r := by first | (rw [hji22] at H; exact H) | (simp only [hji22] at H ⊢; exact H)
      (try rw [hji22] at A8)
      (try rw [hji22] at A9)
      have hji22_ : (if a2 < a3 then a3 else a2) = ji22 := hji22
      obtain rfl := Option.some.inj H
      go_enter Try.func116, Try.ntmps116
      go_wp2_with (first | (go_at_call 127; (with_reducible refine (impl_signedOf.calls a1 a2 t450 _ A8.out).mono ?_); rintro e w' ⟨rfl, ⟨nd, rfl⟩⟩; (try first | exact ⟨rfl, _, World.drewN_drewN _ _ _⟩ | exact ⟨rfl, _, Eq.trans (World.drewN_drewN _ _ _) (congrArg (World.drewN _) (Nat.add_assoc _ _ _))⟩)) | (go_at_call 127; (with_reducible refine (impl_signedOf.calls a1 a3 t451 _ A9.out).mono ?_); rintro e w' ⟨rfl, ⟨nd, rfl⟩⟩; (try first | exact ⟨rfl, _, World.drewN_drewN _ _ _⟩ | exact ⟨rfl, _, Eq.trans (World.drewN_drewN _ _ _) (congrArg (World.drewN _) (Nat.add_assoc _ _ _))⟩)))
      repeat (go_quiet (first | (go_at_call 127; (with_reducible refine (impl_signedOf.calls a1 a2 t450 _ A8.out).mono ?_); rintro e w' ⟨rfl, ⟨nd, rfl⟩⟩; (try first | exact ⟨rfl, _, World.drewN_drewN _ _ _⟩ | exact ⟨rfl, _, Eq.trans (World.drewN_drewN _ _ _) (congrArg (World.drewN _) (Nat.add_assoc _ _ _))⟩)) | (go_at_call 127; (with_reducible refine (impl_signedOf.calls a1 a3 t451 _ A9.out).mono ?_); rintro e w' ⟨rfl, ⟨nd, rfl⟩⟩; (try first | exact ⟨rfl, _, World.drewN_drewN _ _ _⟩ | exact ⟨rfl, _, Eq.trans (World.drewN_drewN _ _ _) (congrArg (World.drewN _) (Nat.add_assoc _ _ _))⟩))); try go_wp2_with (first | (go_at_call 127; (with_reducible refine (impl_signedOf.calls a1 a2 t450 _ A8.out).mono ?_); rintro e w' ⟨rfl, ⟨nd, rfl⟩⟩; (try first | exact ⟨rfl, _, World.drewN_drewN _ _ _⟩ | exact ⟨rfl, _, Eq.trans (World.drewN_drewN _ _ _) (congrArg (World.drewN _) (Nat.add_assoc _ _ _))⟩)) | (go_at_call 127; (with_reducible refine (impl_signedOf.calls a1 a3 t451 _ A9.out).mono ?_); rintro e w' ⟨rfl, ⟨nd, rfl⟩⟩; (try first | exact ⟨rfl, _, World.drewN_drewN _ _ _⟩ | exact ⟨rfl, _, Eq.trans (World.drewN_drewN _ _ _) (congrArg (World.drewN _) (Nat.add_assoc _ _ _))⟩))))
      go_ret
      exact ⟨by first | rfl | (simp; done) | (simp only [← hji6, ← hji22] <;> (first | rfl | simp)) | (simp [*]; done), by repeat (first | exact Drawn0.refl _ | apply Drawn0.step)⟩
     ·rw [if_neg c21] at H
      have c21b0 : (a0 == 7) = false := beq_eq_false_iff_ne.mpr c21
      have c21b1 : (a0 != 7) = true := bne_iff_ne.mpr c21
      by_cases c23 : a0 = 8
      ·rw [if_pos c23] at H
       have c23b0 : (a0 == 8) = true := beq_iff_eq.mpr c23
       have c23b1 : (a0 != 8) = false := bne_eq_false_iff_eq.mpr c23
       clear c23
       replace H := Option.bind_eq_some_iff.mp H
       obtain ⟨t455, A240, H⟩ := H
       try dsimp only at H
       have A24 := Aside0.mk A240
       clear A240
       obtain rfl := Option.some.inj H
       go_enter Try.func116, Try.ntmps116
       go_wp2_with (first | (go_at_call 127; (with_reducible refine (impl_signedOf.calls a1 a2 t450 _ A8.out).mono ?_); rintro e w' ⟨rfl, ⟨nd, rfl⟩⟩; (try first | exact ⟨rfl, _, World.drewN_drewN _ _ _⟩ | exact ⟨rfl, _, Eq.trans (World.drewN_drewN _ _ _) (congrArg (World.drewN _) (Nat.add_assoc _ _ _))⟩)) | (go_at_call 127; (with_reducible refine (impl_signedOf.calls a1 a3 t451 _ A9.out).mono ?_); rintro e w' ⟨rfl, ⟨nd, rfl⟩⟩; (try first | exact ⟨rfl, _, World.drewN_drewN _ _ _⟩ | exact ⟨rfl, _, Eq.trans (World.drewN_drewN _ _ _) (congrArg (World.drewN _) (Nat.add_assoc _ _ _))⟩)) | (go_at_call 129; (with_reducible refine (impl_pick.calls (decide (t450 ≤ t451)) a2 a3 t455 _ A24.out).mono ?_); rintro e w' ⟨rfl, ⟨nd, rfl⟩⟩; (try first | exact ⟨rfl, _, World.drewN_drewN _ _ _⟩ | exact ⟨rfl, _, Eq.trans (World.drewN_drewN _ _ _) (congrArg (World.drewN _) (Nat.add_assoc _ _ _))⟩)))
       repeat (go_quiet (first | (go_at_call 127; (with_reducible refine (impl_signedOf.calls a1 a2 t450 _ A8.out).mono ?_); rintro e w' ⟨rfl, ⟨nd, rfl⟩⟩; (try first | exact ⟨rfl, _, World.drewN_drewN _ _ _⟩ | exact ⟨rfl, _, Eq.trans (World.drewN_drewN _ _ _) (congrArg (World.drewN _) (Nat.add_assoc _ _ _))⟩)) | (go_at_call 127; (with_reducible refine (impl_signedOf.calls a1 a3 t451 _ A9.out).mono ?_); rintro e w' ⟨rfl, ⟨nd, rfl⟩⟩; (try first | exact ⟨rfl, _, World.drewN_drewN _ _ _⟩ | exact ⟨rfl, _, Eq.trans (World.drewN_drewN _ _ _) (congrArg (World.drewN _) (Nat.add_assoc _ _ _))⟩)) | (go_at_call 129; (with_reducible refine (impl_pick.calls (decide (t450 ≤ t451)) a2 a3 t455 _ A24.out).mono ?_); rintro e w' ⟨rfl, ⟨nd, rfl⟩⟩; (try first | exact ⟨rfl, _, World.drewN_drewN _ _ _⟩ | exact ⟨rfl, _, Eq.trans (World.drewN_drewN _ _ _) (congrArg (World.drewN _) (Nat.add_assoc _ _ _))⟩))); try go_wp2_with (first | (go_at_call 127; (with_reducible refine (impl_signedOf.calls a1 a2 t450 _ A8.out).mono ?_); rintro e w' ⟨rfl, ⟨nd, rfl⟩⟩; (try first | exact ⟨rfl, _, World.drewN_drewN _ _ _⟩ | exact ⟨rfl, _, Eq.trans (World.drewN_drewN _ _ _) (congrArg (World.drewN _) (Nat.add_assoc _ _ _))⟩)) | (go_at_call 127; (with_reducible refine (impl_signedOf.calls a1 a3 t451 _ A9.out).mono ?_); rintro e w' ⟨rfl, ⟨nd, rfl⟩⟩; (try first | exact ⟨rfl, _, World.drewN_drewN _ _ _⟩ | exact ⟨rfl, _, Eq.trans (World.drewN_drewN _ _ _) (congrArg (World.drewN _) (Nat.add_assoc _ _ _))⟩)) | (go_at_call 129; (with_reducible refine (impl_pick.calls (decide (t450 ≤ t451)) a2 a3 t455 _ A24.out).mono ?_); rintro e w' ⟨rfl, ⟨nd, rfl⟩⟩; (try first | exact ⟨rfl, _, World.drewN_drewN _ _ _⟩ | exact ⟨rfl, _, Eq.trans (World.drewN_drewN _ _ _) (congrArg (World.drewN _) (Nat.add_assoc _ _ _))⟩))))
       go_ret
       exact ⟨by first | rfl | (simp; done) | (simp only [← hji6] <;> (first | rfl | simp)) | (simp [*]; done), by repeat (first | exact Drawn0.refl _ | apply Drawn0.step)⟩
      ·rw [if_neg c23] at H
       have c23b0 : (a0 == 8) = false := beq_eq_false_iff_ne.mpr c23
       have c23b1 : (a0 != 8) = true := bne_iff_ne.mpr c23
       by_cases c25 : a0 = 9
       ·rw [if_pos c25] at H
        have c25b0 : (a0 == 9) = true := beq_iff_eq.mpr c25
        have c25b1 : (a0 != 9) = false := bne_eq_false_iff_eq.mpr c25
        clear c25
        replace H := Option.bind_eq_some_iff.mp H
        obtain ⟨t456, A260, H⟩ := H
        try dsimp only at H
        have A26 := Aside0.mk A260
        clear A260
        obtain rfl := Option.some.inj H
        go_enter Try.func116, Try.ntmps116
        go_wp2_with (first | (go_at_call 127; (with_reducible refine (impl_signedOf.calls a1 a2 t450 _ A8.out).mono ?_); rintro e w' ⟨rfl, ⟨nd, rfl⟩⟩; (try first | exact ⟨rfl, _, World.drewN_drewN _ _ _⟩ | exact ⟨rfl, _, Eq.trans (World.drewN_drewN _ _ _) (congrArg (World.drewN _) (Nat.add_assoc _ _ _))⟩)) | (go_at_call 127; (with_reducible refine (impl_signedOf.calls a1 a3 t451 _ A9.out).mono ?_); rintro e w' ⟨rfl, ⟨nd, rfl⟩⟩; (try first | exact ⟨rfl, _, World.drewN_drewN _ _ _⟩ | exact ⟨rfl, _, Eq.trans (World.drewN_drewN _ _ _) (congrArg (World.drewN _) (Nat.add_assoc _ _ _))⟩)) | (go_at_call 129; (with_reducible refine (impl_pick.calls (decide (t450 ≥ t451)) a2 a3 t456 _ A26.out).mono ?_); rintro e w' ⟨rfl, ⟨nd, rfl⟩⟩; (try first | exact ⟨rfl, _, World.drewN_drewN _ _ _⟩ | exact ⟨rfl, _, Eq.trans (World.drewN_drewN _ _ _) (congrArg (World.drewN _) (Nat.add_assoc _ _ _))⟩)))
        repeat (go_quiet (first | (go_at_call 127; (with_reducible refine (impl_signedOf.calls a1 a2 t450 _ A8.out).mono ?_); rintro e w' ⟨rfl, ⟨nd, rfl⟩⟩; (try first | exact ⟨rfl, _, World.drewN_drewN _ _ _⟩ | exact ⟨rfl, _, Eq.trans (World.drewN_drewN _ _ _) (congrArg (World.drewN _) (Nat.add_assoc _ _ _))⟩)) | (go_at_call 127; (with_reducible refine (impl_signedOf.calls a1 a3 t451 _ A9.out).mono ?_); rintro e w' ⟨rfl, ⟨nd, rfl⟩⟩; (try first | exact ⟨rfl, _, World.drewN_drewN _ _ _⟩ | exact ⟨rfl, _, Eq.trans (World.drewN_drewN _ _ _) (congrArg (World.drewN _) (Nat.add_assoc _ _ _))⟩)) | (go_at_call 129; (with_reducible refine (impl_pick.calls (decide (t450 ≥ t451)) a2 a3 t456 _ A26.out).mono ?_); rintro e w' ⟨rfl, ⟨nd, rfl⟩⟩; (try first | exact ⟨rfl, _, World.drewN_drewN _ _ _⟩ | exact ⟨rfl, _, Eq.trans (World.drewN_drewN _ _ _) (congrArg (World.drewN _) (Nat.add_assoc _ _ _))⟩))); try go_wp2_with (first | (go_at_call 127; (with_reducible refine (impl_signedOf.calls a1 a2 t450 _ A8.out).mono ?_); rintro e w' ⟨rfl, ⟨nd, rfl⟩⟩; (try first | exact ⟨rfl, _, World.drewN_drewN _ _ _⟩ | exact ⟨rfl, _, Eq.trans (World.drewN_drewN _ _ _) (congrArg (World.drewN _) (Nat.add_assoc _ _ _))⟩)) | (go_at_call 127; (with_reducible refine (impl_signedOf.calls a1 a3 t451 _ A9.out).mono ?_); rintro e w' ⟨rfl, ⟨nd, rfl⟩⟩; (try first | exact ⟨rfl, _, World.drewN_drewN _ _ _⟩ | exact ⟨rfl, _, Eq.trans (World.drewN_drewN _ _ _) (congrArg (World.drewN _) (Nat.add_assoc _ _ _))⟩)) | (go_at_call 129; (with_reducible refine (impl_pick.calls (decide (t450 ≥ t451)) a2 a3 t456 _ A26.out).mono ?_); rintro e w' ⟨rfl, ⟨nd, rfl⟩⟩; (try first | exact ⟨rfl, _, World.drewN_drewN _ _ _⟩ | exact ⟨rfl, _, Eq.trans (World.drewN_drewN _ _ _) (congrArg (World.drewN _) (Nat.add_assoc _ _ _))⟩))))
        go_ret
        exact ⟨by first | rfl | (simp; done) | (simp only [← hji6] <;> (first | rfl | simp)) | (simp [*]; done), by repeat (first | exact Drawn0.refl _ | apply Drawn0.step)⟩
       ·rw [if_neg c25] at H
        have c25b0 : (a0 == 9) = false := beq_eq_false_iff_ne.mpr c25
        have c25b1 : (a0 != 9) = true := bne_iff_ne.mpr c25
        by_cases c27 : a0 = 10
        ·rw [if_pos c27] at H
         have c27b0 : (a0 == 10) = true := beq_iff_eq.mpr c27
         have c27b1 : (a0 != 10) = false := bne_eq_false_iff_eq.mpr c27
         clear c27
         replace H := Option.bind_eq_some_iff.mp H
         obtain ⟨t457, A280, H⟩ := H
         try dsimp only at H
         have A28 := Aside0.mk A280
         clear A280
         obtain rfl := Option.some.inj H
         go_enter Try.func116, Try.ntmps116
         go_wp2_with (first | (go_at_call 127; (with_reducible refine (impl_signedOf.calls a1 a2 t450 _ A8.out).mono ?_); rintro e w' ⟨rfl, ⟨nd, rfl⟩⟩; (try first | exact ⟨rfl, _, World.drewN_drewN _ _ _⟩ | exact ⟨rfl, _, Eq.trans (World.drewN_drewN _ _ _) (congrArg (World.drewN _) (Nat.add_assoc _ _ _))⟩)) | (go_at_call 127; (with_reducible refine (impl_signedOf.calls a1 a3 t451 _ A9.out).mono ?_); rintro e w' ⟨rfl, ⟨nd, rfl⟩⟩; (try first | exact ⟨rfl, _, World.drewN_drewN _ _ _⟩ | exact ⟨rfl, _, Eq.trans (World.drewN_drewN _ _ _) (congrArg (World.drewN _) (Nat.add_assoc _ _ _))⟩)) | (go_at_call 130; (with_reducible refine (impl_bounded.calls (wrap64 (a2 + a3)) 0 (wrap64 ((ji6) - 1)) t457 _ A28.out).mono ?_); rintro e w' ⟨rfl, ⟨nd, rfl⟩⟩; (try first | exact ⟨rfl, _, World.drewN_drewN _ _ _⟩ | exact ⟨rfl, _, Eq.trans (World.drewN_drewN _ _ _) (congrArg (World.drewN _) (Nat.add_assoc _ _ _))⟩)))
         repeat (go_quiet (first | (go_at_call 127; (with_reducible refine (impl_signedOf.calls a1 a2 t450 _ A8.out).mono ?_); rintro e w' ⟨rfl, ⟨nd, rfl⟩⟩; (try first | exact ⟨rfl, _, World.drewN_drewN _ _ _⟩ | exact ⟨rfl, _, Eq.trans (World.drewN_drewN _ _ _) (congrArg (World.drewN _) (Nat.add_assoc _ _ _))⟩)) | (go_at_call 127; (with_reducible refine (impl_signedOf.calls a1 a3 t451 _ A9.out).mono ?_); rintro e w' ⟨rfl, ⟨nd, rfl⟩⟩; (try first | exact ⟨rfl, _, World.drewN_drewN _ _ _⟩ | exact ⟨rfl, _, Eq.trans (World.drewN_drewN _ _ _) (congrArg (World.drewN _) (Nat.add_assoc _ _ _))⟩)) | (go_at_call 130; (with_reducible refine (impl_bounded.calls (wrap64 (a2 + a3)) 0 (wrap64 ((ji6) - 1)) t457 _ A28.out).mono ?_); rintro e w' ⟨rfl, ⟨nd, rfl⟩⟩; (try first | exact ⟨rfl, _, World.drewN_drewN _ _ _⟩ | exact ⟨rfl, _, Eq.trans (World.drewN_drewN _ _ _) (congrArg (World.drewN _) (Nat.add_assoc _ _ _))⟩))); try go_wp2_with (first | (go_at_call 127; (with_reducible refine (impl_signedOf.calls a1 a2 t450 _ A8.out).mono ?_); rintro e w' ⟨rfl, ⟨nd, rfl⟩⟩; (try first | exact ⟨rfl, _, World.drewN_drewN _ _ _⟩ | exact ⟨rfl, _, Eq.trans (World.drewN_drewN _ _ _) (congrArg (World.drewN _) (Nat.add_assoc _ _ _))⟩)) | (go_at_call 127; (with_reducible refine (impl_signedOf.calls a1 a3 t451 _ A9.out).mono ?_); rintro e w' ⟨rfl, ⟨nd, rfl⟩⟩; (try first | exact ⟨rfl, _, World.drewN_drewN _ _ _⟩ | exact ⟨rfl, _, Eq.trans (World.drewN_drewN _ _ _) (congrArg (World.drewN _) (Nat.add_assoc _ _ _))⟩)) | (go_at_call 130; (with_reducible refine (impl_bounded.calls (wrap64 (a2 + a3)) 0 (wrap64 ((ji6) - 1)) t457 _ A28.out).mono ?_); rintro e w' ⟨rfl, ⟨nd, rfl⟩⟩; (try first | exact ⟨rfl, _, World.drewN_drewN _ _ _⟩ | exact ⟨rfl, _, Eq.trans (World.drewN_drewN _ _ _) (congrArg (World.drewN _) (Nat.add_assoc _ _ _))⟩))))
         go_ret
         exact ⟨by first | rfl | (simp; done) | (simp only [← hji6] <;> (first | rfl | simp)) | (simp [*]; done), by repeat (first | exact Drawn0.refl _ | apply Drawn0.step)⟩
        ·rw [if_neg c27] at H
         have c27b0 : (a0 == 10) = false := beq_eq_false_iff_ne.mpr c27
         have c27b1 : (a0 != 10) = true := bne_iff_ne.mpr c27
         by_cases c29 : a0 = 11
         ·rw [if_pos c29] at H
          have c29b0 : (a0 == 11) = true := beq_iff_eq.mpr c29
          have c29b1 : (a0 != 11) = false := bne_eq_false_iff_eq.mpr c29
          clear c29
          replace H := Option.bind_eq_some_iff.mp H
          obtain ⟨t458, A300, H⟩ := H
          try dsimp only at H
          have A30 := Aside0.mk A300
          clear A300
          obtain rfl := Option.some.inj H
          go_enter Try.func116, Try.ntmps116
          go_wp2_with (first | (go_at_call 127; (with_reducible refine (impl_signedOf.calls a1 a2 t450 _ A8.out).mono ?_); rintro e w' ⟨rfl, ⟨nd, rfl⟩⟩; (try first | exact ⟨rfl, _, World.drewN_drewN _ _ _⟩ | exact ⟨rfl, _, Eq.trans (World.drewN_drewN _ _ _) (congrArg (World.drewN _) (Nat.add_assoc _ _ _))⟩)) | (go_at_call 127; (with_reducible refine (impl_signedOf.calls a1 a3 t451 _ A9.out).mono ?_); rintro e w' ⟨rfl, ⟨nd, rfl⟩⟩; (try first | exact ⟨rfl, _, World.drewN_drewN _ _ _⟩ | exact ⟨rfl, _, Eq.trans (World.drewN_drewN _ _ _) (congrArg (World.drewN _) (Nat.add_assoc _ _ _))⟩)) | (go_at_call 131; (with_reducible refine (impl_nearest.calls a1 (wrap64 (t450 + t451)) t458 _ A30.out).mono ?_); rintro e w' ⟨rfl, ⟨nd, rfl⟩⟩; (try first | exact ⟨rfl, _, World.drewN_drewN _ _ _⟩ | exact ⟨rfl, _, Eq.trans (World.drewN_drewN _ _ _) (congrArg (World.drewN _) (Nat.add_assoc _ _ _))⟩)))
          repeat (go_quiet (first | (go_at_call 127; (with_reducible refine (impl_signedOf.calls a1 a2 t450 _ A8.out).mono ?_); rintro e w' ⟨rfl, ⟨nd, rfl⟩⟩; (try first | exact ⟨rfl, _, World.drewN_drewN _ _ _⟩ | exact ⟨rfl, _, Eq.trans (World.drewN_drewN _ _ _) (congrArg (World.drewN _) (Nat.add_assoc _ _ _))⟩)) | (go_at_call 127; (with_reducible refine (impl_signedOf.calls a1 a3 t451 _ A9.out).mono ?_); rintro e w' ⟨rfl, ⟨nd, rfl⟩⟩; (try first | exact ⟨rfl, _, World.drewN_drewN _ _ _⟩ | exact ⟨rfl, _, Eq.trans (World.drewN_drewN _ _ _) (congrArg (World.drewN _) (Nat.add_assoc _ _ _))⟩)) | (go_at_call 131; (with_reducible refine (impl_nearest.calls a1 (wrap64 (t450 + t451)) t458 _ A30.out).mono ?_); rintro e w' ⟨rfl, ⟨nd, rfl⟩⟩; (try first | exact ⟨rfl, _, World.drewN_drewN _ _ _⟩ | exact ⟨rfl, _, Eq.trans (World.drewN_drewN _ _ _) (congrArg (World.drewN _) (Nat.add_assoc _ _ _))⟩))); try go_wp2_with (first | (go_at_call 127; (with_reducible refine (impl_signedOf.calls a1 a2 t450 _ A8.out).mono ?_); rintro e w' ⟨rfl, ⟨nd, rfl⟩⟩; (try first | exact ⟨rfl, _, World.drewN_drewN _ _ _⟩ | exact ⟨rfl, _, Eq.trans (World.drewN_drewN _ _ _) (congrArg (World.drewN _) (Nat.add_assoc _ _ _))⟩)) | (go_at_call 127; (with_reducible refine (impl_signedOf.calls a1 a3 t451 _ A9.out).mono ?_); rintro e w' ⟨rfl, ⟨nd, rfl⟩⟩; (try first | exact ⟨rfl, _, World.drewN_drewN _ _ _⟩ | exact ⟨rfl, _, Eq.trans (World.drewN_drewN _ _ _) (congrArg (World.drewN _) (Nat.add_assoc _ _ _))⟩)) | (go_at_call 131; (with_reducible refine (impl_nearest.calls a1 (wrap64 (t450 + t451)) t458 _ A30.out).mono ?_); rintro e w' ⟨rfl, ⟨nd, rfl⟩⟩; (try first | exact ⟨rfl, _, World.drewN_drewN _ _ _⟩ | exact ⟨rfl, _, Eq.trans (World.drewN_drewN _ _ _) (congrArg (World.drewN _) (Nat.add_assoc _ _ _))⟩))))
          go_ret
          exact ⟨by first | rfl | (simp; done) | (simp only [← hji6] <;> (first | rfl | simp)) | (simp [*]; done), by repeat (first | exact Drawn0.refl _ | apply Drawn0.step)⟩
         ·rw [if_neg c29] at H
          have c29b0 : (a0 == 11) = false := beq_eq_false_iff_ne.mpr c29
          have c29b1 : (a0 != 11) = true := bne_iff_ne.mpr c29
          by_cases c31 : a0 = 12
          ·rw [if_pos c31] at H
           have c31b0 : (a0 == 12) = true := beq_iff_eq.mpr c31
           have c31b1 : (a0 != 12) = false := bne_eq_false_iff_eq.mpr c31
           clear c31
           replace H := Option.bind_eq_some_iff.mp H
           obtain ⟨t459, A320, H⟩ := H
           try dsimp only at H
           have A32 := Aside0.mk A320
           clear A320
           obtain rfl := Option.some.inj H
           go_enter Try.func116, Try.ntmps116
           go_wp2_with (first | (go_at_call 127; (with_reducible refine (impl_signedOf.calls a1 a2 t450 _ A8.out).mono ?_); rintro e w' ⟨rfl, ⟨nd, rfl⟩⟩; (try first | exact ⟨rfl, _, World.drewN_drewN _ _ _⟩ | exact ⟨rfl, _, Eq.trans (World.drewN_drewN _ _ _) (congrArg (World.drewN _) (Nat.add_assoc _ _ _))⟩)) | (go_at_call 127; (with_reducible refine (impl_signedOf.calls a1 a3 t451 _ A9.out).mono ?_); rintro e w' ⟨rfl, ⟨nd, rfl⟩⟩; (try first | exact ⟨rfl, _, World.drewN_drewN _ _ _⟩ | exact ⟨rfl, _, Eq.trans (World.drewN_drewN _ _ _) (congrArg (World.drewN _) (Nat.add_assoc _ _ _))⟩)) | (go_at_call 130; (with_reducible refine (impl_bounded.calls (wrap64 (a2 - a3)) 0 (wrap64 ((ji6) - 1)) t459 _ A32.out).mono ?_); rintro e w' ⟨rfl, ⟨nd, rfl⟩⟩; (try first | exact ⟨rfl, _, World.drewN_drewN _ _ _⟩ | exact ⟨rfl, _, Eq.trans (World.drewN_drewN _ _ _) (congrArg (World.drewN _) (Nat.add_assoc _ _ _))⟩)))
           repeat (go_quiet (first | (go_at_call 127; (with_reducible refine (impl_signedOf.calls a1 a2 t450 _ A8.out).mono ?_); rintro e w' ⟨rfl, ⟨nd, rfl⟩⟩; (try first | exact ⟨rfl, _, World.drewN_drewN _ _ _⟩ | exact ⟨rfl, _, Eq.trans (World.drewN_drewN _ _ _) (congrArg (World.drewN _) (Nat.add_assoc _ _ _))⟩)) | (go_at_call 127; (with_reducible refine (impl_signedOf.calls a1 a3 t451 _ A9.out).mono ?_); rintro e w' ⟨rfl, ⟨nd, rfl⟩⟩; (try first | exact ⟨rfl, _, World.drewN_drewN _ _ _⟩ | exact ⟨rfl, _, Eq.trans (World.drewN_drewN _ _ _) (congrArg (World.drewN _) (Nat.add_assoc _ _ _))⟩)) | (go_at_call 130; (with_reducible refine (impl_bounded.calls (wrap64 (a2 - a3)) 0 (wrap64 ((ji6) - 1)) t459 _ A32.out).mono ?_); rintro e w' ⟨rfl, ⟨nd, rfl⟩⟩; (try first | exact ⟨rfl, _, World.drewN_drewN _ _ _⟩ | exact ⟨rfl, _, Eq.trans (World.drewN_drewN _ _ _) (congrArg (World.drewN _) (Nat.add_assoc _ _ _))⟩))); try go_wp2_with (first | (go_at_call 127; (with_reducible refine (impl_signedOf.calls a1 a2 t450 _ A8.out).mono ?_); rintro e w' ⟨rfl, ⟨nd, rfl⟩⟩; (try first | exact ⟨rfl, _, World.drewN_drewN _ _ _⟩ | exact ⟨rfl, _, Eq.trans (World.drewN_drewN _ _ _) (congrArg (World.drewN _) (Nat.add_assoc _ _ _))⟩)) | (go_at_call 127; (with_reducible refine (impl_signedOf.calls a1 a3 t451 _ A9.out).mono ?_); rintro e w' ⟨rfl, ⟨nd, rfl⟩⟩; (try first | exact ⟨rfl, _, World.drewN_drewN _ _ _⟩ | exact ⟨rfl, _, Eq.trans (World.drewN_drewN _ _ _) (congrArg (World.drewN _) (Nat.add_assoc _ _ _))⟩)) | (go_at_call 130; (with_reducible refine (impl_bounded.calls (wrap64 (a2 - a3)) 0 (wrap64 ((ji6) - 1)) t459 _ A32.out).mono ?_); rintro e w' ⟨rfl, ⟨nd, rfl⟩⟩; (try first | exact ⟨rfl, _, World.drewN_drewN _ _ _⟩ | exact ⟨rfl, _, Eq.trans (World.drewN_drewN _ _ _) (congrArg (World.drewN _) (Nat.add_assoc _ _ _))⟩))))
           go_ret
           exact ⟨by first | rfl | (simp; done) | (simp only [← hji6] <;> (first | rfl | simp)) | (simp [*]; done), by repeat (first | exact Drawn0.refl _ | apply Drawn0.step)⟩
          ·rw [if_neg c31] at H
           have c31b0 : (a0 == 12) = false := beq_eq_false_iff_ne.mpr c31
           have c31b1 : (a0 != 12) = true := bne_iff_ne.mpr c31
           by_cases c33 : a0 = 13
           ·rw [if_pos c33] at H
            have c33b0 : (a0 == 13) = true := beq_iff_eq.mpr c33
            have c33b1 : (a0 != 13) = false := bne_eq_false_iff_eq.mpr c33
            clear c33
            replace H := Option.bind_eq_some_iff.mp H
            obtain ⟨t460, A340, H⟩ := H
            try dsimp only at H
            have A34 := Aside0.mk A340
            clear A340
            obtain rfl := Option.some.inj H
            go_enter Try.func116, Try.ntmps116
            go_wp2_with (first | (go_at_call 127; (with_reducible refine (impl_signedOf.calls a1 a2 t450 _ A8.out).mono ?_); rintro e w' ⟨rfl, ⟨nd, rfl⟩⟩; (try first | exact ⟨rfl, _, World.drewN_drewN _ _ _⟩ | exact ⟨rfl, _, Eq.trans (World.drewN_drewN _ _ _) (congrArg (World.drewN _) (Nat.add_assoc _ _ _))⟩)) | (go_at_call 127; (with_reducible refine (impl_signedOf.calls a1 a3 t451 _ A9.out).mono ?_); rintro e w' ⟨rfl, ⟨nd, rfl⟩⟩; (try first | exact ⟨rfl, _, World.drewN_drewN _ _ _⟩ | exact ⟨rfl, _, Eq.trans (World.drewN_drewN _ _ _) (congrArg (World.drewN _) (Nat.add_assoc _ _ _))⟩)) | (go_at_call 131; (with_reducible refine (impl_nearest.calls a1 (wrap64 (t450 - t451)) t460 _ A34.out).mono ?_); rintro e w' ⟨rfl, ⟨nd, rfl⟩⟩; (try first | exact ⟨rfl, _, World.drewN_drewN _ _ _⟩ | exact ⟨rfl, _, Eq.trans (World.drewN_drewN _ _ _) (congrArg (World.drewN _) (Nat.add_assoc _ _ _))⟩)))
            repeat (go_quiet (first | (go_at_call 127; (with_reducible refine (impl_signedOf.calls a1 a2 t450 _ A8.out).mono ?_); rintro e w' ⟨rfl, ⟨nd, rfl⟩⟩; (try first | exact ⟨rfl, _, World.drewN_drewN _ _ _⟩ | exact ⟨rfl, _, Eq.trans (World.drewN_drewN _ _ _) (congrArg (World.drewN _) (Nat.add_assoc _ _ _))⟩)) | (go_at_call 127; (with_reducible refine (impl_signedOf.calls a1 a3 t451 _ A9.out).mono ?_); rintro e w' ⟨rfl, ⟨nd, rfl⟩⟩; (try first | exact ⟨rfl, _, World.drewN_drewN _ _ _⟩ | exact ⟨rfl, _, Eq.trans (World.drewN_drewN _ _ _) (congrArg (World.drewN _) (Nat.add_assoc _ _ _))⟩)) | (go_at_call 131; (with_reducible refine (impl_nearest.calls a1 (wrap64 (t450 - t451)) t460 _ A34.out).mono ?_); rintro e w' ⟨rfl, ⟨nd, rfl⟩⟩; (try first | exact ⟨rfl, _, World.drewN_drewN _ _ _⟩ | exact ⟨rfl, _, Eq.trans (World.drewN_drewN _ _ _) (congrArg (World.drewN _) (Nat.add_assoc _ _ _))⟩))); try go_wp2_with (first | (go_at_call 127; (with_reducible refine (impl_signedOf.calls a1 a2 t450 _ A8.out).mono ?_); rintro e w' ⟨rfl, ⟨nd, rfl⟩⟩; (try first | exact ⟨rfl, _, World.drewN_drewN _ _ _⟩ | exact ⟨rfl, _, Eq.trans (World.drewN_drewN _ _ _) (congrArg (World.drewN _) (Nat.add_assoc _ _ _))⟩)) | (go_at_call 127; (with_reducible refine (impl_signedOf.calls a1 a3 t451 _ A9.out).mono ?_); rintro e w' ⟨rfl, ⟨nd, rfl⟩⟩; (try first | exact ⟨rfl, _, World.drewN_drewN _ _ _⟩ | exact ⟨rfl, _, Eq.trans (World.drewN_drewN _ _ _) (congrArg (World.drewN _) (Nat.add_assoc _ _ _))⟩)) | (go_at_call 131; (with_reducible refine (impl_nearest.calls a1 (wrap64 (t450 - t451)) t460 _ A34.out).mono ?_); rintro e w' ⟨rfl, ⟨nd, rfl⟩⟩; (try first | exact ⟨rfl, _, World.drewN_drewN _ _ _⟩ | exact ⟨rfl, _, Eq.trans (World.drewN_drewN _ _ _) (congrArg (World.drewN _) (Nat.add_assoc _ _ _))⟩))))
            go_ret
            exact ⟨by first | rfl | (simp; done) | (simp only [← hji6] <;> (first | rfl | simp)) | (simp [*]; done), by repeat (first | exact Drawn0.refl _ | apply Drawn0.step)⟩
           ·rw [if_neg c33] at H
            have c33b0 : (a0 == 13) = false := beq_eq_false_iff_ne.mpr c33
            have c33b1 : (a0 != 13) = true := bne_iff_ne.mpr c33
            by_cases c35 : a0 = 14
            ·rw [if_pos c35] at H
             have c35b0 : (a0 == 14) = true := beq_iff_eq.mpr c35
             have c35b1 : (a0 != 14) = false := bne_eq_false_iff_eq.mpr c35
             clear c35
             obtain rfl := Option.some.inj H
             go_enter Try.func116, Try.ntmps116
             go_wp2_with (first | (go_at_call 127; (with_reducible refine (impl_signedOf.calls a1 a2 t450 _ A8.out).mono ?_); rintro e w' ⟨rfl, ⟨nd, rfl⟩⟩; (try first | exact ⟨rfl, _, World.drewN_drewN _ _ _⟩ | exact ⟨rfl, _, Eq.trans (World.drewN_drewN _ _ _) (congrArg (World.drewN _) (Nat.add_assoc _ _ _))⟩)) | (go_at_call 127; (with_reducible refine (impl_signedOf.calls a1 a3 t451 _ A9.out).mono ?_); rintro e w' ⟨rfl, ⟨nd, rfl⟩⟩; (try first | exact ⟨rfl, _, World.drewN_drewN _ _ _⟩ | exact ⟨rfl, _, Eq.trans (World.drewN_drewN _ _ _) (congrArg (World.drewN _) (Nat.add_assoc _ _ _))⟩)))
             repeat (go_quiet (first | (go_at_call 127; (with_reducible refine (impl_signedOf.calls a1 a2 t450 _ A8.out).mono ?_); rintro e w' ⟨rfl, ⟨nd, rfl⟩⟩; (try first | exact ⟨rfl, _, World.drewN_drewN _ _ _⟩ | exact ⟨rfl, _, Eq.trans (World.drewN_drewN _ _ _) (congrArg (World.drewN _) (Nat.add_assoc _ _ _))⟩)) | (go_at_call 127; (with_reducible refine (impl_signedOf.calls a1 a3 t451 _ A9.out).mono ?_); rintro e w' ⟨rfl, ⟨nd, rfl⟩⟩; (try first | exact ⟨rfl, _, World.drewN_drewN _ _ _⟩ | exact ⟨rfl, _, Eq.trans (World.drewN_drewN _ _ _) (congrArg (World.drewN _) (Nat.add_assoc _ _ _))⟩))); try go_wp2_with (first | (go_at_call 127; (with_reducible refine (impl_signedOf.calls a1 a2 t450 _ A8.out).mono ?_); rintro e w' ⟨rfl, ⟨nd, rfl⟩⟩; (try first | exact ⟨rfl, _, World.drewN_drewN _ _ _⟩ | exact ⟨rfl, _, Eq.trans (World.drewN_drewN _ _ _) (congrArg (World.drewN _) (Nat.add_assoc _ _ _))⟩)) | (go_at_call 127; (with_reducible refine (impl_signedOf.calls a1 a3 t451 _ A9.out).mono ?_); rintro e w' ⟨rfl, ⟨nd, rfl⟩⟩; (try first | exact ⟨rfl, _, World.drewN_drewN _ _ _⟩ | exact ⟨rfl, _, Eq.trans (World.drewN_drewN _ _ _) (congrArg (World.drewN _) (Nat.add_assoc _ _ _))⟩))))
             go_ret
             exact ⟨by first | rfl | (simp; done) | (simp only [← hji6] <;> (first | rfl | simp)) | (simp [*]; done), by repeat (first | exact Drawn0.refl _ | apply Drawn0.step)⟩
            rw [if_neg c35] at H
            have c35b0 : (a0 == 14) = false := beq_eq_false_iff_ne.mpr c35
            have c35b1 : (a0 != 14) = true := bne_iff_ne.mpr c35
            by_cases c36 : a0 = 15
            ·rw [if_pos c36] at H
             have c36b0 : (a0 == 15) = true := beq_iff_eq.mpr c36
             have c36b1 : (a0 != 15) = false := bne_eq_false_iff_eq.mpr c36
             clear c36
             obtain ⟨ji37, hji37⟩ : ∃ j_ : Int, (Int.tmod a3 a1) = j_ := ⟨_, rfl⟩
             replace H : (if 0 ≤ (ji37) then ((impl_wrapped.f a1 (shl .i64 a2 (ji37))).bind fun t461 => (some t461)) else (none)) = some r := by first | (rw [hji37] at H; exact H) | (simp only [hji37] at H ⊢; exact H)
             (try rw [hji37] at A8)
             (try rw [hji37] at A9)
             by_cases c38 : 0 ≤ (ji37)
             rotate_left
             ·rw [if_neg c38] at H
              exact absurd H (by simp)
             rw [if_pos c38] at H
             have c38b0 := eq_true c38
             have c38b1 : decide (0 ≤ (ji37)) = true := decide_eq_true c38
             clear c38
             obtain ⟨ji39, hji39⟩ : ∃ j_ : Int, (shl .i64 a2 (ji37)) = j_ := ⟨_, rfl⟩
             replace H : ((impl_wrapped.f a1 (ji39)).bind fun t461 => (some t461)) = some r := by first | (rw [hji39] at H; exact H) | (simp only [hji39] at H ⊢; exact H)
             (try rw [hji39] at A8)
             (try rw [hji39] at A9)
             have hji39_ : (IntKind.i64.wrap (a2 * 2 ^ min (ji37).toNat 64)) = ji39 := hji39
             have hji39z : (ji37) ≤ 64 → (IntKind.i64.wrap (a2 * 2 ^ (ji37).toNat)) = ji39 := shl_small hji39
             have hji39y : (wrap64 (a2 * 2 ^ min (ji37).toNat 64)) = ji39 := (i64_w _).symm.trans hji39_
             have hji39x : (ji37) ≤ 64 → (wrap64 (a2 * 2 ^ (ji37).toNat)) = ji39 := fun h_ => (i64_w _).symm.trans (hji39z h_)
             replace H := Option.bind_eq_some_iff.mp H
             obtain ⟨t461, A400, H⟩ := H
             try dsimp only at H
             have A40 := Aside0.mk A400
             clear A400
             obtain rfl := Option.some.inj H
             go_enter Try.func116, Try.ntmps116
             go_wp2_with (first | (go_at_call 127; (with_reducible refine (impl_signedOf.calls a1 a2 t450 _ A8.out).mono ?_); rintro e w' ⟨rfl, ⟨nd, rfl⟩⟩; (try first | exact ⟨rfl, _, World.drewN_drewN _ _ _⟩ | exact ⟨rfl, _, Eq.trans (World.drewN_drewN _ _ _) (congrArg (World.drewN _) (Nat.add_assoc _ _ _))⟩)) | (go_at_call 127; (with_reducible refine (impl_signedOf.calls a1 a3 t451 _ A9.out).mono ?_); rintro e w' ⟨rfl, ⟨nd, rfl⟩⟩; (try first | exact ⟨rfl, _, World.drewN_drewN _ _ _⟩ | exact ⟨rfl, _, Eq.trans (World.drewN_drewN _ _ _) (congrArg (World.drewN _) (Nat.add_assoc _ _ _))⟩)) | (go_at_call 128; (with_reducible refine (impl_wrapped.calls a1 ji39 t461 _ A40.out).mono ?_); rintro e w' ⟨rfl, ⟨nd, rfl⟩⟩; (try first | exact ⟨rfl, _, World.drewN_drewN _ _ _⟩ | exact ⟨rfl, _, Eq.trans (World.drewN_drewN _ _ _) (congrArg (World.drewN _) (Nat.add_assoc _ _ _))⟩)))
             repeat (go_quiet (first | (go_at_call 127; (with_reducible refine (impl_signedOf.calls a1 a2 t450 _ A8.out).mono ?_); rintro e w' ⟨rfl, ⟨nd, rfl⟩⟩; (try first | exact ⟨rfl, _, World.drewN_drewN _ _ _⟩ | exact ⟨rfl, _, Eq.trans (World.drewN_drewN _ _ _) (congrArg (World.drewN _) (Nat.add_assoc _ _ _))⟩)) | (go_at_call 127; (with_reducible refine (impl_signedOf.calls a1 a3 t451 _ A9.out).mono ?_); rintro e w' ⟨rfl, ⟨nd, rfl⟩⟩; (try first | exact ⟨rfl, _, World.drewN_drewN _ _ _⟩ | exact ⟨rfl, _, Eq.trans (World.drewN_drewN _ _ _) (congrArg (World.drewN _) (Nat.add_assoc _ _ _))⟩)) | (go_at_call 128; (with_reducible refine (impl_wrapped.calls a1 ji39 t461 _ A40.out).mono ?_); rintro e w' ⟨rfl, ⟨nd, rfl⟩⟩; (try first | exact ⟨rfl, _, World.drewN_drewN _ _ _⟩ | exact ⟨rfl, _, Eq.trans (World.drewN_drewN _ _ _) (congrArg (World.drewN _) (Nat.add_assoc _ _ _))⟩))); try go_wp2_with (first | (go_at_call 127; (with_reducible refine (impl_signedOf.calls a1 a2 t450 _ A8.out).mono ?_); rintro e w' ⟨rfl, ⟨nd, rfl⟩⟩; (try first | exact ⟨rfl, _, World.drewN_drewN _ _ _⟩ | exact ⟨rfl, _, Eq.trans (World.drewN_drewN _ _ _) (congrArg (World.drewN _) (Nat.add_assoc _ _ _))⟩)) | (go_at_call 127; (with_reducible refine (impl_signedOf.calls a1 a3 t451 _ A9.out).mono ?_); rintro e w' ⟨rfl, ⟨nd, rfl⟩⟩; (try first | exact ⟨rfl, _, World.drewN_drewN _ _ _⟩ | exact ⟨rfl, _, Eq.trans (World.drewN_drewN _ _ _) (congrArg (World.drewN _) (Nat.add_assoc _ _ _))⟩)) | (go_at_call 128; (with_reducible refine (impl_wrapped.calls a1 ji39 t461 _ A40.out).mono ?_); rintro e w' ⟨rfl, ⟨nd, rfl⟩⟩; (try first | exact ⟨rfl, _, World.drewN_drewN _ _ _⟩ | exact ⟨rfl, _, Eq.trans (World.drewN_drewN _ _ _) (congrArg (World.drewN _) (Nat.add_assoc _ _ _))⟩))))
             go_ret
             exact ⟨by first | rfl | (simp; done) | (simp only [← hji6, ← hji37, ← hji39] <;> (first | rfl | simp)) | (simp [*]; done), by repeat (first | exact Drawn0.refl _ | apply Drawn0.step)⟩
            ·rw [if_neg c36] at H
             have c36b0 : (a0 == 15) = false := beq_eq_false_iff_ne.mpr c36
             have c36b1 : (a0 != 15) = true := bne_iff_ne.mpr c36
             by_cases c41 : a0 = 16
             ·rw [if_pos c41] at H
              have c41b0 : (a0 == 16) = true := beq_iff_eq.mpr c41
              have c41b1 : (a0 != 16) = false := bne_eq_false_iff_eq.mpr c41
              clear c41
              obtain ⟨ji42, hji42⟩ : ∃ j_ : Int, (Int.tmod a3 a1) = j_ := ⟨_, rfl⟩
              replace H : (if 0 ≤ (ji42) then (some (shr .i64 a2 (ji42))) else (none)) = some r := by first | (rw [hji42] at H; exact H) | (simp only [hji42] at H ⊢; exact H)
              (try rw [hji42] at A8)
              (try rw [hji42] at A9)
              by_cases c43 : 0 ≤ (ji42)
              rotate_left
              ·rw [if_neg c43] at H
               exact absurd H (by simp)
              rw [if_pos c43] at H
              have c43b0 := eq_true c43
              have c43b1 : decide (0 ≤ (ji42)) = true := decide_eq_true c43
              clear c43
              obtain ⟨ji44, hji44⟩ : ∃ j_ : Int, (shr .i64 a2 (ji42)) = j_ := ⟨_, rfl⟩
              replace H : (some ji44) = some r := by first | (rw [hji44] at H; exact H) | (simp only [hji44] at H ⊢; exact H)
              (try rw [hji44] at A8)
              (try rw [hji44] at A9)
              have hji44_ : (a2 / 2 ^ min (ji42).toNat 64) = ji44 := hji44
              have hji44z : (ji42) ≤ 64 → (a2 / 2 ^ (ji42).toNat) = ji44 := shr_small hji44
              obtain rfl := Option.some.inj H
              go_enter Try.func116, Try.ntmps116
              go_wp2_with (first | (go_at_call 127; (with_reducible refine (impl_signedOf.calls a1 a2 t450 _ A8.out).mono ?_); rintro e w' ⟨rfl, ⟨nd, rfl⟩⟩; (try first | exact ⟨rfl, _, World.drewN_drewN _ _ _⟩ | exact ⟨rfl, _, Eq.trans (World.drewN_drewN _ _ _) (congrArg (World.drewN _) (Nat.add_assoc _ _ _))⟩)) | (go_at_call 127; (with_reducible refine (impl_signedOf.calls a1 a3 t451 _ A9.out).mono ?_); rintro e w' ⟨rfl, ⟨nd, rfl⟩⟩; (try first | exact ⟨rfl, _, World.drewN_drewN _ _ _⟩ | exact ⟨rfl, _, Eq.trans (World.drewN_drewN _ _ _) (congrArg (World.drewN _) (Nat.add_assoc _ _ _))⟩)))
              repeat (go_quiet (first | (go_at_call 127; (with_reducible refine (impl_signedOf.calls a1 a2 t450 _ A8.out).mono ?_); rintro e w' ⟨rfl, ⟨nd, rfl⟩⟩; (try first | exact ⟨rfl, _, World.drewN_drewN _ _ _⟩ | exact ⟨rfl, _, Eq.trans (World.drewN_drewN _ _ _) (congrArg (World.drewN _) (Nat.add_assoc _ _ _))⟩)) | (go_at_call 127; (with_reducible refine (impl_signedOf.calls a1 a3 t451 _ A9.out).mono ?_); rintro e w' ⟨rfl, ⟨nd, rfl⟩⟩; (try first | exact ⟨rfl, _, World.drewN_drewN _ _ _⟩ | exact ⟨rfl, _, Eq.trans (World.drewN_drewN _ _ _) (congrArg (World.drewN _) (Nat.add_assoc _ _ _))⟩))); try go_wp2_with (first | (go_at_call 127; (with_reducible refine (impl_signedOf.calls a1 a2 t450 _ A8.out).mono ?_); rintro e w' ⟨rfl, ⟨nd, rfl⟩⟩; (try first | exact ⟨rfl, _, World.drewN_drewN _ _ _⟩ | exact ⟨rfl, _, Eq.trans (World.drewN_drewN _ _ _) (congrArg (World.drewN _) (Nat.add_assoc _ _ _))⟩)) | (go_at_call 127; (with_reducible refine (impl_signedOf.calls a1 a3 t451 _ A9.out).mono ?_); rintro e w' ⟨rfl, ⟨nd, rfl⟩⟩; (try first | exact ⟨rfl, _, World.drewN_drewN _ _ _⟩ | exact ⟨rfl, _, Eq.trans (World.drewN_drewN _ _ _) (congrArg (World.drewN _) (Nat.add_assoc _ _ _))⟩))))
              go_ret
              exact ⟨by first | rfl | (simp; done) | (simp only [← hji6, ← hji42, ← hji44] <;> (first | rfl | simp)) | (simp [*]; done), by repeat (first | exact Drawn0.refl _ | apply Drawn0.step)⟩
             ·rw [if_neg c41] at H
              have c41b0 : (a0 == 16) = false := beq_eq_false_iff_ne.mpr c41
              have c41b1 : (a0 != 16) = true := bne_iff_ne.mpr c41
              obtain ⟨ji45, hji45⟩ : ∃ j_ : Int, (Int.tmod a3 a1) = j_ := ⟨_, rfl⟩
              replace H : (if 0 ≤ (ji45) then ((impl_wrapped.f a1 (shr .i64 t450 (ji45))).bind fun t462 => (some t462)) else (none)) = some r := by first | (rw [hji45] at H; exact H) | (simp only [hji45] at H ⊢; exact H)
              (try rw [hji45] at A8)
              (try rw [hji45] at A9)
              by_cases c46 : 0 ≤ (ji45)
              rotate_left
              ·rw [if_neg c46] at H
               exact absurd H (by simp)
              rw [if_pos c46] at H
              have c46b0 := eq_true c46
              have c46b1 : decide (0 ≤ (ji45)) = true := decide_eq_true c46
              clear c46
              obtain ⟨ji47, hji47⟩ : ∃ j_ : Int, (shr .i64 t450 (ji45)) = j_ := ⟨_, rfl⟩
              replace H : ((impl_wrapped.f a1 (ji47)).bind fun t462 => (some t462)) = some r := by first | (rw [hji47] at H; exact H) | (simp only [hji47] at H ⊢; exact H)
              (try rw [hji47] at A8)
              (try rw [hji47] at A9)
              have hji47_ : (t450 / 2 ^ min (ji45).toNat 64) = ji47 := hji47
              have hji47z : (ji45) ≤ 64 → (t450 / 2 ^ (ji45).toNat) = ji47 := shr_small hji47
              replace H := Option.bind_eq_some_iff.mp H
              obtain ⟨t462, A480, H⟩ := H
              try dsimp only at H
              have A48 := Aside0.mk A480
              clear A480
              obtain rfl := Option.some.inj H
              go_enter Try.func116, Try.ntmps116
              go_wp2_with (first | (go_at_call 127; (with_reducible refine (impl_signedOf.calls a1 a2 t450 _ A8.out).mono ?_); rintro e w' ⟨rfl, ⟨nd, rfl⟩⟩; (try first | exact ⟨rfl, _, World.drewN_drewN _ _ _⟩ | exact ⟨rfl, _, Eq.trans (World.drewN_drewN _ _ _) (congrArg (World.drewN _) (Nat.add_assoc _ _ _))⟩)) | (go_at_call 127; (with_reducible refine (impl_signedOf.calls a1 a3 t451 _ A9.out).mono ?_); rintro e w' ⟨rfl, ⟨nd, rfl⟩⟩; (try first | exact ⟨rfl, _, World.drewN_drewN _ _ _⟩ | exact ⟨rfl, _, Eq.trans (World.drewN_drewN _ _ _) (congrArg (World.drewN _) (Nat.add_assoc _ _ _))⟩)) | (go_at_call 128; (with_reducible refine (impl_wrapped.calls a1 ji47 t462 _ A48.out).mono ?_); rintro e w' ⟨rfl, ⟨nd, rfl⟩⟩; (try first | exact ⟨rfl, _, World.drewN_drewN _ _ _⟩ | exact ⟨rfl, _, Eq.trans (World.drewN_drewN _ _ _) (congrArg (World.drewN _) (Nat.add_assoc _ _ _))⟩)))
              repeat (go_quiet (first | (go_at_call 127; (with_reducible refine (impl_signedOf.calls a1 a2 t450 _ A8.out).mono ?_); rintro e w' ⟨rfl, ⟨nd, rfl⟩⟩; (try first | exact ⟨rfl, _, World.drewN_drewN _ _ _⟩ | exact ⟨rfl, _, Eq.trans (World.drewN_drewN _ _ _) (congrArg (World.drewN _) (Nat.add_assoc _ _ _))⟩)) | (go_at_call 127; (with_reducible refine (impl_signedOf.calls a1 a3 t451 _ A9.out).mono ?_); rintro e w' ⟨rfl, ⟨nd, rfl⟩⟩; (try first | exact ⟨rfl, _, World.drewN_drewN _ _ _⟩ | exact ⟨rfl, _, Eq.trans (World.drewN_drewN _ _ _) (congrArg (World.drewN _) (Nat.add_assoc _ _ _))⟩)) | (go_at_call 128; (with_reducible refine (impl_wrapped.calls a1 ji47 t462 _ A48.out).mono ?_); rintro e w' ⟨rfl, ⟨nd, rfl⟩⟩; (try first | exact ⟨rfl, _, World.drewN_drewN _ _ _⟩ | exact ⟨rfl, _, Eq.trans (World.drewN_drewN _ _ _) (congrArg (World.drewN _) (Nat.add_assoc _ _ _))⟩))); try go_wp2_with (first | (go_at_call 127; (with_reducible refine (impl_signedOf.calls a1 a2 t450 _ A8.out).mono ?_); rintro e w' ⟨rfl, ⟨nd, rfl⟩⟩; (try first | exact ⟨rfl, _, World.drewN_drewN _ _ _⟩ | exact ⟨rfl, _, Eq.trans (World.drewN_drewN _ _ _) (congrArg (World.drewN _) (Nat.add_assoc _ _ _))⟩)) | (go_at_call 127; (with_reducible refine (impl_signedOf.calls a1 a3 t451 _ A9.out).mono ?_); rintro e w' ⟨rfl, ⟨nd, rfl⟩⟩; (try first | exact ⟨rfl, _, World.drewN_drewN _ _ _⟩ | exact ⟨rfl, _, Eq.trans (World.drewN_drewN _ _ _) (congrArg (World.drewN _) (Nat.add_assoc _ _ _))⟩)) | (go_at_call 128; (with_reducible refine (impl_wrapped.calls a1 ji47 t462 _ A48.out).mono ?_); rintro e w' ⟨rfl, ⟨nd, rfl⟩⟩; (try first | exact ⟨rfl, _, World.drewN_drewN _ _ _⟩ | exact ⟨rfl, _, Eq.trans (World.drewN_drewN _ _ _) (congrArg (World.drewN _) (Nat.add_assoc _ _ _))⟩))))
              go_ret
              exact ⟨by first | rfl | (simp; done) | (simp only [← hji6, ← hji45, ← hji47] <;> (first | rfl | simp)) | (simp [*]; done), by repeat (first | exact Drawn0.refl _ | apply Drawn0.step)⟩
theorem iResult {op b x y : Int} (hop : 0 ≤ op ∧ op ≤ 17) (hx : Word b x) (hy : Word b y) : impl_result.f op b x y = some (res op b x y) := by
 have hb := hx.1
 have hM := @M_pos b
 have hL := @M_le b
 have hbb := b_bounds hb
 have hx2 := hx.2
 have hy2 := hy.2
 have hk0 : 0 ≤ y % b := Int.emod_nonneg _ (by omega)
 have h2 : 2 ≤ M b := by rcases hb with rfl | rfl | rfl <;> decide
 have s1 := sg_le hx
 have s2 := sg_le hy
 have exy : -9223372036854775808 ≤ x * y ∧ x * y < 9223372036854775808 := by
  have h1 : x * y ≤ 65536 * 65536 := Int.mul_le_mul (by omega) (by omega) (by omega) (by omega)
  have h2 : 0 ≤ x * y := Int.mul_nonneg (by omega) (by omega)
  omega
 unfold impl_result.f res
 rw [if_pos (by omega), if_neg (by omega), iSg hx, iSg hy]
 simp only [Option.bind_some]
 by_cases c0 : op = 0
 ·rw [if_pos c0, if_pos c0, w_small (by omega), iWrap hb]; rfl
 rw [if_neg c0, if_neg c0]
 by_cases c1 : op = 1
 ·rw [if_pos c1, if_pos c1, w_small (by omega), iWrap hb]; rfl
 rw [if_neg c1, if_neg c1]
 by_cases c2 : op = 2
 ·rw [if_pos c2, if_pos c2, w_small exy, iWrap hb]; rfl
 rw [if_neg c2, if_neg c2]
 by_cases c3 : op = 3
 ·rw [if_pos c3, if_pos c3]
 rw [if_neg c3, if_neg c3]
 by_cases c4 : op = 4
 ·rw [if_pos c4, if_pos c4]
 rw [if_neg c4, if_neg c4]
 by_cases c5 : op = 5
 ·rw [if_pos c5, if_pos c5]
 rw [if_neg c5, if_neg c5]
 by_cases c6 : op = 6
 ·rw [if_pos c6, if_pos c6]; unfold mn; congr 1; repeat' split
  all_goals omega
 rw [if_neg c6, if_neg c6]
 by_cases c7 : op = 7
 ·rw [if_pos c7, if_pos c7]; unfold mx; congr 1; repeat' split
  all_goals omega
 rw [if_neg c7, if_neg c7]
 by_cases c8 : op = 8
 ·rw [if_pos c8, if_pos c8]; unfold impl_pick.f
  by_cases c : sg b x ≤ sg b y <;> simp [c]
 rw [if_neg c8, if_neg c8]
 by_cases c9 : op = 9
 ·rw [if_pos c9, if_pos c9]; unfold impl_pick.f
  by_cases c : sg b x ≥ sg b y <;> simp [c]
 rw [if_neg c9, if_neg c9]
 by_cases c10 : op = 10
 ·rw [if_pos c10, if_pos c10, shlB hb, w_small (by omega), w_small (by omega), iBounded _ _ _ (by omega)]; rfl
 rw [if_neg c10, if_neg c10]
 by_cases c11 : op = 11
 ·rw [if_pos c11, if_pos c11, w_small (by omega), iNearest hb]; rfl
 rw [if_neg c11, if_neg c11]
 by_cases c12 : op = 12
 ·rw [if_pos c12, if_pos c12, shlB hb, w_small (by omega), w_small (by omega), iBounded _ _ _ (by omega)]; rfl
 rw [if_neg c12, if_neg c12]
 by_cases c13 : op = 13
 ·rw [if_pos c13, if_pos c13, w_small (by omega), iNearest hb]; rfl
 rw [if_neg c13, if_neg c13]
 by_cases c14 : op = 14
 ·rw [if_pos c14, if_pos c14, w_small (n := x + y) (by omega), w_small (n := x + y + 1) (by omega), tdiv2 (by omega), w_small (by omega)]
 rw [if_neg c14, if_neg c14]
 rw [tmod_b hy2.1]
 by_cases c15 : op = 15
 ·rw [if_pos c15, if_pos c15, if_pos hk0, iWrap hb]; rfl
 rw [if_neg c15, if_neg c15]
 by_cases c16 : op = 16
 ·rw [if_pos c16, if_pos c16, if_pos hk0]
 rw [if_neg c16, if_neg c16, if_pos hk0, iWrap hb]; rfl

/-! ### impl_run: function 91 -/
def impl_run.l0 : Nat → Int → List Int → List (S58) → Int → Int → Option (List Int)
 | 0, _, _, _, _, _ => none
 | k + 1, x0, x7, x12, x13, x14 => if x14 < x13 then (if 0 ≤ x14 then (if x14 < (x12.length : Int) then (if 0 ≤ ((rd_T58 x12 x14).f2) then (if ((rd_T58 x12 x14).f2) < (x7.length : Int) then (if 0 ≤ ((rd_T58 x12 x14).f3) then (if ((rd_T58 x12 x14).f3) < (x7.length : Int) then ((impl_result.f ((rd_T58 x12 x14).f0) x0 (rd x7 ((rd_T58 x12 x14).f2)) (rd x7 ((rd_T58 x12 x14).f3))).bind fun t470 => (if 0 ≤ ((rd_T58 x12 x14).f1) then (if ((rd_T58 x12 x14).f1) < (x7.length : Int) then (impl_run.l0 k x0 (x7.set (((rd_T58 x12 x14).f1) : Int).toNat t470) x12 x13 (wrap64 (x14 + 1))) else (none)) else (none))) else (none)) else (none)) else (none)) else (none)) else (none)) else (none)) else (some x7)
def impl_run.f (k : Nat) (a0 : Int) (l1 : List (S58)) (l2 : List Int) : Option (List Int) := (slices_Clone_int64_int64.f l2).bind fun t463 => (impl_run.l0 k a0 t463 l1 (l1.length : Int) 0)
theorem impl_run.mono_l : ∀ k, (∀ y0 y1 y2 y3 y4, LeO (impl_run.l0 k y0 y1 y2 y3 y4) (impl_run.l0 (k + 1) y0 y1 y2 y3 y4))
 | 0 => fun _ _ _ _ _ r h => by simp [impl_run.l0] at h
 | k + 1 => by
  have ih0 := impl_run.mono_l k
  ·intro y0 y1 y2 y3 y4
   unfold impl_run.l0
   repeat' first
   | (with_reducible exact ih0 _ _ _ _ _)
   | (with_reducible exact LeO.refl _)
   | (with_reducible exact LeO.none _)
   | (with_reducible refine LeO.ite ?_ ?_)
   | (with_reducible refine LeO.bind ?_ (fun _ => ?_))
   | exact ih0 _ _ _ _ _
   | exact LeO.none _
   | refine LeO.ite ?_ ?_
   | refine LeO.bind ?_ (fun _ => ?_)
theorem impl_run.mono : ∀ a0 a1 a2 k, LeO (impl_run.f k a0 a1 a2) (impl_run.f (k + 1) a0 a1 a2) := by
 intro a0 a1 a2 k
 have ih0 := impl_run.mono_l k
 unfold impl_run.f
 repeat' first
   | (with_reducible exact ih0 _ _ _ _ _)
   | (with_reducible exact LeO.refl _)
   | (with_reducible exact LeO.none _)
   | (with_reducible refine LeO.ite ?_ ?_)
   | (with_reducible refine LeO.bind ?_ (fun _ => ?_))
   | exact ih0 _ _ _ _ _
   | exact LeO.none _
   | refine LeO.ite ?_ ?_
   | refine LeO.bind ?_ (fun _ => ?_)
def impl_run.T5 : Bool × List (List Nat × List Nat) := (true, [([], []), ([], []), ([1], [1]), ([], []), ([3], [3]), ([], []), ([], []), ([], []), ([7], [7]), ([6, 8], [6, 8]), ([9], [9]), ([], []), ([], []), ([12], [12]), ([11, 13], [11, 13]), ([14], [14]), ([4, 5, 10, 15], [4, 5, 10, 15]), ([0, 2, 0, 1, 2, 3, 4, 5, 6, 7, 8, 9, 10, 11, 12, 13, 14, 15, 16], [0, 2]), ([17, 16, 16, 0, 1, 2, 3, 4, 5, 6, 7, 8, 9, 10, 11, 12, 13, 14, 15, 16], [16, 17])])
def impl_run.B5 : List Nat := [0, 0, 2, 0, 8, 0, 0, 0, 128, 448, 960, 0, 0, 4096, 14336, 30720, 65528, 131071, 262143]
theorem impl_run.tab5 : rtab .any (opsOf Try.f91 5) = impl_run.T5 := by kernel_rfl
theorem impl_run.bits5 : waitsOk impl_run.T5.2 impl_run.B5 = true := by kernel_rfl
set_option maxHeartbeats 8000000 in
set_option maxRecDepth 100000 in
theorem impl_run.calls (k : Nat) (a0 : Int) (A1 : Option Addr) (c1 : Nat) (l1 : List (S58)) (A2 : Option Addr) (c2 : Nat) (l2 : List Int) (r : List Int) (w : World) (hr1 : Kd.C k58 w A1 l1.length l1) (hc1 : l1.length ≤ c1) (hr2 : Kd.C (Kd.int .i64) w A2 l2.length l2) (hc2 : l2.length ≤ c2) (h : impl_run.f k a0 l1 l2 = some r) :
  Calls Try.prog 91 #[.int .i64 a0, .slice A1 l1.length c1, .slice A2 l2.length c2] w fun e w' => ∃ v0_ : Value, e = .returned (v0_) ∧ Kd.R (Kd.int .i64) 2 w' w.heap.size (fun _ => True) v0_ r ∧ Below w.heap.size w w' := by
 have hu58 := Try.underlying58
 have HR1 := Aside0.mk hr1
 have HC1 := Aside0.mk hc1
 clear hr1 hc1
 have HR2 := Aside0.mk hr2
 have HC2 := Aside0.mk hc2
 clear hr2 hc2
 have HB := Aside0.mk (Below.refl w.heap.size w)
 have H : ((slices_Clone_int64_int64.f l2).bind fun t463 => (impl_run.l0 k a0 t463 l1 (l1.length : Int) 0)) = some r := h
 clear h
 replace H := Option.bind_eq_some_iff.mp H
 obtain ⟨t463, A40, H⟩ := H
 try dsimp only at H
 have A4 := Aside0.mk A40
 clear A40
 have H' := Aside0.mk H
 clear H
 go_enter Try.func91, Try.ntmps91
 go_wp2_with (first | ((with_reducible refine gate_callee (f := 115) rfl ?_); refine goesL_ (some 11) rfl rfl Try.func115 (by kernel_rfl) rfl #[.slice A2 l2.length c2] rfl (by (try simp only [List.map_toArray, List.map_cons, List.map_nil]); first | done | rfl | (simp only [List.length_drop, List.length_take]; rfl)) ?_; (with_reducible refine (slices_Clone_int64_int64.calls _ _ l2 t463 _ ?side1 ?side2 A4.out).mono ?_); (case side1 => repeat (first | exact HR2.out | (with_reducible refine Kd.C_alloc ?_ _) | (with_reducible refine Kd.C_drewN ?_ _) | (with_reducible refine Kd.C_drew ?_))); (case side2 => exact HC2.out); rintro e w5 ⟨v464, rfl, ho0, hb⟩; refine ⟨_, rfl, ?_⟩; have n0_ := Aside0.mk (Kd.R_lower ho0 (below_size (by repeat (first | (with_reducible first | exact HB.out | apply below_alloc | apply pw_below_drewN | apply below_drew1) | exact HB.out)))); have n1_ := Aside0.mk (below_step (by repeat (first | (with_reducible first | exact HB.out | apply below_alloc | apply pw_below_drewN | apply below_drew1) | exact HB.out)) hb); clear HB; have HO465 := n0_; have HB := n1_; clear n0_ n1_; (try clear hb); (try clear hb2); (try clear hk); (try clear hi); (try clear ho0)))
 go_loopg [14] k (fun kq v14 w' => ∃ (x7_1 : List Int) (x14_1 : Int), v14 = .int .i64 x14_1 ∧ Aside0 (impl_run.l0 kq a0 x7_1 l1 (l1.length : Int) x14_1 = some r) ∧ Aside0 (kq ≤ k) ∧ Aside0 (Kd.R (Kd.int .i64) 2 w' w.heap.size (fun _ => True) v464 x7_1) ∧ Aside0 (Below w.heap.size w w'))
 case atStart => exact ⟨(t463), (0), (by first | rfl | (simp; done) | (simp [*]; done)), H', ⟨Nat.le_refl _⟩, ⟨by (with_reducible repeat (first | apply Kd.R_alloc | apply Kd.R_drewN | apply Kd.R_drew)); exact HO465.out⟩, ⟨by repeat (first | (with_reducible first | exact HB.out | apply below_alloc | apply pw_below_drewN | apply below_drew1) | exact HB.out)⟩⟩
 case round =>
  clear H'
  try clear c1
  try clear c2
  try clear p2
  obtain ⟨x7_1, x14_1, rfl, HA, HK1, HO_7, HB⟩ := hrel
  cases gk with
  | zero => exact absurd HA.out (by simp [impl_run.l0])
  | succ k1 =>
   have H := HA.out
   clear HA
   simp only [impl_run.l0] at H
   by_cases c6 : x14_1 < (l1.length : Int)
   rotate_left
   ·rw [if_neg c6] at H
    have c6b0 : decide (x14_1 < (l1.length : Int)) = false := decide_eq_false c6
    clear c6
    obtain rfl := Option.some.inj H
    go_wp2
    go_ret
    exact ⟨_, by first | rfl | (simp [errW_none, errW_some] <;> rfl) | (simp [*, errW_none, errW_some] <;> rfl), by (with_reducible repeat (first | apply Kd.R_alloc | apply Kd.R_drewN | apply Kd.R_drew)); exact HO_7.out, by repeat (first | (with_reducible first | exact HB.out | apply below_alloc | apply pw_below_drewN | apply below_drew1) | exact HB.out)⟩

   rw [if_pos c6] at H
   have c6b0 : decide (x14_1 < (l1.length : Int)) = true := decide_eq_true c6
   clear c6
   by_cases c7 : 0 ≤ x14_1
   rotate_left
   ·rw [if_neg c7] at H
    exact absurd H (by simp)
   rw [if_pos c7] at H
   have c7b0 : decide (0 ≤ x14_1) = true := decide_eq_true c7
   clear c7
   by_cases c8 : x14_1 < (l1.length : Int)
   rotate_left
   ·rw [if_neg c8] at H
    exact absurd H (by simp)
   rw [if_pos c8] at H
   have c8b0 : decide (x14_1 < (l1.length : Int)) = true := decide_eq_true c8
   clear c8
   by_cases c9 : 0 ≤ ((rd_T58 l1 x14_1).f2)
   rotate_left
   ·rw [if_neg c9] at H
    exact absurd H (by simp)
   rw [if_pos c9] at H
   have c9b0 : decide (0 ≤ ((rd_T58 l1 x14_1).f2)) = true := decide_eq_true c9
   clear c9
   by_cases c10 : ((rd_T58 l1 x14_1).f2) < (x7_1.length : Int)
   rotate_left
   ·rw [if_neg c10] at H
    exact absurd H (by simp)
   rw [if_pos c10] at H
   have c10b0 : decide (((rd_T58 l1 x14_1).f2) < (x7_1.length : Int)) = true := decide_eq_true c10
   clear c10
   by_cases c11 : 0 ≤ ((rd_T58 l1 x14_1).f3)
   rotate_left
   ·rw [if_neg c11] at H
    exact absurd H (by simp)
   rw [if_pos c11] at H
   have c11b0 : decide (0 ≤ ((rd_T58 l1 x14_1).f3)) = true := decide_eq_true c11
   clear c11
   by_cases c12 : ((rd_T58 l1 x14_1).f3) < (x7_1.length : Int)
   rotate_left
   ·rw [if_neg c12] at H
    exact absurd H (by simp)
   rw [if_pos c12] at H
   have c12b0 : decide (((rd_T58 l1 x14_1).f3) < (x7_1.length : Int)) = true := decide_eq_true c12
   clear c12
   replace H := Option.bind_eq_some_iff.mp H
   obtain ⟨t470, A130, H⟩ := H
   try dsimp only at H
   have A13 := Aside0.mk A130
   clear A130
   by_cases c14 : 0 ≤ ((rd_T58 l1 x14_1).f1)
   rotate_left
   ·rw [if_neg c14] at H
    exact absurd H (by simp)
   rw [if_pos c14] at H
   have c14b0 : decide (0 ≤ ((rd_T58 l1 x14_1).f1)) = true := decide_eq_true c14
   clear c14
   by_cases c15 : ((rd_T58 l1 x14_1).f1) < (x7_1.length : Int)
   rotate_left
   ·rw [if_neg c15] at H
    exact absurd H (by simp)
   rw [if_pos c15] at H
   have c15b0 : decide (((rd_T58 l1 x14_1).f1) < (x7_1.length : Int)) = true := decide_eq_true c15
   clear c15
   obtain ⟨y471, hy471⟩ : ∃ y_ : List Int, y_ = (x7_1.set (((rd_T58 l1 x14_1).f1) : Int).toNat t470) := ⟨_, rfl⟩
   replace H : (impl_run.l0 k1 a0 y471 l1 (l1.length : Int) (wrap64 (x14_1 + 1))) = some r := by first | (rw [hy471]; with_reducible exact H) | (have H2_ := (Option.bind_some _ _).symm.trans H; rw [hy471]; with_reducible exact H2_) | (have H2_ := (Option.bind_some _ _).symm.trans H; with_reducible exact H2_) | with_reducible exact H | (rw [hy471]; exact H) | exact H
   have Ny471 := Aside0.mk hy471
   clear hy471
   have H' := Aside0.mk H
   clear H
   have p466 : 0 ≤ (x14_1 : Int) := of_decide_eq_true (by first | (with_reducible assumption) | assumption)
   have q466 : x14_1 < (l1.length : Int) := of_decide_eq_true (by first | (with_reducible assumption) | assumption)
   obtain ⟨ad466, e466, hx466_0, hx466_1, hx466_2, hx466_3⟩ := at_T58 HR1.out x14_1 p466 q466
   cases e466
   replace hx466_0 := (HB.out.cell (World.block_lt_of_cell? w _ hx466_0)).trans hx466_0
   replace hx466_1 := (HB.out.cell (World.block_lt_of_cell? w _ hx466_1)).trans hx466_1
   replace hx466_2 := (HB.out.cell (World.block_lt_of_cell? w _ hx466_2)).trans hx466_2
   replace hx466_3 := (HB.out.cell (World.block_lt_of_cell? w _ hx466_3)).trans hx466_3
   replace p466 := eq_true p466
   replace q466 := eq_true q466
   try go_wp2_with (first | ((with_reducible refine gate_dst (N := 9) rfl ?_); refine box_event ?hg (N := 9) ?hd (cs := #[.int .i64 0, .int .i64 0, .int .i64 0, .int .i64 0]) (t := 58) ?hr ?_; (case hd => rfl); (case hg => rfl); (case hr => first | (go_simp; done) | (go_simp; rfl)); intro gb467 hg w17 hbox hb; have n0_ := Aside0.mk (Kd.R_below (by (with_reducible repeat (first | apply Kd.R_alloc | apply Kd.R_drewN | apply Kd.R_drew)); exact HO_7.out) hb); have n1_ := Aside0.mk (below_step (by repeat (first | (with_reducible first | exact HB.out | apply below_alloc | apply pw_below_drewN | apply below_drew1) | exact HB.out)) hb); have n2_ := Aside0.mk (hbox); have n3_ := Aside0.mk ((by rw [hg]; exact (below_size (by repeat (first | (with_reducible first | exact HB.out | apply below_alloc | apply pw_below_drewN | apply below_drew1) | exact HB.out))) : w.heap.size ≤ gb467)); have n4_ := Aside0.mk ((by rw [hg]; exact (below_size (by repeat (first | (with_reducible first | exact HB.out | apply below_alloc | apply pw_below_drewN | apply below_drew1) | exact HB.out))) : w.heap.size ≤ gb467)); clear HO_7; clear HB; have HO_7 := n0_; have HB := n1_; have BK467 := n2_; have GW467 := n3_; have GE467 := n4_; clear n0_ n1_ n2_ n3_ n4_; clear hb hbox hg; have hcz18_0 : w17.cell? ⟨gb467, 0, none⟩ = some (.int .i64 0) := (blk_cell BK467.out 0).trans rfl; have hcz18_1 : w17.cell? ⟨gb467, 1, none⟩ = some (.int .i64 0) := (blk_cell BK467.out 1).trans rfl; have hcz18_2 : w17.cell? ⟨gb467, 2, none⟩ = some (.int .i64 0) := (blk_cell BK467.out 2).trans rfl; have hcz18_3 : w17.cell? ⟨gb467, 3, none⟩ = some (.int .i64 0) := (blk_cell BK467.out 3).trans rfl; have hfz18_0 := blk_frozen BK467.out 0; have hfz18_1 := blk_frozen BK467.out 1; have hfz18_2 := blk_frozen BK467.out 2; have hfz18_3 := blk_frozen BK467.out 3))
   have n0_ : Aside0 (Kd.R (Kd.int .i64) 2 ((((w17.setCell ⟨gb467, 0, none⟩ (.int .i64 ((rd_T58 l1 x14_1).f0))).setCell ⟨gb467, 1, none⟩ (.int .i64 ((rd_T58 l1 x14_1).f1))).setCell ⟨gb467, 2, none⟩ (.int .i64 ((rd_T58 l1 x14_1).f2))).setCell ⟨gb467, 3, none⟩ (.int .i64 ((rd_T58 l1 x14_1).f3))) w.heap.size (fun _ => True) v464 x7_1) := ⟨by (with_reducible repeat (first | apply Kd.R_alloc | apply Kd.R_drewN | apply Kd.R_drew)); exact Kd.R_mono (Kd.R_far (p := ⟨gb467, 3, none⟩) (Kd.R_far (p := ⟨gb467, 2, none⟩) (Kd.R_far (p := ⟨gb467, 1, none⟩) (Kd.R_far (p := ⟨gb467, 0, none⟩) (Kd.R_types HO_7.out BK467.out (by decide)) (fun _ hk => hk.2) (.int .i64 ((rd_T58 l1 x14_1).f0))) (fun _ hk => hk.2) (.int .i64 ((rd_T58 l1 x14_1).f1))) (fun _ hk => hk.2) (.int .i64 ((rd_T58 l1 x14_1).f2))) (fun _ hk => hk.2) (.int .i64 ((rd_T58 l1 x14_1).f3))) (fun _ hk => trivial)⟩
   have n1_ : Aside0 (((((w17.setCell ⟨gb467, 0, none⟩ (.int .i64 ((rd_T58 l1 x14_1).f0))).setCell ⟨gb467, 1, none⟩ (.int .i64 ((rd_T58 l1 x14_1).f1))).setCell ⟨gb467, 2, none⟩ (.int .i64 ((rd_T58 l1 x14_1).f2))).setCell ⟨gb467, 3, none⟩ (.int .i64 ((rd_T58 l1 x14_1).f3))).heap[gb467]? = some (.cells #[.int .i64 ((rd_T58 l1 x14_1).f0), .int .i64 ((rd_T58 l1 x14_1).f1), .int .i64 ((rd_T58 l1 x14_1).f2), .int .i64 ((rd_T58 l1 x14_1).f3)] 58 (0, 0))) := ⟨by (with_reducible repeat (first | refine blk_drewN ?_ _ | refine blk_drew ?_ | refine blk_alloc ?_ _)); refine blk_put (cs := #[.int .i64 ((rd_T58 l1 x14_1).f0), .int .i64 ((rd_T58 l1 x14_1).f1), .int .i64 ((rd_T58 l1 x14_1).f2), .int .i64 0]) ?_ 3 _ rfl; (with_reducible repeat (first | refine blk_drewN ?_ _ | refine blk_drew ?_ | refine blk_alloc ?_ _)); refine blk_put (cs := #[.int .i64 ((rd_T58 l1 x14_1).f0), .int .i64 ((rd_T58 l1 x14_1).f1), .int .i64 0, .int .i64 0]) ?_ 2 _ rfl; (with_reducible repeat (first | refine blk_drewN ?_ _ | refine blk_drew ?_ | refine blk_alloc ?_ _)); refine blk_put (cs := #[.int .i64 ((rd_T58 l1 x14_1).f0), .int .i64 0, .int .i64 0, .int .i64 0]) ?_ 1 _ rfl; (with_reducible repeat (first | refine blk_drewN ?_ _ | refine blk_drew ?_ | refine blk_alloc ?_ _)); refine blk_put (cs := #[.int .i64 0, .int .i64 0, .int .i64 0, .int .i64 0]) ?_ 0 _ rfl; (with_reducible repeat (first | refine blk_drewN ?_ _ | refine blk_drew ?_ | refine blk_alloc ?_ _)); exact BK467.out⟩
   have n2_ : Aside0 (Below w.heap.size w ((((w17.setCell ⟨gb467, 0, none⟩ (.int .i64 ((rd_T58 l1 x14_1).f0))).setCell ⟨gb467, 1, none⟩ (.int .i64 ((rd_T58 l1 x14_1).f1))).setCell ⟨gb467, 2, none⟩ (.int .i64 ((rd_T58 l1 x14_1).f2))).setCell ⟨gb467, 3, none⟩ (.int .i64 ((rd_T58 l1 x14_1).f3)))) := ⟨by repeat (first | (with_reducible first | exact HB.out | apply below_alloc | apply pw_below_drewN | apply below_drew1 | refine below_set ?_ GE467.out) | exact HB.out)⟩
   (try clear HO_7)
   (try clear BK467)
   (try clear HB)
   generalize ((((w17.setCell ⟨gb467, 0, none⟩ (.int .i64 ((rd_T58 l1 x14_1).f0))).setCell ⟨gb467, 1, none⟩ (.int .i64 ((rd_T58 l1 x14_1).f1))).setCell ⟨gb467, 2, none⟩ (.int .i64 ((rd_T58 l1 x14_1).f2))).setCell ⟨gb467, 3, none⟩ (.int .i64 ((rd_T58 l1 x14_1).f3))) = w19 at n0_ n1_ n2_ ⊢
   have HO_7 := n0_
   have BK467 := n1_
   have HB := n2_
   clear n0_ n1_ n2_
   have n0_ := Aside0.mk (Kd.R_drew HO_7.out)
   have n1_ := Aside0.mk (blk_drew BK467.out)
   have n2_ := Aside0.mk (below_drew1 HB.out)
   clear HO_7
   clear BK467
   clear HB
   have HO_7 := n0_
   have BK467 := n1_
   have HB := n2_
   clear n0_ n1_ n2_
   obtain ⟨Ao21, co21, eo21⟩ := Kd.R_slice HO_7.out
   (first | subst eo21 | (injection eo21 with f1_ f2_ f3_; have f4_ := f1_.symm; have f5_ := f3_.symm; clear f1_ f2_ f3_; subst f4_; subst f5_))
   have p468 : 0 ≤ (((rd_T58 l1 x14_1).f2) : Int) := of_decide_eq_true (by first | (with_reducible assumption) | assumption)
   have q468 : ((rd_T58 l1 x14_1).f2) < (x7_1.length : Int) := of_decide_eq_true (by first | (with_reducible assumption) | assumption)
   obtain ⟨ad468, e468, hx468_0⟩ := Kd.at_int (Kd.R_reads' HO_7.out).2.2 ((rd_T58 l1 x14_1).f2) p468 q468
   cases e468
   replace p468 := eq_true p468
   replace q468 := eq_true q468
   have p469 : 0 ≤ (((rd_T58 l1 x14_1).f3) : Int) := of_decide_eq_true (by first | (with_reducible assumption) | assumption)
   have q469 : ((rd_T58 l1 x14_1).f3) < (x7_1.length : Int) := of_decide_eq_true (by first | (with_reducible assumption) | assumption)
   obtain ⟨ad469, e469, hx469_0⟩ := Kd.at_int (Kd.R_reads' HO_7.out).2.2 ((rd_T58 l1 x14_1).f3) p469 q469
   obtain rfl : ad468 = ad469 := (by injection e469)
   replace p469 := eq_true p469
   replace q469 := eq_true q469
   refine start_ (n := 19) (S := fun w' => w'.cell? ⟨gb467, 0, none⟩ = some (.int .i64 ((rd_T58 l1 x14_1).f0)) ∧ w'.cell? ⟨gb467, 1, none⟩ = some (.int .i64 ((rd_T58 l1 x14_1).f1)) ∧ w'.cell? ⟨gb467, 2, none⟩ = some (.int .i64 ((rd_T58 l1 x14_1).f2)) ∧ w'.cell? ⟨gb467, 3, none⟩ = some (.int .i64 ((rd_T58 l1 x14_1).f3)) ∧ w'.cell? (ad468.add (((rd_T58 l1 x14_1).f2)).toNat) = some (.int .i64 (rd x7_1 ((rd_T58 l1 x14_1).f2))) ∧ w'.cell? (ad468.add (((rd_T58 l1 x14_1).f3)).toNat) = some (.int .i64 (rd x7_1 ((rd_T58 l1 x14_1).f3)))) (ds := [18]) #[false, false, false, false, false, false, false, false, false, false, false, false, false, false, false, false, false, false, false] (by kernel_rfl) rfl rfl ⟨(blk_cell BK467.out 0).trans rfl, (blk_cell BK467.out 1).trans rfl, (blk_cell BK467.out 2).trans rfl, (blk_cell BK467.out 3).trans rfl, hx468_0, hx469_0⟩ (fun hHeld => ?_); refine with_tabW impl_run.tab5 impl_run.bits5 (fun HT_ HW_ => ?_)
   generalize w19.drew = w20 at HO_7 BK467 HB hx468_0 hx469_0 hHeld ⊢
   refine pure_ (i := 0) (N := some 18) (v := ?_) (a' := ?_) #[true, false, false, false, false, false, false, false, false, false, false, false, false, false, false, false, false, false, false] rfl rfl (any_of HT_.out (by kernel_rfl)) (fun _ _ _ h => h) (Or.inl ⟨by rfl, ?_⟩) ?_ ?_
   rotate_left
   ·intro w'
    go_simp
    with_reducible rfl
   rotate_left
   ·simp only [Act.put, List.setIfInBounds_toArray, List.set_cons_zero, List.set_cons_succ, i64_w, i32_w]
    rfl
   refine pure_ (i := 1) (N := some 19) (v := ?_) (a' := ?_) #[true, true, false, false, false, false, false, false, false, false, false, false, false, false, false, false, false, false, false] rfl rfl (any_of HT_.out (by kernel_rfl)) (fun _ _ _ h => h) (Or.inl ⟨by rfl, ?_⟩) ?_ ?_
   rotate_left
   ·intro w'
    go_simp
    with_reducible rfl
   rotate_left
   ·simp only [Act.put, List.setIfInBounds_toArray, List.set_cons_zero, List.set_cons_succ, i64_w, i32_w]
    rfl
   refine pure_ (i := 3) (N := some 21) (v := ?_) (a' := ?_) #[true, true, false, true, false, false, false, false, false, false, false, false, false, false, false, false, false, false, false] rfl rfl (any_of HT_.out (by kernel_rfl)) (fun _ _ _ h => h) (Or.inl ⟨by rfl, ?_⟩) ?_ ?_
   rotate_left
   ·intro w'
    go_simp
    with_reducible rfl
   rotate_left
   ·simp only [Act.put, List.setIfInBounds_toArray, List.set_cons_zero, List.set_cons_succ, i64_w, i32_w]
    rfl
   refine pure_ (i := 5) (N := some 23) (v := ?_) (a' := ?_) #[true, true, false, true, false, true, false, false, false, false, false, false, false, false, false, false, false, false, false] rfl rfl (any_of HT_.out (by kernel_rfl)) (fun _ _ _ h => h) (Or.inl ⟨by rfl, ?_⟩) ?_ ?_
   rotate_left
   ·intro w'
    go_simp
    with_reducible rfl
   rotate_left
   ·simp only [Act.put, List.setIfInBounds_toArray, List.set_cons_zero, List.set_cons_succ, i64_w, i32_w]
    rfl
   refine pure_ (i := 6) (N := some 24) (v := ?_) (a' := ?_) #[true, true, false, true, false, true, true, false, false, false, false, false, false, false, false, false, false, false, false] rfl rfl (any_of HT_.out (by kernel_rfl)) (fun _ _ _ h => h) (Or.inl ⟨by rfl, ?_⟩) ?_ ?_
   rotate_left
   ·intro w'
    go_simp
    with_reducible rfl
   rotate_left
   ·simp only [Act.put, List.setIfInBounds_toArray, List.set_cons_zero, List.set_cons_succ, i64_w, i32_w]
    rfl
   refine pure_ (i := 7) (N := some 25) (v := ?_) (a' := ?_) #[true, true, false, true, false, true, true, true, false, false, false, false, false, false, false, false, false, false, false] rfl rfl (any_of HT_.out (by kernel_rfl)) (fun _ _ _ h => h) (Or.inl ⟨by rfl, ?_⟩) ?_ ?_
   rotate_left
   ·intro w'
    go_simp
    with_reducible rfl
   rotate_left
   ·simp only [Act.put, List.setIfInBounds_toArray, List.set_cons_zero, List.set_cons_succ, i64_w, i32_w]
    rfl
   refine pure_ (i := 11) (N := some 29) (v := ?_) (a' := ?_) #[true, true, false, true, false, true, true, true, false, false, false, true, false, false, false, false, false, false, false] rfl rfl (any_of HT_.out (by kernel_rfl)) (fun _ _ _ h => h) (Or.inl ⟨by rfl, ?_⟩) ?_ ?_
   rotate_left
   ·intro w'
    go_simp
    with_reducible rfl
   rotate_left
   ·simp only [Act.put, List.setIfInBounds_toArray, List.set_cons_zero, List.set_cons_succ, i64_w, i32_w]
    rfl
   refine pure_ (i := 12) (N := some 30) (v := ?_) (a' := ?_) #[true, true, false, true, false, true, true, true, false, false, false, true, true, false, false, false, false, false, false] rfl rfl (any_of HT_.out (by kernel_rfl)) (fun _ _ _ h => h) (Or.inl ⟨by rfl, ?_⟩) ?_ ?_
   rotate_left
   ·intro w'
    go_simp
    with_reducible rfl
   rotate_left
   ·simp only [Act.put, List.setIfInBounds_toArray, List.set_cons_zero, List.set_cons_succ, i64_w, i32_w]
    rfl
   refine take_ (i := 2) (N := some 20) (v := ?_) (a' := ?_) #[true, true, true, true, false, true, true, true, false, false, false, true, true, false, false, false, false, false, false] rfl rfl (take_ofW HT_.out HW_.out (by kernel_rfl)) (fun _ _ _ h => h) (Or.inl ⟨by rfl, ?_⟩) hHeld ?_ ?_
   rotate_left
   ·rintro w' ⟨s0, s1, s2, s3, s4, s5⟩
    go_simp
    with_reducible rfl
   rotate_left
   ·simp only [Act.put, List.setIfInBounds_toArray, List.set_cons_zero, List.set_cons_succ, i64_w, i32_w]
    rfl
   refine take_ (i := 4) (N := some 22) (v := ?_) (a' := ?_) #[true, true, true, true, true, true, true, true, false, false, false, true, true, false, false, false, false, false, false] rfl rfl (take_ofW HT_.out HW_.out (by kernel_rfl)) (fun _ _ _ h => h) (Or.inl ⟨by rfl, ?_⟩) hHeld ?_ ?_
   rotate_left
   ·rintro w' ⟨s0, s1, s2, s3, s4, s5⟩
    go_simp
    with_reducible rfl
   rotate_left
   ·simp only [Act.put, List.setIfInBounds_toArray, List.set_cons_zero, List.set_cons_succ, i64_w, i32_w]
    rfl
   refine take_ (i := 8) (N := some 26) (v := ?_) (a' := ?_) #[true, true, true, true, true, true, true, true, true, false, false, true, true, false, false, false, false, false, false] rfl rfl (take_ofW HT_.out HW_.out (by kernel_rfl)) (fun _ _ _ h => h) (Or.inl ⟨by rfl, ?_⟩) hHeld ?_ ?_
   rotate_left
   ·rintro w' ⟨s0, s1, s2, s3, s4, s5⟩
    go_simp
    with_reducible rfl
   rotate_left
   ·simp only [Act.put, List.setIfInBounds_toArray, List.set_cons_zero, List.set_cons_succ, i64_w, i32_w]
    rfl
   refine pure_ (i := 9) (N := some 27) (v := ?_) (a' := ?_) #[true, true, true, true, true, true, true, true, true, true, false, true, true, false, false, false, false, false, false] rfl rfl (any_of HT_.out (by kernel_rfl)) (fun _ _ _ h => h) (Or.inl ⟨by rfl, ?_⟩) ?_ ?_
   rotate_left
   ·intro w'
    go_simp
    with_reducible rfl
   rotate_left
   ·simp only [Act.put, List.setIfInBounds_toArray, List.set_cons_zero, List.set_cons_succ, i64_w, i32_w]
    rfl
   refine take_ (i := 10) (N := some 28) (v := ?_) (a' := ?_) #[true, true, true, true, true, true, true, true, true, true, true, true, true, false, false, false, false, false, false] rfl rfl (take_ofW HT_.out HW_.out (by kernel_rfl)) (fun _ _ _ h => h) (Or.inl ⟨by rfl, ?_⟩) hHeld ?_ ?_
   rotate_left
   ·rintro w' ⟨s0, s1, s2, s3, s4, s5⟩
    go_simp
    with_reducible rfl
   rotate_left
   ·simp only [Act.put, List.setIfInBounds_toArray, List.set_cons_zero, List.set_cons_succ, i64_w, i32_w]
    rfl
   refine take_ (i := 13) (N := some 31) (v := ?_) (a' := ?_) #[true, true, true, true, true, true, true, true, true, true, true, true, true, true, false, false, false, false, false] rfl rfl (take_ofW HT_.out HW_.out (by kernel_rfl)) (fun _ _ _ h => h) (Or.inl ⟨by rfl, ?_⟩) hHeld ?_ ?_
   rotate_left
   ·rintro w' ⟨s0, s1, s2, s3, s4, s5⟩
    go_simp
    with_reducible rfl
   rotate_left
   ·simp only [Act.put, List.setIfInBounds_toArray, List.set_cons_zero, List.set_cons_succ, i64_w, i32_w]
    rfl
   refine pure_ (i := 14) (N := some 32) (v := ?_) (a' := ?_) #[true, true, true, true, true, true, true, true, true, true, true, true, true, true, true, false, false, false, false] rfl rfl (any_of HT_.out (by kernel_rfl)) (fun _ _ _ h => h) (Or.inl ⟨by rfl, ?_⟩) ?_ ?_
   rotate_left
   ·intro w'
    go_simp
    with_reducible rfl
   rotate_left
   ·simp only [Act.put, List.setIfInBounds_toArray, List.set_cons_zero, List.set_cons_succ, i64_w, i32_w]
    rfl
   refine take_ (i := 15) (N := some 33) (v := ?_) (a' := ?_) #[true, true, true, true, true, true, true, true, true, true, true, true, true, true, true, true, false, false, false] rfl rfl (take_ofW HT_.out HW_.out (by kernel_rfl)) (fun _ _ _ h => h) (Or.inl ⟨by rfl, ?_⟩) hHeld ?_ ?_
   rotate_left
   ·rintro w' ⟨s0, s1, s2, s3, s4, s5⟩
    go_simp
    with_reducible rfl
   rotate_left
   ·simp only [Act.put, List.setIfInBounds_toArray, List.set_cons_zero, List.set_cons_succ, i64_w, i32_w]
    rfl
   refine one_ (i := 16) (N := some 34) #[true, true, true, true, true, true, true, true, true, true, true, true, true, true, true, true, true, false, false] rfl rfl (one_of HT_.out (by kernel_rfl)) (by decide) (fun K hK => ?_)
   refine goes_ Try.func116 (by kernel_rfl) rfl #[.int .i64 ((rd_T58 l1 x14_1).f0), .int .i64 a0, .int .i64 (rd x7_1 ((rd_T58 l1 x14_1).f2)), .int .i64 (rd x7_1 ((rd_T58 l1 x14_1).f3))] (by rfl) rfl rfl (by (try simp only [List.map_toArray, List.map_cons, List.map_nil]); first | done | rfl | (simp only [List.length_drop, List.length_take]; rfl)) ?_
   with_reducible refine (impl_result.calls ((rd_T58 l1 x14_1).f0) a0 (rd x7_1 ((rd_T58 l1 x14_1).f2)) (rd x7_1 ((rd_T58 l1 x14_1).f3)) t470 _ A13.out).mono ?_
   rintro e w' ⟨rfl, ⟨nd, rfl⟩⟩
   refine ⟨_, rfl, ?_⟩
   have p16 : 0 ≤ (((rd_T58 l1 x14_1).f1) : Int) := of_decide_eq_true (by first | (with_reducible assumption) | assumption)
   have q16 : (((rd_T58 l1 x14_1).f1) : Int) < ((x7_1.length : Int) : Int) := of_decide_eq_true (by first | (with_reducible assumption) | assumption)
   obtain ⟨go16, co16, eo16, gb16, gl16, cl16, HG16⟩ := Kd.R_form HO_7.out (by omega)
   (first | cases eo16 | (injection eo16 with ea_ en_ ec_; (first | subst ea_ | (injection ea_ with ea_; subst ea_)); subst ec_; clear en_))
   have GB16 := Aside0.mk gb16
   have GG16 := Aside0.mk HG16
   clear gb16 gl16 HG16
   (first | simp only [add_plain] at hx468_0 | skip)
   (first | simp only [add_plain] at hx469_0 | skip)
   obtain ⟨hx16_0, hf16_0⟩ := Kd.R_celln 0 HO_7.out (((rd_T58 l1 x14_1).f1) : Int) p16 q16
   replace p16 := eq_true p16
   replace q16 := eq_true q16
   have HP22 := Kd.R_putn HO_7.out (((rd_T58 l1 x14_1).f1) : Int) t470
   rw [← Ny471.out] at HP22
   have HQ22 := Aside0.mk HP22
   clear HP22
   refine hK.out _ _ ⟨(blk_cell BK467.out 0).trans rfl, (blk_cell BK467.out 1).trans rfl, (blk_cell BK467.out 2).trans rfl, (blk_cell BK467.out 3).trans rfl, hHeld.2.2.2.2.1, hHeld.2.2.2.2.2⟩ (fun hHeld => ?_)
   clear hK K
   refine norm_ (a' := ?_) ?_ ?_
   rotate_left
   ·show Act.put _ (some 34) _ = _
    simp only [Act.put, List.setIfInBounds_toArray, List.set_cons_zero, List.set_cons_succ, i64_w, i32_w]
    rfl
   refine pure_ (i := 17) (N := some 35) (v := ?_) (a' := ?_) #[true, true, true, true, true, true, true, true, true, true, true, true, true, true, true, true, true, true, false] rfl rfl (any_of HT_.out (by kernel_rfl)) (fun _ _ _ h => h) (Or.inl ⟨by rfl, ?_⟩) ?_ ?_
   rotate_left
   ·intro w'
    go_simp
    with_reducible rfl
   rotate_left
   ·simp only [Act.put, List.setIfInBounds_toArray, List.set_cons_zero, List.set_cons_succ, i64_w, i32_w]
    rfl
   refine last_ (i := 18) (N := none) #[true, true, true, true, true, true, true, true, true, true, true, true, true, true, true, true, true, true, true] rfl rfl (one_of HT_.out (by kernel_rfl)) (by decide) (fun K hK => ?_)
   refine skip_ (w1 := ?_) (by rfl) rfl ?_ ?_
   rotate_left
   ·go_simp
    rfl
   refine hK.out _ _ ?_
   clear hK K
   refine done_ (done_of HT_.out (by kernel_rfl)) ?_
   try go_wp2
   go_roundg k1
   case measure => have := HK1.out; omega
   case rel => exact ⟨(y471), (wrap64 (x14_1 + 1)), (by first | rfl | (simp; done) | (simp [*]; done)), H', ⟨by have := HK1.out; omega⟩, ⟨by (with_reducible repeat (first | apply Kd.R_alloc | apply Kd.R_drewN | apply Kd.R_drew)); exact HQ22.out⟩, ⟨by repeat (first | (with_reducible first | exact HB.out | apply below_alloc | apply pw_below_drewN | apply below_drew1 | refine below_set ?_ GB16.out | refine below_set ?_ GE467.out) | exact HB.out)⟩⟩

/-! ### impl_RunCode: function 53 -/
def impl_RunCode.f (k : Nat) (a0 : Int) (l1 : List (S58)) (l2 : List Int) : Option (List Int × Bool) := (impl_ValidCode.f k l1).bind fun t472 => (if t472 = true then ((impl_areCells.f a0 l2).bind fun t473 => (if t473 = true then ((impl_run.f k a0 l1 l2).bind fun t474 => (some (t474, true))) else (some (([] : List Int), false)))) else (some (([] : List Int), false)))
theorem impl_RunCode.mono : ∀ a0 a1 a2 k, LeO (impl_RunCode.f k a0 a1 a2) (impl_RunCode.f (k + 1) a0 a1 a2) := by
 intro a0 a1 a2 k
 unfold impl_RunCode.f
 repeat' first
   | (with_reducible exact impl_ValidCode.mono _ _)
   | (with_reducible exact impl_run.mono _ _ _ _)
   | (with_reducible exact LeO.refl _)
   | (with_reducible exact LeO.none _)
   | (with_reducible refine LeO.ite ?_ ?_)
   | (with_reducible refine LeO.bind ?_ (fun _ => ?_))
   | exact impl_ValidCode.mono _ _
   | exact impl_run.mono _ _ _ _
   | exact LeO.none _
   | refine LeO.ite ?_ ?_
   | refine LeO.bind ?_ (fun _ => ?_)
set_option maxHeartbeats 8000000 in
set_option maxRecDepth 100000 in
theorem impl_RunCode.calls (k : Nat) (a0 : Int) (A1 : Option Addr) (c1 : Nat) (l1 : List (S58)) (A2 : Option Addr) (c2 : Nat) (l2 : List Int) (r1 : List Int) (r2 : Bool) (w : World) (hr1 : Kd.C k58 w A1 l1.length l1) (hc1 : l1.length ≤ c1) (hr2 : Kd.C (Kd.int .i64) w A2 l2.length l2) (hc2 : l2.length ≤ c2) (h : impl_RunCode.f k a0 l1 l2 = some (r1, r2)) :
  Calls Try.prog 53 #[.int .i64 a0, .slice A1 l1.length c1, .slice A2 l2.length c2] w fun e w' => ∃ v0_ : Value, e = .returned (.tuple #[v0_, .bool r2]) ∧ Kd.R (Kd.int .i64) 2 w' w.heap.size (fun _ => True) v0_ r1 ∧ Below w.heap.size w w' := by
 have HR1 := Aside0.mk hr1
 have HC1 := Aside0.mk hc1
 clear hr1 hc1
 have HR2 := Aside0.mk hr2
 have HC2 := Aside0.mk hc2
 clear hr2 hc2
 have HB := Aside0.mk (Below.refl w.heap.size w)
 have H : ((impl_ValidCode.f k l1).bind fun t472 => (if t472 = true then ((impl_areCells.f a0 l2).bind fun t473 => (if t473 = true then ((impl_run.f k a0 l1 l2).bind fun t474 => (some (t474, true))) else (some (([] : List Int), false)))) else (some (([] : List Int), false)))) = some (r1, r2) := h
 clear h
 replace H := Option.bind_eq_some_iff.mp H
 obtain ⟨t472, A40, H⟩ := H
 try dsimp only at H
 have A4 := Aside0.mk A40
 clear A40
 by_cases c5 : t472 = true
 rotate_left
 ·replace c5 := Bool.eq_false_iff.mpr c5
  subst c5
  rw [if_neg (show ¬ (false = true) by decide)] at H
  simp only [Option.some.injEq, Prod.mk.injEq] at H
  obtain ⟨rfl, rfl⟩ := H
  go_enter Try.func53, Try.ntmps53
  go_wp2_with (first | ((with_reducible refine gate_callee (f := 21) rfl ?_); refine goesL_ (some 9) rfl rfl Try.func21 (by kernel_rfl) rfl #[.slice A1 l1.length c1] rfl (by (try simp only [List.map_toArray, List.map_cons, List.map_nil]); first | done | rfl | (simp only [List.length_drop, List.length_take]; rfl)) ?_; (with_reducible refine (impl_ValidCode.calls k _ _ l1 false _ ?side1 ?side2 A4.out).mono ?_); (case side1 => repeat (first | exact HR1.out | (with_reducible refine Kd.C_alloc ?_ _) | (with_reducible refine Kd.C_drewN ?_ _) | (with_reducible refine Kd.C_drew ?_))); (case side2 => exact HC1.out); rintro e w14 ⟨rfl, hb⟩; refine ⟨_, rfl, ?_⟩; have n0_ := Aside0.mk (below_step (by repeat (first | (with_reducible first | exact HB.out | apply below_alloc | apply pw_below_drewN | apply below_drew1) | exact HB.out)) hb); clear HB; have HB := n0_; clear n0_; (try clear hb); (try clear hb2); (try clear hk); (try clear hi)))
  go_ret2
  exact ⟨_, by first | rfl | (simp [errW_none, errW_some] <;> rfl) | (simp [*, errW_none, errW_some] <;> rfl), by first | exact Kd.R_nil _ _ _ _ _ | exact Kd.N_nil _ _ _ _ _ | exact Kd.V_nil _ _ _ _ _ | exact Kd.Q_nil _ _ _ _ _ | exact Kd.S_nil _ _ _ _ _, by repeat (first | (with_reducible first | exact HB.out | apply below_alloc | apply pw_below_drewN | apply below_drew1) | exact HB.out)⟩

 subst c5
 rw [if_pos rfl] at H
 replace H := Option.bind_eq_some_iff.mp H
 obtain ⟨t473, A60, H⟩ := H
 try dsimp only at H
 have A6 := Aside0.mk A60
 clear A60
 by_cases c7 : t473 = true
 rotate_left
 ·replace c7 := Bool.eq_false_iff.mpr c7
  subst c7
  rw [if_neg (show ¬ (false = true) by decide)] at H
  simp only [Option.some.injEq, Prod.mk.injEq] at H
  obtain ⟨rfl, rfl⟩ := H
  go_enter Try.func53, Try.ntmps53
  go_wp2_with (first | ((with_reducible refine gate_callee (f := 21) rfl ?_); refine goesL_ (some 9) rfl rfl Try.func21 (by kernel_rfl) rfl #[.slice A1 l1.length c1] rfl (by (try simp only [List.map_toArray, List.map_cons, List.map_nil]); first | done | rfl | (simp only [List.length_drop, List.length_take]; rfl)) ?_; (with_reducible refine (impl_ValidCode.calls k _ _ l1 true _ ?side1 ?side2 A4.out).mono ?_); (case side1 => repeat (first | exact HR1.out | (with_reducible refine Kd.C_alloc ?_ _) | (with_reducible refine Kd.C_drewN ?_ _) | (with_reducible refine Kd.C_drew ?_))); (case side2 => exact HC1.out); rintro e w12 ⟨rfl, hb⟩; refine ⟨_, rfl, ?_⟩; have n0_ := Aside0.mk (below_step (by repeat (first | (with_reducible first | exact HB.out | apply below_alloc | apply pw_below_drewN | apply below_drew1) | exact HB.out)) hb); clear HB; have HB := n0_; clear n0_; (try clear hb); (try clear hb2); (try clear hk); (try clear hi)) | (go_at_call 90; (with_reducible refine (impl_areCells.calls a0 _ _ l2 false _ ?side1 ?side2 A6.out).mono ?_); (case side1 => repeat (first | exact (Kd.C_below HR2.out HB.out) | (with_reducible refine Kd.C_alloc ?_ _) | (with_reducible refine Kd.C_drewN ?_ _) | (with_reducible refine Kd.C_drew ?_))); (case side2 => exact HC2.out); rintro e w13 ⟨rfl, hb⟩; have n0_ := Aside0.mk (below_step (by repeat (first | (with_reducible first | exact HB.out | apply below_alloc | apply pw_below_drewN | apply below_drew1) | exact HB.out)) hb); clear HB; have HB := n0_; clear n0_; (try clear hb); (try clear hb2); (try clear hk); (try clear hi)))
  go_ret2
  exact ⟨_, by first | rfl | (simp [errW_none, errW_some] <;> rfl) | (simp [*, errW_none, errW_some] <;> rfl), by first | exact Kd.R_nil _ _ _ _ _ | exact Kd.N_nil _ _ _ _ _ | exact Kd.V_nil _ _ _ _ _ | exact Kd.Q_nil _ _ _ _ _ | exact Kd.S_nil _ _ _ _ _, by repeat (first | (with_reducible first | exact HB.out | apply below_alloc | apply pw_below_drewN | apply below_drew1) | exact HB.out)⟩
 subst c7
 rw [if_pos rfl] at H
 replace H := Option.bind_eq_some_iff.mp H
 obtain ⟨t474, A80, H⟩ := H
 try dsimp only at H
 have A8 := Aside0.mk A80
 clear A80
 simp only [Option.some.injEq, Prod.mk.injEq] at H
 obtain ⟨rfl, rfl⟩ := H
 go_enter Try.func53, Try.ntmps53
 go_wp2_with (first | ((with_reducible refine gate_callee (f := 21) rfl ?_); refine goesL_ (some 9) rfl rfl Try.func21 (by kernel_rfl) rfl #[.slice A1 l1.length c1] rfl (by (try simp only [List.map_toArray, List.map_cons, List.map_nil]); first | done | rfl | (simp only [List.length_drop, List.length_take]; rfl)) ?_; (with_reducible refine (impl_ValidCode.calls k _ _ l1 true _ ?side1 ?side2 A4.out).mono ?_); (case side1 => repeat (first | exact HR1.out | (with_reducible refine Kd.C_alloc ?_ _) | (with_reducible refine Kd.C_drewN ?_ _) | (with_reducible refine Kd.C_drew ?_))); (case side2 => exact HC1.out); rintro e w9 ⟨rfl, hb⟩; refine ⟨_, rfl, ?_⟩; have n0_ := Aside0.mk (below_step (by repeat (first | (with_reducible first | exact HB.out | apply below_alloc | apply pw_below_drewN | apply below_drew1) | exact HB.out)) hb); clear HB; have HB := n0_; clear n0_; (try clear hb); (try clear hb2); (try clear hk); (try clear hi)) | (go_at_call 90; (with_reducible refine (impl_areCells.calls a0 _ _ l2 true _ ?side1 ?side2 A6.out).mono ?_); (case side1 => repeat (first | exact (Kd.C_below HR2.out HB.out) | (with_reducible refine Kd.C_alloc ?_ _) | (with_reducible refine Kd.C_drewN ?_ _) | (with_reducible refine Kd.C_drew ?_))); (case side2 => exact HC2.out); rintro e w10 ⟨rfl, hb⟩; have n0_ := Aside0.mk (below_step (by repeat (first | (with_reducible first | exact HB.out | apply below_alloc | apply pw_below_drewN | apply below_drew1) | exact HB.out)) hb); clear HB; have HB := n0_; clear n0_; (try clear hb); (try clear hb2); (try clear hk); (try clear hi)) | ((with_reducible refine gate_callee (f := 91) rfl ?_); refine goesL_ (some 20) rfl rfl Try.func91 (by kernel_rfl) rfl #[.int .i64 a0, .slice A1 l1.length c1, .slice A2 l2.length c2] rfl (by (try simp only [List.map_toArray, List.map_cons, List.map_nil]); first | done | rfl | (simp only [List.length_drop, List.length_take]; rfl)) ?_; (with_reducible refine (impl_run.calls k a0 _ _ l1 _ _ l2 t474 _ ?side1 ?side2 ?side3 ?side4 A8.out).mono ?_); (case side1 => repeat (first | exact (Kd.C_below HR1.out HB.out) | (with_reducible refine Kd.C_alloc ?_ _) | (with_reducible refine Kd.C_drewN ?_ _) | (with_reducible refine Kd.C_drew ?_))); (case side2 => exact HC1.out); (case side3 => repeat (first | exact (Kd.C_below HR2.out HB.out) | (with_reducible refine Kd.C_alloc ?_ _) | (with_reducible refine Kd.C_drewN ?_ _) | (with_reducible refine Kd.C_drew ?_))); (case side4 => exact HC2.out); rintro e w11 ⟨v475, rfl, ho0, hb⟩; refine ⟨_, rfl, ?_⟩; have n0_ := Aside0.mk (Kd.R_lower ho0 (below_size (by repeat (first | (with_reducible first | exact HB.out | apply below_alloc | apply pw_below_drewN | apply below_drew1) | exact HB.out)))); have n1_ := Aside0.mk (below_step (by repeat (first | (with_reducible first | exact HB.out | apply below_alloc | apply pw_below_drewN | apply below_drew1) | exact HB.out)) hb); clear HB; have HO476 := n0_; have HB := n1_; clear n0_ n1_; (try clear hb); (try clear hb2); (try clear hk); (try clear hi); (try clear ho0)))
 go_ret2
 exact ⟨_, by first | rfl | (simp [errW_none, errW_some] <;> rfl) | (simp [*, errW_none, errW_some] <;> rfl), by (with_reducible repeat (first | apply Kd.R_alloc | apply Kd.R_drewN | apply Kd.R_drew)); exact HO476.out, by repeat (first | (with_reducible first | exact HB.out | apply below_alloc | apply pw_below_drewN | apply below_drew1) | exact HB.out)⟩

/-! ### impl_isSet: function 85 -/
def impl_isSet.l0 : Nat → List Int → Int → Option (Bool)
 | 0, _, _ => none
 | k + 1, x0, x3 => if x3 < (x0.length : Int) then (if 0 ≤ x3 then (if 0 ≤ (wrap64 (x3 - 1)) then (if (wrap64 (x3 - 1)) < (x0.length : Int) then (if (rd x0 x3) ≤ (rd x0 (wrap64 (x3 - 1))) then (some false) else (impl_isSet.l0 k x0 (wrap64 (x3 + 1)))) else (none)) else (none)) else (none)) else (some true)
def impl_isSet.f (k : Nat) (l0 : List Int) : Option (Bool) := impl_isSet.l0 k l0 1
theorem impl_isSet.mono_l : ∀ k, (∀ y0 y1, LeO (impl_isSet.l0 k y0 y1) (impl_isSet.l0 (k + 1) y0 y1))
 | 0 => fun _ _ r h => by simp [impl_isSet.l0] at h
 | k + 1 => by
  have ih0 := impl_isSet.mono_l k
  ·intro y0 y1
   unfold impl_isSet.l0
   repeat' first
   | (with_reducible exact ih0 _ _)
   | (with_reducible exact LeO.refl _)
   | (with_reducible exact LeO.none _)
   | (with_reducible refine LeO.ite ?_ ?_)
   | (with_reducible refine LeO.bind ?_ (fun _ => ?_))
   | exact ih0 _ _
   | exact LeO.none _
   | refine LeO.ite ?_ ?_
   | refine LeO.bind ?_ (fun _ => ?_)
theorem impl_isSet.mono : ∀ a0 k, LeO (impl_isSet.f k a0) (impl_isSet.f (k + 1) a0) := by
 intro a0 k
 have ih0 := impl_isSet.mono_l k
 unfold impl_isSet.f
 repeat' first
   | (with_reducible exact ih0 _ _)
   | (with_reducible exact LeO.refl _)
   | (with_reducible exact LeO.none _)
   | (with_reducible refine LeO.ite ?_ ?_)
   | (with_reducible refine LeO.bind ?_ (fun _ => ?_))
   | exact ih0 _ _
   | exact LeO.none _
   | refine LeO.ite ?_ ?_
   | refine LeO.bind ?_ (fun _ => ?_)
set_option maxHeartbeats 8000000 in
set_option maxRecDepth 100000 in
theorem impl_isSet.calls (k : Nat) (A0 : Option Addr) (c0 : Nat) (l0 : List Int) (r : Bool) (w : World) (hr0 : Kd.C (Kd.int .i64) w A0 l0.length l0) (hc0 : l0.length ≤ c0) (h : impl_isSet.f k l0 = some r) :
  Calls Try.prog 85 #[.slice A0 l0.length c0] w fun e w' => e = .returned (.bool r) ∧ Drawn0 w w' := by
 have HR0 := Aside0.mk hr0
 have HC0 := Aside0.mk hc0
 clear hr0 hc0
 have H : (impl_isSet.l0 k l0 1) = some r := h
 clear h
 have H' := Aside0.mk H
 clear H
 go_enter Try.func85, Try.ntmps85
 go_wp2
 repeat (go_quiet (fail); try go_wp2)
 go_loopg [3] k (fun kq v3 w' => ∃ (x3_1 : Int), v3 = .int .i64 x3_1 ∧ Aside0 (impl_isSet.l0 kq l0 x3_1 = some r) ∧ Aside0 (kq ≤ k) ∧ Drawn0 w w')
 case atStart => exact ⟨(1), (by first | rfl | (simp; done) | (simp [*]; done)), H', ⟨Nat.le_refl _⟩, by repeat (first | exact Drawn0.refl _ | apply Drawn0.step)⟩
 case round =>
  clear H'
  obtain ⟨x3_1, rfl, HA, HK1, ⟨m1, rfl⟩⟩ := hrel
  cases gk with
  | zero => exact absurd HA.out (by simp [impl_isSet.l0])
  | succ k1 =>
   have H := HA.out
   clear HA
   simp only [impl_isSet.l0] at H
   by_cases c2 : x3_1 < (l0.length : Int)
   rotate_left
   ·rw [if_neg c2] at H
    have c2b0 : decide (x3_1 < (l0.length : Int)) = false := decide_eq_false c2
    clear c2
    obtain rfl := Option.some.inj H
    go_wp2
    repeat (go_quiet (fail); try go_wp2)
    go_ret
    exact ⟨by first | rfl | (simp; done) | (simp [*]; done), by repeat (first | exact Drawn0.refl _ | apply Drawn0.step)⟩

   rw [if_pos c2] at H
   have c2b0 : decide (x3_1 < (l0.length : Int)) = true := decide_eq_true c2
   clear c2
   by_cases c3 : 0 ≤ x3_1
   rotate_left
   ·rw [if_neg c3] at H
    exact absurd H (by simp)
   rw [if_pos c3] at H
   have c3b0 : decide (0 ≤ x3_1) = true := decide_eq_true c3
   clear c3
   obtain ⟨ji4, hji4⟩ : ∃ j_ : Int, (wrap64 (x3_1 - 1)) = j_ := ⟨_, rfl⟩
   replace H : (if 0 ≤ (ji4) then (if (ji4) < (l0.length : Int) then (if (rd l0 x3_1) ≤ (rd l0 (ji4)) then (some false) else (impl_isSet.l0 k1 l0 (wrap64 (x3_1 + 1)))) else (none)) else (none)) = some r := by first | (rw [hji4] at H; exact H) | (simp only [hji4] at H ⊢; exact H)
   have hji4w : (IntKind.i64.wrap (x3_1 - 1)) = ji4 := (i64_w _).trans hji4
   by_cases c5 : 0 ≤ (ji4)
   rotate_left
   ·rw [if_neg c5] at H
    exact absurd H (by simp)
   rw [if_pos c5] at H
   have c5b0 : decide (0 ≤ (ji4)) = true := decide_eq_true c5
   clear c5
   by_cases c6 : (ji4) < (l0.length : Int)
   rotate_left
   ·rw [if_neg c6] at H
    exact absurd H (by simp)
   rw [if_pos c6] at H
   have c6b0 : decide ((ji4) < (l0.length : Int)) = true := decide_eq_true c6
   clear c6
   by_cases c7 : (rd l0 x3_1) ≤ (rd l0 (ji4))
   ·rw [if_pos c7] at H
    have c7b0 : decide ((rd l0 x3_1) ≤ (rd l0 (ji4))) = true := decide_eq_true c7
    clear c7
    obtain rfl := Option.some.inj H
    have p550 : 0 ≤ (x3_1 : Int) := of_decide_eq_true (by first | (with_reducible assumption) | assumption)
    have q550 : x3_1 < (l0.length : Int) := of_decide_eq_true (by first | (with_reducible assumption) | assumption)
    obtain ⟨ad550, e550, hx550_0⟩ := Kd.at_int HR0.out x3_1 p550 q550
    cases e550
    replace p550 := eq_true p550
    replace q550 := eq_true q550
    have p551 : 0 ≤ ((ji4) : Int) := of_decide_eq_true (by first | (with_reducible assumption) | assumption)
    have q551 : (ji4) < (l0.length : Int) := of_decide_eq_true (by first | (with_reducible assumption) | assumption)
    obtain ⟨ad551, e551, hx551_0⟩ := Kd.at_int HR0.out (ji4) p551 q551
    obtain rfl : ad550 = ad551 := (by injection e551)
    replace p551 := eq_true p551
    replace q551 := eq_true q551
    go_wp2
    repeat (go_quiet (fail); try go_wp2)
    go_ret
    exact ⟨by first | rfl | (simp; done) | (simp only [← hji4] <;> (first | rfl | simp)) | (simp [*]; done), by repeat (first | exact Drawn0.refl _ | apply Drawn0.step)⟩
   ·rw [if_neg c7] at H
    have c7b0 : decide ((rd l0 x3_1) ≤ (rd l0 (ji4))) = false := decide_eq_false c7
    clear c7
    have H' := Aside0.mk H
    clear H
    have p550 : 0 ≤ (x3_1 : Int) := of_decide_eq_true (by first | (with_reducible assumption) | assumption)
    have q550 : x3_1 < (l0.length : Int) := of_decide_eq_true (by first | (with_reducible assumption) | assumption)
    obtain ⟨ad550, e550, hx550_0⟩ := Kd.at_int HR0.out x3_1 p550 q550
    cases e550
    replace p550 := eq_true p550
    replace q550 := eq_true q550
    have p551 : 0 ≤ ((ji4) : Int) := of_decide_eq_true (by first | (with_reducible assumption) | assumption)
    have q551 : (ji4) < (l0.length : Int) := of_decide_eq_true (by first | (with_reducible assumption) | assumption)
    obtain ⟨ad551, e551, hx551_0⟩ := Kd.at_int HR0.out (ji4) p551 q551
    obtain rfl : ad550 = ad551 := (by injection e551)
    replace p551 := eq_true p551
    replace q551 := eq_true q551
    go_wp2
    repeat (go_quiet (fail); try go_wp2)
    go_roundg k1
    case measure => have := HK1.out; omega
    case rel => exact ⟨(wrap64 (x3_1 + 1)), (by first | rfl | (simp; done) | (simp [*]; done)), H', ⟨by have := HK1.out; omega⟩, by repeat (first | exact Drawn0.refl _ | apply Drawn0.step)⟩

/-! ### slices_Reverse_int64_int64: function 87 -/
def slices_Reverse_int64_int64.l0 : Nat → List Int → Int → Int → Option (List Int)
 | 0, _, _, _ => none
 | k + 1, x0, x2, x3 => if x2 < x3 then (if 0 ≤ x3 then (if x3 < (x0.length : Int) then (if 0 ≤ x2 then (if x2 < (x0.length : Int) then (slices_Reverse_int64_int64.l0 k ((x0.set (x2 : Int).toNat (rd x0 x3)).set (x3 : Int).toNat (rd x0 x2)) (wrap64 (x2 + 1)) (wrap64 (x3 - 1))) else (none)) else (none)) else (none)) else (none)) else (some x0)
def slices_Reverse_int64_int64.f (k : Nat) (l0 : List Int) : Option (List Int) := slices_Reverse_int64_int64.l0 k l0 0 (wrap64 ((l0.length : Int) - 1))
theorem slices_Reverse_int64_int64.mono_l : ∀ k, (∀ y0 y1 y2, LeO (slices_Reverse_int64_int64.l0 k y0 y1 y2) (slices_Reverse_int64_int64.l0 (k + 1) y0 y1 y2))
 | 0 => fun _ _ _ r h => by simp [slices_Reverse_int64_int64.l0] at h
 | k + 1 => by
  have ih0 := slices_Reverse_int64_int64.mono_l k
  ·intro y0 y1 y2
   unfold slices_Reverse_int64_int64.l0
   repeat' first
   | (with_reducible exact ih0 _ _ _)
   | (with_reducible exact LeO.refl _)
   | (with_reducible exact LeO.none _)
   | (with_reducible refine LeO.ite ?_ ?_)
   | (with_reducible refine LeO.bind ?_ (fun _ => ?_))
   | exact ih0 _ _ _
   | exact LeO.none _
   | refine LeO.ite ?_ ?_
   | refine LeO.bind ?_ (fun _ => ?_)
theorem slices_Reverse_int64_int64.mono : ∀ a0 k, LeO (slices_Reverse_int64_int64.f k a0) (slices_Reverse_int64_int64.f (k + 1) a0) := by
 intro a0 k
 have ih0 := slices_Reverse_int64_int64.mono_l k
 unfold slices_Reverse_int64_int64.f
 repeat' first
   | (with_reducible exact ih0 _ _ _)
   | (with_reducible exact LeO.refl _)
   | (with_reducible exact LeO.none _)
   | (with_reducible refine LeO.ite ?_ ?_)
   | (with_reducible refine LeO.bind ?_ (fun _ => ?_))
   | exact ih0 _ _ _
   | exact LeO.none _
   | refine LeO.ite ?_ ?_
   | refine LeO.bind ?_ (fun _ => ?_)
def slices_Reverse_int64_int64.T3 : Bool × List (List Nat × List Nat) := (true, [([], []), ([], []), ([], []), ([], []), ([], []), ([], []), ([4, 5], [4, 5]), ([6], [6]), ([], []), ([], []), ([8, 9], [8, 9]), ([10], [10]), ([0, 1, 0, 1, 4, 5, 6, 7, 11], [0, 1]), ([12, 7, 0, 1, 4, 5, 6, 7, 11], [7, 12]), ([2, 3, 0, 1, 2, 3, 4, 5, 6, 7, 8, 9, 10, 11, 12, 13], [2, 3]), ([14, 11, 13, 0, 1, 2, 3, 4, 5, 6, 7, 8, 9, 10, 11, 12, 13], [11, 14])])
def slices_Reverse_int64_int64.B3 : List Nat := [0, 0, 0, 0, 0, 0, 48, 112, 0, 0, 768, 1792, 4083, 8179, 16383, 32767]
theorem slices_Reverse_int64_int64.tab3 : rtab .any (opsOf Try.f87 3) = slices_Reverse_int64_int64.T3 := by kernel_rfl
theorem slices_Reverse_int64_int64.bits3 : waitsOk slices_Reverse_int64_int64.T3.2 slices_Reverse_int64_int64.B3 = true := by kernel_rfl
set_option maxHeartbeats 8000000 in
set_option maxRecDepth 100000 in
theorem slices_Reverse_int64_int64.calls (k : Nat) (P0_ : Nat → Prop) (u9000_ : Value) (l0 : List Int) (r : List Int) (w0 w : World) (hB : Below w0.heap.size w0 w) (ho0 : Kd.R (Kd.int .i64) 2 w w0.heap.size P0_ u9000_ l0) (h : slices_Reverse_int64_int64.f k l0 = some r) :
  Calls Try.prog 87 #[u9000_] w fun e w' => e = .returned (.tuple #[]) ∧ Kd.R (Kd.int .i64) 2 w' w0.heap.size (fun k_ => (P0_ k_ ∨ w.heap.size ≤ k_)) u9000_ r ∧ Below w0.heap.size w0 w' ∧ Kept w w' (fun k_ => P0_ k_) := by
 have HO0 := Aside0.mk (show Kd.R (Kd.int .i64) 2 w w0.heap.size (fun k_ => (P0_ k_ ∨ w.heap.size ≤ k_)) u9000_ l0 from Kd.R_mono ho0 (fun k_ hk => (.inl hk)))
 have HK := Aside0.mk (Kept.refl w (fun k_ => P0_ k_))
 have HW0 := Aside0.mk hB.size
 have HB := Aside0.mk hB
 clear hB
 have H : (slices_Reverse_int64_int64.l0 k l0 0 (wrap64 ((l0.length : Int) - 1))) = some r := h
 clear h
 have H' := Aside0.mk H
 clear H
 obtain ⟨Ao2, co2, eo2⟩ := Kd.R_slice HO0.out
 subst eo2
 go_enter Try.func87, Try.ntmps87
 go_wp2
 go_loopg [2, 3] k (fun kq v2 v3 w' => ∃ (x0_1 : List Int) (x2_1 : Int) (x3_1 : Int), v2 = .int .i64 x2_1 ∧ v3 = .int .i64 x3_1 ∧ Aside0 (slices_Reverse_int64_int64.l0 kq x0_1 x2_1 x3_1 = some r) ∧ Aside0 (kq ≤ k) ∧ Aside0 (Kd.R (Kd.int .i64) 2 w' w0.heap.size (fun k_ => (P0_ k_ ∨ w.heap.size ≤ k_)) (.slice Ao2 l0.length co2) x0_1) ∧ Aside0 (Kept w w' (fun k_ => P0_ k_)) ∧ Aside0 (Below w0.heap.size w0 w'))
 case atStart => exact ⟨(l0), (0), (wrap64 ((l0.length : Int) - 1)), (by first | rfl | (simp; done) | (simp [*]; done)), (by first | rfl | (simp; done) | (simp [*]; done)), H', ⟨Nat.le_refl _⟩, ⟨by (with_reducible repeat (first | apply Kd.R_alloc | apply Kd.R_drewN | apply Kd.R_drew)); exact HO0.out⟩, ⟨by repeat (first | (with_reducible first | exact HK.out | apply Kept.alloc | apply Kept.drewN | apply Kept.drew) | exact HK.out)⟩, ⟨by repeat (first | (with_reducible first | exact HB.out | apply below_alloc | apply pw_below_drewN | apply below_drew1) | exact HB.out)⟩⟩
 case round =>
  clear H'
  try clear p2
  obtain ⟨x0_1, x2_1, x3_1, rfl, rfl, HA, HK1, HO_0, HK, HB⟩ := hrel
  have hl0_1 := (Kd.R_reads' HO_0.out).1
  rw [hl0_1] at HO_0
  (try simp only [hl0_1])
  cases gk with
  | zero => exact absurd HA.out (by simp [slices_Reverse_int64_int64.l0])
  | succ k1 =>
   have H := HA.out
   clear HA
   simp only [slices_Reverse_int64_int64.l0] at H
   by_cases c3 : x2_1 < x3_1
   rotate_left
   ·rw [if_neg c3] at H
    have c3b0 : decide (x2_1 < x3_1) = false := decide_eq_false c3
    clear c3
    obtain rfl := Option.some.inj H
    go_wp2
    first | go_end0 | ((try simp only [Exit.inBlock, Exit.then]); refine bodyPost_ret (results_none rfl _ _ _) rfl ?_)
    exact ⟨by first | rfl | (simp [errW_none, errW_some] <;> rfl) | (simp [*, errW_none, errW_some] <;> rfl), (by first | exact (by (with_reducible repeat (first | apply Kd.R_alloc | apply Kd.R_drewN | apply Kd.R_drew)); exact HO_0.out) | (simp only [hl0_1]; exact (by (with_reducible repeat (first | apply Kd.R_alloc | apply Kd.R_drewN | apply Kd.R_drew)); exact HO_0.out))), by repeat (first | (with_reducible first | exact HB.out | apply below_alloc | apply pw_below_drewN | apply below_drew1) | exact HB.out), by repeat (first | (with_reducible first | exact HK.out | apply Kept.alloc | apply Kept.drewN | apply Kept.drew) | exact HK.out)⟩

   rw [if_pos c3] at H
   have c3b0 : decide (x2_1 < x3_1) = true := decide_eq_true c3
   clear c3
   by_cases c4 : 0 ≤ x3_1
   rotate_left
   ·rw [if_neg c4] at H
    exact absurd H (by simp)
   rw [if_pos c4] at H
   have c4b0 : decide (0 ≤ x3_1) = true := decide_eq_true c4
   clear c4
   by_cases c5 : x3_1 < (x0_1.length : Int)
   rotate_left
   ·rw [if_neg c5] at H
    exact absurd H (by simp)
   rw [if_pos c5] at H
   have c5b0 : decide (x3_1 < (x0_1.length : Int)) = true := decide_eq_true c5
   clear c5
   by_cases c6 : 0 ≤ x2_1
   rotate_left
   ·rw [if_neg c6] at H
    exact absurd H (by simp)
   rw [if_pos c6] at H
   have c6b0 : decide (0 ≤ x2_1) = true := decide_eq_true c6
   clear c6
   by_cases c7 : x2_1 < (x0_1.length : Int)
   rotate_left
   ·rw [if_neg c7] at H
    exact absurd H (by simp)
   rw [if_pos c7] at H
   have c7b0 : decide (x2_1 < (x0_1.length : Int)) = true := decide_eq_true c7
   clear c7
   obtain ⟨y554, hy554⟩ : ∃ y_ : List Int, y_ = (x0_1.set (x2_1 : Int).toNat (rd x0_1 x3_1)) := ⟨_, rfl⟩
   replace H : (slices_Reverse_int64_int64.l0 k1 (y554.set (x3_1 : Int).toNat (rd x0_1 x2_1)) (wrap64 (x2_1 + 1)) (wrap64 (x3_1 - 1))) = some r := by first | (rw [hy554]; with_reducible exact H) | (have H2_ := (Option.bind_some _ _).symm.trans H; rw [hy554]; with_reducible exact H2_) | (have H2_ := (Option.bind_some _ _).symm.trans H; with_reducible exact H2_) | with_reducible exact H | (rw [hy554]; exact H) | exact H
   have Ny554 := Aside0.mk hy554
   clear hy554
   obtain ⟨y555, hy555⟩ : ∃ y_ : List Int, y_ = (y554.set (x3_1 : Int).toNat (rd x0_1 x2_1)) := ⟨_, rfl⟩
   replace H : (slices_Reverse_int64_int64.l0 k1 y555 (wrap64 (x2_1 + 1)) (wrap64 (x3_1 - 1))) = some r := by first | (rw [hy555]; with_reducible exact H) | (have H2_ := (Option.bind_some _ _).symm.trans H; rw [hy555]; with_reducible exact H2_) | (have H2_ := (Option.bind_some _ _).symm.trans H; with_reducible exact H2_) | with_reducible exact H | (rw [hy555]; exact H) | exact H
   have Ny555 := Aside0.mk hy555
   clear hy555
   have H' := Aside0.mk H
   clear H
   try go_wp2
   have n0_ := Aside0.mk (Kd.R_drew HO_0.out)
   have n1_ := Aside0.mk (Kept.drew HK.out)
   have n2_ := Aside0.mk (below_drew1 HB.out)
   clear HO_0
   clear HK
   clear HB
   have HO_0 := n0_
   have HK := n1_
   have HB := n2_
   clear n0_ n1_ n2_
   have p552 : 0 ≤ (x3_1 : Int) := of_decide_eq_true (by first | (with_reducible assumption) | assumption)
   have q552 : x3_1 < (x0_1.length : Int) := of_decide_eq_true (by first | (with_reducible assumption) | assumption)
   obtain ⟨ad552, e552, hx552_0⟩ := Kd.at_int (Kd.R_reads' HO_0.out).2.2 x3_1 p552 q552
   cases e552
   replace p552 := eq_true p552
   replace q552 := eq_true q552
   have p553 : 0 ≤ (x2_1 : Int) := of_decide_eq_true (by first | (with_reducible assumption) | assumption)
   have q553 : x2_1 < (x0_1.length : Int) := of_decide_eq_true (by first | (with_reducible assumption) | assumption)
   obtain ⟨ad553, e553, hx553_0⟩ := Kd.at_int (Kd.R_reads' HO_0.out).2.2 x2_1 p553 q553
   obtain rfl : ad552 = ad553 := (by injection e553)
   replace p553 := eq_true p553
   replace q553 := eq_true q553
   have p8 : 0 ≤ (x2_1 : Int) := of_decide_eq_true (by first | (with_reducible assumption) | assumption)
   have q8 : (x2_1 : Int) < ((x0_1.length : Int) : Int) := of_decide_eq_true (by first | (with_reducible assumption) | assumption)
   obtain ⟨go8, co8, eo8, gb8, gl8, cl8, HG8⟩ := Kd.R_form HO_0.out (by omega)
   (first | cases eo8 | (injection eo8 with ea_ en_ ec_; (first | subst ea_ | (injection ea_ with ea_; subst ea_)); subst ec_; clear en_))
   have GB8 := Aside0.mk gb8
   have GG8 := Aside0.mk HG8
   clear gb8 gl8 HG8
   have HMgo8 := Aside0.mk (show (P0_ go8 ∨ w.heap.size ≤ go8) from (HO_0.out.1 _ rfl))
   (first | simp only [add_plain] at hx552_0 | skip)
   (first | simp only [add_plain] at hx553_0 | skip)
   obtain ⟨hx8_0, hf8_0⟩ := Kd.R_celln 0 HO_0.out (x2_1 : Int) p8 q8
   replace p8 := eq_true p8
   replace q8 := eq_true q8
   have HP11 := Kd.R_putn HO_0.out (x2_1 : Int) (rd x0_1 x3_1)
   rw [← Ny554.out] at HP11
   have HQ11 := Aside0.mk HP11
   clear HP11
   have p9 : 0 ≤ (x3_1 : Int) := of_decide_eq_true (by first | (with_reducible assumption) | assumption)
   have q9 : (x3_1 : Int) < ((x0_1.length : Int) : Int) := of_decide_eq_true (by first | (with_reducible assumption) | assumption)
   obtain ⟨hx9_0, hf9_0⟩ := Kd.R_celln 0 HQ11.out (x3_1 : Int) p9 q9
   replace p9 := eq_true p9
   replace q9 := eq_true q9
   have HP12 := Kd.R_putn HQ11.out (x3_1 : Int) (rd x0_1 x2_1)
   rw [← Ny555.out] at HP12
   have HQ12 := Aside0.mk HP12
   clear HP12
   refine start_ (n := 16) (S := fun w' => w'.cell? ⟨go8, (x3_1).toNat, none⟩ = some (.int .i64 (rd x0_1 x3_1)) ∧ w'.cell? ⟨go8, (x2_1).toNat, none⟩ = some (.int .i64 (rd x0_1 x2_1))) (ds := [13, 15]) #[false, false, false, false, false, false, false, false, false, false, false, false, false, false, false, false] (by kernel_rfl) rfl rfl ⟨hx552_0, hx553_0⟩ (fun hHeld => ?_); refine with_tabW slices_Reverse_int64_int64.tab3 slices_Reverse_int64_int64.bits3 (fun HT_ HW_ => ?_)
   generalize wr.drew = w10 at HO_0 HK HB GG8 HQ11 HQ12 hf8_0 hf9_0 hx552_0 hx553_0 hx8_0 hx9_0 hHeld ⊢
   refine pure_ (i := 0) (N := some 14) (v := ?_) (a' := ?_) #[true, false, false, false, false, false, false, false, false, false, false, false, false, false, false, false] rfl rfl (any_of HT_.out (by kernel_rfl)) (fun _ _ _ h => h) (Or.inl ⟨by rfl, ?_⟩) ?_ ?_
   rotate_left
   ·intro w'
    go_simp
    with_reducible rfl
   rotate_left
   ·simp only [Act.put, List.setIfInBounds_toArray, List.set_cons_zero, List.set_cons_succ, i64_w, i32_w]
    rfl
   refine pure_ (i := 1) (N := some 15) (v := ?_) (a' := ?_) #[true, true, false, false, false, false, false, false, false, false, false, false, false, false, false, false] rfl rfl (any_of HT_.out (by kernel_rfl)) (fun _ _ _ h => h) (Or.inl ⟨by rfl, ?_⟩) ?_ ?_
   rotate_left
   ·intro w'
    go_simp
    with_reducible rfl
   rotate_left
   ·simp only [Act.put, List.setIfInBounds_toArray, List.set_cons_zero, List.set_cons_succ, i64_w, i32_w]
    rfl
   refine pure_ (i := 2) (N := some 16) (v := ?_) (a' := ?_) #[true, true, true, false, false, false, false, false, false, false, false, false, false, false, false, false] rfl rfl (any_of HT_.out (by kernel_rfl)) (fun _ _ _ h => h) (Or.inl ⟨by rfl, ?_⟩) ?_ ?_
   rotate_left
   ·intro w'
    go_simp
    with_reducible rfl
   rotate_left
   ·simp only [Act.put, List.setIfInBounds_toArray, List.set_cons_zero, List.set_cons_succ, i64_w, i32_w]
    rfl
   refine pure_ (i := 3) (N := some 17) (v := ?_) (a' := ?_) #[true, true, true, true, false, false, false, false, false, false, false, false, false, false, false, false] rfl rfl (any_of HT_.out (by kernel_rfl)) (fun _ _ _ h => h) (Or.inl ⟨by rfl, ?_⟩) ?_ ?_
   rotate_left
   ·intro w'
    go_simp
    with_reducible rfl
   rotate_left
   ·simp only [Act.put, List.setIfInBounds_toArray, List.set_cons_zero, List.set_cons_succ, i64_w, i32_w]
    rfl
   refine pure_ (i := 4) (N := some 18) (v := ?_) (a' := ?_) #[true, true, true, true, true, false, false, false, false, false, false, false, false, false, false, false] rfl rfl (any_of HT_.out (by kernel_rfl)) (fun _ _ _ h => h) (Or.inl ⟨by rfl, ?_⟩) ?_ ?_
   rotate_left
   ·intro w'
    go_simp
    with_reducible rfl
   rotate_left
   ·simp only [Act.put, List.setIfInBounds_toArray, List.set_cons_zero, List.set_cons_succ, i64_w, i32_w]
    rfl
   refine pure_ (i := 5) (N := some 19) (v := ?_) (a' := ?_) #[true, true, true, true, true, true, false, false, false, false, false, false, false, false, false, false] rfl rfl (any_of HT_.out (by kernel_rfl)) (fun _ _ _ h => h) (Or.inl ⟨by rfl, ?_⟩) ?_ ?_
   rotate_left
   ·intro w'
    go_simp
    with_reducible rfl
   rotate_left
   ·simp only [Act.put, List.setIfInBounds_toArray, List.set_cons_zero, List.set_cons_succ, i64_w, i32_w]
    rfl
   refine pure_ (i := 6) (N := some 20) (v := ?_) (a' := ?_) #[true, true, true, true, true, true, true, false, false, false, false, false, false, false, false, false] rfl rfl (any_of HT_.out (by kernel_rfl)) (fun _ _ _ h => h) (Or.inl ⟨by rfl, ?_⟩) ?_ ?_
   rotate_left
   ·intro w'
    go_simp
    with_reducible rfl
   rotate_left
   ·simp only [Act.put, List.setIfInBounds_toArray, List.set_cons_zero, List.set_cons_succ, i64_w, i32_w]
    rfl
   refine pure_ (i := 8) (N := some 22) (v := ?_) (a' := ?_) #[true, true, true, true, true, true, true, false, true, false, false, false, false, false, false, false] rfl rfl (any_of HT_.out (by kernel_rfl)) (fun _ _ _ h => h) (Or.inl ⟨by rfl, ?_⟩) ?_ ?_
   rotate_left
   ·intro w'
    go_simp
    with_reducible rfl
   rotate_left
   ·simp only [Act.put, List.setIfInBounds_toArray, List.set_cons_zero, List.set_cons_succ, i64_w, i32_w]
    rfl
   refine pure_ (i := 9) (N := some 23) (v := ?_) (a' := ?_) #[true, true, true, true, true, true, true, false, true, true, false, false, false, false, false, false] rfl rfl (any_of HT_.out (by kernel_rfl)) (fun _ _ _ h => h) (Or.inl ⟨by rfl, ?_⟩) ?_ ?_
   rotate_left
   ·intro w'
    go_simp
    with_reducible rfl
   rotate_left
   ·simp only [Act.put, List.setIfInBounds_toArray, List.set_cons_zero, List.set_cons_succ, i64_w, i32_w]
    rfl
   refine pure_ (i := 10) (N := some 24) (v := ?_) (a' := ?_) #[true, true, true, true, true, true, true, false, true, true, true, false, false, false, false, false] rfl rfl (any_of HT_.out (by kernel_rfl)) (fun _ _ _ h => h) (Or.inl ⟨by rfl, ?_⟩) ?_ ?_
   rotate_left
   ·intro w'
    go_simp
    with_reducible rfl
   rotate_left
   ·simp only [Act.put, List.setIfInBounds_toArray, List.set_cons_zero, List.set_cons_succ, i64_w, i32_w]
    rfl
   refine take_ (i := 7) (N := some 21) (v := ?_) (a' := ?_) #[true, true, true, true, true, true, true, true, true, true, true, false, false, false, false, false] rfl rfl (take_ofW HT_.out HW_.out (by kernel_rfl)) (fun _ _ _ h => h) (Or.inl ⟨by rfl, ?_⟩) hHeld ?_ ?_
   rotate_left
   ·rintro w' ⟨s0, s1⟩
    go_simp
    with_reducible rfl
   rotate_left
   ·simp only [Act.put, List.setIfInBounds_toArray, List.set_cons_zero, List.set_cons_succ, i64_w, i32_w]
    rfl
   refine take_ (i := 11) (N := some 25) (v := ?_) (a' := ?_) #[true, true, true, true, true, true, true, true, true, true, true, true, false, false, false, false] rfl rfl (take_ofW HT_.out HW_.out (by kernel_rfl)) (fun _ _ _ h => h) (Or.inl ⟨by rfl, ?_⟩) hHeld ?_ ?_
   rotate_left
   ·rintro w' ⟨s0, s1⟩
    go_simp
    with_reducible rfl
   rotate_left
   ·simp only [Act.put, List.setIfInBounds_toArray, List.set_cons_zero, List.set_cons_succ, i64_w, i32_w]
    rfl
   refine pure_ (i := 12) (N := some 26) (v := ?_) (a' := ?_) #[true, true, true, true, true, true, true, true, true, true, true, true, true, false, false, false] rfl rfl (any_of HT_.out (by kernel_rfl)) (fun _ _ _ h => h) (Or.inl ⟨by rfl, ?_⟩) ?_ ?_
   rotate_left
   ·intro w'
    go_simp
    with_reducible rfl
   rotate_left
   ·simp only [Act.put, List.setIfInBounds_toArray, List.set_cons_zero, List.set_cons_succ, i64_w, i32_w]
    rfl
   refine last_ (i := 13) (N := none) #[true, true, true, true, true, true, true, true, true, true, true, true, true, true, false, false] rfl rfl (one_of HT_.out (by kernel_rfl)) (by decide) (fun K hK => ?_)
   refine skip_ (w1 := ?_) (by rfl) rfl ?_ ?_
   rotate_left
   ·go_simp
    rfl
   refine hK.out _ _ ?_
   clear hK K
   refine pure_ (i := 14) (N := some 27) (v := ?_) (a' := ?_) #[true, true, true, true, true, true, true, true, true, true, true, true, true, true, true, false] rfl rfl (any_of HT_.out (by kernel_rfl)) (fun _ _ _ h => h) (Or.inl ⟨by rfl, ?_⟩) ?_ ?_
   rotate_left
   ·intro w'
    go_simp
    with_reducible rfl
   rotate_left
   ·simp only [Act.put, List.setIfInBounds_toArray, List.set_cons_zero, List.set_cons_succ, i64_w, i32_w]
    rfl
   refine last_ (i := 15) (N := none) #[true, true, true, true, true, true, true, true, true, true, true, true, true, true, true, true] rfl rfl (one_of HT_.out (by kernel_rfl)) (by decide) (fun K hK => ?_)
   refine skip_ (w1 := ?_) (by rfl) rfl ?_ ?_
   rotate_left
   ·go_simp
    rfl
   refine hK.out _ _ ?_
   clear hK K
   refine done_ (done_of HT_.out (by kernel_rfl)) ?_
   try go_wp2
   (try simp only [← hl0_1])
   go_roundg k1
   case measure => have := HK1.out; omega
   case rel => exact ⟨(y555), (wrap64 (x2_1 + 1)), (wrap64 (x3_1 - 1)), (by first | rfl | (simp; done) | (simp [*]; done)), (by first | rfl | (simp; done) | (simp [*]; done)), H', ⟨by have := HK1.out; omega⟩, ⟨by (try simp only [hl0_1]); (with_reducible repeat (first | apply Kd.R_alloc | apply Kd.R_drewN | apply Kd.R_drew)); exact HQ12.out⟩, ⟨by repeat (first | (with_reducible first | exact HK.out | apply Kept.alloc | apply Kept.drewN | apply Kept.drew | refine Kept.setCell ?_ HMgo8.out _ | refine Kept.setCell ?_ HMgo8.out _) | exact HK.out)⟩, ⟨by repeat (first | (with_reducible first | exact HB.out | apply below_alloc | apply pw_below_drewN | apply below_drew1 | refine below_set ?_ GB8.out | refine below_set ?_ GB8.out) | exact HB.out)⟩⟩

/-! ### impl_NeededFor: function 48 -/
/-- The marks of the first i cells of a list. -/
def lvm (c : List Int) : Nat → Nat → Bool
 | 0 => fun _ => false
 | i + 1 => put (lvm c i) (rd c (i : Int)) true
/-- The marks and the list of statements, behind x statements from the end. -/
def ndd (l : List S58) (m : Nat → Bool) : Nat → (Nat → Bool) × List Int
 | 0 => (m, [])
 | x + 1 => if (ndd l m x).1 (rd_T58 l ((l.length : Int) - 1 - (x : Int))).f1.toNat = true then (put (put (put (ndd l m x).1 (rd_T58 l ((l.length : Int) - 1 - (x : Int))).f1 false) (rd_T58 l ((l.length : Int) - 1 - (x : Int))).f2 true) (rd_T58 l ((l.length : Int) - 1 - (x : Int))).f3 true, (ndd l m x).2 ++ [(l.length : Int) - 1 - (x : Int)]) else ndd l m x
theorem ndd_len (l : List S58) (m : Nat → Bool) (x : Nat) : (ndd l m x).2.length ≤ x := by
 induction x with
 | zero => simp [ndd]
 | succ x ih =>
  unfold ndd
  split
  ·simp; omega
  ·omega
theorem ndd_t {l : List S58} {m : Nat → Bool} {x i : Nat} (hi : (l.length : Int) - 1 - (x : Int) = (i : Int)) (h : (ndd l m x).1 (rd_T58 l (i : Int)).f1.toNat = true) : ndd l m (x + 1) = (put (put (put (ndd l m x).1 (rd_T58 l (i : Int)).f1 false) (rd_T58 l (i : Int)).f2 true) (rd_T58 l (i : Int)).f3 true, (ndd l m x).2 ++ [(i : Int)]) := by
 conv => lhs; unfold ndd
 rw [hi, if_pos h]
theorem ndd_f {l : List S58} {m : Nat → Bool} {x i : Nat} (hi : (l.length : Int) - 1 - (x : Int) = (i : Int)) (h : (ndd l m x).1 (rd_T58 l (i : Int)).f1.toNat = false) : ndd l m (x + 1) = ndd l m x := by
 conv => lhs; unfold ndd
 rw [hi, if_neg (by rw [h]; decide)]
def celAll (c : List Int) : Bool := (List.range c.length).all fun j => cellB (rd c (j : Int))
theorem celAll_at {c : List Int} (h : celAll c = true) {j : Nat} (hj : j < c.length) : 0 ≤ rd c (j : Int) ∧ rd c (j : Int) ≤ 31 := by
 unfold celAll at h
 rw [List.all_eq_true] at h
 exact cellB_iff.mp (h j (List.mem_range.mpr hj))
def impl_NeededFor.f (k : Nat) (l0 : List (S58)) (l1 : List Int) : Option (List Int × Bool) := if vOk l0 = true then ((impl_isSet.f k l1).bind fun t => if t = true then (if celAll l1 = true then ((slices_Reverse_int64_int64.f k (ndd l0 (lvm l1 l1.length) l0.length).2).bind fun r => some (r, true)) else some ([], false)) else some ([], false)) else some ([], false)
theorem impl_NeededFor.mono : ∀ a0 a1 k, LeO (impl_NeededFor.f k a0 a1) (impl_NeededFor.f (k + 1) a0 a1) := by
 intro a0 a1 k
 unfold impl_NeededFor.f
 refine LeO.ite ?_ (LeO.refl _)
 refine LeO.bind (impl_isSet.mono _ _) (fun _ => ?_)
 refine LeO.ite (LeO.ite ?_ (LeO.refl _)) (LeO.refl _)
 exact LeO.bind (slices_Reverse_int64_int64.mono _ _) (fun _ => LeO.refl _)
theorem Arr_far' {w : World} {base g : Nat} {m : Nat → Bool} (h : Arr w base g m) {p : Addr} (hp : g ≠ p.block) (u : Value) : Arr (w.setCell p u) base g m :=
 Kd.R_mono (Kd.R_far (Kd.R_tight rfl h) (p := p) (fun k hk => by injection hk with hk; rw [hk]; exact hp) u) (fun _ _ => trivial)
theorem Arr_lt' {w : World} {base g : Nat} {m : Nat → Bool} (h : Arr w base g m) : g < w.heap.size := by
 have := Arr_heap h
 exact (Array.getElem?_eq_some_iff.mp this).1
theorem isCell_any (x : Int) (W : World) : Calls Try.prog 65 (#[.int .i64 x] ++ #[]) W fun e w' => e = .returned (.bool (cellB x)) ∧ Below W.heap.size W w' := by
 refine (impl_isCell.calls x (cellB x) W ?_).mono ?_
 ·exact iCell x
 ·rintro e w' ⟨rfl, ⟨nd, rfl⟩⟩
  exact ⟨rfl, pw_below_drewN (Below.refl _ _) _⟩
set_option maxHeartbeats 16000000 in
set_option maxRecDepth 100000 in
theorem impl_NeededFor.calls (k : Nat) (A0 : Option Addr) (c0 : Nat) (l0 : List (S58)) (A1 : Option Addr) (c1 : Nat) (l1 : List Int) (r1 : List Int) (r2 : Bool) (w : World) (hr0 : Kd.C k58 w A0 l0.length l0) (hc0 : l0.length ≤ c0) (hr1 : Kd.C (Kd.int .i64) w A1 l1.length l1) (hc1 : l1.length ≤ c1) (h : impl_NeededFor.f k l0 l1 = some (r1, r2)) :
  Calls Try.prog 48 #[.slice A0 l0.length c0, .slice A1 l1.length c1] w fun e w' => ∃ v0_ : Value, e = .returned (.tuple #[v0_, .bool r2]) ∧ Kd.R (Kd.int .i64) 2 w' w.heap.size (fun _ => True) v0_ r1 ∧ Below w.heap.size w w' := by
 unfold impl_NeededFor.f at h
 have HR := Aside0.mk hr0
 have HC := Aside0.mk hc0
 have HR1 := Aside0.mk hr1
 have HC1 := Aside0.mk hc1
 have HBZ := Aside0.mk (Below.refl w.heap.size w)
 have hA := fun (W : World) (hB : Below w.heap.size w W) =>
  areAll_i 65 #[] (enters_of Try.func65 (by kernel_rfl) rfl) A1 l1.length c1 _ (fun j => cellB (rd l1 (j : Int))) W
   (ElemsI.of_ints (Kd.C_below hr1 hB)) (fun j hj W' hb' => isCell_any (rd l1 (j : Int)) W')
 have HA := Aside0.mk hA
 clear hr0 hc0 hr1 hc1 hA
 by_cases hx : vOk l0 = true
 rotate_left
 ·rw [if_neg hx] at h
  obtain ⟨rfl, rfl⟩ := Prod.mk.inj (Option.some.inj h)
  have HV : Aside0 (impl_ValidCode.f 0 l0 = some false) := ⟨by rw [Bool.not_eq_true] at hx; rw [← hx]; rfl⟩
  clear hx h
  go_enter Try.func48, Try.ntmps48
  go_wp2_with (first | (go_at_call 21; (with_reducible refine (impl_ValidCode.calls 0 A0 c0 l0 false _ ?s1 HC.out HV.out).mono ?_); (case s1 => exact Kd.C_below HR.out (by repeat (first | exact HBZ.out | apply below_alloc | apply pw_below_drewN | apply below_drew1))); rintro e w1 ⟨rfl, hb1⟩; have n0_ : Aside0 (Below w.heap.size w w1) := ⟨below_step (by repeat (first | exact HBZ.out | apply below_alloc | apply pw_below_drewN | apply below_drew1)) hb1⟩; clear hb1 HBZ; have HBZ := n0_; clear n0_))
  go_ret2
  exact ⟨_, rfl, Kd.R_nil _ _ _ _ _, (by repeat (first | exact HBZ.out | apply below_alloc | apply pw_below_drewN | apply below_drew1))⟩
 rw [if_pos hx] at h
 have HL := Aside0.mk (vOk_len hx)
 have HX := Aside0.mk hx
 have HV : Aside0 (impl_ValidCode.f 0 l0 = some true) := ⟨by rw [← hx]; rfl⟩
 clear hx
 obtain ⟨t, ht, h2⟩ := Option.bind_eq_some_iff.mp h
 clear h
 try dsimp only at h2
 by_cases hs : t = true
 rotate_left
 ·rw [if_neg hs] at h2
  rw [Bool.not_eq_true] at hs
  subst hs
  obtain ⟨rfl, rfl⟩ := Prod.mk.inj (Option.some.inj h2)
  have HT := Aside0.mk ht
  clear ht h2
  go_enter Try.func48, Try.ntmps48
  go_wp2_with (first | (go_at_call 21; (with_reducible refine (impl_ValidCode.calls 0 A0 c0 l0 true _ ?s1 HC.out HV.out).mono ?_); (case s1 => exact Kd.C_below HR.out (by repeat (first | exact HBZ.out | apply below_alloc | apply pw_below_drewN | apply below_drew1))); rintro e w1 ⟨rfl, hb1⟩; have n0_ : Aside0 (Below w.heap.size w w1) := ⟨below_step (by repeat (first | exact HBZ.out | apply below_alloc | apply pw_below_drewN | apply below_drew1)) hb1⟩; clear hb1 HBZ; have HBZ := n0_; clear n0_) | (go_at_call 85; (with_reducible refine (impl_isSet.calls k _ c1 l1 false _ ?s2 HC1.out HT.out).mono ?_); (case s2 => exact Kd.C_below HR1.out (by repeat (first | exact HBZ.out | apply below_alloc | apply pw_below_drewN | apply below_drew1))); rintro e w' ⟨rfl, ⟨nd, rfl⟩⟩))
  go_ret2
  exact ⟨_, rfl, Kd.R_nil _ _ _ _ _, (by repeat (first | exact HBZ.out | apply below_alloc | apply pw_below_drewN | apply below_drew1))⟩
 rw [if_pos hs] at h2
 subst hs
 have HT := Aside0.mk ht
 clear ht
 by_cases hq : celAll l1 = true
 rotate_left
 ·rw [if_neg hq] at h2
  rw [Bool.not_eq_true] at hq
  unfold celAll at hq
  rw [hq] at HA
  obtain ⟨rfl, rfl⟩ := Prod.mk.inj (Option.some.inj h2)
  clear h2 hq
  go_enter Try.func48, Try.ntmps48
  go_wp2_with (first | (go_at_call 21; (with_reducible refine (impl_ValidCode.calls 0 A0 c0 l0 true _ ?s1 HC.out HV.out).mono ?_); (case s1 => exact Kd.C_below HR.out (by repeat (first | exact HBZ.out | apply below_alloc | apply pw_below_drewN | apply below_drew1))); rintro e w1 ⟨rfl, hb1⟩; have n0_ : Aside0 (Below w.heap.size w w1) := ⟨below_step (by repeat (first | exact HBZ.out | apply below_alloc | apply pw_below_drewN | apply below_drew1)) hb1⟩; clear hb1 HBZ; have HBZ := n0_; clear n0_) | (go_at_call 85; (with_reducible refine (impl_isSet.calls k _ c1 l1 true _ ?s2 HC1.out HT.out).mono ?_); (case s2 => exact Kd.C_below HR1.out (by repeat (first | exact HBZ.out | apply below_alloc | apply pw_below_drewN | apply below_drew1))); rintro e w' ⟨rfl, ⟨nd, rfl⟩⟩) | (go_at_call 86; refine (HA.out _ (by repeat (first | exact HBZ.out | apply below_alloc | apply pw_below_drewN | apply below_drew1))).mono ?_; rintro e w3 ⟨rfl, hb3⟩; have n0_ : Aside0 (Below w.heap.size w w3) := ⟨below_step (by repeat (first | exact HBZ.out | apply below_alloc | apply pw_below_drewN | apply below_drew1)) hb3⟩; clear hb3 HBZ; have HBZ := n0_; clear n0_))
  go_ret2
  exact ⟨_, rfl, Kd.R_nil _ _ _ _ _, (by repeat (first | exact HBZ.out | apply below_alloc | apply pw_below_drewN | apply below_drew1))⟩
 rw [if_pos hq] at h2
 obtain ⟨rr, hrv, h3⟩ := Option.bind_eq_some_iff.mp h2
 clear h2
 try dsimp only at h3
 obtain ⟨rfl, rfl⟩ := Prod.mk.inj (Option.some.inj h3)
 have HQ := Aside0.mk hq
 have HRV := Aside0.mk hrv
 unfold celAll at hq
 rw [hq] at HA
 clear h3 hq hrv
 go_enter Try.func48, Try.ntmps48
 go_wp2_with (first | (go_at_call 21; (with_reducible refine (impl_ValidCode.calls 0 A0 c0 l0 true _ ?s1 HC.out HV.out).mono ?_); (case s1 => exact Kd.C_below HR.out (by repeat (first | exact HBZ.out | apply below_alloc | apply pw_below_drewN | apply below_drew1))); rintro e w1 ⟨rfl, hb1⟩; have n0_ : Aside0 (Below w.heap.size w w1) := ⟨below_step (by repeat (first | exact HBZ.out | apply below_alloc | apply pw_below_drewN | apply below_drew1)) hb1⟩; clear hb1 HBZ; have HBZ := n0_; clear n0_) | (go_at_call 85; (with_reducible refine (impl_isSet.calls k _ c1 l1 true _ ?s2 HC1.out HT.out).mono ?_); (case s2 => exact Kd.C_below HR1.out (by repeat (first | exact HBZ.out | apply below_alloc | apply pw_below_drewN | apply below_drew1))); rintro e w' ⟨rfl, ⟨nd, rfl⟩⟩) | (go_at_call 86; refine (HA.out _ (by repeat (first | exact HBZ.out | apply below_alloc | apply pw_below_drewN | apply below_drew1))).mono ?_; rintro e w3 ⟨rfl, hb3⟩; have n0_ : Aside0 (Below w.heap.size w w3) := ⟨below_step (by repeat (first | exact HBZ.out | apply below_alloc | apply pw_below_drewN | apply below_drew1)) hb3⟩; clear hb3 HBZ; have HBZ := n0_; clear n0_))
 have HAr : Aside0 (Arr (w3.alloc (.cells (mk32 fun _ => false) 79)) w.heap.size w3.heap.size (lvm l1 0)) := ⟨Arr_new w3 _ (below_size HBZ.out) _⟩
 have HB2 : Aside0 (Below w.heap.size w (w3.alloc (.cells (mk32 fun _ => false) 79))) := ⟨below_alloc HBZ.out _⟩
 unfold mk32 at HAr HB2
 generalize w3.alloc _ = w4 at HAr HB2 ⊢
 generalize w3.heap.size = g at HAr ⊢
 clear HBZ HA
 have HN1 : Aside0 (l1.length ≤ 9223372036854775807) := ⟨HR1.out.2.1⟩
 go_loopg [8, 27] l1.length (fun kq v8 v27 w' => ∃ x : Nat, v27 = .int .i64 (x : Int) ∧ Aside0 (Arr w' w.heap.size g (lvm l1 x)) ∧ Aside0 (x ≤ l1.length) ∧ Aside0 (l1.length - x ≤ kq) ∧ Aside0 (Below w.heap.size w w'))
 case atStart => exact ⟨0, rfl, HAr, ⟨Nat.zero_le _⟩, ⟨by simp⟩, HB2⟩
 case round =>
  clear HAr HB2
  obtain ⟨x, rfl, HAr, H1, HK, HB⟩ := hrel
  by_cases c3 : (x : Int) < (l1.length : Int)
  ·have hxl : x < l1.length := by omega
   obtain ⟨d0, d1⟩ := celAll_at HQ.out hxl
   have c6 : 0 ≤ (x : Int) := Int.natCast_nonneg _
   obtain ⟨ad, e1, hx0⟩ := Kd.at_int (Kd.C_below HR1.out HB.out) (x : Int) c6 c3
   cases e1
   rw [Int.toNat_natCast] at hx0
   have HW : Aside0 (wrap64 ((x : Int) + 1) = ((x + 1 : Nat) : Int)) := ⟨by have := HN1.out; unfold wrap64; omega⟩
   have HX2 := Aside0.mk hxl
   have c3b0 : decide ((x : Int) < (l1.length : Int)) = true := decide_eq_true c3
   have D0 := Aside0.mk d0
   have D1 := Aside0.mk d1
   obtain ⟨hc, hf⟩ := Arr_cell HAr.out _ d0 d1
   have d32 : rd l1 (x : Int) < 32 := by omega
   clear hxl
   go_wp2
   go_roundg (l1.length - (x + 1))
   case measure => have := HK.out; have := HX2.out; omega
   case rel =>
    have := HX2.out
    exact ⟨x + 1, by first | rfl | rw [HW.out], ⟨Arr_put HAr.out _ D0.out D1.out true⟩, ⟨by omega⟩, ⟨by omega⟩, ⟨below_set HB.out (Arr_base HAr.out)⟩⟩
  ·have c3b0 : decide ((x : Int) < (l1.length : Int)) = false := decide_eq_false c3
   have HX2 : Aside0 (x = l1.length) := ⟨by have := H1.out; omega⟩
   have c3n : (x < l1.length) = False := eq_false (by omega)
   clear c3
   have hAr2 := HAr.out
   rw [HX2.out] at hAr2
   have HAr2 := Aside0.mk hAr2
   clear HAr hAr2
   have HW0 : Aside0 (wrap64 ((l0.length : Int) - 1) = (l0.length : Int) - 1 - ((0 : Nat) : Int)) := ⟨by have := HL.out; unfold wrap64; omega⟩
   go_wp2
   go_loopg [9, 10, 11] l0.length (fun kq v9 v10 v11 w' => ∃ y : Nat, v10 = .int .i64 ((l0.length : Int) - 1 - (y : Int)) ∧ Aside0 (Arr w' w.heap.size g (ndd l0 (lvm l1 l1.length) y).1) ∧ Aside0 (Kd.R (Kd.int .i64) 2 w' w.heap.size (fun k_ => k_ ≠ g) v9 (ndd l0 (lvm l1 l1.length) y).2) ∧ Aside0 (y ≤ l0.length) ∧ Aside0 (l0.length - y ≤ kq) ∧ Aside0 (Below w.heap.size w w'))
   case atStart => exact ⟨0, by first | rfl | rw [HW0.out], HAr2, ⟨Kd.R_nil _ _ _ _ _⟩, ⟨Nat.zero_le _⟩, ⟨by simp⟩, HB⟩
   case round =>
    clear HAr2 HB
    obtain ⟨y, rfl, HAr, HO, HY, HKY, HB⟩ := hrel
    by_cases c4 : (l0.length : Int) - 1 - (y : Int) ≥ 0
    rotate_left
    ·have HYX : Aside0 (y = l0.length) := ⟨by have := HY.out; omega⟩
     have hm1 : (l0.length : Int) - 1 - (y : Int) = -1 := by have := HYX.out; omega
     rw [hm1]
     clear c4 hm1
     go_wp2_with (first | (go_at_call 87; refine (slices_Reverse_int64_int64.calls k (fun k_ => k_ ≠ g) _ (ndd l0 (lvm l1 l1.length) l0.length).2 rr w _ HB.out ?s1 HRV.out).mono ?_; (case s1 => have := HO.out; rw [HYX.out] at this; exact this); rintro e w' ⟨rfl, ho, hb, _⟩))
     go_ret2
     exact ⟨_, rfl, Kd.R_mono ho (fun _ _ => trivial), hb⟩

    have hyl : y < l0.length := by omega
    have HYL := Aside0.mk hyl
    obtain ⟨i, hi⟩ : ∃ i : Nat, (l0.length : Int) - 1 - (y : Int) = (i : Int) := ⟨l0.length - 1 - y, by omega⟩
    have hil : i < l0.length := by omega
    obtain ⟨_, ⟨d0, d1⟩, ⟨a0, a1⟩, b0, b1⟩ := vOk_at HX.out hil
    have HI := Aside0.mk hi
    rw [hi] at c4 ⊢
    have c6 : 0 ≤ (i : Int) := Int.natCast_nonneg _
    obtain ⟨ad, e1, hx0, hx1, hx2, hx3⟩ := at_T58 (Kd.C_below HR.out HB.out) (i : Int) c6 (by omega)
    cases e1
    rw [Int.toNat_natCast] at hx0 hx1 hx2 hx3
    have hil2 : (i : Int) < (l0.length : Int) := by omega
    have D0 := Aside0.mk d0
    have D1 := Aside0.mk d1
    have E0 := Aside0.mk a0
    have E1 := Aside0.mk a1
    have F0 := Aside0.mk b0
    have F1 := Aside0.mk b1
    have hwd : (rd_T58 l0 (i : Int)).f1 < 32 := by omega
    have hwa : (rd_T58 l0 (i : Int)).f2 < 32 := by omega
    have hwb : (rd_T58 l0 (i : Int)).f3 < 32 := by omega
    have HW : Aside0 (wrap64 ((i : Int) - 1) = (l0.length : Int) - 1 - ((y + 1 : Nat) : Int)) := ⟨by have := HL.out; unfold wrap64; omega⟩
    have hA2 := Aside0.mk (fun o => Arr_below HAr.out (below_alloc (Below.refl _ _) o))
    have hc : ∀ o, (wr.alloc o).cell? ⟨g, ((rd_T58 l0 (i : Int)).f1).toNat, none⟩ = some (.bool ((ndd l0 (lvm l1 l1.length) y).1 ((rd_T58 l0 (i : Int)).f1).toNat)) := fun o => (Arr_cell (hA2.out o) _ d0 d1).1
    have hf : ∀ o, (wr.alloc o).frozen? ⟨g, ((rd_T58 l0 (i : Int)).f1).toNat, none⟩ = false := fun o => (Arr_cell (hA2.out o) _ d0 d1).2
    clear hi hyl
    cases hm : (ndd l0 (lvm l1 l1.length) y).1 ((rd_T58 l0 (i : Int)).f1).toNat with
    | true =>
     rw [hm] at hc
     have HM := Aside0.mk hm
     clear hm
     go_wp2
     have hgs := Arr_lt' HAr.out
     have HGS := Aside0.mk hgs
     have HA5 : Aside0 (Arr ((wr.alloc (.cells #[.int .i64 (rd_T58 l0 (i : Int)).f0, .int .i64 (rd_T58 l0 (i : Int)).f1, .int .i64 (rd_T58 l0 (i : Int)).f2, .int .i64 (rd_T58 l0 (i : Int)).f3] 58)).setCell ⟨g, ((rd_T58 l0 (i : Int)).f1).toNat, none⟩ (.bool false)) w.heap.size g (put (ndd l0 (lvm l1 l1.length) y).1 (rd_T58 l0 (i : Int)).f1 false)) := ⟨Arr_put (hA2.out _) _ D0.out D1.out false⟩
     have HC5 : Aside0 (C2k ((wr.alloc (.cells #[.int .i64 (rd_T58 l0 (i : Int)).f0, .int .i64 (rd_T58 l0 (i : Int)).f1, .int .i64 (rd_T58 l0 (i : Int)).f2, .int .i64 (rd_T58 l0 (i : Int)).f3] 58)).setCell ⟨g, ((rd_T58 l0 (i : Int)).f1).toNat, none⟩ (.bool false)) wr.heap.size (rd_T58 l0 (i : Int)).f2 (rd_T58 l0 (i : Int)).f3) := ⟨C2k_far (C2k_new wr _ _ _ _) hgs _⟩
     have HO5 : Aside0 (Kd.R (Kd.int .i64) 2 ((wr.alloc (.cells #[.int .i64 (rd_T58 l0 (i : Int)).f0, .int .i64 (rd_T58 l0 (i : Int)).f1, .int .i64 (rd_T58 l0 (i : Int)).f2, .int .i64 (rd_T58 l0 (i : Int)).f3] 58)).setCell ⟨g, ((rd_T58 l0 (i : Int)).f1).toNat, none⟩ (.bool false)) w.heap.size (fun k_ => k_ ≠ g) u9 (ndd l0 (lvm l1 l1.length) y).2) := ⟨Kd.R_far (Kd.R_alloc HO.out _) (fun k_ hk => hk) _⟩
     have HB5 : Aside0 (Below w.heap.size w ((wr.alloc (.cells #[.int .i64 (rd_T58 l0 (i : Int)).f0, .int .i64 (rd_T58 l0 (i : Int)).f1, .int .i64 (rd_T58 l0 (i : Int)).f2, .int .i64 (rd_T58 l0 (i : Int)).f3] 58)).setCell ⟨g, ((rd_T58 l0 (i : Int)).f1).toNat, none⟩ (.bool false))) := ⟨below_set (below_alloc HB.out _) (Arr_base HAr.out)⟩
     clear hx0 hx1 hx2 hx3 hc hf hgs HO HAr HB hA2
     generalize ((wr.alloc (.cells #[.int .i64 (rd_T58 l0 (i : Int)).f0, .int .i64 (rd_T58 l0 (i : Int)).f1, .int .i64 (rd_T58 l0 (i : Int)).f2, .int .i64 (rd_T58 l0 (i : Int)).f3] 58)).setCell ⟨g, ((rd_T58 l0 (i : Int)).f1).toNat, none⟩ (.bool false)) = w5 at HA5 HC5 HO5 HB5 ⊢
     generalize wr.heap.size = hs at HC5 HGS ⊢
     obtain ⟨s2, s3⟩ := HC5.out
     obtain ⟨s3', _⟩ := C2k_far HC5.out (p := ⟨g, ((rd_T58 l0 (i : Int)).f2).toNat, none⟩) HGS.out (.bool true)
     obtain ⟨_, s4⟩ := C2k_far HC5.out (p := ⟨g, ((rd_T58 l0 (i : Int)).f2).toNat, none⟩) HGS.out (.bool true)
     obtain ⟨p2, q2⟩ := Arr_cell HA5.out _ E0.out E1.out
     obtain ⟨p3, q3⟩ := Arr_cell (Arr_put HA5.out _ E0.out E1.out true) _ F0.out F1.out
     have g0 := E0.out
     have g1 := F0.out
     go_region
     have HA6 : Aside0 (Arr ((w5.setCell ⟨g, ((rd_T58 l0 (i : Int)).f2).toNat, none⟩ (.bool true)).setCell ⟨g, ((rd_T58 l0 (i : Int)).f3).toNat, none⟩ (.bool true)).drew w.heap.size g (put (put (put (ndd l0 (lvm l1 l1.length) y).1 (rd_T58 l0 (i : Int)).f1 false) (rd_T58 l0 (i : Int)).f2 true) (rd_T58 l0 (i : Int)).f3 true)) := ⟨Kd.R_drew (Arr_put (Arr_put HA5.out _ E0.out E1.out true) _ F0.out F1.out true)⟩
     have HO6 : Aside0 (Kd.R (Kd.int .i64) 2 ((w5.setCell ⟨g, ((rd_T58 l0 (i : Int)).f2).toNat, none⟩ (.bool true)).setCell ⟨g, ((rd_T58 l0 (i : Int)).f3).toNat, none⟩ (.bool true)).drew w.heap.size (fun k_ => k_ ≠ g) u9 (ndd l0 (lvm l1 l1.length) y).2) := ⟨Kd.R_drew (Kd.R_far (Kd.R_far HO5.out (fun k_ hk => hk) _) (fun k_ hk => hk) _)⟩
     have HB6 : Aside0 (Below w.heap.size w ((w5.setCell ⟨g, ((rd_T58 l0 (i : Int)).f2).toNat, none⟩ (.bool true)).setCell ⟨g, ((rd_T58 l0 (i : Int)).f3).toNat, none⟩ (.bool true)).drew) := ⟨below_drew1 (below_set (below_set HB5.out (Arr_base HA5.out)) (Arr_base HA5.out))⟩
     clear HA5 HC5 HO5 HB5 s2 s3 s3' s4 p2 q2 p3 q3
     generalize ((w5.setCell ⟨g, ((rd_T58 l0 (i : Int)).f2).toNat, none⟩ (.bool true)).setCell ⟨g, ((rd_T58 l0 (i : Int)).f3).toNat, none⟩ (.bool true)).drew = w6 at HA6 HO6 HB6 ⊢
     have hg6 := Aside0.mk (Arr_lt' HA6.out)
     have hnl := Aside0.mk (ndd_len l0 (lvm l1 l1.length) y)
     go_wp2_with (first | ((with_reducible refine gate_builtin (b := .append) (xs := #[.tmp 59, .tmp 61]) rfl ?_); at_builtin; refine Kd.R_append (Kd.int .i64) (w0 := w) w.heap.size rfl (.tmp 59) (.tmp 61) 33 2 (.int .i64 0) 8 rfl Try.underlying33 info2 rfl (by decide) (by omega) u9 (ndd l0 (lvm l1 l1.length) y).2 (i : Int) [.int .i64 (i : Int)] (fun k_ => k_ ≠ g) (fun _ => False) rfl rfl ?aP (fun _ hk => hk.elim) ?aF ?aO ?aB ?aS ?aL ?_; (case aP => exact rfl); (case aB => exact HB6.out); (case aF => exact (fun k_ hk => by have := hg6.out; omega)); (case aO => exact HO6.out); (case aS => exact (below_size HB6.out)); (case aL => have := hnl.out; have := HY.out; have := HL.out; omega); intro v173 w15 ho hb hg hat; have HA7 : Aside0 (Arr w15 w.heap.size g (put (put (put (ndd l0 (lvm l1 l1.length) y).1 (rd_T58 l0 (i : Int)).f1 false) (rd_T58 l0 (i : Int)).f2 true) (rd_T58 l0 (i : Int)).f3 true)) := ⟨Kd.R_grown1 HA6.out rfl hg (fun e => HO6.out.1 g (e.trans rfl) rfl)⟩; have HO2 := Aside0.mk ho; have HB7 := Aside0.mk hb; clear ho hb hg hat))
     go_roundg (l0.length - (y + 1))
     case measure => have := HKY.out; have := HYL.out; omega
     case rel =>
      have := HYL.out
      have e := ndd_t HI.out HM.out
      exact ⟨y + 1, by first | rfl | rw [HW.out], ⟨by rw [e]; exact HA7.out⟩, ⟨by rw [e]; exact HO2.out⟩, ⟨by omega⟩, ⟨by omega⟩, HB7⟩
    | false =>
     rw [hm] at hc
     have HM := Aside0.mk hm
     clear hm
     go_wp2
     go_roundg (l0.length - (y + 1))
     case measure => have := HKY.out; have := HYL.out; omega
     case rel =>
      have := HYL.out
      have e := ndd_f HI.out HM.out
      exact ⟨y + 1, by first | rfl | rw [HW.out], ⟨by rw [e]; exact hA2.out _⟩, ⟨by rw [e]; (with_reducible repeat (first | apply Kd.R_alloc | apply Kd.R_drewN | apply Kd.R_drew)); exact HO.out⟩, ⟨by omega⟩, ⟨by omega⟩, ⟨below_alloc HB.out _⟩⟩

/-! ### laws_b10Long: function 54 -/
def laws_b10Long.f (l0 : List Int) (l1 : List Int) : Option (Bool) := if (l0.length : Int) > 1048576 then (some true) else (some (decide ((l1.length : Int) > 1048576)))
set_option maxHeartbeats 8000000 in
set_option maxRecDepth 100000 in
theorem laws_b10Long.calls (A0 : Option Addr) (c0 : Nat) (l0 : List Int) (A1 : Option Addr) (c1 : Nat) (l1 : List Int) (r : Bool) (w : World) (hr0 : Kd.C (Kd.int .u8) w A0 l0.length l0) (hc0 : l0.length ≤ c0) (hr1 : Kd.C (Kd.int .u8) w A1 l1.length l1) (hc1 : l1.length ≤ c1) (h : laws_b10Long.f l0 l1 = some r) :
  Calls Try.prog 54 #[.slice A0 l0.length c0, .slice A1 l1.length c1] w fun e w' => e = .returned (.bool r) ∧ Drawn0 w w' := by
 have HR0 := Aside0.mk hr0
 have HC0 := Aside0.mk hc0
 clear hr0 hc0
 have HR1 := Aside0.mk hr1
 have HC1 := Aside0.mk hc1
 clear hr1 hc1
 have H : (if (l0.length : Int) > 1048576 then (some true) else (some (decide ((l1.length : Int) > 1048576)))) = some r := h
 clear h
 by_cases c3 : (l0.length : Int) > 1048576
 ·rw [if_pos c3] at H
  have c3b0 : decide (1048576 < (l0.length : Int)) = true := decide_eq_true c3
  have c3b1 : decide (1048576 < l0.length) = true := decide_eq_true (by omega)
  clear c3
  obtain rfl := Option.some.inj H
  go_enter Try.func54, Try.ntmps54
  go_wp2
  go_ret
  exact ⟨by first | rfl | (simp; done) | (simp [*]; done), by repeat (first | exact Drawn0.refl _ | apply Drawn0.step)⟩
 rw [if_neg c3] at H
 have c3b0 : decide (1048576 < (l0.length : Int)) = false := decide_eq_false c3
 have c3b1 : decide (1048576 < l0.length) = false := decide_eq_false (by omega)
 clear c3
 obtain rfl := Option.some.inj H
 go_enter Try.func54, Try.ntmps54
 go_wp2
 go_ret
 exact ⟨by first | rfl | (simp; done) | (simp [*]; done), by repeat (first | exact Drawn0.refl _ | apply Drawn0.step)⟩

/-- A state of type 102 at block g of W; what its slices lead to came in by w0. -/
def IsS102 (w0 W : World) (g : Nat) (f0 : List Int) (f1 : Int) (f2 : Int) : Prop := ∃ A0 c0, W.heap[g]? = some (.cells #[.slice A0 f0.length c0, .int .i64 f1, .int .u64 f2] 102 (0, 0)) ∧ w0.heap.size ≤ g ∧ Kd.C (Kd.int .u8) w0 A0 f0.length f0
theorem IsS102.grown {w0 W : World} {g : Nat} {f0 : List Int} {f1 : Int} {f2 : Int} {W1 : World} {row : Option Nat} (h : IsS102 w0 W g f0 f1 f2) (hw : W.grownBy W1 row) (hne : some g ≠ row) : IsS102 w0 W1 g f0 f1 f2 := by
 obtain ⟨A0, c0, hb, hg, hr0⟩ := h
 exact ⟨A0, c0, blk_grown hb hw hne, hg, hr0⟩
theorem IsS102.own_neN {w0 W : World} {g : Nat} {f0 : List Int} {f1 : Int} {f2 : Int} {α : Type} {d : Kd α} {e : Nat} {base : Nat} {ok : Nat → Prop} {v : Value} {xs : List α} (h : IsS102 w0 W g f0 f1 f2) (ho : Kd.N d e W base ok v xs) (ht : e ≠ 102) : some g ≠ v.ownBlock := by
 obtain ⟨A0, c0, hb, hg, hr0⟩ := h
 exact Kd.N_ne ho hb ht
theorem IsS102.fresh {w0 W : World} {g : Nat} {f0 : List Int} {f1 : Int} {f2 : Int} (h : IsS102 w0 W g f0 f1 f2) : ∀ k, W.heap.size ≤ k → k ≠ g := by
 obtain ⟨A0, c0, hb, hg, hr0⟩ := h
 exact Kd.freshB hb
theorem IsS102.kept {w0 W : World} {g : Nat} {f0 : List Int} {f1 : Int} {f2 : Int} {W1 : World} {S : Nat → Prop} (h : IsS102 w0 W g f0 f1 f2) (hk : Kept W W1 S) (hne : ¬ S g) : IsS102 w0 W1 g f0 f1 f2 := by
 obtain ⟨A0, c0, hb, hg, hr0⟩ := h
 exact ⟨A0, c0, blk_kept hb hk hne, hg, hr0⟩
theorem IsS102.below {w0 W : World} {g : Nat} {f0 : List Int} {f1 : Int} {f2 : Int} {W1 : World} (h : IsS102 w0 W g f0 f1 f2) (hw : Below W.heap.size W W1) : IsS102 w0 W1 g f0 f1 f2 := h.grown (grown_of_below hw none) (by simp)
theorem IsS102.alloc {w0 W : World} {g : Nat} {f0 : List Int} {f1 : Int} {f2 : Int} (h : IsS102 w0 W g f0 f1 f2) (o : Obj) : IsS102 w0 (W.alloc o) g f0 f1 f2 := h.below (below_alloc (Below.refl _ _) o)
theorem IsS102.drewN {w0 W : World} {g : Nat} {f0 : List Int} {f1 : Int} {f2 : Int} (h : IsS102 w0 W g f0 f1 f2) (m : Nat) : IsS102 w0 (W.drewN m) g f0 f1 f2 := h
theorem IsS102.drew {w0 W : World} {g : Nat} {f0 : List Int} {f1 : Int} {f2 : Int} (h : IsS102 w0 W g f0 f1 f2) : IsS102 w0 W.drew g f0 f1 f2 := h
theorem IsS102.at_ {w0 W : World} {g : Nat} {f0 : List Int} {f1 : Int} {f2 : Int} {w' : World} {m : Nat} (hq : W.drewN m = w') (h : IsS102 w0 W g f0 f1 f2) : IsS102 w0 w' g f0 f1 f2 := by subst hq; exact IsS102.drewN h m
theorem IsS102.apart {w0 W : World} {g : Nat} {f0 : List Int} {f1 : Int} {f2 : Int} {α : Type} {d : Kd α} {e : Nat} {base : Nat} {ok : Nat → Prop} {v : Value} {xs : List α} (h : IsS102 w0 W g f0 f1 f2) (ho : d.R e W base ok v xs) (ht : ∀ q, q ∈ e :: d.E → q ≠ 102) : d.R e W base (fun k => ok k ∧ k ≠ g) v xs := by
 obtain ⟨A0, c0, hb, hg, hr0⟩ := h
 exact Kd.R_types ho hb ht
theorem IsS102.own_ne {w0 W : World} {g : Nat} {f0 : List Int} {f1 : Int} {f2 : Int} {α : Type} {d : Kd α} {e : Nat} {base : Nat} {ok : Nat → Prop} {v : Value} {xs : List α} (h : IsS102 w0 W g f0 f1 f2) (ho : d.R e W base ok v xs) (ht : e ≠ 102) : some g ≠ v.ownBlock := by
 obtain ⟨A0, c0, hb, hg, hr0⟩ := h
 exact Kd.R_ne ho hb ht
theorem IsS102.apartQ {w0 W : World} {g : Nat} {f0 : List Int} {f1 : Int} {f2 : Int} {α : Type} {d : Kd α} {e : Nat} {base : Nat} {ok : Nat → Prop} {v : Value} {xs : List α} (h : IsS102 w0 W g f0 f1 f2) (ho : d.Q e W base ok v xs) (ht : ∀ q, q ∈ e :: d.E → q ≠ 102) : d.Q e W base (fun k => ok k ∧ k ≠ g) v xs := by
 obtain ⟨A0, c0, hb, hg, hr0⟩ := h
 exact Kd.Q_types ho hb ht
theorem IsS102.own_neQ {w0 W : World} {g : Nat} {f0 : List Int} {f1 : Int} {f2 : Int} {α : Type} {d : Kd α} {e : Nat} {base : Nat} {ok : Nat → Prop} {v : Value} {xs : List α} (h : IsS102 w0 W g f0 f1 f2) (ho : d.Q e W base ok v xs) (ht : e ≠ 102) : some g ≠ v.ownBlock := by
 obtain ⟨A0, c0, hb, hg, hr0⟩ := h
 exact Kd.Q_ne ho hb ht
theorem IsS102.apartS {w0 W : World} {g : Nat} {f0 : List Int} {f1 : Int} {f2 : Int} {α : Type} {d : Kd α} {e : Nat} {base : Nat} {ok : Nat → Prop} {v : Value} {xs : List α} (h : IsS102 w0 W g f0 f1 f2) (ho : d.S e W base ok v xs) (ht : ∀ q, q ∈ e :: d.E → q ≠ 102) : d.S e W base (fun k => ok k ∧ k ≠ g) v xs := by
 obtain ⟨A0, c0, hb, hg, hr0⟩ := h
 exact Kd.S_types ho hb ht
theorem IsS102.own_neS {w0 W : World} {g : Nat} {f0 : List Int} {f1 : Int} {f2 : Int} {α : Type} {d : Kd α} {e : Nat} {base : Nat} {ok : Nat → Prop} {v : Value} {xs : List α} (h : IsS102 w0 W g f0 f1 f2) (ho : d.S e W base ok v xs) (ht : e ≠ 102) : some g ≠ v.ownBlock := by
 obtain ⟨A0, c0, hb, hg, hr0⟩ := h
 exact Kd.S_ne ho hb ht
theorem IsS102.lt {w0 W : World} {g : Nat} {f0 : List Int} {f1 : Int} {f2 : Int} (h : IsS102 w0 W g f0 f1 f2) : g < W.heap.size := by
 obtain ⟨A0, c0, hb, hg, hr0⟩ := h
 exact blk_lt hb
theorem IsS102.ge {w0 W : World} {g : Nat} {f0 : List Int} {f1 : Int} {f2 : Int} (h : IsS102 w0 W g f0 f1 f2) : w0.heap.size ≤ g := by
 obtain ⟨A0, c0, hb, hg, hr0⟩ := h
 exact hg
theorem IsS102.ne_blk {w0 W : World} {g : Nat} {f0 : List Int} {f1 : Int} {f2 : Int} {a : Nat} {cs : Array Value} {t : TypeId} {fr : Nat × Nat} (h : IsS102 w0 W g f0 f1 f2) (hb2 : W.heap[a]? = some (.cells cs t fr)) (ht : t ≠ 102) : g ≠ a := by
 obtain ⟨A0, c0, hb, hg, hr0⟩ := h
 rintro rfl
 rw [hb] at hb2
 injection hb2 with hb2
 injection hb2 with _ ht2
 exact ht ht2.symm
theorem IsS102.far {w0 W : World} {g : Nat} {f0 : List Int} {f1 : Int} {f2 : Int} {p : Addr} (h : IsS102 w0 W g f0 f1 f2) (hne : g ≠ p.block) (u : Value) : IsS102 w0 (W.setCell p u) g f0 f1 f2 := by
 obtain ⟨A0, c0, hb, hg, hr0⟩ := h
 exact ⟨A0, c0, blk_far hb hne u, hg, hr0⟩
theorem cellS102_0 {W : World} {g : Nat} {A0 : Option Addr} {c0 : Nat} {f0 : List Int} {f1 : Int} {f2 : Int} (h : W.heap[g]? = some (.cells #[.slice A0 f0.length c0, .int .i64 f1, .int .u64 f2] 102 (0, 0))) : W.cell? ⟨g, 0, none⟩ = some (.slice A0 f0.length c0) := (blk_cell h 0).trans rfl
theorem cellS102_1 {W : World} {g : Nat} {A0 : Option Addr} {c0 : Nat} {f0 : List Int} {f1 : Int} {f2 : Int} (h : W.heap[g]? = some (.cells #[.slice A0 f0.length c0, .int .i64 f1, .int .u64 f2] 102 (0, 0))) : W.cell? ⟨g, 1, none⟩ = some (.int .i64 f1) := (blk_cell h 1).trans rfl
theorem IsS102.set_1 {w0 W : World} {g : Nat} {f0 : List Int} {f1 : Int} {f2 : Int} (h : IsS102 w0 W g f0 f1 f2) (x : Int) : IsS102 w0 (W.setCell ⟨g, 1, none⟩ (.int .i64 x)) g f0 x f2 := by
 obtain ⟨A0, c0, hb, hg, hr0⟩ := h
 exact ⟨A0, c0, by simpa using blk_set hb 1 (.int .i64 x), hg, hr0⟩
theorem cellS102_2 {W : World} {g : Nat} {A0 : Option Addr} {c0 : Nat} {f0 : List Int} {f1 : Int} {f2 : Int} (h : W.heap[g]? = some (.cells #[.slice A0 f0.length c0, .int .i64 f1, .int .u64 f2] 102 (0, 0))) : W.cell? ⟨g, 2, none⟩ = some (.int .u64 f2) := (blk_cell h 2).trans rfl
theorem IsS102.set_2 {w0 W : World} {g : Nat} {f0 : List Int} {f1 : Int} {f2 : Int} (h : IsS102 w0 W g f0 f1 f2) (x : Int) : IsS102 w0 (W.setCell ⟨g, 2, none⟩ (.int .u64 x)) g f0 f1 x := by
 obtain ⟨A0, c0, hb, hg, hr0⟩ := h
 exact ⟨A0, c0, by simpa using blk_set hb 2 (.int .u64 x), hg, hr0⟩
theorem IsS102.new (w0 W : World) (A0 : Option Addr) (c0 : Nat) (f0 : List Int) (f1 : Int) (f2 : Int) (hB : Below w0.heap.size w0 W) (hr0 : Kd.C (Kd.int .u8) w0 A0 f0.length f0) : IsS102 w0 (W.alloc (.cells #[.slice A0 f0.length c0, .int .i64 f1, .int .u64 f2] 102)) W.heap.size f0 f1 f2 := ⟨A0, c0, by simpa using heap_alloc_new W _, hB.size, hr0⟩

/-! ### spec_l00From: function 92 -/
def spec_l00From.f (l0 : List Int) : Option (List Int × Int × Int) := some (l0, 0, 0)
set_option maxHeartbeats 8000000 in
set_option maxRecDepth 100000 in
theorem spec_l00From.calls (A0 : Option Addr) (c0 : Nat) (l0 : List Int) (r1 : List Int) (r2 : Int) (r3 : Int) (w0 w : World) (hB : Below w0.heap.size w0 w) (hr0 : Kd.C (Kd.int .u8) w0 A0 l0.length l0) (hc0 : l0.length ≤ c0) (h : spec_l00From.f l0 = some (r1, r2, r3)) :
  Calls Try.prog 92 #[.slice A0 l0.length c0] w fun e w' => ∃ g_ : Nat, e = .returned (.pointer (some ⟨g_, 0, none⟩)) ∧ IsS102 w0 w' g_ r1 r2 r3 ∧ Below w0.heap.size w0 w' ∧ Below w.heap.size w w' := by
 have hu102 := Try.underlying102
 have HR0 := Aside0.mk hr0
 have HC0 := Aside0.mk hc0
 clear hr0 hc0
 have HBW := Aside0.mk (Below.refl w.heap.size w)
 have HW0 := Aside0.mk hB.size
 have HB := Aside0.mk hB
 clear hB
 have H : (some (l0, 0, 0)) = some (r1, r2, r3) := h
 clear h
 simp only [Option.some.injEq, Prod.mk.injEq] at H
 obtain ⟨rfl, rfl, rfl⟩ := H
 go_enter Try.func92, Try.ntmps92
 go_wp2_with (first | ((with_reducible refine gate_dst (N := 5) rfl ?_); refine box_event ?hg (N := 5) ?hd (cs := #[.slice A0 l0.length c0, .int .i64 0, .int .u64 0]) (t := 102) ?hr ?_; (case hd => rfl); (case hg => rfl); (case hr => first | (go_simp; done) | (go_simp; rfl)); intro gb751 hg w2 hbox hb; have n0_ := Aside0.mk (below_step HBW.out hb); have n1_ := Aside0.mk (below_step (by repeat (first | (with_reducible first | exact HB.out | apply below_alloc | apply pw_below_drewN | apply below_drew1) | exact HB.out)) hb); have n2_ := Aside0.mk (hbox); have n3_ := Aside0.mk ((by rw [hg]; exact (below_size (by repeat (first | (with_reducible first | exact HBW.out | apply below_alloc | apply pw_below_drewN | apply below_drew1) | exact HBW.out))) : w.heap.size ≤ gb751)); have n4_ := Aside0.mk ((Nat.le_trans HW0.out (by rw [hg]; exact (below_size (by repeat (first | (with_reducible first | exact HBW.out | apply below_alloc | apply pw_below_drewN | apply below_drew1) | exact HBW.out))) : w.heap.size ≤ gb751) : w0.heap.size ≤ gb751)); clear HBW; clear HB; have HBW := n0_; have HB := n1_; have BK751 := n2_; have GW751 := n3_; have GE751 := n4_; clear n0_ n1_ n2_ n3_ n4_; clear hb hbox hg))
 go_ret
 exact ⟨_, rfl, (show IsS102 w0 _ gb751 l0 0 0 from ⟨_, _, by (with_reducible repeat (first | refine blk_drewN ?_ _ | refine blk_drew ?_ | refine blk_alloc ?_ _)); exact BK751.out, GE751.out, HR0.out⟩), by repeat (first | (with_reducible first | exact HB.out | apply below_alloc | apply pw_below_drewN | apply below_drew1 | refine below_set ?_ GE751.out) | exact HB.out), by repeat (first | (with_reducible first | exact HBW.out | apply below_alloc | apply pw_below_drewN | apply below_drew1 | refine below_set ?_ GW751.out) | exact HBW.out)⟩

/-! ### spec_l00Src_next: function 119 -/
def spec_l00Src_next.f (s0_0 : List Int) (s0_1 : Int) (s0_2 : Int) : Option (Int × Int × Int) := if s0_1 < (s0_0.length : Int) then (if 0 ≤ s0_1 then (if (wrap64 (s0_1 + 1)) ≤ (s0_0.length : Int) then (some (wrap64 (rd s0_0 s0_1), wrap64 (s0_1 + 1), IntKind.u64.wrap ((IntKind.u64.wrap ((IntKind.u64.wrap (s0_2 * 6364136223846793005)) + (IntKind.u64.wrap (wrap64 (rd s0_0 s0_1))))) + 1442695040888963407))) else (some (wrap64 (Go.bits .and .u64 ((IntKind.u64.wrap ((IntKind.u64.wrap ((IntKind.u64.wrap (s0_2 * 6364136223846793005)) + (IntKind.u64.wrap (wrap64 (rd s0_0 s0_1))))) + 1442695040888963407)) / 1099511627776) 255), wrap64 (s0_1 + 1), IntKind.u64.wrap ((IntKind.u64.wrap ((IntKind.u64.wrap (s0_2 * 6364136223846793005)) + (IntKind.u64.wrap (wrap64 (rd s0_0 s0_1))))) + 1442695040888963407)))) else (none)) else (if (wrap64 (s0_1 + 1)) ≤ (s0_0.length : Int) then (some (0, wrap64 (s0_1 + 1), IntKind.u64.wrap ((IntKind.u64.wrap ((IntKind.u64.wrap (s0_2 * 6364136223846793005)) + 0)) + 1442695040888963407))) else (some (wrap64 (Go.bits .and .u64 ((IntKind.u64.wrap ((IntKind.u64.wrap ((IntKind.u64.wrap (s0_2 * 6364136223846793005)) + 0)) + 1442695040888963407)) / 1099511627776) 255), wrap64 (s0_1 + 1), IntKind.u64.wrap ((IntKind.u64.wrap ((IntKind.u64.wrap (s0_2 * 6364136223846793005)) + 0)) + 1442695040888963407))))
set_option maxHeartbeats 8000000 in
set_option maxRecDepth 100000 in
theorem spec_l00Src_next.calls (g : Nat) (s0_0 : List Int) (s0_1 : Int) (s0_2 : Int) (r1 : Int) (r2 : Int) (r3 : Int) (w0 w : World) (hI : IsS102 w0 w g s0_0 s0_1 s0_2) (hB : Below w0.heap.size w0 w) (h : spec_l00Src_next.f s0_0 s0_1 s0_2 = some (r1, r2, r3)) :
  Calls Try.prog 119 #[.pointer (some ⟨g, 0, none⟩)] w fun e w' => e = .returned (.int .i64 r1) ∧ IsS102 w0 w' g s0_0 r2 r3 ∧ Below w0.heap.size w0 w' ∧ KeepBut w w' g none := by
 have HI0 := Aside0.mk hI
 have HK := Aside0.mk (KeepBut.refl w g none)
 have HL := Aside0.mk hB.size
 clear hI
 have HW0 := Aside0.mk hB.size
 have HB := Aside0.mk hB
 clear hB
 have H : (if s0_1 < (s0_0.length : Int) then (if 0 ≤ s0_1 then (if (wrap64 (s0_1 + 1)) ≤ (s0_0.length : Int) then (some (wrap64 (rd s0_0 s0_1), wrap64 (s0_1 + 1), IntKind.u64.wrap ((IntKind.u64.wrap ((IntKind.u64.wrap (s0_2 * 6364136223846793005)) + (IntKind.u64.wrap (wrap64 (rd s0_0 s0_1))))) + 1442695040888963407))) else (some (wrap64 (Go.bits .and .u64 ((IntKind.u64.wrap ((IntKind.u64.wrap ((IntKind.u64.wrap (s0_2 * 6364136223846793005)) + (IntKind.u64.wrap (wrap64 (rd s0_0 s0_1))))) + 1442695040888963407)) / 1099511627776) 255), wrap64 (s0_1 + 1), IntKind.u64.wrap ((IntKind.u64.wrap ((IntKind.u64.wrap (s0_2 * 6364136223846793005)) + (IntKind.u64.wrap (wrap64 (rd s0_0 s0_1))))) + 1442695040888963407)))) else (none)) else (if (wrap64 (s0_1 + 1)) ≤ (s0_0.length : Int) then (some (0, wrap64 (s0_1 + 1), IntKind.u64.wrap ((IntKind.u64.wrap ((IntKind.u64.wrap (s0_2 * 6364136223846793005)) + 0)) + 1442695040888963407))) else (some (wrap64 (Go.bits .and .u64 ((IntKind.u64.wrap ((IntKind.u64.wrap ((IntKind.u64.wrap (s0_2 * 6364136223846793005)) + 0)) + 1442695040888963407)) / 1099511627776) 255), wrap64 (s0_1 + 1), IntKind.u64.wrap ((IntKind.u64.wrap ((IntKind.u64.wrap (s0_2 * 6364136223846793005)) + 0)) + 1442695040888963407))))) = some (r1, r2, r3) := h
 clear h
 by_cases c2 : s0_1 < (s0_0.length : Int)
 ·rw [if_pos c2] at H
  have c2b0 : decide (s0_1 < (s0_0.length : Int)) = true := decide_eq_true c2
  clear c2
  by_cases c3 : 0 ≤ s0_1
  rotate_left
  ·rw [if_neg c3] at H
   exact absurd H (by simp)
  rw [if_pos c3] at H
  have c3b0 : decide (0 ≤ s0_1) = true := decide_eq_true c3
  clear c3
  by_cases c4 : (wrap64 (s0_1 + 1)) ≤ (s0_0.length : Int)
  ·rw [if_pos c4] at H
   have c4b0 : decide ((wrap64 (s0_1 + 1)) ≤ (s0_0.length : Int)) = true := decide_eq_true c4
   clear c4
   simp only [Option.some.injEq, Prod.mk.injEq] at H
   obtain ⟨rfl, rfl, rfl⟩ := H
   obtain ⟨ASz5_0, cSz5_0, HGz5, hgz5, HSz5_0⟩ := HI0.out
   have hcz5_0 := cellS102_0 HGz5
   have hcz5_1 := cellS102_1 HGz5
   have hcz5_2 := cellS102_2 HGz5
   have hfz5_1 := blk_frozen HGz5 1
   have hfz5_2 := blk_frozen HGz5 2
   clear HGz5 hgz5
   have p752 : 0 ≤ (s0_1 : Int) := of_decide_eq_true (by first | (with_reducible assumption) | assumption)
   have q752 : s0_1 < (s0_0.length : Int) := of_decide_eq_true (by first | (with_reducible assumption) | assumption)
   obtain ⟨ad752, e752, hx752_0⟩ := Kd.at_int HSz5_0 s0_1 p752 q752
   cases e752
   replace hx752_0 := pw_cell_below HB.out hx752_0
   replace p752 := eq_true p752
   replace q752 := eq_true q752
   go_enter Try.func119, Try.ntmps119
   go_wp2
   repeat (go_quiet (fail); try go_wp2)
   go_ret
   exact ⟨by first | rfl | (simp [errW_none, errW_some] <;> rfl) | (simp [*, errW_none, errW_some] <;> rfl), by repeat (first | (with_reducible first | exact HI0.out | apply IsS102.alloc | apply IsS102.drewN | apply IsS102.drew | apply IsS102.set_1 | apply IsS102.set_2) | exact HI0.out), by repeat (first | (with_reducible first | exact HB.out | apply below_alloc | apply pw_below_drewN | apply below_drew1 | refine below_set ?_ (IsS102.ge HI0.out)) | exact HB.out), by repeat (first | (with_reducible first | exact HK.out | apply KeepBut.set_ | apply keep_drewN | apply keep_drew | apply keep_alloc) | exact HK.out)⟩
  ·rw [if_neg c4] at H
   have c4b0 : decide ((wrap64 (s0_1 + 1)) ≤ (s0_0.length : Int)) = false := decide_eq_false c4
   clear c4
   simp only [Option.some.injEq, Prod.mk.injEq] at H
   obtain ⟨rfl, rfl, rfl⟩ := H
   obtain ⟨ASz6_0, cSz6_0, HGz6, hgz6, HSz6_0⟩ := HI0.out
   have hcz6_0 := cellS102_0 HGz6
   have hcz6_1 := cellS102_1 HGz6
   have hcz6_2 := cellS102_2 HGz6
   have hfz6_1 := blk_frozen HGz6 1
   have hfz6_2 := blk_frozen HGz6 2
   clear HGz6 hgz6
   have p752 : 0 ≤ (s0_1 : Int) := of_decide_eq_true (by first | (with_reducible assumption) | assumption)
   have q752 : s0_1 < (s0_0.length : Int) := of_decide_eq_true (by first | (with_reducible assumption) | assumption)
   obtain ⟨ad752, e752, hx752_0⟩ := Kd.at_int HSz6_0 s0_1 p752 q752
   cases e752
   replace hx752_0 := pw_cell_below HB.out hx752_0
   replace p752 := eq_true p752
   replace q752 := eq_true q752
   go_enter Try.func119, Try.ntmps119
   go_wp2
   repeat (go_quiet (fail); try go_wp2)
   go_ret
   exact ⟨by first | rfl | (simp [errW_none, errW_some] <;> rfl) | (simp [*, errW_none, errW_some] <;> rfl), by repeat (first | (with_reducible first | exact HI0.out | apply IsS102.alloc | apply IsS102.drewN | apply IsS102.drew | apply IsS102.set_1 | apply IsS102.set_2) | exact HI0.out), by repeat (first | (with_reducible first | exact HB.out | apply below_alloc | apply pw_below_drewN | apply below_drew1 | refine below_set ?_ (IsS102.ge HI0.out)) | exact HB.out), by repeat (first | (with_reducible first | exact HK.out | apply KeepBut.set_ | apply keep_drewN | apply keep_drew | apply keep_alloc) | exact HK.out)⟩
 ·rw [if_neg c2] at H
  have c2b0 : decide (s0_1 < (s0_0.length : Int)) = false := decide_eq_false c2
  clear c2
  simp only [Int.add_zero] at H
  by_cases c7 : (wrap64 (s0_1 + 1)) ≤ (s0_0.length : Int)
  ·rw [if_pos c7] at H
   have c7b0 : decide ((wrap64 (s0_1 + 1)) ≤ (s0_0.length : Int)) = true := decide_eq_true c7
   clear c7
   simp only [Option.some.injEq, Prod.mk.injEq] at H
   obtain ⟨rfl, rfl, rfl⟩ := H
   obtain ⟨ASz8_0, cSz8_0, HGz8, hgz8, HSz8_0⟩ := HI0.out
   have hcz8_0 := cellS102_0 HGz8
   have hcz8_1 := cellS102_1 HGz8
   have hcz8_2 := cellS102_2 HGz8
   have hfz8_1 := blk_frozen HGz8 1
   have hfz8_2 := blk_frozen HGz8 2
   clear HGz8 hgz8
   go_enter Try.func119, Try.ntmps119
   go_wp2
   repeat (go_quiet (fail); try go_wp2)
   go_ret
   exact ⟨by first | rfl | (simp [errW_none, errW_some] <;> rfl) | (simp [*, errW_none, errW_some] <;> rfl), by repeat (first | (with_reducible first | exact HI0.out | apply IsS102.alloc | apply IsS102.drewN | apply IsS102.drew | apply IsS102.set_1 | apply IsS102.set_2) | exact HI0.out), by repeat (first | (with_reducible first | exact HB.out | apply below_alloc | apply pw_below_drewN | apply below_drew1 | refine below_set ?_ (IsS102.ge HI0.out)) | exact HB.out), by repeat (first | (with_reducible first | exact HK.out | apply KeepBut.set_ | apply keep_drewN | apply keep_drew | apply keep_alloc) | exact HK.out)⟩
  ·rw [if_neg c7] at H
   have c7b0 : decide ((wrap64 (s0_1 + 1)) ≤ (s0_0.length : Int)) = false := decide_eq_false c7
   clear c7
   simp only [Option.some.injEq, Prod.mk.injEq] at H
   obtain ⟨rfl, rfl, rfl⟩ := H
   obtain ⟨ASz9_0, cSz9_0, HGz9, hgz9, HSz9_0⟩ := HI0.out
   have hcz9_0 := cellS102_0 HGz9
   have hcz9_1 := cellS102_1 HGz9
   have hcz9_2 := cellS102_2 HGz9
   have hfz9_1 := blk_frozen HGz9 1
   have hfz9_2 := blk_frozen HGz9 2
   clear HGz9 hgz9
   go_enter Try.func119, Try.ntmps119
   go_wp2
   repeat (go_quiet (fail); try go_wp2)
   go_ret
   exact ⟨by first | rfl | (simp [errW_none, errW_some] <;> rfl) | (simp [*, errW_none, errW_some] <;> rfl), by repeat (first | (with_reducible first | exact HI0.out | apply IsS102.alloc | apply IsS102.drewN | apply IsS102.drew | apply IsS102.set_1 | apply IsS102.set_2) | exact HI0.out), by repeat (first | (with_reducible first | exact HB.out | apply below_alloc | apply pw_below_drewN | apply below_drew1 | refine below_set ?_ (IsS102.ge HI0.out)) | exact HB.out), by repeat (first | (with_reducible first | exact HK.out | apply KeepBut.set_ | apply keep_drewN | apply keep_drew | apply keep_alloc) | exact HK.out)⟩

/-! ### spec_l00Src_pick: function 95 -/
def spec_l00Src_pick.f (s0_0 : List Int) (s0_1 : Int) (s0_2 : Int) (a1 : Int) : Option (Int × Int × Int) := if a1 ≤ 1 then (some (0, s0_1, s0_2)) else ((spec_l00Src_next.f s0_0 s0_1 s0_2).bind fun bt753 => (if a1 > 200 then ((spec_l00Src_next.f s0_0 bt753.2.1 bt753.2.2).bind fun bt756 => (if a1 = 0 then (none) else (some (Int.tmod (wrap64 ((wrap64 (bt753.1 * 256)) + bt756.1)) a1, bt756.2.1, bt756.2.2)))) else (if a1 = 0 then (none) else (some (Int.tmod bt753.1 a1, bt753.2.1, bt753.2.2)))))
set_option maxHeartbeats 8000000 in
set_option maxRecDepth 100000 in
theorem spec_l00Src_pick.calls (g : Nat) (s0_0 : List Int) (s0_1 : Int) (s0_2 : Int) (a1 : Int) (r1 : Int) (r2 : Int) (r3 : Int) (w0 w : World) (hI : IsS102 w0 w g s0_0 s0_1 s0_2) (hB : Below w0.heap.size w0 w) (h : spec_l00Src_pick.f s0_0 s0_1 s0_2 a1 = some (r1, r2, r3)) :
  Calls Try.prog 95 #[.pointer (some ⟨g, 0, none⟩), .int .i64 a1] w fun e w' => e = .returned (.int .i64 r1) ∧ IsS102 w0 w' g s0_0 r2 r3 ∧ Below w0.heap.size w0 w' ∧ KeepBut w w' g none := by
 have HI0 := Aside0.mk hI
 have HK := Aside0.mk (KeepBut.refl w g none)
 have HL := Aside0.mk hB.size
 clear hI
 have HW0 := Aside0.mk hB.size
 have HB := Aside0.mk hB
 clear hB
 have H : (if a1 ≤ 1 then (some (0, s0_1, s0_2)) else ((spec_l00Src_next.f s0_0 s0_1 s0_2).bind fun bt753 => (if a1 > 200 then ((spec_l00Src_next.f s0_0 bt753.2.1 bt753.2.2).bind fun bt756 => (if a1 = 0 then (none) else (some (Int.tmod (wrap64 ((wrap64 (bt753.1 * 256)) + bt756.1)) a1, bt756.2.1, bt756.2.2)))) else (if a1 = 0 then (none) else (some (Int.tmod bt753.1 a1, bt753.2.1, bt753.2.2)))))) = some (r1, r2, r3) := h
 clear h
 by_cases c3 : a1 ≤ 1
 ·rw [if_pos c3] at H
  have c3b0 : decide (a1 ≤ 1) = true := decide_eq_true c3
  clear c3
  simp only [Option.some.injEq, Prod.mk.injEq] at H
  obtain ⟨rfl, rfl, rfl⟩ := H
  go_enter Try.func95, Try.ntmps95
  go_wp2
  go_ret
  exact ⟨by first | rfl | (simp [errW_none, errW_some] <;> rfl) | (simp [*, errW_none, errW_some] <;> rfl), by repeat (first | (with_reducible first | exact HI0.out | apply IsS102.alloc | apply IsS102.drewN | apply IsS102.drew | apply IsS102.set_1 | apply IsS102.set_2) | exact HI0.out), by repeat (first | (with_reducible first | exact HB.out | apply below_alloc | apply pw_below_drewN | apply below_drew1 | refine below_set ?_ (IsS102.ge HI0.out)) | exact HB.out), by repeat (first | (with_reducible first | exact HK.out | apply KeepBut.set_ | apply keep_drewN | apply keep_drew | apply keep_alloc) | exact HK.out)⟩
 rw [if_neg c3] at H
 have c3b0 : decide (a1 ≤ 1) = false := decide_eq_false c3
 clear c3
 replace H := Option.bind_eq_some_iff.mp H
 obtain ⟨⟨t753, t754, t755⟩, A40, H⟩ := H
 try dsimp only at H
 have A4 := Aside0.mk A40
 clear A40
 by_cases c5 : a1 > 200
 ·rw [if_pos c5] at H
  have c5b0 : decide (200 < a1) = true := decide_eq_true c5
  clear c5
  replace H := Option.bind_eq_some_iff.mp H
  obtain ⟨⟨t756, t757, t758⟩, A60, H⟩ := H
  try dsimp only at H
  have A6 := Aside0.mk A60
  clear A60
  by_cases c7 : a1 = 0
  ·rw [if_pos c7] at H
   exact absurd H (by simp)
  rw [if_neg c7] at H
  have c7b0 : (a1 == 0) = false := beq_eq_false_iff_ne.mpr c7
  have c7b1 : (a1 != 0) = true := bne_iff_ne.mpr c7
  simp only [Option.some.injEq, Prod.mk.injEq] at H
  obtain ⟨rfl, rfl, rfl⟩ := H
  go_enter Try.func95, Try.ntmps95
  go_wp2_with (first | ((with_reducible refine gate_callee (f := 119) rfl ?_); refine goesL_ (some 9) rfl rfl Try.func119 (by kernel_rfl) rfl #[.pointer (some ⟨g, 0, none⟩)] rfl (by (try simp only [List.map_toArray, List.map_cons, List.map_nil]); first | done | rfl | (simp only [List.length_drop, List.length_take]; rfl)) ?_; (with_reducible refine (spec_l00Src_next.calls g s0_0 s0_1 s0_2 t753 t754 t755 w0 _ ?side1 ?side2 A4.out).mono ?_); (case side1 => repeat (first | (with_reducible first | exact HI0.out | apply IsS102.alloc | apply IsS102.drewN | apply IsS102.drew | apply IsS102.set_1 | apply IsS102.set_2) | exact HI0.out)); (case side2 => repeat (first | (with_reducible first | exact HB.out | apply below_alloc | apply pw_below_drewN | apply below_drew1 | refine below_set ?_ (IsS102.ge HI0.out)) | exact HB.out)); rintro e w8 ⟨rfl, hi, hb, hk⟩; refine ⟨_, rfl, ?_⟩; have n0_ := Aside0.mk (KeepBut.trans (by repeat (first | (with_reducible first | exact HK.out | apply KeepBut.set_ | apply keep_drewN | apply keep_drew | apply keep_alloc) | exact HK.out)) hk (.inl rfl)); have n1_ := Aside0.mk (hb); have n2_ := Aside0.mk (hi); clear HK; clear HB; clear HI0; have HK := n0_; have HB := n1_; have HI0 := n2_; clear n0_ n1_ n2_; (try clear hb); (try clear hb2); (try clear hk); (try clear hi)) | ((with_reducible refine gate_callee (f := 119) rfl ?_); refine goesL_ (some 15) rfl rfl Try.func119 (by kernel_rfl) rfl #[.pointer (some ⟨g, 0, none⟩)] rfl (by (try simp only [List.map_toArray, List.map_cons, List.map_nil]); first | done | rfl | (simp only [List.length_drop, List.length_take]; rfl)) ?_; (with_reducible refine (spec_l00Src_next.calls g s0_0 t754 t755 t756 t757 t758 w0 _ ?side1 ?side2 A6.out).mono ?_); (case side1 => repeat (first | (with_reducible first | exact HI0.out | apply IsS102.alloc | apply IsS102.drewN | apply IsS102.drew | apply IsS102.set_1 | apply IsS102.set_2) | exact HI0.out)); (case side2 => repeat (first | (with_reducible first | exact HB.out | apply below_alloc | apply pw_below_drewN | apply below_drew1 | refine below_set ?_ (IsS102.ge HI0.out)) | exact HB.out)); rintro e w9 ⟨rfl, hi, hb, hk⟩; refine ⟨_, rfl, ?_⟩; have n0_ := Aside0.mk (KeepBut.trans (by repeat (first | (with_reducible first | exact HK.out | apply KeepBut.set_ | apply keep_drewN | apply keep_drew | apply keep_alloc) | exact HK.out)) hk (.inl rfl)); have n1_ := Aside0.mk (hb); have n2_ := Aside0.mk (hi); clear HK; clear HB; clear HI0; have HK := n0_; have HB := n1_; have HI0 := n2_; clear n0_ n1_ n2_; (try clear hb); (try clear hb2); (try clear hk); (try clear hi)))
  go_ret
  exact ⟨by first | rfl | (simp [errW_none, errW_some] <;> rfl) | (simp [*, errW_none, errW_some] <;> rfl), by repeat (first | (with_reducible first | exact HI0.out | apply IsS102.alloc | apply IsS102.drewN | apply IsS102.drew | apply IsS102.set_1 | apply IsS102.set_2) | exact HI0.out), by repeat (first | (with_reducible first | exact HB.out | apply below_alloc | apply pw_below_drewN | apply below_drew1 | refine below_set ?_ (IsS102.ge HI0.out)) | exact HB.out), by repeat (first | (with_reducible first | exact HK.out | apply KeepBut.set_ | apply keep_drewN | apply keep_drew | apply keep_alloc) | exact HK.out)⟩
 ·rw [if_neg c5] at H
  have c5b0 : decide (200 < a1) = false := decide_eq_false c5
  clear c5
  by_cases c10 : a1 = 0
  ·rw [if_pos c10] at H
   exact absurd H (by simp)
  rw [if_neg c10] at H
  have c10b0 : (a1 == 0) = false := beq_eq_false_iff_ne.mpr c10
  have c10b1 : (a1 != 0) = true := bne_iff_ne.mpr c10
  simp only [Option.some.injEq, Prod.mk.injEq] at H
  obtain ⟨rfl, rfl, rfl⟩ := H
  go_enter Try.func95, Try.ntmps95
  go_wp2_with (first | ((with_reducible refine gate_callee (f := 119) rfl ?_); refine goesL_ (some 9) rfl rfl Try.func119 (by kernel_rfl) rfl #[.pointer (some ⟨g, 0, none⟩)] rfl (by (try simp only [List.map_toArray, List.map_cons, List.map_nil]); first | done | rfl | (simp only [List.length_drop, List.length_take]; rfl)) ?_; (with_reducible refine (spec_l00Src_next.calls g s0_0 s0_1 s0_2 t753 t754 t755 w0 _ ?side1 ?side2 A4.out).mono ?_); (case side1 => repeat (first | (with_reducible first | exact HI0.out | apply IsS102.alloc | apply IsS102.drewN | apply IsS102.drew | apply IsS102.set_1 | apply IsS102.set_2) | exact HI0.out)); (case side2 => repeat (first | (with_reducible first | exact HB.out | apply below_alloc | apply pw_below_drewN | apply below_drew1 | refine below_set ?_ (IsS102.ge HI0.out)) | exact HB.out)); rintro e w11 ⟨rfl, hi, hb, hk⟩; refine ⟨_, rfl, ?_⟩; have n0_ := Aside0.mk (KeepBut.trans (by repeat (first | (with_reducible first | exact HK.out | apply KeepBut.set_ | apply keep_drewN | apply keep_drew | apply keep_alloc) | exact HK.out)) hk (.inl rfl)); have n1_ := Aside0.mk (hb); have n2_ := Aside0.mk (hi); clear HK; clear HB; clear HI0; have HK := n0_; have HB := n1_; have HI0 := n2_; clear n0_ n1_ n2_; (try clear hb); (try clear hb2); (try clear hk); (try clear hi)))
  go_ret
  exact ⟨by first | rfl | (simp [errW_none, errW_some] <;> rfl) | (simp [*, errW_none, errW_some] <;> rfl), by repeat (first | (with_reducible first | exact HI0.out | apply IsS102.alloc | apply IsS102.drewN | apply IsS102.drew | apply IsS102.set_1 | apply IsS102.set_2) | exact HI0.out), by repeat (first | (with_reducible first | exact HB.out | apply below_alloc | apply pw_below_drewN | apply below_drew1 | refine below_set ?_ (IsS102.ge HI0.out)) | exact HB.out), by repeat (first | (with_reducible first | exact HK.out | apply KeepBut.set_ | apply keep_drewN | apply keep_drew | apply keep_alloc) | exact HK.out)⟩

/-! ### spec_l00Src_one: function 117 -/
def spec_l00Src_one.f (s0_0 : List Int) (s0_1 : Int) (s0_2 : Int) (a1 : Int) : Option (Bool × Int × Int) := (spec_l00Src_pick.f s0_0 s0_1 s0_2 a1).bind fun bt759 => (some ((bt759.1 == 0), bt759.2.1, bt759.2.2))
set_option maxHeartbeats 8000000 in
set_option maxRecDepth 100000 in
theorem spec_l00Src_one.calls (g : Nat) (s0_0 : List Int) (s0_1 : Int) (s0_2 : Int) (a1 : Int) (r1 : Bool) (r2 : Int) (r3 : Int) (w0 w : World) (hI : IsS102 w0 w g s0_0 s0_1 s0_2) (hB : Below w0.heap.size w0 w) (h : spec_l00Src_one.f s0_0 s0_1 s0_2 a1 = some (r1, r2, r3)) :
  Calls Try.prog 117 #[.pointer (some ⟨g, 0, none⟩), .int .i64 a1] w fun e w' => e = .returned (.bool r1) ∧ IsS102 w0 w' g s0_0 r2 r3 ∧ Below w0.heap.size w0 w' ∧ KeepBut w w' g none := by
 have HI0 := Aside0.mk hI
 have HK := Aside0.mk (KeepBut.refl w g none)
 have HL := Aside0.mk hB.size
 clear hI
 have HW0 := Aside0.mk hB.size
 have HB := Aside0.mk hB
 clear hB
 have H : ((spec_l00Src_pick.f s0_0 s0_1 s0_2 a1).bind fun bt759 => (some ((bt759.1 == 0), bt759.2.1, bt759.2.2))) = some (r1, r2, r3) := h
 clear h
 replace H := Option.bind_eq_some_iff.mp H
 obtain ⟨⟨t759, t760, t761⟩, A30, H⟩ := H
 try dsimp only at H
 have A3 := Aside0.mk A30
 clear A30
 simp only [Option.some.injEq, Prod.mk.injEq] at H
 obtain ⟨rfl, rfl, rfl⟩ := H
 go_enter Try.func117, Try.ntmps117
 go_wp2_with (first | ((with_reducible refine gate_callee (f := 95) rfl ?_); refine goesL_ (some 7) rfl rfl Try.func95 (by kernel_rfl) rfl #[.pointer (some ⟨g, 0, none⟩), .int .i64 a1] rfl (by (try simp only [List.map_toArray, List.map_cons, List.map_nil]); first | done | rfl | (simp only [List.length_drop, List.length_take]; rfl)) ?_; (with_reducible refine (spec_l00Src_pick.calls g s0_0 s0_1 s0_2 a1 t759 t760 t761 w0 _ ?side1 ?side2 A3.out).mono ?_); (case side1 => repeat (first | (with_reducible first | exact HI0.out | apply IsS102.alloc | apply IsS102.drewN | apply IsS102.drew | apply IsS102.set_1 | apply IsS102.set_2) | exact HI0.out)); (case side2 => repeat (first | (with_reducible first | exact HB.out | apply below_alloc | apply pw_below_drewN | apply below_drew1 | refine below_set ?_ (IsS102.ge HI0.out)) | exact HB.out)); rintro e w4 ⟨rfl, hi, hb, hk⟩; refine ⟨_, rfl, ?_⟩; have n0_ := Aside0.mk (KeepBut.trans (by repeat (first | (with_reducible first | exact HK.out | apply KeepBut.set_ | apply keep_drewN | apply keep_drew | apply keep_alloc) | exact HK.out)) hk (.inl rfl)); have n1_ := Aside0.mk (hb); have n2_ := Aside0.mk (hi); clear HK; clear HB; clear HI0; have HK := n0_; have HB := n1_; have HI0 := n2_; clear n0_ n1_ n2_; (try clear hb); (try clear hb2); (try clear hk); (try clear hi)))
 go_ret
 exact ⟨by first | rfl | (simp [errW_none, errW_some] <;> rfl) | (simp [*, errW_none, errW_some] <;> rfl), by repeat (first | (with_reducible first | exact HI0.out | apply IsS102.alloc | apply IsS102.drewN | apply IsS102.drew | apply IsS102.set_1 | apply IsS102.set_2) | exact HI0.out), by repeat (first | (with_reducible first | exact HB.out | apply below_alloc | apply pw_below_drewN | apply below_drew1 | refine below_set ?_ (IsS102.ge HI0.out)) | exact HB.out), by repeat (first | (with_reducible first | exact HK.out | apply KeepBut.set_ | apply keep_drewN | apply keep_drew | apply keep_alloc) | exact HK.out)⟩

end Go.Proofs.Yteknfebehafbdaa.K
