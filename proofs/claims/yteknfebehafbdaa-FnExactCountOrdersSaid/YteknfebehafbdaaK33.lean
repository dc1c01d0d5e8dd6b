-- Laid by a program of this session.
import Derived.Test.YteknfebehafbdaaK0
import Derived.Test.YteknfebehafbdaaH0
import Derived.Test.YteknfebehafbdaaH5
import Derived.Test.YteknfebehafbdaaK1
namespace Go.Proofs.Yteknfebehafbdaa.K
open Go.RowKit Go.Proofs.YteknfebehafbdaaW.PrintWords Go.Proofs.YteknfebehafbdaaW.PrintLast Go.Proofs.YteknfebehafbdaaW.PrintMore Go.Proofs.Yteknfebehafbdaa.Bx Go.Shelf
attribute [local go_sem] max2_int min2_int max_two min_two max_three min_three max_four min_four   -- for this text's walks alone
set_option linter.unusedVariables false
set_option linter.unusedSimpArgs false

/-! ### spec_CountOrders: function 25 -/
def mustV (x y : S58) : Option Bool := some (mst x y)
theorem must_b (w : World) (a b : Addr) (x y : S58) (v : Bool) (ha : At4 w a x) (hb : At4 w b y) (hm : mst x y = v) :
    Calls Try.prog 68 #[.pointer (some a), .pointer (some b)] w fun e w' => e = .returned (.bool v) ∧ Drawn0 w w' := by
  subst hm
  exact l03Must_c w a b x y ha hb
mutual
def spec_CountOrders.j0 : Nat → List (S58) → Bool → Option (Int × Bool)
 | 0, _, _ => none
 | k + 1, x0, x17 => if x17 = true then (some (0, false)) else (if 0 ≤ (IntKind.u64.wrap ((x0.length : Int))) then (if 0 ≤ (shl .i64 1 (IntKind.u64.wrap ((x0.length : Int)))) then (if (shl .i64 1 (IntKind.u64.wrap ((x0.length : Int))) : Int).toNat ≤ 35184372088832 then ((some (List.replicate (shl .i64 1 (IntKind.u64.wrap ((x0.length : Int))) : Int).toNat 0 : List Int)).bind fun y919 => (if 0 < (y919.length : Int) then (spec_CountOrders.l0 k x0 (shl .i64 1 (IntKind.u64.wrap ((x0.length : Int)))) (y919.set (0 : Int).toNat 1) 0) else (none))) else (none)) else (none)) else (none))
def spec_CountOrders.l0 : Nat → List (S58) → Int → List Int → Int → Option (Int × Bool)
 | 0, _, _, _, _ => none
 | k + 1, x0, x4, x5, x6 => if x6 < x4 then (spec_CountOrders.l1 k x0 x4 x5 x6 0) else (if 0 ≤ (wrap64 (x4 - 1)) then (if (wrap64 (x4 - 1)) < (x5.length : Int) then (some (rd x5 (wrap64 (x4 - 1)), true)) else (none)) else (none))
def spec_CountOrders.l1 : Nat → List (S58) → Int → List Int → Int → Int → Option (Int × Bool)
 | 0, _, _, _, _, _ => none
 | k + 1, x0, x4, x5, x6, x7 => if x7 < (x0.length : Int) then (if 0 ≤ x6 then (if x6 < (x5.length : Int) then (spec_CountOrders.j3 k x0 x4 x5 x6 x7 (decide ((rd x5 x6) > 0))) else (none)) else (none)) else (spec_CountOrders.j3 k x0 x4 x5 x6 x7 false)
def spec_CountOrders.j3 : Nat → List (S58) → Int → List Int → Int → Int → Bool → Option (Int × Bool)
 | 0, _, _, _, _, _, _ => none
 | k + 1, x0, x4, x5, x6, x7, x41 => if x41 = true then (if 0 ≤ (IntKind.u64.wrap (x7)) then (spec_CountOrders.l2 k x0 x4 x5 x6 x7 ((Go.bits .and .i64 (shr .i64 x6 (IntKind.u64.wrap (x7))) 1) == 0) 0) else (none)) else (spec_CountOrders.l0 k x0 x4 x5 (wrap64 (x6 + 1)))
def spec_CountOrders.l2 : Nat → List (S58) → Int → List Int → Int → Int → Bool → Int → Option (Int × Bool)
 | 0, _, _, _, _, _, _, _ => none
 | k + 1, x0, x4, x5, x6, x7, x8, x9 => if x9 < x7 then (if x8 = true then (if 0 ≤ (IntKind.u64.wrap (x9)) then (if (Go.bits .and .i64 (shr .i64 x6 (IntKind.u64.wrap (x9))) 1) = 1 then (spec_CountOrders.l2 k x0 x4 x5 x6 x7 true (wrap64 (x9 + 1))) else (if 0 ≤ x9 then (if x9 < (x0.length : Int) then (if 0 ≤ x7 then (if x7 < (x0.length : Int) then ((mustV (rd_T58 x0 x9) (rd_T58 x0 x7)).bind fun t927 => (spec_CountOrders.l2 k x0 x4 x5 x6 x7 (!t927) (wrap64 (x9 + 1)))) else (none)) else (none)) else (none)) else (none))) else (none)) else (spec_CountOrders.l2 k x0 x4 x5 x6 x7 false (wrap64 (x9 + 1)))) else (if x8 = true then (if 0 ≤ (IntKind.u64.wrap (x7)) then (if 0 ≤ (Go.bits .or .i64 x6 (shl .i64 1 (IntKind.u64.wrap (x7)))) then (if (Go.bits .or .i64 x6 (shl .i64 1 (IntKind.u64.wrap (x7)))) < (x5.length : Int) then (if 0 ≤ x6 then (if x6 < (x5.length : Int) then (spec_CountOrders.l1 k x0 x4 (x5.set ((Go.bits .or .i64 x6 (shl .i64 1 (IntKind.u64.wrap (x7)))) : Int).toNat (wrap64 ((rd x5 (Go.bits .or .i64 x6 (shl .i64 1 (IntKind.u64.wrap (x7))))) + (rd x5 x6)))) x6 (wrap64 (x7 + 1))) else (none)) else (none)) else (none)) else (none)) else (none)) else (spec_CountOrders.l1 k x0 x4 x5 x6 (wrap64 (x7 + 1))))
end
def spec_CountOrders.f (k : Nat) (l0 : List (S58)) : Option (Int × Bool) := (spec_l03Is.f k l0).bind fun t918 => (if t918 = true then (spec_CountOrders.j0 k l0 (decide ((l0.length : Int) > 10))) else (spec_CountOrders.j0 k l0 true))
theorem spec_CountOrders.mono_l : ∀ k, (∀ y0 y1, LeO (spec_CountOrders.j0 k y0 y1) (spec_CountOrders.j0 (k + 1) y0 y1)) ∧ (∀ y0 y1 y2 y3, LeO (spec_CountOrders.l0 k y0 y1 y2 y3) (spec_CountOrders.l0 (k + 1) y0 y1 y2 y3)) ∧ (∀ y0 y1 y2 y3 y4, LeO (spec_CountOrders.l1 k y0 y1 y2 y3 y4) (spec_CountOrders.l1 (k + 1) y0 y1 y2 y3 y4)) ∧ (∀ y0 y1 y2 y3 y4 y5, LeO (spec_CountOrders.j3 k y0 y1 y2 y3 y4 y5) (spec_CountOrders.j3 (k + 1) y0 y1 y2 y3 y4 y5)) ∧ (∀ y0 y1 y2 y3 y4 y5 y6, LeO (spec_CountOrders.l2 k y0 y1 y2 y3 y4 y5 y6) (spec_CountOrders.l2 (k + 1) y0 y1 y2 y3 y4 y5 y6))
 | 0 => ⟨fun _ _ r h => by simp [spec_CountOrders.j0] at h, fun _ _ _ _ r h => by simp [spec_CountOrders.l0] at h, fun _ _ _ _ _ r h => by simp [spec_CountOrders.l1] at h, fun _ _ _ _ _ _ r h => by simp [spec_CountOrders.j3] at h, fun _ _ _ _ _ _ _ r h => by simp [spec_CountOrders.l2] at h⟩
 | k + 1 => by
  obtain ⟨ih0, ih1, ih2, ih3, ih4⟩ := spec_CountOrders.mono_l k
  refine ⟨?_, ?_, ?_, ?_, ?_⟩
  ·intro y0 y1
   unfold spec_CountOrders.j0
   repeat' first
   | (with_reducible exact ih0 _ _)
   | (with_reducible exact ih1 _ _ _ _)
   | (with_reducible exact ih2 _ _ _ _ _)
   | (with_reducible exact ih3 _ _ _ _ _ _)
   | (with_reducible exact ih4 _ _ _ _ _ _ _)
   | (with_reducible exact spec_l03Is.mono _ _)
   | (with_reducible exact LeO.refl _)
   | (with_reducible exact LeO.none _)
   | (with_reducible refine LeO.ite ?_ ?_)
   | (with_reducible refine LeO.bind ?_ (fun _ => ?_))
   | exact ih0 _ _
   | exact ih1 _ _ _ _
   | exact ih2 _ _ _ _ _
   | exact ih3 _ _ _ _ _ _
   | exact ih4 _ _ _ _ _ _ _
   | exact spec_l03Is.mono _ _
   | exact LeO.none _
   | refine LeO.ite ?_ ?_
   | refine LeO.bind ?_ (fun _ => ?_)
  ·intro y0 y1 y2 y3
   unfold spec_CountOrders.l0
   repeat' first
   | (with_reducible exact ih0 _ _)
   | (with_reducible exact ih1 _ _ _ _)
   | (with_reducible exact ih2 _ _ _ _ _)
   | (with_reducible exact ih3 _ _ _ _ _ _)
   | (with_reducible exact ih4 _ _ _ _ _ _ _)
   | (with_reducible exact spec_l03Is.mono _ _)
   | (with_reducible exact LeO.refl _)
   | (with_reducible exact LeO.none _)
   | (with_reducible refine LeO.ite ?_ ?_)
   | (with_reducible refine LeO.bind ?_ (fun _ => ?_))
   | exact ih0 _ _
   | exact ih1 _ _ _ _
   | exact ih2 _ _ _ _ _
   | exact ih3 _ _ _ _ _ _
   | exact ih4 _ _ _ _ _ _ _
   | exact spec_l03Is.mono _ _
   | exact LeO.none _
   | refine LeO.ite ?_ ?_
   | refine LeO.bind ?_ (fun _ => ?_)
  ·intro y0 y1 y2 y3 y4
   unfold spec_CountOrders.l1
   repeat' first
   | (with_reducible exact ih0 _ _)
   | (with_reducible exact ih1 _ _ _ _)
   | (with_reducible exact ih2 _ _ _ _ _)
   | (with_reducible exact ih3 _ _ _ _ _ _)
   | (with_reducible exact ih4 _ _ _ _ _ _ _)
   | (with_reducible exact spec_l03Is.mono _ _)
   | (with_reducible exact LeO.refl _)
   | (with_reducible exact LeO.none _)
   | (with_reducible refine LeO.ite ?_ ?_)
   | (with_reducible refine LeO.bind ?_ (fun _ => ?_))
   | exact ih0 _ _
   | exact ih1 _ _ _ _
   | exact ih2 _ _ _ _ _
   | exact ih3 _ _ _ _ _ _
   | exact ih4 _ _ _ _ _ _ _
   | exact spec_l03Is.mono _ _
   | exact LeO.none _
   | refine LeO.ite ?_ ?_
   | refine LeO.bind ?_ (fun _ => ?_)
  ·intro y0 y1 y2 y3 y4 y5
   unfold spec_CountOrders.j3
   repeat' first
   | (with_reducible exact ih0 _ _)
   | (with_reducible exact ih1 _ _ _ _)
   | (with_reducible exact ih2 _ _ _ _ _)
   | (with_reducible exact ih3 _ _ _ _ _ _)
   | (with_reducible exact ih4 _ _ _ _ _ _ _)
   | (with_reducible exact spec_l03Is.mono _ _)
   | (with_reducible exact LeO.refl _)
   | (with_reducible exact LeO.none _)
   | (with_reducible refine LeO.ite ?_ ?_)
   | (with_reducible refine LeO.bind ?_ (fun _ => ?_))
   | exact ih0 _ _
   | exact ih1 _ _ _ _
   | exact ih2 _ _ _ _ _
   | exact ih3 _ _ _ _ _ _
   | exact ih4 _ _ _ _ _ _ _
   | exact spec_l03Is.mono _ _
   | exact LeO.none _
   | refine LeO.ite ?_ ?_
   | refine LeO.bind ?_ (fun _ => ?_)
  ·intro y0 y1 y2 y3 y4 y5 y6
   unfold spec_CountOrders.l2
   repeat' first
   | (with_reducible exact ih0 _ _)
   | (with_reducible exact ih1 _ _ _ _)
   | (with_reducible exact ih2 _ _ _ _ _)
   | (with_reducible exact ih3 _ _ _ _ _ _)
   | (with_reducible exact ih4 _ _ _ _ _ _ _)
   | (with_reducible exact spec_l03Is.mono _ _)
   | (with_reducible exact LeO.refl _)
   | (with_reducible exact LeO.none _)
   | (with_reducible refine LeO.ite ?_ ?_)
   | (with_reducible refine LeO.bind ?_ (fun _ => ?_))
   | exact ih0 _ _
   | exact ih1 _ _ _ _
   | exact ih2 _ _ _ _ _
   | exact ih3 _ _ _ _ _ _
   | exact ih4 _ _ _ _ _ _ _
   | exact spec_l03Is.mono _ _
   | exact LeO.none _
   | refine LeO.ite ?_ ?_
   | refine LeO.bind ?_ (fun _ => ?_)
theorem spec_CountOrders.mono : ∀ a0 k, LeO (spec_CountOrders.f k a0) (spec_CountOrders.f (k + 1) a0) := by
 intro a0 k
 obtain ⟨ih0, ih1, ih2, ih3, ih4⟩ := spec_CountOrders.mono_l k
 unfold spec_CountOrders.f
 repeat' first
   | (with_reducible exact ih0 _ _)
   | (with_reducible exact ih1 _ _ _ _)
   | (with_reducible exact ih2 _ _ _ _ _)
   | (with_reducible exact ih3 _ _ _ _ _ _)
   | (with_reducible exact ih4 _ _ _ _ _ _ _)
   | (with_reducible exact spec_l03Is.mono _ _)
   | (with_reducible exact LeO.refl _)
   | (with_reducible exact LeO.none _)
   | (with_reducible refine LeO.ite ?_ ?_)
   | (with_reducible refine LeO.bind ?_ (fun _ => ?_))
   | exact ih0 _ _
   | exact ih1 _ _ _ _
   | exact ih2 _ _ _ _ _
   | exact ih3 _ _ _ _ _ _
   | exact ih4 _ _ _ _ _ _ _
   | exact spec_l03Is.mono _ _
   | exact LeO.none _
   | refine LeO.ite ?_ ?_
   | refine LeO.bind ?_ (fun _ => ?_)
def spec_CountOrders.T18 : Bool × List (List Nat × List Nat) := (true, [([], []), ([], []), ([], []), ([2], [2]), ([3], [3]), ([1, 4], [1, 4]), ([0, 5], [0, 5]), ([6], [6]), ([], []), ([], []), ([8, 9], [8, 9]), ([10], [10]), ([7, 11], [7, 11]), ([0, 5, 0, 1, 2, 3, 4, 5, 6, 7, 8, 9, 10, 11, 12], [0, 5]), ([13, 12, 0, 1, 2, 3, 4, 5, 6, 7, 8, 9, 10, 11, 12], [12, 13])])
def spec_CountOrders.B18 : List Nat := [0, 0, 0, 4, 12, 30, 63, 127, 0, 0, 768, 1792, 4095, 8191, 16383]
theorem spec_CountOrders.tab18 : rtab .any (opsOf Try.f25 18) = spec_CountOrders.T18 := by kernel_rfl
theorem spec_CountOrders.bits18 : waitsOk spec_CountOrders.T18.2 spec_CountOrders.B18 = true := by kernel_rfl
set_option maxHeartbeats 8000000 in
set_option maxRecDepth 100000 in
theorem spec_CountOrders.calls (k : Nat) (A0 : Option Addr) (c0 : Nat) (l0 : List (S58)) (r1 : Int) (r2 : Bool) (w : World) (hr0 : Kd.C k58 w A0 l0.length l0) (hc0 : l0.length ≤ c0) (h : spec_CountOrders.f k l0 = some (r1, r2)) :
  Calls Try.prog 25 #[.slice A0 l0.length c0] w fun e w' => e = .returned (.tuple #[.int .i64 r1, .bool r2]) ∧ Below w.heap.size w w' := by
 have HR0 := Aside0.mk hr0
 have HC0 := Aside0.mk hc0
 clear hr0 hc0
 have HB := Aside0.mk (Below.refl w.heap.size w)
 have H : ((spec_l03Is.f k l0).bind fun t918 => (if t918 = true then (spec_CountOrders.j0 k l0 (decide ((l0.length : Int) > 10))) else (spec_CountOrders.j0 k l0 true))) = some (r1, r2) := h
 clear h
 have HC2 := Aside0.mk H
 clear H
 go_enter Try.func25, Try.ntmps25
 go_upto_region 1 with (fail)
 go_cut [17] (fun v17 wc => ∃ (kq : Nat) (x17_1 : Bool), v17 = .bool x17_1 ∧ Aside0 (spec_CountOrders.j0 kq l0 x17_1 = some (r1, r2)) ∧ Aside0 (kq ≤ k) ∧ Aside0 (Below w.heap.size w wc))
 case first =>
  have H := HC2.out
  clear HC2
  replace H := Option.bind_eq_some_iff.mp H
  obtain ⟨t918, A30, H⟩ := H
  try dsimp only at H
  have A3 := Aside0.mk A30
  clear A30
  by_cases c4 : t918 = true
  ·subst c4
   rw [if_pos rfl] at H
   have H' := Aside0.mk H
   clear H
   go_wp2_with (first | ((with_reducible refine gate_callee (f := 60) rfl ?_); refine goesL_ (some 11) rfl rfl Try.func60 (by kernel_rfl) rfl #[.slice A0 l0.length c0] rfl (by (try simp only [List.map_toArray, List.map_cons, List.map_nil]); first | done | rfl | (simp only [List.length_drop, List.length_take]; rfl)) ?_; (with_reducible refine (spec_l03Is.calls k _ _ l0 true _ ?side1 ?side2 A3.out).mono ?_); (case side1 => repeat (first | exact (Kd.C_below HR0.out HB.out) | (with_reducible refine Kd.C_alloc ?_ _) | (with_reducible refine Kd.C_drewN ?_ _) | (with_reducible refine Kd.C_drew ?_))); (case side2 => exact HC0.out); rintro e w' ⟨rfl, ⟨nd, rfl⟩⟩; refine ⟨_, rfl, ?_⟩))
   go_meet
   case rel => exact ⟨_, (decide ((l0.length : Int) > 10)), (by first | rfl | (simp; done) | (simp [*]; done)), H', ⟨by first | omega | exact Nat.le_refl _⟩, ⟨by repeat (first | (with_reducible first | exact HB.out | apply below_alloc | apply pw_below_drewN | apply below_drew1) | exact HB.out)⟩⟩
  replace c4 := Bool.eq_false_iff.mpr c4
  subst c4
  rw [if_neg (show ¬ (false = true) by decide)] at H
  have H' := Aside0.mk H
  clear H
  go_wp2_with (first | ((with_reducible refine gate_callee (f := 60) rfl ?_); refine goesL_ (some 11) rfl rfl Try.func60 (by kernel_rfl) rfl #[.slice A0 l0.length c0] rfl (by (try simp only [List.map_toArray, List.map_cons, List.map_nil]); first | done | rfl | (simp only [List.length_drop, List.length_take]; rfl)) ?_; (with_reducible refine (spec_l03Is.calls k _ _ l0 false _ ?side1 ?side2 A3.out).mono ?_); (case side1 => repeat (first | exact (Kd.C_below HR0.out HB.out) | (with_reducible refine Kd.C_alloc ?_ _) | (with_reducible refine Kd.C_drewN ?_ _) | (with_reducible refine Kd.C_drew ?_))); (case side2 => exact HC0.out); rintro e w' ⟨rfl, ⟨nd, rfl⟩⟩; refine ⟨_, rfl, ?_⟩))
  go_meet
  case rel => exact ⟨_, (true), (by first | rfl | (simp; done) | (simp [*]; done)), H', ⟨by first | omega | exact Nat.le_refl _⟩, ⟨by repeat (first | (with_reducible first | exact HB.out | apply below_alloc | apply pw_below_drewN | apply below_drew1) | exact HB.out)⟩⟩
 case rest =>
  clear HC2
  try clear c2
  try clear p2
  try clear c4
  obtain ⟨kq, x17_1, rfl, HA, HJ1, HB⟩ := hcut
  cases kq with
  | zero => exact absurd HA.out (by simp [spec_CountOrders.j0])
  | succ kj1 =>
   have H := HA.out
   clear HA
   simp only [spec_CountOrders.j0] at H
   by_cases c5 : x17_1 = true
   ·subst c5
    rw [if_pos rfl] at H
    simp only [Option.some.injEq, Prod.mk.injEq] at H
    obtain ⟨rfl, rfl⟩ := H
    go_wp2
    go_ret2
    exact ⟨by first | rfl | (simp [errW_none, errW_some] <;> rfl) | (simp [*, errW_none, errW_some] <;> rfl), by repeat (first | (with_reducible first | exact HB.out | apply below_alloc | apply pw_below_drewN | apply below_drew1) | exact HB.out)⟩
   replace c5 := Bool.eq_false_iff.mpr c5
   subst c5
   rw [if_neg (show ¬ (false = true) by decide)] at H
   obtain ⟨ji6, hji6⟩ : ∃ j_ : Int, (IntKind.u64.wrap ((l0.length : Int))) = j_ := ⟨_, rfl⟩
   replace H : (if 0 ≤ (ji6) then (if 0 ≤ (shl .i64 1 (ji6)) then (if (shl .i64 1 (ji6) : Int).toNat ≤ 35184372088832 then ((some (List.replicate (shl .i64 1 (ji6) : Int).toNat 0 : List Int)).bind fun y919 => (if 0 < (y919.length : Int) then (spec_CountOrders.l0 kj1 l0 (shl .i64 1 (ji6)) (y919.set (0 : Int).toNat 1) 0) else (none))) else (none)) else (none)) else (none)) = some (r1, r2) := by first | (rw [hji6] at H; exact H) | (simp only [hji6] at H ⊢; exact H)
   by_cases c7 : 0 ≤ (ji6)
   rotate_left
   ·rw [if_neg c7] at H
    exact absurd H (by simp)

   rw [if_pos c7] at H
   have c7b0 := eq_true c7
   have c7b1 : decide (0 ≤ (ji6)) = true := decide_eq_true c7
   clear c7
   obtain ⟨ji8, hji8⟩ : ∃ j_ : Int, (shl .i64 1 (ji6)) = j_ := ⟨_, rfl⟩
   replace H : (if 0 ≤ (ji8) then (if (ji8 : Int).toNat ≤ 35184372088832 then ((some (List.replicate (ji8 : Int).toNat 0 : List Int)).bind fun y919 => (if 0 < (y919.length : Int) then (spec_CountOrders.l0 kj1 l0 ji8 (y919.set (0 : Int).toNat 1) 0) else (none))) else (none)) else (none)) = some (r1, r2) := by first | (rw [hji8] at H; exact H) | (simp only [hji8] at H ⊢; exact H)
   have hji8_ : (IntKind.i64.wrap (1 * 2 ^ min (ji6).toNat 64)) = ji8 := hji8
   have hji8z : (ji6) ≤ 64 → (IntKind.i64.wrap (1 * 2 ^ (ji6).toNat)) = ji8 := shl_small hji8
   have hji8u : (IntKind.i64.wrap (2 ^ min (ji6).toNat 64)) = ji8 := by have h_ := hji8_; rw [Int.one_mul] at h_; exact h_
   have hji8v : (ji6) ≤ 64 → (IntKind.i64.wrap (2 ^ (ji6).toNat)) = ji8 := fun hle_ => by have h_ := hji8z hle_; rw [Int.one_mul] at h_; exact h_
   have hji8y : (wrap64 (1 * 2 ^ min (ji6).toNat 64)) = ji8 := (i64_w _).symm.trans hji8_
   have hji8x : (ji6) ≤ 64 → (wrap64 (1 * 2 ^ (ji6).toNat)) = ji8 := fun h_ => (i64_w _).symm.trans (hji8z h_)
   by_cases c9 : 0 ≤ (ji8)
   rotate_left
   ·rw [if_neg c9] at H
    exact absurd H (by simp)
   rw [if_pos c9] at H
   have c9b0 := eq_true c9
   have c9b1 : decide (0 ≤ (ji8)) = true := decide_eq_true c9
   clear c9
   by_cases c10 : (ji8 : Int).toNat ≤ 35184372088832
   rotate_left
   ·rw [if_neg c10] at H
    exact absurd H (by simp)
   rw [if_pos c10] at H
   have c10b0 := eq_true c10
   have c10b1 : decide ((ji8 : Int).toNat ≤ 35184372088832) = true := decide_eq_true c10
   clear c10
   obtain ⟨y919, hy919⟩ : ∃ y_ : List Int, y_ = (List.replicate (ji8 : Int).toNat 0) := ⟨_, rfl⟩
   replace H : (if 0 < (y919.length : Int) then (spec_CountOrders.l0 kj1 l0 ji8 (y919.set (0 : Int).toNat 1) 0) else (none)) = some (r1, r2) := by first | (rw [hy919]; with_reducible exact H) | (have H2_ := (Option.bind_some _ _).symm.trans H; rw [hy919]; with_reducible exact H2_) | (have H2_ := (Option.bind_some _ _).symm.trans H; with_reducible exact H2_) | with_reducible exact H | (rw [hy919]; exact H) | exact H
   have Ny919 := Aside0.mk hy919
   clear hy919
   by_cases c11 : 0 < (y919.length : Int)
   rotate_left
   ·rw [if_neg c11] at H
    exact absurd H (by simp)
   rw [if_pos c11] at H
   have c11b0 : decide (0 < (y919.length : Int)) = true := decide_eq_true c11
   have c11b1 : decide (0 < y919.length) = true := decide_eq_true (by omega)
   clear c11
   obtain ⟨y922, hy922⟩ : ∃ y_ : List Int, y_ = (y919.set (0 : Int).toNat 1) := ⟨_, rfl⟩
   replace H : (spec_CountOrders.l0 kj1 l0 ji8 y922 0) = some (r1, r2) := by first | (rw [hy922]; with_reducible exact H) | (have H2_ := (Option.bind_some _ _).symm.trans H; rw [hy922]; with_reducible exact H2_) | (have H2_ := (Option.bind_some _ _).symm.trans H; with_reducible exact H2_) | with_reducible exact H | (rw [hy922]; exact H) | exact H
   have Ny922 := Aside0.mk hy922
   clear hy922
   have H' := Aside0.mk H
   clear H
   go_wp2_with (first | ((with_reducible refine gate_dst (N := 23) rfl ?_); (try (refine gate_guard (by rfl) ?_; dsimp only)); refine Kd.R_make (Kd.int .i64) _ 2 rfl (N := 23) rfl 33 _ _ rfl ji8 rfl rfl Try.underlying33 (.int .i64 0) 8 info2 rfl (by decide) (by omega) 0 (ok := fun _ => True) (okp := fun _ => True) rfl (fun _ hk => hk) trivial (of_decide_eq_true (by first | (with_reducible assumption) | assumption)) (Nat.le_trans (Nat.mul_le_mul_right _ (of_decide_eq_true (by first | (with_reducible assumption) | assumption) : ji8.toNat ≤ 35184372088832)) (by omega)) (Below.refl _ _) (Nat.le_refl _) ?_; intro v920 w13 ho14 hb hg_ hnew_; clear hg_ hnew_; (first | rw [← Ny919.out] at ho14 | (simp only [Int.reduceToNat] at ho14; rw [← Ny919.out] at ho14)); have n0_ := Aside0.mk (Kd.R_lower ho14 (below_size (by repeat (first | (with_reducible first | exact HB.out | apply below_alloc | apply pw_below_drewN | apply below_drew1) | exact HB.out)))); have n1_ := Aside0.mk (below_step (by repeat (first | (with_reducible first | exact HB.out | apply below_alloc | apply pw_below_drewN | apply below_drew1) | exact HB.out)) hb); clear HB; have HO921 := n0_; have HB := n1_; clear n0_ n1_; clear hb ho14; have p12 : 0 ≤ (0 : Int) := (by omega); have q12 : (0 : Int) < ((y919.length : Int) : Int) := of_decide_eq_true (by first | (with_reducible assumption) | assumption); have qi12 : (0 < y919.length) = True := eq_true (by omega); obtain ⟨go12, co12, eo12, gb12, gl12, cl12, HG12⟩ := Kd.R_form HO921.out (by omega); (first | cases eo12 | (injection eo12 with ea_ en_ ec_; (first | subst ea_ | (injection ea_ with ea_; subst ea_)); subst ec_; clear en_)); have GB12 := Aside0.mk gb12; have GG12 := Aside0.mk HG12; clear gb12 gl12 HG12; obtain ⟨hx12_0, hf12_0⟩ := Kd.R_celln 0 HO921.out (0 : Int) p12 q12; (try rw [show ((0 : Int)).toNat = 0 from rfl] at hx12_0); (try simp only [Nat.reduceMul, Nat.zero_mul, Nat.zero_add, Nat.reduceAdd] at hx12_0); (try rw [show ((0 : Int)).toNat = 0 from rfl] at hf12_0); (try simp only [Nat.reduceMul, Nat.zero_mul, Nat.zero_add, Nat.reduceAdd] at hf12_0); replace p12 := eq_true p12; replace q12 := eq_true q12; obtain ⟨hy15_, hz15_⟩ := Kd.R_celln 0 HO921.out (0 : Int) (by omega) (of_decide_eq_true (by first | (with_reducible assumption) | assumption)); (try simp only [Int.reduceToNat, Int.toNat_zero, Int.toNat_ofNat, Nat.reduceMul, Nat.zero_mul, Nat.zero_add] at hy15_ hz15_); (try rw [show ((0 : Int)).toNat = 0 from rfl] at hy15_); (try rw [show ((0 : Int)).toNat = 0 from rfl] at hz15_); have HP15 := Kd.R_putg HO921.out (0 : Int) 1) | ((with_reducible refine gate_store (t := 2) (p := 25) rfl ?_); refine store_event (t := 2) (p := 25) (v := ?vo_w16) (w1 := (w13.setCell ⟨go12, (0 : Int).toNat, none⟩ (.int .i64 1))) ?hg ?ho ?hn ?hr ?_; (case ho => rfl); (case hg => rfl); (case hn => rfl); (case hr => first | (go_simp; done) | (go_simp; rfl)); intro w16 hw; have hg : w13.grownBy w16 (some go12) := (by rw [hw]; exact HP15.2); have hp_ : Kd.R (Kd.int .i64) 2 w16 w.heap.size (fun _ => True) (.slice (some ⟨go12, 0, none⟩) y919.length co12) y922 := (by rw [hw, Ny922.out]; exact HP15.1); clear HP15; have n0_ := Aside0.mk (hp_); have n1_ := Aside0.mk ((by rw [hw]; exact below_set (HB.out) GB12.out : Below w.heap.size w w16)); clear HO921; clear HB; have HO921 := n0_; have HB := n1_; clear n0_ n1_; clear hg hw hp_))
   go_loopg [6] kj1 (fun kq v6 w' => ∃ (x5_2 : List Int) (x6_2 : Int), v6 = .int .i64 x6_2 ∧ Aside0 (spec_CountOrders.l0 kq l0 ji8 x5_2 x6_2 = some (r1, r2)) ∧ Aside0 (kq ≤ kj1) ∧ Aside0 (Kd.R (Kd.int .i64) 2 w' w.heap.size (fun _ => True) (.slice (some ⟨go12, 0, none⟩) y919.length co12) x5_2) ∧ Aside0 (Below w.heap.size w w'))
   case atStart => exact ⟨(y922), (0), (by first | rfl | (simp; done) | (simp [*]; done)), H', ⟨Nat.le_refl _⟩, ⟨by (with_reducible repeat (first | apply Kd.R_alloc | apply Kd.R_drewN | apply Kd.R_drew)); exact HO921.out⟩, ⟨by repeat (first | (with_reducible first | exact HB.out | apply below_alloc | apply pw_below_drewN | apply below_drew1) | exact HB.out)⟩⟩
   case round =>
    clear H'
    try clear c1
    try clear p1
    try clear q1
    try clear hx1
    try clear qi1
    try clear hf1
    try clear c2
    try clear p2
    try clear c4
    try clear c5
    try clear c6
    try clear p6
    try clear c7
    try clear c7b0
    try clear c7b1
    try clear c9
    try clear c9b0
    try clear c9b1
    try clear c10
    try clear c10b0
    try clear c10b1
    try clear c11
    try clear c11b0
    try clear c11b1
    try clear p12
    try clear q12
    try clear hx12
    try clear qi12
    try clear hf12
    try clear hx12_0
    try clear p12
    try clear p2
    try clear q12
    obtain ⟨x5_2, x6_2, rfl, HA, HK2, HO_5, HB⟩ := hrel
    have hl5_2 := (Kd.R_reads' HO_5.out).1
    rw [hl5_2] at HO_5
    (try simp only [hl5_2])
    cases gk with
    | zero => exact absurd HA.out (by simp [spec_CountOrders.l0])
    | succ k2 =>
     have H := HA.out
     clear HA
     simp only [spec_CountOrders.l0] at H
     by_cases c17 : x6_2 < ji8
     ·rw [if_pos c17] at H
      have c17b0 : decide (x6_2 < ji8) = true := decide_eq_true c17
      clear c17
      have H' := Aside0.mk H
      clear H
      go_wp2
      go_loopg [7] k2 (fun kq v7 w' => ∃ (x5_3 : List Int) (x7_3 : Int), v7 = .int .i64 x7_3 ∧ Aside0 (spec_CountOrders.l1 kq l0 ji8 x5_3 x6_2 x7_3 = some (r1, r2)) ∧ Aside0 (kq ≤ k2) ∧ Aside0 (Kd.R (Kd.int .i64) 2 w' w.heap.size (fun _ => True) (.slice (some ⟨go12, 0, none⟩) x5_2.length co12) x5_3) ∧ Aside0 (Below w.heap.size w w'))
      case atStart => exact ⟨(x5_2), (0), (by first | rfl | (simp; done) | (simp [*]; done)), H', ⟨Nat.le_refl _⟩, ⟨by (try simp only [hl5_2]); (with_reducible repeat (first | apply Kd.R_alloc | apply Kd.R_drewN | apply Kd.R_drew)); exact HO_5.out⟩, ⟨by repeat (first | (with_reducible first | exact HB.out | apply below_alloc | apply pw_below_drewN | apply below_drew1) | exact HB.out)⟩⟩
      case round =>
       clear H'
       try clear c1
       try clear p1
       try clear q1
       try clear hx1
       try clear qi1
       try clear hf1
       try clear c2
       try clear p2
       try clear c4
       try clear c5
       try clear c6
       try clear p6
       try clear c7
       try clear c7b0
       try clear c7b1
       try clear c9
       try clear c9b0
       try clear c9b1
       try clear c10
       try clear c10b0
       try clear c10b1
       try clear c11
       try clear c11b0
       try clear c11b1
       try clear p12
       try clear q12
       try clear hx12
       try clear qi12
       try clear hf12
       try clear c17
       try clear c17b0
       try clear hx12_0
       try clear p1
       try clear p12
       try clear p2
       try clear p6
       try clear q1
       try clear q12
       obtain ⟨x5_3, x7_3, rfl, HA, HK3, HO_5, HB⟩ := hrel
       have hl5_3 := (Kd.R_reads' HO_5.out).1
       rw [hl5_3] at HO_5
       (try simp only [hl5_3])
       cases gk with
       | zero => exact absurd HA.out (by simp [spec_CountOrders.l1])
       | succ k3 =>
        have H := HA.out
        clear HA
        simp only [spec_CountOrders.l1] at H
        have HC18 := Aside0.mk H
        clear H
        go_upto_region 10 with (fail)
        go_cut [41] (fun v41 wc => ∃ (kq : Nat) (x41_17 : Bool), v41 = .bool x41_17 ∧ Aside0 (spec_CountOrders.j3 kq l0 ji8 x5_3 x6_2 x7_3 x41_17 = some (r1, r2)) ∧ Aside0 (kq ≤ k3) ∧ Aside0 (Kd.R (Kd.int .i64) 2 wc w.heap.size (fun _ => True) (.slice (some ⟨go12, 0, none⟩) x5_3.length co12) x5_3) ∧ Aside0 (Below w.heap.size w wc))
        case first =>
         have H := HC18.out
         clear HC18
         by_cases c19 : x7_3 < (l0.length : Int)
         rotate_left
         ·rw [if_neg c19] at H
          have c19b0 : decide (x7_3 < (l0.length : Int)) = false := decide_eq_false c19
          clear c19
          (first | rw [c19b0] | (simp only [i64_w, i32_w]; rw [c19b0]) | skip)
          have H' := Aside0.mk H
          clear H
          go_wp2
          go_meet
          case rel => exact ⟨_, (false), (by first | rfl | (simp; done) | (simp [*]; done)), H', ⟨by have := HJ1.out; have := HK2.out; have := HK3.out; first | omega | exact Nat.le_refl _⟩, ⟨by (try simp only [hl5_2]); (try simp only [hl5_3]); (with_reducible repeat (first | apply Kd.R_alloc | apply Kd.R_drewN | apply Kd.R_drew)); exact HO_5.out⟩, ⟨by repeat (first | (with_reducible first | exact HB.out | apply below_alloc | apply pw_below_drewN | apply below_drew1) | exact HB.out)⟩⟩
         rw [if_pos c19] at H
         have c19b0 : decide (x7_3 < (l0.length : Int)) = true := decide_eq_true c19
         clear c19
         (first | rw [c19b0] | (simp only [i64_w, i32_w]; rw [c19b0]) | skip)
         by_cases c20 : 0 ≤ x6_2
         rotate_left
         ·rw [if_neg c20] at H
          exact absurd H (by simp)
         rw [if_pos c20] at H
         have c20b0 : decide (0 ≤ x6_2) = true := decide_eq_true c20
         clear c20
         by_cases c21 : x6_2 < (x5_3.length : Int)
         rotate_left
         ·rw [if_neg c21] at H
          exact absurd H (by simp)
         rw [if_pos c21] at H
         have c21b0 : decide (x6_2 < (x5_3.length : Int)) = true := decide_eq_true c21
         clear c21
         have H' := Aside0.mk H
         clear H
         have p924 : 0 ≤ (x6_2 : Int) := of_decide_eq_true (by first | (with_reducible assumption) | assumption)
         have q924 : x6_2 < (x5_3.length : Int) := of_decide_eq_true (by first | (with_reducible assumption) | assumption)
         obtain ⟨ad924, e924, hx924_0⟩ := Kd.at_int (Kd.R_reads' HO_5.out).2.2 x6_2 p924 q924
         obtain rfl : (⟨go12, 0, none⟩ : Addr) = ad924 := (by injection e924)
         (first | simp only [add_plain] at hx924_0 | simp only [add_at] at hx924_0 | simp only [Addr.add, Nat.zero_add] at hx924_0 | skip)
         replace p924 := eq_true p924
         replace q924 := eq_true q924
         go_wp2
         go_meet
         case rel => exact ⟨_, (decide ((rd x5_3 x6_2) > 0)), (by first | rfl | (simp; done) | (simp [*]; done)), H', ⟨by have := HJ1.out; have := HK2.out; have := HK3.out; first | omega | exact Nat.le_refl _⟩, ⟨by (try simp only [hl5_2]); (try simp only [hl5_3]); (with_reducible repeat (first | apply Kd.R_alloc | apply Kd.R_drewN | apply Kd.R_drew)); exact HO_5.out⟩, ⟨by repeat (first | (with_reducible first | exact HB.out | apply below_alloc | apply pw_below_drewN | apply below_drew1) | exact HB.out)⟩⟩
        case rest =>
         clear HC18
         try clear c1
         try clear p1
         try clear q1
         try clear hx1
         try clear qi1
         try clear hf1
         try clear c2
         try clear p2
         try clear c4
         try clear c5
         try clear c6
         try clear p6
         try clear c7
         try clear c7b0
         try clear c7b1
         try clear c9
         try clear c9b0
         try clear c9b1
         try clear p9
         try clear q9
         try clear hx9
         try clear c10
         try clear c10b0
         try clear c10b1
         try clear c11
         try clear c11b0
         try clear c11b1
         try clear p12
         try clear q12
         try clear hx12
         try clear qi12
         try clear hf12
         try clear c17
         try clear c17b0
         try clear c19
         try clear c19b0
         try clear c20
         try clear c20b0
         try clear c21
         try clear c21b0
         try clear hx12_0
         try clear hx924_0
         try clear p1
         try clear p12
         try clear p2
         try clear p6
         try clear p924
         try clear q1
         try clear q12
         try clear q924
         obtain ⟨kq, x41_17, rfl, HA, HJ17, HO_5, HB⟩ := hcut
         cases kq with
         | zero => exact absurd HA.out (by simp [spec_CountOrders.j3])
         | succ kj17 =>
          have H := HA.out
          clear HA
          simp only [spec_CountOrders.j3] at H
          by_cases c22 : x41_17 = true
          rotate_left
          ·replace c22 := Bool.eq_false_iff.mpr c22
           subst c22
           rw [if_neg (show ¬ (false = true) by decide)] at H
           have H' := Aside0.mk H
           clear H
           go_wp2
           (try simp only [← hl5_2, ← hl5_3])
           go_roundg kj17
           case measure => have := HJ1.out; have := HK2.out; have := HK3.out; have := HJ17.out; omega
           case rel => exact ⟨(x5_3), (wrap64 (x6_2 + 1)), (by first | rfl | (simp; done) | (simp [*]; done)), H', ⟨by have := HJ1.out; have := HK2.out; have := HK3.out; have := HJ17.out; omega⟩, ⟨by (try simp only [hl5_2]); (try simp only [hl5_3]); (with_reducible repeat (first | apply Kd.R_alloc | apply Kd.R_drewN | apply Kd.R_drew)); exact HO_5.out⟩, ⟨by repeat (first | (with_reducible first | exact HB.out | apply below_alloc | apply pw_below_drewN | apply below_drew1) | exact HB.out)⟩⟩
          subst c22
          rw [if_pos rfl] at H
          obtain ⟨ji23, hji23⟩ : ∃ j_ : Int, (IntKind.u64.wrap (x7_3)) = j_ := ⟨_, rfl⟩
          replace H : (if 0 ≤ (ji23) then (spec_CountOrders.l2 kj17 l0 ji8 x5_3 x6_2 x7_3 ((Go.bits .and .i64 (shr .i64 x6_2 (ji23)) 1) == 0) 0) else (none)) = some (r1, r2) := by first | (rw [hji23] at H; exact H) | (simp only [hji23] at H ⊢; exact H)
          by_cases c24 : 0 ≤ (ji23)
          rotate_left
          ·rw [if_neg c24] at H
           exact absurd H (by simp)
          rw [if_pos c24] at H
          have c24b0 := eq_true c24
          have c24b1 : decide (0 ≤ (ji23)) = true := decide_eq_true c24
          clear c24
          obtain ⟨ji25, hji25⟩ : ∃ j_ : Int, (shr .i64 x6_2 (ji23)) = j_ := ⟨_, rfl⟩
          replace H : (spec_CountOrders.l2 kj17 l0 ji8 x5_3 x6_2 x7_3 ((Go.bits .and .i64 (ji25) 1) == 0) 0) = some (r1, r2) := by first | (rw [hji25] at H; exact H) | (simp only [hji25] at H ⊢; exact H)
          have hji25_ : (x6_2 / 2 ^ min (ji23).toNat 64) = ji25 := hji25
          have hji25z : (ji23) ≤ 64 → (x6_2 / 2 ^ (ji23).toNat) = ji25 := shr_small hji25
          have H' := Aside0.mk H
          clear H
          go_wp2
          go_loopg [8, 9] kj17 (fun kq v8 v9 w' => ∃ (x8_5 : Bool) (x9_5 : Int), v8 = .bool x8_5 ∧ v9 = .int .i64 x9_5 ∧ Aside0 (spec_CountOrders.l2 kq l0 ji8 x5_3 x6_2 x7_3 x8_5 x9_5 = some (r1, r2)) ∧ Aside0 (kq ≤ kj17) ∧ Aside0 (Kd.R (Kd.int .i64) 2 w' w.heap.size (fun _ => True) (.slice (some ⟨go12, 0, none⟩) x5_3.length co12) x5_3) ∧ Aside0 (Below w.heap.size w w'))
          case atStart => exact ⟨(((Go.bits .and .i64 (ji25) 1) == 0)), (0), (by first | rfl | (simp; done) | (simp only [← hji25] <;> (first | rfl | simp)) | (simp [*]; done)), (by first | rfl | (simp; done) | (simp [*]; done)), H', ⟨Nat.le_refl _⟩, ⟨by (try simp only [hl5_2]); (try simp only [hl5_3]); (with_reducible repeat (first | apply Kd.R_alloc | apply Kd.R_drewN | apply Kd.R_drew)); exact HO_5.out⟩, ⟨by repeat (first | (with_reducible first | exact HB.out | apply below_alloc | apply pw_below_drewN | apply below_drew1) | exact HB.out)⟩⟩
          case round =>
           clear H'
           try clear c1
           try clear p1
           try clear q1
           try clear hx1
           try clear qi1
           try clear hf1
           try clear c2
           try clear p2
           try clear c4
           try clear c5
           try clear c6
           try clear p6
           try clear c7
           try clear c7b0
           try clear c7b1
           try clear c9
           try clear c9b0
           try clear c9b1
           try clear p9
           try clear q9
           try clear hx9
           try clear c10
           try clear c10b0
           try clear c10b1
           try clear c11
           try clear c11b0
           try clear c11b1
           try clear p12
           try clear q12
           try clear hx12
           try clear qi12
           try clear hf12
           try clear c17
           try clear c17b0
           try clear c19
           try clear c19b0
           try clear c20
           try clear c20b0
           try clear c21
           try clear c21b0
           try clear c22
           try clear c24
           try clear c24b0
           try clear c24b1
           try clear c25
           try clear hx12_0
           try clear hx924_0
           try clear p1
           try clear p12
           try clear p2
           try clear p6
           try clear p9
           try clear p924
           try clear q1
           try clear q12
           try clear q9
           try clear q924
           obtain ⟨x8_5, x9_5, rfl, rfl, HA, HK5, HO_5, HB⟩ := hrel
           cases gk with
           | zero => exact absurd HA.out (by simp [spec_CountOrders.l2])
           | succ k5 =>
            have H := HA.out
            clear HA
            simp only [spec_CountOrders.l2] at H
            by_cases c26 : x9_5 < x7_3
            ·rw [if_pos c26] at H
             have c26b0 : decide (x9_5 < x7_3) = true := decide_eq_true c26
             clear c26
             by_cases c27 : x8_5 = true
             ·subst c27
              rw [if_pos rfl] at H
              obtain ⟨ji28, hji28⟩ : ∃ j_ : Int, (IntKind.u64.wrap (x9_5)) = j_ := ⟨_, rfl⟩
              replace H : (if 0 ≤ (ji28) then (if (Go.bits .and .i64 (shr .i64 x6_2 (ji28)) 1) = 1 then (spec_CountOrders.l2 k5 l0 ji8 x5_3 x6_2 x7_3 true (wrap64 (x9_5 + 1))) else (if 0 ≤ x9_5 then (if x9_5 < (l0.length : Int) then (if 0 ≤ x7_3 then (if x7_3 < (l0.length : Int) then ((mustV (rd_T58 l0 x9_5) (rd_T58 l0 x7_3)).bind fun t927 => (spec_CountOrders.l2 k5 l0 ji8 x5_3 x6_2 x7_3 (!t927) (wrap64 (x9_5 + 1)))) else (none)) else (none)) else (none)) else (none))) else (none)) = some (r1, r2) := by first | (rw [hji28] at H; exact H) | (simp only [hji28] at H ⊢; exact H)
              by_cases c29 : 0 ≤ (ji28)
              rotate_left
              ·rw [if_neg c29] at H
               exact absurd H (by simp)
              rw [if_pos c29] at H
              have c29b0 := eq_true c29
              have c29b1 : decide (0 ≤ (ji28)) = true := decide_eq_true c29
              clear c29
              obtain ⟨ji30, hji30⟩ : ∃ j_ : Int, (shr .i64 x6_2 (ji28)) = j_ := ⟨_, rfl⟩
              replace H : (if (Go.bits .and .i64 (ji30) 1) = 1 then (spec_CountOrders.l2 k5 l0 ji8 x5_3 x6_2 x7_3 true (wrap64 (x9_5 + 1))) else (if 0 ≤ x9_5 then (if x9_5 < (l0.length : Int) then (if 0 ≤ x7_3 then (if x7_3 < (l0.length : Int) then ((mustV (rd_T58 l0 x9_5) (rd_T58 l0 x7_3)).bind fun t927 => (spec_CountOrders.l2 k5 l0 ji8 x5_3 x6_2 x7_3 (!t927) (wrap64 (x9_5 + 1)))) else (none)) else (none)) else (none)) else (none))) = some (r1, r2) := by first | (rw [hji30] at H; exact H) | (simp only [hji30] at H ⊢; exact H)
              have hji30_ : (x6_2 / 2 ^ min (ji28).toNat 64) = ji30 := hji30
              have hji30z : (ji28) ≤ 64 → (x6_2 / 2 ^ (ji28).toNat) = ji30 := shr_small hji30
              by_cases c31 : (Go.bits .and .i64 (ji30) 1) = 1
              ·rw [if_pos c31] at H
               have c31b0 : ((Go.bits .and .i64 (ji30) 1) == 1) = true := beq_iff_eq.mpr c31
               have c31b1 : ((Go.bits .and .i64 (ji30) 1) != 1) = false := bne_eq_false_iff_eq.mpr c31
               clear c31
               have H' := Aside0.mk H
               clear H
               try go_wp2
               (try dsimp only [List.append])
               repeat (go_quiet (fail); try go_wp2)
               try go_wp2
               go_roundg k5
               case measure => have := HJ1.out; have := HK2.out; have := HK3.out; have := HJ17.out; have := HK5.out; omega
               case rel => exact ⟨(true), (wrap64 (x9_5 + 1)), (by first | rfl | (simp; done) | (simp [*]; done)), (by first | rfl | (simp; done) | (simp [*]; done)), H', ⟨by have := HJ1.out; have := HK2.out; have := HK3.out; have := HJ17.out; have := HK5.out; omega⟩, ⟨by (try simp only [hl5_2]); (try simp only [hl5_3]); (with_reducible repeat (first | apply Kd.R_alloc | apply Kd.R_drewN | apply Kd.R_drew)); exact HO_5.out⟩, ⟨by repeat (first | (with_reducible first | exact HB.out | apply below_alloc | apply pw_below_drewN | apply below_drew1) | exact HB.out)⟩⟩
              ·rw [if_neg c31] at H
               have c31b0 : ((Go.bits .and .i64 (ji30) 1) == 1) = false := beq_eq_false_iff_ne.mpr c31
               have c31b1 : ((Go.bits .and .i64 (ji30) 1) != 1) = true := bne_iff_ne.mpr c31
               by_cases c33 : 0 ≤ x9_5
               rotate_left
               ·rw [if_neg c33] at H
                exact absurd H (by simp)
               rw [if_pos c33] at H
               have c33b0 : decide (0 ≤ x9_5) = true := decide_eq_true c33
               clear c33
               by_cases c34 : x9_5 < (l0.length : Int)
               rotate_left
               ·rw [if_neg c34] at H
                exact absurd H (by simp)
               rw [if_pos c34] at H
               have c34b0 : decide (x9_5 < (l0.length : Int)) = true := decide_eq_true c34
               clear c34
               by_cases c35 : 0 ≤ x7_3
               rotate_left
               ·rw [if_neg c35] at H
                exact absurd H (by simp)
               rw [if_pos c35] at H
               have c35b0 : decide (0 ≤ x7_3) = true := decide_eq_true c35
               clear c35
               by_cases c36 : x7_3 < (l0.length : Int)
               rotate_left
               ·rw [if_neg c36] at H
                exact absurd H (by simp)
               rw [if_pos c36] at H
               have c36b0 : decide (x7_3 < (l0.length : Int)) = true := decide_eq_true c36
               clear c36
               replace H := Option.bind_eq_some_iff.mp H
               obtain ⟨t927, A370, H⟩ := H
               try dsimp only at H
               have A37 := Aside0.mk A370
               clear A370
               have H' := Aside0.mk H
               clear H
               try go_wp2
               have p925 : 0 ≤ (x9_5 : Int) := of_decide_eq_true (by first | (with_reducible assumption) | assumption)
               have q925 : x9_5 < (l0.length : Int) := of_decide_eq_true (by first | (with_reducible assumption) | assumption)
               obtain ⟨ad925, e925, hx925_0, hx925_1, hx925_2, hx925_3⟩ := at_T58 HR0.out x9_5 p925 q925
               have hw925_3 := hx925_3
               have hw925_2 := hx925_2
               have hw925_1 := hx925_1
               have hw925_0 := hx925_0
               cases e925
               replace hx925_0 := (HB.out.cell (World.block_lt_of_cell? w _ hx925_0)).trans hx925_0
               replace hx925_1 := (HB.out.cell (World.block_lt_of_cell? w _ hx925_1)).trans hx925_1
               replace hx925_2 := (HB.out.cell (World.block_lt_of_cell? w _ hx925_2)).trans hx925_2
               replace hx925_3 := (HB.out.cell (World.block_lt_of_cell? w _ hx925_3)).trans hx925_3
               replace p925 := eq_true p925
               replace q925 := eq_true q925
               have p926 : 0 ≤ (x7_3 : Int) := of_decide_eq_true (by first | (with_reducible assumption) | assumption)
               have q926 : x7_3 < (l0.length : Int) := of_decide_eq_true (by first | (with_reducible assumption) | assumption)
               obtain ⟨ad926, e926, hx926_0, hx926_1, hx926_2, hx926_3⟩ := at_T58 HR0.out x7_3 p926 q926
               have hw926_3 := hx926_3
               have hw926_2 := hx926_2
               have hw926_1 := hx926_1
               have hw926_0 := hx926_0
               obtain rfl : ad925 = ad926 := (by injection e926)
               replace hx926_0 := (HB.out.cell (World.block_lt_of_cell? w _ hx926_0)).trans hx926_0
               replace hx926_1 := (HB.out.cell (World.block_lt_of_cell? w _ hx926_1)).trans hx926_1
               replace hx926_2 := (HB.out.cell (World.block_lt_of_cell? w _ hx926_2)).trans hx926_2
               replace hx926_3 := (HB.out.cell (World.block_lt_of_cell? w _ hx926_3)).trans hx926_3
               replace p926 := eq_true p926
               replace q926 := eq_true q926
               have HXA : Aside0 (At4 _ (ad925.add ((x9_5).toNat * 4)) (rd_T58 l0 x9_5)) := ⟨⟨hx925_0, hx925_1, hx925_2, hx925_3⟩⟩
               have HYA : Aside0 (At4 _ (ad925.add ((x7_3).toNat * 4)) (rd_T58 l0 x7_3)) := ⟨⟨hx926_0, hx926_1, hx926_2, hx926_3⟩⟩
               have HM : Aside0 (mst (rd_T58 l0 x9_5) (rd_T58 l0 x7_3) = t927) := ⟨Option.some.inj A37.out⟩
               (try dsimp only [List.append])
               repeat (go_quiet (first | (go_at_call 68; (with_reducible refine (must_b _ _ _ (rd_T58 l0 x9_5) (rd_T58 l0 x7_3) t927 ?s1 ?s2 HM.out).mono ?_); (case s1 => exact At4_drewN HXA.out _); (case s2 => exact At4_drewN HYA.out _); rintro e w' ⟨rfl, ⟨nd, rfl⟩⟩; (try first | exact ⟨rfl, _, World.drewN_drewN _ _ _⟩ | exact ⟨rfl, _, Eq.trans (World.drewN_drewN _ _ _) (congrArg (World.drewN _) (Nat.add_assoc _ _ _))⟩))); try go_wp2)
               try go_wp2
               go_roundg k5
               case measure => have := HJ1.out; have := HK2.out; have := HK3.out; have := HJ17.out; have := HK5.out; omega
               case rel => exact ⟨(!t927), (wrap64 (x9_5 + 1)), (by first | rfl | (simp; done) | (simp [*]; done)), (by first | rfl | (simp; done) | (simp [*]; done)), H', ⟨by have := HJ1.out; have := HK2.out; have := HK3.out; have := HJ17.out; have := HK5.out; omega⟩, ⟨by (try simp only [hl5_2]); (try simp only [hl5_3]); (with_reducible repeat (first | apply Kd.R_alloc | apply Kd.R_drewN | apply Kd.R_drew)); exact HO_5.out⟩, ⟨by repeat (first | (with_reducible first | exact HB.out | apply below_alloc | apply pw_below_drewN | apply below_drew1) | exact HB.out)⟩⟩
             ·replace c27 := Bool.eq_false_iff.mpr c27
              subst c27
              rw [if_neg (show ¬ (false = true) by decide)] at H
              have H' := Aside0.mk H
              clear H
              try go_wp2
              (try dsimp only [List.append])
              repeat (go_quiet (fail); try go_wp2)
              try go_wp2
              go_roundg k5
              case measure => have := HJ1.out; have := HK2.out; have := HK3.out; have := HJ17.out; have := HK5.out; omega
              case rel => exact ⟨(false), (wrap64 (x9_5 + 1)), (by first | rfl | (simp; done) | (simp [*]; done)), (by first | rfl | (simp; done) | (simp [*]; done)), H', ⟨by have := HJ1.out; have := HK2.out; have := HK3.out; have := HJ17.out; have := HK5.out; omega⟩, ⟨by (try simp only [hl5_2]); (try simp only [hl5_3]); (with_reducible repeat (first | apply Kd.R_alloc | apply Kd.R_drewN | apply Kd.R_drew)); exact HO_5.out⟩, ⟨by repeat (first | (with_reducible first | exact HB.out | apply below_alloc | apply pw_below_drewN | apply below_drew1) | exact HB.out)⟩⟩
            ·rw [if_neg c26] at H
             have c26b0 : decide (x9_5 < x7_3) = false := decide_eq_false c26
             clear c26
             by_cases c40 : x8_5 = true
             rotate_left
             ·replace c40 := Bool.eq_false_iff.mpr c40
              subst c40
              rw [if_neg (show ¬ (false = true) by decide)] at H
              have H' := Aside0.mk H
              clear H
              go_wp2
              (try simp only [← hl5_3])
              go_roundg k5
              case measure => have := HJ1.out; have := HK2.out; have := HK3.out; have := HJ17.out; have := HK5.out; omega
              case rel => exact ⟨(x5_3), (wrap64 (x7_3 + 1)), (by first | rfl | (simp; done) | (simp [*]; done)), H', ⟨by have := HJ1.out; have := HK2.out; have := HK3.out; have := HJ17.out; have := HK5.out; omega⟩, ⟨by (try simp only [hl5_2]); (try simp only [hl5_3]); (with_reducible repeat (first | apply Kd.R_alloc | apply Kd.R_drewN | apply Kd.R_drew)); exact HO_5.out⟩, ⟨by repeat (first | (with_reducible first | exact HB.out | apply below_alloc | apply pw_below_drewN | apply below_drew1) | exact HB.out)⟩⟩
             subst c40
             rw [if_pos rfl] at H
             obtain ⟨ji41, hji41⟩ : ∃ j_ : Int, (IntKind.u64.wrap (x7_3)) = j_ := ⟨_, rfl⟩
             clear hji23
             replace H : (if 0 ≤ (ji41) then (if 0 ≤ (Go.bits .or .i64 x6_2 (shl .i64 1 (ji41))) then (if (Go.bits .or .i64 x6_2 (shl .i64 1 (ji41))) < (x5_3.length : Int) then (if 0 ≤ x6_2 then (if x6_2 < (x5_3.length : Int) then (spec_CountOrders.l1 k5 l0 ji8 (x5_3.set ((Go.bits .or .i64 x6_2 (shl .i64 1 (ji41))) : Int).toNat (wrap64 ((rd x5_3 (Go.bits .or .i64 x6_2 (shl .i64 1 (ji41)))) + (rd x5_3 x6_2)))) x6_2 (wrap64 (x7_3 + 1))) else (none)) else (none)) else (none)) else (none)) else (none)) = some (r1, r2) := by first | (rw [hji41] at H; exact H) | (simp only [hji41] at H ⊢; exact H)
             by_cases c42 : 0 ≤ (ji41)
             rotate_left
             ·rw [if_neg c42] at H
              exact absurd H (by simp)
             rw [if_pos c42] at H
             have c42b0 := eq_true c42
             have c42b1 : decide (0 ≤ (ji41)) = true := decide_eq_true c42
             clear c42
             obtain ⟨ji43, hji43⟩ : ∃ j_ : Int, (shl .i64 1 (ji41)) = j_ := ⟨_, rfl⟩
             replace H : (if 0 ≤ (Go.bits .or .i64 x6_2 (ji43)) then (if (Go.bits .or .i64 x6_2 (ji43)) < (x5_3.length : Int) then (if 0 ≤ x6_2 then (if x6_2 < (x5_3.length : Int) then (spec_CountOrders.l1 k5 l0 ji8 (x5_3.set ((Go.bits .or .i64 x6_2 (ji43)) : Int).toNat (wrap64 ((rd x5_3 (Go.bits .or .i64 x6_2 (ji43))) + (rd x5_3 x6_2)))) x6_2 (wrap64 (x7_3 + 1))) else (none)) else (none)) else (none)) else (none)) = some (r1, r2) := by first | (rw [hji43] at H; exact H) | (simp only [hji43] at H ⊢; exact H)
             have hji43_ : (IntKind.i64.wrap (1 * 2 ^ min (ji41).toNat 64)) = ji43 := hji43
             have hji43z : (ji41) ≤ 64 → (IntKind.i64.wrap (1 * 2 ^ (ji41).toNat)) = ji43 := shl_small hji43
             have hji43u : (IntKind.i64.wrap (2 ^ min (ji41).toNat 64)) = ji43 := by have h_ := hji43_; rw [Int.one_mul] at h_; exact h_
             have hji43v : (ji41) ≤ 64 → (IntKind.i64.wrap (2 ^ (ji41).toNat)) = ji43 := fun hle_ => by have h_ := hji43z hle_; rw [Int.one_mul] at h_; exact h_
             have hji43y : (wrap64 (1 * 2 ^ min (ji41).toNat 64)) = ji43 := (i64_w _).symm.trans hji43_
             have hji43x : (ji41) ≤ 64 → (wrap64 (1 * 2 ^ (ji41).toNat)) = ji43 := fun h_ => (i64_w _).symm.trans (hji43z h_)
             by_cases c44 : 0 ≤ (Go.bits .or .i64 x6_2 (ji43))
             rotate_left
             ·rw [if_neg c44] at H
              exact absurd H (by simp)
             rw [if_pos c44] at H
             have c44b0 : decide (0 ≤ (Go.bits .or .i64 x6_2 (ji43))) = true := decide_eq_true c44
             clear c44
             by_cases c45 : (Go.bits .or .i64 x6_2 (ji43)) < (x5_3.length : Int)
             rotate_left
             ·rw [if_neg c45] at H
              exact absurd H (by simp)
             rw [if_pos c45] at H
             have c45b0 : decide ((Go.bits .or .i64 x6_2 (ji43)) < (x5_3.length : Int)) = true := decide_eq_true c45
             clear c45
             by_cases c46 : 0 ≤ x6_2
             rotate_left
             ·rw [if_neg c46] at H
              exact absurd H (by simp)
             rw [if_pos c46] at H
             have c46b0 : decide (0 ≤ x6_2) = true := decide_eq_true c46
             clear c46
             by_cases c47 : x6_2 < (x5_3.length : Int)
             rotate_left
             ·rw [if_neg c47] at H
              exact absurd H (by simp)
             rw [if_pos c47] at H
             have c47b0 : decide (x6_2 < (x5_3.length : Int)) = true := decide_eq_true c47
             clear c47
             obtain ⟨y930, hy930⟩ : ∃ y_ : List Int, y_ = (x5_3.set ((Go.bits .or .i64 x6_2 (ji43)) : Int).toNat (wrap64 ((rd x5_3 (Go.bits .or .i64 x6_2 (ji43))) + (rd x5_3 x6_2)))) := ⟨_, rfl⟩
             replace H : (spec_CountOrders.l1 k5 l0 ji8 y930 x6_2 (wrap64 (x7_3 + 1))) = some (r1, r2) := by first | (rw [hy930]; with_reducible exact H) | (have H2_ := (Option.bind_some _ _).symm.trans H; rw [hy930]; with_reducible exact H2_) | (have H2_ := (Option.bind_some _ _).symm.trans H; with_reducible exact H2_) | with_reducible exact H | (rw [hy930]; exact H) | exact H
             have Ny930 := Aside0.mk hy930
             clear hy930
             have H' := Aside0.mk H
             clear H
             try go_wp2
             have n0_ := Aside0.mk (Kd.R_drew HO_5.out)
             have n1_ := Aside0.mk (below_drew1 HB.out)
             clear HO_5
             clear HB
             have HO_5 := n0_
             have HB := n1_
             clear n0_ n1_
             have p928 : 0 ≤ ((Go.bits .or .i64 x6_2 (ji43)) : Int) := of_decide_eq_true (by first | (with_reducible assumption) | assumption)
             have q928 : (Go.bits .or .i64 x6_2 (ji43)) < (x5_3.length : Int) := of_decide_eq_true (by first | (with_reducible assumption) | assumption)
             obtain ⟨ad928, e928, hx928_0⟩ := Kd.at_int (Kd.R_reads' HO_5.out).2.2 (Go.bits .or .i64 x6_2 (ji43)) p928 q928
             obtain rfl : (⟨go12, 0, none⟩ : Addr) = ad928 := (by injection e928)
             (first | simp only [add_plain] at hx928_0 | simp only [add_at] at hx928_0 | simp only [Addr.add, Nat.zero_add] at hx928_0 | skip)
             replace p928 := eq_true p928
             replace q928 := eq_true q928
             have p929 : 0 ≤ (x6_2 : Int) := of_decide_eq_true (by first | (with_reducible assumption) | assumption)
             have q929 : x6_2 < (x5_3.length : Int) := of_decide_eq_true (by first | (with_reducible assumption) | assumption)
             obtain ⟨ad929, e929, hx929_0⟩ := Kd.at_int (Kd.R_reads' HO_5.out).2.2 x6_2 p929 q929
             obtain rfl : (⟨go12, 0, none⟩ : Addr) = ad929 := (by injection e929)
             (first | simp only [add_plain] at hx929_0 | simp only [add_at] at hx929_0 | simp only [Addr.add, Nat.zero_add] at hx929_0 | skip)
             replace p929 := eq_true p929
             replace q929 := eq_true q929
             have p48 : 0 ≤ ((Go.bits .or .i64 x6_2 (ji43)) : Int) := of_decide_eq_true (by first | (with_reducible assumption) | assumption)
             have q48 : ((Go.bits .or .i64 x6_2 (ji43)) : Int) < ((x5_3.length : Int) : Int) := of_decide_eq_true (by first | (with_reducible assumption) | assumption)
             obtain ⟨hx48_0, hf48_0⟩ := Kd.R_celln 0 HO_5.out ((Go.bits .or .i64 x6_2 (ji43)) : Int) p48 q48
             replace p48 := eq_true p48
             replace q48 := eq_true q48
             have HP50 := Kd.R_putn HO_5.out ((Go.bits .or .i64 x6_2 (ji43)) : Int) (wrap64 ((rd x5_3 (Go.bits .or .i64 x6_2 (ji43))) + (rd x5_3 x6_2)))
             rw [← Ny930.out] at HP50
             have HQ50 := Aside0.mk HP50
             clear HP50
             refine start_ (n := 15) (S := fun w' => w'.cell? ⟨go12, ((Go.bits .or .i64 x6_2 (ji43))).toNat, none⟩ = some (.int .i64 (rd x5_3 (Go.bits .or .i64 x6_2 (ji43)))) ∧ w'.cell? ⟨go12, (x6_2).toNat, none⟩ = some (.int .i64 (rd x5_3 x6_2))) (ds := [14]) #[false, false, false, false, false, false, false, false, false, false, false, false, false, false, false] (by kernel_rfl) rfl rfl ⟨hx928_0, hx929_0⟩ (fun hHeld => ?_); refine with_tabW spec_CountOrders.tab18 spec_CountOrders.bits18 (fun HT_ HW_ => ?_)
             generalize wr.drew = w49 at HO_5 HB HQ50 hf48_0 hx48_0 hx928_0 hx929_0 hHeld ⊢
             refine pure_ (i := 0) (N := some 75) (v := ?_) (a' := ?_) #[true, false, false, false, false, false, false, false, false, false, false, false, false, false, false] rfl rfl (any_of HT_.out (by kernel_rfl)) (fun _ _ _ h => h) (Or.inl ⟨by rfl, ?_⟩) ?_ ?_
             rotate_left
             ·intro w'
              go_simp
              with_reducible rfl
             rotate_left
             ·simp only [Act.put, List.setIfInBounds_toArray, List.set_cons_zero, List.set_cons_succ, i64_w, i32_w]
              rfl
             refine pure_ (i := 1) (N := some 76) (v := ?_) (a' := ?_) #[true, true, false, false, false, false, false, false, false, false, false, false, false, false, false] rfl rfl (any_of HT_.out (by kernel_rfl)) (fun _ _ _ h => h) (Or.inl ⟨by rfl, ?_⟩) ?_ ?_
             rotate_left
             ·intro w'
              go_simp
              with_reducible rfl
             rotate_left
             ·simp only [Act.put, List.setIfInBounds_toArray, List.set_cons_zero, List.set_cons_succ, i64_w, i32_w]
              rfl
             refine pure_ (i := 2) (N := some 77) (v := ?_) (a' := ?_) #[true, true, true, false, false, false, false, false, false, false, false, false, false, false, false] rfl rfl (any_of HT_.out (by kernel_rfl)) (fun _ _ _ h => h) (Or.inl ⟨by rfl, ?_⟩) ?_ ?_
             rotate_left
             ·intro w'
              go_simp
              with_reducible rfl
             rotate_left
             ·simp only [Act.put, List.setIfInBounds_toArray, List.set_cons_zero, List.set_cons_succ, i64_w, i32_w]
              rfl
             refine pure_ (i := 3) (N := some 78) (v := ?_) (a' := ?_) #[true, true, true, true, false, false, false, false, false, false, false, false, false, false, false] rfl rfl (any_of HT_.out (by kernel_rfl)) (fun _ _ _ h => h) (Or.inl ⟨by rfl, ?_⟩) ?_ ?_
             rotate_left
             ·intro w'
              go_simp
              with_reducible rfl
             rotate_left
             ·simp only [Act.put, List.setIfInBounds_toArray, List.set_cons_zero, List.set_cons_succ, i64_w, i32_w]
              rfl
             refine pure_ (i := 4) (N := some 79) (v := ?_) (a' := ?_) #[true, true, true, true, true, false, false, false, false, false, false, false, false, false, false] rfl rfl (any_of HT_.out (by kernel_rfl)) (fun _ _ _ h => h) (Or.inl ⟨by rfl, ?_⟩) ?_ ?_
             rotate_left
             ·intro w'
              go_simp
              with_reducible rfl
             rotate_left
             ·simp only [Act.put, List.setIfInBounds_toArray, List.set_cons_zero, List.set_cons_succ, i64_w, i32_w]
              rfl
             refine pure_ (i := 5) (N := some 80) (v := ?_) (a' := ?_) #[true, true, true, true, true, true, false, false, false, false, false, false, false, false, false] rfl rfl (any_of HT_.out (by kernel_rfl)) (fun _ _ _ h => h) (Or.inl ⟨by rfl, ?_⟩) ?_ ?_
             rotate_left
             ·intro w'
              go_simp
              with_reducible rfl
             rotate_left
             ·simp only [Act.put, List.setIfInBounds_toArray, List.set_cons_zero, List.set_cons_succ, i64_w, i32_w]
              rfl
             refine pure_ (i := 6) (N := some 81) (v := ?_) (a' := ?_) #[true, true, true, true, true, true, true, false, false, false, false, false, false, false, false] rfl rfl (any_of HT_.out (by kernel_rfl)) (fun _ _ _ h => h) (Or.inl ⟨by rfl, ?_⟩) ?_ ?_
             rotate_left
             ·intro w'
              go_simp
              with_reducible rfl
             rotate_left
             ·simp only [Act.put, List.setIfInBounds_toArray, List.set_cons_zero, List.set_cons_succ, i64_w, i32_w]
              rfl
             refine pure_ (i := 8) (N := some 83) (v := ?_) (a' := ?_) #[true, true, true, true, true, true, true, false, true, false, false, false, false, false, false] rfl rfl (any_of HT_.out (by kernel_rfl)) (fun _ _ _ h => h) (Or.inl ⟨by rfl, ?_⟩) ?_ ?_
             rotate_left
             ·intro w'
              go_simp
              with_reducible rfl
             rotate_left
             ·simp only [Act.put, List.setIfInBounds_toArray, List.set_cons_zero, List.set_cons_succ, i64_w, i32_w]
              rfl
             refine pure_ (i := 9) (N := some 84) (v := ?_) (a' := ?_) #[true, true, true, true, true, true, true, false, true, true, false, false, false, false, false] rfl rfl (any_of HT_.out (by kernel_rfl)) (fun _ _ _ h => h) (Or.inl ⟨by rfl, ?_⟩) ?_ ?_
             rotate_left
             ·intro w'
              go_simp
              with_reducible rfl
             rotate_left
             ·simp only [Act.put, List.setIfInBounds_toArray, List.set_cons_zero, List.set_cons_succ, i64_w, i32_w]
              rfl
             refine pure_ (i := 10) (N := some 85) (v := ?_) (a' := ?_) #[true, true, true, true, true, true, true, false, true, true, true, false, false, false, false] rfl rfl (any_of HT_.out (by kernel_rfl)) (fun _ _ _ h => h) (Or.inl ⟨by rfl, ?_⟩) ?_ ?_
             rotate_left
             ·intro w'
              go_simp
              with_reducible rfl
             rotate_left
             ·simp only [Act.put, List.setIfInBounds_toArray, List.set_cons_zero, List.set_cons_succ, i64_w, i32_w]
              rfl
             refine take_ (i := 7) (N := some 82) (v := ?_) (a' := ?_) #[true, true, true, true, true, true, true, true, true, true, true, false, false, false, false] rfl rfl (take_ofW HT_.out HW_.out (by kernel_rfl)) (fun _ _ _ h => h) (Or.inl ⟨by rfl, ?_⟩) hHeld ?_ ?_
             rotate_left
             ·rintro w' ⟨s0, s1⟩
              go_simp
              with_reducible rfl
             rotate_left
             ·simp only [Act.put, List.setIfInBounds_toArray, List.set_cons_zero, List.set_cons_succ, i64_w, i32_w]
              rfl
             refine take_ (i := 11) (N := some 86) (v := ?_) (a' := ?_) #[true, true, true, true, true, true, true, true, true, true, true, true, false, false, false] rfl rfl (take_ofW HT_.out HW_.out (by kernel_rfl)) (fun _ _ _ h => h) (Or.inl ⟨by rfl, ?_⟩) hHeld ?_ ?_
             rotate_left
             ·rintro w' ⟨s0, s1⟩
              go_simp
              with_reducible rfl
             rotate_left
             ·simp only [Act.put, List.setIfInBounds_toArray, List.set_cons_zero, List.set_cons_succ, i64_w, i32_w]
              rfl
             refine pure_ (i := 12) (N := some 87) (v := ?_) (a' := ?_) #[true, true, true, true, true, true, true, true, true, true, true, true, true, false, false] rfl rfl (any_of HT_.out (by kernel_rfl)) (fun _ _ _ h => h) (Or.inl ⟨by rfl, ?_⟩) ?_ ?_
             rotate_left
             ·intro w'
              go_simp
              with_reducible rfl
             rotate_left
             ·simp only [Act.put, List.setIfInBounds_toArray, List.set_cons_zero, List.set_cons_succ, i64_w, i32_w]
              rfl
             refine pure_ (i := 13) (N := some 88) (v := ?_) (a' := ?_) #[true, true, true, true, true, true, true, true, true, true, true, true, true, true, false] rfl rfl (any_of HT_.out (by kernel_rfl)) (fun _ _ _ h => h) (Or.inl ⟨by rfl, ?_⟩) ?_ ?_
             rotate_left
             ·intro w'
              go_simp
              with_reducible rfl
             rotate_left
             ·simp only [Act.put, List.setIfInBounds_toArray, List.set_cons_zero, List.set_cons_succ, i64_w, i32_w]
              rfl
             refine last_ (i := 14) (N := none) #[true, true, true, true, true, true, true, true, true, true, true, true, true, true, true] rfl rfl (one_of HT_.out (by kernel_rfl)) (by decide) (fun K hK => ?_)
             refine skip_ (w1 := ?_) (by rfl) rfl ?_ ?_
             rotate_left
             ·go_simp
              rfl
             refine hK.out _ _ ?_
             clear hK K
             refine done_ (done_of HT_.out (by kernel_rfl)) ?_
             try go_wp2
             (try simp only [← hl5_3])
             go_roundg k5
             case measure => have := HJ1.out; have := HK2.out; have := HK3.out; have := HJ17.out; have := HK5.out; omega
             case rel => exact ⟨(y930), (wrap64 (x7_3 + 1)), (by first | rfl | (simp; done) | (simp [*]; done)), H', ⟨by have := HJ1.out; have := HK2.out; have := HK3.out; have := HJ17.out; have := HK5.out; omega⟩, ⟨by (try simp only [hl5_2]); (try simp only [hl5_3]); (with_reducible repeat (first | apply Kd.R_alloc | apply Kd.R_drewN | apply Kd.R_drew)); exact HQ50.out⟩, ⟨by repeat (first | (with_reducible first | exact HB.out | apply below_alloc | apply pw_below_drewN | apply below_drew1 | refine below_set ?_ GB12.out) | exact HB.out)⟩⟩
     ·rw [if_neg c17] at H
      have c17b0 : decide (x6_2 < ji8) = false := decide_eq_false c17
      clear c17
      obtain ⟨ji51, hji51⟩ : ∃ j_ : Int, (wrap64 (ji8 - 1)) = j_ := ⟨_, rfl⟩
      replace H : (if 0 ≤ (ji51) then (if (ji51) < (x5_2.length : Int) then (some (rd x5_2 (ji51), true)) else (none)) else (none)) = some (r1, r2) := by first | (rw [hji51] at H; exact H) | (simp only [hji51] at H ⊢; exact H)
      have hji51w : (IntKind.i64.wrap (ji8 - 1)) = ji51 := (i64_w _).trans hji51
      by_cases c52 : 0 ≤ (ji51)
      rotate_left
      ·rw [if_neg c52] at H
       exact absurd H (by simp)
      rw [if_pos c52] at H
      have c52b0 : decide (0 ≤ (ji51)) = true := decide_eq_true c52
      clear c52
      by_cases c53 : (ji51) < (x5_2.length : Int)
      rotate_left
      ·rw [if_neg c53] at H
       exact absurd H (by simp)
      rw [if_pos c53] at H
      have c53b0 : decide ((ji51) < (x5_2.length : Int)) = true := decide_eq_true c53
      clear c53
      simp only [Option.some.injEq, Prod.mk.injEq] at H
      obtain ⟨rfl, rfl⟩ := H
      have p923 : 0 ≤ ((ji51) : Int) := of_decide_eq_true (by first | (with_reducible assumption) | assumption)
      have q923 : (ji51) < (x5_2.length : Int) := of_decide_eq_true (by first | (with_reducible assumption) | assumption)
      obtain ⟨ad923, e923, hx923_0⟩ := Kd.at_int (Kd.R_reads' HO_5.out).2.2 (ji51) p923 q923
      obtain rfl : (⟨go12, 0, none⟩ : Addr) = ad923 := (by injection e923)
      (first | simp only [add_plain] at hx923_0 | simp only [add_at] at hx923_0 | simp only [Addr.add, Nat.zero_add] at hx923_0 | skip)
      replace p923 := eq_true p923
      replace q923 := eq_true q923
      go_wp2
      go_ret2
      exact ⟨by first | rfl | (simp [errW_none, errW_some] <;> rfl) | (simp only [← hji6, ← hji8, ← hji51]; first | rfl | (simp [errW_none, errW_some] <;> rfl)) | (simp [*, errW_none, errW_some] <;> rfl), by repeat (first | (with_reducible first | exact HB.out | apply below_alloc | apply pw_below_drewN | apply below_drew1) | exact HB.out)⟩
end Go.Proofs.Yteknfebehafbdaa.K
