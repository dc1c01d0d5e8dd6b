-- Laid by a program of this session.
import Derived.Test.YteknfebehafbdaaK0
import Derived.Test.YteknfebehafbdaaH0
import Derived.Test.YteknfebehafbdaaK1
import Derived.Test.YteknfebehafbdaaK3
import Derived.Test.YteknfebehafbdaaK5
import Derived.Test.YteknfebehafbdaaK6
namespace Go.Proofs.Yteknfebehafbdaa.K
open Go.RowKit Go.Proofs.YteknfebehafbdaaW.PrintWords Go.Proofs.YteknfebehafbdaaW.PrintLast Go.Proofs.YteknfebehafbdaaW.PrintMore Go.Proofs.Yteknfebehafbdaa.Bx Go.Shelf
attribute [local go_sem] max2_int min2_int max_two min_two max_three min_three max_four min_four   -- for this text's walks alone
set_option linter.unusedVariables false
set_option linter.unusedSimpArgs false

attribute [local go_sem high] eqA58
/-! ### laws_FnValueNumbers: function 16 -/
mutual
def laws_FnValueNumbers.j0 : Nat → List (S58) → Int → List Int → List Int → Bool → Option (Bool)
 | 0, _, _, _, _, _ => none
 | k + 1, x5, x6, x7, x8, x39 => if x39 = true then (some false) else (laws_FnValueNumbers.l0 k x5 x6 x7 x8 (([] : List Int)) 32 0)
def laws_FnValueNumbers.l0 : Nat → List (S58) → Int → List Int → List Int → List Int → Int → Int → Option (Bool)
 | 0, _, _, _, _, _, _, _ => none
 | k + 1, x5, x6, x7, x8, x10, x11, x12 => if x12 < (x5.length : Int) then (if 0 ≤ x12 then (if x12 ≤ (wrap64 (x12 + 1)) then (if (wrap64 (x12 + 1)) ≤ (x5.length : Int) then ((impl_RunCode.f k x6 ((x5.take ((wrap64 (x12 + 1)) : Int).toNat).drop (x12 : Int).toNat) x7).bind fun bt309 => (if bt309.2 = true then (if (bt309.1.length : Int) = 32 then (if x12 < (x8.length : Int) then (laws_FnValueNumbers.j2 k x5 x6 x8 x10 x11 x12 bt309.1 (decide ((rd x8 x12) > x11))) else (none)) else (laws_FnValueNumbers.j2 k x5 x6 x8 x10 x11 x12 bt309.1 true)) else (laws_FnValueNumbers.j2 k x5 x6 x8 x10 x11 x12 bt309.1 true))) else (none)) else (none)) else (none)) else (some true)
def laws_FnValueNumbers.j2 : Nat → List (S58) → Int → List Int → List Int → Int → Int → List Int → Bool → Option (Bool)
 | 0, _, _, _, _, _, _, _, _ => none
 | k + 1, x5, x6, x8, x10, x11, x12, x13, x72 => if x72 = true then (some false) else (if 0 ≤ x12 then (if x12 < (x8.length : Int) then (if (rd x8 x12) = x11 then (laws_FnValueNumbers.j3 k x5 x6 x8 x10 (wrap64 (x11 + 1)) x12 x13) else (laws_FnValueNumbers.j3 k x5 x6 x8 x10 x11 x12 x13)) else (none)) else (none))
def laws_FnValueNumbers.j3 : Nat → List (S58) → Int → List Int → List Int → Int → Int → List Int → Option (Bool)
 | 0, _, _, _, _, _, _, _ => none
 | k + 1, x5, x6, x8, x10, x11, x12, x13 => if 0 ≤ x12 then (if x12 < (x5.length : Int) then (if 0 ≤ ((rd_T58 x5 x12).f1) then (if ((rd_T58 x5 x12).f1) < (x13.length : Int) then (if x10.length < 17592186044416 then (laws_FnValueNumbers.l1 k x5 x6 x8 (x10 ++ [rd x13 ((rd_T58 x5 x12).f1)]) x11 x12 x13 0) else (none)) else (none)) else (none)) else (none)) else (none)
def laws_FnValueNumbers.l1 : Nat → List (S58) → Int → List Int → List Int → Int → Int → List Int → Int → Option (Bool)
 | 0, _, _, _, _, _, _, _, _ => none
 | k + 1, x5, x6, x8, x10, x11, x12, x13, x15 => if x15 < x12 then (if 0 ≤ x15 then (if x15 < (x8.length : Int) then (if 0 ≤ x12 then (if x12 < (x8.length : Int) then (if (rd x8 x15) = (rd x8 x12) then (if x15 < (x10.length : Int) then (if x12 < (x10.length : Int) then (if (rd x10 x15) = (rd x10 x12) then (laws_FnValueNumbers.l1 k x5 x6 x8 x10 x11 x12 x13 (wrap64 (x15 + 1))) else (some false)) else (none)) else (none)) else (if x15 < (x5.length : Int) then (if x12 < (x5.length : Int) then (if (((rd_T58 x5 x15).f0) == ((rd_T58 x5 x12).f0) && (((rd_T58 x5 x15).f1) == ((rd_T58 x5 x12).f1) && (((rd_T58 x5 x15).f2) == ((rd_T58 x5 x12).f2) && (((rd_T58 x5 x15).f3) == ((rd_T58 x5 x12).f3))))) = true then (if x15 = (wrap64 (x12 - 1)) then (if ((rd_T58 x5 x15).f1) = ((rd_T58 x5 x15).f2) then (laws_FnValueNumbers.l1 k x5 x6 x8 x10 x11 x12 x13 (wrap64 (x15 + 1))) else (if ((rd_T58 x5 x15).f1) = ((rd_T58 x5 x15).f3) then (laws_FnValueNumbers.l1 k x5 x6 x8 x10 x11 x12 x13 (wrap64 (x15 + 1))) else (some false))) else (laws_FnValueNumbers.l1 k x5 x6 x8 x10 x11 x12 x13 (wrap64 (x15 + 1)))) else (laws_FnValueNumbers.l1 k x5 x6 x8 x10 x11 x12 x13 (wrap64 (x15 + 1)))) else (none)) else (none))) else (none)) else (none)) else (none)) else (none)) else (laws_FnValueNumbers.l0 k x5 x6 x13 x8 x10 x11 (wrap64 (x12 + 1)))
end
def laws_FnValueNumbers.f (k : Nat) (l0 : List Int) (l1 : List Int) : Option (Bool) := (laws_b10Long.f l0 l1).bind fun t290 => (if t290 = true then (some true) else ((spec_B10Code.f k l0).bind fun t291 => ((spec_B10Bits.f l1).bind fun t294 => ((spec_B10Cells.f k l1 t294).bind fun t295 => ((impl_ValueNumbers.f k t291).bind fun bt298 => (if bt298.2 = true then (laws_FnValueNumbers.j0 k t291 t294 t295 bt298.1 ((bt298.1.length : Int) != (t291.length : Int))) else (laws_FnValueNumbers.j0 k t291 t294 t295 bt298.1 true)))))))
theorem laws_FnValueNumbers.mono_l : ∀ k, (∀ y0 y1 y2 y3 y4, LeO (laws_FnValueNumbers.j0 k y0 y1 y2 y3 y4) (laws_FnValueNumbers.j0 (k + 1) y0 y1 y2 y3 y4)) ∧ (∀ y0 y1 y2 y3 y4 y5 y6, LeO (laws_FnValueNumbers.l0 k y0 y1 y2 y3 y4 y5 y6) (laws_FnValueNumbers.l0 (k + 1) y0 y1 y2 y3 y4 y5 y6)) ∧ (∀ y0 y1 y2 y3 y4 y5 y6 y7, LeO (laws_FnValueNumbers.j2 k y0 y1 y2 y3 y4 y5 y6 y7) (laws_FnValueNumbers.j2 (k + 1) y0 y1 y2 y3 y4 y5 y6 y7)) ∧ (∀ y0 y1 y2 y3 y4 y5 y6, LeO (laws_FnValueNumbers.j3 k y0 y1 y2 y3 y4 y5 y6) (laws_FnValueNumbers.j3 (k + 1) y0 y1 y2 y3 y4 y5 y6)) ∧ (∀ y0 y1 y2 y3 y4 y5 y6 y7, LeO (laws_FnValueNumbers.l1 k y0 y1 y2 y3 y4 y5 y6 y7) (laws_FnValueNumbers.l1 (k + 1) y0 y1 y2 y3 y4 y5 y6 y7))
 | 0 => ⟨fun _ _ _ _ _ r h => by simp [laws_FnValueNumbers.j0] at h, fun _ _ _ _ _ _ _ r h => by simp [laws_FnValueNumbers.l0] at h, fun _ _ _ _ _ _ _ _ r h => by simp [laws_FnValueNumbers.j2] at h, fun _ _ _ _ _ _ _ r h => by simp [laws_FnValueNumbers.j3] at h, fun _ _ _ _ _ _ _ _ r h => by simp [laws_FnValueNumbers.l1] at h⟩
 | k + 1 => by
  obtain ⟨ih0, ih1, ih2, ih3, ih4⟩ := laws_FnValueNumbers.mono_l k
  refine ⟨?_, ?_, ?_, ?_, ?_⟩
  ·intro y0 y1 y2 y3 y4
   unfold laws_FnValueNumbers.j0
   repeat' first
   | (with_reducible exact ih0 _ _ _ _ _)
   | (with_reducible exact ih1 _ _ _ _ _ _ _)
   | (with_reducible exact ih2 _ _ _ _ _ _ _ _)
   | (with_reducible exact ih3 _ _ _ _ _ _ _)
   | (with_reducible exact ih4 _ _ _ _ _ _ _ _)
   | (with_reducible exact impl_RunCode.mono _ _ _ _)
   | (with_reducible exact impl_ValueNumbers.mono _ _)
   | (with_reducible exact spec_B10Cells.mono _ _ _)
   | (with_reducible exact spec_B10Code.mono _ _)
   | (with_reducible exact LeO.refl _)
   | (with_reducible exact LeO.none _)
   | (with_reducible refine LeO.ite ?_ ?_)
   | (with_reducible refine LeO.bind ?_ (fun _ => ?_))
   | exact ih0 _ _ _ _ _
   | exact ih1 _ _ _ _ _ _ _
   | exact ih2 _ _ _ _ _ _ _ _
   | exact ih3 _ _ _ _ _ _ _
   | exact ih4 _ _ _ _ _ _ _ _
   | exact impl_RunCode.mono _ _ _ _
   | exact impl_ValueNumbers.mono _ _
   | exact spec_B10Cells.mono _ _ _
   | exact spec_B10Code.mono _ _
   | exact LeO.none _
   | refine LeO.ite ?_ ?_
   | refine LeO.bind ?_ (fun _ => ?_)
  ·intro y0 y1 y2 y3 y4 y5 y6
   unfold laws_FnValueNumbers.l0
   repeat' first
   | (with_reducible exact ih0 _ _ _ _ _)
   | (with_reducible exact ih1 _ _ _ _ _ _ _)
   | (with_reducible exact ih2 _ _ _ _ _ _ _ _)
   | (with_reducible exact ih3 _ _ _ _ _ _ _)
   | (with_reducible exact ih4 _ _ _ _ _ _ _ _)
   | (with_reducible exact impl_RunCode.mono _ _ _ _)
   | (with_reducible exact impl_ValueNumbers.mono _ _)
   | (with_reducible exact spec_B10Cells.mono _ _ _)
   | (with_reducible exact spec_B10Code.mono _ _)
   | (with_reducible exact LeO.refl _)
   | (with_reducible exact LeO.none _)
   | (with_reducible refine LeO.ite ?_ ?_)
   | (with_reducible refine LeO.bind ?_ (fun _ => ?_))
   | exact ih0 _ _ _ _ _
   | exact ih1 _ _ _ _ _ _ _
   | exact ih2 _ _ _ _ _ _ _ _
   | exact ih3 _ _ _ _ _ _ _
   | exact ih4 _ _ _ _ _ _ _ _
   | exact impl_RunCode.mono _ _ _ _
   | exact impl_ValueNumbers.mono _ _
   | exact spec_B10Cells.mono _ _ _
   | exact spec_B10Code.mono _ _
   | exact LeO.none _
   | refine LeO.ite ?_ ?_
   | refine LeO.bind ?_ (fun _ => ?_)
  ·intro y0 y1 y2 y3 y4 y5 y6 y7
   unfold laws_FnValueNumbers.j2
   repeat' first
   | (with_reducible exact ih0 _ _ _ _ _)
   | (with_reducible exact ih1 _ _ _ _ _ _ _)
   | (with_reducible exact ih2 _ _ _ _ _ _ _ _)
   | (with_reducible exact ih3 _ _ _ _ _ _ _)
   | (with_reducible exact ih4 _ _ _ _ _ _ _ _)
   | (with_reducible exact impl_RunCode.mono _ _ _ _)
   | (with_reducible exact impl_ValueNumbers.mono _ _)
   | (with_reducible exact spec_B10Cells.mono _ _ _)
   | (with_reducible exact spec_B10Code.mono _ _)
   | (with_reducible exact LeO.refl _)
   | (with_reducible exact LeO.none _)
   | (with_reducible refine LeO.ite ?_ ?_)
   | (with_reducible refine LeO.bind ?_ (fun _ => ?_))
   | exact ih0 _ _ _ _ _
   | exact ih1 _ _ _ _ _ _ _
   | exact ih2 _ _ _ _ _ _ _ _
   | exact ih3 _ _ _ _ _ _ _
   | exact ih4 _ _ _ _ _ _ _ _
   | exact impl_RunCode.mono _ _ _ _
   | exact impl_ValueNumbers.mono _ _
   | exact spec_B10Cells.mono _ _ _
   | exact spec_B10Code.mono _ _
   | exact LeO.none _
   | refine LeO.ite ?_ ?_
   | refine LeO.bind ?_ (fun _ => ?_)
  ·intro y0 y1 y2 y3 y4 y5 y6
   unfold laws_FnValueNumbers.j3
   repeat' first
   | (with_reducible exact ih0 _ _ _ _ _)
   | (with_reducible exact ih1 _ _ _ _ _ _ _)
   | (with_reducible exact ih2 _ _ _ _ _ _ _ _)
   | (with_reducible exact ih3 _ _ _ _ _ _ _)
   | (with_reducible exact ih4 _ _ _ _ _ _ _ _)
   | (with_reducible exact impl_RunCode.mono _ _ _ _)
   | (with_reducible exact impl_ValueNumbers.mono _ _)
   | (with_reducible exact spec_B10Cells.mono _ _ _)
   | (with_reducible exact spec_B10Code.mono _ _)
   | (with_reducible exact LeO.refl _)
   | (with_reducible exact LeO.none _)
   | (with_reducible refine LeO.ite ?_ ?_)
   | (with_reducible refine LeO.bind ?_ (fun _ => ?_))
   | exact ih0 _ _ _ _ _
   | exact ih1 _ _ _ _ _ _ _
   | exact ih2 _ _ _ _ _ _ _ _
   | exact ih3 _ _ _ _ _ _ _
   | exact ih4 _ _ _ _ _ _ _ _
   | exact impl_RunCode.mono _ _ _ _
   | exact impl_ValueNumbers.mono _ _
   | exact spec_B10Cells.mono _ _ _
   | exact spec_B10Code.mono _ _
   | exact LeO.none _
   | refine LeO.ite ?_ ?_
   | refine LeO.bind ?_ (fun _ => ?_)
  ·intro y0 y1 y2 y3 y4 y5 y6 y7
   unfold laws_FnValueNumbers.l1
   repeat' first
   | (with_reducible exact ih0 _ _ _ _ _)
   | (with_reducible exact ih1 _ _ _ _ _ _ _)
   | (with_reducible exact ih2 _ _ _ _ _ _ _ _)
   | (with_reducible exact ih3 _ _ _ _ _ _ _)
   | (with_reducible exact ih4 _ _ _ _ _ _ _ _)
   | (with_reducible exact impl_RunCode.mono _ _ _ _)
   | (with_reducible exact impl_ValueNumbers.mono _ _)
   | (with_reducible exact spec_B10Cells.mono _ _ _)
   | (with_reducible exact spec_B10Code.mono _ _)
   | (with_reducible exact LeO.refl _)
   | (with_reducible exact LeO.none _)
   | (with_reducible refine LeO.ite ?_ ?_)
   | (with_reducible refine LeO.bind ?_ (fun _ => ?_))
   | exact ih0 _ _ _ _ _
   | exact ih1 _ _ _ _ _ _ _
   | exact ih2 _ _ _ _ _ _ _ _
   | exact ih3 _ _ _ _ _ _ _
   | exact ih4 _ _ _ _ _ _ _ _
   | exact impl_RunCode.mono _ _ _ _
   | exact impl_ValueNumbers.mono _ _
   | exact spec_B10Cells.mono _ _ _
   | exact spec_B10Code.mono _ _
   | exact LeO.none _
   | refine LeO.ite ?_ ?_
   | refine LeO.bind ?_ (fun _ => ?_)
theorem laws_FnValueNumbers.mono : ∀ a0 a1 k, LeO (laws_FnValueNumbers.f k a0 a1) (laws_FnValueNumbers.f (k + 1) a0 a1) := by
 intro a0 a1 k
 obtain ⟨ih0, ih1, ih2, ih3, ih4⟩ := laws_FnValueNumbers.mono_l k
 unfold laws_FnValueNumbers.f
 repeat' first
   | (with_reducible exact ih0 _ _ _ _ _)
   | (with_reducible exact ih1 _ _ _ _ _ _ _)
   | (with_reducible exact ih2 _ _ _ _ _ _ _ _)
   | (with_reducible exact ih3 _ _ _ _ _ _ _)
   | (with_reducible exact ih4 _ _ _ _ _ _ _ _)
   | (with_reducible exact impl_RunCode.mono _ _ _ _)
   | (with_reducible exact impl_ValueNumbers.mono _ _)
   | (with_reducible exact spec_B10Cells.mono _ _ _)
   | (with_reducible exact spec_B10Code.mono _ _)
   | (with_reducible exact LeO.refl _)
   | (with_reducible exact LeO.none _)
   | (with_reducible refine LeO.ite ?_ ?_)
   | (with_reducible refine LeO.bind ?_ (fun _ => ?_))
   | exact ih0 _ _ _ _ _
   | exact ih1 _ _ _ _ _ _ _
   | exact ih2 _ _ _ _ _ _ _ _
   | exact ih3 _ _ _ _ _ _ _
   | exact ih4 _ _ _ _ _ _ _ _
   | exact impl_RunCode.mono _ _ _ _
   | exact impl_ValueNumbers.mono _ _
   | exact spec_B10Cells.mono _ _ _
   | exact spec_B10Code.mono _ _
   | exact LeO.none _
   | refine LeO.ite ?_ ?_
   | refine LeO.bind ?_ (fun _ => ?_)
theorem laws_FnValueNumbers.j0_no {k : Nat} {y0 : List (S58)} {y1 : Int} {y2 : List Int} {y3 : List Int} {r : Bool} (h : laws_FnValueNumbers.j0 k y0 y1 y2 y3 true = some r) (hr : r = true) : False := by
  cases k with
  | zero => exact nomatch (show (none : Option Bool) = some r from h)
  | succ k => exact absurd (Option.some.inj (show (some false : Option Bool) = some r from h)) (by rw [hr]; decide)
theorem laws_FnValueNumbers.j2_no {k : Nat} {y0 : List (S58)} {y1 : Int} {y2 : List Int} {y3 : List Int} {y4 : Int} {y5 : Int} {y6 : List Int} {r : Bool} (h : laws_FnValueNumbers.j2 k y0 y1 y2 y3 y4 y5 y6 true = some r) (hr : r = true) : False := by
  cases k with
  | zero => exact nomatch (show (none : Option Bool) = some r from h)
  | succ k => exact absurd (Option.some.inj (show (some false : Option Bool) = some r from h)) (by rw [hr]; decide)
theorem ways_FnValueNumbers.z1 {a b : Int} (h : decide (a < b) = true) (q : b ≤ a) : False := by
  have := of_decide_eq_true h
  omega
theorem ways_FnValueNumbers.z2 {a b : Int} (h : decide (a < b) = false) (q : ¬ b ≤ a) : False := by
  have := of_decide_eq_false h
  omega
theorem ways_FnValueNumbers.z3 {a b : Int} (h : decide (b ≤ a) = true) (q : a < b) : False := by
  have := of_decide_eq_true h
  omega
theorem ways_FnValueNumbers.z4 {a b : Int} (h : decide (b ≤ a) = false) (q : ¬ a < b) : False := by
  have := of_decide_eq_false h
  omega
theorem ways_FnValueNumbers.z5 {a b : Int} (h : decide (a < b) = true) (q : ¬ a < b) : False := by
  have := of_decide_eq_true h
  omega
theorem ways_FnValueNumbers.z6 {a b : Int} (h : decide (a < b) = false) (q : a < b) : False := by
  have := of_decide_eq_false h
  omega
theorem ways_FnValueNumbers.z7 {a b : Int} (h : decide (b ≤ a) = true) (q : ¬ b ≤ a) : False := by
  have := of_decide_eq_true h
  omega
theorem ways_FnValueNumbers.z8 {a b : Int} (h : decide (b ≤ a) = false) (q : b ≤ a) : False := by
  have := of_decide_eq_false h
  omega
set_option maxHeartbeats 8000000 in
set_option maxRecDepth 100000 in
theorem laws_FnValueNumbers.calls (k : Nat) (A0 : Option Addr) (c0 : Nat) (l0 : List Int) (A1 : Option Addr) (c1 : Nat) (l1 : List Int) (r : Bool) (w : World) (hr0 : Kd.C (Kd.int .u8) w A0 l0.length l0) (hc0 : l0.length ≤ c0) (hr1 : Kd.C (Kd.int .u8) w A1 l1.length l1) (hc1 : l1.length ≤ c1) (h : laws_FnValueNumbers.f k l0 l1 = some r) (hrtrue : r = true) :
  Calls Try.prog 16 #[.slice A0 l0.length c0, .slice A1 l1.length c1] w fun e w' => e = .returned (.bool r) ∧ Below w.heap.size w w' := by
 have hu58 := Try.underlying58
 have HR0 := Aside0.mk hr0
 have HC0 := Aside0.mk hc0
 clear hr0 hc0
 have HR1 := Aside0.mk hr1
 have HC1 := Aside0.mk hc1
 clear hr1 hc1
 have HB := Aside0.mk (Below.refl w.heap.size w)
 have H : ((laws_b10Long.f l0 l1).bind fun t290 => (if t290 = true then (some true) else ((spec_B10Code.f k l0).bind fun t291 => ((spec_B10Bits.f l1).bind fun t294 => ((spec_B10Cells.f k l1 t294).bind fun t295 => ((impl_ValueNumbers.f k t291).bind fun bt298 => (if bt298.2 = true then (laws_FnValueNumbers.j0 k t291 t294 t295 bt298.1 ((bt298.1.length : Int) != (t291.length : Int))) else (laws_FnValueNumbers.j0 k t291 t294 t295 bt298.1 true)))))))) = some r := h
 clear h
 have HRT := Aside0.mk hrtrue
 clear hrtrue
 replace H := Option.bind_eq_some_iff.mp H
 obtain ⟨t290, A30, H⟩ := H
 try dsimp only at H
 have A3 := Aside0.mk A30
 clear A30
 by_cases c4 : t290 = true
 ·subst c4
  rw [if_pos rfl] at H
  obtain rfl := Option.some.inj H
  go_enter Try.func16, Try.ntmps16
  go_wp2_with (first | (go_at_call 54; (with_reducible refine (laws_b10Long.calls _ _ l0 _ _ l1 true _ ?side1 ?side2 ?side3 ?side4 A3.out).mono ?_); (case side1 => repeat (first | exact HR0.out | (with_reducible refine Kd.C_alloc ?_ _) | (with_reducible refine Kd.C_drewN ?_ _) | (with_reducible refine Kd.C_drew ?_))); (case side2 => exact HC0.out); (case side3 => repeat (first | exact HR1.out | (with_reducible refine Kd.C_alloc ?_ _) | (with_reducible refine Kd.C_drewN ?_ _) | (with_reducible refine Kd.C_drew ?_))); (case side4 => exact HC1.out); rintro e w' ⟨rfl, ⟨nd, rfl⟩⟩; (try first | exact ⟨rfl, _, World.drewN_drewN _ _ _⟩ | exact ⟨rfl, _, Eq.trans (World.drewN_drewN _ _ _) (congrArg (World.drewN _) (Nat.add_assoc _ _ _))⟩)))
  repeat (go_quiet (first | (go_at_call 54; (with_reducible refine (laws_b10Long.calls _ _ l0 _ _ l1 true _ ?side1 ?side2 ?side3 ?side4 A3.out).mono ?_); (case side1 => repeat (first | exact HR0.out | (with_reducible refine Kd.C_alloc ?_ _) | (with_reducible refine Kd.C_drewN ?_ _) | (with_reducible refine Kd.C_drew ?_))); (case side2 => exact HC0.out); (case side3 => repeat (first | exact HR1.out | (with_reducible refine Kd.C_alloc ?_ _) | (with_reducible refine Kd.C_drewN ?_ _) | (with_reducible refine Kd.C_drew ?_))); (case side4 => exact HC1.out); rintro e w' ⟨rfl, ⟨nd, rfl⟩⟩; (try first | exact ⟨rfl, _, World.drewN_drewN _ _ _⟩ | exact ⟨rfl, _, Eq.trans (World.drewN_drewN _ _ _) (congrArg (World.drewN _) (Nat.add_assoc _ _ _))⟩))); try go_wp2_with (first | (go_at_call 54; (with_reducible refine (laws_b10Long.calls _ _ l0 _ _ l1 true _ ?side1 ?side2 ?side3 ?side4 A3.out).mono ?_); (case side1 => repeat (first | exact HR0.out | (with_reducible refine Kd.C_alloc ?_ _) | (with_reducible refine Kd.C_drewN ?_ _) | (with_reducible refine Kd.C_drew ?_))); (case side2 => exact HC0.out); (case side3 => repeat (first | exact HR1.out | (with_reducible refine Kd.C_alloc ?_ _) | (with_reducible refine Kd.C_drewN ?_ _) | (with_reducible refine Kd.C_drew ?_))); (case side4 => exact HC1.out); rintro e w' ⟨rfl, ⟨nd, rfl⟩⟩; (try first | exact ⟨rfl, _, World.drewN_drewN _ _ _⟩ | exact ⟨rfl, _, Eq.trans (World.drewN_drewN _ _ _) (congrArg (World.drewN _) (Nat.add_assoc _ _ _))⟩))))
  go_ret
  exact ⟨by first | rfl | (simp [errW_none, errW_some] <;> rfl) | (simp [*, errW_none, errW_some] <;> rfl), by repeat (first | (with_reducible first | exact HB.out | apply below_alloc | apply pw_below_drewN | apply below_drew1) | exact HB.out)⟩
 replace c4 := Bool.eq_false_iff.mpr c4
 subst c4
 rw [if_neg (show ¬ (false = true) by decide)] at H
 replace H := Option.bind_eq_some_iff.mp H
 obtain ⟨t291, A50, H⟩ := H
 try dsimp only at H
 have A5 := Aside0.mk A50
 clear A50
 replace H := Option.bind_eq_some_iff.mp H
 obtain ⟨t294, A60, H⟩ := H
 try dsimp only at H
 have A6 := Aside0.mk A60
 clear A60
 replace H := Option.bind_eq_some_iff.mp H
 obtain ⟨t295, A70, H⟩ := H
 try dsimp only at H
 have A7 := Aside0.mk A70
 clear A70
 replace H := Option.bind_eq_some_iff.mp H
 obtain ⟨⟨t298, t299⟩, A80, H⟩ := H
 try dsimp only at H
 have A8 := Aside0.mk A80
 clear A80
 have HC9 := Aside0.mk H
 clear H
 go_enter Try.func16, Try.ntmps16
 go_upto_region 7 with (first | (go_at_call 54; (with_reducible refine (laws_b10Long.calls _ _ l0 _ _ l1 false _ ?side1 ?side2 ?side3 ?side4 A3.out).mono ?_); (case side1 => repeat (first | exact HR0.out | (with_reducible refine Kd.C_alloc ?_ _) | (with_reducible refine Kd.C_drewN ?_ _) | (with_reducible refine Kd.C_drew ?_))); (case side2 => exact HC0.out); (case side3 => repeat (first | exact HR1.out | (with_reducible refine Kd.C_alloc ?_ _) | (with_reducible refine Kd.C_drewN ?_ _) | (with_reducible refine Kd.C_drew ?_))); (case side4 => exact HC1.out); rintro e w' ⟨rfl, ⟨nd, rfl⟩⟩; (try first | exact ⟨rfl, _, World.drewN_drewN _ _ _⟩ | exact ⟨rfl, _, Eq.trans (World.drewN_drewN _ _ _) (congrArg (World.drewN _) (Nat.add_assoc _ _ _))⟩)) | (go_at_call 55; (with_reducible refine (spec_B10Code.calls k _ _ l0 t291 _ ?side1 ?side2 A5.out).mono ?_); (case side1 => repeat (first | exact HR0.out | (with_reducible refine Kd.C_alloc ?_ _) | (with_reducible refine Kd.C_drewN ?_ _) | (with_reducible refine Kd.C_drew ?_))); (case side2 => exact HC0.out); rintro e w10 ⟨v292, rfl, ho0, hb⟩; have n0_ := Aside0.mk (Kd.R_lower ho0 (below_size (by repeat (first | (with_reducible first | exact HB.out | apply below_alloc | apply pw_below_drewN | apply below_drew1) | exact HB.out)))); have n1_ := Aside0.mk (below_step (by repeat (first | (with_reducible first | exact HB.out | apply below_alloc | apply pw_below_drewN | apply below_drew1) | exact HB.out)) hb); clear HB; have HO293 := n0_; have HB := n1_; clear n0_ n1_; (try clear hb); (try clear hb2); (try clear hk); (try clear hi); (try clear ho0)) | (go_at_call 56; (with_reducible refine (spec_B10Bits.calls _ _ l1 t294 _ ?side1 ?side2 A6.out).mono ?_); (case side1 => repeat (first | exact (Kd.C_below HR1.out HB.out) | (with_reducible refine Kd.C_alloc ?_ _) | (with_reducible refine Kd.C_drewN ?_ _) | (with_reducible refine Kd.C_drew ?_))); (case side2 => exact HC1.out); rintro e w11 ⟨rfl, hb⟩; have n0_ := Aside0.mk (Kd.R_below (by (with_reducible repeat (first | apply Kd.R_alloc | apply Kd.R_drewN | apply Kd.R_drew)); exact HO293.out) hb); have n1_ := Aside0.mk (below_step (by repeat (first | (with_reducible first | exact HB.out | apply below_alloc | apply pw_below_drewN | apply below_drew1) | exact HB.out)) hb); clear HO293; clear HB; have HO293 := n0_; have HB := n1_; clear n0_ n1_; (try clear hb); (try clear hb2); (try clear hk); (try clear hi)) | (go_at_call 57; (with_reducible refine (spec_B10Cells.calls k _ _ l1 t294 t295 _ ?side1 ?side2 A7.out).mono ?_); (case side1 => repeat (first | exact (Kd.C_below HR1.out HB.out) | (with_reducible refine Kd.C_alloc ?_ _) | (with_reducible refine Kd.C_drewN ?_ _) | (with_reducible refine Kd.C_drew ?_))); (case side2 => exact HC1.out); rintro e w12 ⟨v296, rfl, ho0, hb⟩; have n0_ := Aside0.mk (Kd.R_below (by (with_reducible repeat (first | apply Kd.R_alloc | apply Kd.R_drewN | apply Kd.R_drew)); exact HO293.out) hb); have n1_ := Aside0.mk (Kd.R_lower ho0 (below_size (by repeat (first | (with_reducible first | exact HB.out | apply below_alloc | apply pw_below_drewN | apply below_drew1) | exact HB.out)))); have n2_ := Aside0.mk (below_step (by repeat (first | (with_reducible first | exact HB.out | apply below_alloc | apply pw_below_drewN | apply below_drew1) | exact HB.out)) hb); clear HO293; clear HB; have HO293 := n0_; have HO297 := n1_; have HB := n2_; clear n0_ n1_ n2_; (try clear hb); (try clear hb2); (try clear hk); (try clear hi); (try clear ho0); obtain ⟨Ao13, co13, eo13⟩ := Kd.R_slice HO293.out; subst eo13) | (go_at_call 44; (with_reducible refine (impl_ValueNumbers.calls k _ _ t291 t298 t299 _ ?side1 ?side2 A8.out).mono ?_); (case side1 => repeat (first | exact (Kd.R_reads' HO293.out).2.2 | (with_reducible refine Kd.C_alloc ?_ _) | (with_reducible refine Kd.C_drewN ?_ _) | (with_reducible refine Kd.C_drew ?_))); (case side2 => exact (Kd.R_reads' HO293.out).2.1); rintro e w14 ⟨v300, rfl, ho0, hb⟩; have n0_ := Aside0.mk (Kd.R_below (by (with_reducible repeat (first | apply Kd.R_alloc | apply Kd.R_drewN | apply Kd.R_drew)); exact HO293.out) hb); have n1_ := Aside0.mk (Kd.R_elder' (by (with_reducible repeat (first | apply Kd.R_alloc | apply Kd.R_drewN | apply Kd.R_drew)); exact HO297.out) (Kd.R_base ho0) hb); have n2_ := Aside0.mk (Kd.R_lower (Kd.R_new' ho0 (Kd.R_lt (by (with_reducible repeat (first | apply Kd.R_alloc | apply Kd.R_drewN | apply Kd.R_drew)); exact HO297.out))) (below_size (by repeat (first | (with_reducible first | exact HB.out | apply below_alloc | apply pw_below_drewN | apply below_drew1) | exact HB.out)))); have n3_ := Aside0.mk (below_step (by repeat (first | (with_reducible first | exact HB.out | apply below_alloc | apply pw_below_drewN | apply below_drew1) | exact HB.out)) hb); clear HO293; clear HO297; clear HB; have HO293 := n0_; have HO297 := n1_; have HO301 := n2_; have HB := n3_; clear n0_ n1_ n2_ n3_; (try clear hb); (try clear hb2); (try clear hk); (try clear hi); (try clear ho0)))
 repeat (go_quiet (first | (go_at_call 54; (with_reducible refine (laws_b10Long.calls _ _ l0 _ _ l1 false _ ?side1 ?side2 ?side3 ?side4 A3.out).mono ?_); (case side1 => repeat (first | exact HR0.out | (with_reducible refine Kd.C_alloc ?_ _) | (with_reducible refine Kd.C_drewN ?_ _) | (with_reducible refine Kd.C_drew ?_))); (case side2 => exact HC0.out); (case side3 => repeat (first | exact HR1.out | (with_reducible refine Kd.C_alloc ?_ _) | (with_reducible refine Kd.C_drewN ?_ _) | (with_reducible refine Kd.C_drew ?_))); (case side4 => exact HC1.out); rintro e w' ⟨rfl, ⟨nd, rfl⟩⟩; (try first | exact ⟨rfl, _, World.drewN_drewN _ _ _⟩ | exact ⟨rfl, _, Eq.trans (World.drewN_drewN _ _ _) (congrArg (World.drewN _) (Nat.add_assoc _ _ _))⟩)) | (go_at_call 55; (with_reducible refine (spec_B10Code.calls k _ _ l0 t291 _ ?side1 ?side2 A5.out).mono ?_); (case side1 => repeat (first | exact HR0.out | (with_reducible refine Kd.C_alloc ?_ _) | (with_reducible refine Kd.C_drewN ?_ _) | (with_reducible refine Kd.C_drew ?_))); (case side2 => exact HC0.out); rintro e w10 ⟨v292, rfl, ho0, hb⟩; have n0_ := Aside0.mk (Kd.R_lower ho0 (below_size (by repeat (first | (with_reducible first | exact HB.out | apply below_alloc | apply pw_below_drewN | apply below_drew1) | exact HB.out)))); have n1_ := Aside0.mk (below_step (by repeat (first | (with_reducible first | exact HB.out | apply below_alloc | apply pw_below_drewN | apply below_drew1) | exact HB.out)) hb); clear HB; have HO293 := n0_; have HB := n1_; clear n0_ n1_; (try clear hb); (try clear hb2); (try clear hk); (try clear hi); (try clear ho0)) | (go_at_call 56; (with_reducible refine (spec_B10Bits.calls _ _ l1 t294 _ ?side1 ?side2 A6.out).mono ?_); (case side1 => repeat (first | exact (Kd.C_below HR1.out HB.out) | (with_reducible refine Kd.C_alloc ?_ _) | (with_reducible refine Kd.C_drewN ?_ _) | (with_reducible refine Kd.C_drew ?_))); (case side2 => exact HC1.out); rintro e w11 ⟨rfl, hb⟩; have n0_ := Aside0.mk (Kd.R_below (by (with_reducible repeat (first | apply Kd.R_alloc | apply Kd.R_drewN | apply Kd.R_drew)); exact HO293.out) hb); have n1_ := Aside0.mk (below_step (by repeat (first | (with_reducible first | exact HB.out | apply below_alloc | apply pw_below_drewN | apply below_drew1) | exact HB.out)) hb); clear HO293; clear HB; have HO293 := n0_; have HB := n1_; clear n0_ n1_; (try clear hb); (try clear hb2); (try clear hk); (try clear hi)) | (go_at_call 57; (with_reducible refine (spec_B10Cells.calls k _ _ l1 t294 t295 _ ?side1 ?side2 A7.out).mono ?_); (case side1 => repeat (first | exact (Kd.C_below HR1.out HB.out) | (with_reducible refine Kd.C_alloc ?_ _) | (with_reducible refine Kd.C_drewN ?_ _) | (with_reducible refine Kd.C_drew ?_))); (case side2 => exact HC1.out); rintro e w12 ⟨v296, rfl, ho0, hb⟩; have n0_ := Aside0.mk (Kd.R_below (by (with_reducible repeat (first | apply Kd.R_alloc | apply Kd.R_drewN | apply Kd.R_drew)); exact HO293.out) hb); have n1_ := Aside0.mk (Kd.R_lower ho0 (below_size (by repeat (first | (with_reducible first | exact HB.out | apply below_alloc | apply pw_below_drewN | apply below_drew1) | exact HB.out)))); have n2_ := Aside0.mk (below_step (by repeat (first | (with_reducible first | exact HB.out | apply below_alloc | apply pw_below_drewN | apply below_drew1) | exact HB.out)) hb); clear HO293; clear HB; have HO293 := n0_; have HO297 := n1_; have HB := n2_; clear n0_ n1_ n2_; (try clear hb); (try clear hb2); (try clear hk); (try clear hi); (try clear ho0); obtain ⟨Ao13, co13, eo13⟩ := Kd.R_slice HO293.out; subst eo13) | (go_at_call 44; (with_reducible refine (impl_ValueNumbers.calls k _ _ t291 t298 t299 _ ?side1 ?side2 A8.out).mono ?_); (case side1 => repeat (first | exact (Kd.R_reads' HO293.out).2.2 | (with_reducible refine Kd.C_alloc ?_ _) | (with_reducible refine Kd.C_drewN ?_ _) | (with_reducible refine Kd.C_drew ?_))); (case side2 => exact (Kd.R_reads' HO293.out).2.1); rintro e w14 ⟨v300, rfl, ho0, hb⟩; have n0_ := Aside0.mk (Kd.R_below (by (with_reducible repeat (first | apply Kd.R_alloc | apply Kd.R_drewN | apply Kd.R_drew)); exact HO293.out) hb); have n1_ := Aside0.mk (Kd.R_elder' (by (with_reducible repeat (first | apply Kd.R_alloc | apply Kd.R_drewN | apply Kd.R_drew)); exact HO297.out) (Kd.R_base ho0) hb); have n2_ := Aside0.mk (Kd.R_lower (Kd.R_new' ho0 (Kd.R_lt (by (with_reducible repeat (first | apply Kd.R_alloc | apply Kd.R_drewN | apply Kd.R_drew)); exact HO297.out))) (below_size (by repeat (first | (with_reducible first | exact HB.out | apply below_alloc | apply pw_below_drewN | apply below_drew1) | exact HB.out)))); have n3_ := Aside0.mk (below_step (by repeat (first | (with_reducible first | exact HB.out | apply below_alloc | apply pw_below_drewN | apply below_drew1) | exact HB.out)) hb); clear HO293; clear HO297; clear HB; have HO293 := n0_; have HO297 := n1_; have HO301 := n2_; have HB := n3_; clear n0_ n1_ n2_ n3_; (try clear hb); (try clear hb2); (try clear hk); (try clear hi); (try clear ho0))); go_upto_region 7 with (first | (go_at_call 54; (with_reducible refine (laws_b10Long.calls _ _ l0 _ _ l1 false _ ?side1 ?side2 ?side3 ?side4 A3.out).mono ?_); (case side1 => repeat (first | exact HR0.out | (with_reducible refine Kd.C_alloc ?_ _) | (with_reducible refine Kd.C_drewN ?_ _) | (with_reducible refine Kd.C_drew ?_))); (case side2 => exact HC0.out); (case side3 => repeat (first | exact HR1.out | (with_reducible refine Kd.C_alloc ?_ _) | (with_reducible refine Kd.C_drewN ?_ _) | (with_reducible refine Kd.C_drew ?_))); (case side4 => exact HC1.out); rintro e w' ⟨rfl, ⟨nd, rfl⟩⟩; (try first | exact ⟨rfl, _, World.drewN_drewN _ _ _⟩ | exact ⟨rfl, _, Eq.trans (World.drewN_drewN _ _ _) (congrArg (World.drewN _) (Nat.add_assoc _ _ _))⟩)) | (go_at_call 55; (with_reducible refine (spec_B10Code.calls k _ _ l0 t291 _ ?side1 ?side2 A5.out).mono ?_); (case side1 => repeat (first | exact HR0.out | (with_reducible refine Kd.C_alloc ?_ _) | (with_reducible refine Kd.C_drewN ?_ _) | (with_reducible refine Kd.C_drew ?_))); (case side2 => exact HC0.out); rintro e w10 ⟨v292, rfl, ho0, hb⟩; have n0_ := Aside0.mk (Kd.R_lower ho0 (below_size (by repeat (first | (with_reducible first | exact HB.out | apply below_alloc | apply pw_below_drewN | apply below_drew1) | exact HB.out)))); have n1_ := Aside0.mk (below_step (by repeat (first | (with_reducible first | exact HB.out | apply below_alloc | apply pw_below_drewN | apply below_drew1) | exact HB.out)) hb); clear HB; have HO293 := n0_; have HB := n1_; clear n0_ n1_; (try clear hb); (try clear hb2); (try clear hk); (try clear hi); (try clear ho0)) | (go_at_call 56; (with_reducible refine (spec_B10Bits.calls _ _ l1 t294 _ ?side1 ?side2 A6.out).mono ?_); (case side1 => repeat (first | exact (Kd.C_below HR1.out HB.out) | (with_reducible refine Kd.C_alloc ?_ _) | (with_reducible refine Kd.C_drewN ?_ _) | (with_reducible refine Kd.C_drew ?_))); (case side2 => exact HC1.out); rintro e w11 ⟨rfl, hb⟩; have n0_ := Aside0.mk (Kd.R_below (by (with_reducible repeat (first | apply Kd.R_alloc | apply Kd.R_drewN | apply Kd.R_drew)); exact HO293.out) hb); have n1_ := Aside0.mk (below_step (by repeat (first | (with_reducible first | exact HB.out | apply below_alloc | apply pw_below_drewN | apply below_drew1) | exact HB.out)) hb); clear HO293; clear HB; have HO293 := n0_; have HB := n1_; clear n0_ n1_; (try clear hb); (try clear hb2); (try clear hk); (try clear hi)) | (go_at_call 57; (with_reducible refine (spec_B10Cells.calls k _ _ l1 t294 t295 _ ?side1 ?side2 A7.out).mono ?_); (case side1 => repeat (first | exact (Kd.C_below HR1.out HB.out) | (with_reducible refine Kd.C_alloc ?_ _) | (with_reducible refine Kd.C_drewN ?_ _) | (with_reducible refine Kd.C_drew ?_))); (case side2 => exact HC1.out); rintro e w12 ⟨v296, rfl, ho0, hb⟩; have n0_ := Aside0.mk (Kd.R_below (by (with_reducible repeat (first | apply Kd.R_alloc | apply Kd.R_drewN | apply Kd.R_drew)); exact HO293.out) hb); have n1_ := Aside0.mk (Kd.R_lower ho0 (below_size (by repeat (first | (with_reducible first | exact HB.out | apply below_alloc | apply pw_below_drewN | apply below_drew1) | exact HB.out)))); have n2_ := Aside0.mk (below_step (by repeat (first | (with_reducible first | exact HB.out | apply below_alloc | apply pw_below_drewN | apply below_drew1) | exact HB.out)) hb); clear HO293; clear HB; have HO293 := n0_; have HO297 := n1_; have HB := n2_; clear n0_ n1_ n2_; (try clear hb); (try clear hb2); (try clear hk); (try clear hi); (try clear ho0); obtain ⟨Ao13, co13, eo13⟩ := Kd.R_slice HO293.out; subst eo13) | (go_at_call 44; (with_reducible refine (impl_ValueNumbers.calls k _ _ t291 t298 t299 _ ?side1 ?side2 A8.out).mono ?_); (case side1 => repeat (first | exact (Kd.R_reads' HO293.out).2.2 | (with_reducible refine Kd.C_alloc ?_ _) | (with_reducible refine Kd.C_drewN ?_ _) | (with_reducible refine Kd.C_drew ?_))); (case side2 => exact (Kd.R_reads' HO293.out).2.1); rintro e w14 ⟨v300, rfl, ho0, hb⟩; have n0_ := Aside0.mk (Kd.R_below (by (with_reducible repeat (first | apply Kd.R_alloc | apply Kd.R_drewN | apply Kd.R_drew)); exact HO293.out) hb); have n1_ := Aside0.mk (Kd.R_elder' (by (with_reducible repeat (first | apply Kd.R_alloc | apply Kd.R_drewN | apply Kd.R_drew)); exact HO297.out) (Kd.R_base ho0) hb); have n2_ := Aside0.mk (Kd.R_lower (Kd.R_new' ho0 (Kd.R_lt (by (with_reducible repeat (first | apply Kd.R_alloc | apply Kd.R_drewN | apply Kd.R_drew)); exact HO297.out))) (below_size (by repeat (first | (with_reducible first | exact HB.out | apply below_alloc | apply pw_below_drewN | apply below_drew1) | exact HB.out)))); have n3_ := Aside0.mk (below_step (by repeat (first | (with_reducible first | exact HB.out | apply below_alloc | apply pw_below_drewN | apply below_drew1) | exact HB.out)) hb); clear HO293; clear HO297; clear HB; have HO293 := n0_; have HO297 := n1_; have HO301 := n2_; have HB := n3_; clear n0_ n1_ n2_ n3_; (try clear hb); (try clear hb2); (try clear hk); (try clear hi); (try clear ho0))))
 (try simp only [Act.put, List.setIfInBounds_toArray, List.set_cons_zero, List.set_cons_succ])
 go_cut [39] (fun v39 wc => ∃ (kq : Nat) (x39_8 : Bool), v39 = .bool x39_8 ∧ Aside0 (laws_FnValueNumbers.j0 kq t291 t294 t295 t298 x39_8 = some r) ∧ Aside0 (kq ≤ k) ∧ Aside0 (Kd.R k58 58 wc w.heap.size (fun _ => True) (.slice Ao13 t291.length co13) t291) ∧ Aside0 (Kd.R (Kd.int .i64) 2 wc w.heap.size (fun k_ => some k_ ≠ (v300 : Value).ownBlock) v296 t295) ∧ Aside0 (Kd.R (Kd.int .i64) 2 wc w.heap.size (fun k_ => some k_ ≠ (v296 : Value).ownBlock) v300 t298) ∧ Aside0 (Below w.heap.size w wc))
 case first =>
  have H := HC9.out
  clear HC9
  by_cases c15 : t299 = true
  rotate_left
  ·replace c15 := Bool.eq_false_iff.mpr c15
   subst c15
   rw [if_neg (show ¬ (false = true) by decide)] at H
   exact (laws_FnValueNumbers.j0_no H HRT.out).elim
  subst c15
  rw [if_pos rfl] at H
  have H' := Aside0.mk H
  clear H
  obtain ⟨Ao16, co16, eo16⟩ := Kd.R_slice HO301.out
  subst eo16
  go_wp2
  repeat (go_quiet (fail); try go_wp2)
  go_meet
  case rel => exact ⟨_, (((t298.length : Int) != (t291.length : Int))), (by first | rfl | (simp; done) | (simp [*]; done)), H', ⟨by first | omega | exact Nat.le_refl _⟩, ⟨by (with_reducible repeat (first | apply Kd.R_alloc | apply Kd.R_drewN | apply Kd.R_drew)); exact HO293.out⟩, ⟨by (with_reducible repeat (first | apply Kd.R_alloc | apply Kd.R_drewN | apply Kd.R_drew)); exact Kd.R_mono HO297.out (fun _ hk => hk.2)⟩, ⟨by (with_reducible repeat (first | apply Kd.R_alloc | apply Kd.R_drewN | apply Kd.R_drew)); exact Kd.R_mono HO301.out (fun _ hk => hk.2)⟩, ⟨by repeat (first | (with_reducible first | exact HB.out | apply below_alloc | apply pw_below_drewN | apply below_drew1) | exact HB.out)⟩⟩
 case rest =>
  as_aux_lemma =>
   clear HC9
   try clear c1
   try clear p2
   try clear c4
   try clear c15
   try clear c16
   obtain ⟨kq, x39_8, rfl, HA, HJ8, HO_5, HO_7, HO_8, HB⟩ := hcut
   cases kq with
   | zero => exact absurd HA.out (by simp [laws_FnValueNumbers.j0])
   | succ kj8 =>
    have H := HA.out
    clear HA
    simp only [laws_FnValueNumbers.j0] at H
    by_cases c17 : x39_8 = true
    ·subst c17
     rw [if_pos rfl] at H
     obtain rfl := Option.some.inj H
     exact absurd HRT.out (by decide)
    replace c17 := Bool.eq_false_iff.mpr c17
    subst c17
    rw [if_neg (show ¬ (false = true) by decide)] at H
    obtain ⟨y302, hy302⟩ : ∃ y_ : List Int, y_ = (([] : List Int)) := ⟨_, rfl⟩
    replace H : (laws_FnValueNumbers.l0 kj8 t291 t294 t295 t298 y302 32 0) = some r := by first | (rw [hy302]; with_reducible exact H) | (have H2_ := (Option.bind_some _ _).symm.trans H; rw [hy302]; with_reducible exact H2_) | (have H2_ := (Option.bind_some _ _).symm.trans H; with_reducible exact H2_) | with_reducible exact H | (rw [hy302]; exact H) | exact H
    have Ny302 := Aside0.mk hy302
    clear hy302
    have H' := Aside0.mk H
    clear H
    go_wp2_with (first | ((with_reducible refine gate_dst (N := 40) rfl ?_); (try (refine gate_guard (by rfl) ?_; dsimp only)); refine Kd.R_lit (Kd.int .i64) _ 2 ?hg (N := 40) ?hd (xs := ([] : List Int)) (inner := []) (ok := fun _ => True) (okp := fun _ => True) ?hr ?hp (fun _ hk => hk) trivial (Below.refl _ _) (Nat.le_refl _) (by simp) ?_; (case hd => rfl); (case hg => rfl); (case hr => first | (go_simp; done) | (go_simp; rfl)); (case hp => exact (Reps.none _ _)); intro v303 w18 ho19 hb hg_ hnew_; clear hg_ hnew_; (first | rw [← Ny302.out] at ho19 | (simp only [Int.reduceToNat] at ho19; rw [← Ny302.out] at ho19)); have n0_ := Aside0.mk (Kd.R_below (by (with_reducible repeat (first | apply Kd.R_alloc | apply Kd.R_drewN | apply Kd.R_drew)); exact HO_5.out) hb); have n1_ := Aside0.mk (Kd.R_elder' (by (with_reducible repeat (first | apply Kd.R_alloc | apply Kd.R_drewN | apply Kd.R_drew)); exact HO_7.out) (Kd.R_base ho19) hb); have n2_ := Aside0.mk (Kd.R_elder' (by (with_reducible repeat (first | apply Kd.R_alloc | apply Kd.R_drewN | apply Kd.R_drew)); exact HO_8.out) (Kd.R_base ho19) hb); have n3_ := Aside0.mk (Kd.R_lower (Kd.R_new' (Kd.R_new' ho19 (Kd.R_lt (by (with_reducible repeat (first | apply Kd.R_alloc | apply Kd.R_drewN | apply Kd.R_drew)); exact HO_7.out))) (Kd.R_lt (by (with_reducible repeat (first | apply Kd.R_alloc | apply Kd.R_drewN | apply Kd.R_drew)); exact HO_8.out))) (below_size (by repeat (first | (with_reducible first | exact HB.out | apply below_alloc | apply pw_below_drewN | apply below_drew1) | exact HB.out)))); have n4_ := Aside0.mk (below_step (by repeat (first | (with_reducible first | exact HB.out | apply below_alloc | apply pw_below_drewN | apply below_drew1) | exact HB.out)) hb); clear HO_5; clear HO_7; clear HO_8; clear HB; have HO_5 := n0_; have HO_7 := n1_; have HO_8 := n2_; have HO304 := n3_; have HB := n4_; clear n0_ n1_ n2_ n3_ n4_; clear hb ho19))
    repeat (go_quiet (first | ((with_reducible refine gate_dst (N := 40) rfl ?_); (try (refine gate_guard (by rfl) ?_; dsimp only)); refine Kd.R_lit (Kd.int .i64) _ 2 ?hg (N := 40) ?hd (xs := ([] : List Int)) (inner := []) (ok := fun _ => True) (okp := fun _ => True) ?hr ?hp (fun _ hk => hk) trivial (Below.refl _ _) (Nat.le_refl _) (by simp) ?_; (case hd => rfl); (case hg => rfl); (case hr => first | (go_simp; done) | (go_simp; rfl)); (case hp => exact (Reps.none _ _)); intro v303 w18 ho19 hb hg_ hnew_; clear hg_ hnew_; (first | rw [← Ny302.out] at ho19 | (simp only [Int.reduceToNat] at ho19; rw [← Ny302.out] at ho19)); have n0_ := Aside0.mk (Kd.R_below (by (with_reducible repeat (first | apply Kd.R_alloc | apply Kd.R_drewN | apply Kd.R_drew)); exact HO_5.out) hb); have n1_ := Aside0.mk (Kd.R_elder' (by (with_reducible repeat (first | apply Kd.R_alloc | apply Kd.R_drewN | apply Kd.R_drew)); exact HO_7.out) (Kd.R_base ho19) hb); have n2_ := Aside0.mk (Kd.R_elder' (by (with_reducible repeat (first | apply Kd.R_alloc | apply Kd.R_drewN | apply Kd.R_drew)); exact HO_8.out) (Kd.R_base ho19) hb); have n3_ := Aside0.mk (Kd.R_lower (Kd.R_new' (Kd.R_new' ho19 (Kd.R_lt (by (with_reducible repeat (first | apply Kd.R_alloc | apply Kd.R_drewN | apply Kd.R_drew)); exact HO_7.out))) (Kd.R_lt (by (with_reducible repeat (first | apply Kd.R_alloc | apply Kd.R_drewN | apply Kd.R_drew)); exact HO_8.out))) (below_size (by repeat (first | (with_reducible first | exact HB.out | apply below_alloc | apply pw_below_drewN | apply below_drew1) | exact HB.out)))); have n4_ := Aside0.mk (below_step (by repeat (first | (with_reducible first | exact HB.out | apply below_alloc | apply pw_below_drewN | apply below_drew1) | exact HB.out)) hb); clear HO_5; clear HO_7; clear HO_8; clear HB; have HO_5 := n0_; have HO_7 := n1_; have HO_8 := n2_; have HO304 := n3_; have HB := n4_; clear n0_ n1_ n2_ n3_ n4_; clear hb ho19)); try go_wp2_with (first | ((with_reducible refine gate_dst (N := 40) rfl ?_); (try (refine gate_guard (by rfl) ?_; dsimp only)); refine Kd.R_lit (Kd.int .i64) _ 2 ?hg (N := 40) ?hd (xs := ([] : List Int)) (inner := []) (ok := fun _ => True) (okp := fun _ => True) ?hr ?hp (fun _ hk => hk) trivial (Below.refl _ _) (Nat.le_refl _) (by simp) ?_; (case hd => rfl); (case hg => rfl); (case hr => first | (go_simp; done) | (go_simp; rfl)); (case hp => exact (Reps.none _ _)); intro v303 w18 ho19 hb hg_ hnew_; clear hg_ hnew_; (first | rw [← Ny302.out] at ho19 | (simp only [Int.reduceToNat] at ho19; rw [← Ny302.out] at ho19)); have n0_ := Aside0.mk (Kd.R_below (by (with_reducible repeat (first | apply Kd.R_alloc | apply Kd.R_drewN | apply Kd.R_drew)); exact HO_5.out) hb); have n1_ := Aside0.mk (Kd.R_elder' (by (with_reducible repeat (first | apply Kd.R_alloc | apply Kd.R_drewN | apply Kd.R_drew)); exact HO_7.out) (Kd.R_base ho19) hb); have n2_ := Aside0.mk (Kd.R_elder' (by (with_reducible repeat (first | apply Kd.R_alloc | apply Kd.R_drewN | apply Kd.R_drew)); exact HO_8.out) (Kd.R_base ho19) hb); have n3_ := Aside0.mk (Kd.R_lower (Kd.R_new' (Kd.R_new' ho19 (Kd.R_lt (by (with_reducible repeat (first | apply Kd.R_alloc | apply Kd.R_drewN | apply Kd.R_drew)); exact HO_7.out))) (Kd.R_lt (by (with_reducible repeat (first | apply Kd.R_alloc | apply Kd.R_drewN | apply Kd.R_drew)); exact HO_8.out))) (below_size (by repeat (first | (with_reducible first | exact HB.out | apply below_alloc | apply pw_below_drewN | apply below_drew1) | exact HB.out)))); have n4_ := Aside0.mk (below_step (by repeat (first | (with_reducible first | exact HB.out | apply below_alloc | apply pw_below_drewN | apply below_drew1) | exact HB.out)) hb); clear HO_5; clear HO_7; clear HO_8; clear HB; have HO_5 := n0_; have HO_7 := n1_; have HO_8 := n2_; have HO304 := n3_; have HB := n4_; clear n0_ n1_ n2_ n3_ n4_; clear hb ho19)))
    go_loopg [7, 10, 11, 12] kj8 (fun kq v7 v10 v11 v12 w' => ∃ (x7_2 : List Int) (x10_2 : List Int) (x11_2 : Int) (x12_2 : Int), v11 = .int .i64 x11_2 ∧ v12 = .int .i64 x12_2 ∧ Aside0 (laws_FnValueNumbers.l0 kq t291 t294 x7_2 t298 x10_2 x11_2 x12_2 = some r) ∧ Aside0 (kq ≤ kj8) ∧ Aside0 (Kd.R k58 58 w' w.heap.size (fun _ => True) (.slice Ao13 t291.length co13) t291) ∧ Aside0 (Kd.R (Kd.int .i64) 2 w' w.heap.size (fun k_ => some k_ ≠ (v300 : Value).ownBlock ∧ some k_ ≠ (v10 : Value).ownBlock) v7 x7_2) ∧ Aside0 (Kd.R (Kd.int .i64) 2 w' w.heap.size (fun k_ => some k_ ≠ (v7 : Value).ownBlock ∧ some k_ ≠ (v10 : Value).ownBlock) v300 t298) ∧ Aside0 (Kd.R (Kd.int .i64) 2 w' w.heap.size (fun k_ => some k_ ≠ (v7 : Value).ownBlock ∧ some k_ ≠ (v300 : Value).ownBlock) v10 x10_2) ∧ Aside0 (Below w.heap.size w w'))
    case atStart => exact ⟨(t295), (y302), (32), (0), (by first | rfl | (simp; done) | (simp [*]; done)), (by first | rfl | (simp; done) | (simp [*]; done)), H', ⟨Nat.le_refl _⟩, ⟨by (with_reducible repeat (first | apply Kd.R_alloc | apply Kd.R_drewN | apply Kd.R_drew)); exact HO_5.out⟩, ⟨by (with_reducible repeat (first | apply Kd.R_alloc | apply Kd.R_drewN | apply Kd.R_drew)); exact HO_7.out⟩, ⟨by (with_reducible repeat (first | apply Kd.R_alloc | apply Kd.R_drewN | apply Kd.R_drew)); exact HO_8.out⟩, ⟨by (with_reducible repeat (first | apply Kd.R_alloc | apply Kd.R_drewN | apply Kd.R_drew)); exact Kd.R_mono HO304.out (fun _ hk => ⟨hk.1.2, hk.2⟩)⟩, ⟨by repeat (first | (with_reducible first | exact HB.out | apply below_alloc | apply pw_below_drewN | apply below_drew1) | exact HB.out)⟩⟩
    case round =>
     clear H'
     try clear c1
     try clear p2
     try clear c4
     try clear c15
     try clear c16
     try clear c17
     try clear p2
     obtain ⟨x7_2, x10_2, x11_2, x12_2, rfl, rfl, HA, HK2, HO_5, HO_7, HO_8, HO_10, HB⟩ := hrel
     cases gk with
     | zero => exact absurd HA.out (by simp [laws_FnValueNumbers.l0])
     | succ k2 =>
      have H := HA.out
      clear HA
      simp only [laws_FnValueNumbers.l0] at H
      by_cases c20 : x12_2 < (t291.length : Int)
      rotate_left
      ·rw [if_neg c20] at H
       have c20b0 : decide (x12_2 < (t291.length : Int)) = false := decide_eq_false c20
       clear c20
       obtain rfl := Option.some.inj H
       go_wp2
       repeat (go_quiet (fail); try go_wp2)
       go_ret
       exact ⟨by first | rfl | (simp [errW_none, errW_some] <;> rfl) | (simp [*, errW_none, errW_some] <;> rfl), by repeat (first | (with_reducible first | exact HB.out | apply below_alloc | apply pw_below_drewN | apply below_drew1) | exact HB.out)⟩

      rw [if_pos c20] at H
      have c20b0 : decide (x12_2 < (t291.length : Int)) = true := decide_eq_true c20
      clear c20
      by_cases c21 : 0 ≤ x12_2
      rotate_left
      ·rw [if_neg c21] at H
       exact absurd H (by simp)
      rw [if_pos c21] at H
      have c21b0 := eq_true c21
      have c21b1 : decide (0 ≤ x12_2) = true := decide_eq_true c21
      clear c21
      by_cases c22 : x12_2 ≤ (wrap64 (x12_2 + 1))
      rotate_left
      ·rw [if_neg c22] at H
       exact absurd H (by simp)
      rw [if_pos c22] at H
      have c22b0 := eq_true c22
      have c22b1 : decide (x12_2 ≤ (wrap64 (x12_2 + 1))) = true := decide_eq_true c22
      by_cases c23 : (wrap64 (x12_2 + 1)) ≤ (t291.length : Int)
      rotate_left
      ·rw [if_neg c23] at H
       exact absurd H (by simp)
      rw [if_pos c23] at H
      have c23b0 := eq_true c23
      have c23b1 : decide ((wrap64 (x12_2 + 1)) ≤ (t291.length : Int)) = true := decide_eq_true c23
      obtain ⟨y305, hy305⟩ : ∃ y_ : List (S58), y_ = ((t291.take ((wrap64 (x12_2 + 1)) : Int).toNat).drop (x12_2 : Int).toNat) := ⟨_, rfl⟩
      replace H : ((impl_RunCode.f k2 t294 y305 x7_2).bind fun bt309 => (if bt309.2 = true then (if (bt309.1.length : Int) = 32 then (if x12_2 < (t298.length : Int) then (laws_FnValueNumbers.j2 k2 t291 t294 t298 x10_2 x11_2 x12_2 bt309.1 (decide ((rd t298 x12_2) > x11_2))) else (none)) else (laws_FnValueNumbers.j2 k2 t291 t294 t298 x10_2 x11_2 x12_2 bt309.1 true)) else (laws_FnValueNumbers.j2 k2 t291 t294 t298 x10_2 x11_2 x12_2 bt309.1 true))) = some r := by first | (rw [hy305]; with_reducible exact H) | (have H2_ := (Option.bind_some _ _).symm.trans H; rw [hy305]; with_reducible exact H2_) | (have H2_ := (Option.bind_some _ _).symm.trans H; with_reducible exact H2_) | with_reducible exact H | (rw [hy305]; exact H) | exact H
      have Ny305 := Aside0.mk hy305
      clear hy305
      replace H := Option.bind_eq_some_iff.mp H
      obtain ⟨⟨t309, t310⟩, A240, H⟩ := H
      try dsimp only at H
      have A24 := Aside0.mk A240
      clear A240
      have HC25 := Aside0.mk H
      clear H
      have q26 : ((wrap64 (x12_2 + 1)) : Int) ≤ ((t291.length : Int) : Int) := of_decide_eq_true (by first | (with_reducible assumption) | assumption)
      obtain ⟨i026, hi026, _, hsz26, _⟩ := info_parts info58
      have hroom26 : t291.length ≤ co13 := (Kd.R_reads' HO_5.out).2.1
      have hC26 : Kd.C k58 _ Ao13 t291.length t291 := (Kd.R_reads' HO_5.out).2.2
      have ql26 : (x12_2 : Int) ≤ ((wrap64 (x12_2 + 1)) : Int) := of_decide_eq_true (by first | (with_reducible assumption) | assumption)
      have q026 : (0 : Int) ≤ (x12_2 : Int) := of_decide_eq_true (by first | (with_reducible assumption) | assumption)
      have hcut26 := cut_mid (P := Try.prog) 25 58 .i64 .i64 Try.underlying25 hi026 4 hsz26 Ao13 t291.length co13 x12_2 (wrap64 (x12_2 + 1)) q026 ql26 q26 hroom26
      have hr26 := Kd.C_mid (lo := (x12_2 : Int).toNat) (hi := ((wrap64 (x12_2 + 1)) : Int).toNat) (c := co13) hC26 (by omega) (by omega) hroom26
      obtain ⟨A26, hA26⟩ : ∃ A1, A1 = (if co13 = (x12_2 : Int).toNat then Ao13 else (Ao13 : Option Addr).map (·.add ((x12_2 : Int).toNat * 4))) := ⟨_, rfl⟩
      obtain ⟨c26, hc26⟩ : ∃ c1, c1 = co13 - (x12_2 : Int).toNat := ⟨_, rfl⟩
      have hy26 : y305.length = ((wrap64 (x12_2 + 1)) : Int).toNat - (x12_2 : Int).toNat := (by rw [Ny305.out, List.length_drop, List.length_take] <;> omega)
      rw [show ((t291).take ((wrap64 (x12_2 + 1)) : Int).toNat).drop (x12_2 : Int).toNat = y305 from Ny305.out.symm] at hr26
      replace hr26 : Kd.C k58 _ A26 y305.length y305 := (by rw [hA26]; exact hr26)
      rw [← hy26, ← hA26, ← hc26] at hcut26
      have HR308 := Aside0.mk hr26
      have HC308 := Aside0.mk (show y305.length ≤ c26 from by rw [hy26, hc26]; exact Nat.sub_le_sub_right (Nat.le_trans (by omega) hroom26) _)
      clear hr26 hC26 hroom26 hi026 hsz26 hc26
      have KY26 := Aside0.mk hy26
      have KA26 := Aside0.mk hA26
      clear hy26 hA26
      have KL26 := Aside0.mk (show ((wrap64 (x12_2 + 1)) : Int).toNat ≤ t291.length from by omega)
      have KM26 := Aside0.mk (show (x12_2 : Int).toNat ≤ ((wrap64 (x12_2 + 1)) : Int).toNat from by omega)
      replace q26 := eq_true q26
      obtain ⟨Ao27, co27, eo27⟩ := Kd.R_slice HO_7.out
      subst eo27
      go_upto_region 15 with (first | (go_at_call 53; (with_reducible refine (impl_RunCode.calls k2 t294 _ _ y305 _ _ x7_2 t309 t310 _ ?side1 ?side2 ?side3 ?side4 A24.out).mono ?_); (case side1 => repeat (first | exact (by repeat (first | (with_reducible exact HR308.out) | (with_reducible refine Kd.C_alloc ?_ _) | (with_reducible refine Kd.C_drewN ?_ _) | (with_reducible refine Kd.C_drew ?_) | exact HR308.out)) | (with_reducible refine Kd.C_alloc ?_ _) | (with_reducible refine Kd.C_drewN ?_ _) | (with_reducible refine Kd.C_drew ?_))); (case side2 => exact HC308.out); (case side3 => repeat (first | exact (Kd.R_reads' HO_7.out).2.2 | (with_reducible refine Kd.C_alloc ?_ _) | (with_reducible refine Kd.C_drewN ?_ _) | (with_reducible refine Kd.C_drew ?_))); (case side4 => exact (Kd.R_reads' HO_7.out).2.1); rintro e w28 ⟨v311, rfl, ho0, hb⟩; have n0_ := Aside0.mk (Kd.R_below (by (with_reducible repeat (first | apply Kd.R_alloc | apply Kd.R_drewN | apply Kd.R_drew)); exact HO_5.out) hb); have n1_ := Aside0.mk (Kd.R_elder' (by (with_reducible repeat (first | apply Kd.R_alloc | apply Kd.R_drewN | apply Kd.R_drew)); exact HO_7.out) (Kd.R_base ho0) hb); have n2_ := Aside0.mk (Kd.R_elder' (by (with_reducible repeat (first | apply Kd.R_alloc | apply Kd.R_drewN | apply Kd.R_drew)); exact HO_8.out) (Kd.R_base ho0) hb); have n3_ := Aside0.mk (Kd.R_elder' (by (with_reducible repeat (first | apply Kd.R_alloc | apply Kd.R_drewN | apply Kd.R_drew)); exact HO_10.out) (Kd.R_base ho0) hb); have n4_ := Aside0.mk (Kd.R_lower (Kd.R_new' (Kd.R_new' (Kd.R_new' ho0 (Kd.R_lt (by (with_reducible repeat (first | apply Kd.R_alloc | apply Kd.R_drewN | apply Kd.R_drew)); exact HO_7.out))) (Kd.R_lt (by (with_reducible repeat (first | apply Kd.R_alloc | apply Kd.R_drewN | apply Kd.R_drew)); exact HO_8.out))) (Kd.R_lt (by (with_reducible repeat (first | apply Kd.R_alloc | apply Kd.R_drewN | apply Kd.R_drew)); exact HO_10.out))) (below_size (by repeat (first | (with_reducible first | exact HB.out | apply below_alloc | apply pw_below_drewN | apply below_drew1) | exact HB.out)))); have n5_ := Aside0.mk (Kd.C_below (by repeat (first | (with_reducible exact HR308.out) | (with_reducible refine Kd.C_alloc ?_ _) | (with_reducible refine Kd.C_drewN ?_ _) | (with_reducible refine Kd.C_drew ?_) | exact HR308.out)) hb); have n6_ := Aside0.mk (below_step (by repeat (first | (with_reducible first | exact HB.out | apply below_alloc | apply pw_below_drewN | apply below_drew1) | exact HB.out)) hb); clear HO_5; clear HO_7; clear HO_8; clear HO_10; clear HR308; clear HB; have HO_5 := n0_; have HO_7 := n1_; have HO_8 := n2_; have HO_10 := n3_; have HO312 := n4_; have HR308 := n5_; have HB := n6_; clear n0_ n1_ n2_ n3_ n4_ n5_ n6_; (try clear hb); (try clear hb2); (try clear hk); (try clear hi); (try clear ho0)))
      repeat (go_quiet (first | (go_at_call 53; (with_reducible refine (impl_RunCode.calls k2 t294 _ _ y305 _ _ x7_2 t309 t310 _ ?side1 ?side2 ?side3 ?side4 A24.out).mono ?_); (case side1 => repeat (first | exact (by repeat (first | (with_reducible exact HR308.out) | (with_reducible refine Kd.C_alloc ?_ _) | (with_reducible refine Kd.C_drewN ?_ _) | (with_reducible refine Kd.C_drew ?_) | exact HR308.out)) | (with_reducible refine Kd.C_alloc ?_ _) | (with_reducible refine Kd.C_drewN ?_ _) | (with_reducible refine Kd.C_drew ?_))); (case side2 => exact HC308.out); (case side3 => repeat (first | exact (Kd.R_reads' HO_7.out).2.2 | (with_reducible refine Kd.C_alloc ?_ _) | (with_reducible refine Kd.C_drewN ?_ _) | (with_reducible refine Kd.C_drew ?_))); (case side4 => exact (Kd.R_reads' HO_7.out).2.1); rintro e w28 ⟨v311, rfl, ho0, hb⟩; have n0_ := Aside0.mk (Kd.R_below (by (with_reducible repeat (first | apply Kd.R_alloc | apply Kd.R_drewN | apply Kd.R_drew)); exact HO_5.out) hb); have n1_ := Aside0.mk (Kd.R_elder' (by (with_reducible repeat (first | apply Kd.R_alloc | apply Kd.R_drewN | apply Kd.R_drew)); exact HO_7.out) (Kd.R_base ho0) hb); have n2_ := Aside0.mk (Kd.R_elder' (by (with_reducible repeat (first | apply Kd.R_alloc | apply Kd.R_drewN | apply Kd.R_drew)); exact HO_8.out) (Kd.R_base ho0) hb); have n3_ := Aside0.mk (Kd.R_elder' (by (with_reducible repeat (first | apply Kd.R_alloc | apply Kd.R_drewN | apply Kd.R_drew)); exact HO_10.out) (Kd.R_base ho0) hb); have n4_ := Aside0.mk (Kd.R_lower (Kd.R_new' (Kd.R_new' (Kd.R_new' ho0 (Kd.R_lt (by (with_reducible repeat (first | apply Kd.R_alloc | apply Kd.R_drewN | apply Kd.R_drew)); exact HO_7.out))) (Kd.R_lt (by (with_reducible repeat (first | apply Kd.R_alloc | apply Kd.R_drewN | apply Kd.R_drew)); exact HO_8.out))) (Kd.R_lt (by (with_reducible repeat (first | apply Kd.R_alloc | apply Kd.R_drewN | apply Kd.R_drew)); exact HO_10.out))) (below_size (by repeat (first | (with_reducible first | exact HB.out | apply below_alloc | apply pw_below_drewN | apply below_drew1) | exact HB.out)))); have n5_ := Aside0.mk (Kd.C_below (by repeat (first | (with_reducible exact HR308.out) | (with_reducible refine Kd.C_alloc ?_ _) | (with_reducible refine Kd.C_drewN ?_ _) | (with_reducible refine Kd.C_drew ?_) | exact HR308.out)) hb); have n6_ := Aside0.mk (below_step (by repeat (first | (with_reducible first | exact HB.out | apply below_alloc | apply pw_below_drewN | apply below_drew1) | exact HB.out)) hb); clear HO_5; clear HO_7; clear HO_8; clear HO_10; clear HR308; clear HB; have HO_5 := n0_; have HO_7 := n1_; have HO_8 := n2_; have HO_10 := n3_; have HO312 := n4_; have HR308 := n5_; have HB := n6_; clear n0_ n1_ n2_ n3_ n4_ n5_ n6_; (try clear hb); (try clear hb2); (try clear hk); (try clear hi); (try clear ho0))); go_upto_region 15 with (first | (go_at_call 53; (with_reducible refine (impl_RunCode.calls k2 t294 _ _ y305 _ _ x7_2 t309 t310 _ ?side1 ?side2 ?side3 ?side4 A24.out).mono ?_); (case side1 => repeat (first | exact (by repeat (first | (with_reducible exact HR308.out) | (with_reducible refine Kd.C_alloc ?_ _) | (with_reducible refine Kd.C_drewN ?_ _) | (with_reducible refine Kd.C_drew ?_) | exact HR308.out)) | (with_reducible refine Kd.C_alloc ?_ _) | (with_reducible refine Kd.C_drewN ?_ _) | (with_reducible refine Kd.C_drew ?_))); (case side2 => exact HC308.out); (case side3 => repeat (first | exact (Kd.R_reads' HO_7.out).2.2 | (with_reducible refine Kd.C_alloc ?_ _) | (with_reducible refine Kd.C_drewN ?_ _) | (with_reducible refine Kd.C_drew ?_))); (case side4 => exact (Kd.R_reads' HO_7.out).2.1); rintro e w28 ⟨v311, rfl, ho0, hb⟩; have n0_ := Aside0.mk (Kd.R_below (by (with_reducible repeat (first | apply Kd.R_alloc | apply Kd.R_drewN | apply Kd.R_drew)); exact HO_5.out) hb); have n1_ := Aside0.mk (Kd.R_elder' (by (with_reducible repeat (first | apply Kd.R_alloc | apply Kd.R_drewN | apply Kd.R_drew)); exact HO_7.out) (Kd.R_base ho0) hb); have n2_ := Aside0.mk (Kd.R_elder' (by (with_reducible repeat (first | apply Kd.R_alloc | apply Kd.R_drewN | apply Kd.R_drew)); exact HO_8.out) (Kd.R_base ho0) hb); have n3_ := Aside0.mk (Kd.R_elder' (by (with_reducible repeat (first | apply Kd.R_alloc | apply Kd.R_drewN | apply Kd.R_drew)); exact HO_10.out) (Kd.R_base ho0) hb); have n4_ := Aside0.mk (Kd.R_lower (Kd.R_new' (Kd.R_new' (Kd.R_new' ho0 (Kd.R_lt (by (with_reducible repeat (first | apply Kd.R_alloc | apply Kd.R_drewN | apply Kd.R_drew)); exact HO_7.out))) (Kd.R_lt (by (with_reducible repeat (first | apply Kd.R_alloc | apply Kd.R_drewN | apply Kd.R_drew)); exact HO_8.out))) (Kd.R_lt (by (with_reducible repeat (first | apply Kd.R_alloc | apply Kd.R_drewN | apply Kd.R_drew)); exact HO_10.out))) (below_size (by repeat (first | (with_reducible first | exact HB.out | apply below_alloc | apply pw_below_drewN | apply below_drew1) | exact HB.out)))); have n5_ := Aside0.mk (Kd.C_below (by repeat (first | (with_reducible exact HR308.out) | (with_reducible refine Kd.C_alloc ?_ _) | (with_reducible refine Kd.C_drewN ?_ _) | (with_reducible refine Kd.C_drew ?_) | exact HR308.out)) hb); have n6_ := Aside0.mk (below_step (by repeat (first | (with_reducible first | exact HB.out | apply below_alloc | apply pw_below_drewN | apply below_drew1) | exact HB.out)) hb); clear HO_5; clear HO_7; clear HO_8; clear HO_10; clear HR308; clear HB; have HO_5 := n0_; have HO_7 := n1_; have HO_8 := n2_; have HO_10 := n3_; have HO312 := n4_; have HR308 := n5_; have HB := n6_; clear n0_ n1_ n2_ n3_ n4_ n5_ n6_; (try clear hb); (try clear hb2); (try clear hk); (try clear hi); (try clear ho0))))
      (try simp only [Act.put, List.setIfInBounds_toArray, List.set_cons_zero, List.set_cons_succ])
      go_cut [72] (fun v72 wc => ∃ (kq : Nat) (x72_24 : Bool), v72 = .bool x72_24 ∧ Aside0 (laws_FnValueNumbers.j2 kq t291 t294 t298 x10_2 x11_2 x12_2 t309 x72_24 = some r) ∧ Aside0 (kq ≤ k2) ∧ Aside0 (Kd.R k58 58 wc w.heap.size (fun _ => True) (.slice Ao13 t291.length co13) t291) ∧ Aside0 (Kd.R (Kd.int .i64) 2 wc w.heap.size (fun k_ => some k_ ≠ (u10 : Value).ownBlock ∧ some k_ ≠ (v311 : Value).ownBlock) v300 t298) ∧ Aside0 (Kd.R (Kd.int .i64) 2 wc w.heap.size (fun k_ => some k_ ≠ (v300 : Value).ownBlock ∧ some k_ ≠ (v311 : Value).ownBlock) u10 x10_2) ∧ Aside0 (Kd.R (Kd.int .i64) 2 wc w.heap.size (fun k_ => some k_ ≠ (v300 : Value).ownBlock ∧ some k_ ≠ (u10 : Value).ownBlock) v311 t309) ∧ Aside0 (Below w.heap.size w wc))
      case first =>
       have H := HC25.out
       clear HC25
       by_cases c29 : t310 = true
       rotate_left
       ·replace c29 := Bool.eq_false_iff.mpr c29
        subst c29
        rw [if_neg (show ¬ (false = true) by decide)] at H
        exact (laws_FnValueNumbers.j2_no H HRT.out).elim
       subst c29
       rw [if_pos rfl] at H
       by_cases c30 : (t309.length : Int) = 32
       rotate_left
       ·rw [if_neg c30] at H
        have c30b0 : ((t309.length : Int) == 32) = false := beq_eq_false_iff_ne.mpr c30
        have c30b1 : ((t309.length : Int) != 32) = true := bne_iff_ne.mpr c30
        (first | rw [c30b0] | (simp only [i64_w, i32_w]; rw [c30b0]) | skip)
        exact (laws_FnValueNumbers.j2_no H HRT.out).elim
       rw [if_pos c30] at H
       have c30b0 : ((t309.length : Int) == 32) = true := beq_iff_eq.mpr c30
       have c30b1 : ((t309.length : Int) != 32) = false := bne_eq_false_iff_eq.mpr c30
       clear c30
       (first | rw [c30b0] | (simp only [i64_w, i32_w]; rw [c30b0]) | skip)
       by_cases c31 : x12_2 < (t298.length : Int)
       rotate_left
       ·rw [if_neg c31] at H
        exact absurd H (by simp)
       rw [if_pos c31] at H
       have c31b0 : decide (x12_2 < (t298.length : Int)) = true := decide_eq_true c31
       clear c31
       have H' := Aside0.mk H
       clear H
       obtain ⟨Ao32, co32, eo32⟩ := Kd.R_slice HO312.out
       subst eo32
       obtain ⟨Ao33, co33, eo33⟩ := Kd.R_slice HO_8.out
       subst eo33
       have p313 : 0 ≤ (x12_2 : Int) := of_decide_eq_true (by first | (with_reducible assumption) | assumption)
       have q313 : x12_2 < (t298.length : Int) := of_decide_eq_true (by first | (with_reducible assumption) | assumption)
       obtain ⟨ad313, e313, hx313_0⟩ := Kd.at_int (Kd.R_reads' HO_8.out).2.2 x12_2 p313 q313
       cases e313
       replace p313 := eq_true p313
       replace q313 := eq_true q313
       go_wp2
       repeat (go_quiet (fail); try go_wp2)
       go_meet
       case rel => exact ⟨_, (decide ((rd t298 x12_2) > x11_2)), (by first | rfl | (simp; done) | (simp [*]; done)), H', ⟨by have := HJ8.out; have := HK2.out; first | omega | exact Nat.le_refl _⟩, ⟨by (with_reducible repeat (first | apply Kd.R_alloc | apply Kd.R_drewN | apply Kd.R_drew)); exact HO_5.out⟩, ⟨by (with_reducible repeat (first | apply Kd.R_alloc | apply Kd.R_drewN | apply Kd.R_drew)); exact Kd.R_mono HO_8.out (fun _ hk => ⟨hk.1.2, hk.2⟩)⟩, ⟨by (with_reducible repeat (first | apply Kd.R_alloc | apply Kd.R_drewN | apply Kd.R_drew)); exact Kd.R_mono HO_10.out (fun _ hk => ⟨hk.1.2, hk.2⟩)⟩, ⟨by (with_reducible repeat (first | apply Kd.R_alloc | apply Kd.R_drewN | apply Kd.R_drew)); exact Kd.R_mono HO312.out (fun _ hk => ⟨hk.1.2, hk.2⟩)⟩, ⟨by repeat (first | (with_reducible first | exact HB.out | apply below_alloc | apply pw_below_drewN | apply below_drew1) | exact HB.out)⟩⟩
      case rest =>
       as_aux_lemma =>
        clear HC25
        try clear c1
        try clear c2
        try clear p2
        try clear q2
        try clear c3
        try clear p3
        try clear q3
        try clear hx3
        try clear c4
        try clear p6
        try clear c15
        try clear c16
        try clear c17
        try clear c20
        try clear c20b0
        try clear c21
        try clear c21b0
        try clear c21b1
        try clear c22
        try clear c22b0
        try clear c22b1
        try clear c23
        try clear c23b0
        try clear c23b1
        try clear c26
        try clear q26
        try clear c29
        try clear c30
        try clear c30b0
        try clear c30b1
        try clear c31
        try clear c31b0
        try clear p31
        try clear q31
        try clear hx31
        try clear hx313_0
        try clear p2
        try clear p313
        try clear q026
        try clear q26
        try clear q313
        obtain ⟨kq, x72_24, rfl, HA, HJ24, HO_5, HO_8, HO_10, HO_13, HB⟩ := hcut
        cases kq with
        | zero => exact absurd HA.out (by simp [laws_FnValueNumbers.j2])
        | succ kj24 =>
         have H := HA.out
         clear HA
         simp only [laws_FnValueNumbers.j2] at H
         by_cases c35 : x72_24 = true
         ·subst c35
          rw [if_pos rfl] at H
          obtain rfl := Option.some.inj H
          exact absurd HRT.out (by decide)
         replace c35 := Bool.eq_false_iff.mpr c35
         subst c35
         rw [if_neg (show ¬ (false = true) by decide)] at H
         by_cases c36 : 0 ≤ x12_2
         rotate_left
         ·rw [if_neg c36] at H
          exact absurd H (by simp)
         rw [if_pos c36] at H
         have c36b0 : decide (0 ≤ x12_2) = true := decide_eq_true c36
         clear c36
         by_cases c37 : x12_2 < (t298.length : Int)
         rotate_left
         ·rw [if_neg c37] at H
          exact absurd H (by simp)
         rw [if_pos c37] at H
         have c37b0 : decide (x12_2 < (t298.length : Int)) = true := decide_eq_true c37
         clear c37
         have HC38 := Aside0.mk H
         clear H
         obtain ⟨Ao39, co39, eo39⟩ := Kd.R_slice HO_8.out
         subst eo39
         have p314 : 0 ≤ (x12_2 : Int) := of_decide_eq_true (by first | (with_reducible assumption) | assumption)
         have q314 : x12_2 < (t298.length : Int) := of_decide_eq_true (by first | (with_reducible assumption) | assumption)
         obtain ⟨ad314, e314, hx314_0⟩ := Kd.at_int (Kd.R_reads' HO_8.out).2.2 x12_2 p314 q314
         cases e314
         replace p314 := eq_true p314
         replace q314 := eq_true q314
         go_upto_if 78 with (fail)
         repeat (go_quiet (fail); go_upto_if 78 with (fail))
         go_cut [11] (fun v11 wc => ∃ (kq : Nat) (x11_37 : Int), v11 = .int .i64 x11_37 ∧ Aside0 (laws_FnValueNumbers.j3 kq t291 t294 t298 x10_2 x11_37 x12_2 t309 = some r) ∧ Aside0 (kq ≤ kj24) ∧ Aside0 (Kd.R k58 58 wc w.heap.size (fun _ => True) (.slice Ao13 t291.length co13) t291) ∧ Aside0 (Kd.R (Kd.int .i64) 2 wc w.heap.size (fun k_ => some k_ ≠ (u10 : Value).ownBlock ∧ some k_ ≠ (v311 : Value).ownBlock) (.slice (some ad314) t298.length co39) t298) ∧ Aside0 (Kd.R (Kd.int .i64) 2 wc w.heap.size (fun k_ => some k_ ≠ ((.slice (some ad314) t298.length co39) : Value).ownBlock ∧ some k_ ≠ (v311 : Value).ownBlock) u10 x10_2) ∧ Aside0 (Kd.R (Kd.int .i64) 2 wc w.heap.size (fun k_ => some k_ ≠ ((.slice (some ad314) t298.length co39) : Value).ownBlock ∧ some k_ ≠ (u10 : Value).ownBlock) v311 t309) ∧ Aside0 (Below w.heap.size w wc))
         case first =>
          have H := HC38.out
          clear HC38
          by_cases c40 : (rd t298 x12_2) = x11_2
          rotate_left
          ·rw [if_neg c40] at H
           have c40b0 : ((rd t298 x12_2) == x11_2) = false := beq_eq_false_iff_ne.mpr c40
           have c40b1 : ((rd t298 x12_2) != x11_2) = true := bne_iff_ne.mpr c40
           (first | rw [c40b0] | (simp only [i64_w, i32_w]; rw [c40b0]) | skip)
           have H' := Aside0.mk H
           clear H
           go_wp2
           repeat (go_quiet (fail); try go_wp2)
           go_meet
           case rel => exact ⟨_, (x11_2), (by first | rfl | (simp; done) | (simp [*]; done)), H', ⟨by have := HJ8.out; have := HK2.out; have := HJ24.out; first | omega | exact Nat.le_refl _⟩, ⟨by (with_reducible repeat (first | apply Kd.R_alloc | apply Kd.R_drewN | apply Kd.R_drew)); exact HO_5.out⟩, ⟨by (with_reducible repeat (first | apply Kd.R_alloc | apply Kd.R_drewN | apply Kd.R_drew)); exact HO_8.out⟩, ⟨by (with_reducible repeat (first | apply Kd.R_alloc | apply Kd.R_drewN | apply Kd.R_drew)); exact HO_10.out⟩, ⟨by (with_reducible repeat (first | apply Kd.R_alloc | apply Kd.R_drewN | apply Kd.R_drew)); exact HO_13.out⟩, ⟨by repeat (first | (with_reducible first | exact HB.out | apply below_alloc | apply pw_below_drewN | apply below_drew1) | exact HB.out)⟩⟩
          rw [if_pos c40] at H
          have c40b0 : ((rd t298 x12_2) == x11_2) = true := beq_iff_eq.mpr c40
          have c40b1 : ((rd t298 x12_2) != x11_2) = false := bne_eq_false_iff_eq.mpr c40
          clear c40
          (first | rw [c40b0] | (simp only [i64_w, i32_w]; rw [c40b0]) | skip)
          have H' := Aside0.mk H
          clear H
          go_wp2
          repeat (go_quiet (fail); try go_wp2)
          go_meet
          case rel => exact ⟨_, (wrap64 (x11_2 + 1)), (by first | rfl | (simp; done) | (simp [*]; done)), H', ⟨by have := HJ8.out; have := HK2.out; have := HJ24.out; first | omega | exact Nat.le_refl _⟩, ⟨by (with_reducible repeat (first | apply Kd.R_alloc | apply Kd.R_drewN | apply Kd.R_drew)); exact HO_5.out⟩, ⟨by (with_reducible repeat (first | apply Kd.R_alloc | apply Kd.R_drewN | apply Kd.R_drew)); exact HO_8.out⟩, ⟨by (with_reducible repeat (first | apply Kd.R_alloc | apply Kd.R_drewN | apply Kd.R_drew)); exact HO_10.out⟩, ⟨by (with_reducible repeat (first | apply Kd.R_alloc | apply Kd.R_drewN | apply Kd.R_drew)); exact HO_13.out⟩, ⟨by repeat (first | (with_reducible first | exact HB.out | apply below_alloc | apply pw_below_drewN | apply below_drew1) | exact HB.out)⟩⟩
         case rest =>
          as_aux_lemma =>
           clear HC38
           try clear c1
           try clear c2
           try clear p2
           try clear q2
           try clear c3
           try clear p3
           try clear q3
           try clear hx3
           try clear c4
           try clear p6
           try clear c15
           try clear c16
           try clear c17
           try clear c20
           try clear c20b0
           try clear c21
           try clear c21b0
           try clear c21b1
           try clear c22
           try clear c22b0
           try clear c22b1
           try clear c23
           try clear c23b0
           try clear c23b1
           try clear c26
           try clear q26
           try clear c29
           try clear c30
           try clear c30b0
           try clear c30b1
           try clear c31
           try clear c31b0
           try clear p31
           try clear q31
           try clear hx31
           try clear c35
           try clear c36
           try clear c36b0
           try clear c37
           try clear c37b0
           try clear c40
           try clear c40b0
           try clear c40b1
           try clear hx313_0
           try clear hx314_0
           try clear p2
           try clear p3
           try clear p31
           try clear p313
           try clear p314
           try clear p6
           try clear q026
           try clear q2
           try clear q26
           try clear q3
           try clear q31
           try clear q313
           try clear q314
           obtain ⟨kq, x11_37, rfl, HA, HJ37, HO_5, HO_8, HO_10, HO_13, HB⟩ := hcut
           cases kq with
           | zero => exact absurd HA.out (by simp [laws_FnValueNumbers.j3])
           | succ kj37 =>
            have H := HA.out
            clear HA
            simp only [laws_FnValueNumbers.j3] at H
            by_cases c41 : 0 ≤ x12_2
            rotate_left
            ·rw [if_neg c41] at H
             exact absurd H (by simp)
            rw [if_pos c41] at H
            have c41b0 : decide (0 ≤ x12_2) = true := decide_eq_true c41
            clear c41
            by_cases c42 : x12_2 < (t291.length : Int)
            rotate_left
            ·rw [if_neg c42] at H
             exact absurd H (by simp)
            rw [if_pos c42] at H
            have c42b0 : decide (x12_2 < (t291.length : Int)) = true := decide_eq_true c42
            clear c42
            by_cases c43 : 0 ≤ ((rd_T58 t291 x12_2).f1)
            rotate_left
            ·rw [if_neg c43] at H
             exact absurd H (by simp)
            rw [if_pos c43] at H
            have c43b0 : decide (0 ≤ ((rd_T58 t291 x12_2).f1)) = true := decide_eq_true c43
            clear c43
            by_cases c44 : ((rd_T58 t291 x12_2).f1) < (t309.length : Int)
            rotate_left
            ·rw [if_neg c44] at H
             exact absurd H (by simp)
            rw [if_pos c44] at H
            have c44b0 : decide (((rd_T58 t291 x12_2).f1) < (t309.length : Int)) = true := decide_eq_true c44
            clear c44
            by_cases c45 : x10_2.length < 17592186044416
            rotate_left
            ·rw [if_neg c45] at H
             exact absurd H (by simp)
            rw [if_pos c45] at H
            have LMc45 := Aside0.mk c45
            clear c45
            obtain ⟨y317, hy317⟩ : ∃ y_ : List Int, y_ = (x10_2 ++ [rd t309 ((rd_T58 t291 x12_2).f1)]) := ⟨_, rfl⟩
            replace H : (laws_FnValueNumbers.l1 kj37 t291 t294 t298 y317 x11_37 x12_2 t309 0) = some r := by first | (rw [hy317]; with_reducible exact H) | (have H2_ := (Option.bind_some _ _).symm.trans H; rw [hy317]; with_reducible exact H2_) | (have H2_ := (Option.bind_some _ _).symm.trans H; with_reducible exact H2_) | with_reducible exact H | (rw [hy317]; exact H) | exact H
            have Ny317 := Aside0.mk hy317
            clear hy317
            have H' := Aside0.mk H
            clear H
            have p315 : 0 ≤ (x12_2 : Int) := of_decide_eq_true (by first | (with_reducible assumption) | assumption)
            have q315 : x12_2 < (t291.length : Int) := of_decide_eq_true (by first | (with_reducible assumption) | assumption)
            obtain ⟨ad315, e315, hx315_0, hx315_1, hx315_2, hx315_3⟩ := at_T58 (Kd.R_reads' HO_5.out).2.2 x12_2 p315 q315
            cases e315
            replace p315 := eq_true p315
            replace q315 := eq_true q315
            obtain ⟨Ao46, co46, eo46⟩ := Kd.R_slice HO_13.out
            subst eo46
            have p316 : 0 ≤ (((rd_T58 t291 x12_2).f1) : Int) := of_decide_eq_true (by first | (with_reducible assumption) | assumption)
            have q316 : ((rd_T58 t291 x12_2).f1) < (t309.length : Int) := of_decide_eq_true (by first | (with_reducible assumption) | assumption)
            obtain ⟨ad316, e316, hx316_0⟩ := Kd.at_int (Kd.R_reads' HO_13.out).2.2 ((rd_T58 t291 x12_2).f1) p316 q316
            cases e316
            replace p316 := eq_true p316
            replace q316 := eq_true q316
            go_wp2_with (first | ((with_reducible refine gate_builtin (b := .append) (xs := #[.tmp 81, .tmp 90]) rfl ?_); (try (refine gate_guard (by rfl) ?_; dsimp only)); at_builtin; refine Kd.R_append (Kd.int .i64) (w0 := w) w.heap.size rfl (.tmp 81) (.tmp 90) 33 2 (.int .i64 0) 8 rfl Try.underlying33 info2 rfl (by decide) (by omega) u10 x10_2 (rd t309 ((rd_T58 t291 x12_2).f1)) [.int .i64 (rd t309 ((rd_T58 t291 x12_2).f1))] (fun k_ => some k_ ≠ (.slice (some ad314) t298.length co39 : Value).ownBlock ∧ some k_ ≠ (.slice (some ad316) t309.length co46 : Value).ownBlock) (fun _ => False) rfl rfl ?aP (fun _ hk => hk.elim) ?aF ?aO ?aB ?aS ?aL ?_; (case aP => exact rfl); (case aB => exact (by repeat (first | (with_reducible first | exact HB.out | apply below_alloc | apply pw_below_drewN | apply below_drew1) | exact HB.out))); (case aF => exact (fun k_ hk => ⟨Kd.fresh' (Kd.R_lt (by (with_reducible repeat (first | apply Kd.R_alloc | apply Kd.R_drewN | apply Kd.R_drew)); exact HO_8.out)) k_ hk, Kd.fresh' (Kd.R_lt (by (with_reducible repeat (first | apply Kd.R_alloc | apply Kd.R_drewN | apply Kd.R_drew)); exact HO_13.out)) k_ hk⟩)); (case aO => exact (by (with_reducible repeat (first | apply Kd.R_alloc | apply Kd.R_drewN | apply Kd.R_drew)); exact HO_10.out)); (case aS => exact (below_size (by repeat (first | (with_reducible first | exact HB.out | apply below_alloc | apply pw_below_drewN | apply below_drew1) | exact HB.out)))); (case aL => have := LMc45.out; omega); intro v318 w47 ho hb hg hat; rw [← Ny317.out] at ho; have n0_ := Aside0.mk (Kd.R_over' (by (with_reducible repeat (first | apply Kd.R_alloc | apply Kd.R_drewN | apply Kd.R_drew)); exact HO_5.out) (Kd.R_typed (by (with_reducible repeat (first | apply Kd.R_alloc | apply Kd.R_drewN | apply Kd.R_drew)); exact HO_10.out)) (by decide) hg); have n1_ := Aside0.mk (Kd.R_after (ok := (fun k_ => some k_ ≠ (.slice (some ad316) t309.length co46 : Value).ownBlock)) (by (with_reducible repeat (first | apply Kd.R_alloc | apply Kd.R_drewN | apply Kd.R_drew)); exact Kd.R_mono HO_8.out (fun _ hk => ⟨hk.2, hk.1⟩)) hg hat); have n2_ := Aside0.mk (Kd.R_after (ok := (fun k_ => some k_ ≠ (.slice (some ad314) t298.length co39 : Value).ownBlock)) (by (with_reducible repeat (first | apply Kd.R_alloc | apply Kd.R_drewN | apply Kd.R_drew)); exact HO_13.out) hg hat); have n3_ := Aside0.mk (hb); have n4_ := Aside0.mk ((show Kd.C k58 w47 A26 y305.length y305 from by rw [Ny305.out, KA26.out]; exact Kd.C_mid (lo := (x12_2 : Int).toNat) (hi := ((wrap64 (x12_2 + 1)) : Int).toNat) (c := co13) ((Kd.R_reads' (Kd.R_over' (by (with_reducible repeat (first | apply Kd.R_alloc | apply Kd.R_drewN | apply Kd.R_drew)); exact HO_5.out) (Kd.R_typed (by (with_reducible repeat (first | apply Kd.R_alloc | apply Kd.R_drewN | apply Kd.R_drew)); exact HO_10.out)) (by decide) hg)).2.2) KM26.out KL26.out ((Kd.R_reads' (Kd.R_over' (by (with_reducible repeat (first | apply Kd.R_alloc | apply Kd.R_drewN | apply Kd.R_drew)); exact HO_5.out) (Kd.R_typed (by (with_reducible repeat (first | apply Kd.R_alloc | apply Kd.R_drewN | apply Kd.R_drew)); exact HO_10.out)) (by decide) hg)).2.1))); have n5_ := Aside0.mk (ho); clear HO_5; clear HO_8; clear HO_13; clear HB; clear HR308; clear HO_10; have HO_5 := n0_; have HO_8 := n1_; have HO_13 := n2_; have HB := n3_; have HR308 := n4_; have HO319 := n5_; clear n0_ n1_ n2_ n3_ n4_ n5_; clear ho hb hg hat))
            repeat (go_quiet (first | ((with_reducible refine gate_builtin (b := .append) (xs := #[.tmp 81, .tmp 90]) rfl ?_); (try (refine gate_guard (by rfl) ?_; dsimp only)); at_builtin; refine Kd.R_append (Kd.int .i64) (w0 := w) w.heap.size rfl (.tmp 81) (.tmp 90) 33 2 (.int .i64 0) 8 rfl Try.underlying33 info2 rfl (by decide) (by omega) u10 x10_2 (rd t309 ((rd_T58 t291 x12_2).f1)) [.int .i64 (rd t309 ((rd_T58 t291 x12_2).f1))] (fun k_ => some k_ ≠ (.slice (some ad314) t298.length co39 : Value).ownBlock ∧ some k_ ≠ (.slice (some ad316) t309.length co46 : Value).ownBlock) (fun _ => False) rfl rfl ?aP (fun _ hk => hk.elim) ?aF ?aO ?aB ?aS ?aL ?_; (case aP => exact rfl); (case aB => exact (by repeat (first | (with_reducible first | exact HB.out | apply below_alloc | apply pw_below_drewN | apply below_drew1) | exact HB.out))); (case aF => exact (fun k_ hk => ⟨Kd.fresh' (Kd.R_lt (by (with_reducible repeat (first | apply Kd.R_alloc | apply Kd.R_drewN | apply Kd.R_drew)); exact HO_8.out)) k_ hk, Kd.fresh' (Kd.R_lt (by (with_reducible repeat (first | apply Kd.R_alloc | apply Kd.R_drewN | apply Kd.R_drew)); exact HO_13.out)) k_ hk⟩)); (case aO => exact (by (with_reducible repeat (first | apply Kd.R_alloc | apply Kd.R_drewN | apply Kd.R_drew)); exact HO_10.out)); (case aS => exact (below_size (by repeat (first | (with_reducible first | exact HB.out | apply below_alloc | apply pw_below_drewN | apply below_drew1) | exact HB.out)))); (case aL => have := LMc45.out; omega); intro v318 w47 ho hb hg hat; rw [← Ny317.out] at ho; have n0_ := Aside0.mk (Kd.R_over' (by (with_reducible repeat (first | apply Kd.R_alloc | apply Kd.R_drewN | apply Kd.R_drew)); exact HO_5.out) (Kd.R_typed (by (with_reducible repeat (first | apply Kd.R_alloc | apply Kd.R_drewN | apply Kd.R_drew)); exact HO_10.out)) (by decide) hg); have n1_ := Aside0.mk (Kd.R_after (ok := (fun k_ => some k_ ≠ (.slice (some ad316) t309.length co46 : Value).ownBlock)) (by (with_reducible repeat (first | apply Kd.R_alloc | apply Kd.R_drewN | apply Kd.R_drew)); exact Kd.R_mono HO_8.out (fun _ hk => ⟨hk.2, hk.1⟩)) hg hat); have n2_ := Aside0.mk (Kd.R_after (ok := (fun k_ => some k_ ≠ (.slice (some ad314) t298.length co39 : Value).ownBlock)) (by (with_reducible repeat (first | apply Kd.R_alloc | apply Kd.R_drewN | apply Kd.R_drew)); exact HO_13.out) hg hat); have n3_ := Aside0.mk (hb); have n4_ := Aside0.mk ((show Kd.C k58 w47 A26 y305.length y305 from by rw [Ny305.out, KA26.out]; exact Kd.C_mid (lo := (x12_2 : Int).toNat) (hi := ((wrap64 (x12_2 + 1)) : Int).toNat) (c := co13) ((Kd.R_reads' (Kd.R_over' (by (with_reducible repeat (first | apply Kd.R_alloc | apply Kd.R_drewN | apply Kd.R_drew)); exact HO_5.out) (Kd.R_typed (by (with_reducible repeat (first | apply Kd.R_alloc | apply Kd.R_drewN | apply Kd.R_drew)); exact HO_10.out)) (by decide) hg)).2.2) KM26.out KL26.out ((Kd.R_reads' (Kd.R_over' (by (with_reducible repeat (first | apply Kd.R_alloc | apply Kd.R_drewN | apply Kd.R_drew)); exact HO_5.out) (Kd.R_typed (by (with_reducible repeat (first | apply Kd.R_alloc | apply Kd.R_drewN | apply Kd.R_drew)); exact HO_10.out)) (by decide) hg)).2.1))); have n5_ := Aside0.mk (ho); clear HO_5; clear HO_8; clear HO_13; clear HB; clear HR308; clear HO_10; have HO_5 := n0_; have HO_8 := n1_; have HO_13 := n2_; have HB := n3_; have HR308 := n4_; have HO319 := n5_; clear n0_ n1_ n2_ n3_ n4_ n5_; clear ho hb hg hat)); try go_wp2_with (first | ((with_reducible refine gate_builtin (b := .append) (xs := #[.tmp 81, .tmp 90]) rfl ?_); (try (refine gate_guard (by rfl) ?_; dsimp only)); at_builtin; refine Kd.R_append (Kd.int .i64) (w0 := w) w.heap.size rfl (.tmp 81) (.tmp 90) 33 2 (.int .i64 0) 8 rfl Try.underlying33 info2 rfl (by decide) (by omega) u10 x10_2 (rd t309 ((rd_T58 t291 x12_2).f1)) [.int .i64 (rd t309 ((rd_T58 t291 x12_2).f1))] (fun k_ => some k_ ≠ (.slice (some ad314) t298.length co39 : Value).ownBlock ∧ some k_ ≠ (.slice (some ad316) t309.length co46 : Value).ownBlock) (fun _ => False) rfl rfl ?aP (fun _ hk => hk.elim) ?aF ?aO ?aB ?aS ?aL ?_; (case aP => exact rfl); (case aB => exact (by repeat (first | (with_reducible first | exact HB.out | apply below_alloc | apply pw_below_drewN | apply below_drew1) | exact HB.out))); (case aF => exact (fun k_ hk => ⟨Kd.fresh' (Kd.R_lt (by (with_reducible repeat (first | apply Kd.R_alloc | apply Kd.R_drewN | apply Kd.R_drew)); exact HO_8.out)) k_ hk, Kd.fresh' (Kd.R_lt (by (with_reducible repeat (first | apply Kd.R_alloc | apply Kd.R_drewN | apply Kd.R_drew)); exact HO_13.out)) k_ hk⟩)); (case aO => exact (by (with_reducible repeat (first | apply Kd.R_alloc | apply Kd.R_drewN | apply Kd.R_drew)); exact HO_10.out)); (case aS => exact (below_size (by repeat (first | (with_reducible first | exact HB.out | apply below_alloc | apply pw_below_drewN | apply below_drew1) | exact HB.out)))); (case aL => have := LMc45.out; omega); intro v318 w47 ho hb hg hat; rw [← Ny317.out] at ho; have n0_ := Aside0.mk (Kd.R_over' (by (with_reducible repeat (first | apply Kd.R_alloc | apply Kd.R_drewN | apply Kd.R_drew)); exact HO_5.out) (Kd.R_typed (by (with_reducible repeat (first | apply Kd.R_alloc | apply Kd.R_drewN | apply Kd.R_drew)); exact HO_10.out)) (by decide) hg); have n1_ := Aside0.mk (Kd.R_after (ok := (fun k_ => some k_ ≠ (.slice (some ad316) t309.length co46 : Value).ownBlock)) (by (with_reducible repeat (first | apply Kd.R_alloc | apply Kd.R_drewN | apply Kd.R_drew)); exact Kd.R_mono HO_8.out (fun _ hk => ⟨hk.2, hk.1⟩)) hg hat); have n2_ := Aside0.mk (Kd.R_after (ok := (fun k_ => some k_ ≠ (.slice (some ad314) t298.length co39 : Value).ownBlock)) (by (with_reducible repeat (first | apply Kd.R_alloc | apply Kd.R_drewN | apply Kd.R_drew)); exact HO_13.out) hg hat); have n3_ := Aside0.mk (hb); have n4_ := Aside0.mk ((show Kd.C k58 w47 A26 y305.length y305 from by rw [Ny305.out, KA26.out]; exact Kd.C_mid (lo := (x12_2 : Int).toNat) (hi := ((wrap64 (x12_2 + 1)) : Int).toNat) (c := co13) ((Kd.R_reads' (Kd.R_over' (by (with_reducible repeat (first | apply Kd.R_alloc | apply Kd.R_drewN | apply Kd.R_drew)); exact HO_5.out) (Kd.R_typed (by (with_reducible repeat (first | apply Kd.R_alloc | apply Kd.R_drewN | apply Kd.R_drew)); exact HO_10.out)) (by decide) hg)).2.2) KM26.out KL26.out ((Kd.R_reads' (Kd.R_over' (by (with_reducible repeat (first | apply Kd.R_alloc | apply Kd.R_drewN | apply Kd.R_drew)); exact HO_5.out) (Kd.R_typed (by (with_reducible repeat (first | apply Kd.R_alloc | apply Kd.R_drewN | apply Kd.R_drew)); exact HO_10.out)) (by decide) hg)).2.1))); have n5_ := Aside0.mk (ho); clear HO_5; clear HO_8; clear HO_13; clear HB; clear HR308; clear HO_10; have HO_5 := n0_; have HO_8 := n1_; have HO_13 := n2_; have HB := n3_; have HR308 := n4_; have HO319 := n5_; clear n0_ n1_ n2_ n3_ n4_ n5_; clear ho hb hg hat)))
            go_loopg [15] kj37 (fun kq v15 w' => ∃ (x15_5 : Int), v15 = .int .i64 x15_5 ∧ Aside0 (laws_FnValueNumbers.l1 kq t291 t294 t298 y317 x11_37 x12_2 t309 x15_5 = some r) ∧ Aside0 (kq ≤ kj37) ∧ Aside0 (Kd.R k58 58 w' w.heap.size (fun _ => True) (.slice (some ad315) t291.length co13) t291) ∧ Aside0 (Kd.R (Kd.int .i64) 2 w' w.heap.size (fun k_ => some k_ ≠ (v318 : Value).ownBlock ∧ some k_ ≠ ((.slice (some ad316) t309.length co46) : Value).ownBlock) (.slice (some ad314) t298.length co39) t298) ∧ Aside0 (Kd.R (Kd.int .i64) 2 w' w.heap.size (fun k_ => some k_ ≠ ((.slice (some ad314) t298.length co39) : Value).ownBlock ∧ some k_ ≠ ((.slice (some ad316) t309.length co46) : Value).ownBlock) v318 y317) ∧ Aside0 (Kd.R (Kd.int .i64) 2 w' w.heap.size (fun k_ => some k_ ≠ ((.slice (some ad314) t298.length co39) : Value).ownBlock ∧ some k_ ≠ (v318 : Value).ownBlock) (.slice (some ad316) t309.length co46) t309) ∧ Aside0 (Below w.heap.size w w'))
            case atStart => exact ⟨(0), (by first | rfl | (simp; done) | (simp [*]; done)), H', ⟨Nat.le_refl _⟩, ⟨by (with_reducible repeat (first | apply Kd.R_alloc | apply Kd.R_drewN | apply Kd.R_drew)); exact HO_5.out⟩, ⟨by (with_reducible repeat (first | apply Kd.R_alloc | apply Kd.R_drewN | apply Kd.R_drew)); exact Kd.R_mono HO_8.out (fun _ hk => ⟨hk.2, hk.1⟩)⟩, ⟨by (with_reducible repeat (first | apply Kd.R_alloc | apply Kd.R_drewN | apply Kd.R_drew)); exact HO319.out⟩, ⟨by (with_reducible repeat (first | apply Kd.R_alloc | apply Kd.R_drewN | apply Kd.R_drew)); exact HO_13.out⟩, ⟨by repeat (first | (with_reducible first | exact HB.out | apply below_alloc | apply pw_below_drewN | apply below_drew1) | exact HB.out)⟩⟩
            case round =>
             clear H'
             try clear c1
             try clear c2
             try clear p2
             try clear q2
             try clear c3
             try clear p3
             try clear q3
             try clear hx3
             try clear c4
             try clear p6
             try clear c15
             try clear c16
             try clear c17
             try clear c20
             try clear c20b0
             try clear c21
             try clear c21b0
             try clear c21b1
             try clear c22
             try clear c22b0
             try clear c22b1
             try clear c23
             try clear c23b0
             try clear c23b1
             try clear c26
             try clear q26
             try clear c29
             try clear c30
             try clear c30b0
             try clear c30b1
             try clear c31
             try clear c31b0
             try clear p31
             try clear q31
             try clear hx31
             try clear c35
             try clear c36
             try clear c36b0
             try clear c37
             try clear c37b0
             try clear c40
             try clear c40b0
             try clear c40b1
             try clear c41
             try clear c41b0
             try clear c42
             try clear c42b0
             try clear c43
             try clear c43b0
             try clear c44
             try clear c44b0
             try clear c45
             try clear hx313_0
             try clear hx314_0
             try clear hx315_0
             try clear hx315_1
             try clear hx315_2
             try clear hx315_3
             try clear hx316_0
             try clear p2
             try clear p3
             try clear p31
             try clear p313
             try clear p314
             try clear p315
             try clear p316
             try clear p6
             try clear q026
             try clear q2
             try clear q26
             try clear q3
             try clear q31
             try clear q313
             try clear q314
             try clear q315
             try clear q316
             obtain ⟨x15_5, rfl, HA, HK5, HO_5, HO_8, HO_10, HO_13, HB⟩ := hrel
             cases gk with
             | zero => exact absurd HA.out (by simp [laws_FnValueNumbers.l1])
             | succ k5 =>
              have H := HA.out
              clear HA
              simp only [laws_FnValueNumbers.l1] at H
              by_cases c48 : x15_5 < x12_2
              rotate_left
              ·rw [if_neg c48] at H
               have c48b0 : decide (x15_5 < x12_2) = false := decide_eq_false c48
               clear c48
               have H' := Aside0.mk H
               clear H
               go_wp2
               repeat (go_quiet (fail); try go_wp2)
               go_roundg k5
               case measure => have := HJ8.out; have := HK2.out; have := HJ24.out; have := HJ37.out; have := HK5.out; omega
               case rel => exact ⟨(t309), (y317), (x11_37), (wrap64 (x12_2 + 1)), (by first | rfl | (simp; done) | (simp [*]; done)), (by first | rfl | (simp; done) | (simp [*]; done)), H', ⟨by have := HJ8.out; have := HK2.out; have := HJ24.out; have := HJ37.out; have := HK5.out; omega⟩, ⟨by (with_reducible repeat (first | apply Kd.R_alloc | apply Kd.R_drewN | apply Kd.R_drew)); exact HO_5.out⟩, ⟨by (with_reducible repeat (first | apply Kd.R_alloc | apply Kd.R_drewN | apply Kd.R_drew)); exact HO_13.out⟩, ⟨by (with_reducible repeat (first | apply Kd.R_alloc | apply Kd.R_drewN | apply Kd.R_drew)); exact Kd.R_mono HO_8.out (fun _ hk => ⟨hk.2, hk.1⟩)⟩, ⟨by (with_reducible repeat (first | apply Kd.R_alloc | apply Kd.R_drewN | apply Kd.R_drew)); exact Kd.R_mono HO_10.out (fun _ hk => ⟨hk.2, hk.1⟩)⟩, ⟨by repeat (first | (with_reducible first | exact HB.out | apply below_alloc | apply pw_below_drewN | apply below_drew1) | exact HB.out)⟩⟩
              rw [if_pos c48] at H
              have c48b0 : decide (x15_5 < x12_2) = true := decide_eq_true c48
              clear c48
              by_cases c49 : 0 ≤ x15_5
              rotate_left
              ·rw [if_neg c49] at H
               exact absurd H (by simp)
              rw [if_pos c49] at H
              have c49b0 : decide (0 ≤ x15_5) = true := decide_eq_true c49
              clear c49
              by_cases c50 : x15_5 < (t298.length : Int)
              rotate_left
              ·rw [if_neg c50] at H
               exact absurd H (by simp)
              rw [if_pos c50] at H
              have c50b0 : decide (x15_5 < (t298.length : Int)) = true := decide_eq_true c50
              clear c50
              by_cases c51 : 0 ≤ x12_2
              rotate_left
              ·rw [if_neg c51] at H
               exact absurd H (by simp)
              rw [if_pos c51] at H
              have c51b0 : decide (0 ≤ x12_2) = true := decide_eq_true c51
              clear c51
              by_cases c52 : x12_2 < (t298.length : Int)
              rotate_left
              ·rw [if_neg c52] at H
               exact absurd H (by simp)
              rw [if_pos c52] at H
              have c52b0 : decide (x12_2 < (t298.length : Int)) = true := decide_eq_true c52
              clear c52
              by_cases c53 : (rd t298 x15_5) = (rd t298 x12_2)
              ·rw [if_pos c53] at H
               have c53b0 : ((rd t298 x15_5) == (rd t298 x12_2)) = true := beq_iff_eq.mpr c53
               have c53b1 : ((rd t298 x15_5) != (rd t298 x12_2)) = false := bne_eq_false_iff_eq.mpr c53
               clear c53
               by_cases c54 : x15_5 < (y317.length : Int)
               rotate_left
               ·rw [if_neg c54] at H
                exact absurd H (by simp)
               rw [if_pos c54] at H
               have c54b0 : decide (x15_5 < (y317.length : Int)) = true := decide_eq_true c54
               clear c54
               by_cases c55 : x12_2 < (y317.length : Int)
               rotate_left
               ·rw [if_neg c55] at H
                exact absurd H (by simp)
               rw [if_pos c55] at H
               have c55b0 : decide (x12_2 < (y317.length : Int)) = true := decide_eq_true c55
               clear c55
               by_cases c56 : (rd y317 x15_5) = (rd y317 x12_2)
               rotate_left
               ·rw [if_neg c56] at H
                have c56b0 : ((rd y317 x15_5) == (rd y317 x12_2)) = false := beq_eq_false_iff_ne.mpr c56
                have c56b1 : ((rd y317 x15_5) != (rd y317 x12_2)) = true := bne_iff_ne.mpr c56
                obtain rfl := Option.some.inj H
                exact absurd HRT.out (by decide)
               rw [if_pos c56] at H
               have c56b0 : ((rd y317 x15_5) == (rd y317 x12_2)) = true := beq_iff_eq.mpr c56
               have c56b1 : ((rd y317 x15_5) != (rd y317 x12_2)) = false := bne_eq_false_iff_eq.mpr c56
               clear c56
               have H' := Aside0.mk H
               clear H
               have p320 : 0 ≤ (x15_5 : Int) := of_decide_eq_true (by first | (with_reducible assumption) | assumption)
               have q320 : x15_5 < (t298.length : Int) := of_decide_eq_true (by first | (with_reducible assumption) | assumption)
               obtain ⟨ad320, e320, hx320_0⟩ := Kd.at_int (Kd.R_reads' HO_8.out).2.2 x15_5 p320 q320
               obtain rfl : ad314 = ad320 := (by injection e320)
               replace p320 := eq_true p320
               replace q320 := eq_true q320
               have p321 : 0 ≤ (x12_2 : Int) := of_decide_eq_true (by first | (with_reducible assumption) | assumption)
               have q321 : x12_2 < (t298.length : Int) := of_decide_eq_true (by first | (with_reducible assumption) | assumption)
               obtain ⟨ad321, e321, hx321_0⟩ := Kd.at_int (Kd.R_reads' HO_8.out).2.2 x12_2 p321 q321
               obtain rfl : ad314 = ad321 := (by injection e321)
               replace p321 := eq_true p321
               replace q321 := eq_true q321
               obtain ⟨Ao57, co57, eo57⟩ := Kd.R_slice HO_10.out
               subst eo57
               have p322 : 0 ≤ (x15_5 : Int) := of_decide_eq_true (by first | (with_reducible assumption) | assumption)
               have q322 : x15_5 < (y317.length : Int) := of_decide_eq_true (by first | (with_reducible assumption) | assumption)
               obtain ⟨ad322, e322, hx322_0⟩ := Kd.at_int (Kd.R_reads' HO_10.out).2.2 x15_5 p322 q322
               cases e322
               replace p322 := eq_true p322
               replace q322 := eq_true q322
               have p323 : 0 ≤ (x12_2 : Int) := of_decide_eq_true (by first | (with_reducible assumption) | assumption)
               have q323 : x12_2 < (y317.length : Int) := of_decide_eq_true (by first | (with_reducible assumption) | assumption)
               obtain ⟨ad323, e323, hx323_0⟩ := Kd.at_int (Kd.R_reads' HO_10.out).2.2 x12_2 p323 q323
               obtain rfl : ad322 = ad323 := (by injection e323)
               replace p323 := eq_true p323
               replace q323 := eq_true q323
               have p324 : 0 ≤ (x15_5 : Int) := of_decide_eq_true (by first | (with_reducible assumption) | assumption)
               have q324 : x15_5 < (t298.length : Int) := of_decide_eq_true (by first | (with_reducible assumption) | assumption)
               obtain ⟨ad324, e324, hx324_0⟩ := Kd.at_int (Kd.R_reads' HO_8.out).2.2 x15_5 p324 q324
               obtain rfl : ad314 = ad324 := (by injection e324)
               replace p324 := eq_true p324
               replace q324 := eq_true q324
               have p325 : 0 ≤ (x12_2 : Int) := of_decide_eq_true (by first | (with_reducible assumption) | assumption)
               have q325 : x12_2 < (t298.length : Int) := of_decide_eq_true (by first | (with_reducible assumption) | assumption)
               obtain ⟨ad325, e325, hx325_0⟩ := Kd.at_int (Kd.R_reads' HO_8.out).2.2 x12_2 p325 q325
               obtain rfl : ad314 = ad325 := (by injection e325)
               replace p325 := eq_true p325
               replace q325 := eq_true q325
               go_wp2
               repeat (go_quiet (fail); try go_wp2)
               go_roundg k5
               case measure => have := HJ8.out; have := HK2.out; have := HJ24.out; have := HJ37.out; have := HK5.out; omega
               case rel => exact ⟨(wrap64 (x15_5 + 1)), (by first | rfl | (simp; done) | (simp [*]; done)), H', ⟨by have := HJ8.out; have := HK2.out; have := HJ24.out; have := HJ37.out; have := HK5.out; omega⟩, ⟨by (with_reducible repeat (first | apply Kd.R_alloc | apply Kd.R_drewN | apply Kd.R_drew)); exact HO_5.out⟩, ⟨by (with_reducible repeat (first | apply Kd.R_alloc | apply Kd.R_drewN | apply Kd.R_drew)); exact HO_8.out⟩, ⟨by (with_reducible repeat (first | apply Kd.R_alloc | apply Kd.R_drewN | apply Kd.R_drew)); exact HO_10.out⟩, ⟨by (with_reducible repeat (first | apply Kd.R_alloc | apply Kd.R_drewN | apply Kd.R_drew)); exact HO_13.out⟩, ⟨by repeat (first | (with_reducible first | exact HB.out | apply below_alloc | apply pw_below_drewN | apply below_drew1) | exact HB.out)⟩⟩
              ·rw [if_neg c53] at H
               have c53b0 : ((rd t298 x15_5) == (rd t298 x12_2)) = false := beq_eq_false_iff_ne.mpr c53
               have c53b1 : ((rd t298 x15_5) != (rd t298 x12_2)) = true := bne_iff_ne.mpr c53
               by_cases c58 : x15_5 < (t291.length : Int)
               rotate_left
               ·rw [if_neg c58] at H
                exact absurd H (by simp)
               rw [if_pos c58] at H
               have c58b0 : decide (x15_5 < (t291.length : Int)) = true := decide_eq_true c58
               clear c58
               by_cases c59 : x12_2 < (t291.length : Int)
               rotate_left
               ·rw [if_neg c59] at H
                exact absurd H (by simp)
               rw [if_pos c59] at H
               have c59b0 : decide (x12_2 < (t291.length : Int)) = true := decide_eq_true c59
               clear c59
               by_cases c60 : (((rd_T58 t291 x15_5).f0) == ((rd_T58 t291 x12_2).f0) && (((rd_T58 t291 x15_5).f1) == ((rd_T58 t291 x12_2).f1) && (((rd_T58 t291 x15_5).f2) == ((rd_T58 t291 x12_2).f2) && (((rd_T58 t291 x15_5).f3) == ((rd_T58 t291 x12_2).f3))))) = true
               ·rw [if_pos c60] at H
                have c60b0 : (((rd_T58 t291 x15_5).f0) == ((rd_T58 t291 x12_2).f0) && (((rd_T58 t291 x15_5).f1) == ((rd_T58 t291 x12_2).f1) && (((rd_T58 t291 x15_5).f2) == ((rd_T58 t291 x12_2).f2) && (((rd_T58 t291 x15_5).f3) == ((rd_T58 t291 x12_2).f3))))) = true := c60
                (try (have c60b1 : decide (((rd_T58 t291 x15_5).f0) = ((rd_T58 t291 x12_2).f0) && (((rd_T58 t291 x15_5).f1) == ((rd_T58 t291 x12_2).f1) && (((rd_T58 t291 x15_5).f2) == ((rd_T58 t291 x12_2).f2) && (((rd_T58 t291 x15_5).f3) == ((rd_T58 t291 x12_2).f3))))) = true := by simpa using c60))
                (try (have c60b2 : (((rd_T58 t291 x15_5).f0) == ((rd_T58 t291 x12_2).f0) && (((rd_T58 t291 x15_5).f1) == ((rd_T58 t291 x12_2).f1) && (((rd_T58 t291 x15_5).f2) == ((rd_T58 t291 x12_2).f2) && (((rd_T58 t291 x15_5).f3) == ((rd_T58 t291 x12_2).f3))))) = true := by simpa using c60))
                clear c60
                by_cases c61 : x15_5 = (wrap64 (x12_2 - 1))
                ·rw [if_pos c61] at H
                 have c61b0 : (x15_5 == (wrap64 (x12_2 - 1))) = true := beq_iff_eq.mpr c61
                 have c61b1 : (x15_5 != (wrap64 (x12_2 - 1))) = false := bne_eq_false_iff_eq.mpr c61
                 clear c61
                 by_cases c62 : ((rd_T58 t291 x15_5).f1) = ((rd_T58 t291 x15_5).f2)
                 ·rw [if_pos c62] at H
                  have c62b0 : (((rd_T58 t291 x15_5).f1) == ((rd_T58 t291 x15_5).f2)) = true := beq_iff_eq.mpr c62
                  have c62b1 : (((rd_T58 t291 x15_5).f1) != ((rd_T58 t291 x15_5).f2)) = false := bne_eq_false_iff_eq.mpr c62
                  clear c62
                  have H' := Aside0.mk H
                  clear H
                  have p320 : 0 ≤ (x15_5 : Int) := of_decide_eq_true (by first | (with_reducible assumption) | assumption)
                  have q320 : x15_5 < (t298.length : Int) := of_decide_eq_true (by first | (with_reducible assumption) | assumption)
                  obtain ⟨ad320, e320, hx320_0⟩ := Kd.at_int (Kd.R_reads' HO_8.out).2.2 x15_5 p320 q320
                  obtain rfl : ad314 = ad320 := (by injection e320)
                  replace p320 := eq_true p320
                  replace q320 := eq_true q320
                  have p321 : 0 ≤ (x12_2 : Int) := of_decide_eq_true (by first | (with_reducible assumption) | assumption)
                  have q321 : x12_2 < (t298.length : Int) := of_decide_eq_true (by first | (with_reducible assumption) | assumption)
                  obtain ⟨ad321, e321, hx321_0⟩ := Kd.at_int (Kd.R_reads' HO_8.out).2.2 x12_2 p321 q321
                  obtain rfl : ad314 = ad321 := (by injection e321)
                  replace p321 := eq_true p321
                  replace q321 := eq_true q321
                  have p326 : 0 ≤ (x15_5 : Int) := of_decide_eq_true (by first | (with_reducible assumption) | assumption)
                  have q326 : x15_5 < (t298.length : Int) := of_decide_eq_true (by first | (with_reducible assumption) | assumption)
                  obtain ⟨ad326, e326, hx326_0⟩ := Kd.at_int (Kd.R_reads' HO_8.out).2.2 x15_5 p326 q326
                  obtain rfl : ad314 = ad326 := (by injection e326)
                  replace p326 := eq_true p326
                  replace q326 := eq_true q326
                  have p327 : 0 ≤ (x12_2 : Int) := of_decide_eq_true (by first | (with_reducible assumption) | assumption)
                  have q327 : x12_2 < (t298.length : Int) := of_decide_eq_true (by first | (with_reducible assumption) | assumption)
                  obtain ⟨ad327, e327, hx327_0⟩ := Kd.at_int (Kd.R_reads' HO_8.out).2.2 x12_2 p327 q327
                  obtain rfl : ad314 = ad327 := (by injection e327)
                  replace p327 := eq_true p327
                  replace q327 := eq_true q327
                  have p328 : 0 ≤ (x15_5 : Int) := of_decide_eq_true (by first | (with_reducible assumption) | assumption)
                  have q328 : x15_5 < (t291.length : Int) := of_decide_eq_true (by first | (with_reducible assumption) | assumption)
                  obtain ⟨ad328, e328, hx328_0, hx328_1, hx328_2, hx328_3⟩ := at_T58 (Kd.R_reads' HO_5.out).2.2 x15_5 p328 q328
                  obtain rfl : ad315 = ad328 := (by injection e328)
                  replace p328 := eq_true p328
                  replace q328 := eq_true q328
                  have p329 : 0 ≤ (x12_2 : Int) := of_decide_eq_true (by first | (with_reducible assumption) | assumption)
                  have q329 : x12_2 < (t291.length : Int) := of_decide_eq_true (by first | (with_reducible assumption) | assumption)
                  obtain ⟨ad329, e329, hx329_0, hx329_1, hx329_2, hx329_3⟩ := at_T58 (Kd.R_reads' HO_5.out).2.2 x12_2 p329 q329
                  obtain rfl : ad315 = ad329 := (by injection e329)
                  replace p329 := eq_true p329
                  replace q329 := eq_true q329
                  have p330 : 0 ≤ (x15_5 : Int) := of_decide_eq_true (by first | (with_reducible assumption) | assumption)
                  have q330 : x15_5 < (t291.length : Int) := of_decide_eq_true (by first | (with_reducible assumption) | assumption)
                  obtain ⟨ad330, e330, hx330_0, hx330_1, hx330_2, hx330_3⟩ := at_T58 (Kd.R_reads' HO_5.out).2.2 x15_5 p330 q330
                  obtain rfl : ad315 = ad330 := (by injection e330)
                  replace p330 := eq_true p330
                  replace q330 := eq_true q330
                  have p331 : 0 ≤ (x15_5 : Int) := of_decide_eq_true (by first | (with_reducible assumption) | assumption)
                  have q331 : x15_5 < (t291.length : Int) := of_decide_eq_true (by first | (with_reducible assumption) | assumption)
                  obtain ⟨ad331, e331, hx331_0, hx331_1, hx331_2, hx331_3⟩ := at_T58 (Kd.R_reads' HO_5.out).2.2 x15_5 p331 q331
                  obtain rfl : ad315 = ad331 := (by injection e331)
                  replace p331 := eq_true p331
                  replace q331 := eq_true q331
                  go_wp2
                  repeat (go_quiet (fail); try go_wp2)
                  go_roundg k5
                  case measure => have := HJ8.out; have := HK2.out; have := HJ24.out; have := HJ37.out; have := HK5.out; omega
                  case rel => exact ⟨(wrap64 (x15_5 + 1)), (by first | rfl | (simp; done) | (simp [*]; done)), H', ⟨by have := HJ8.out; have := HK2.out; have := HJ24.out; have := HJ37.out; have := HK5.out; omega⟩, ⟨by (with_reducible repeat (first | apply Kd.R_alloc | apply Kd.R_drewN | apply Kd.R_drew)); exact HO_5.out⟩, ⟨by (with_reducible repeat (first | apply Kd.R_alloc | apply Kd.R_drewN | apply Kd.R_drew)); exact HO_8.out⟩, ⟨by (with_reducible repeat (first | apply Kd.R_alloc | apply Kd.R_drewN | apply Kd.R_drew)); exact HO_10.out⟩, ⟨by (with_reducible repeat (first | apply Kd.R_alloc | apply Kd.R_drewN | apply Kd.R_drew)); exact HO_13.out⟩, ⟨by repeat (first | (with_reducible first | exact HB.out | apply below_alloc | apply pw_below_drewN | apply below_drew1) | exact HB.out)⟩⟩
                 ·rw [if_neg c62] at H
                  have c62b0 : (((rd_T58 t291 x15_5).f1) == ((rd_T58 t291 x15_5).f2)) = false := beq_eq_false_iff_ne.mpr c62
                  have c62b1 : (((rd_T58 t291 x15_5).f1) != ((rd_T58 t291 x15_5).f2)) = true := bne_iff_ne.mpr c62
                  by_cases c63 : ((rd_T58 t291 x15_5).f1) = ((rd_T58 t291 x15_5).f3)
                  rotate_left
                  ·rw [if_neg c63] at H
                   have c63b0 : (((rd_T58 t291 x15_5).f1) == ((rd_T58 t291 x15_5).f3)) = false := beq_eq_false_iff_ne.mpr c63
                   have c63b1 : (((rd_T58 t291 x15_5).f1) != ((rd_T58 t291 x15_5).f3)) = true := bne_iff_ne.mpr c63
                   obtain rfl := Option.some.inj H
                   exact absurd HRT.out (by decide)
                  rw [if_pos c63] at H
                  have c63b0 : (((rd_T58 t291 x15_5).f1) == ((rd_T58 t291 x15_5).f3)) = true := beq_iff_eq.mpr c63
                  have c63b1 : (((rd_T58 t291 x15_5).f1) != ((rd_T58 t291 x15_5).f3)) = false := bne_eq_false_iff_eq.mpr c63
                  clear c63
                  have H' := Aside0.mk H
                  clear H
                  have p320 : 0 ≤ (x15_5 : Int) := of_decide_eq_true (by first | (with_reducible assumption) | assumption)
                  have q320 : x15_5 < (t298.length : Int) := of_decide_eq_true (by first | (with_reducible assumption) | assumption)
                  obtain ⟨ad320, e320, hx320_0⟩ := Kd.at_int (Kd.R_reads' HO_8.out).2.2 x15_5 p320 q320
                  obtain rfl : ad314 = ad320 := (by injection e320)
                  replace p320 := eq_true p320
                  replace q320 := eq_true q320
                  have p321 : 0 ≤ (x12_2 : Int) := of_decide_eq_true (by first | (with_reducible assumption) | assumption)
                  have q321 : x12_2 < (t298.length : Int) := of_decide_eq_true (by first | (with_reducible assumption) | assumption)
                  obtain ⟨ad321, e321, hx321_0⟩ := Kd.at_int (Kd.R_reads' HO_8.out).2.2 x12_2 p321 q321
                  obtain rfl : ad314 = ad321 := (by injection e321)
                  replace p321 := eq_true p321
                  replace q321 := eq_true q321
                  have p326 : 0 ≤ (x15_5 : Int) := of_decide_eq_true (by first | (with_reducible assumption) | assumption)
                  have q326 : x15_5 < (t298.length : Int) := of_decide_eq_true (by first | (with_reducible assumption) | assumption)
                  obtain ⟨ad326, e326, hx326_0⟩ := Kd.at_int (Kd.R_reads' HO_8.out).2.2 x15_5 p326 q326
                  obtain rfl : ad314 = ad326 := (by injection e326)
                  replace p326 := eq_true p326
                  replace q326 := eq_true q326
                  have p327 : 0 ≤ (x12_2 : Int) := of_decide_eq_true (by first | (with_reducible assumption) | assumption)
                  have q327 : x12_2 < (t298.length : Int) := of_decide_eq_true (by first | (with_reducible assumption) | assumption)
                  obtain ⟨ad327, e327, hx327_0⟩ := Kd.at_int (Kd.R_reads' HO_8.out).2.2 x12_2 p327 q327
                  obtain rfl : ad314 = ad327 := (by injection e327)
                  replace p327 := eq_true p327
                  replace q327 := eq_true q327
                  have p328 : 0 ≤ (x15_5 : Int) := of_decide_eq_true (by first | (with_reducible assumption) | assumption)
                  have q328 : x15_5 < (t291.length : Int) := of_decide_eq_true (by first | (with_reducible assumption) | assumption)
                  obtain ⟨ad328, e328, hx328_0, hx328_1, hx328_2, hx328_3⟩ := at_T58 (Kd.R_reads' HO_5.out).2.2 x15_5 p328 q328
                  obtain rfl : ad315 = ad328 := (by injection e328)
                  replace p328 := eq_true p328
                  replace q328 := eq_true q328
                  have p329 : 0 ≤ (x12_2 : Int) := of_decide_eq_true (by first | (with_reducible assumption) | assumption)
                  have q329 : x12_2 < (t291.length : Int) := of_decide_eq_true (by first | (with_reducible assumption) | assumption)
                  obtain ⟨ad329, e329, hx329_0, hx329_1, hx329_2, hx329_3⟩ := at_T58 (Kd.R_reads' HO_5.out).2.2 x12_2 p329 q329
                  obtain rfl : ad315 = ad329 := (by injection e329)
                  replace p329 := eq_true p329
                  replace q329 := eq_true q329
                  have p330 : 0 ≤ (x15_5 : Int) := of_decide_eq_true (by first | (with_reducible assumption) | assumption)
                  have q330 : x15_5 < (t291.length : Int) := of_decide_eq_true (by first | (with_reducible assumption) | assumption)
                  obtain ⟨ad330, e330, hx330_0, hx330_1, hx330_2, hx330_3⟩ := at_T58 (Kd.R_reads' HO_5.out).2.2 x15_5 p330 q330
                  obtain rfl : ad315 = ad330 := (by injection e330)
                  replace p330 := eq_true p330
                  replace q330 := eq_true q330
                  have p331 : 0 ≤ (x15_5 : Int) := of_decide_eq_true (by first | (with_reducible assumption) | assumption)
                  have q331 : x15_5 < (t291.length : Int) := of_decide_eq_true (by first | (with_reducible assumption) | assumption)
                  obtain ⟨ad331, e331, hx331_0, hx331_1, hx331_2, hx331_3⟩ := at_T58 (Kd.R_reads' HO_5.out).2.2 x15_5 p331 q331
                  obtain rfl : ad315 = ad331 := (by injection e331)
                  replace p331 := eq_true p331
                  replace q331 := eq_true q331
                  have p332 : 0 ≤ (x15_5 : Int) := of_decide_eq_true (by first | (with_reducible assumption) | assumption)
                  have q332 : x15_5 < (t291.length : Int) := of_decide_eq_true (by first | (with_reducible assumption) | assumption)
                  obtain ⟨ad332, e332, hx332_0, hx332_1, hx332_2, hx332_3⟩ := at_T58 (Kd.R_reads' HO_5.out).2.2 x15_5 p332 q332
                  obtain rfl : ad315 = ad332 := (by injection e332)
                  replace p332 := eq_true p332
                  replace q332 := eq_true q332
                  have p333 : 0 ≤ (x15_5 : Int) := of_decide_eq_true (by first | (with_reducible assumption) | assumption)
                  have q333 : x15_5 < (t291.length : Int) := of_decide_eq_true (by first | (with_reducible assumption) | assumption)
                  obtain ⟨ad333, e333, hx333_0, hx333_1, hx333_2, hx333_3⟩ := at_T58 (Kd.R_reads' HO_5.out).2.2 x15_5 p333 q333
                  obtain rfl : ad315 = ad333 := (by injection e333)
                  replace p333 := eq_true p333
                  replace q333 := eq_true q333
                  go_wp2
                  repeat (go_quiet (fail); try go_wp2)
                  go_roundg k5
                  case measure => have := HJ8.out; have := HK2.out; have := HJ24.out; have := HJ37.out; have := HK5.out; omega
                  case rel => exact ⟨(wrap64 (x15_5 + 1)), (by first | rfl | (simp; done) | (simp [*]; done)), H', ⟨by have := HJ8.out; have := HK2.out; have := HJ24.out; have := HJ37.out; have := HK5.out; omega⟩, ⟨by (with_reducible repeat (first | apply Kd.R_alloc | apply Kd.R_drewN | apply Kd.R_drew)); exact HO_5.out⟩, ⟨by (with_reducible repeat (first | apply Kd.R_alloc | apply Kd.R_drewN | apply Kd.R_drew)); exact HO_8.out⟩, ⟨by (with_reducible repeat (first | apply Kd.R_alloc | apply Kd.R_drewN | apply Kd.R_drew)); exact HO_10.out⟩, ⟨by (with_reducible repeat (first | apply Kd.R_alloc | apply Kd.R_drewN | apply Kd.R_drew)); exact HO_13.out⟩, ⟨by repeat (first | (with_reducible first | exact HB.out | apply below_alloc | apply pw_below_drewN | apply below_drew1) | exact HB.out)⟩⟩
                ·rw [if_neg c61] at H
                 have c61b0 : (x15_5 == (wrap64 (x12_2 - 1))) = false := beq_eq_false_iff_ne.mpr c61
                 have c61b1 : (x15_5 != (wrap64 (x12_2 - 1))) = true := bne_iff_ne.mpr c61
                 have H' := Aside0.mk H
                 clear H
                 have p320 : 0 ≤ (x15_5 : Int) := of_decide_eq_true (by first | (with_reducible assumption) | assumption)
                 have q320 : x15_5 < (t298.length : Int) := of_decide_eq_true (by first | (with_reducible assumption) | assumption)
                 obtain ⟨ad320, e320, hx320_0⟩ := Kd.at_int (Kd.R_reads' HO_8.out).2.2 x15_5 p320 q320
                 obtain rfl : ad314 = ad320 := (by injection e320)
                 replace p320 := eq_true p320
                 replace q320 := eq_true q320
                 have p321 : 0 ≤ (x12_2 : Int) := of_decide_eq_true (by first | (with_reducible assumption) | assumption)
                 have q321 : x12_2 < (t298.length : Int) := of_decide_eq_true (by first | (with_reducible assumption) | assumption)
                 obtain ⟨ad321, e321, hx321_0⟩ := Kd.at_int (Kd.R_reads' HO_8.out).2.2 x12_2 p321 q321
                 obtain rfl : ad314 = ad321 := (by injection e321)
                 replace p321 := eq_true p321
                 replace q321 := eq_true q321
                 have p326 : 0 ≤ (x15_5 : Int) := of_decide_eq_true (by first | (with_reducible assumption) | assumption)
                 have q326 : x15_5 < (t298.length : Int) := of_decide_eq_true (by first | (with_reducible assumption) | assumption)
                 obtain ⟨ad326, e326, hx326_0⟩ := Kd.at_int (Kd.R_reads' HO_8.out).2.2 x15_5 p326 q326
                 obtain rfl : ad314 = ad326 := (by injection e326)
                 replace p326 := eq_true p326
                 replace q326 := eq_true q326
                 have p327 : 0 ≤ (x12_2 : Int) := of_decide_eq_true (by first | (with_reducible assumption) | assumption)
                 have q327 : x12_2 < (t298.length : Int) := of_decide_eq_true (by first | (with_reducible assumption) | assumption)
                 obtain ⟨ad327, e327, hx327_0⟩ := Kd.at_int (Kd.R_reads' HO_8.out).2.2 x12_2 p327 q327
                 obtain rfl : ad314 = ad327 := (by injection e327)
                 replace p327 := eq_true p327
                 replace q327 := eq_true q327
                 have p328 : 0 ≤ (x15_5 : Int) := of_decide_eq_true (by first | (with_reducible assumption) | assumption)
                 have q328 : x15_5 < (t291.length : Int) := of_decide_eq_true (by first | (with_reducible assumption) | assumption)
                 obtain ⟨ad328, e328, hx328_0, hx328_1, hx328_2, hx328_3⟩ := at_T58 (Kd.R_reads' HO_5.out).2.2 x15_5 p328 q328
                 obtain rfl : ad315 = ad328 := (by injection e328)
                 replace p328 := eq_true p328
                 replace q328 := eq_true q328
                 have p329 : 0 ≤ (x12_2 : Int) := of_decide_eq_true (by first | (with_reducible assumption) | assumption)
                 have q329 : x12_2 < (t291.length : Int) := of_decide_eq_true (by first | (with_reducible assumption) | assumption)
                 obtain ⟨ad329, e329, hx329_0, hx329_1, hx329_2, hx329_3⟩ := at_T58 (Kd.R_reads' HO_5.out).2.2 x12_2 p329 q329
                 obtain rfl : ad315 = ad329 := (by injection e329)
                 replace p329 := eq_true p329
                 replace q329 := eq_true q329
                 go_wp2
                 repeat (go_quiet (fail); try go_wp2)
                 go_roundg k5
                 case measure => have := HJ8.out; have := HK2.out; have := HJ24.out; have := HJ37.out; have := HK5.out; omega
                 case rel => exact ⟨(wrap64 (x15_5 + 1)), (by first | rfl | (simp; done) | (simp [*]; done)), H', ⟨by have := HJ8.out; have := HK2.out; have := HJ24.out; have := HJ37.out; have := HK5.out; omega⟩, ⟨by (with_reducible repeat (first | apply Kd.R_alloc | apply Kd.R_drewN | apply Kd.R_drew)); exact HO_5.out⟩, ⟨by (with_reducible repeat (first | apply Kd.R_alloc | apply Kd.R_drewN | apply Kd.R_drew)); exact HO_8.out⟩, ⟨by (with_reducible repeat (first | apply Kd.R_alloc | apply Kd.R_drewN | apply Kd.R_drew)); exact HO_10.out⟩, ⟨by (with_reducible repeat (first | apply Kd.R_alloc | apply Kd.R_drewN | apply Kd.R_drew)); exact HO_13.out⟩, ⟨by repeat (first | (with_reducible first | exact HB.out | apply below_alloc | apply pw_below_drewN | apply below_drew1) | exact HB.out)⟩⟩
               ·rw [if_neg c60] at H
                have c60b0 : (((rd_T58 t291 x15_5).f0) == ((rd_T58 t291 x12_2).f0) && (((rd_T58 t291 x15_5).f1) == ((rd_T58 t291 x12_2).f1) && (((rd_T58 t291 x15_5).f2) == ((rd_T58 t291 x12_2).f2) && (((rd_T58 t291 x15_5).f3) == ((rd_T58 t291 x12_2).f3))))) = false := by simpa using c60
                (try (have c60b1 : decide (((rd_T58 t291 x15_5).f0) = ((rd_T58 t291 x12_2).f0) && (((rd_T58 t291 x15_5).f1) == ((rd_T58 t291 x12_2).f1) && (((rd_T58 t291 x15_5).f2) == ((rd_T58 t291 x12_2).f2) && (((rd_T58 t291 x15_5).f3) == ((rd_T58 t291 x12_2).f3))))) = false := by simpa using c60))
                (try (have c60b2 : (((rd_T58 t291 x15_5).f0) == ((rd_T58 t291 x12_2).f0) && (((rd_T58 t291 x15_5).f1) == ((rd_T58 t291 x12_2).f1) && (((rd_T58 t291 x15_5).f2) == ((rd_T58 t291 x12_2).f2) && (((rd_T58 t291 x15_5).f3) == ((rd_T58 t291 x12_2).f3))))) = false := by simpa using c60))
                (try (have c60b3 : ¬ (((rd_T58 t291 x15_5).f0) = ((rd_T58 t291 x12_2).f0) && (((rd_T58 t291 x15_5).f1) == ((rd_T58 t291 x12_2).f1) && (((rd_T58 t291 x15_5).f2) == ((rd_T58 t291 x12_2).f2) && (((rd_T58 t291 x15_5).f3) == ((rd_T58 t291 x12_2).f3))))) := by simpa using c60))
                clear c60
                have H' := Aside0.mk H
                clear H
                have p320 : 0 ≤ (x15_5 : Int) := of_decide_eq_true (by first | (with_reducible assumption) | assumption)
                have q320 : x15_5 < (t298.length : Int) := of_decide_eq_true (by first | (with_reducible assumption) | assumption)
                obtain ⟨ad320, e320, hx320_0⟩ := Kd.at_int (Kd.R_reads' HO_8.out).2.2 x15_5 p320 q320
                obtain rfl : ad314 = ad320 := (by injection e320)
                replace p320 := eq_true p320
                replace q320 := eq_true q320
                have p321 : 0 ≤ (x12_2 : Int) := of_decide_eq_true (by first | (with_reducible assumption) | assumption)
                have q321 : x12_2 < (t298.length : Int) := of_decide_eq_true (by first | (with_reducible assumption) | assumption)
                obtain ⟨ad321, e321, hx321_0⟩ := Kd.at_int (Kd.R_reads' HO_8.out).2.2 x12_2 p321 q321
                obtain rfl : ad314 = ad321 := (by injection e321)
                replace p321 := eq_true p321
                replace q321 := eq_true q321
                have p326 : 0 ≤ (x15_5 : Int) := of_decide_eq_true (by first | (with_reducible assumption) | assumption)
                have q326 : x15_5 < (t298.length : Int) := of_decide_eq_true (by first | (with_reducible assumption) | assumption)
                obtain ⟨ad326, e326, hx326_0⟩ := Kd.at_int (Kd.R_reads' HO_8.out).2.2 x15_5 p326 q326
                obtain rfl : ad314 = ad326 := (by injection e326)
                replace p326 := eq_true p326
                replace q326 := eq_true q326
                have p327 : 0 ≤ (x12_2 : Int) := of_decide_eq_true (by first | (with_reducible assumption) | assumption)
                have q327 : x12_2 < (t298.length : Int) := of_decide_eq_true (by first | (with_reducible assumption) | assumption)
                obtain ⟨ad327, e327, hx327_0⟩ := Kd.at_int (Kd.R_reads' HO_8.out).2.2 x12_2 p327 q327
                obtain rfl : ad314 = ad327 := (by injection e327)
                replace p327 := eq_true p327
                replace q327 := eq_true q327
                have p328 : 0 ≤ (x15_5 : Int) := of_decide_eq_true (by first | (with_reducible assumption) | assumption)
                have q328 : x15_5 < (t291.length : Int) := of_decide_eq_true (by first | (with_reducible assumption) | assumption)
                obtain ⟨ad328, e328, hx328_0, hx328_1, hx328_2, hx328_3⟩ := at_T58 (Kd.R_reads' HO_5.out).2.2 x15_5 p328 q328
                obtain rfl : ad315 = ad328 := (by injection e328)
                replace p328 := eq_true p328
                replace q328 := eq_true q328
                have p329 : 0 ≤ (x12_2 : Int) := of_decide_eq_true (by first | (with_reducible assumption) | assumption)
                have q329 : x12_2 < (t291.length : Int) := of_decide_eq_true (by first | (with_reducible assumption) | assumption)
                obtain ⟨ad329, e329, hx329_0, hx329_1, hx329_2, hx329_3⟩ := at_T58 (Kd.R_reads' HO_5.out).2.2 x12_2 p329 q329
                obtain rfl : ad315 = ad329 := (by injection e329)
                replace p329 := eq_true p329
                replace q329 := eq_true q329
                go_wp2
                repeat (go_quiet (fail); try go_wp2)
                go_roundg k5
                case measure => have := HJ8.out; have := HK2.out; have := HJ24.out; have := HJ37.out; have := HK5.out; omega
                case rel => exact ⟨(wrap64 (x15_5 + 1)), (by first | rfl | (simp; done) | (simp [*]; done)), H', ⟨by have := HJ8.out; have := HK2.out; have := HJ24.out; have := HJ37.out; have := HK5.out; omega⟩, ⟨by (with_reducible repeat (first | apply Kd.R_alloc | apply Kd.R_drewN | apply Kd.R_drew)); exact HO_5.out⟩, ⟨by (with_reducible repeat (first | apply Kd.R_alloc | apply Kd.R_drewN | apply Kd.R_drew)); exact HO_8.out⟩, ⟨by (with_reducible repeat (first | apply Kd.R_alloc | apply Kd.R_drewN | apply Kd.R_drew)); exact HO_10.out⟩, ⟨by (with_reducible repeat (first | apply Kd.R_alloc | apply Kd.R_drewN | apply Kd.R_drew)); exact HO_13.out⟩, ⟨by repeat (first | (with_reducible first | exact HB.out | apply below_alloc | apply pw_below_drewN | apply below_drew1) | exact HB.out)⟩⟩
/-- THE ONE PURE STATEMENT of laws_FnValueNumbers: yours. -/
def laws_FnValueNumbers.Pure : Prop := ∀ (l0 : List Int) (l1 : List Int), l0.length ≤ maxLen → l0.length * 1 ≤ 140737488351232 → (∀ x ∈ l0, (Lit.int .u8 x).wf = true) → l1.length ≤ maxLen → l1.length * 1 ≤ 140737488351232 → (∀ x ∈ l1, (Lit.int .u8 x).wf = true) → ∃ k, laws_FnValueNumbers.f k l0 l1 = some true
theorem laws_FnValueNumbers.walk (P : laws_FnValueNumbers.Pure) (a0 : Option Addr) (len0 cap0 : Nat) (z0 : List Int) (a1 : Option Addr) (len1 cap1 : Nat) (z1 : List Int) (w : World) (w0 : (a0 = none ∧ len0 = 0 ∧ cap0 = 0 ∧ z0 = []) ∨ ∃ x, a0 = some x ∧ len0 ≤ cap0 ∧ cap0 ≤ maxLen ∧ z0.length = cap0 ∧ (∀ i, i < z0.length → w.cell? (x.add i) = some (.int .u8 (z0.getD i 0))) ∧ ∀ n ∈ z0, (Lit.int .u8 n).wf = true) (y0 : len0 * 1 ≤ 140737488351232) (w1 : (a1 = none ∧ len1 = 0 ∧ cap1 = 0 ∧ z1 = []) ∨ ∃ x, a1 = some x ∧ len1 ≤ cap1 ∧ cap1 ≤ maxLen ∧ z1.length = cap1 ∧ (∀ i, i < z1.length → w.cell? (x.add i) = some (.int .u8 (z1.getD i 0))) ∧ ∀ n ∈ z1, (Lit.int .u8 n).wf = true) (y1 : len1 * 1 ≤ 140737488351232) :
  Calls Try.prog 16 #[.slice a0 len0 cap0, .slice a1 len1 cap1] w fun e w' => e = .returned (.bool true) ∧ Below w.heap.size w w' := by
 obtain ⟨l0, rfl, hr0, hm0, hw0, hc0⟩ := ReadsInt.ofRowC w0
 obtain ⟨l1, rfl, hr1, hm1, hw1, hc1⟩ := ReadsInt.ofRowC w1
 obtain ⟨k, h⟩ := P l0 l1 hm0 y0 hw0 hm1 y1 hw1
 refine (laws_FnValueNumbers.calls k _ _ l0 _ _ l1 true w (Kd.C_of_reads (d := (0 : Int)) (h1 := fun _ => rfl) hr0) hc0 (Kd.C_of_reads (d := (0 : Int)) (h1 := fun _ => rfl) hr1) hc1 h rfl).mono ?_
 rintro e w' ⟨rfl, hd⟩
 exact ⟨rfl, hd⟩

end Go.Proofs.Yteknfebehafbdaa.K
