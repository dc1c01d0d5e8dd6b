-- Laid by a program of this session.
import Derived.Test.YtpcjjminopdofaaK0
import Derived.Test.YtpcjjminopdofaaH0
import Derived.Test.YtpcjjminopdofaaQB0
import Derived.Test.YtpcjjminopdofaaQB1
namespace Go.Proofs.Ytpcjjminopdofaa.K
open Go.RowKit Go.Proofs.YtpcjjminopdofaaW.PrintWords Go.Proofs.YtpcjjminopdofaaW.PrintLast Go.Proofs.YtpcjjminopdofaaW.PrintMore Go.Proofs.Ytpcjjminopdofaa.Bx Go.Shelf
attribute [local go_sem] max2_int min2_int max_two min_two max_three min_three max_four min_four   -- for this text's walks alone
set_option linter.unusedVariables false
set_option linter.unusedSimpArgs false

/-! ### laws_FnWidened: function 24 -/
theorem wjv {t : Int} (ht : t = -1 ∨ t = 0 ∨ t = 1) : (0 ≤ (shl .i64 1 (IntKind.u64.wrap (wrap64 ((wrap64 (4 + (wrap64 (4 * t)))) - 1)))) ∧ (shl .i64 1 (IntKind.u64.wrap (wrap64 ((wrap64 (4 + (wrap64 (4 * t)))) - 1)))) ≤ 128) := by
  have e1 : wrap64 (4 * t) = 4 * t := w_small (by omega)
  have e2 : wrap64 (4 + 4 * t) = 4 + 4 * t := w_small (by omega)
  have e3 : wrap64 (4 + 4 * t - 1) = 4 + 4 * t - 1 := w_small (by omega)
  rw [e1, e2, e3]
  rcases ht with rfl | rfl | rfl
  · have e : IntKind.u64.wrap (4 + 4 * (-1) - 1) = 18446744073709551615 := by simp [IntKind.wrap, IntKind.bits, IntKind.signed]
    rw [e]
    have e4 : shl .i64 1 18446744073709551615 = 0 := by
      unfold shl
      have : min (18446744073709551615 : Int).toNat IntKind.i64.bits = 64 := by
        show min 18446744073709551615 64 = 64
        omega
      rw [this]
      rfl
    rw [e4]
    omega
  · rw [show (4 : Int) + 4 * 0 - 1 = 3 from rfl, u_small (by omega), shl3]
    omega
  · rw [show (4 : Int) + 4 * 1 - 1 = 7 from rfl, u_small (by omega), shl7]
    omega
theorem wj {l : List Int} {t j : Int} (h : laws_r8At.f l 40 2 = some t) (hj : (shl .i64 1 (IntKind.u64.wrap (wrap64 ((wrap64 (4 + (wrap64 (4 * t)))) - 1)))) = j) : (0 ≤ j ∧ j ≤ 128) ∧ wrap64 (-j) = -j := by
  have ht : t = -1 ∨ t = 0 ∨ t = 1 := by
    unfold laws_r8At.f at h
    rw [if_neg (by omega)] at h
    split at h
    · cases h; omega
    · rw [if_pos (by omega)] at h
      split at h
      · rw [if_neg (by omega)] at h
        have e := Option.some.inj h
        have h1 := Int.tmod_lt_of_pos (wrap64 (rd l 40)) (show (0 : Int) < 2 by omega)
        have h2 := Int.lt_tmod_of_pos (wrap64 (rd l 40)) (show (0 : Int) < 2 by omega)
        omega
      · cases h
  have h := wjv ht
  rw [hj] at h
  exact ⟨h, w_small (by omega)⟩
theorem wx1 {j x w : Int} (h : (0 ≤ j ∧ j ≤ 128) ∧ w = -j) (h1 : decide (x < w) = true) (h2 : x ≥ j) : False := by
  have := of_decide_eq_true h1
  omega
theorem wx2 {j x w : Int} (h : (0 ≤ j ∧ j ≤ 128) ∧ w = -j) (h1 : decide (x < w) = true) (h2 : x ≥ w) : False := by
  have := of_decide_eq_true h1
  omega
theorem wx3 {j x w : Int} (h : (0 ≤ j ∧ j ≤ 128) ∧ w = -j) (h1 : decide (j ≤ x) = true) (h2 : ¬ x ≥ w) : False := by
  have := of_decide_eq_true h1
  omega
theorem wx4 {j x : Int} (h1 : decide (j ≤ x) = true) (h2 : x < j) : False := by
  have := of_decide_eq_true h1
  omega
theorem wx5 {x w : Int} (h1 : decide (x < w) = false) (h2 : ¬ x ≥ w) : False := by
  have := of_decide_eq_false h1
  omega
theorem wx6 {j x : Int} (h1 : decide (j ≤ x) = false) (h2 : ¬ x < j) : False := by
  have := of_decide_eq_false h1
  omega
mutual
def laws_FnWidened.j0 : Nat → List Int → Int → Int → List Int → List Int → List Int → Bool → Int → Option (Bool)
 | 0, _, _, _, _, _, _, _, _ => none
 | k + 1, x1, x5, x6, x7, x9, x10, x11, x12 => (impl_NarrowLanes.f k (wrap64 (2 * x5)) x9 x10 x12).bind fun bt1596 => ((impl_NarrowLanes.f k (wrap64 (2 * x5)) x9 x10 0).bind fun bt1600 => (if x11 = true then (if bt1596.2 = true then (if bt1600.2 = true then ((laws_r8Same.f k bt1596.1 x7).bind fun t1604 => (if t1604 = true then ((laws_r8Same.f k bt1600.1 x7).bind fun t1605 => (laws_FnWidened.j1 k x1 x5 x6 (!t1605))) else (laws_FnWidened.j1 k x1 x5 x6 true))) else (laws_FnWidened.j1 k x1 x5 x6 true)) else (laws_FnWidened.j1 k x1 x5 x6 true)) else (laws_FnWidened.j1 k x1 x5 x6 true)))
def laws_FnWidened.j1 : Nat → List Int → Int → Int → Bool → Option (Bool)
 | 0, _, _, _, _ => none
 | k + 1, x1, x5, x6, x91 => if x91 = true then (some false) else ((spec_R8Vector.f k x1 (wrap64 (2 * x5)) x6).bind fun t1606 => ((impl_NarrowLanes.f k (wrap64 (2 * x5)) t1606 t1606 2).bind fun bt1609 => (if bt1609.2 = true then (laws_FnWidened.j2 k x5 x6 t1606 bt1609.1 ((bt1609.1.length : Int) != (wrap64 (2 * x6)))) else (laws_FnWidened.j2 k x5 x6 t1606 bt1609.1 true))))
def laws_FnWidened.j2 : Nat → Int → Int → List Int → List Int → Bool → Option (Bool)
 | 0, _, _, _, _, _ => none
 | k + 1, x5, x6, x17, x18, x113 => if x113 = true then (some false) else (laws_FnWidened.l0 k x5 x6 x17 x18 0)
def laws_FnWidened.l0 : Nat → Int → Int → List Int → List Int → Int → Option (Bool)
 | 0, _, _, _, _, _ => none
 | k + 1, x5, x6, x17, x18, x20 => if x20 < x6 then (if 0 ≤ x20 then (if x20 < (x17.length : Int) then ((impl_SignedOf.f (wrap64 (2 * x5)) (rd x17 x20)).bind fun bt1614 => (if x20 < (x18.length : Int) then ((impl_SignedOf.f x5 (rd x18 x20)).bind fun bt1617 => (if 0 ≤ (IntKind.u64.wrap (wrap64 (x5 - 1))) then (if bt1614.2 = true then (if bt1617.2 = true then (if 0 ≤ (wrap64 (x20 + x6)) then (if (wrap64 (x20 + x6)) < (x18.length : Int) then (if (rd x18 x20) = (rd x18 (wrap64 (x20 + x6))) then (if bt1614.1 < (wrap64 (-(shl .i64 1 (IntKind.u64.wrap (wrap64 (x5 - 1)))))) then (if bt1617.1 = (wrap64 (-(shl .i64 1 (IntKind.u64.wrap (wrap64 (x5 - 1)))))) then (if bt1614.1 ≥ (shl .i64 1 (IntKind.u64.wrap (wrap64 (x5 - 1)))) then (if bt1617.1 = (wrap64 ((shl .i64 1 (IntKind.u64.wrap (wrap64 (x5 - 1)))) - 1)) then (if bt1614.1 ≥ (wrap64 (-(shl .i64 1 (IntKind.u64.wrap (wrap64 (x5 - 1)))))) then (if bt1614.1 < (shl .i64 1 (IntKind.u64.wrap (wrap64 (x5 - 1)))) then (if bt1617.1 = bt1614.1 then (laws_FnWidened.l0 k x5 x6 x17 x18 (wrap64 (x20 + 1))) else (some false)) else (laws_FnWidened.l0 k x5 x6 x17 x18 (wrap64 (x20 + 1)))) else (laws_FnWidened.l0 k x5 x6 x17 x18 (wrap64 (x20 + 1)))) else (some false)) else (if bt1614.1 ≥ (wrap64 (-(shl .i64 1 (IntKind.u64.wrap (wrap64 (x5 - 1)))))) then (if bt1614.1 < (shl .i64 1 (IntKind.u64.wrap (wrap64 (x5 - 1)))) then (if bt1617.1 = bt1614.1 then (laws_FnWidened.l0 k x5 x6 x17 x18 (wrap64 (x20 + 1))) else (some false)) else (laws_FnWidened.l0 k x5 x6 x17 x18 (wrap64 (x20 + 1)))) else (laws_FnWidened.l0 k x5 x6 x17 x18 (wrap64 (x20 + 1))))) else (some false)) else (if bt1614.1 ≥ (shl .i64 1 (IntKind.u64.wrap (wrap64 (x5 - 1)))) then (if bt1617.1 = (wrap64 ((shl .i64 1 (IntKind.u64.wrap (wrap64 (x5 - 1)))) - 1)) then (if bt1614.1 ≥ (wrap64 (-(shl .i64 1 (IntKind.u64.wrap (wrap64 (x5 - 1)))))) then (if bt1614.1 < (shl .i64 1 (IntKind.u64.wrap (wrap64 (x5 - 1)))) then (if bt1617.1 = bt1614.1 then (laws_FnWidened.l0 k x5 x6 x17 x18 (wrap64 (x20 + 1))) else (some false)) else (laws_FnWidened.l0 k x5 x6 x17 x18 (wrap64 (x20 + 1)))) else (laws_FnWidened.l0 k x5 x6 x17 x18 (wrap64 (x20 + 1)))) else (some false)) else (if bt1614.1 ≥ (wrap64 (-(shl .i64 1 (IntKind.u64.wrap (wrap64 (x5 - 1)))))) then (if bt1614.1 < (shl .i64 1 (IntKind.u64.wrap (wrap64 (x5 - 1)))) then (if bt1617.1 = bt1614.1 then (laws_FnWidened.l0 k x5 x6 x17 x18 (wrap64 (x20 + 1))) else (some false)) else (laws_FnWidened.l0 k x5 x6 x17 x18 (wrap64 (x20 + 1)))) else (laws_FnWidened.l0 k x5 x6 x17 x18 (wrap64 (x20 + 1)))))) else (some false)) else (none)) else (none)) else (some false)) else (some false)) else (none))) else (none))) else (none)) else (none)) else (some true)
end
def laws_FnWidened.f (k : Nat) (l0 : List Int) (l1 : List Int) : Option (Bool) := (laws_r8Long.f l0 l1).bind fun t1582 => (if t1582 = true then (some true) else ((laws_r8At.f l0 40 2).bind fun t1583 => ((laws_r8At.f l1 40 2).bind fun t1584 => ((spec_R8Vector.f k l0 (wrap64 (4 + (wrap64 (4 * t1583)))) (wrap64 (4 * (wrap64 (1 + t1584))))).bind fun t1585 => ((laws_r8At.f l1 41 2).bind fun t1588 => ((impl_WidenLanes.f k (wrap64 (4 + (wrap64 (4 * t1583)))) t1585 (t1588 == 1)).bind fun bt1589 => (if t1588 = 1 then (laws_FnWidened.j0 k l1 (wrap64 (4 + (wrap64 (4 * t1583)))) (wrap64 (4 * (wrap64 (1 + t1584)))) t1585 bt1589.1 bt1589.2.1 bt1589.2.2 2) else (laws_FnWidened.j0 k l1 (wrap64 (4 + (wrap64 (4 * t1583)))) (wrap64 (4 * (wrap64 (1 + t1584)))) t1585 bt1589.1 bt1589.2.1 bt1589.2.2 1))))))))
theorem laws_FnWidened.mono_l : ∀ k, (∀ y0 y1 y2 y3 y4 y5 y6 y7, LeO (laws_FnWidened.j0 k y0 y1 y2 y3 y4 y5 y6 y7) (laws_FnWidened.j0 (k + 1) y0 y1 y2 y3 y4 y5 y6 y7)) ∧ (∀ y0 y1 y2 y3, LeO (laws_FnWidened.j1 k y0 y1 y2 y3) (laws_FnWidened.j1 (k + 1) y0 y1 y2 y3)) ∧ (∀ y0 y1 y2 y3 y4, LeO (laws_FnWidened.j2 k y0 y1 y2 y3 y4) (laws_FnWidened.j2 (k + 1) y0 y1 y2 y3 y4)) ∧ (∀ y0 y1 y2 y3 y4, LeO (laws_FnWidened.l0 k y0 y1 y2 y3 y4) (laws_FnWidened.l0 (k + 1) y0 y1 y2 y3 y4))
 | 0 => ⟨fun _ _ _ _ _ _ _ _ r h => by simp [laws_FnWidened.j0] at h, fun _ _ _ _ r h => by simp [laws_FnWidened.j1] at h, fun _ _ _ _ _ r h => by simp [laws_FnWidened.j2] at h, fun _ _ _ _ _ r h => by simp [laws_FnWidened.l0] at h⟩
 | k + 1 => by
  obtain ⟨ih0, ih1, ih2, ih3⟩ := laws_FnWidened.mono_l k
  refine ⟨?_, ?_, ?_, ?_⟩
  ·intro y0 y1 y2 y3 y4 y5 y6 y7
   unfold laws_FnWidened.j0
   repeat' first
   | (with_reducible exact ih0 _ _ _ _ _ _ _ _)
   | (with_reducible exact ih1 _ _ _ _)
   | (with_reducible exact ih2 _ _ _ _ _)
   | (with_reducible exact ih3 _ _ _ _ _)
   | (with_reducible exact impl_NarrowLanes.mono _ _ _ _ _)
   | (with_reducible exact impl_WidenLanes.mono _ _ _ _)
   | (with_reducible exact laws_r8Same.mono _ _ _)
   | (with_reducible exact spec_R8Vector.mono _ _ _ _)
   | (with_reducible exact LeO.refl _)
   | (with_reducible exact LeO.none _)
   | (with_reducible refine LeO.ite ?_ ?_)
   | (with_reducible refine LeO.bind ?_ (fun _ => ?_))
   | exact ih0 _ _ _ _ _ _ _ _
   | exact ih1 _ _ _ _
   | exact ih2 _ _ _ _ _
   | exact ih3 _ _ _ _ _
   | exact impl_NarrowLanes.mono _ _ _ _ _
   | exact impl_WidenLanes.mono _ _ _ _
   | exact laws_r8Same.mono _ _ _
   | exact spec_R8Vector.mono _ _ _ _
   | exact LeO.none _
   | refine LeO.ite ?_ ?_
   | refine LeO.bind ?_ (fun _ => ?_)
  ·intro y0 y1 y2 y3
   unfold laws_FnWidened.j1
   repeat' first
   | (with_reducible exact ih0 _ _ _ _ _ _ _ _)
   | (with_reducible exact ih1 _ _ _ _)
   | (with_reducible exact ih2 _ _ _ _ _)
   | (with_reducible exact ih3 _ _ _ _ _)
   | (with_reducible exact impl_NarrowLanes.mono _ _ _ _ _)
   | (with_reducible exact impl_WidenLanes.mono _ _ _ _)
   | (with_reducible exact laws_r8Same.mono _ _ _)
   | (with_reducible exact spec_R8Vector.mono _ _ _ _)
   | (with_reducible exact LeO.refl _)
   | (with_reducible exact LeO.none _)
   | (with_reducible refine LeO.ite ?_ ?_)
   | (with_reducible refine LeO.bind ?_ (fun _ => ?_))
   | exact ih0 _ _ _ _ _ _ _ _
   | exact ih1 _ _ _ _
   | exact ih2 _ _ _ _ _
   | exact ih3 _ _ _ _ _
   | exact impl_NarrowLanes.mono _ _ _ _ _
   | exact impl_WidenLanes.mono _ _ _ _
   | exact laws_r8Same.mono _ _ _
   | exact spec_R8Vector.mono _ _ _ _
   | exact LeO.none _
   | refine LeO.ite ?_ ?_
   | refine LeO.bind ?_ (fun _ => ?_)
  ·intro y0 y1 y2 y3 y4
   unfold laws_FnWidened.j2
   repeat' first
   | (with_reducible exact ih0 _ _ _ _ _ _ _ _)
   | (with_reducible exact ih1 _ _ _ _)
   | (with_reducible exact ih2 _ _ _ _ _)
   | (with_reducible exact ih3 _ _ _ _ _)
   | (with_reducible exact impl_NarrowLanes.mono _ _ _ _ _)
   | (with_reducible exact impl_WidenLanes.mono _ _ _ _)
   | (with_reducible exact laws_r8Same.mono _ _ _)
   | (with_reducible exact spec_R8Vector.mono _ _ _ _)
   | (with_reducible exact LeO.refl _)
   | (with_reducible exact LeO.none _)
   | (with_reducible refine LeO.ite ?_ ?_)
   | (with_reducible refine LeO.bind ?_ (fun _ => ?_))
   | exact ih0 _ _ _ _ _ _ _ _
   | exact ih1 _ _ _ _
   | exact ih2 _ _ _ _ _
   | exact ih3 _ _ _ _ _
   | exact impl_NarrowLanes.mono _ _ _ _ _
   | exact impl_WidenLanes.mono _ _ _ _
   | exact laws_r8Same.mono _ _ _
   | exact spec_R8Vector.mono _ _ _ _
   | exact LeO.none _
   | refine LeO.ite ?_ ?_
   | refine LeO.bind ?_ (fun _ => ?_)
  ·intro y0 y1 y2 y3 y4
   unfold laws_FnWidened.l0
   repeat' first
   | (with_reducible exact ih0 _ _ _ _ _ _ _ _)
   | (with_reducible exact ih1 _ _ _ _)
   | (with_reducible exact ih2 _ _ _ _ _)
   | (with_reducible exact ih3 _ _ _ _ _)
   | (with_reducible exact impl_NarrowLanes.mono _ _ _ _ _)
   | (with_reducible exact impl_WidenLanes.mono _ _ _ _)
   | (with_reducible exact laws_r8Same.mono _ _ _)
   | (with_reducible exact spec_R8Vector.mono _ _ _ _)
   | (with_reducible exact LeO.refl _)
   | (with_reducible exact LeO.none _)
   | (with_reducible refine LeO.ite ?_ ?_)
   | (with_reducible refine LeO.bind ?_ (fun _ => ?_))
   | exact ih0 _ _ _ _ _ _ _ _
   | exact ih1 _ _ _ _
   | exact ih2 _ _ _ _ _
   | exact ih3 _ _ _ _ _
   | exact impl_NarrowLanes.mono _ _ _ _ _
   | exact impl_WidenLanes.mono _ _ _ _
   | exact laws_r8Same.mono _ _ _
   | exact spec_R8Vector.mono _ _ _ _
   | exact LeO.none _
   | refine LeO.ite ?_ ?_
   | refine LeO.bind ?_ (fun _ => ?_)
theorem laws_FnWidened.mono : ∀ a0 a1 k, LeO (laws_FnWidened.f k a0 a1) (laws_FnWidened.f (k + 1) a0 a1) := by
 intro a0 a1 k
 obtain ⟨ih0, ih1, ih2, ih3⟩ := laws_FnWidened.mono_l k
 unfold laws_FnWidened.f
 repeat' first
   | (with_reducible exact ih0 _ _ _ _ _ _ _ _)
   | (with_reducible exact ih1 _ _ _ _)
   | (with_reducible exact ih2 _ _ _ _ _)
   | (with_reducible exact ih3 _ _ _ _ _)
   | (with_reducible exact impl_NarrowLanes.mono _ _ _ _ _)
   | (with_reducible exact impl_WidenLanes.mono _ _ _ _)
   | (with_reducible exact laws_r8Same.mono _ _ _)
   | (with_reducible exact spec_R8Vector.mono _ _ _ _)
   | (with_reducible exact LeO.refl _)
   | (with_reducible exact LeO.none _)
   | (with_reducible refine LeO.ite ?_ ?_)
   | (with_reducible refine LeO.bind ?_ (fun _ => ?_))
   | exact ih0 _ _ _ _ _ _ _ _
   | exact ih1 _ _ _ _
   | exact ih2 _ _ _ _ _
   | exact ih3 _ _ _ _ _
   | exact impl_NarrowLanes.mono _ _ _ _ _
   | exact impl_WidenLanes.mono _ _ _ _
   | exact laws_r8Same.mono _ _ _
   | exact spec_R8Vector.mono _ _ _ _
   | exact LeO.none _
   | refine LeO.ite ?_ ?_
   | refine LeO.bind ?_ (fun _ => ?_)
theorem laws_FnWidened.j1_no {k : Nat} {y0 : List Int} {y1 : Int} {y2 : Int} {r : Bool} (h : laws_FnWidened.j1 k y0 y1 y2 true = some r) (hr : r = true) : False := by
  cases k with
  | zero => exact nomatch (show (none : Option Bool) = some r from h)
  | succ k => exact absurd (Option.some.inj (show (some false : Option Bool) = some r from h)) (by rw [hr]; decide)
theorem laws_FnWidened.j2_no {k : Nat} {y0 : Int} {y1 : Int} {y2 : List Int} {y3 : List Int} {r : Bool} (h : laws_FnWidened.j2 k y0 y1 y2 y3 true = some r) (hr : r = true) : False := by
  cases k with
  | zero => exact nomatch (show (none : Option Bool) = some r from h)
  | succ k => exact absurd (Option.some.inj (show (some false : Option Bool) = some r from h)) (by rw [hr]; decide)
theorem ways_FnWidened.z1 {a b : Int} (h : decide (a < b) = true) (q : b ≤ a) : False := by
  have := of_decide_eq_true h
  omega
theorem ways_FnWidened.z2 {a b : Int} (h : decide (a < b) = false) (q : ¬ b ≤ a) : False := by
  have := of_decide_eq_false h
  omega
theorem ways_FnWidened.z3 {a b : Int} (h : decide (b ≤ a) = true) (q : a < b) : False := by
  have := of_decide_eq_true h
  omega
theorem ways_FnWidened.z4 {a b : Int} (h : decide (b ≤ a) = false) (q : ¬ a < b) : False := by
  have := of_decide_eq_false h
  omega
theorem ways_FnWidened.z5 {a b : Int} (h : decide (a < b) = true) (q : ¬ a < b) : False := by
  have := of_decide_eq_true h
  omega
theorem ways_FnWidened.z6 {a b : Int} (h : decide (a < b) = false) (q : a < b) : False := by
  have := of_decide_eq_false h
  omega
theorem ways_FnWidened.z7 {a b : Int} (h : decide (b ≤ a) = true) (q : ¬ b ≤ a) : False := by
  have := of_decide_eq_true h
  omega
theorem ways_FnWidened.z8 {a b : Int} (h : decide (b ≤ a) = false) (q : b ≤ a) : False := by
  have := of_decide_eq_false h
  omega
set_option maxHeartbeats 8000000 in
set_option maxRecDepth 100000 in
theorem laws_FnWidened.calls (k : Nat) (A0 : Option Addr) (c0 : Nat) (l0 : List Int) (A1 : Option Addr) (c1 : Nat) (l1 : List Int) (r : Bool) (w : World) (hr0 : Kd.C (Kd.int .u8) w A0 l0.length l0) (hc0 : l0.length ≤ c0) (hr1 : Kd.C (Kd.int .u8) w A1 l1.length l1) (hc1 : l1.length ≤ c1) (h : laws_FnWidened.f k l0 l1 = some r) (hrtrue : r = true) :
  Calls Try.prog 24 #[.slice A0 l0.length c0, .slice A1 l1.length c1] w fun e w' => e = .returned (.bool r) ∧ Below w.heap.size w w' := by
 have HR0 := Aside0.mk hr0
 have HC0 := Aside0.mk hc0
 clear hr0 hc0
 have HR1 := Aside0.mk hr1
 have HC1 := Aside0.mk hc1
 clear hr1 hc1
 have HB := Aside0.mk (Below.refl w.heap.size w)
 have H : ((laws_r8Long.f l0 l1).bind fun t1582 => (if t1582 = true then (some true) else ((laws_r8At.f l0 40 2).bind fun t1583 => ((laws_r8At.f l1 40 2).bind fun t1584 => ((spec_R8Vector.f k l0 (wrap64 (4 + (wrap64 (4 * t1583)))) (wrap64 (4 * (wrap64 (1 + t1584))))).bind fun t1585 => ((laws_r8At.f l1 41 2).bind fun t1588 => ((impl_WidenLanes.f k (wrap64 (4 + (wrap64 (4 * t1583)))) t1585 (t1588 == 1)).bind fun bt1589 => (if t1588 = 1 then (laws_FnWidened.j0 k l1 (wrap64 (4 + (wrap64 (4 * t1583)))) (wrap64 (4 * (wrap64 (1 + t1584)))) t1585 bt1589.1 bt1589.2.1 bt1589.2.2 2) else (laws_FnWidened.j0 k l1 (wrap64 (4 + (wrap64 (4 * t1583)))) (wrap64 (4 * (wrap64 (1 + t1584)))) t1585 bt1589.1 bt1589.2.1 bt1589.2.2 1))))))))) = some r := h
 clear h
 have HRT := Aside0.mk hrtrue
 clear hrtrue
 replace H := Option.bind_eq_some_iff.mp H
 obtain ⟨t1582, A30, H⟩ := H
 try dsimp only at H
 have A3 := Aside0.mk A30
 clear A30
 by_cases c4 : t1582 = true
 ·subst c4
  rw [if_pos rfl] at H
  obtain rfl := Option.some.inj H
  go_enter Try.func24, Try.ntmps24
  go_wp2_with (first | (go_at_call 71; (with_reducible refine (laws_r8Long.calls _ _ l0 _ _ l1 true _ ?side1 ?side2 ?side3 ?side4 A3.out).mono ?_); (case side1 => repeat (first | exact HR0.out | (with_reducible refine Kd.C_alloc ?_ _) | (with_reducible refine Kd.C_drewN ?_ _) | (with_reducible refine Kd.C_drew ?_))); (case side2 => exact HC0.out); (case side3 => repeat (first | exact HR1.out | (with_reducible refine Kd.C_alloc ?_ _) | (with_reducible refine Kd.C_drewN ?_ _) | (with_reducible refine Kd.C_drew ?_))); (case side4 => exact HC1.out); rintro e w' ⟨rfl, ⟨nd, rfl⟩⟩; (try first | exact ⟨rfl, _, World.drewN_drewN _ _ _⟩ | exact ⟨rfl, _, Eq.trans (World.drewN_drewN _ _ _) (congrArg (World.drewN _) (Nat.add_assoc _ _ _))⟩)))
  repeat (go_quiet (first | (go_at_call 71; (with_reducible refine (laws_r8Long.calls _ _ l0 _ _ l1 true _ ?side1 ?side2 ?side3 ?side4 A3.out).mono ?_); (case side1 => repeat (first | exact HR0.out | (with_reducible refine Kd.C_alloc ?_ _) | (with_reducible refine Kd.C_drewN ?_ _) | (with_reducible refine Kd.C_drew ?_))); (case side2 => exact HC0.out); (case side3 => repeat (first | exact HR1.out | (with_reducible refine Kd.C_alloc ?_ _) | (with_reducible refine Kd.C_drewN ?_ _) | (with_reducible refine Kd.C_drew ?_))); (case side4 => exact HC1.out); rintro e w' ⟨rfl, ⟨nd, rfl⟩⟩; (try first | exact ⟨rfl, _, World.drewN_drewN _ _ _⟩ | exact ⟨rfl, _, Eq.trans (World.drewN_drewN _ _ _) (congrArg (World.drewN _) (Nat.add_assoc _ _ _))⟩))); try go_wp2_with (first | (go_at_call 71; (with_reducible refine (laws_r8Long.calls _ _ l0 _ _ l1 true _ ?side1 ?side2 ?side3 ?side4 A3.out).mono ?_); (case side1 => repeat (first | exact HR0.out | (with_reducible refine Kd.C_alloc ?_ _) | (with_reducible refine Kd.C_drewN ?_ _) | (with_reducible refine Kd.C_drew ?_))); (case side2 => exact HC0.out); (case side3 => repeat (first | exact HR1.out | (with_reducible refine Kd.C_alloc ?_ _) | (with_reducible refine Kd.C_drewN ?_ _) | (with_reducible refine Kd.C_drew ?_))); (case side4 => exact HC1.out); rintro e w' ⟨rfl, ⟨nd, rfl⟩⟩; (try first | exact ⟨rfl, _, World.drewN_drewN _ _ _⟩ | exact ⟨rfl, _, Eq.trans (World.drewN_drewN _ _ _) (congrArg (World.drewN _) (Nat.add_assoc _ _ _))⟩))))
  go_ret
  exact ⟨by first | rfl | (simp [errW_none, errW_some] <;> rfl) | (simp [*, errW_none, errW_some] <;> rfl), by repeat (first | (with_reducible first | exact HB.out | apply below_alloc | apply pw_below_drewN | apply below_drew1) | exact HB.out)⟩
 replace c4 := Bool.eq_false_iff.mpr c4
 subst c4
 rw [if_neg (show ¬ (false = true) by decide)] at H
 replace H := Option.bind_eq_some_iff.mp H
 obtain ⟨t1583, A50, H⟩ := H
 try dsimp only at H
 have A5 := Aside0.mk A50
 clear A50
 replace H := Option.bind_eq_some_iff.mp H
 obtain ⟨t1584, A60, H⟩ := H
 try dsimp only at H
 have A6 := Aside0.mk A60
 clear A60
 replace H := Option.bind_eq_some_iff.mp H
 obtain ⟨t1585, A70, H⟩ := H
 try dsimp only at H
 have A7 := Aside0.mk A70
 clear A70
 replace H := Option.bind_eq_some_iff.mp H
 obtain ⟨t1588, A80, H⟩ := H
 try dsimp only at H
 have A8 := Aside0.mk A80
 clear A80
 replace H := Option.bind_eq_some_iff.mp H
 obtain ⟨⟨t1589, t1590, t1591⟩, A90, H⟩ := H
 try dsimp only at H
 have A9 := Aside0.mk A90
 clear A90
 have HC10 := Aside0.mk H
 clear H
 go_enter Try.func24, Try.ntmps24
 go_upto_if 52 with (first | (go_at_call 71; (with_reducible refine (laws_r8Long.calls _ _ l0 _ _ l1 false _ ?side1 ?side2 ?side3 ?side4 A3.out).mono ?_); (case side1 => repeat (first | exact HR0.out | (with_reducible refine Kd.C_alloc ?_ _) | (with_reducible refine Kd.C_drewN ?_ _) | (with_reducible refine Kd.C_drew ?_))); (case side2 => exact HC0.out); (case side3 => repeat (first | exact HR1.out | (with_reducible refine Kd.C_alloc ?_ _) | (with_reducible refine Kd.C_drewN ?_ _) | (with_reducible refine Kd.C_drew ?_))); (case side4 => exact HC1.out); rintro e w' ⟨rfl, ⟨nd, rfl⟩⟩; (try first | exact ⟨rfl, _, World.drewN_drewN _ _ _⟩ | exact ⟨rfl, _, Eq.trans (World.drewN_drewN _ _ _) (congrArg (World.drewN _) (Nat.add_assoc _ _ _))⟩)) | (go_at_call 75; (with_reducible refine (laws_r8At.calls _ _ l0 40 2 t1583 _ ?side1 ?side2 A5.out).mono ?_); (case side1 => repeat (first | exact HR0.out | (with_reducible refine Kd.C_alloc ?_ _) | (with_reducible refine Kd.C_drewN ?_ _) | (with_reducible refine Kd.C_drew ?_))); (case side2 => exact HC0.out); rintro e w' ⟨rfl, ⟨nd, rfl⟩⟩; (try first | exact ⟨rfl, _, World.drewN_drewN _ _ _⟩ | exact ⟨rfl, _, Eq.trans (World.drewN_drewN _ _ _) (congrArg (World.drewN _) (Nat.add_assoc _ _ _))⟩)) | (go_at_call 75; (with_reducible refine (laws_r8At.calls _ _ l1 40 2 t1584 _ ?side1 ?side2 A6.out).mono ?_); (case side1 => repeat (first | exact HR1.out | (with_reducible refine Kd.C_alloc ?_ _) | (with_reducible refine Kd.C_drewN ?_ _) | (with_reducible refine Kd.C_drew ?_))); (case side2 => exact HC1.out); rintro e w' ⟨rfl, ⟨nd, rfl⟩⟩; (try first | exact ⟨rfl, _, World.drewN_drewN _ _ _⟩ | exact ⟨rfl, _, Eq.trans (World.drewN_drewN _ _ _) (congrArg (World.drewN _) (Nat.add_assoc _ _ _))⟩)) | (go_at_call 74; (with_reducible refine (spec_R8Vector.calls k _ _ l0 (wrap64 (4 + (wrap64 (4 * t1583)))) (wrap64 (4 * (wrap64 (1 + t1584)))) t1585 _ ?side1 ?side2 A7.out).mono ?_); (case side1 => repeat (first | exact HR0.out | (with_reducible refine Kd.C_alloc ?_ _) | (with_reducible refine Kd.C_drewN ?_ _) | (with_reducible refine Kd.C_drew ?_))); (case side2 => exact HC0.out); rintro e w11 ⟨v1586, rfl, ho0, hb⟩; have n0_ := Aside0.mk (Kd.R_lower ho0 (below_size (by repeat (first | (with_reducible first | exact HB.out | apply below_alloc | apply pw_below_drewN | apply below_drew1) | exact HB.out)))); have n1_ := Aside0.mk (below_step (by repeat (first | (with_reducible first | exact HB.out | apply below_alloc | apply pw_below_drewN | apply below_drew1) | exact HB.out)) hb); clear HB; have HO1587 := n0_; have HB := n1_; clear n0_ n1_; (try clear hb); (try clear hb2); (try clear hk); (try clear hi); (try clear ho0)) | (go_at_call 75; (with_reducible refine (laws_r8At.calls _ _ l1 41 2 t1588 _ ?side1 ?side2 A8.out).mono ?_); (case side1 => repeat (first | exact (Kd.C_below HR1.out HB.out) | (with_reducible refine Kd.C_alloc ?_ _) | (with_reducible refine Kd.C_drewN ?_ _) | (with_reducible refine Kd.C_drew ?_))); (case side2 => exact HC1.out); rintro e w' ⟨rfl, ⟨nd, rfl⟩⟩; (try first | exact ⟨rfl, _, World.drewN_drewN _ _ _⟩ | exact ⟨rfl, _, Eq.trans (World.drewN_drewN _ _ _) (congrArg (World.drewN _) (Nat.add_assoc _ _ _))⟩); obtain ⟨Ao12, co12, eo12⟩ := Kd.R_slice HO1587.out; subst eo12) | (go_at_call 56; (with_reducible refine (impl_WidenLanes.calls k (wrap64 (4 + (wrap64 (4 * t1583)))) _ _ t1585 (t1588 == 1) t1589 t1590 t1591 _ ?side1 ?side2 A9.out).mono ?_); (case side1 => repeat (first | exact (Kd.R_reads' HO1587.out).2.2 | (with_reducible refine Kd.C_alloc ?_ _) | (with_reducible refine Kd.C_drewN ?_ _) | (with_reducible refine Kd.C_drew ?_))); (case side2 => exact (Kd.R_reads' HO1587.out).2.1); rintro e w13 ⟨v1592, v1594, rfl, ho0, ho1, hb⟩; have n0_ := Aside0.mk (Kd.R_mono (Kd.R_told (Kd.R_told (Kd.R_old (by (with_reducible repeat (first | apply Kd.R_alloc | apply Kd.R_drewN | apply Kd.R_drew)); exact HO1587.out) hb) (Kd.R_base ho0)) (Kd.R_base ho1)) (fun _ h_ => h_.1)); have n1_ := Aside0.mk (Kd.R_lower (Kd.R_new' ho0 (Kd.R_lt (by (with_reducible repeat (first | apply Kd.R_alloc | apply Kd.R_drewN | apply Kd.R_drew)); exact HO1587.out))) (below_size (by repeat (first | (with_reducible first | exact HB.out | apply below_alloc | apply pw_below_drewN | apply below_drew1) | exact HB.out)))); have n2_ := Aside0.mk (Kd.R_lower (Kd.R_new' ho1 (Kd.R_lt (by (with_reducible repeat (first | apply Kd.R_alloc | apply Kd.R_drewN | apply Kd.R_drew)); exact HO1587.out))) (below_size (by repeat (first | (with_reducible first | exact HB.out | apply below_alloc | apply pw_below_drewN | apply below_drew1) | exact HB.out)))); have n3_ := Aside0.mk (below_step (by repeat (first | (with_reducible first | exact HB.out | apply below_alloc | apply pw_below_drewN | apply below_drew1) | exact HB.out)) hb); clear HO1587; clear HB; have HO1587 := n0_; have HO1593 := n1_; have HO1595 := n2_; have HB := n3_; clear n0_ n1_ n2_ n3_; (try clear hb); (try clear hb2); (try clear hk); (try clear hi); (try clear ho0); (try clear ho1)))
 repeat (go_quiet (first | (go_at_call 71; (with_reducible refine (laws_r8Long.calls _ _ l0 _ _ l1 false _ ?side1 ?side2 ?side3 ?side4 A3.out).mono ?_); (case side1 => repeat (first | exact HR0.out | (with_reducible refine Kd.C_alloc ?_ _) | (with_reducible refine Kd.C_drewN ?_ _) | (with_reducible refine Kd.C_drew ?_))); (case side2 => exact HC0.out); (case side3 => repeat (first | exact HR1.out | (with_reducible refine Kd.C_alloc ?_ _) | (with_reducible refine Kd.C_drewN ?_ _) | (with_reducible refine Kd.C_drew ?_))); (case side4 => exact HC1.out); rintro e w' ⟨rfl, ⟨nd, rfl⟩⟩; (try first | exact ⟨rfl, _, World.drewN_drewN _ _ _⟩ | exact ⟨rfl, _, Eq.trans (World.drewN_drewN _ _ _) (congrArg (World.drewN _) (Nat.add_assoc _ _ _))⟩)) | (go_at_call 75; (with_reducible refine (laws_r8At.calls _ _ l0 40 2 t1583 _ ?side1 ?side2 A5.out).mono ?_); (case side1 => repeat (first | exact HR0.out | (with_reducible refine Kd.C_alloc ?_ _) | (with_reducible refine Kd.C_drewN ?_ _) | (with_reducible refine Kd.C_drew ?_))); (case side2 => exact HC0.out); rintro e w' ⟨rfl, ⟨nd, rfl⟩⟩; (try first | exact ⟨rfl, _, World.drewN_drewN _ _ _⟩ | exact ⟨rfl, _, Eq.trans (World.drewN_drewN _ _ _) (congrArg (World.drewN _) (Nat.add_assoc _ _ _))⟩)) | (go_at_call 75; (with_reducible refine (laws_r8At.calls _ _ l1 40 2 t1584 _ ?side1 ?side2 A6.out).mono ?_); (case side1 => repeat (first | exact HR1.out | (with_reducible refine Kd.C_alloc ?_ _) | (with_reducible refine Kd.C_drewN ?_ _) | (with_reducible refine Kd.C_drew ?_))); (case side2 => exact HC1.out); rintro e w' ⟨rfl, ⟨nd, rfl⟩⟩; (try first | exact ⟨rfl, _, World.drewN_drewN _ _ _⟩ | exact ⟨rfl, _, Eq.trans (World.drewN_drewN _ _ _) (congrArg (World.drewN _) (Nat.add_assoc _ _ _))⟩)) | (go_at_call 74; (with_reducible refine (spec_R8Vector.calls k _ _ l0 (wrap64 (4 + (wrap64 (4 * t1583)))) (wrap64 (4 * (wrap64 (1 + t1584)))) t1585 _ ?side1 ?side2 A7.out).mono ?_); (case side1 => repeat (first | exact HR0.out | (with_reducible refine Kd.C_alloc ?_ _) | (with_reducible refine Kd.C_drewN ?_ _) | (with_reducible refine Kd.C_drew ?_))); (case side2 => exact HC0.out); rintro e w11 ⟨v1586, rfl, ho0, hb⟩; have n0_ := Aside0.mk (Kd.R_lower ho0 (below_size (by repeat (first | (with_reducible first | exact HB.out | apply below_alloc | apply pw_below_drewN | apply below_drew1) | exact HB.out)))); have n1_ := Aside0.mk (below_step (by repeat (first | (with_reducible first | exact HB.out | apply below_alloc | apply pw_below_drewN | apply below_drew1) | exact HB.out)) hb); clear HB; have HO1587 := n0_; have HB := n1_; clear n0_ n1_; (try clear hb); (try clear hb2); (try clear hk); (try clear hi); (try clear ho0)) | (go_at_call 75; (with_reducible refine (laws_r8At.calls _ _ l1 41 2 t1588 _ ?side1 ?side2 A8.out).mono ?_); (case side1 => repeat (first | exact (Kd.C_below HR1.out HB.out) | (with_reducible refine Kd.C_alloc ?_ _) | (with_reducible refine Kd.C_drewN ?_ _) | (with_reducible refine Kd.C_drew ?_))); (case side2 => exact HC1.out); rintro e w' ⟨rfl, ⟨nd, rfl⟩⟩; (try first | exact ⟨rfl, _, World.drewN_drewN _ _ _⟩ | exact ⟨rfl, _, Eq.trans (World.drewN_drewN _ _ _) (congrArg (World.drewN _) (Nat.add_assoc _ _ _))⟩); obtain ⟨Ao12, co12, eo12⟩ := Kd.R_slice HO1587.out; subst eo12) | (go_at_call 56; (with_reducible refine (impl_WidenLanes.calls k (wrap64 (4 + (wrap64 (4 * t1583)))) _ _ t1585 (t1588 == 1) t1589 t1590 t1591 _ ?side1 ?side2 A9.out).mono ?_); (case side1 => repeat (first | exact (Kd.R_reads' HO1587.out).2.2 | (with_reducible refine Kd.C_alloc ?_ _) | (with_reducible refine Kd.C_drewN ?_ _) | (with_reducible refine Kd.C_drew ?_))); (case side2 => exact (Kd.R_reads' HO1587.out).2.1); rintro e w13 ⟨v1592, v1594, rfl, ho0, ho1, hb⟩; have n0_ := Aside0.mk (Kd.R_mono (Kd.R_told (Kd.R_told (Kd.R_old (by (with_reducible repeat (first | apply Kd.R_alloc | apply Kd.R_drewN | apply Kd.R_drew)); exact HO1587.out) hb) (Kd.R_base ho0)) (Kd.R_base ho1)) (fun _ h_ => h_.1)); have n1_ := Aside0.mk (Kd.R_lower (Kd.R_new' ho0 (Kd.R_lt (by (with_reducible repeat (first | apply Kd.R_alloc | apply Kd.R_drewN | apply Kd.R_drew)); exact HO1587.out))) (below_size (by repeat (first | (with_reducible first | exact HB.out | apply below_alloc | apply pw_below_drewN | apply below_drew1) | exact HB.out)))); have n2_ := Aside0.mk (Kd.R_lower (Kd.R_new' ho1 (Kd.R_lt (by (with_reducible repeat (first | apply Kd.R_alloc | apply Kd.R_drewN | apply Kd.R_drew)); exact HO1587.out))) (below_size (by repeat (first | (with_reducible first | exact HB.out | apply below_alloc | apply pw_below_drewN | apply below_drew1) | exact HB.out)))); have n3_ := Aside0.mk (below_step (by repeat (first | (with_reducible first | exact HB.out | apply below_alloc | apply pw_below_drewN | apply below_drew1) | exact HB.out)) hb); clear HO1587; clear HB; have HO1587 := n0_; have HO1593 := n1_; have HO1595 := n2_; have HB := n3_; clear n0_ n1_ n2_ n3_; (try clear hb); (try clear hb2); (try clear hk); (try clear hi); (try clear ho0); (try clear ho1))); go_upto_if 52 with (first | (go_at_call 71; (with_reducible refine (laws_r8Long.calls _ _ l0 _ _ l1 false _ ?side1 ?side2 ?side3 ?side4 A3.out).mono ?_); (case side1 => repeat (first | exact HR0.out | (with_reducible refine Kd.C_alloc ?_ _) | (with_reducible refine Kd.C_drewN ?_ _) | (with_reducible refine Kd.C_drew ?_))); (case side2 => exact HC0.out); (case side3 => repeat (first | exact HR1.out | (with_reducible refine Kd.C_alloc ?_ _) | (with_reducible refine Kd.C_drewN ?_ _) | (with_reducible refine Kd.C_drew ?_))); (case side4 => exact HC1.out); rintro e w' ⟨rfl, ⟨nd, rfl⟩⟩; (try first | exact ⟨rfl, _, World.drewN_drewN _ _ _⟩ | exact ⟨rfl, _, Eq.trans (World.drewN_drewN _ _ _) (congrArg (World.drewN _) (Nat.add_assoc _ _ _))⟩)) | (go_at_call 75; (with_reducible refine (laws_r8At.calls _ _ l0 40 2 t1583 _ ?side1 ?side2 A5.out).mono ?_); (case side1 => repeat (first | exact HR0.out | (with_reducible refine Kd.C_alloc ?_ _) | (with_reducible refine Kd.C_drewN ?_ _) | (with_reducible refine Kd.C_drew ?_))); (case side2 => exact HC0.out); rintro e w' ⟨rfl, ⟨nd, rfl⟩⟩; (try first | exact ⟨rfl, _, World.drewN_drewN _ _ _⟩ | exact ⟨rfl, _, Eq.trans (World.drewN_drewN _ _ _) (congrArg (World.drewN _) (Nat.add_assoc _ _ _))⟩)) | (go_at_call 75; (with_reducible refine (laws_r8At.calls _ _ l1 40 2 t1584 _ ?side1 ?side2 A6.out).mono ?_); (case side1 => repeat (first | exact HR1.out | (with_reducible refine Kd.C_alloc ?_ _) | (with_reducible refine Kd.C_drewN ?_ _) | (with_reducible refine Kd.C_drew ?_))); (case side2 => exact HC1.out); rintro e w' ⟨rfl, ⟨nd, rfl⟩⟩; (try first | exact ⟨rfl, _, World.drewN_drewN _ _ _⟩ | exact ⟨rfl, _, Eq.trans (World.drewN_drewN _ _ _) (congrArg (World.drewN _) (Nat.add_assoc _ _ _))⟩)) | (go_at_call 74; (with_reducible refine (spec_R8Vector.calls k _ _ l0 (wrap64 (4 + (wrap64 (4 * t1583)))) (wrap64 (4 * (wrap64 (1 + t1584)))) t1585 _ ?side1 ?side2 A7.out).mono ?_); (case side1 => repeat (first | exact HR0.out | (with_reducible refine Kd.C_alloc ?_ _) | (with_reducible refine Kd.C_drewN ?_ _) | (with_reducible refine Kd.C_drew ?_))); (case side2 => exact HC0.out); rintro e w11 ⟨v1586, rfl, ho0, hb⟩; have n0_ := Aside0.mk (Kd.R_lower ho0 (below_size (by repeat (first | (with_reducible first | exact HB.out | apply below_alloc | apply pw_below_drewN | apply below_drew1) | exact HB.out)))); have n1_ := Aside0.mk (below_step (by repeat (first | (with_reducible first | exact HB.out | apply below_alloc | apply pw_below_drewN | apply below_drew1) | exact HB.out)) hb); clear HB; have HO1587 := n0_; have HB := n1_; clear n0_ n1_; (try clear hb); (try clear hb2); (try clear hk); (try clear hi); (try clear ho0)) | (go_at_call 75; (with_reducible refine (laws_r8At.calls _ _ l1 41 2 t1588 _ ?side1 ?side2 A8.out).mono ?_); (case side1 => repeat (first | exact (Kd.C_below HR1.out HB.out) | (with_reducible refine Kd.C_alloc ?_ _) | (with_reducible refine Kd.C_drewN ?_ _) | (with_reducible refine Kd.C_drew ?_))); (case side2 => exact HC1.out); rintro e w' ⟨rfl, ⟨nd, rfl⟩⟩; (try first | exact ⟨rfl, _, World.drewN_drewN _ _ _⟩ | exact ⟨rfl, _, Eq.trans (World.drewN_drewN _ _ _) (congrArg (World.drewN _) (Nat.add_assoc _ _ _))⟩); obtain ⟨Ao12, co12, eo12⟩ := Kd.R_slice HO1587.out; subst eo12) | (go_at_call 56; (with_reducible refine (impl_WidenLanes.calls k (wrap64 (4 + (wrap64 (4 * t1583)))) _ _ t1585 (t1588 == 1) t1589 t1590 t1591 _ ?side1 ?side2 A9.out).mono ?_); (case side1 => repeat (first | exact (Kd.R_reads' HO1587.out).2.2 | (with_reducible refine Kd.C_alloc ?_ _) | (with_reducible refine Kd.C_drewN ?_ _) | (with_reducible refine Kd.C_drew ?_))); (case side2 => exact (Kd.R_reads' HO1587.out).2.1); rintro e w13 ⟨v1592, v1594, rfl, ho0, ho1, hb⟩; have n0_ := Aside0.mk (Kd.R_mono (Kd.R_told (Kd.R_told (Kd.R_old (by (with_reducible repeat (first | apply Kd.R_alloc | apply Kd.R_drewN | apply Kd.R_drew)); exact HO1587.out) hb) (Kd.R_base ho0)) (Kd.R_base ho1)) (fun _ h_ => h_.1)); have n1_ := Aside0.mk (Kd.R_lower (Kd.R_new' ho0 (Kd.R_lt (by (with_reducible repeat (first | apply Kd.R_alloc | apply Kd.R_drewN | apply Kd.R_drew)); exact HO1587.out))) (below_size (by repeat (first | (with_reducible first | exact HB.out | apply below_alloc | apply pw_below_drewN | apply below_drew1) | exact HB.out)))); have n2_ := Aside0.mk (Kd.R_lower (Kd.R_new' ho1 (Kd.R_lt (by (with_reducible repeat (first | apply Kd.R_alloc | apply Kd.R_drewN | apply Kd.R_drew)); exact HO1587.out))) (below_size (by repeat (first | (with_reducible first | exact HB.out | apply below_alloc | apply pw_below_drewN | apply below_drew1) | exact HB.out)))); have n3_ := Aside0.mk (below_step (by repeat (first | (with_reducible first | exact HB.out | apply below_alloc | apply pw_below_drewN | apply below_drew1) | exact HB.out)) hb); clear HO1587; clear HB; have HO1587 := n0_; have HO1593 := n1_; have HO1595 := n2_; have HB := n3_; clear n0_ n1_ n2_ n3_; (try clear hb); (try clear hb2); (try clear hk); (try clear hi); (try clear ho0); (try clear ho1))))
 (try simp only [Act.put, List.setIfInBounds_toArray, List.set_cons_zero, List.set_cons_succ])
 go_cut [8, 12] (fun v8 v12 wc => ∃ (kq : Nat) (x12_9 : Int), v12 = .int .i64 x12_9 ∧ Aside0 (laws_FnWidened.j0 kq l1 (wrap64 (4 + (wrap64 (4 * t1583)))) (wrap64 (4 * (wrap64 (1 + t1584)))) t1585 t1589 t1590 t1591 x12_9 = some r) ∧ Aside0 (kq ≤ k) ∧ Aside0 (Kd.R (Kd.int .i64) 2 wc w.heap.size (fun k_ => some k_ ≠ (v1592 : Value).ownBlock ∧ some k_ ≠ (v1594 : Value).ownBlock) (.slice Ao12 t1585.length co12) t1585) ∧ Aside0 (Kd.R (Kd.int .i64) 2 wc w.heap.size (fun k_ => some k_ ≠ ((.slice Ao12 t1585.length co12) : Value).ownBlock ∧ some k_ ≠ (v1594 : Value).ownBlock) v1592 t1589) ∧ Aside0 (Kd.R (Kd.int .i64) 2 wc w.heap.size (fun k_ => some k_ ≠ ((.slice Ao12 t1585.length co12) : Value).ownBlock ∧ some k_ ≠ (v1592 : Value).ownBlock) v1594 t1590) ∧ Aside0 (Below w.heap.size w wc))
 case first =>
  have H := HC10.out
  clear HC10
  by_cases c14 : t1588 = 1
  rotate_left
  ·rw [if_neg c14] at H
   have c14b0 : (t1588 == 1) = false := beq_eq_false_iff_ne.mpr c14
   have c14b1 : (t1588 != 1) = true := bne_iff_ne.mpr c14
   (first | rw [c14b0] | (simp only [i64_w, i32_w]; rw [c14b0]) | skip)
   have H' := Aside0.mk H
   clear H
   go_wp2
   repeat (go_quiet (fail); try go_wp2)
   go_meet
   case rel => exact ⟨_, (1), (by first | rfl | (simp; done) | (simp [*]; done)), H', ⟨by first | omega | exact Nat.le_refl _⟩, ⟨by (with_reducible repeat (first | apply Kd.R_alloc | apply Kd.R_drewN | apply Kd.R_drew)); exact Kd.R_mono HO1587.out (fun _ hk => ⟨hk.1.2, hk.2⟩)⟩, ⟨by (with_reducible repeat (first | apply Kd.R_alloc | apply Kd.R_drewN | apply Kd.R_drew)); exact Kd.R_mono HO1593.out (fun _ hk => ⟨hk.2, hk.1⟩)⟩, ⟨by (with_reducible repeat (first | apply Kd.R_alloc | apply Kd.R_drewN | apply Kd.R_drew)); exact Kd.R_mono HO1595.out (fun _ hk => ⟨hk.2, hk.1⟩)⟩, ⟨by repeat (first | (with_reducible first | exact HB.out | apply below_alloc | apply pw_below_drewN | apply below_drew1) | exact HB.out)⟩⟩
  rw [if_pos c14] at H
  have c14b0 : (t1588 == 1) = true := beq_iff_eq.mpr c14
  have c14b1 : (t1588 != 1) = false := bne_eq_false_iff_eq.mpr c14
  clear c14
  (first | rw [c14b0] | (simp only [i64_w, i32_w]; rw [c14b0]) | skip)
  have H' := Aside0.mk H
  clear H
  go_wp2
  repeat (go_quiet (fail); try go_wp2)
  go_meet
  case rel => exact ⟨_, (2), (by first | rfl | (simp; done) | (simp [*]; done)), H', ⟨by first | omega | exact Nat.le_refl _⟩, ⟨by (with_reducible repeat (first | apply Kd.R_alloc | apply Kd.R_drewN | apply Kd.R_drew)); exact Kd.R_mono HO1587.out (fun _ hk => ⟨hk.1.2, hk.2⟩)⟩, ⟨by (with_reducible repeat (first | apply Kd.R_alloc | apply Kd.R_drewN | apply Kd.R_drew)); exact Kd.R_mono HO1593.out (fun _ hk => ⟨hk.2, hk.1⟩)⟩, ⟨by (with_reducible repeat (first | apply Kd.R_alloc | apply Kd.R_drewN | apply Kd.R_drew)); exact Kd.R_mono HO1595.out (fun _ hk => ⟨hk.2, hk.1⟩)⟩, ⟨by repeat (first | (with_reducible first | exact HB.out | apply below_alloc | apply pw_below_drewN | apply below_drew1) | exact HB.out)⟩⟩
 case rest =>
  as_aux_lemma =>
   clear HC10
   try clear c1
   try clear c2
   try clear p2
   try clear c4
   try clear p6
   try clear c14
   try clear c14b0
   try clear c14b1
   obtain ⟨kq, x12_9, rfl, HA, HJ9, HO_7, HO_9, HO_10, HB⟩ := hcut
   cases kq with
   | zero => exact absurd HA.out (by simp [laws_FnWidened.j0])
   | succ kj9 =>
    have H := HA.out
    clear HA
    simp only [laws_FnWidened.j0] at H
    replace H := Option.bind_eq_some_iff.mp H
    obtain ⟨⟨t1596, t1599⟩, A150, H⟩ := H
    try dsimp only at H
    have A15 := Aside0.mk A150
    clear A150
    replace H := Option.bind_eq_some_iff.mp H
    obtain ⟨⟨t1600, t1603⟩, A160, H⟩ := H
    try dsimp only at H
    have A16 := Aside0.mk A160
    clear A160
    have HC17 := Aside0.mk H
    clear H
    obtain ⟨Ao18, co18, eo18⟩ := Kd.R_slice HO_9.out
    subst eo18
    obtain ⟨Ao19, co19, eo19⟩ := Kd.R_slice HO_10.out
    subst eo19
    go_upto_region 13 with (first | (go_at_call 60; (with_reducible refine (impl_NarrowLanes.calls kj9 (wrap64 (2 * (wrap64 (4 + (wrap64 (4 * t1583)))))) (fun k_ => some k_ = (.slice Ao18 t1589.length co18 : Value).ownBlock) _ _ t1589 (fun k_ => some k_ = (.slice Ao19 t1590.length co19 : Value).ownBlock) _ _ t1590 x12_9 t1596 t1599 _ ?side1 ?side2 A15.out).mono ?_); (case side1 => exact Kd.R_V (Kd.R_tight rfl (HO_9.out))); (case side2 => exact Kd.R_V (Kd.R_tight rfl (HO_10.out))); rintro e w20 ⟨v1597, rfl, ho0, hb⟩; have n0_ := Aside0.mk (Kd.R_elder' (by (with_reducible repeat (first | apply Kd.R_alloc | apply Kd.R_drewN | apply Kd.R_drew)); exact HO_7.out) (Kd.R_base ho0) hb); have n1_ := Aside0.mk (Kd.R_elder' (by (with_reducible repeat (first | apply Kd.R_alloc | apply Kd.R_drewN | apply Kd.R_drew)); exact HO_9.out) (Kd.R_base ho0) hb); have n2_ := Aside0.mk (Kd.R_elder' (by (with_reducible repeat (first | apply Kd.R_alloc | apply Kd.R_drewN | apply Kd.R_drew)); exact HO_10.out) (Kd.R_base ho0) hb); have n3_ := Aside0.mk (Kd.R_lower (Kd.R_new' (Kd.R_new' (Kd.R_new' (Kd.R_mono (ok' := fun k_ => True) ho0 (fun _ hk_ => trivial)) (Kd.R_lt (by (with_reducible repeat (first | apply Kd.R_alloc | apply Kd.R_drewN | apply Kd.R_drew)); exact HO_7.out))) (Kd.R_lt (by (with_reducible repeat (first | apply Kd.R_alloc | apply Kd.R_drewN | apply Kd.R_drew)); exact HO_9.out))) (Kd.R_lt (by (with_reducible repeat (first | apply Kd.R_alloc | apply Kd.R_drewN | apply Kd.R_drew)); exact HO_10.out))) (below_size (by repeat (first | (with_reducible first | exact HB.out | apply below_alloc | apply pw_below_drewN | apply below_drew1) | exact HB.out)))); have n4_ := Aside0.mk (below_step (by repeat (first | (with_reducible first | exact HB.out | apply below_alloc | apply pw_below_drewN | apply below_drew1) | exact HB.out)) hb); clear HO_7; clear HO_9; clear HO_10; clear HB; have HO_7 := n0_; have HO_9 := n1_; have HO_10 := n2_; have HO1598 := n3_; have HB := n4_; clear n0_ n1_ n2_ n3_ n4_; (try clear hb); (try clear hb2); (try clear hk); (try clear hi); (try clear ho0)) | (go_at_call 60; (with_reducible refine (impl_NarrowLanes.calls kj9 (wrap64 (2 * (wrap64 (4 + (wrap64 (4 * t1583)))))) (fun k_ => some k_ = (.slice Ao18 t1589.length co18 : Value).ownBlock) _ _ t1589 (fun k_ => some k_ = (.slice Ao19 t1590.length co19 : Value).ownBlock) _ _ t1590 0 t1600 t1603 _ ?side1 ?side2 A16.out).mono ?_); (case side1 => exact Kd.R_V (Kd.R_tight rfl (HO_9.out))); (case side2 => exact Kd.R_V (Kd.R_tight rfl (HO_10.out))); rintro e w21 ⟨v1601, rfl, ho0, hb⟩; have n0_ := Aside0.mk (Kd.R_elder' (by (with_reducible repeat (first | apply Kd.R_alloc | apply Kd.R_drewN | apply Kd.R_drew)); exact HO_7.out) (Kd.R_base ho0) hb); have n1_ := Aside0.mk (Kd.R_elder' (by (with_reducible repeat (first | apply Kd.R_alloc | apply Kd.R_drewN | apply Kd.R_drew)); exact HO_9.out) (Kd.R_base ho0) hb); have n2_ := Aside0.mk (Kd.R_elder' (by (with_reducible repeat (first | apply Kd.R_alloc | apply Kd.R_drewN | apply Kd.R_drew)); exact HO_10.out) (Kd.R_base ho0) hb); have n3_ := Aside0.mk (Kd.R_elder' (by (with_reducible repeat (first | apply Kd.R_alloc | apply Kd.R_drewN | apply Kd.R_drew)); exact HO1598.out) (Kd.R_base ho0) hb); have n4_ := Aside0.mk (Kd.R_lower (Kd.R_new' (Kd.R_new' (Kd.R_new' (Kd.R_new' (Kd.R_mono (ok' := fun k_ => True) ho0 (fun _ hk_ => trivial)) (Kd.R_lt (by (with_reducible repeat (first | apply Kd.R_alloc | apply Kd.R_drewN | apply Kd.R_drew)); exact HO_7.out))) (Kd.R_lt (by (with_reducible repeat (first | apply Kd.R_alloc | apply Kd.R_drewN | apply Kd.R_drew)); exact HO_9.out))) (Kd.R_lt (by (with_reducible repeat (first | apply Kd.R_alloc | apply Kd.R_drewN | apply Kd.R_drew)); exact HO_10.out))) (Kd.R_lt (by (with_reducible repeat (first | apply Kd.R_alloc | apply Kd.R_drewN | apply Kd.R_drew)); exact HO1598.out))) (below_size (by repeat (first | (with_reducible first | exact HB.out | apply below_alloc | apply pw_below_drewN | apply below_drew1) | exact HB.out)))); have n5_ := Aside0.mk (below_step (by repeat (first | (with_reducible first | exact HB.out | apply below_alloc | apply pw_below_drewN | apply below_drew1) | exact HB.out)) hb); clear HO_7; clear HO_9; clear HO_10; clear HO1598; clear HB; have HO_7 := n0_; have HO_9 := n1_; have HO_10 := n2_; have HO1598 := n3_; have HO1602 := n4_; have HB := n5_; clear n0_ n1_ n2_ n3_ n4_ n5_; (try clear hb); (try clear hb2); (try clear hk); (try clear hi); (try clear ho0)))
    repeat (go_quiet (first | (go_at_call 60; (with_reducible refine (impl_NarrowLanes.calls kj9 (wrap64 (2 * (wrap64 (4 + (wrap64 (4 * t1583)))))) (fun k_ => some k_ = (.slice Ao18 t1589.length co18 : Value).ownBlock) _ _ t1589 (fun k_ => some k_ = (.slice Ao19 t1590.length co19 : Value).ownBlock) _ _ t1590 x12_9 t1596 t1599 _ ?side1 ?side2 A15.out).mono ?_); (case side1 => exact Kd.R_V (Kd.R_tight rfl (HO_9.out))); (case side2 => exact Kd.R_V (Kd.R_tight rfl (HO_10.out))); rintro e w20 ⟨v1597, rfl, ho0, hb⟩; have n0_ := Aside0.mk (Kd.R_elder' (by (with_reducible repeat (first | apply Kd.R_alloc | apply Kd.R_drewN | apply Kd.R_drew)); exact HO_7.out) (Kd.R_base ho0) hb); have n1_ := Aside0.mk (Kd.R_elder' (by (with_reducible repeat (first | apply Kd.R_alloc | apply Kd.R_drewN | apply Kd.R_drew)); exact HO_9.out) (Kd.R_base ho0) hb); have n2_ := Aside0.mk (Kd.R_elder' (by (with_reducible repeat (first | apply Kd.R_alloc | apply Kd.R_drewN | apply Kd.R_drew)); exact HO_10.out) (Kd.R_base ho0) hb); have n3_ := Aside0.mk (Kd.R_lower (Kd.R_new' (Kd.R_new' (Kd.R_new' (Kd.R_mono (ok' := fun k_ => True) ho0 (fun _ hk_ => trivial)) (Kd.R_lt (by (with_reducible repeat (first | apply Kd.R_alloc | apply Kd.R_drewN | apply Kd.R_drew)); exact HO_7.out))) (Kd.R_lt (by (with_reducible repeat (first | apply Kd.R_alloc | apply Kd.R_drewN | apply Kd.R_drew)); exact HO_9.out))) (Kd.R_lt (by (with_reducible repeat (first | apply Kd.R_alloc | apply Kd.R_drewN | apply Kd.R_drew)); exact HO_10.out))) (below_size (by repeat (first | (with_reducible first | exact HB.out | apply below_alloc | apply pw_below_drewN | apply below_drew1) | exact HB.out)))); have n4_ := Aside0.mk (below_step (by repeat (first | (with_reducible first | exact HB.out | apply below_alloc | apply pw_below_drewN | apply below_drew1) | exact HB.out)) hb); clear HO_7; clear HO_9; clear HO_10; clear HB; have HO_7 := n0_; have HO_9 := n1_; have HO_10 := n2_; have HO1598 := n3_; have HB := n4_; clear n0_ n1_ n2_ n3_ n4_; (try clear hb); (try clear hb2); (try clear hk); (try clear hi); (try clear ho0)) | (go_at_call 60; (with_reducible refine (impl_NarrowLanes.calls kj9 (wrap64 (2 * (wrap64 (4 + (wrap64 (4 * t1583)))))) (fun k_ => some k_ = (.slice Ao18 t1589.length co18 : Value).ownBlock) _ _ t1589 (fun k_ => some k_ = (.slice Ao19 t1590.length co19 : Value).ownBlock) _ _ t1590 0 t1600 t1603 _ ?side1 ?side2 A16.out).mono ?_); (case side1 => exact Kd.R_V (Kd.R_tight rfl (HO_9.out))); (case side2 => exact Kd.R_V (Kd.R_tight rfl (HO_10.out))); rintro e w21 ⟨v1601, rfl, ho0, hb⟩; have n0_ := Aside0.mk (Kd.R_elder' (by (with_reducible repeat (first | apply Kd.R_alloc | apply Kd.R_drewN | apply Kd.R_drew)); exact HO_7.out) (Kd.R_base ho0) hb); have n1_ := Aside0.mk (Kd.R_elder' (by (with_reducible repeat (first | apply Kd.R_alloc | apply Kd.R_drewN | apply Kd.R_drew)); exact HO_9.out) (Kd.R_base ho0) hb); have n2_ := Aside0.mk (Kd.R_elder' (by (with_reducible repeat (first | apply Kd.R_alloc | apply Kd.R_drewN | apply Kd.R_drew)); exact HO_10.out) (Kd.R_base ho0) hb); have n3_ := Aside0.mk (Kd.R_elder' (by (with_reducible repeat (first | apply Kd.R_alloc | apply Kd.R_drewN | apply Kd.R_drew)); exact HO1598.out) (Kd.R_base ho0) hb); have n4_ := Aside0.mk (Kd.R_lower (Kd.R_new' (Kd.R_new' (Kd.R_new' (Kd.R_new' (Kd.R_mono (ok' := fun k_ => True) ho0 (fun _ hk_ => trivial)) (Kd.R_lt (by (with_reducible repeat (first | apply Kd.R_alloc | apply Kd.R_drewN | apply Kd.R_drew)); exact HO_7.out))) (Kd.R_lt (by (with_reducible repeat (first | apply Kd.R_alloc | apply Kd.R_drewN | apply Kd.R_drew)); exact HO_9.out))) (Kd.R_lt (by (with_reducible repeat (first | apply Kd.R_alloc | apply Kd.R_drewN | apply Kd.R_drew)); exact HO_10.out))) (Kd.R_lt (by (with_reducible repeat (first | apply Kd.R_alloc | apply Kd.R_drewN | apply Kd.R_drew)); exact HO1598.out))) (below_size (by repeat (first | (with_reducible first | exact HB.out | apply below_alloc | apply pw_below_drewN | apply below_drew1) | exact HB.out)))); have n5_ := Aside0.mk (below_step (by repeat (first | (with_reducible first | exact HB.out | apply below_alloc | apply pw_below_drewN | apply below_drew1) | exact HB.out)) hb); clear HO_7; clear HO_9; clear HO_10; clear HO1598; clear HB; have HO_7 := n0_; have HO_9 := n1_; have HO_10 := n2_; have HO1598 := n3_; have HO1602 := n4_; have HB := n5_; clear n0_ n1_ n2_ n3_ n4_ n5_; (try clear hb); (try clear hb2); (try clear hk); (try clear hi); (try clear ho0))); go_upto_region 13 with (first | (go_at_call 60; (with_reducible refine (impl_NarrowLanes.calls kj9 (wrap64 (2 * (wrap64 (4 + (wrap64 (4 * t1583)))))) (fun k_ => some k_ = (.slice Ao18 t1589.length co18 : Value).ownBlock) _ _ t1589 (fun k_ => some k_ = (.slice Ao19 t1590.length co19 : Value).ownBlock) _ _ t1590 x12_9 t1596 t1599 _ ?side1 ?side2 A15.out).mono ?_); (case side1 => exact Kd.R_V (Kd.R_tight rfl (HO_9.out))); (case side2 => exact Kd.R_V (Kd.R_tight rfl (HO_10.out))); rintro e w20 ⟨v1597, rfl, ho0, hb⟩; have n0_ := Aside0.mk (Kd.R_elder' (by (with_reducible repeat (first | apply Kd.R_alloc | apply Kd.R_drewN | apply Kd.R_drew)); exact HO_7.out) (Kd.R_base ho0) hb); have n1_ := Aside0.mk (Kd.R_elder' (by (with_reducible repeat (first | apply Kd.R_alloc | apply Kd.R_drewN | apply Kd.R_drew)); exact HO_9.out) (Kd.R_base ho0) hb); have n2_ := Aside0.mk (Kd.R_elder' (by (with_reducible repeat (first | apply Kd.R_alloc | apply Kd.R_drewN | apply Kd.R_drew)); exact HO_10.out) (Kd.R_base ho0) hb); have n3_ := Aside0.mk (Kd.R_lower (Kd.R_new' (Kd.R_new' (Kd.R_new' (Kd.R_mono (ok' := fun k_ => True) ho0 (fun _ hk_ => trivial)) (Kd.R_lt (by (with_reducible repeat (first | apply Kd.R_alloc | apply Kd.R_drewN | apply Kd.R_drew)); exact HO_7.out))) (Kd.R_lt (by (with_reducible repeat (first | apply Kd.R_alloc | apply Kd.R_drewN | apply Kd.R_drew)); exact HO_9.out))) (Kd.R_lt (by (with_reducible repeat (first | apply Kd.R_alloc | apply Kd.R_drewN | apply Kd.R_drew)); exact HO_10.out))) (below_size (by repeat (first | (with_reducible first | exact HB.out | apply below_alloc | apply pw_below_drewN | apply below_drew1) | exact HB.out)))); have n4_ := Aside0.mk (below_step (by repeat (first | (with_reducible first | exact HB.out | apply below_alloc | apply pw_below_drewN | apply below_drew1) | exact HB.out)) hb); clear HO_7; clear HO_9; clear HO_10; clear HB; have HO_7 := n0_; have HO_9 := n1_; have HO_10 := n2_; have HO1598 := n3_; have HB := n4_; clear n0_ n1_ n2_ n3_ n4_; (try clear hb); (try clear hb2); (try clear hk); (try clear hi); (try clear ho0)) | (go_at_call 60; (with_reducible refine (impl_NarrowLanes.calls kj9 (wrap64 (2 * (wrap64 (4 + (wrap64 (4 * t1583)))))) (fun k_ => some k_ = (.slice Ao18 t1589.length co18 : Value).ownBlock) _ _ t1589 (fun k_ => some k_ = (.slice Ao19 t1590.length co19 : Value).ownBlock) _ _ t1590 0 t1600 t1603 _ ?side1 ?side2 A16.out).mono ?_); (case side1 => exact Kd.R_V (Kd.R_tight rfl (HO_9.out))); (case side2 => exact Kd.R_V (Kd.R_tight rfl (HO_10.out))); rintro e w21 ⟨v1601, rfl, ho0, hb⟩; have n0_ := Aside0.mk (Kd.R_elder' (by (with_reducible repeat (first | apply Kd.R_alloc | apply Kd.R_drewN | apply Kd.R_drew)); exact HO_7.out) (Kd.R_base ho0) hb); have n1_ := Aside0.mk (Kd.R_elder' (by (with_reducible repeat (first | apply Kd.R_alloc | apply Kd.R_drewN | apply Kd.R_drew)); exact HO_9.out) (Kd.R_base ho0) hb); have n2_ := Aside0.mk (Kd.R_elder' (by (with_reducible repeat (first | apply Kd.R_alloc | apply Kd.R_drewN | apply Kd.R_drew)); exact HO_10.out) (Kd.R_base ho0) hb); have n3_ := Aside0.mk (Kd.R_elder' (by (with_reducible repeat (first | apply Kd.R_alloc | apply Kd.R_drewN | apply Kd.R_drew)); exact HO1598.out) (Kd.R_base ho0) hb); have n4_ := Aside0.mk (Kd.R_lower (Kd.R_new' (Kd.R_new' (Kd.R_new' (Kd.R_new' (Kd.R_mono (ok' := fun k_ => True) ho0 (fun _ hk_ => trivial)) (Kd.R_lt (by (with_reducible repeat (first | apply Kd.R_alloc | apply Kd.R_drewN | apply Kd.R_drew)); exact HO_7.out))) (Kd.R_lt (by (with_reducible repeat (first | apply Kd.R_alloc | apply Kd.R_drewN | apply Kd.R_drew)); exact HO_9.out))) (Kd.R_lt (by (with_reducible repeat (first | apply Kd.R_alloc | apply Kd.R_drewN | apply Kd.R_drew)); exact HO_10.out))) (Kd.R_lt (by (with_reducible repeat (first | apply Kd.R_alloc | apply Kd.R_drewN | apply Kd.R_drew)); exact HO1598.out))) (below_size (by repeat (first | (with_reducible first | exact HB.out | apply below_alloc | apply pw_below_drewN | apply below_drew1) | exact HB.out)))); have n5_ := Aside0.mk (below_step (by repeat (first | (with_reducible first | exact HB.out | apply below_alloc | apply pw_below_drewN | apply below_drew1) | exact HB.out)) hb); clear HO_7; clear HO_9; clear HO_10; clear HO1598; clear HB; have HO_7 := n0_; have HO_9 := n1_; have HO_10 := n2_; have HO1598 := n3_; have HO1602 := n4_; have HB := n5_; clear n0_ n1_ n2_ n3_ n4_ n5_; (try clear hb); (try clear hb2); (try clear hk); (try clear hi); (try clear ho0))))
    (try simp only [Act.put, List.setIfInBounds_toArray, List.set_cons_zero, List.set_cons_succ])
    go_cut [91] (fun v91 wc => ∃ (kq : Nat) (x91_16 : Bool), v91 = .bool x91_16 ∧ Aside0 (laws_FnWidened.j1 kq l1 (wrap64 (4 + (wrap64 (4 * t1583)))) (wrap64 (4 * (wrap64 (1 + t1584)))) x91_16 = some r) ∧ Aside0 (kq ≤ kj9) ∧ Aside0 (Below w.heap.size w wc))
    case first =>
     have H := HC17.out
     clear HC17
     by_cases c22 : t1591 = true
     rotate_left
     ·replace c22 := Bool.eq_false_iff.mpr c22
      subst c22
      rw [if_neg (show ¬ (false = true) by decide)] at H
      exact (laws_FnWidened.j1_no H HRT.out).elim
     subst c22
     rw [if_pos rfl] at H
     by_cases c23 : t1599 = true
     rotate_left
     ·replace c23 := Bool.eq_false_iff.mpr c23
      subst c23
      rw [if_neg (show ¬ (false = true) by decide)] at H
      exact (laws_FnWidened.j1_no H HRT.out).elim
     subst c23
     rw [if_pos rfl] at H
     by_cases c24 : t1603 = true
     rotate_left
     ·replace c24 := Bool.eq_false_iff.mpr c24
      subst c24
      rw [if_neg (show ¬ (false = true) by decide)] at H
      exact (laws_FnWidened.j1_no H HRT.out).elim
     subst c24
     rw [if_pos rfl] at H
     replace H := Option.bind_eq_some_iff.mp H
     obtain ⟨t1604, A250, H⟩ := H
     try dsimp only at H
     have A25 := Aside0.mk A250
     clear A250
     by_cases c26 : t1604 = true
     rotate_left
     ·replace c26 := Bool.eq_false_iff.mpr c26
      subst c26
      rw [if_neg (show ¬ (false = true) by decide)] at H
      exact (laws_FnWidened.j1_no H HRT.out).elim
     subst c26
     rw [if_pos rfl] at H
     replace H := Option.bind_eq_some_iff.mp H
     obtain ⟨t1605, A270, H⟩ := H
     try dsimp only at H
     have A27 := Aside0.mk A270
     clear A270
     have H' := Aside0.mk H
     clear H
     obtain ⟨Ao28, co28, eo28⟩ := Kd.R_slice HO1598.out
     subst eo28
     go_wp2_with (first | (go_at_call 76; (with_reducible refine (laws_r8Same.calls kj9 _ _ t1596 _ _ t1585 true _ ?side1 ?side2 ?side3 ?side4 A25.out).mono ?_); (case side1 => repeat (first | exact (Kd.R_reads' HO1598.out).2.2 | (with_reducible refine Kd.C_alloc ?_ _) | (with_reducible refine Kd.C_drewN ?_ _) | (with_reducible refine Kd.C_drew ?_))); (case side2 => exact (Kd.R_reads' HO1598.out).2.1); (case side3 => repeat (first | exact (Kd.R_reads' HO_7.out).2.2 | (with_reducible refine Kd.C_alloc ?_ _) | (with_reducible refine Kd.C_drewN ?_ _) | (with_reducible refine Kd.C_drew ?_))); (case side4 => exact (Kd.R_reads' HO_7.out).2.1); rintro e w' ⟨rfl, ⟨nd, rfl⟩⟩; (try first | exact ⟨rfl, _, World.drewN_drewN _ _ _⟩ | exact ⟨rfl, _, Eq.trans (World.drewN_drewN _ _ _) (congrArg (World.drewN _) (Nat.add_assoc _ _ _))⟩); obtain ⟨Ao29, co29, eo29⟩ := Kd.R_slice HO1602.out; subst eo29) | (go_at_call 76; (with_reducible refine (laws_r8Same.calls kj9 _ _ t1600 _ _ t1585 t1605 _ ?side1 ?side2 ?side3 ?side4 A27.out).mono ?_); (case side1 => repeat (first | exact (Kd.R_reads' HO1602.out).2.2 | (with_reducible refine Kd.C_alloc ?_ _) | (with_reducible refine Kd.C_drewN ?_ _) | (with_reducible refine Kd.C_drew ?_))); (case side2 => exact (Kd.R_reads' HO1602.out).2.1); (case side3 => repeat (first | exact (Kd.R_reads' HO_7.out).2.2 | (with_reducible refine Kd.C_alloc ?_ _) | (with_reducible refine Kd.C_drewN ?_ _) | (with_reducible refine Kd.C_drew ?_))); (case side4 => exact (Kd.R_reads' HO_7.out).2.1); rintro e w' ⟨rfl, ⟨nd, rfl⟩⟩; (try first | exact ⟨rfl, _, World.drewN_drewN _ _ _⟩ | exact ⟨rfl, _, Eq.trans (World.drewN_drewN _ _ _) (congrArg (World.drewN _) (Nat.add_assoc _ _ _))⟩)))
     repeat (go_quiet (first | (go_at_call 76; (with_reducible refine (laws_r8Same.calls kj9 _ _ t1596 _ _ t1585 true _ ?side1 ?side2 ?side3 ?side4 A25.out).mono ?_); (case side1 => repeat (first | exact (Kd.R_reads' HO1598.out).2.2 | (with_reducible refine Kd.C_alloc ?_ _) | (with_reducible refine Kd.C_drewN ?_ _) | (with_reducible refine Kd.C_drew ?_))); (case side2 => exact (Kd.R_reads' HO1598.out).2.1); (case side3 => repeat (first | exact (Kd.R_reads' HO_7.out).2.2 | (with_reducible refine Kd.C_alloc ?_ _) | (with_reducible refine Kd.C_drewN ?_ _) | (with_reducible refine Kd.C_drew ?_))); (case side4 => exact (Kd.R_reads' HO_7.out).2.1); rintro e w' ⟨rfl, ⟨nd, rfl⟩⟩; (try first | exact ⟨rfl, _, World.drewN_drewN _ _ _⟩ | exact ⟨rfl, _, Eq.trans (World.drewN_drewN _ _ _) (congrArg (World.drewN _) (Nat.add_assoc _ _ _))⟩); obtain ⟨Ao29, co29, eo29⟩ := Kd.R_slice HO1602.out; subst eo29) | (go_at_call 76; (with_reducible refine (laws_r8Same.calls kj9 _ _ t1600 _ _ t1585 t1605 _ ?side1 ?side2 ?side3 ?side4 A27.out).mono ?_); (case side1 => repeat (first | exact (Kd.R_reads' HO1602.out).2.2 | (with_reducible refine Kd.C_alloc ?_ _) | (with_reducible refine Kd.C_drewN ?_ _) | (with_reducible refine Kd.C_drew ?_))); (case side2 => exact (Kd.R_reads' HO1602.out).2.1); (case side3 => repeat (first | exact (Kd.R_reads' HO_7.out).2.2 | (with_reducible refine Kd.C_alloc ?_ _) | (with_reducible refine Kd.C_drewN ?_ _) | (with_reducible refine Kd.C_drew ?_))); (case side4 => exact (Kd.R_reads' HO_7.out).2.1); rintro e w' ⟨rfl, ⟨nd, rfl⟩⟩; (try first | exact ⟨rfl, _, World.drewN_drewN _ _ _⟩ | exact ⟨rfl, _, Eq.trans (World.drewN_drewN _ _ _) (congrArg (World.drewN _) (Nat.add_assoc _ _ _))⟩))); try go_wp2_with (first | (go_at_call 76; (with_reducible refine (laws_r8Same.calls kj9 _ _ t1596 _ _ t1585 true _ ?side1 ?side2 ?side3 ?side4 A25.out).mono ?_); (case side1 => repeat (first | exact (Kd.R_reads' HO1598.out).2.2 | (with_reducible refine Kd.C_alloc ?_ _) | (with_reducible refine Kd.C_drewN ?_ _) | (with_reducible refine Kd.C_drew ?_))); (case side2 => exact (Kd.R_reads' HO1598.out).2.1); (case side3 => repeat (first | exact (Kd.R_reads' HO_7.out).2.2 | (with_reducible refine Kd.C_alloc ?_ _) | (with_reducible refine Kd.C_drewN ?_ _) | (with_reducible refine Kd.C_drew ?_))); (case side4 => exact (Kd.R_reads' HO_7.out).2.1); rintro e w' ⟨rfl, ⟨nd, rfl⟩⟩; (try first | exact ⟨rfl, _, World.drewN_drewN _ _ _⟩ | exact ⟨rfl, _, Eq.trans (World.drewN_drewN _ _ _) (congrArg (World.drewN _) (Nat.add_assoc _ _ _))⟩); obtain ⟨Ao29, co29, eo29⟩ := Kd.R_slice HO1602.out; subst eo29) | (go_at_call 76; (with_reducible refine (laws_r8Same.calls kj9 _ _ t1600 _ _ t1585 t1605 _ ?side1 ?side2 ?side3 ?side4 A27.out).mono ?_); (case side1 => repeat (first | exact (Kd.R_reads' HO1602.out).2.2 | (with_reducible refine Kd.C_alloc ?_ _) | (with_reducible refine Kd.C_drewN ?_ _) | (with_reducible refine Kd.C_drew ?_))); (case side2 => exact (Kd.R_reads' HO1602.out).2.1); (case side3 => repeat (first | exact (Kd.R_reads' HO_7.out).2.2 | (with_reducible refine Kd.C_alloc ?_ _) | (with_reducible refine Kd.C_drewN ?_ _) | (with_reducible refine Kd.C_drew ?_))); (case side4 => exact (Kd.R_reads' HO_7.out).2.1); rintro e w' ⟨rfl, ⟨nd, rfl⟩⟩; (try first | exact ⟨rfl, _, World.drewN_drewN _ _ _⟩ | exact ⟨rfl, _, Eq.trans (World.drewN_drewN _ _ _) (congrArg (World.drewN _) (Nat.add_assoc _ _ _))⟩))))
     go_meet
     case rel => exact ⟨_, (!t1605), (by first | rfl | (simp; done) | (simp [*]; done)), H', ⟨by have := HJ9.out; first | omega | exact Nat.le_refl _⟩, ⟨by repeat (first | (with_reducible first | exact HB.out | apply below_alloc | apply pw_below_drewN | apply below_drew1) | exact HB.out)⟩⟩
    case rest =>
     as_aux_lemma =>
      clear HC17
      try clear c1
      try clear c2
      try clear p2
      try clear c4
      try clear p6
      try clear c14
      try clear c14b0
      try clear c14b1
      try clear c22
      try clear c23
      try clear c24
      try clear c26
      try clear p2
      try clear p6
      obtain ⟨kq, x91_16, rfl, HA, HJ16, HB⟩ := hcut
      cases kq with
      | zero => exact absurd HA.out (by simp [laws_FnWidened.j1])
      | succ kj16 =>
       have H := HA.out
       clear HA
       simp only [laws_FnWidened.j1] at H
       by_cases c31 : x91_16 = true
       ·subst c31
        rw [if_pos rfl] at H
        obtain rfl := Option.some.inj H
        exact absurd HRT.out (by decide)
       replace c31 := Bool.eq_false_iff.mpr c31
       subst c31
       rw [if_neg (show ¬ (false = true) by decide)] at H
       replace H := Option.bind_eq_some_iff.mp H
       obtain ⟨t1606, A320, H⟩ := H
       try dsimp only at H
       have A32 := Aside0.mk A320
       clear A320
       replace H := Option.bind_eq_some_iff.mp H
       obtain ⟨⟨t1609, t1612⟩, A330, H⟩ := H
       try dsimp only at H
       have A33 := Aside0.mk A330
       clear A330
       have HC34 := Aside0.mk H
       clear H
       go_upto_region 17 with (first | (go_at_call 74; (with_reducible refine (spec_R8Vector.calls kj16 _ _ l1 (wrap64 (2 * (wrap64 (4 + (wrap64 (4 * t1583)))))) (wrap64 (4 * (wrap64 (1 + t1584)))) t1606 _ ?side1 ?side2 A32.out).mono ?_); (case side1 => repeat (first | exact (Kd.C_below HR1.out HB.out) | (with_reducible refine Kd.C_alloc ?_ _) | (with_reducible refine Kd.C_drewN ?_ _) | (with_reducible refine Kd.C_drew ?_))); (case side2 => exact HC1.out); rintro e w35 ⟨v1607, rfl, ho0, hb⟩; have n0_ := Aside0.mk (Kd.R_lower ho0 (below_size (by repeat (first | (with_reducible first | exact HB.out | apply below_alloc | apply pw_below_drewN | apply below_drew1) | exact HB.out)))); have n1_ := Aside0.mk (below_step (by repeat (first | (with_reducible first | exact HB.out | apply below_alloc | apply pw_below_drewN | apply below_drew1) | exact HB.out)) hb); clear HB; have HO1608 := n0_; have HB := n1_; clear n0_ n1_; (try clear hb); (try clear hb2); (try clear hk); (try clear hi); (try clear ho0); obtain ⟨Ao36, co36, eo36⟩ := Kd.R_slice HO1608.out; subst eo36) | (go_at_call 60; (with_reducible refine (impl_NarrowLanes.calls kj16 (wrap64 (2 * (wrap64 (4 + (wrap64 (4 * t1583)))))) (fun k_ => some k_ = (.slice Ao36 t1606.length co36 : Value).ownBlock) _ _ t1606 (fun k_ => some k_ = (.slice Ao36 t1606.length co36 : Value).ownBlock) _ _ t1606 2 t1609 t1612 _ ?side1 ?side2 A33.out).mono ?_); (case side1 => exact Kd.R_V (Kd.R_tight rfl (HO1608.out))); (case side2 => exact Kd.R_V (Kd.R_tight rfl (HO1608.out))); rintro e w37 ⟨v1610, rfl, ho0, hb⟩; have n0_ := Aside0.mk (Kd.R_elder' (by (with_reducible repeat (first | apply Kd.R_alloc | apply Kd.R_drewN | apply Kd.R_drew)); exact HO1608.out) (Kd.R_base ho0) hb); have n1_ := Aside0.mk (Kd.R_lower (Kd.R_new' (Kd.R_mono (ok' := fun k_ => True) ho0 (fun _ hk_ => trivial)) (Kd.R_lt (by (with_reducible repeat (first | apply Kd.R_alloc | apply Kd.R_drewN | apply Kd.R_drew)); exact HO1608.out))) (below_size (by repeat (first | (with_reducible first | exact HB.out | apply below_alloc | apply pw_below_drewN | apply below_drew1) | exact HB.out)))); have n2_ := Aside0.mk (below_step (by repeat (first | (with_reducible first | exact HB.out | apply below_alloc | apply pw_below_drewN | apply below_drew1) | exact HB.out)) hb); clear HO1608; clear HB; have HO1608 := n0_; have HO1611 := n1_; have HB := n2_; clear n0_ n1_ n2_; (try clear hb); (try clear hb2); (try clear hk); (try clear hi); (try clear ho0)))
       repeat (go_quiet (first | (go_at_call 74; (with_reducible refine (spec_R8Vector.calls kj16 _ _ l1 (wrap64 (2 * (wrap64 (4 + (wrap64 (4 * t1583)))))) (wrap64 (4 * (wrap64 (1 + t1584)))) t1606 _ ?side1 ?side2 A32.out).mono ?_); (case side1 => repeat (first | exact (Kd.C_below HR1.out HB.out) | (with_reducible refine Kd.C_alloc ?_ _) | (with_reducible refine Kd.C_drewN ?_ _) | (with_reducible refine Kd.C_drew ?_))); (case side2 => exact HC1.out); rintro e w35 ⟨v1607, rfl, ho0, hb⟩; have n0_ := Aside0.mk (Kd.R_lower ho0 (below_size (by repeat (first | (with_reducible first | exact HB.out | apply below_alloc | apply pw_below_drewN | apply below_drew1) | exact HB.out)))); have n1_ := Aside0.mk (below_step (by repeat (first | (with_reducible first | exact HB.out | apply below_alloc | apply pw_below_drewN | apply below_drew1) | exact HB.out)) hb); clear HB; have HO1608 := n0_; have HB := n1_; clear n0_ n1_; (try clear hb); (try clear hb2); (try clear hk); (try clear hi); (try clear ho0); obtain ⟨Ao36, co36, eo36⟩ := Kd.R_slice HO1608.out; subst eo36) | (go_at_call 60; (with_reducible refine (impl_NarrowLanes.calls kj16 (wrap64 (2 * (wrap64 (4 + (wrap64 (4 * t1583)))))) (fun k_ => some k_ = (.slice Ao36 t1606.length co36 : Value).ownBlock) _ _ t1606 (fun k_ => some k_ = (.slice Ao36 t1606.length co36 : Value).ownBlock) _ _ t1606 2 t1609 t1612 _ ?side1 ?side2 A33.out).mono ?_); (case side1 => exact Kd.R_V (Kd.R_tight rfl (HO1608.out))); (case side2 => exact Kd.R_V (Kd.R_tight rfl (HO1608.out))); rintro e w37 ⟨v1610, rfl, ho0, hb⟩; have n0_ := Aside0.mk (Kd.R_elder' (by (with_reducible repeat (first | apply Kd.R_alloc | apply Kd.R_drewN | apply Kd.R_drew)); exact HO1608.out) (Kd.R_base ho0) hb); have n1_ := Aside0.mk (Kd.R_lower (Kd.R_new' (Kd.R_mono (ok' := fun k_ => True) ho0 (fun _ hk_ => trivial)) (Kd.R_lt (by (with_reducible repeat (first | apply Kd.R_alloc | apply Kd.R_drewN | apply Kd.R_drew)); exact HO1608.out))) (below_size (by repeat (first | (with_reducible first | exact HB.out | apply below_alloc | apply pw_below_drewN | apply below_drew1) | exact HB.out)))); have n2_ := Aside0.mk (below_step (by repeat (first | (with_reducible first | exact HB.out | apply below_alloc | apply pw_below_drewN | apply below_drew1) | exact HB.out)) hb); clear HO1608; clear HB; have HO1608 := n0_; have HO1611 := n1_; have HB := n2_; clear n0_ n1_ n2_; (try clear hb); (try clear hb2); (try clear hk); (try clear hi); (try clear ho0))); go_upto_region 17 with (first | (go_at_call 74; (with_reducible refine (spec_R8Vector.calls kj16 _ _ l1 (wrap64 (2 * (wrap64 (4 + (wrap64 (4 * t1583)))))) (wrap64 (4 * (wrap64 (1 + t1584)))) t1606 _ ?side1 ?side2 A32.out).mono ?_); (case side1 => repeat (first | exact (Kd.C_below HR1.out HB.out) | (with_reducible refine Kd.C_alloc ?_ _) | (with_reducible refine Kd.C_drewN ?_ _) | (with_reducible refine Kd.C_drew ?_))); (case side2 => exact HC1.out); rintro e w35 ⟨v1607, rfl, ho0, hb⟩; have n0_ := Aside0.mk (Kd.R_lower ho0 (below_size (by repeat (first | (with_reducible first | exact HB.out | apply below_alloc | apply pw_below_drewN | apply below_drew1) | exact HB.out)))); have n1_ := Aside0.mk (below_step (by repeat (first | (with_reducible first | exact HB.out | apply below_alloc | apply pw_below_drewN | apply below_drew1) | exact HB.out)) hb); clear HB; have HO1608 := n0_; have HB := n1_; clear n0_ n1_; (try clear hb); (try clear hb2); (try clear hk); (try clear hi); (try clear ho0); obtain ⟨Ao36, co36, eo36⟩ := Kd.R_slice HO1608.out; subst eo36) | (go_at_call 60; (with_reducible refine (impl_NarrowLanes.calls kj16 (wrap64 (2 * (wrap64 (4 + (wrap64 (4 * t1583)))))) (fun k_ => some k_ = (.slice Ao36 t1606.length co36 : Value).ownBlock) _ _ t1606 (fun k_ => some k_ = (.slice Ao36 t1606.length co36 : Value).ownBlock) _ _ t1606 2 t1609 t1612 _ ?side1 ?side2 A33.out).mono ?_); (case side1 => exact Kd.R_V (Kd.R_tight rfl (HO1608.out))); (case side2 => exact Kd.R_V (Kd.R_tight rfl (HO1608.out))); rintro e w37 ⟨v1610, rfl, ho0, hb⟩; have n0_ := Aside0.mk (Kd.R_elder' (by (with_reducible repeat (first | apply Kd.R_alloc | apply Kd.R_drewN | apply Kd.R_drew)); exact HO1608.out) (Kd.R_base ho0) hb); have n1_ := Aside0.mk (Kd.R_lower (Kd.R_new' (Kd.R_mono (ok' := fun k_ => True) ho0 (fun _ hk_ => trivial)) (Kd.R_lt (by (with_reducible repeat (first | apply Kd.R_alloc | apply Kd.R_drewN | apply Kd.R_drew)); exact HO1608.out))) (below_size (by repeat (first | (with_reducible first | exact HB.out | apply below_alloc | apply pw_below_drewN | apply below_drew1) | exact HB.out)))); have n2_ := Aside0.mk (below_step (by repeat (first | (with_reducible first | exact HB.out | apply below_alloc | apply pw_below_drewN | apply below_drew1) | exact HB.out)) hb); clear HO1608; clear HB; have HO1608 := n0_; have HO1611 := n1_; have HB := n2_; clear n0_ n1_ n2_; (try clear hb); (try clear hb2); (try clear hk); (try clear hi); (try clear ho0))))
       (try simp only [Act.put, List.setIfInBounds_toArray, List.set_cons_zero, List.set_cons_succ])
       go_cut [113] (fun v113 wc => ∃ (kq : Nat) (x113_33 : Bool), v113 = .bool x113_33 ∧ Aside0 (laws_FnWidened.j2 kq (wrap64 (4 + (wrap64 (4 * t1583)))) (wrap64 (4 * (wrap64 (1 + t1584)))) t1606 t1609 x113_33 = some r) ∧ Aside0 (kq ≤ kj16) ∧ Aside0 (Kd.R (Kd.int .i64) 2 wc w.heap.size (fun k_ => some k_ ≠ (v1610 : Value).ownBlock) (.slice Ao36 t1606.length co36) t1606) ∧ Aside0 (Kd.R (Kd.int .i64) 2 wc w.heap.size (fun k_ => some k_ ≠ ((.slice Ao36 t1606.length co36) : Value).ownBlock) v1610 t1609) ∧ Aside0 (Below w.heap.size w wc))
       case first =>
        have H := HC34.out
        clear HC34
        by_cases c38 : t1612 = true
        rotate_left
        ·replace c38 := Bool.eq_false_iff.mpr c38
         subst c38
         rw [if_neg (show ¬ (false = true) by decide)] at H
         exact (laws_FnWidened.j2_no H HRT.out).elim
        subst c38
        rw [if_pos rfl] at H
        have H' := Aside0.mk H
        clear H
        obtain ⟨Ao39, co39, eo39⟩ := Kd.R_slice HO1611.out
        subst eo39
        go_wp2
        repeat (go_quiet (fail); try go_wp2)
        go_meet
        case rel => exact ⟨_, (((t1609.length : Int) != (wrap64 (2 * (wrap64 (4 * (wrap64 (1 + t1584)))))))), (by first | rfl | (simp; done) | (simp [*]; done)), H', ⟨by have := HJ9.out; have := HJ16.out; first | omega | exact Nat.le_refl _⟩, ⟨by (with_reducible repeat (first | apply Kd.R_alloc | apply Kd.R_drewN | apply Kd.R_drew)); exact Kd.R_mono HO1608.out (fun _ hk => hk.2)⟩, ⟨by (with_reducible repeat (first | apply Kd.R_alloc | apply Kd.R_drewN | apply Kd.R_drew)); exact Kd.R_mono HO1611.out (fun _ hk => hk.2)⟩, ⟨by repeat (first | (with_reducible first | exact HB.out | apply below_alloc | apply pw_below_drewN | apply below_drew1) | exact HB.out)⟩⟩
       case rest =>
        as_aux_lemma =>
         clear HC34
         try clear c1
         try clear c2
         try clear p2
         try clear c3
         try clear c4
         try clear p6
         try clear c14
         try clear c14b0
         try clear c14b1
         try clear c22
         try clear c23
         try clear c24
         try clear c26
         try clear c31
         try clear c38
         try clear p2
         try clear p6
         obtain ⟨kq, x113_33, rfl, HA, HJ33, HO_17, HO_18, HB⟩ := hcut
         cases kq with
         | zero => exact absurd HA.out (by simp [laws_FnWidened.j2])
         | succ kj33 =>
          have H := HA.out
          clear HA
          simp only [laws_FnWidened.j2] at H
          by_cases c40 : x113_33 = true
          ·subst c40
           rw [if_pos rfl] at H
           obtain rfl := Option.some.inj H
           exact absurd HRT.out (by decide)
          replace c40 := Bool.eq_false_iff.mpr c40
          subst c40
          rw [if_neg (show ¬ (false = true) by decide)] at H
          have H' := Aside0.mk H
          clear H
          go_wp2
          repeat (go_quiet (fail); try go_wp2)
          go_loopg [20] kj33 (fun kq v20 w' => ∃ (x20_4 : Int), v20 = .int .i64 x20_4 ∧ Aside0 (laws_FnWidened.l0 kq (wrap64 (4 + (wrap64 (4 * t1583)))) (wrap64 (4 * (wrap64 (1 + t1584)))) t1606 t1609 x20_4 = some r) ∧ Aside0 (kq ≤ kj33) ∧ Aside0 (Kd.R (Kd.int .i64) 2 w' w.heap.size (fun k_ => some k_ ≠ (v1610 : Value).ownBlock) (.slice Ao36 t1606.length co36) t1606) ∧ Aside0 (Kd.R (Kd.int .i64) 2 w' w.heap.size (fun k_ => some k_ ≠ ((.slice Ao36 t1606.length co36) : Value).ownBlock) v1610 t1609) ∧ Aside0 (Below w.heap.size w w'))
          case atStart => exact ⟨(0), (by first | rfl | (simp; done) | (simp [*]; done)), H', ⟨Nat.le_refl _⟩, ⟨by (with_reducible repeat (first | apply Kd.R_alloc | apply Kd.R_drewN | apply Kd.R_drew)); exact HO_17.out⟩, ⟨by (with_reducible repeat (first | apply Kd.R_alloc | apply Kd.R_drewN | apply Kd.R_drew)); exact HO_18.out⟩, ⟨by repeat (first | (with_reducible first | exact HB.out | apply below_alloc | apply pw_below_drewN | apply below_drew1) | exact HB.out)⟩⟩
          case round =>
           clear H'
           try clear c1
           try clear c2
           try clear p2
           try clear c3
           try clear c4
           try clear p6
           try clear c14
           try clear c14b0
           try clear c14b1
           try clear c22
           try clear c23
           try clear c24
           try clear c26
           try clear c31
           try clear c38
           try clear c40
           try clear p2
           try clear p6
           obtain ⟨x20_4, rfl, HA, HK4, HO_17, HO_18, HB⟩ := hrel
           cases gk with
           | zero => exact absurd HA.out (by simp [laws_FnWidened.l0])
           | succ k4 =>
            have H := HA.out
            clear HA
            simp only [laws_FnWidened.l0] at H
            by_cases c41 : x20_4 < (wrap64 (4 * (wrap64 (1 + t1584))))
            rotate_left
            ·rw [if_neg c41] at H
             have c41b0 : decide (x20_4 < (wrap64 (4 * (wrap64 (1 + t1584))))) = false := decide_eq_false c41
             clear c41
             obtain rfl := Option.some.inj H
             go_wp2
             repeat (go_quiet (fail); try go_wp2)
             go_ret
             exact ⟨by first | rfl | (simp [errW_none, errW_some] <;> rfl) | (simp [*, errW_none, errW_some] <;> rfl), by repeat (first | (with_reducible first | exact HB.out | apply below_alloc | apply pw_below_drewN | apply below_drew1) | exact HB.out)⟩

            rw [if_pos c41] at H
            have c41b0 : decide (x20_4 < (wrap64 (4 * (wrap64 (1 + t1584))))) = true := decide_eq_true c41
            clear c41
            by_cases c42 : 0 ≤ x20_4
            rotate_left
            ·rw [if_neg c42] at H
             exact absurd H (by simp)
            rw [if_pos c42] at H
            have c42b0 : decide (0 ≤ x20_4) = true := decide_eq_true c42
            clear c42
            by_cases c43 : x20_4 < (t1606.length : Int)
            rotate_left
            ·rw [if_neg c43] at H
             exact absurd H (by simp)
            rw [if_pos c43] at H
            have c43b0 : decide (x20_4 < (t1606.length : Int)) = true := decide_eq_true c43
            clear c43
            replace H := Option.bind_eq_some_iff.mp H
            obtain ⟨⟨t1614, t1615⟩, A440, H⟩ := H
            try dsimp only at H
            have A44 := Aside0.mk A440
            clear A440
            by_cases c45 : x20_4 < (t1609.length : Int)
            rotate_left
            ·rw [if_neg c45] at H
             exact absurd H (by simp)
            rw [if_pos c45] at H
            have c45b0 : decide (x20_4 < (t1609.length : Int)) = true := decide_eq_true c45
            clear c45
            replace H := Option.bind_eq_some_iff.mp H
            obtain ⟨⟨t1617, t1618⟩, A460, H⟩ := H
            try dsimp only at H
            have A46 := Aside0.mk A460
            clear A460
            obtain ⟨ji47, hji47⟩ : ∃ j_ : Int, (IntKind.u64.wrap (wrap64 ((wrap64 (4 + (wrap64 (4 * t1583)))) - 1))) = j_ := ⟨_, rfl⟩
            replace H : (if 0 ≤ (ji47) then (if t1615 = true then (if t1618 = true then (if 0 ≤ (wrap64 (x20_4 + (wrap64 (4 * (wrap64 (1 + t1584)))))) then (if (wrap64 (x20_4 + (wrap64 (4 * (wrap64 (1 + t1584)))))) < (t1609.length : Int) then (if (rd t1609 x20_4) = (rd t1609 (wrap64 (x20_4 + (wrap64 (4 * (wrap64 (1 + t1584))))))) then (if t1614 < (wrap64 (-(shl .i64 1 (ji47)))) then (if t1617 = (wrap64 (-(shl .i64 1 (ji47)))) then (if t1614 ≥ (shl .i64 1 (ji47)) then (if t1617 = (wrap64 ((shl .i64 1 (ji47)) - 1)) then (if t1614 ≥ (wrap64 (-(shl .i64 1 (ji47)))) then (if t1614 < (shl .i64 1 (ji47)) then (if t1617 = t1614 then (laws_FnWidened.l0 k4 (wrap64 (4 + (wrap64 (4 * t1583)))) (wrap64 (4 * (wrap64 (1 + t1584)))) t1606 t1609 (wrap64 (x20_4 + 1))) else (some false)) else (laws_FnWidened.l0 k4 (wrap64 (4 + (wrap64 (4 * t1583)))) (wrap64 (4 * (wrap64 (1 + t1584)))) t1606 t1609 (wrap64 (x20_4 + 1)))) else (laws_FnWidened.l0 k4 (wrap64 (4 + (wrap64 (4 * t1583)))) (wrap64 (4 * (wrap64 (1 + t1584)))) t1606 t1609 (wrap64 (x20_4 + 1)))) else (some false)) else (if t1614 ≥ (wrap64 (-(shl .i64 1 (ji47)))) then (if t1614 < (shl .i64 1 (ji47)) then (if t1617 = t1614 then (laws_FnWidened.l0 k4 (wrap64 (4 + (wrap64 (4 * t1583)))) (wrap64 (4 * (wrap64 (1 + t1584)))) t1606 t1609 (wrap64 (x20_4 + 1))) else (some false)) else (laws_FnWidened.l0 k4 (wrap64 (4 + (wrap64 (4 * t1583)))) (wrap64 (4 * (wrap64 (1 + t1584)))) t1606 t1609 (wrap64 (x20_4 + 1)))) else (laws_FnWidened.l0 k4 (wrap64 (4 + (wrap64 (4 * t1583)))) (wrap64 (4 * (wrap64 (1 + t1584)))) t1606 t1609 (wrap64 (x20_4 + 1))))) else (some false)) else (if t1614 ≥ (shl .i64 1 (ji47)) then (if t1617 = (wrap64 ((shl .i64 1 (ji47)) - 1)) then (if t1614 ≥ (wrap64 (-(shl .i64 1 (ji47)))) then (if t1614 < (shl .i64 1 (ji47)) then (if t1617 = t1614 then (laws_FnWidened.l0 k4 (wrap64 (4 + (wrap64 (4 * t1583)))) (wrap64 (4 * (wrap64 (1 + t1584)))) t1606 t1609 (wrap64 (x20_4 + 1))) else (some false)) else (laws_FnWidened.l0 k4 (wrap64 (4 + (wrap64 (4 * t1583)))) (wrap64 (4 * (wrap64 (1 + t1584)))) t1606 t1609 (wrap64 (x20_4 + 1)))) else (laws_FnWidened.l0 k4 (wrap64 (4 + (wrap64 (4 * t1583)))) (wrap64 (4 * (wrap64 (1 + t1584)))) t1606 t1609 (wrap64 (x20_4 + 1)))) else (some false)) else (if t1614 ≥ (wrap64 (-(shl .i64 1 (ji47)))) then (if t1614 < (shl .i64 1 (ji47)) then (if t1617 = t1614 then (laws_FnWidened.l0 k4 (wrap64 (4 + (wrap64 (4 * t1583)))) (wrap64 (4 * (wrap64 (1 + t1584)))) t1606 t1609 (wrap64 (x20_4 + 1))) else (some false)) else (laws_FnWidened.l0 k4 (wrap64 (4 + (wrap64 (4 * t1583)))) (wrap64 (4 * (wrap64 (1 + t1584)))) t1606 t1609 (wrap64 (x20_4 + 1)))) else (laws_FnWidened.l0 k4 (wrap64 (4 + (wrap64 (4 * t1583)))) (wrap64 (4 * (wrap64 (1 + t1584)))) t1606 t1609 (wrap64 (x20_4 + 1)))))) else (some false)) else (none)) else (none)) else (some false)) else (some false)) else (none)) = some r := by first | (rw [hji47] at H; exact H) | (simp only [hji47] at H ⊢; exact H)
            (try rw [hji47] at A44)
            (try rw [hji47] at A46)
            by_cases c48 : 0 ≤ (ji47)
            rotate_left
            ·rw [if_neg c48] at H
             exact absurd H (by simp)
            rw [if_pos c48] at H
            have c48b0 := eq_true c48
            have c48b1 : decide (0 ≤ (ji47)) = true := decide_eq_true c48
            clear c48
            obtain ⟨ji49, hji49⟩ : ∃ j_ : Int, (shl .i64 1 (ji47)) = j_ := ⟨_, rfl⟩
            replace H : (if t1615 = true then (if t1618 = true then (if 0 ≤ (wrap64 (x20_4 + (wrap64 (4 * (wrap64 (1 + t1584)))))) then (if (wrap64 (x20_4 + (wrap64 (4 * (wrap64 (1 + t1584)))))) < (t1609.length : Int) then (if (rd t1609 x20_4) = (rd t1609 (wrap64 (x20_4 + (wrap64 (4 * (wrap64 (1 + t1584))))))) then (if t1614 < (wrap64 (-(ji49))) then (if t1617 = (wrap64 (-(ji49))) then (if t1614 ≥ (ji49) then (if t1617 = (wrap64 ((ji49) - 1)) then (if t1614 ≥ (wrap64 (-(ji49))) then (if t1614 < (ji49) then (if t1617 = t1614 then (laws_FnWidened.l0 k4 (wrap64 (4 + (wrap64 (4 * t1583)))) (wrap64 (4 * (wrap64 (1 + t1584)))) t1606 t1609 (wrap64 (x20_4 + 1))) else (some false)) else (laws_FnWidened.l0 k4 (wrap64 (4 + (wrap64 (4 * t1583)))) (wrap64 (4 * (wrap64 (1 + t1584)))) t1606 t1609 (wrap64 (x20_4 + 1)))) else (laws_FnWidened.l0 k4 (wrap64 (4 + (wrap64 (4 * t1583)))) (wrap64 (4 * (wrap64 (1 + t1584)))) t1606 t1609 (wrap64 (x20_4 + 1)))) else (some false)) else (if t1614 ≥ (wrap64 (-(ji49))) then (if t1614 < (ji49) then (if t1617 = t1614 then (laws_FnWidened.l0 k4 (wrap64 (4 + (wrap64 (4 * t1583)))) (wrap64 (4 * (wrap64 (1 + t1584)))) t1606 t1609 (wrap64 (x20_4 + 1))) else (some false)) else (laws_FnWidened.l0 k4 (wrap64 (4 + (wrap64 (4 * t1583)))) (wrap64 (4 * (wrap64 (1 + t1584)))) t1606 t1609 (wrap64 (x20_4 + 1)))) else (laws_FnWidened.l0 k4 (wrap64 (4 + (wrap64 (4 * t1583)))) (wrap64 (4 * (wrap64 (1 + t1584)))) t1606 t1609 (wrap64 (x20_4 + 1))))) else (some false)) else (if t1614 ≥ (ji49) then (if t1617 = (wrap64 ((ji49) - 1)) then (if t1614 ≥ (wrap64 (-(ji49))) then (if t1614 < (ji49) then (if t1617 = t1614 then (laws_FnWidened.l0 k4 (wrap64 (4 + (wrap64 (4 * t1583)))) (wrap64 (4 * (wrap64 (1 + t1584)))) t1606 t1609 (wrap64 (x20_4 + 1))) else (some false)) else (laws_FnWidened.l0 k4 (wrap64 (4 + (wrap64 (4 * t1583)))) (wrap64 (4 * (wrap64 (1 + t1584)))) t1606 t1609 (wrap64 (x20_4 + 1)))) else (laws_FnWidened.l0 k4 (wrap64 (4 + (wrap64 (4 * t1583)))) (wrap64 (4 * (wrap64 (1 + t1584)))) t1606 t1609 (wrap64 (x20_4 + 1)))) else (some false)) else (if t1614 ≥ (wrap64 (-(ji49))) then (if t1614 < (ji49) then (if t1617 = t1614 then (laws_FnWidened.l0 k4 (wrap64 (4 + (wrap64 (4 * t1583)))) (wrap64 (4 * (wrap64 (1 + t1584)))) t1606 t1609 (wrap64 (x20_4 + 1))) else (some false)) else (laws_FnWidened.l0 k4 (wrap64 (4 + (wrap64 (4 * t1583)))) (wrap64 (4 * (wrap64 (1 + t1584)))) t1606 t1609 (wrap64 (x20_4 + 1)))) else (laws_FnWidened.l0 k4 (wrap64 (4 + (wrap64 (4 * t1583)))) (wrap64 (4 * (wrap64 (1 + t1584)))) t1606 t1609 (wrap64 (x20_4 + 1)))))) else (some false)) else (none)) else (none)) else (some false)) else (some false)) = some r := by first | (rw [hji49] at H; exact H) | (simp only [hji49] at H ⊢; exact H)
            (try rw [hji49] at A44)
            (try rw [hji49] at A46)
            have hji49_ : (IntKind.i64.wrap (1 * 2 ^ min (ji47).toNat 64)) = ji49 := hji49
            have hji49z : (ji47) ≤ 64 → (IntKind.i64.wrap (1 * 2 ^ (ji47).toNat)) = ji49 := shl_small hji49
            have hji49u : (IntKind.i64.wrap (2 ^ min (ji47).toNat 64)) = ji49 := by have h_ := hji49_; rw [Int.one_mul] at h_; exact h_
            have hji49v : (ji47) ≤ 64 → (IntKind.i64.wrap (2 ^ (ji47).toNat)) = ji49 := fun hle_ => by have h_ := hji49z hle_; rw [Int.one_mul] at h_; exact h_
            have hji49y : (wrap64 (1 * 2 ^ min (ji47).toNat 64)) = ji49 := (i64_w _).symm.trans hji49_
            have hji49x : (ji47) ≤ 64 → (wrap64 (1 * 2 ^ (ji47).toNat)) = ji49 := fun h_ => (i64_w _).symm.trans (hji49z h_)
            by_cases c50 : t1615 = true
            rotate_left
            ·replace c50 := Bool.eq_false_iff.mpr c50
             subst c50
             rw [if_neg (show ¬ (false = true) by decide)] at H
             obtain rfl := Option.some.inj H
             exact absurd HRT.out (by decide)
            subst c50
            rw [if_pos rfl] at H
            by_cases c51 : t1618 = true
            rotate_left
            ·replace c51 := Bool.eq_false_iff.mpr c51
             subst c51
             rw [if_neg (show ¬ (false = true) by decide)] at H
             obtain rfl := Option.some.inj H
             exact absurd HRT.out (by decide)
            subst c51
            rw [if_pos rfl] at H
            obtain ⟨ji52, hji52⟩ : ∃ j_ : Int, (wrap64 (x20_4 + (wrap64 (4 * (wrap64 (1 + t1584)))))) = j_ := ⟨_, rfl⟩
            replace H : (if 0 ≤ (ji52) then (if (ji52) < (t1609.length : Int) then (if (rd t1609 x20_4) = (rd t1609 (ji52)) then (if t1614 < (wrap64 (-(ji49))) then (if t1617 = (wrap64 (-(ji49))) then (if t1614 ≥ (ji49) then (if t1617 = (wrap64 ((ji49) - 1)) then (if t1614 ≥ (wrap64 (-(ji49))) then (if t1614 < (ji49) then (if t1617 = t1614 then (laws_FnWidened.l0 k4 (wrap64 (4 + (wrap64 (4 * t1583)))) (wrap64 (4 * (wrap64 (1 + t1584)))) t1606 t1609 (wrap64 (x20_4 + 1))) else (some false)) else (laws_FnWidened.l0 k4 (wrap64 (4 + (wrap64 (4 * t1583)))) (wrap64 (4 * (wrap64 (1 + t1584)))) t1606 t1609 (wrap64 (x20_4 + 1)))) else (laws_FnWidened.l0 k4 (wrap64 (4 + (wrap64 (4 * t1583)))) (wrap64 (4 * (wrap64 (1 + t1584)))) t1606 t1609 (wrap64 (x20_4 + 1)))) else (some false)) else (if t1614 ≥ (wrap64 (-(ji49))) then (if t1614 < (ji49) then (if t1617 = t1614 then (laws_FnWidened.l0 k4 (wrap64 (4 + (wrap64 (4 * t1583)))) (wrap64 (4 * (wrap64 (1 + t1584)))) t1606 t1609 (wrap64 (x20_4 + 1))) else (some false)) else (laws_FnWidened.l0 k4 (wrap64 (4 + (wrap64 (4 * t1583)))) (wrap64 (4 * (wrap64 (1 + t1584)))) t1606 t1609 (wrap64 (x20_4 + 1)))) else (laws_FnWidened.l0 k4 (wrap64 (4 + (wrap64 (4 * t1583)))) (wrap64 (4 * (wrap64 (1 + t1584)))) t1606 t1609 (wrap64 (x20_4 + 1))))) else (some false)) else (if t1614 ≥ (ji49) then (if t1617 = (wrap64 ((ji49) - 1)) then (if t1614 ≥ (wrap64 (-(ji49))) then (if t1614 < (ji49) then (if t1617 = t1614 then (laws_FnWidened.l0 k4 (wrap64 (4 + (wrap64 (4 * t1583)))) (wrap64 (4 * (wrap64 (1 + t1584)))) t1606 t1609 (wrap64 (x20_4 + 1))) else (some false)) else (laws_FnWidened.l0 k4 (wrap64 (4 + (wrap64 (4 * t1583)))) (wrap64 (4 * (wrap64 (1 + t1584)))) t1606 t1609 (wrap64 (x20_4 + 1)))) else (laws_FnWidened.l0 k4 (wrap64 (4 + (wrap64 (4 * t1583)))) (wrap64 (4 * (wrap64 (1 + t1584)))) t1606 t1609 (wrap64 (x20_4 + 1)))) else (some false)) else (if t1614 ≥ (wrap64 (-(ji49))) then (if t1614 < (ji49) then (if t1617 = t1614 then (laws_FnWidened.l0 k4 (wrap64 (4 + (wrap64 (4 * t1583)))) (wrap64 (4 * (wrap64 (1 + t1584)))) t1606 t1609 (wrap64 (x20_4 + 1))) else (some false)) else (laws_FnWidened.l0 k4 (wrap64 (4 + (wrap64 (4 * t1583)))) (wrap64 (4 * (wrap64 (1 + t1584)))) t1606 t1609 (wrap64 (x20_4 + 1)))) else (laws_FnWidened.l0 k4 (wrap64 (4 + (wrap64 (4 * t1583)))) (wrap64 (4 * (wrap64 (1 + t1584)))) t1606 t1609 (wrap64 (x20_4 + 1)))))) else (some false)) else (none)) else (none)) = some r := by first | (rw [hji52] at H; exact H) | (simp only [hji52] at H ⊢; exact H)
            (try rw [hji52] at A44)
            (try rw [hji52] at A46)
            have hji52w : (IntKind.i64.wrap (x20_4 + (wrap64 (4 * (wrap64 (1 + t1584)))))) = ji52 := (i64_w _).trans hji52
            by_cases c53 : 0 ≤ (ji52)
            rotate_left
            ·rw [if_neg c53] at H
             exact absurd H (by simp)
            rw [if_pos c53] at H
            have c53b0 : decide (0 ≤ (ji52)) = true := decide_eq_true c53
            clear c53
            by_cases c54 : (ji52) < (t1609.length : Int)
            rotate_left
            ·rw [if_neg c54] at H
             exact absurd H (by simp)
            rw [if_pos c54] at H
            have c54b0 : decide ((ji52) < (t1609.length : Int)) = true := decide_eq_true c54
            clear c54
            by_cases c55 : (rd t1609 x20_4) = (rd t1609 (ji52))
            rotate_left
            ·rw [if_neg c55] at H
             have c55b0 : ((rd t1609 x20_4) == (rd t1609 (ji52))) = false := beq_eq_false_iff_ne.mpr c55
             have c55b1 : ((rd t1609 x20_4) != (rd t1609 (ji52))) = true := bne_iff_ne.mpr c55
             obtain rfl := Option.some.inj H
             exact absurd HRT.out (by decide)
            rw [if_pos c55] at H
            have c55b0 : ((rd t1609 x20_4) == (rd t1609 (ji52))) = true := beq_iff_eq.mpr c55
            have c55b1 : ((rd t1609 x20_4) != (rd t1609 (ji52))) = false := bne_eq_false_iff_eq.mpr c55
            clear c55
            have HJ := Aside0.mk (wj (j := ji49) A5.out (by rw [hji47]; exact hji49))
            by_cases c56 : t1614 < (wrap64 (-(ji49)))
            ·rw [if_pos c56] at H
             have c56b0 : decide (t1614 < (wrap64 (-(ji49)))) = true := decide_eq_true c56
             clear c56
             by_cases c57 : t1617 = (wrap64 (-(ji49)))
             rotate_left
             ·rw [if_neg c57] at H
              have c57b0 : (t1617 == (wrap64 (-(ji49)))) = false := beq_eq_false_iff_ne.mpr c57
              have c57b1 : (t1617 != (wrap64 (-(ji49)))) = true := bne_iff_ne.mpr c57
              obtain rfl := Option.some.inj H
              exact absurd HRT.out (by decide)
             rw [if_pos c57] at H
             have c57b0 : (t1617 == (wrap64 (-(ji49)))) = true := beq_iff_eq.mpr c57
             have c57b1 : (t1617 != (wrap64 (-(ji49)))) = false := bne_eq_false_iff_eq.mpr c57
             clear c57
             by_cases c58 : t1614 ≥ (ji49)
             ·exact (wx1 HJ.out c56b0 c58).elim
             ·rw [if_neg c58] at H
              have c58b0 : decide ((ji49) ≤ t1614) = false := decide_eq_false c58
              clear c58
              by_cases c66 : t1614 ≥ (wrap64 (-(ji49)))
              ·exact (wx2 HJ.out c56b0 c66).elim
              ·rw [if_neg c66] at H
               have c66b0 : decide ((wrap64 (-(ji49))) ≤ t1614) = false := decide_eq_false c66
               clear c66
               have H' := Aside0.mk H
               clear H
               have p1613 : 0 ≤ (x20_4 : Int) := of_decide_eq_true (by first | (with_reducible assumption) | assumption)
               have q1613 : x20_4 < (t1606.length : Int) := of_decide_eq_true (by first | (with_reducible assumption) | assumption)
               obtain ⟨ad1613, e1613, hx1613_0⟩ := Kd.at_int (Kd.R_reads' HO_17.out).2.2 x20_4 p1613 q1613
               cases e1613
               replace p1613 := eq_true p1613
               replace q1613 := eq_true q1613
               go_wp2_with (first | (go_at_call 77; (with_reducible refine (impl_SignedOf.calls (wrap64 (2 * (wrap64 (4 + (wrap64 (4 * t1583)))))) (rd t1606 x20_4) t1614 true _ A44.out).mono ?_); rintro e w' ⟨rfl, ⟨nd, rfl⟩⟩; (try first | exact ⟨rfl, _, World.drewN_drewN _ _ _⟩ | exact ⟨rfl, _, Eq.trans (World.drewN_drewN _ _ _) (congrArg (World.drewN _) (Nat.add_assoc _ _ _))⟩); obtain ⟨Ao71, co71, eo71⟩ := Kd.R_slice HO_18.out; subst eo71; have p1616 : 0 ≤ (x20_4 : Int) := of_decide_eq_true (by first | (with_reducible assumption) | assumption); have q1616 : x20_4 < (t1609.length : Int) := of_decide_eq_true (by first | (with_reducible assumption) | assumption); obtain ⟨ad1616, e1616, hx1616_0⟩ := Kd.at_int (Kd.R_reads' HO_18.out).2.2 x20_4 p1616 q1616; cases e1616; replace p1616 := eq_true p1616; replace q1616 := eq_true q1616) | (go_at_call 77; (with_reducible refine (impl_SignedOf.calls (wrap64 (4 + (wrap64 (4 * t1583)))) (rd t1609 x20_4) t1617 true _ A46.out).mono ?_); rintro e w' ⟨rfl, ⟨nd, rfl⟩⟩; (try first | exact ⟨rfl, _, World.drewN_drewN _ _ _⟩ | exact ⟨rfl, _, Eq.trans (World.drewN_drewN _ _ _) (congrArg (World.drewN _) (Nat.add_assoc _ _ _))⟩); have p1619 : 0 ≤ (x20_4 : Int) := of_decide_eq_true (by first | (with_reducible assumption) | assumption); have q1619 : x20_4 < (t1609.length : Int) := of_decide_eq_true (by first | (with_reducible assumption) | assumption); obtain ⟨ad1619, e1619, hx1619_0⟩ := Kd.at_int (Kd.R_reads' HO_18.out).2.2 x20_4 p1619 q1619; obtain rfl : ad1616 = ad1619 := (by injection e1619); replace p1619 := eq_true p1619; replace q1619 := eq_true q1619; have p1620 : 0 ≤ ((ji52) : Int) := of_decide_eq_true (by first | (with_reducible assumption) | assumption); have q1620 : (ji52) < (t1609.length : Int) := of_decide_eq_true (by first | (with_reducible assumption) | assumption); obtain ⟨ad1620, e1620, hx1620_0⟩ := Kd.at_int (Kd.R_reads' HO_18.out).2.2 (ji52) p1620 q1620; obtain rfl : ad1616 = ad1620 := (by injection e1620); replace p1620 := eq_true p1620; replace q1620 := eq_true q1620))
               repeat (go_quiet (first | (go_at_call 77; (with_reducible refine (impl_SignedOf.calls (wrap64 (2 * (wrap64 (4 + (wrap64 (4 * t1583)))))) (rd t1606 x20_4) t1614 true _ A44.out).mono ?_); rintro e w' ⟨rfl, ⟨nd, rfl⟩⟩; (try first | exact ⟨rfl, _, World.drewN_drewN _ _ _⟩ | exact ⟨rfl, _, Eq.trans (World.drewN_drewN _ _ _) (congrArg (World.drewN _) (Nat.add_assoc _ _ _))⟩); obtain ⟨Ao71, co71, eo71⟩ := Kd.R_slice HO_18.out; subst eo71; have p1616 : 0 ≤ (x20_4 : Int) := of_decide_eq_true (by first | (with_reducible assumption) | assumption); have q1616 : x20_4 < (t1609.length : Int) := of_decide_eq_true (by first | (with_reducible assumption) | assumption); obtain ⟨ad1616, e1616, hx1616_0⟩ := Kd.at_int (Kd.R_reads' HO_18.out).2.2 x20_4 p1616 q1616; cases e1616; replace p1616 := eq_true p1616; replace q1616 := eq_true q1616) | (go_at_call 77; (with_reducible refine (impl_SignedOf.calls (wrap64 (4 + (wrap64 (4 * t1583)))) (rd t1609 x20_4) t1617 true _ A46.out).mono ?_); rintro e w' ⟨rfl, ⟨nd, rfl⟩⟩; (try first | exact ⟨rfl, _, World.drewN_drewN _ _ _⟩ | exact ⟨rfl, _, Eq.trans (World.drewN_drewN _ _ _) (congrArg (World.drewN _) (Nat.add_assoc _ _ _))⟩); have p1619 : 0 ≤ (x20_4 : Int) := of_decide_eq_true (by first | (with_reducible assumption) | assumption); have q1619 : x20_4 < (t1609.length : Int) := of_decide_eq_true (by first | (with_reducible assumption) | assumption); obtain ⟨ad1619, e1619, hx1619_0⟩ := Kd.at_int (Kd.R_reads' HO_18.out).2.2 x20_4 p1619 q1619; obtain rfl : ad1616 = ad1619 := (by injection e1619); replace p1619 := eq_true p1619; replace q1619 := eq_true q1619; have p1620 : 0 ≤ ((ji52) : Int) := of_decide_eq_true (by first | (with_reducible assumption) | assumption); have q1620 : (ji52) < (t1609.length : Int) := of_decide_eq_true (by first | (with_reducible assumption) | assumption); obtain ⟨ad1620, e1620, hx1620_0⟩ := Kd.at_int (Kd.R_reads' HO_18.out).2.2 (ji52) p1620 q1620; obtain rfl : ad1616 = ad1620 := (by injection e1620); replace p1620 := eq_true p1620; replace q1620 := eq_true q1620)); try go_wp2_with (first | (go_at_call 77; (with_reducible refine (impl_SignedOf.calls (wrap64 (2 * (wrap64 (4 + (wrap64 (4 * t1583)))))) (rd t1606 x20_4) t1614 true _ A44.out).mono ?_); rintro e w' ⟨rfl, ⟨nd, rfl⟩⟩; (try first | exact ⟨rfl, _, World.drewN_drewN _ _ _⟩ | exact ⟨rfl, _, Eq.trans (World.drewN_drewN _ _ _) (congrArg (World.drewN _) (Nat.add_assoc _ _ _))⟩); obtain ⟨Ao71, co71, eo71⟩ := Kd.R_slice HO_18.out; subst eo71; have p1616 : 0 ≤ (x20_4 : Int) := of_decide_eq_true (by first | (with_reducible assumption) | assumption); have q1616 : x20_4 < (t1609.length : Int) := of_decide_eq_true (by first | (with_reducible assumption) | assumption); obtain ⟨ad1616, e1616, hx1616_0⟩ := Kd.at_int (Kd.R_reads' HO_18.out).2.2 x20_4 p1616 q1616; cases e1616; replace p1616 := eq_true p1616; replace q1616 := eq_true q1616) | (go_at_call 77; (with_reducible refine (impl_SignedOf.calls (wrap64 (4 + (wrap64 (4 * t1583)))) (rd t1609 x20_4) t1617 true _ A46.out).mono ?_); rintro e w' ⟨rfl, ⟨nd, rfl⟩⟩; (try first | exact ⟨rfl, _, World.drewN_drewN _ _ _⟩ | exact ⟨rfl, _, Eq.trans (World.drewN_drewN _ _ _) (congrArg (World.drewN _) (Nat.add_assoc _ _ _))⟩); have p1619 : 0 ≤ (x20_4 : Int) := of_decide_eq_true (by first | (with_reducible assumption) | assumption); have q1619 : x20_4 < (t1609.length : Int) := of_decide_eq_true (by first | (with_reducible assumption) | assumption); obtain ⟨ad1619, e1619, hx1619_0⟩ := Kd.at_int (Kd.R_reads' HO_18.out).2.2 x20_4 p1619 q1619; obtain rfl : ad1616 = ad1619 := (by injection e1619); replace p1619 := eq_true p1619; replace q1619 := eq_true q1619; have p1620 : 0 ≤ ((ji52) : Int) := of_decide_eq_true (by first | (with_reducible assumption) | assumption); have q1620 : (ji52) < (t1609.length : Int) := of_decide_eq_true (by first | (with_reducible assumption) | assumption); obtain ⟨ad1620, e1620, hx1620_0⟩ := Kd.at_int (Kd.R_reads' HO_18.out).2.2 (ji52) p1620 q1620; obtain rfl : ad1616 = ad1620 := (by injection e1620); replace p1620 := eq_true p1620; replace q1620 := eq_true q1620)))
               go_roundg k4
               case measure => have := HJ9.out; have := HJ16.out; have := HJ33.out; have := HK4.out; omega
               case rel => exact ⟨(wrap64 (x20_4 + 1)), (by first | rfl | (simp; done) | (simp [*]; done)), H', ⟨by have := HJ9.out; have := HJ16.out; have := HJ33.out; have := HK4.out; omega⟩, ⟨by (with_reducible repeat (first | apply Kd.R_alloc | apply Kd.R_drewN | apply Kd.R_drew)); exact HO_17.out⟩, ⟨by (with_reducible repeat (first | apply Kd.R_alloc | apply Kd.R_drewN | apply Kd.R_drew)); exact HO_18.out⟩, ⟨by repeat (first | (with_reducible first | exact HB.out | apply below_alloc | apply pw_below_drewN | apply below_drew1) | exact HB.out)⟩⟩
            ·rw [if_neg c56] at H
             have c56b0 : decide (t1614 < (wrap64 (-(ji49)))) = false := decide_eq_false c56
             clear c56
             by_cases c72 : t1614 ≥ (ji49)
             ·rw [if_pos c72] at H
              have c72b0 : decide ((ji49) ≤ t1614) = true := decide_eq_true c72
              clear c72
              by_cases c73 : t1617 = (wrap64 ((ji49) - 1))
              rotate_left
              ·rw [if_neg c73] at H
               have c73b0 : (t1617 == (wrap64 ((ji49) - 1))) = false := beq_eq_false_iff_ne.mpr c73
               have c73b1 : (t1617 != (wrap64 ((ji49) - 1))) = true := bne_iff_ne.mpr c73
               obtain rfl := Option.some.inj H
               exact absurd HRT.out (by decide)
              rw [if_pos c73] at H
              have c73b0 : (t1617 == (wrap64 ((ji49) - 1))) = true := beq_iff_eq.mpr c73
              have c73b1 : (t1617 != (wrap64 ((ji49) - 1))) = false := bne_eq_false_iff_eq.mpr c73
              clear c73
              by_cases c74 : t1614 ≥ (wrap64 (-(ji49)))
              ·rw [if_pos c74] at H
               have c74b0 : decide ((wrap64 (-(ji49))) ≤ t1614) = true := decide_eq_true c74
               clear c74
               by_cases c75 : t1614 < (ji49)
               ·exact (wx4 c72b0 c75).elim
               ·rw [if_neg c75] at H
                have c75b0 : decide (t1614 < (ji49)) = false := decide_eq_false c75
                clear c75
                have H' := Aside0.mk H
                clear H
                have p1613 : 0 ≤ (x20_4 : Int) := of_decide_eq_true (by first | (with_reducible assumption) | assumption)
                have q1613 : x20_4 < (t1606.length : Int) := of_decide_eq_true (by first | (with_reducible assumption) | assumption)
                obtain ⟨ad1613, e1613, hx1613_0⟩ := Kd.at_int (Kd.R_reads' HO_17.out).2.2 x20_4 p1613 q1613
                cases e1613
                replace p1613 := eq_true p1613
                replace q1613 := eq_true q1613
                go_wp2_with (first | (go_at_call 77; (with_reducible refine (impl_SignedOf.calls (wrap64 (2 * (wrap64 (4 + (wrap64 (4 * t1583)))))) (rd t1606 x20_4) t1614 true _ A44.out).mono ?_); rintro e w' ⟨rfl, ⟨nd, rfl⟩⟩; (try first | exact ⟨rfl, _, World.drewN_drewN _ _ _⟩ | exact ⟨rfl, _, Eq.trans (World.drewN_drewN _ _ _) (congrArg (World.drewN _) (Nat.add_assoc _ _ _))⟩); obtain ⟨Ao78, co78, eo78⟩ := Kd.R_slice HO_18.out; subst eo78; have p1616 : 0 ≤ (x20_4 : Int) := of_decide_eq_true (by first | (with_reducible assumption) | assumption); have q1616 : x20_4 < (t1609.length : Int) := of_decide_eq_true (by first | (with_reducible assumption) | assumption); obtain ⟨ad1616, e1616, hx1616_0⟩ := Kd.at_int (Kd.R_reads' HO_18.out).2.2 x20_4 p1616 q1616; cases e1616; replace p1616 := eq_true p1616; replace q1616 := eq_true q1616) | (go_at_call 77; (with_reducible refine (impl_SignedOf.calls (wrap64 (4 + (wrap64 (4 * t1583)))) (rd t1609 x20_4) t1617 true _ A46.out).mono ?_); rintro e w' ⟨rfl, ⟨nd, rfl⟩⟩; (try first | exact ⟨rfl, _, World.drewN_drewN _ _ _⟩ | exact ⟨rfl, _, Eq.trans (World.drewN_drewN _ _ _) (congrArg (World.drewN _) (Nat.add_assoc _ _ _))⟩); have p1619 : 0 ≤ (x20_4 : Int) := of_decide_eq_true (by first | (with_reducible assumption) | assumption); have q1619 : x20_4 < (t1609.length : Int) := of_decide_eq_true (by first | (with_reducible assumption) | assumption); obtain ⟨ad1619, e1619, hx1619_0⟩ := Kd.at_int (Kd.R_reads' HO_18.out).2.2 x20_4 p1619 q1619; obtain rfl : ad1616 = ad1619 := (by injection e1619); replace p1619 := eq_true p1619; replace q1619 := eq_true q1619; have p1620 : 0 ≤ ((ji52) : Int) := of_decide_eq_true (by first | (with_reducible assumption) | assumption); have q1620 : (ji52) < (t1609.length : Int) := of_decide_eq_true (by first | (with_reducible assumption) | assumption); obtain ⟨ad1620, e1620, hx1620_0⟩ := Kd.at_int (Kd.R_reads' HO_18.out).2.2 (ji52) p1620 q1620; obtain rfl : ad1616 = ad1620 := (by injection e1620); replace p1620 := eq_true p1620; replace q1620 := eq_true q1620))
                repeat (go_quiet (first | (go_at_call 77; (with_reducible refine (impl_SignedOf.calls (wrap64 (2 * (wrap64 (4 + (wrap64 (4 * t1583)))))) (rd t1606 x20_4) t1614 true _ A44.out).mono ?_); rintro e w' ⟨rfl, ⟨nd, rfl⟩⟩; (try first | exact ⟨rfl, _, World.drewN_drewN _ _ _⟩ | exact ⟨rfl, _, Eq.trans (World.drewN_drewN _ _ _) (congrArg (World.drewN _) (Nat.add_assoc _ _ _))⟩); obtain ⟨Ao78, co78, eo78⟩ := Kd.R_slice HO_18.out; subst eo78; have p1616 : 0 ≤ (x20_4 : Int) := of_decide_eq_true (by first | (with_reducible assumption) | assumption); have q1616 : x20_4 < (t1609.length : Int) := of_decide_eq_true (by first | (with_reducible assumption) | assumption); obtain ⟨ad1616, e1616, hx1616_0⟩ := Kd.at_int (Kd.R_reads' HO_18.out).2.2 x20_4 p1616 q1616; cases e1616; replace p1616 := eq_true p1616; replace q1616 := eq_true q1616) | (go_at_call 77; (with_reducible refine (impl_SignedOf.calls (wrap64 (4 + (wrap64 (4 * t1583)))) (rd t1609 x20_4) t1617 true _ A46.out).mono ?_); rintro e w' ⟨rfl, ⟨nd, rfl⟩⟩; (try first | exact ⟨rfl, _, World.drewN_drewN _ _ _⟩ | exact ⟨rfl, _, Eq.trans (World.drewN_drewN _ _ _) (congrArg (World.drewN _) (Nat.add_assoc _ _ _))⟩); have p1619 : 0 ≤ (x20_4 : Int) := of_decide_eq_true (by first | (with_reducible assumption) | assumption); have q1619 : x20_4 < (t1609.length : Int) := of_decide_eq_true (by first | (with_reducible assumption) | assumption); obtain ⟨ad1619, e1619, hx1619_0⟩ := Kd.at_int (Kd.R_reads' HO_18.out).2.2 x20_4 p1619 q1619; obtain rfl : ad1616 = ad1619 := (by injection e1619); replace p1619 := eq_true p1619; replace q1619 := eq_true q1619; have p1620 : 0 ≤ ((ji52) : Int) := of_decide_eq_true (by first | (with_reducible assumption) | assumption); have q1620 : (ji52) < (t1609.length : Int) := of_decide_eq_true (by first | (with_reducible assumption) | assumption); obtain ⟨ad1620, e1620, hx1620_0⟩ := Kd.at_int (Kd.R_reads' HO_18.out).2.2 (ji52) p1620 q1620; obtain rfl : ad1616 = ad1620 := (by injection e1620); replace p1620 := eq_true p1620; replace q1620 := eq_true q1620)); try go_wp2_with (first | (go_at_call 77; (with_reducible refine (impl_SignedOf.calls (wrap64 (2 * (wrap64 (4 + (wrap64 (4 * t1583)))))) (rd t1606 x20_4) t1614 true _ A44.out).mono ?_); rintro e w' ⟨rfl, ⟨nd, rfl⟩⟩; (try first | exact ⟨rfl, _, World.drewN_drewN _ _ _⟩ | exact ⟨rfl, _, Eq.trans (World.drewN_drewN _ _ _) (congrArg (World.drewN _) (Nat.add_assoc _ _ _))⟩); obtain ⟨Ao78, co78, eo78⟩ := Kd.R_slice HO_18.out; subst eo78; have p1616 : 0 ≤ (x20_4 : Int) := of_decide_eq_true (by first | (with_reducible assumption) | assumption); have q1616 : x20_4 < (t1609.length : Int) := of_decide_eq_true (by first | (with_reducible assumption) | assumption); obtain ⟨ad1616, e1616, hx1616_0⟩ := Kd.at_int (Kd.R_reads' HO_18.out).2.2 x20_4 p1616 q1616; cases e1616; replace p1616 := eq_true p1616; replace q1616 := eq_true q1616) | (go_at_call 77; (with_reducible refine (impl_SignedOf.calls (wrap64 (4 + (wrap64 (4 * t1583)))) (rd t1609 x20_4) t1617 true _ A46.out).mono ?_); rintro e w' ⟨rfl, ⟨nd, rfl⟩⟩; (try first | exact ⟨rfl, _, World.drewN_drewN _ _ _⟩ | exact ⟨rfl, _, Eq.trans (World.drewN_drewN _ _ _) (congrArg (World.drewN _) (Nat.add_assoc _ _ _))⟩); have p1619 : 0 ≤ (x20_4 : Int) := of_decide_eq_true (by first | (with_reducible assumption) | assumption); have q1619 : x20_4 < (t1609.length : Int) := of_decide_eq_true (by first | (with_reducible assumption) | assumption); obtain ⟨ad1619, e1619, hx1619_0⟩ := Kd.at_int (Kd.R_reads' HO_18.out).2.2 x20_4 p1619 q1619; obtain rfl : ad1616 = ad1619 := (by injection e1619); replace p1619 := eq_true p1619; replace q1619 := eq_true q1619; have p1620 : 0 ≤ ((ji52) : Int) := of_decide_eq_true (by first | (with_reducible assumption) | assumption); have q1620 : (ji52) < (t1609.length : Int) := of_decide_eq_true (by first | (with_reducible assumption) | assumption); obtain ⟨ad1620, e1620, hx1620_0⟩ := Kd.at_int (Kd.R_reads' HO_18.out).2.2 (ji52) p1620 q1620; obtain rfl : ad1616 = ad1620 := (by injection e1620); replace p1620 := eq_true p1620; replace q1620 := eq_true q1620)))
                go_roundg k4
                case measure => have := HJ9.out; have := HJ16.out; have := HJ33.out; have := HK4.out; omega
                case rel => exact ⟨(wrap64 (x20_4 + 1)), (by first | rfl | (simp; done) | (simp [*]; done)), H', ⟨by have := HJ9.out; have := HJ16.out; have := HJ33.out; have := HK4.out; omega⟩, ⟨by (with_reducible repeat (first | apply Kd.R_alloc | apply Kd.R_drewN | apply Kd.R_drew)); exact HO_17.out⟩, ⟨by (with_reducible repeat (first | apply Kd.R_alloc | apply Kd.R_drewN | apply Kd.R_drew)); exact HO_18.out⟩, ⟨by repeat (first | (with_reducible first | exact HB.out | apply below_alloc | apply pw_below_drewN | apply below_drew1) | exact HB.out)⟩⟩
              ·exact (wx3 HJ.out c72b0 c74).elim
             ·rw [if_neg c72] at H
              have c72b0 : decide ((ji49) ≤ t1614) = false := decide_eq_false c72
              clear c72
              by_cases c80 : t1614 ≥ (wrap64 (-(ji49)))
              ·rw [if_pos c80] at H
               have c80b0 : decide ((wrap64 (-(ji49))) ≤ t1614) = true := decide_eq_true c80
               clear c80
               by_cases c81 : t1614 < (ji49)
               ·rw [if_pos c81] at H
                have c81b0 : decide (t1614 < (ji49)) = true := decide_eq_true c81
                clear c81
                by_cases c82 : t1617 = t1614
                rotate_left
                ·rw [if_neg c82] at H
                 have c82b0 : (t1617 == t1614) = false := beq_eq_false_iff_ne.mpr c82
                 have c82b1 : (t1617 != t1614) = true := bne_iff_ne.mpr c82
                 obtain rfl := Option.some.inj H
                 exact absurd HRT.out (by decide)
                rw [if_pos c82] at H
                have c82b0 : (t1617 == t1614) = true := beq_iff_eq.mpr c82
                have c82b1 : (t1617 != t1614) = false := bne_eq_false_iff_eq.mpr c82
                clear c82
                have H' := Aside0.mk H
                clear H
                have p1613 : 0 ≤ (x20_4 : Int) := of_decide_eq_true (by first | (with_reducible assumption) | assumption)
                have q1613 : x20_4 < (t1606.length : Int) := of_decide_eq_true (by first | (with_reducible assumption) | assumption)
                obtain ⟨ad1613, e1613, hx1613_0⟩ := Kd.at_int (Kd.R_reads' HO_17.out).2.2 x20_4 p1613 q1613
                cases e1613
                replace p1613 := eq_true p1613
                replace q1613 := eq_true q1613
                go_wp2_with (first | (go_at_call 77; (with_reducible refine (impl_SignedOf.calls (wrap64 (2 * (wrap64 (4 + (wrap64 (4 * t1583)))))) (rd t1606 x20_4) t1614 true _ A44.out).mono ?_); rintro e w' ⟨rfl, ⟨nd, rfl⟩⟩; (try first | exact ⟨rfl, _, World.drewN_drewN _ _ _⟩ | exact ⟨rfl, _, Eq.trans (World.drewN_drewN _ _ _) (congrArg (World.drewN _) (Nat.add_assoc _ _ _))⟩); obtain ⟨Ao83, co83, eo83⟩ := Kd.R_slice HO_18.out; subst eo83; have p1616 : 0 ≤ (x20_4 : Int) := of_decide_eq_true (by first | (with_reducible assumption) | assumption); have q1616 : x20_4 < (t1609.length : Int) := of_decide_eq_true (by first | (with_reducible assumption) | assumption); obtain ⟨ad1616, e1616, hx1616_0⟩ := Kd.at_int (Kd.R_reads' HO_18.out).2.2 x20_4 p1616 q1616; cases e1616; replace p1616 := eq_true p1616; replace q1616 := eq_true q1616) | (go_at_call 77; (with_reducible refine (impl_SignedOf.calls (wrap64 (4 + (wrap64 (4 * t1583)))) (rd t1609 x20_4) t1617 true _ A46.out).mono ?_); rintro e w' ⟨rfl, ⟨nd, rfl⟩⟩; (try first | exact ⟨rfl, _, World.drewN_drewN _ _ _⟩ | exact ⟨rfl, _, Eq.trans (World.drewN_drewN _ _ _) (congrArg (World.drewN _) (Nat.add_assoc _ _ _))⟩); have p1619 : 0 ≤ (x20_4 : Int) := of_decide_eq_true (by first | (with_reducible assumption) | assumption); have q1619 : x20_4 < (t1609.length : Int) := of_decide_eq_true (by first | (with_reducible assumption) | assumption); obtain ⟨ad1619, e1619, hx1619_0⟩ := Kd.at_int (Kd.R_reads' HO_18.out).2.2 x20_4 p1619 q1619; obtain rfl : ad1616 = ad1619 := (by injection e1619); replace p1619 := eq_true p1619; replace q1619 := eq_true q1619; have p1620 : 0 ≤ ((ji52) : Int) := of_decide_eq_true (by first | (with_reducible assumption) | assumption); have q1620 : (ji52) < (t1609.length : Int) := of_decide_eq_true (by first | (with_reducible assumption) | assumption); obtain ⟨ad1620, e1620, hx1620_0⟩ := Kd.at_int (Kd.R_reads' HO_18.out).2.2 (ji52) p1620 q1620; obtain rfl : ad1616 = ad1620 := (by injection e1620); replace p1620 := eq_true p1620; replace q1620 := eq_true q1620))
                repeat (go_quiet (first | (go_at_call 77; (with_reducible refine (impl_SignedOf.calls (wrap64 (2 * (wrap64 (4 + (wrap64 (4 * t1583)))))) (rd t1606 x20_4) t1614 true _ A44.out).mono ?_); rintro e w' ⟨rfl, ⟨nd, rfl⟩⟩; (try first | exact ⟨rfl, _, World.drewN_drewN _ _ _⟩ | exact ⟨rfl, _, Eq.trans (World.drewN_drewN _ _ _) (congrArg (World.drewN _) (Nat.add_assoc _ _ _))⟩); obtain ⟨Ao83, co83, eo83⟩ := Kd.R_slice HO_18.out; subst eo83; have p1616 : 0 ≤ (x20_4 : Int) := of_decide_eq_true (by first | (with_reducible assumption) | assumption); have q1616 : x20_4 < (t1609.length : Int) := of_decide_eq_true (by first | (with_reducible assumption) | assumption); obtain ⟨ad1616, e1616, hx1616_0⟩ := Kd.at_int (Kd.R_reads' HO_18.out).2.2 x20_4 p1616 q1616; cases e1616; replace p1616 := eq_true p1616; replace q1616 := eq_true q1616) | (go_at_call 77; (with_reducible refine (impl_SignedOf.calls (wrap64 (4 + (wrap64 (4 * t1583)))) (rd t1609 x20_4) t1617 true _ A46.out).mono ?_); rintro e w' ⟨rfl, ⟨nd, rfl⟩⟩; (try first | exact ⟨rfl, _, World.drewN_drewN _ _ _⟩ | exact ⟨rfl, _, Eq.trans (World.drewN_drewN _ _ _) (congrArg (World.drewN _) (Nat.add_assoc _ _ _))⟩); have p1619 : 0 ≤ (x20_4 : Int) := of_decide_eq_true (by first | (with_reducible assumption) | assumption); have q1619 : x20_4 < (t1609.length : Int) := of_decide_eq_true (by first | (with_reducible assumption) | assumption); obtain ⟨ad1619, e1619, hx1619_0⟩ := Kd.at_int (Kd.R_reads' HO_18.out).2.2 x20_4 p1619 q1619; obtain rfl : ad1616 = ad1619 := (by injection e1619); replace p1619 := eq_true p1619; replace q1619 := eq_true q1619; have p1620 : 0 ≤ ((ji52) : Int) := of_decide_eq_true (by first | (with_reducible assumption) | assumption); have q1620 : (ji52) < (t1609.length : Int) := of_decide_eq_true (by first | (with_reducible assumption) | assumption); obtain ⟨ad1620, e1620, hx1620_0⟩ := Kd.at_int (Kd.R_reads' HO_18.out).2.2 (ji52) p1620 q1620; obtain rfl : ad1616 = ad1620 := (by injection e1620); replace p1620 := eq_true p1620; replace q1620 := eq_true q1620)); try go_wp2_with (first | (go_at_call 77; (with_reducible refine (impl_SignedOf.calls (wrap64 (2 * (wrap64 (4 + (wrap64 (4 * t1583)))))) (rd t1606 x20_4) t1614 true _ A44.out).mono ?_); rintro e w' ⟨rfl, ⟨nd, rfl⟩⟩; (try first | exact ⟨rfl, _, World.drewN_drewN _ _ _⟩ | exact ⟨rfl, _, Eq.trans (World.drewN_drewN _ _ _) (congrArg (World.drewN _) (Nat.add_assoc _ _ _))⟩); obtain ⟨Ao83, co83, eo83⟩ := Kd.R_slice HO_18.out; subst eo83; have p1616 : 0 ≤ (x20_4 : Int) := of_decide_eq_true (by first | (with_reducible assumption) | assumption); have q1616 : x20_4 < (t1609.length : Int) := of_decide_eq_true (by first | (with_reducible assumption) | assumption); obtain ⟨ad1616, e1616, hx1616_0⟩ := Kd.at_int (Kd.R_reads' HO_18.out).2.2 x20_4 p1616 q1616; cases e1616; replace p1616 := eq_true p1616; replace q1616 := eq_true q1616) | (go_at_call 77; (with_reducible refine (impl_SignedOf.calls (wrap64 (4 + (wrap64 (4 * t1583)))) (rd t1609 x20_4) t1617 true _ A46.out).mono ?_); rintro e w' ⟨rfl, ⟨nd, rfl⟩⟩; (try first | exact ⟨rfl, _, World.drewN_drewN _ _ _⟩ | exact ⟨rfl, _, Eq.trans (World.drewN_drewN _ _ _) (congrArg (World.drewN _) (Nat.add_assoc _ _ _))⟩); have p1619 : 0 ≤ (x20_4 : Int) := of_decide_eq_true (by first | (with_reducible assumption) | assumption); have q1619 : x20_4 < (t1609.length : Int) := of_decide_eq_true (by first | (with_reducible assumption) | assumption); obtain ⟨ad1619, e1619, hx1619_0⟩ := Kd.at_int (Kd.R_reads' HO_18.out).2.2 x20_4 p1619 q1619; obtain rfl : ad1616 = ad1619 := (by injection e1619); replace p1619 := eq_true p1619; replace q1619 := eq_true q1619; have p1620 : 0 ≤ ((ji52) : Int) := of_decide_eq_true (by first | (with_reducible assumption) | assumption); have q1620 : (ji52) < (t1609.length : Int) := of_decide_eq_true (by first | (with_reducible assumption) | assumption); obtain ⟨ad1620, e1620, hx1620_0⟩ := Kd.at_int (Kd.R_reads' HO_18.out).2.2 (ji52) p1620 q1620; obtain rfl : ad1616 = ad1620 := (by injection e1620); replace p1620 := eq_true p1620; replace q1620 := eq_true q1620)))
                go_roundg k4
                case measure => have := HJ9.out; have := HJ16.out; have := HJ33.out; have := HK4.out; omega
                case rel => exact ⟨(wrap64 (x20_4 + 1)), (by first | rfl | (simp; done) | (simp [*]; done)), H', ⟨by have := HJ9.out; have := HJ16.out; have := HJ33.out; have := HK4.out; omega⟩, ⟨by (with_reducible repeat (first | apply Kd.R_alloc | apply Kd.R_drewN | apply Kd.R_drew)); exact HO_17.out⟩, ⟨by (with_reducible repeat (first | apply Kd.R_alloc | apply Kd.R_drewN | apply Kd.R_drew)); exact HO_18.out⟩, ⟨by repeat (first | (with_reducible first | exact HB.out | apply below_alloc | apply pw_below_drewN | apply below_drew1) | exact HB.out)⟩⟩
               ·exact (wx6 c72b0 c81).elim
              ·exact (wx5 c56b0 c80).elim
/-- THE ONE PURE STATEMENT of laws_FnWidened: yours. -/
def laws_FnWidened.Pure : Prop := ∀ (l0 : List Int) (l1 : List Int), l0.length ≤ maxLen → l0.length * 1 ≤ 140737488351232 → (∀ x ∈ l0, (Lit.int .u8 x).wf = true) → l1.length ≤ maxLen → l1.length * 1 ≤ 140737488351232 → (∀ x ∈ l1, (Lit.int .u8 x).wf = true) → ∃ k, laws_FnWidened.f k l0 l1 = some true
theorem laws_FnWidened.walk (P : laws_FnWidened.Pure) (a0 : Option Addr) (len0 cap0 : Nat) (z0 : List Int) (a1 : Option Addr) (len1 cap1 : Nat) (z1 : List Int) (w : World) (w0 : (a0 = none ∧ len0 = 0 ∧ cap0 = 0 ∧ z0 = []) ∨ ∃ x, a0 = some x ∧ len0 ≤ cap0 ∧ cap0 ≤ maxLen ∧ z0.length = cap0 ∧ (∀ i, i < z0.length → w.cell? (x.add i) = some (.int .u8 (z0.getD i 0))) ∧ ∀ n ∈ z0, (Lit.int .u8 n).wf = true) (y0 : len0 * 1 ≤ 140737488351232) (w1 : (a1 = none ∧ len1 = 0 ∧ cap1 = 0 ∧ z1 = []) ∨ ∃ x, a1 = some x ∧ len1 ≤ cap1 ∧ cap1 ≤ maxLen ∧ z1.length = cap1 ∧ (∀ i, i < z1.length → w.cell? (x.add i) = some (.int .u8 (z1.getD i 0))) ∧ ∀ n ∈ z1, (Lit.int .u8 n).wf = true) (y1 : len1 * 1 ≤ 140737488351232) :
  Calls Try.prog 24 #[.slice a0 len0 cap0, .slice a1 len1 cap1] w fun e w' => e = .returned (.bool true) ∧ Below w.heap.size w w' := by
 obtain ⟨l0, rfl, hr0, hm0, hw0, hc0⟩ := ReadsInt.ofRowC w0
 obtain ⟨l1, rfl, hr1, hm1, hw1, hc1⟩ := ReadsInt.ofRowC w1
 obtain ⟨k, h⟩ := P l0 l1 hm0 y0 hw0 hm1 y1 hw1
 refine (laws_FnWidened.calls k _ _ l0 _ _ l1 true w (Kd.C_of_reads (d := (0 : Int)) (h1 := fun _ => rfl) hr0) hc0 (Kd.C_of_reads (d := (0 : Int)) (h1 := fun _ => rfl) hr1) hc1 h rfl).mono ?_
 rintro e w' ⟨rfl, hd⟩
 exact ⟨rfl, hd⟩

end Go.Proofs.Ytpcjjminopdofaa.K
