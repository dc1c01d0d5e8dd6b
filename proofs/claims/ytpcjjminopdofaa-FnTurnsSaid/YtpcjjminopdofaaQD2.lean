-- Laid by a program of this session.
import Derived.Test.YtpcjjminopdofaaK0
import Derived.Test.YtpcjjminopdofaaH0
import Derived.Test.YtpcjjminopdofaaQD0
import Derived.Test.YtpcjjminopdofaaQD1
namespace Go.Proofs.Ytpcjjminopdofaa.K
open Go.RowKit Go.Proofs.YtpcjjminopdofaaW.PrintWords Go.Proofs.YtpcjjminopdofaaW.PrintLast Go.Proofs.YtpcjjminopdofaaW.PrintMore Go.Proofs.Ytpcjjminopdofaa.Bx Go.Shelf
attribute [local go_sem] max2_int min2_int max_two min_two max_three min_three max_four min_four   -- for this text's walks alone
set_option linter.unusedVariables false
set_option linter.unusedSimpArgs false

/-! ### laws_FnTurns: function 23 -/
mutual
def laws_FnTurns.j0 : Nat → Int → List Int → List Int → Int → List Int → List Int → Bool → Option (Bool)
 | 0, _, _, _, _, _, _, _ => none
 | k + 1, x6, x7, x8, x15, x16, x18, x111 => if x111 = true then (some false) else (laws_FnTurns.l0 k x6 x7 x8 x15 x16 x18 0)
def laws_FnTurns.l0 : Nat → Int → List Int → List Int → Int → List Int → List Int → Int → Option (Bool)
 | 0, _, _, _, _, _, _, _ => none
 | k + 1, x6, x7, x8, x15, x16, x18, x20 => if x20 < x6 then (if (wrap64 (x20 + x15)) < x6 then (if 0 ≤ x20 then (if x20 < (x16.length : Int) then (if 0 ≤ (wrap64 (x20 + x15)) then (if (wrap64 (x20 + x15)) < (x7.length : Int) then (if (rd x16 x20) = (rd x7 (wrap64 (x20 + x15))) then (if x20 < (x18.length : Int) then (if (wrap64 (x20 + x15)) < (x8.length : Int) then (if (rd x18 x20) = (rd x8 (wrap64 (x20 + x15))) then (if (wrap64 (x20 + x15)) ≥ x6 then (if 0 ≤ (wrap64 ((wrap64 (x20 + x15)) - x6)) then (if (wrap64 ((wrap64 (x20 + x15)) - x6)) < (x8.length : Int) then (if (rd x16 x20) = (rd x8 (wrap64 ((wrap64 (x20 + x15)) - x6))) then (if (wrap64 ((wrap64 (x20 + x15)) - x6)) < (x7.length : Int) then (if (rd x18 x20) = (rd x7 (wrap64 ((wrap64 (x20 + x15)) - x6))) then (laws_FnTurns.l0 k x6 x7 x8 x15 x16 x18 (wrap64 (x20 + 1))) else (some false)) else (none)) else (some false)) else (none)) else (none)) else (laws_FnTurns.l0 k x6 x7 x8 x15 x16 x18 (wrap64 (x20 + 1)))) else (some false)) else (none)) else (none)) else (some false)) else (none)) else (none)) else (none)) else (none)) else (if (wrap64 (x20 + x15)) ≥ x6 then (if 0 ≤ x20 then (if x20 < (x16.length : Int) then (if 0 ≤ (wrap64 ((wrap64 (x20 + x15)) - x6)) then (if (wrap64 ((wrap64 (x20 + x15)) - x6)) < (x8.length : Int) then (if (rd x16 x20) = (rd x8 (wrap64 ((wrap64 (x20 + x15)) - x6))) then (if x20 < (x18.length : Int) then (if (wrap64 ((wrap64 (x20 + x15)) - x6)) < (x7.length : Int) then (if (rd x18 x20) = (rd x7 (wrap64 ((wrap64 (x20 + x15)) - x6))) then (laws_FnTurns.l0 k x6 x7 x8 x15 x16 x18 (wrap64 (x20 + 1))) else (some false)) else (none)) else (none)) else (some false)) else (none)) else (none)) else (none)) else (none)) else (laws_FnTurns.l0 k x6 x7 x8 x15 x16 x18 (wrap64 (x20 + 1))))) else (some true)
end
def laws_FnTurns.f (k : Nat) (l0 : List Int) (l1 : List Int) : Option (Bool) := (laws_r8Long.f l0 l1).bind fun t1812 => (if t1812 = true then (some true) else ((spec_R8Bits.f l0).bind fun t1813 => ((spec_R8Lanes.f l1).bind fun t1814 => ((spec_R8Vector.f k l0 t1813 t1814).bind fun t1815 => ((spec_R8Vector.f k l1 t1813 t1814).bind fun t1818 => ((impl_InterleaveLanes.f k t1813 t1815 t1818).bind fun bt1821 => ((impl_DeinterleaveLanes.f k t1813 bt1821.1 bt1821.2.1).bind fun bt1828 => ((laws_r8At.f l1 30 (wrap64 (t1814 + 1))).bind fun t1835 => ((impl_SlideLanes.f k t1813 t1815 t1818 t1835).bind fun bt1836 => ((impl_SlideLanes.f k t1813 t1818 t1815 t1835).bind fun bt1840 => (if bt1821.2.2 = true then (if bt1828.2.2 = true then (if bt1836.2 = true then (if bt1840.2 = true then ((laws_r8Same.f k bt1828.1 t1815).bind fun t1844 => (if t1844 = true then ((laws_r8Same.f k bt1828.2.1 t1818).bind fun t1845 => (if t1845 = true then (if (bt1836.1.length : Int) = (t1815.length : Int) then (laws_FnTurns.j0 k t1814 t1815 t1818 t1835 bt1836.1 bt1840.1 ((bt1840.1.length : Int) != (t1815.length : Int))) else (laws_FnTurns.j0 k t1814 t1815 t1818 t1835 bt1836.1 bt1840.1 true)) else (laws_FnTurns.j0 k t1814 t1815 t1818 t1835 bt1836.1 bt1840.1 true))) else (laws_FnTurns.j0 k t1814 t1815 t1818 t1835 bt1836.1 bt1840.1 true))) else (laws_FnTurns.j0 k t1814 t1815 t1818 t1835 bt1836.1 bt1840.1 true)) else (laws_FnTurns.j0 k t1814 t1815 t1818 t1835 bt1836.1 bt1840.1 true)) else (laws_FnTurns.j0 k t1814 t1815 t1818 t1835 bt1836.1 bt1840.1 true)) else (laws_FnTurns.j0 k t1814 t1815 t1818 t1835 bt1836.1 bt1840.1 true))))))))))))
theorem laws_FnTurns.mono_l : ∀ k, (∀ y0 y1 y2 y3 y4 y5 y6, LeO (laws_FnTurns.j0 k y0 y1 y2 y3 y4 y5 y6) (laws_FnTurns.j0 (k + 1) y0 y1 y2 y3 y4 y5 y6)) ∧ (∀ y0 y1 y2 y3 y4 y5 y6, LeO (laws_FnTurns.l0 k y0 y1 y2 y3 y4 y5 y6) (laws_FnTurns.l0 (k + 1) y0 y1 y2 y3 y4 y5 y6))
 | 0 => ⟨fun _ _ _ _ _ _ _ r h => by simp [laws_FnTurns.j0] at h, fun _ _ _ _ _ _ _ r h => by simp [laws_FnTurns.l0] at h⟩
 | k + 1 => by
  obtain ⟨ih0, ih1⟩ := laws_FnTurns.mono_l k
  refine ⟨?_, ?_⟩
  ·intro y0 y1 y2 y3 y4 y5 y6
   unfold laws_FnTurns.j0
   repeat' first
   | (with_reducible exact ih0 _ _ _ _ _ _ _)
   | (with_reducible exact ih1 _ _ _ _ _ _ _)
   | (with_reducible exact impl_DeinterleaveLanes.mono _ _ _ _)
   | (with_reducible exact impl_InterleaveLanes.mono _ _ _ _)
   | (with_reducible exact impl_SlideLanes.mono _ _ _ _ _)
   | (with_reducible exact laws_r8Same.mono _ _ _)
   | (with_reducible exact spec_R8Vector.mono _ _ _ _)
   | (with_reducible exact LeO.refl _)
   | (with_reducible exact LeO.none _)
   | (with_reducible refine LeO.ite ?_ ?_)
   | (with_reducible refine LeO.bind ?_ (fun _ => ?_))
   | exact ih0 _ _ _ _ _ _ _
   | exact ih1 _ _ _ _ _ _ _
   | exact impl_DeinterleaveLanes.mono _ _ _ _
   | exact impl_InterleaveLanes.mono _ _ _ _
   | exact impl_SlideLanes.mono _ _ _ _ _
   | exact laws_r8Same.mono _ _ _
   | exact spec_R8Vector.mono _ _ _ _
   | exact LeO.none _
   | refine LeO.ite ?_ ?_
   | refine LeO.bind ?_ (fun _ => ?_)
  ·intro y0 y1 y2 y3 y4 y5 y6
   unfold laws_FnTurns.l0
   repeat' first
   | (with_reducible exact ih0 _ _ _ _ _ _ _)
   | (with_reducible exact ih1 _ _ _ _ _ _ _)
   | (with_reducible exact impl_DeinterleaveLanes.mono _ _ _ _)
   | (with_reducible exact impl_InterleaveLanes.mono _ _ _ _)
   | (with_reducible exact impl_SlideLanes.mono _ _ _ _ _)
   | (with_reducible exact laws_r8Same.mono _ _ _)
   | (with_reducible exact spec_R8Vector.mono _ _ _ _)
   | (with_reducible exact LeO.refl _)
   | (with_reducible exact LeO.none _)
   | (with_reducible refine LeO.ite ?_ ?_)
   | (with_reducible refine LeO.bind ?_ (fun _ => ?_))
   | exact ih0 _ _ _ _ _ _ _
   | exact ih1 _ _ _ _ _ _ _
   | exact impl_DeinterleaveLanes.mono _ _ _ _
   | exact impl_InterleaveLanes.mono _ _ _ _
   | exact impl_SlideLanes.mono _ _ _ _ _
   | exact laws_r8Same.mono _ _ _
   | exact spec_R8Vector.mono _ _ _ _
   | exact LeO.none _
   | refine LeO.ite ?_ ?_
   | refine LeO.bind ?_ (fun _ => ?_)
theorem laws_FnTurns.mono : ∀ a0 a1 k, LeO (laws_FnTurns.f k a0 a1) (laws_FnTurns.f (k + 1) a0 a1) := by
 intro a0 a1 k
 obtain ⟨ih0, ih1⟩ := laws_FnTurns.mono_l k
 unfold laws_FnTurns.f
 repeat' first
   | (with_reducible exact ih0 _ _ _ _ _ _ _)
   | (with_reducible exact ih1 _ _ _ _ _ _ _)
   | (with_reducible exact impl_DeinterleaveLanes.mono _ _ _ _)
   | (with_reducible exact impl_InterleaveLanes.mono _ _ _ _)
   | (with_reducible exact impl_SlideLanes.mono _ _ _ _ _)
   | (with_reducible exact laws_r8Same.mono _ _ _)
   | (with_reducible exact spec_R8Vector.mono _ _ _ _)
   | (with_reducible exact LeO.refl _)
   | (with_reducible exact LeO.none _)
   | (with_reducible refine LeO.ite ?_ ?_)
   | (with_reducible refine LeO.bind ?_ (fun _ => ?_))
   | exact ih0 _ _ _ _ _ _ _
   | exact ih1 _ _ _ _ _ _ _
   | exact impl_DeinterleaveLanes.mono _ _ _ _
   | exact impl_InterleaveLanes.mono _ _ _ _
   | exact impl_SlideLanes.mono _ _ _ _ _
   | exact laws_r8Same.mono _ _ _
   | exact spec_R8Vector.mono _ _ _ _
   | exact LeO.none _
   | refine LeO.ite ?_ ?_
   | refine LeO.bind ?_ (fun _ => ?_)
theorem laws_FnTurns.j0_no {k : Nat} {y0 : Int} {y1 : List Int} {y2 : List Int} {y3 : Int} {y4 : List Int} {y5 : List Int} {r : Bool} (h : laws_FnTurns.j0 k y0 y1 y2 y3 y4 y5 true = some r) (hr : r = true) : False := by
  cases k with
  | zero => exact nomatch (show (none : Option Bool) = some r from h)
  | succ k => exact absurd (Option.some.inj (show (some false : Option Bool) = some r from h)) (by rw [hr]; decide)
theorem ways_FnTurns.z1 {a b : Int} (h : decide (a < b) = true) (q : b ≤ a) : False := by
  have := of_decide_eq_true h
  omega
theorem ways_FnTurns.z2 {a b : Int} (h : decide (a < b) = false) (q : ¬ b ≤ a) : False := by
  have := of_decide_eq_false h
  omega
theorem ways_FnTurns.z3 {a b : Int} (h : decide (b ≤ a) = true) (q : a < b) : False := by
  have := of_decide_eq_true h
  omega
theorem ways_FnTurns.z4 {a b : Int} (h : decide (b ≤ a) = false) (q : ¬ a < b) : False := by
  have := of_decide_eq_false h
  omega
theorem ways_FnTurns.z5 {a b : Int} (h : decide (a < b) = true) (q : ¬ a < b) : False := by
  have := of_decide_eq_true h
  omega
theorem ways_FnTurns.z6 {a b : Int} (h : decide (a < b) = false) (q : a < b) : False := by
  have := of_decide_eq_false h
  omega
theorem ways_FnTurns.z7 {a b : Int} (h : decide (b ≤ a) = true) (q : ¬ b ≤ a) : False := by
  have := of_decide_eq_true h
  omega
theorem ways_FnTurns.z8 {a b : Int} (h : decide (b ≤ a) = false) (q : b ≤ a) : False := by
  have := of_decide_eq_false h
  omega
set_option maxHeartbeats 8000000 in
set_option maxRecDepth 100000 in
theorem laws_FnTurns.calls (k : Nat) (A0 : Option Addr) (c0 : Nat) (l0 : List Int) (A1 : Option Addr) (c1 : Nat) (l1 : List Int) (r : Bool) (w : World) (hr0 : Kd.C (Kd.int .u8) w A0 l0.length l0) (hc0 : l0.length ≤ c0) (hr1 : Kd.C (Kd.int .u8) w A1 l1.length l1) (hc1 : l1.length ≤ c1) (h : laws_FnTurns.f k l0 l1 = some r) (hrtrue : r = true) :
  Calls Try.prog 23 #[.slice A0 l0.length c0, .slice A1 l1.length c1] w fun e w' => e = .returned (.bool r) ∧ Below w.heap.size w w' := by
 have HR0 := Aside0.mk hr0
 have HC0 := Aside0.mk hc0
 clear hr0 hc0
 have HR1 := Aside0.mk hr1
 have HC1 := Aside0.mk hc1
 clear hr1 hc1
 have HB := Aside0.mk (Below.refl w.heap.size w)
 have H : ((laws_r8Long.f l0 l1).bind fun t1812 => (if t1812 = true then (some true) else ((spec_R8Bits.f l0).bind fun t1813 => ((spec_R8Lanes.f l1).bind fun t1814 => ((spec_R8Vector.f k l0 t1813 t1814).bind fun t1815 => ((spec_R8Vector.f k l1 t1813 t1814).bind fun t1818 => ((impl_InterleaveLanes.f k t1813 t1815 t1818).bind fun bt1821 => ((impl_DeinterleaveLanes.f k t1813 bt1821.1 bt1821.2.1).bind fun bt1828 => ((laws_r8At.f l1 30 (wrap64 (t1814 + 1))).bind fun t1835 => ((impl_SlideLanes.f k t1813 t1815 t1818 t1835).bind fun bt1836 => ((impl_SlideLanes.f k t1813 t1818 t1815 t1835).bind fun bt1840 => (if bt1821.2.2 = true then (if bt1828.2.2 = true then (if bt1836.2 = true then (if bt1840.2 = true then ((laws_r8Same.f k bt1828.1 t1815).bind fun t1844 => (if t1844 = true then ((laws_r8Same.f k bt1828.2.1 t1818).bind fun t1845 => (if t1845 = true then (if (bt1836.1.length : Int) = (t1815.length : Int) then (laws_FnTurns.j0 k t1814 t1815 t1818 t1835 bt1836.1 bt1840.1 ((bt1840.1.length : Int) != (t1815.length : Int))) else (laws_FnTurns.j0 k t1814 t1815 t1818 t1835 bt1836.1 bt1840.1 true)) else (laws_FnTurns.j0 k t1814 t1815 t1818 t1835 bt1836.1 bt1840.1 true))) else (laws_FnTurns.j0 k t1814 t1815 t1818 t1835 bt1836.1 bt1840.1 true))) else (laws_FnTurns.j0 k t1814 t1815 t1818 t1835 bt1836.1 bt1840.1 true)) else (laws_FnTurns.j0 k t1814 t1815 t1818 t1835 bt1836.1 bt1840.1 true)) else (laws_FnTurns.j0 k t1814 t1815 t1818 t1835 bt1836.1 bt1840.1 true)) else (laws_FnTurns.j0 k t1814 t1815 t1818 t1835 bt1836.1 bt1840.1 true))))))))))))) = some r := h
 clear h
 have HRT := Aside0.mk hrtrue
 clear hrtrue
 replace H := Option.bind_eq_some_iff.mp H
 obtain ⟨t1812, A30, H⟩ := H
 try dsimp only at H
 have A3 := Aside0.mk A30
 clear A30
 by_cases c4 : t1812 = true
 ·subst c4
  rw [if_pos rfl] at H
  obtain rfl := Option.some.inj H
  go_enter Try.func23, Try.ntmps23
  go_wp2_with (first | (go_at_call 71; (with_reducible refine (laws_r8Long.calls _ _ l0 _ _ l1 true _ ?side1 ?side2 ?side3 ?side4 A3.out).mono ?_); (case side1 => repeat (first | exact HR0.out | (with_reducible refine Kd.C_alloc ?_ _) | (with_reducible refine Kd.C_drewN ?_ _) | (with_reducible refine Kd.C_drew ?_))); (case side2 => exact HC0.out); (case side3 => repeat (first | exact HR1.out | (with_reducible refine Kd.C_alloc ?_ _) | (with_reducible refine Kd.C_drewN ?_ _) | (with_reducible refine Kd.C_drew ?_))); (case side4 => exact HC1.out); rintro e w' ⟨rfl, ⟨nd, rfl⟩⟩; (try first | exact ⟨rfl, _, World.drewN_drewN _ _ _⟩ | exact ⟨rfl, _, Eq.trans (World.drewN_drewN _ _ _) (congrArg (World.drewN _) (Nat.add_assoc _ _ _))⟩)))
  repeat (go_quiet (first | (go_at_call 71; (with_reducible refine (laws_r8Long.calls _ _ l0 _ _ l1 true _ ?side1 ?side2 ?side3 ?side4 A3.out).mono ?_); (case side1 => repeat (first | exact HR0.out | (with_reducible refine Kd.C_alloc ?_ _) | (with_reducible refine Kd.C_drewN ?_ _) | (with_reducible refine Kd.C_drew ?_))); (case side2 => exact HC0.out); (case side3 => repeat (first | exact HR1.out | (with_reducible refine Kd.C_alloc ?_ _) | (with_reducible refine Kd.C_drewN ?_ _) | (with_reducible refine Kd.C_drew ?_))); (case side4 => exact HC1.out); rintro e w' ⟨rfl, ⟨nd, rfl⟩⟩; (try first | exact ⟨rfl, _, World.drewN_drewN _ _ _⟩ | exact ⟨rfl, _, Eq.trans (World.drewN_drewN _ _ _) (congrArg (World.drewN _) (Nat.add_assoc _ _ _))⟩))); try go_wp2_with (first | (go_at_call 71; (with_reducible refine (laws_r8Long.calls _ _ l0 _ _ l1 true _ ?side1 ?side2 ?side3 ?side4 A3.out).mono ?_); (case side1 => repeat (first | exact HR0.out | (with_reducible refine Kd.C_alloc ?_ _) | (with_reducible refine Kd.C_drewN ?_ _) | (with_reducible refine Kd.C_drew ?_))); (case side2 => exact HC0.out); (case side3 => repeat (first | exact HR1.out | (with_reducible refine Kd.C_alloc ?_ _) | (with_reducible refine Kd.C_drewN ?_ _) | (with_reducible refine Kd.C_drew ?_))); (case side4 => exact HC1.out); rintro e w' ⟨rfl, ⟨nd, rfl⟩⟩; (try first | exact ⟨rfl, _, World.drewN_drewN _ _ _⟩ | exact ⟨rfl, _, Eq.trans (World.drewN_drewN _ _ _) (congrArg (World.drewN _) (Nat.add_assoc _ _ _))⟩))))
  go_ret
  exact ⟨by first | rfl | (simp [errW_none, errW_some] <;> rfl) | (simp [*, errW_none, errW_some] <;> rfl), by repeat (first | (with_reducible first | exact HB.out | apply below_alloc | apply pw_below_drewN | apply below_drew1) | exact HB.out)⟩
 replace c4 := Bool.eq_false_iff.mpr c4
 subst c4
 rw [if_neg (show ¬ (false = true) by decide)] at H
 replace H := Option.bind_eq_some_iff.mp H
 obtain ⟨t1813, A50, H⟩ := H
 try dsimp only at H
 have A5 := Aside0.mk A50
 clear A50
 replace H := Option.bind_eq_some_iff.mp H
 obtain ⟨t1814, A60, H⟩ := H
 try dsimp only at H
 have A6 := Aside0.mk A60
 clear A60
 replace H := Option.bind_eq_some_iff.mp H
 obtain ⟨t1815, A70, H⟩ := H
 try dsimp only at H
 have A7 := Aside0.mk A70
 clear A70
 replace H := Option.bind_eq_some_iff.mp H
 obtain ⟨t1818, A80, H⟩ := H
 try dsimp only at H
 have A8 := Aside0.mk A80
 clear A80
 replace H := Option.bind_eq_some_iff.mp H
 obtain ⟨⟨t1821, t1824, t1827⟩, A90, H⟩ := H
 try dsimp only at H
 have A9 := Aside0.mk A90
 clear A90
 replace H := Option.bind_eq_some_iff.mp H
 obtain ⟨⟨t1828, t1831, t1834⟩, A100, H⟩ := H
 try dsimp only at H
 have A10 := Aside0.mk A100
 clear A100
 replace H := Option.bind_eq_some_iff.mp H
 obtain ⟨t1835, A110, H⟩ := H
 try dsimp only at H
 have A11 := Aside0.mk A110
 clear A110
 replace H := Option.bind_eq_some_iff.mp H
 obtain ⟨⟨t1836, t1839⟩, A120, H⟩ := H
 try dsimp only at H
 have A12 := Aside0.mk A120
 clear A120
 replace H := Option.bind_eq_some_iff.mp H
 obtain ⟨⟨t1840, t1843⟩, A130, H⟩ := H
 try dsimp only at H
 have A13 := Aside0.mk A130
 clear A130
 have HC14 := Aside0.mk H
 clear H
 go_enter Try.func23, Try.ntmps23
 go_upto_region 12 with (first | (go_at_call 71; (with_reducible refine (laws_r8Long.calls _ _ l0 _ _ l1 false _ ?side1 ?side2 ?side3 ?side4 A3.out).mono ?_); (case side1 => repeat (first | exact HR0.out | (with_reducible refine Kd.C_alloc ?_ _) | (with_reducible refine Kd.C_drewN ?_ _) | (with_reducible refine Kd.C_drew ?_))); (case side2 => exact HC0.out); (case side3 => repeat (first | exact HR1.out | (with_reducible refine Kd.C_alloc ?_ _) | (with_reducible refine Kd.C_drewN ?_ _) | (with_reducible refine Kd.C_drew ?_))); (case side4 => exact HC1.out); rintro e w' ⟨rfl, ⟨nd, rfl⟩⟩; (try first | exact ⟨rfl, _, World.drewN_drewN _ _ _⟩ | exact ⟨rfl, _, Eq.trans (World.drewN_drewN _ _ _) (congrArg (World.drewN _) (Nat.add_assoc _ _ _))⟩)) | (go_at_call 72; (with_reducible refine (spec_R8Bits.calls _ _ l0 t1813 _ ?side1 ?side2 A5.out).mono ?_); (case side1 => repeat (first | exact HR0.out | (with_reducible refine Kd.C_alloc ?_ _) | (with_reducible refine Kd.C_drewN ?_ _) | (with_reducible refine Kd.C_drew ?_))); (case side2 => exact HC0.out); rintro e w15 ⟨rfl, hb⟩; have n0_ := Aside0.mk (below_step (by repeat (first | (with_reducible first | exact HB.out | apply below_alloc | apply pw_below_drewN | apply below_drew1) | exact HB.out)) hb); clear HB; have HB := n0_; clear n0_; (try clear hb); (try clear hb2); (try clear hk); (try clear hi)) | (go_at_call 73; (with_reducible refine (spec_R8Lanes.calls _ _ l1 t1814 _ ?side1 ?side2 A6.out).mono ?_); (case side1 => repeat (first | exact (Kd.C_below HR1.out HB.out) | (with_reducible refine Kd.C_alloc ?_ _) | (with_reducible refine Kd.C_drewN ?_ _) | (with_reducible refine Kd.C_drew ?_))); (case side2 => exact HC1.out); rintro e w16 ⟨rfl, hb⟩; have n0_ := Aside0.mk (below_step (by repeat (first | (with_reducible first | exact HB.out | apply below_alloc | apply pw_below_drewN | apply below_drew1) | exact HB.out)) hb); clear HB; have HB := n0_; clear n0_; (try clear hb); (try clear hb2); (try clear hk); (try clear hi)) | (go_at_call 74; (with_reducible refine (spec_R8Vector.calls k _ _ l0 t1813 t1814 t1815 _ ?side1 ?side2 A7.out).mono ?_); (case side1 => repeat (first | exact (Kd.C_below HR0.out HB.out) | (with_reducible refine Kd.C_alloc ?_ _) | (with_reducible refine Kd.C_drewN ?_ _) | (with_reducible refine Kd.C_drew ?_))); (case side2 => exact HC0.out); rintro e w17 ⟨v1816, rfl, ho0, hb⟩; have n0_ := Aside0.mk (Kd.R_lower ho0 (below_size (by repeat (first | (with_reducible first | exact HB.out | apply below_alloc | apply pw_below_drewN | apply below_drew1) | exact HB.out)))); have n1_ := Aside0.mk (below_step (by repeat (first | (with_reducible first | exact HB.out | apply below_alloc | apply pw_below_drewN | apply below_drew1) | exact HB.out)) hb); clear HB; have HO1817 := n0_; have HB := n1_; clear n0_ n1_; (try clear hb); (try clear hb2); (try clear hk); (try clear hi); (try clear ho0)) | (go_at_call 74; (with_reducible refine (spec_R8Vector.calls k _ _ l1 t1813 t1814 t1818 _ ?side1 ?side2 A8.out).mono ?_); (case side1 => repeat (first | exact (Kd.C_below HR1.out HB.out) | (with_reducible refine Kd.C_alloc ?_ _) | (with_reducible refine Kd.C_drewN ?_ _) | (with_reducible refine Kd.C_drew ?_))); (case side2 => exact HC1.out); rintro e w18 ⟨v1819, rfl, ho0, hb⟩; have n0_ := Aside0.mk (Kd.R_elder' (by (with_reducible repeat (first | apply Kd.R_alloc | apply Kd.R_drewN | apply Kd.R_drew)); exact HO1817.out) (Kd.R_base ho0) hb); have n1_ := Aside0.mk (Kd.R_lower (Kd.R_new' ho0 (Kd.R_lt (by (with_reducible repeat (first | apply Kd.R_alloc | apply Kd.R_drewN | apply Kd.R_drew)); exact HO1817.out))) (below_size (by repeat (first | (with_reducible first | exact HB.out | apply below_alloc | apply pw_below_drewN | apply below_drew1) | exact HB.out)))); have n2_ := Aside0.mk (below_step (by repeat (first | (with_reducible first | exact HB.out | apply below_alloc | apply pw_below_drewN | apply below_drew1) | exact HB.out)) hb); clear HO1817; clear HB; have HO1817 := n0_; have HO1820 := n1_; have HB := n2_; clear n0_ n1_ n2_; (try clear hb); (try clear hb2); (try clear hk); (try clear hi); (try clear ho0); obtain ⟨Ao19, co19, eo19⟩ := Kd.R_slice HO1817.out; subst eo19; obtain ⟨Ao20, co20, eo20⟩ := Kd.R_slice HO1820.out; subst eo20) | (go_at_call 50; (with_reducible refine (impl_InterleaveLanes.calls k t1813 (fun k_ => some k_ = (.slice Ao19 t1815.length co19 : Value).ownBlock) _ _ t1815 (fun k_ => some k_ = (.slice Ao20 t1818.length co20 : Value).ownBlock) _ _ t1818 t1821 t1824 t1827 _ ?side1 ?side2 A9.out).mono ?_); (case side1 => exact Kd.R_V (Kd.R_tight rfl (HO1817.out))); (case side2 => exact Kd.R_V (Kd.R_tight rfl (HO1820.out))); rintro e w21 ⟨v1822, v1825, rfl, ho0, ho1, hb⟩; have n0_ := Aside0.mk (Kd.R_mono (Kd.R_told (Kd.R_told (Kd.R_old (by (with_reducible repeat (first | apply Kd.R_alloc | apply Kd.R_drewN | apply Kd.R_drew)); exact HO1817.out) hb) (Kd.R_base ho0)) (Kd.R_base ho1)) (fun _ h_ => h_.1)); have n1_ := Aside0.mk (Kd.R_mono (Kd.R_told (Kd.R_told (Kd.R_old (by (with_reducible repeat (first | apply Kd.R_alloc | apply Kd.R_drewN | apply Kd.R_drew)); exact HO1820.out) hb) (Kd.R_base ho0)) (Kd.R_base ho1)) (fun _ h_ => h_.1)); have n2_ := Aside0.mk (Kd.R_lower (Kd.R_new' (Kd.R_new' (Kd.R_mono (ok' := fun k_ => some k_ ≠ (v1825 : Value).ownBlock) ho0 (fun _ hk_ => hk_.2)) (Kd.R_lt (by (with_reducible repeat (first | apply Kd.R_alloc | apply Kd.R_drewN | apply Kd.R_drew)); exact HO1817.out))) (Kd.R_lt (by (with_reducible repeat (first | apply Kd.R_alloc | apply Kd.R_drewN | apply Kd.R_drew)); exact HO1820.out))) (below_size (by repeat (first | (with_reducible first | exact HB.out | apply below_alloc | apply pw_below_drewN | apply below_drew1) | exact HB.out)))); have n3_ := Aside0.mk (Kd.R_lower (Kd.R_new' (Kd.R_new' (Kd.R_mono (ok' := fun k_ => some k_ ≠ (v1822 : Value).ownBlock) ho1 (fun _ hk_ => hk_.2)) (Kd.R_lt (by (with_reducible repeat (first | apply Kd.R_alloc | apply Kd.R_drewN | apply Kd.R_drew)); exact HO1817.out))) (Kd.R_lt (by (with_reducible repeat (first | apply Kd.R_alloc | apply Kd.R_drewN | apply Kd.R_drew)); exact HO1820.out))) (below_size (by repeat (first | (with_reducible first | exact HB.out | apply below_alloc | apply pw_below_drewN | apply below_drew1) | exact HB.out)))); have n4_ := Aside0.mk (below_step (by repeat (first | (with_reducible first | exact HB.out | apply below_alloc | apply pw_below_drewN | apply below_drew1) | exact HB.out)) hb); clear HO1817; clear HO1820; clear HB; have HO1817 := n0_; have HO1820 := n1_; have HO1823 := n2_; have HO1826 := n3_; have HB := n4_; clear n0_ n1_ n2_ n3_ n4_; (try clear hb); (try clear hb2); (try clear hk); (try clear hi); (try clear ho0); (try clear ho1); obtain ⟨Ao22, co22, eo22⟩ := Kd.R_slice HO1823.out; subst eo22; obtain ⟨Ao23, co23, eo23⟩ := Kd.R_slice HO1826.out; subst eo23) | (go_at_call 52; (with_reducible refine (impl_DeinterleaveLanes.calls k t1813 (fun k_ => some k_ = (.slice Ao22 t1821.length co22 : Value).ownBlock) _ _ t1821 (fun k_ => some k_ = (.slice Ao23 t1824.length co23 : Value).ownBlock) _ _ t1824 t1828 t1831 t1834 _ ?side1 ?side2 A10.out).mono ?_); (case side1 => exact Kd.R_V (Kd.R_tight rfl (HO1823.out))); (case side2 => exact Kd.R_V (Kd.R_tight rfl (HO1826.out))); rintro e w24 ⟨v1829, v1832, rfl, ho0, ho1, hb⟩; have n0_ := Aside0.mk (Kd.R_mono (Kd.R_told (Kd.R_told (Kd.R_old (by (with_reducible repeat (first | apply Kd.R_alloc | apply Kd.R_drewN | apply Kd.R_drew)); exact HO1817.out) hb) (Kd.R_base ho0)) (Kd.R_base ho1)) (fun _ h_ => h_.1)); have n1_ := Aside0.mk (Kd.R_mono (Kd.R_told (Kd.R_told (Kd.R_old (by (with_reducible repeat (first | apply Kd.R_alloc | apply Kd.R_drewN | apply Kd.R_drew)); exact HO1820.out) hb) (Kd.R_base ho0)) (Kd.R_base ho1)) (fun _ h_ => h_.1)); have n2_ := Aside0.mk (Kd.R_mono (Kd.R_told (Kd.R_told (Kd.R_old (by (with_reducible repeat (first | apply Kd.R_alloc | apply Kd.R_drewN | apply Kd.R_drew)); exact HO1823.out) hb) (Kd.R_base ho0)) (Kd.R_base ho1)) (fun _ h_ => h_.1)); have n3_ := Aside0.mk (Kd.R_mono (Kd.R_told (Kd.R_told (Kd.R_old (by (with_reducible repeat (first | apply Kd.R_alloc | apply Kd.R_drewN | apply Kd.R_drew)); exact HO1826.out) hb) (Kd.R_base ho0)) (Kd.R_base ho1)) (fun _ h_ => h_.1)); have n4_ := Aside0.mk (Kd.R_lower (Kd.R_new' (Kd.R_new' (Kd.R_new' (Kd.R_new' (Kd.R_mono (ok' := fun k_ => some k_ ≠ (v1832 : Value).ownBlock) ho0 (fun _ hk_ => hk_.2)) (Kd.R_lt (by (with_reducible repeat (first | apply Kd.R_alloc | apply Kd.R_drewN | apply Kd.R_drew)); exact HO1817.out))) (Kd.R_lt (by (with_reducible repeat (first | apply Kd.R_alloc | apply Kd.R_drewN | apply Kd.R_drew)); exact HO1820.out))) (Kd.R_lt (by (with_reducible repeat (first | apply Kd.R_alloc | apply Kd.R_drewN | apply Kd.R_drew)); exact HO1823.out))) (Kd.R_lt (by (with_reducible repeat (first | apply Kd.R_alloc | apply Kd.R_drewN | apply Kd.R_drew)); exact HO1826.out))) (below_size (by repeat (first | (with_reducible first | exact HB.out | apply below_alloc | apply pw_below_drewN | apply below_drew1) | exact HB.out)))); have n5_ := Aside0.mk (Kd.R_lower (Kd.R_new' (Kd.R_new' (Kd.R_new' (Kd.R_new' (Kd.R_mono (ok' := fun k_ => some k_ ≠ (v1829 : Value).ownBlock) ho1 (fun _ hk_ => hk_.2)) (Kd.R_lt (by (with_reducible repeat (first | apply Kd.R_alloc | apply Kd.R_drewN | apply Kd.R_drew)); exact HO1817.out))) (Kd.R_lt (by (with_reducible repeat (first | apply Kd.R_alloc | apply Kd.R_drewN | apply Kd.R_drew)); exact HO1820.out))) (Kd.R_lt (by (with_reducible repeat (first | apply Kd.R_alloc | apply Kd.R_drewN | apply Kd.R_drew)); exact HO1823.out))) (Kd.R_lt (by (with_reducible repeat (first | apply Kd.R_alloc | apply Kd.R_drewN | apply Kd.R_drew)); exact HO1826.out))) (below_size (by repeat (first | (with_reducible first | exact HB.out | apply below_alloc | apply pw_below_drewN | apply below_drew1) | exact HB.out)))); have n6_ := Aside0.mk (below_step (by repeat (first | (with_reducible first | exact HB.out | apply below_alloc | apply pw_below_drewN | apply below_drew1) | exact HB.out)) hb); clear HO1817; clear HO1820; clear HO1823; clear HO1826; clear HB; have HO1817 := n0_; have HO1820 := n1_; have HO1823 := n2_; have HO1826 := n3_; have HO1830 := n4_; have HO1833 := n5_; have HB := n6_; clear n0_ n1_ n2_ n3_ n4_ n5_ n6_; (try clear hb); (try clear hb2); (try clear hk); (try clear hi); (try clear ho0); (try clear ho1)) | (go_at_call 75; (with_reducible refine (laws_r8At.calls _ _ l1 30 (wrap64 (t1814 + 1)) t1835 _ ?side1 ?side2 A11.out).mono ?_); (case side1 => repeat (first | exact (Kd.C_below HR1.out HB.out) | (with_reducible refine Kd.C_alloc ?_ _) | (with_reducible refine Kd.C_drewN ?_ _) | (with_reducible refine Kd.C_drew ?_))); (case side2 => exact HC1.out); rintro e w' ⟨rfl, ⟨nd, rfl⟩⟩; (try first | exact ⟨rfl, _, World.drewN_drewN _ _ _⟩ | exact ⟨rfl, _, Eq.trans (World.drewN_drewN _ _ _) (congrArg (World.drewN _) (Nat.add_assoc _ _ _))⟩)) | (go_at_call 44; (with_reducible refine (impl_SlideLanes.calls k t1813 (fun k_ => some k_ = (.slice Ao19 t1815.length co19 : Value).ownBlock) _ _ t1815 (fun k_ => some k_ = (.slice Ao20 t1818.length co20 : Value).ownBlock) _ _ t1818 t1835 t1836 t1839 _ ?side1 ?side2 A12.out).mono ?_); (case side1 => exact Kd.R_V (Kd.R_tight rfl (HO1817.out))); (case side2 => exact Kd.R_V (Kd.R_tight rfl (HO1820.out))); rintro e w25 ⟨v1837, rfl, ho0, hb⟩; have n0_ := Aside0.mk (Kd.R_elder' (by (with_reducible repeat (first | apply Kd.R_alloc | apply Kd.R_drewN | apply Kd.R_drew)); exact HO1817.out) ho0.1 hb); have n1_ := Aside0.mk (Kd.R_elder' (by (with_reducible repeat (first | apply Kd.R_alloc | apply Kd.R_drewN | apply Kd.R_drew)); exact HO1820.out) ho0.1 hb); have n2_ := Aside0.mk (Kd.R_elder' (by (with_reducible repeat (first | apply Kd.R_alloc | apply Kd.R_drewN | apply Kd.R_drew)); exact HO1823.out) ho0.1 hb); have n3_ := Aside0.mk (Kd.R_elder' (by (with_reducible repeat (first | apply Kd.R_alloc | apply Kd.R_drewN | apply Kd.R_drew)); exact HO1826.out) ho0.1 hb); have n4_ := Aside0.mk (Kd.R_elder' (by (with_reducible repeat (first | apply Kd.R_alloc | apply Kd.R_drewN | apply Kd.R_drew)); exact HO1830.out) ho0.1 hb); have n5_ := Aside0.mk (Kd.R_elder' (by (with_reducible repeat (first | apply Kd.R_alloc | apply Kd.R_drewN | apply Kd.R_drew)); exact HO1833.out) ho0.1 hb); have n6_ := Aside0.mk (Wn.lower ho0 (below_size (by repeat (first | (with_reducible first | exact HB.out | apply below_alloc | apply pw_below_drewN | apply below_drew1) | exact HB.out)))); have n7_ := Aside0.mk (below_step (by repeat (first | (with_reducible first | exact HB.out | apply below_alloc | apply pw_below_drewN | apply below_drew1) | exact HB.out)) hb); clear HO1817; clear HO1820; clear HO1823; clear HO1826; clear HO1830; clear HO1833; clear HB; have HO1817 := n0_; have HO1820 := n1_; have HO1823 := n2_; have HO1826 := n3_; have HO1830 := n4_; have HO1833 := n5_; have HO1838 := n6_; have HB := n7_; clear n0_ n1_ n2_ n3_ n4_ n5_ n6_ n7_; (try clear hb); (try clear hb2); (try clear hk); (try clear hi); (try clear ho0)) | (go_at_call 44; (with_reducible refine (impl_SlideLanes.calls k t1813 (fun k_ => some k_ = (.slice Ao20 t1818.length co20 : Value).ownBlock) _ _ t1818 (fun k_ => some k_ = (.slice Ao19 t1815.length co19 : Value).ownBlock) _ _ t1815 t1835 t1840 t1843 _ ?side1 ?side2 A13.out).mono ?_); (case side1 => exact Kd.R_V (Kd.R_tight rfl (HO1820.out))); (case side2 => exact Kd.R_V (Kd.R_tight rfl (HO1817.out))); rintro e w26 ⟨v1841, rfl, ho0, hb⟩; have n0_ := Aside0.mk (Kd.R_elder' (by (with_reducible repeat (first | apply Kd.R_alloc | apply Kd.R_drewN | apply Kd.R_drew)); exact HO1817.out) ho0.1 hb); have n1_ := Aside0.mk (Kd.R_elder' (by (with_reducible repeat (first | apply Kd.R_alloc | apply Kd.R_drewN | apply Kd.R_drew)); exact HO1820.out) ho0.1 hb); have n2_ := Aside0.mk (Kd.R_elder' (by (with_reducible repeat (first | apply Kd.R_alloc | apply Kd.R_drewN | apply Kd.R_drew)); exact HO1823.out) ho0.1 hb); have n3_ := Aside0.mk (Kd.R_elder' (by (with_reducible repeat (first | apply Kd.R_alloc | apply Kd.R_drewN | apply Kd.R_drew)); exact HO1826.out) ho0.1 hb); have n4_ := Aside0.mk (Kd.R_elder' (by (with_reducible repeat (first | apply Kd.R_alloc | apply Kd.R_drewN | apply Kd.R_drew)); exact HO1830.out) ho0.1 hb); have n5_ := Aside0.mk (Kd.R_elder' (by (with_reducible repeat (first | apply Kd.R_alloc | apply Kd.R_drewN | apply Kd.R_drew)); exact HO1833.out) ho0.1 hb); have n6_ := Aside0.mk (Wn.below (by (with_reducible repeat (first | apply Wn.alloc | apply Wn.drewN | apply Wn.drew)); exact HO1838.out) hb); have n7_ := Aside0.mk (Wn.lower ho0 (below_size (by repeat (first | (with_reducible first | exact HB.out | apply below_alloc | apply pw_below_drewN | apply below_drew1) | exact HB.out)))); have n8_ := Aside0.mk (below_step (by repeat (first | (with_reducible first | exact HB.out | apply below_alloc | apply pw_below_drewN | apply below_drew1) | exact HB.out)) hb); clear HO1817; clear HO1820; clear HO1823; clear HO1826; clear HO1830; clear HO1833; clear HO1838; clear HB; have HO1817 := n0_; have HO1820 := n1_; have HO1823 := n2_; have HO1826 := n3_; have HO1830 := n4_; have HO1833 := n5_; have HO1838 := n6_; have HO1842 := n7_; have HB := n8_; clear n0_ n1_ n2_ n3_ n4_ n5_ n6_ n7_ n8_; (try clear hb); (try clear hb2); (try clear hk); (try clear hi); (try clear ho0)))
 repeat (go_quiet (first | (go_at_call 71; (with_reducible refine (laws_r8Long.calls _ _ l0 _ _ l1 false _ ?side1 ?side2 ?side3 ?side4 A3.out).mono ?_); (case side1 => repeat (first | exact HR0.out | (with_reducible refine Kd.C_alloc ?_ _) | (with_reducible refine Kd.C_drewN ?_ _) | (with_reducible refine Kd.C_drew ?_))); (case side2 => exact HC0.out); (case side3 => repeat (first | exact HR1.out | (with_reducible refine Kd.C_alloc ?_ _) | (with_reducible refine Kd.C_drewN ?_ _) | (with_reducible refine Kd.C_drew ?_))); (case side4 => exact HC1.out); rintro e w' ⟨rfl, ⟨nd, rfl⟩⟩; (try first | exact ⟨rfl, _, World.drewN_drewN _ _ _⟩ | exact ⟨rfl, _, Eq.trans (World.drewN_drewN _ _ _) (congrArg (World.drewN _) (Nat.add_assoc _ _ _))⟩)) | (go_at_call 72; (with_reducible refine (spec_R8Bits.calls _ _ l0 t1813 _ ?side1 ?side2 A5.out).mono ?_); (case side1 => repeat (first | exact HR0.out | (with_reducible refine Kd.C_alloc ?_ _) | (with_reducible refine Kd.C_drewN ?_ _) | (with_reducible refine Kd.C_drew ?_))); (case side2 => exact HC0.out); rintro e w15 ⟨rfl, hb⟩; have n0_ := Aside0.mk (below_step (by repeat (first | (with_reducible first | exact HB.out | apply below_alloc | apply pw_below_drewN | apply below_drew1) | exact HB.out)) hb); clear HB; have HB := n0_; clear n0_; (try clear hb); (try clear hb2); (try clear hk); (try clear hi)) | (go_at_call 73; (with_reducible refine (spec_R8Lanes.calls _ _ l1 t1814 _ ?side1 ?side2 A6.out).mono ?_); (case side1 => repeat (first | exact (Kd.C_below HR1.out HB.out) | (with_reducible refine Kd.C_alloc ?_ _) | (with_reducible refine Kd.C_drewN ?_ _) | (with_reducible refine Kd.C_drew ?_))); (case side2 => exact HC1.out); rintro e w16 ⟨rfl, hb⟩; have n0_ := Aside0.mk (below_step (by repeat (first | (with_reducible first | exact HB.out | apply below_alloc | apply pw_below_drewN | apply below_drew1) | exact HB.out)) hb); clear HB; have HB := n0_; clear n0_; (try clear hb); (try clear hb2); (try clear hk); (try clear hi)) | (go_at_call 74; (with_reducible refine (spec_R8Vector.calls k _ _ l0 t1813 t1814 t1815 _ ?side1 ?side2 A7.out).mono ?_); (case side1 => repeat (first | exact (Kd.C_below HR0.out HB.out) | (with_reducible refine Kd.C_alloc ?_ _) | (with_reducible refine Kd.C_drewN ?_ _) | (with_reducible refine Kd.C_drew ?_))); (case side2 => exact HC0.out); rintro e w17 ⟨v1816, rfl, ho0, hb⟩; have n0_ := Aside0.mk (Kd.R_lower ho0 (below_size (by repeat (first | (with_reducible first | exact HB.out | apply below_alloc | apply pw_below_drewN | apply below_drew1) | exact HB.out)))); have n1_ := Aside0.mk (below_step (by repeat (first | (with_reducible first | exact HB.out | apply below_alloc | apply pw_below_drewN | apply below_drew1) | exact HB.out)) hb); clear HB; have HO1817 := n0_; have HB := n1_; clear n0_ n1_; (try clear hb); (try clear hb2); (try clear hk); (try clear hi); (try clear ho0)) | (go_at_call 74; (with_reducible refine (spec_R8Vector.calls k _ _ l1 t1813 t1814 t1818 _ ?side1 ?side2 A8.out).mono ?_); (case side1 => repeat (first | exact (Kd.C_below HR1.out HB.out) | (with_reducible refine Kd.C_alloc ?_ _) | (with_reducible refine Kd.C_drewN ?_ _) | (with_reducible refine Kd.C_drew ?_))); (case side2 => exact HC1.out); rintro e w18 ⟨v1819, rfl, ho0, hb⟩; have n0_ := Aside0.mk (Kd.R_elder' (by (with_reducible repeat (first | apply Kd.R_alloc | apply Kd.R_drewN | apply Kd.R_drew)); exact HO1817.out) (Kd.R_base ho0) hb); have n1_ := Aside0.mk (Kd.R_lower (Kd.R_new' ho0 (Kd.R_lt (by (with_reducible repeat (first | apply Kd.R_alloc | apply Kd.R_drewN | apply Kd.R_drew)); exact HO1817.out))) (below_size (by repeat (first | (with_reducible first | exact HB.out | apply below_alloc | apply pw_below_drewN | apply below_drew1) | exact HB.out)))); have n2_ := Aside0.mk (below_step (by repeat (first | (with_reducible first | exact HB.out | apply below_alloc | apply pw_below_drewN | apply below_drew1) | exact HB.out)) hb); clear HO1817; clear HB; have HO1817 := n0_; have HO1820 := n1_; have HB := n2_; clear n0_ n1_ n2_; (try clear hb); (try clear hb2); (try clear hk); (try clear hi); (try clear ho0); obtain ⟨Ao19, co19, eo19⟩ := Kd.R_slice HO1817.out; subst eo19; obtain ⟨Ao20, co20, eo20⟩ := Kd.R_slice HO1820.out; subst eo20) | (go_at_call 50; (with_reducible refine (impl_InterleaveLanes.calls k t1813 (fun k_ => some k_ = (.slice Ao19 t1815.length co19 : Value).ownBlock) _ _ t1815 (fun k_ => some k_ = (.slice Ao20 t1818.length co20 : Value).ownBlock) _ _ t1818 t1821 t1824 t1827 _ ?side1 ?side2 A9.out).mono ?_); (case side1 => exact Kd.R_V (Kd.R_tight rfl (HO1817.out))); (case side2 => exact Kd.R_V (Kd.R_tight rfl (HO1820.out))); rintro e w21 ⟨v1822, v1825, rfl, ho0, ho1, hb⟩; have n0_ := Aside0.mk (Kd.R_mono (Kd.R_told (Kd.R_told (Kd.R_old (by (with_reducible repeat (first | apply Kd.R_alloc | apply Kd.R_drewN | apply Kd.R_drew)); exact HO1817.out) hb) (Kd.R_base ho0)) (Kd.R_base ho1)) (fun _ h_ => h_.1)); have n1_ := Aside0.mk (Kd.R_mono (Kd.R_told (Kd.R_told (Kd.R_old (by (with_reducible repeat (first | apply Kd.R_alloc | apply Kd.R_drewN | apply Kd.R_drew)); exact HO1820.out) hb) (Kd.R_base ho0)) (Kd.R_base ho1)) (fun _ h_ => h_.1)); have n2_ := Aside0.mk (Kd.R_lower (Kd.R_new' (Kd.R_new' (Kd.R_mono (ok' := fun k_ => some k_ ≠ (v1825 : Value).ownBlock) ho0 (fun _ hk_ => hk_.2)) (Kd.R_lt (by (with_reducible repeat (first | apply Kd.R_alloc | apply Kd.R_drewN | apply Kd.R_drew)); exact HO1817.out))) (Kd.R_lt (by (with_reducible repeat (first | apply Kd.R_alloc | apply Kd.R_drewN | apply Kd.R_drew)); exact HO1820.out))) (below_size (by repeat (first | (with_reducible first | exact HB.out | apply below_alloc | apply pw_below_drewN | apply below_drew1) | exact HB.out)))); have n3_ := Aside0.mk (Kd.R_lower (Kd.R_new' (Kd.R_new' (Kd.R_mono (ok' := fun k_ => some k_ ≠ (v1822 : Value).ownBlock) ho1 (fun _ hk_ => hk_.2)) (Kd.R_lt (by (with_reducible repeat (first | apply Kd.R_alloc | apply Kd.R_drewN | apply Kd.R_drew)); exact HO1817.out))) (Kd.R_lt (by (with_reducible repeat (first | apply Kd.R_alloc | apply Kd.R_drewN | apply Kd.R_drew)); exact HO1820.out))) (below_size (by repeat (first | (with_reducible first | exact HB.out | apply below_alloc | apply pw_below_drewN | apply below_drew1) | exact HB.out)))); have n4_ := Aside0.mk (below_step (by repeat (first | (with_reducible first | exact HB.out | apply below_alloc | apply pw_below_drewN | apply below_drew1) | exact HB.out)) hb); clear HO1817; clear HO1820; clear HB; have HO1817 := n0_; have HO1820 := n1_; have HO1823 := n2_; have HO1826 := n3_; have HB := n4_; clear n0_ n1_ n2_ n3_ n4_; (try clear hb); (try clear hb2); (try clear hk); (try clear hi); (try clear ho0); (try clear ho1); obtain ⟨Ao22, co22, eo22⟩ := Kd.R_slice HO1823.out; subst eo22; obtain ⟨Ao23, co23, eo23⟩ := Kd.R_slice HO1826.out; subst eo23) | (go_at_call 52; (with_reducible refine (impl_DeinterleaveLanes.calls k t1813 (fun k_ => some k_ = (.slice Ao22 t1821.length co22 : Value).ownBlock) _ _ t1821 (fun k_ => some k_ = (.slice Ao23 t1824.length co23 : Value).ownBlock) _ _ t1824 t1828 t1831 t1834 _ ?side1 ?side2 A10.out).mono ?_); (case side1 => exact Kd.R_V (Kd.R_tight rfl (HO1823.out))); (case side2 => exact Kd.R_V (Kd.R_tight rfl (HO1826.out))); rintro e w24 ⟨v1829, v1832, rfl, ho0, ho1, hb⟩; have n0_ := Aside0.mk (Kd.R_mono (Kd.R_told (Kd.R_told (Kd.R_old (by (with_reducible repeat (first | apply Kd.R_alloc | apply Kd.R_drewN | apply Kd.R_drew)); exact HO1817.out) hb) (Kd.R_base ho0)) (Kd.R_base ho1)) (fun _ h_ => h_.1)); have n1_ := Aside0.mk (Kd.R_mono (Kd.R_told (Kd.R_told (Kd.R_old (by (with_reducible repeat (first | apply Kd.R_alloc | apply Kd.R_drewN | apply Kd.R_drew)); exact HO1820.out) hb) (Kd.R_base ho0)) (Kd.R_base ho1)) (fun _ h_ => h_.1)); have n2_ := Aside0.mk (Kd.R_mono (Kd.R_told (Kd.R_told (Kd.R_old (by (with_reducible repeat (first | apply Kd.R_alloc | apply Kd.R_drewN | apply Kd.R_drew)); exact HO1823.out) hb) (Kd.R_base ho0)) (Kd.R_base ho1)) (fun _ h_ => h_.1)); have n3_ := Aside0.mk (Kd.R_mono (Kd.R_told (Kd.R_told (Kd.R_old (by (with_reducible repeat (first | apply Kd.R_alloc | apply Kd.R_drewN | apply Kd.R_drew)); exact HO1826.out) hb) (Kd.R_base ho0)) (Kd.R_base ho1)) (fun _ h_ => h_.1)); have n4_ := Aside0.mk (Kd.R_lower (Kd.R_new' (Kd.R_new' (Kd.R_new' (Kd.R_new' (Kd.R_mono (ok' := fun k_ => some k_ ≠ (v1832 : Value).ownBlock) ho0 (fun _ hk_ => hk_.2)) (Kd.R_lt (by (with_reducible repeat (first | apply Kd.R_alloc | apply Kd.R_drewN | apply Kd.R_drew)); exact HO1817.out))) (Kd.R_lt (by (with_reducible repeat (first | apply Kd.R_alloc | apply Kd.R_drewN | apply Kd.R_drew)); exact HO1820.out))) (Kd.R_lt (by (with_reducible repeat (first | apply Kd.R_alloc | apply Kd.R_drewN | apply Kd.R_drew)); exact HO1823.out))) (Kd.R_lt (by (with_reducible repeat (first | apply Kd.R_alloc | apply Kd.R_drewN | apply Kd.R_drew)); exact HO1826.out))) (below_size (by repeat (first | (with_reducible first | exact HB.out | apply below_alloc | apply pw_below_drewN | apply below_drew1) | exact HB.out)))); have n5_ := Aside0.mk (Kd.R_lower (Kd.R_new' (Kd.R_new' (Kd.R_new' (Kd.R_new' (Kd.R_mono (ok' := fun k_ => some k_ ≠ (v1829 : Value).ownBlock) ho1 (fun _ hk_ => hk_.2)) (Kd.R_lt (by (with_reducible repeat (first | apply Kd.R_alloc | apply Kd.R_drewN | apply Kd.R_drew)); exact HO1817.out))) (Kd.R_lt (by (with_reducible repeat (first | apply Kd.R_alloc | apply Kd.R_drewN | apply Kd.R_drew)); exact HO1820.out))) (Kd.R_lt (by (with_reducible repeat (first | apply Kd.R_alloc | apply Kd.R_drewN | apply Kd.R_drew)); exact HO1823.out))) (Kd.R_lt (by (with_reducible repeat (first | apply Kd.R_alloc | apply Kd.R_drewN | apply Kd.R_drew)); exact HO1826.out))) (below_size (by repeat (first | (with_reducible first | exact HB.out | apply below_alloc | apply pw_below_drewN | apply below_drew1) | exact HB.out)))); have n6_ := Aside0.mk (below_step (by repeat (first | (with_reducible first | exact HB.out | apply below_alloc | apply pw_below_drewN | apply below_drew1) | exact HB.out)) hb); clear HO1817; clear HO1820; clear HO1823; clear HO1826; clear HB; have HO1817 := n0_; have HO1820 := n1_; have HO1823 := n2_; have HO1826 := n3_; have HO1830 := n4_; have HO1833 := n5_; have HB := n6_; clear n0_ n1_ n2_ n3_ n4_ n5_ n6_; (try clear hb); (try clear hb2); (try clear hk); (try clear hi); (try clear ho0); (try clear ho1)) | (go_at_call 75; (with_reducible refine (laws_r8At.calls _ _ l1 30 (wrap64 (t1814 + 1)) t1835 _ ?side1 ?side2 A11.out).mono ?_); (case side1 => repeat (first | exact (Kd.C_below HR1.out HB.out) | (with_reducible refine Kd.C_alloc ?_ _) | (with_reducible refine Kd.C_drewN ?_ _) | (with_reducible refine Kd.C_drew ?_))); (case side2 => exact HC1.out); rintro e w' ⟨rfl, ⟨nd, rfl⟩⟩; (try first | exact ⟨rfl, _, World.drewN_drewN _ _ _⟩ | exact ⟨rfl, _, Eq.trans (World.drewN_drewN _ _ _) (congrArg (World.drewN _) (Nat.add_assoc _ _ _))⟩)) | (go_at_call 44; (with_reducible refine (impl_SlideLanes.calls k t1813 (fun k_ => some k_ = (.slice Ao19 t1815.length co19 : Value).ownBlock) _ _ t1815 (fun k_ => some k_ = (.slice Ao20 t1818.length co20 : Value).ownBlock) _ _ t1818 t1835 t1836 t1839 _ ?side1 ?side2 A12.out).mono ?_); (case side1 => exact Kd.R_V (Kd.R_tight rfl (HO1817.out))); (case side2 => exact Kd.R_V (Kd.R_tight rfl (HO1820.out))); rintro e w25 ⟨v1837, rfl, ho0, hb⟩; have n0_ := Aside0.mk (Kd.R_elder' (by (with_reducible repeat (first | apply Kd.R_alloc | apply Kd.R_drewN | apply Kd.R_drew)); exact HO1817.out) ho0.1 hb); have n1_ := Aside0.mk (Kd.R_elder' (by (with_reducible repeat (first | apply Kd.R_alloc | apply Kd.R_drewN | apply Kd.R_drew)); exact HO1820.out) ho0.1 hb); have n2_ := Aside0.mk (Kd.R_elder' (by (with_reducible repeat (first | apply Kd.R_alloc | apply Kd.R_drewN | apply Kd.R_drew)); exact HO1823.out) ho0.1 hb); have n3_ := Aside0.mk (Kd.R_elder' (by (with_reducible repeat (first | apply Kd.R_alloc | apply Kd.R_drewN | apply Kd.R_drew)); exact HO1826.out) ho0.1 hb); have n4_ := Aside0.mk (Kd.R_elder' (by (with_reducible repeat (first | apply Kd.R_alloc | apply Kd.R_drewN | apply Kd.R_drew)); exact HO1830.out) ho0.1 hb); have n5_ := Aside0.mk (Kd.R_elder' (by (with_reducible repeat (first | apply Kd.R_alloc | apply Kd.R_drewN | apply Kd.R_drew)); exact HO1833.out) ho0.1 hb); have n6_ := Aside0.mk (Wn.lower ho0 (below_size (by repeat (first | (with_reducible first | exact HB.out | apply below_alloc | apply pw_below_drewN | apply below_drew1) | exact HB.out)))); have n7_ := Aside0.mk (below_step (by repeat (first | (with_reducible first | exact HB.out | apply below_alloc | apply pw_below_drewN | apply below_drew1) | exact HB.out)) hb); clear HO1817; clear HO1820; clear HO1823; clear HO1826; clear HO1830; clear HO1833; clear HB; have HO1817 := n0_; have HO1820 := n1_; have HO1823 := n2_; have HO1826 := n3_; have HO1830 := n4_; have HO1833 := n5_; have HO1838 := n6_; have HB := n7_; clear n0_ n1_ n2_ n3_ n4_ n5_ n6_ n7_; (try clear hb); (try clear hb2); (try clear hk); (try clear hi); (try clear ho0)) | (go_at_call 44; (with_reducible refine (impl_SlideLanes.calls k t1813 (fun k_ => some k_ = (.slice Ao20 t1818.length co20 : Value).ownBlock) _ _ t1818 (fun k_ => some k_ = (.slice Ao19 t1815.length co19 : Value).ownBlock) _ _ t1815 t1835 t1840 t1843 _ ?side1 ?side2 A13.out).mono ?_); (case side1 => exact Kd.R_V (Kd.R_tight rfl (HO1820.out))); (case side2 => exact Kd.R_V (Kd.R_tight rfl (HO1817.out))); rintro e w26 ⟨v1841, rfl, ho0, hb⟩; have n0_ := Aside0.mk (Kd.R_elder' (by (with_reducible repeat (first | apply Kd.R_alloc | apply Kd.R_drewN | apply Kd.R_drew)); exact HO1817.out) ho0.1 hb); have n1_ := Aside0.mk (Kd.R_elder' (by (with_reducible repeat (first | apply Kd.R_alloc | apply Kd.R_drewN | apply Kd.R_drew)); exact HO1820.out) ho0.1 hb); have n2_ := Aside0.mk (Kd.R_elder' (by (with_reducible repeat (first | apply Kd.R_alloc | apply Kd.R_drewN | apply Kd.R_drew)); exact HO1823.out) ho0.1 hb); have n3_ := Aside0.mk (Kd.R_elder' (by (with_reducible repeat (first | apply Kd.R_alloc | apply Kd.R_drewN | apply Kd.R_drew)); exact HO1826.out) ho0.1 hb); have n4_ := Aside0.mk (Kd.R_elder' (by (with_reducible repeat (first | apply Kd.R_alloc | apply Kd.R_drewN | apply Kd.R_drew)); exact HO1830.out) ho0.1 hb); have n5_ := Aside0.mk (Kd.R_elder' (by (with_reducible repeat (first | apply Kd.R_alloc | apply Kd.R_drewN | apply Kd.R_drew)); exact HO1833.out) ho0.1 hb); have n6_ := Aside0.mk (Wn.below (by (with_reducible repeat (first | apply Wn.alloc | apply Wn.drewN | apply Wn.drew)); exact HO1838.out) hb); have n7_ := Aside0.mk (Wn.lower ho0 (below_size (by repeat (first | (with_reducible first | exact HB.out | apply below_alloc | apply pw_below_drewN | apply below_drew1) | exact HB.out)))); have n8_ := Aside0.mk (below_step (by repeat (first | (with_reducible first | exact HB.out | apply below_alloc | apply pw_below_drewN | apply below_drew1) | exact HB.out)) hb); clear HO1817; clear HO1820; clear HO1823; clear HO1826; clear HO1830; clear HO1833; clear HO1838; clear HB; have HO1817 := n0_; have HO1820 := n1_; have HO1823 := n2_; have HO1826 := n3_; have HO1830 := n4_; have HO1833 := n5_; have HO1838 := n6_; have HO1842 := n7_; have HB := n8_; clear n0_ n1_ n2_ n3_ n4_ n5_ n6_ n7_ n8_; (try clear hb); (try clear hb2); (try clear hk); (try clear hi); (try clear ho0))); go_upto_region 12 with (first | (go_at_call 71; (with_reducible refine (laws_r8Long.calls _ _ l0 _ _ l1 false _ ?side1 ?side2 ?side3 ?side4 A3.out).mono ?_); (case side1 => repeat (first | exact HR0.out | (with_reducible refine Kd.C_alloc ?_ _) | (with_reducible refine Kd.C_drewN ?_ _) | (with_reducible refine Kd.C_drew ?_))); (case side2 => exact HC0.out); (case side3 => repeat (first | exact HR1.out | (with_reducible refine Kd.C_alloc ?_ _) | (with_reducible refine Kd.C_drewN ?_ _) | (with_reducible refine Kd.C_drew ?_))); (case side4 => exact HC1.out); rintro e w' ⟨rfl, ⟨nd, rfl⟩⟩; (try first | exact ⟨rfl, _, World.drewN_drewN _ _ _⟩ | exact ⟨rfl, _, Eq.trans (World.drewN_drewN _ _ _) (congrArg (World.drewN _) (Nat.add_assoc _ _ _))⟩)) | (go_at_call 72; (with_reducible refine (spec_R8Bits.calls _ _ l0 t1813 _ ?side1 ?side2 A5.out).mono ?_); (case side1 => repeat (first | exact HR0.out | (with_reducible refine Kd.C_alloc ?_ _) | (with_reducible refine Kd.C_drewN ?_ _) | (with_reducible refine Kd.C_drew ?_))); (case side2 => exact HC0.out); rintro e w15 ⟨rfl, hb⟩; have n0_ := Aside0.mk (below_step (by repeat (first | (with_reducible first | exact HB.out | apply below_alloc | apply pw_below_drewN | apply below_drew1) | exact HB.out)) hb); clear HB; have HB := n0_; clear n0_; (try clear hb); (try clear hb2); (try clear hk); (try clear hi)) | (go_at_call 73; (with_reducible refine (spec_R8Lanes.calls _ _ l1 t1814 _ ?side1 ?side2 A6.out).mono ?_); (case side1 => repeat (first | exact (Kd.C_below HR1.out HB.out) | (with_reducible refine Kd.C_alloc ?_ _) | (with_reducible refine Kd.C_drewN ?_ _) | (with_reducible refine Kd.C_drew ?_))); (case side2 => exact HC1.out); rintro e w16 ⟨rfl, hb⟩; have n0_ := Aside0.mk (below_step (by repeat (first | (with_reducible first | exact HB.out | apply below_alloc | apply pw_below_drewN | apply below_drew1) | exact HB.out)) hb); clear HB; have HB := n0_; clear n0_; (try clear hb); (try clear hb2); (try clear hk); (try clear hi)) | (go_at_call 74; (with_reducible refine (spec_R8Vector.calls k _ _ l0 t1813 t1814 t1815 _ ?side1 ?side2 A7.out).mono ?_); (case side1 => repeat (first | exact (Kd.C_below HR0.out HB.out) | (with_reducible refine Kd.C_alloc ?_ _) | (with_reducible refine Kd.C_drewN ?_ _) | (with_reducible refine Kd.C_drew ?_))); (case side2 => exact HC0.out); rintro e w17 ⟨v1816, rfl, ho0, hb⟩; have n0_ := Aside0.mk (Kd.R_lower ho0 (below_size (by repeat (first | (with_reducible first | exact HB.out | apply below_alloc | apply pw_below_drewN | apply below_drew1) | exact HB.out)))); have n1_ := Aside0.mk (below_step (by repeat (first | (with_reducible first | exact HB.out | apply below_alloc | apply pw_below_drewN | apply below_drew1) | exact HB.out)) hb); clear HB; have HO1817 := n0_; have HB := n1_; clear n0_ n1_; (try clear hb); (try clear hb2); (try clear hk); (try clear hi); (try clear ho0)) | (go_at_call 74; (with_reducible refine (spec_R8Vector.calls k _ _ l1 t1813 t1814 t1818 _ ?side1 ?side2 A8.out).mono ?_); (case side1 => repeat (first | exact (Kd.C_below HR1.out HB.out) | (with_reducible refine Kd.C_alloc ?_ _) | (with_reducible refine Kd.C_drewN ?_ _) | (with_reducible refine Kd.C_drew ?_))); (case side2 => exact HC1.out); rintro e w18 ⟨v1819, rfl, ho0, hb⟩; have n0_ := Aside0.mk (Kd.R_elder' (by (with_reducible repeat (first | apply Kd.R_alloc | apply Kd.R_drewN | apply Kd.R_drew)); exact HO1817.out) (Kd.R_base ho0) hb); have n1_ := Aside0.mk (Kd.R_lower (Kd.R_new' ho0 (Kd.R_lt (by (with_reducible repeat (first | apply Kd.R_alloc | apply Kd.R_drewN | apply Kd.R_drew)); exact HO1817.out))) (below_size (by repeat (first | (with_reducible first | exact HB.out | apply below_alloc | apply pw_below_drewN | apply below_drew1) | exact HB.out)))); have n2_ := Aside0.mk (below_step (by repeat (first | (with_reducible first | exact HB.out | apply below_alloc | apply pw_below_drewN | apply below_drew1) | exact HB.out)) hb); clear HO1817; clear HB; have HO1817 := n0_; have HO1820 := n1_; have HB := n2_; clear n0_ n1_ n2_; (try clear hb); (try clear hb2); (try clear hk); (try clear hi); (try clear ho0); obtain ⟨Ao19, co19, eo19⟩ := Kd.R_slice HO1817.out; subst eo19; obtain ⟨Ao20, co20, eo20⟩ := Kd.R_slice HO1820.out; subst eo20) | (go_at_call 50; (with_reducible refine (impl_InterleaveLanes.calls k t1813 (fun k_ => some k_ = (.slice Ao19 t1815.length co19 : Value).ownBlock) _ _ t1815 (fun k_ => some k_ = (.slice Ao20 t1818.length co20 : Value).ownBlock) _ _ t1818 t1821 t1824 t1827 _ ?side1 ?side2 A9.out).mono ?_); (case side1 => exact Kd.R_V (Kd.R_tight rfl (HO1817.out))); (case side2 => exact Kd.R_V (Kd.R_tight rfl (HO1820.out))); rintro e w21 ⟨v1822, v1825, rfl, ho0, ho1, hb⟩; have n0_ := Aside0.mk (Kd.R_mono (Kd.R_told (Kd.R_told (Kd.R_old (by (with_reducible repeat (first | apply Kd.R_alloc | apply Kd.R_drewN | apply Kd.R_drew)); exact HO1817.out) hb) (Kd.R_base ho0)) (Kd.R_base ho1)) (fun _ h_ => h_.1)); have n1_ := Aside0.mk (Kd.R_mono (Kd.R_told (Kd.R_told (Kd.R_old (by (with_reducible repeat (first | apply Kd.R_alloc | apply Kd.R_drewN | apply Kd.R_drew)); exact HO1820.out) hb) (Kd.R_base ho0)) (Kd.R_base ho1)) (fun _ h_ => h_.1)); have n2_ := Aside0.mk (Kd.R_lower (Kd.R_new' (Kd.R_new' (Kd.R_mono (ok' := fun k_ => some k_ ≠ (v1825 : Value).ownBlock) ho0 (fun _ hk_ => hk_.2)) (Kd.R_lt (by (with_reducible repeat (first | apply Kd.R_alloc | apply Kd.R_drewN | apply Kd.R_drew)); exact HO1817.out))) (Kd.R_lt (by (with_reducible repeat (first | apply Kd.R_alloc | apply Kd.R_drewN | apply Kd.R_drew)); exact HO1820.out))) (below_size (by repeat (first | (with_reducible first | exact HB.out | apply below_alloc | apply pw_below_drewN | apply below_drew1) | exact HB.out)))); have n3_ := Aside0.mk (Kd.R_lower (Kd.R_new' (Kd.R_new' (Kd.R_mono (ok' := fun k_ => some k_ ≠ (v1822 : Value).ownBlock) ho1 (fun _ hk_ => hk_.2)) (Kd.R_lt (by (with_reducible repeat (first | apply Kd.R_alloc | apply Kd.R_drewN | apply Kd.R_drew)); exact HO1817.out))) (Kd.R_lt (by (with_reducible repeat (first | apply Kd.R_alloc | apply Kd.R_drewN | apply Kd.R_drew)); exact HO1820.out))) (below_size (by repeat (first | (with_reducible first | exact HB.out | apply below_alloc | apply pw_below_drewN | apply below_drew1) | exact HB.out)))); have n4_ := Aside0.mk (below_step (by repeat (first | (with_reducible first | exact HB.out | apply below_alloc | apply pw_below_drewN | apply below_drew1) | exact HB.out)) hb); clear HO1817; clear HO1820; clear HB; have HO1817 := n0_; have HO1820 := n1_; have HO1823 := n2_; have HO1826 := n3_; have HB := n4_; clear n0_ n1_ n2_ n3_ n4_; (try clear hb); (try clear hb2); (try clear hk); (try clear hi); (try clear ho0); (try clear ho1); obtain ⟨Ao22, co22, eo22⟩ := Kd.R_slice HO1823.out; subst eo22; obtain ⟨Ao23, co23, eo23⟩ := Kd.R_slice HO1826.out; subst eo23) | (go_at_call 52; (with_reducible refine (impl_DeinterleaveLanes.calls k t1813 (fun k_ => some k_ = (.slice Ao22 t1821.length co22 : Value).ownBlock) _ _ t1821 (fun k_ => some k_ = (.slice Ao23 t1824.length co23 : Value).ownBlock) _ _ t1824 t1828 t1831 t1834 _ ?side1 ?side2 A10.out).mono ?_); (case side1 => exact Kd.R_V (Kd.R_tight rfl (HO1823.out))); (case side2 => exact Kd.R_V (Kd.R_tight rfl (HO1826.out))); rintro e w24 ⟨v1829, v1832, rfl, ho0, ho1, hb⟩; have n0_ := Aside0.mk (Kd.R_mono (Kd.R_told (Kd.R_told (Kd.R_old (by (with_reducible repeat (first | apply Kd.R_alloc | apply Kd.R_drewN | apply Kd.R_drew)); exact HO1817.out) hb) (Kd.R_base ho0)) (Kd.R_base ho1)) (fun _ h_ => h_.1)); have n1_ := Aside0.mk (Kd.R_mono (Kd.R_told (Kd.R_told (Kd.R_old (by (with_reducible repeat (first | apply Kd.R_alloc | apply Kd.R_drewN | apply Kd.R_drew)); exact HO1820.out) hb) (Kd.R_base ho0)) (Kd.R_base ho1)) (fun _ h_ => h_.1)); have n2_ := Aside0.mk (Kd.R_mono (Kd.R_told (Kd.R_told (Kd.R_old (by (with_reducible repeat (first | apply Kd.R_alloc | apply Kd.R_drewN | apply Kd.R_drew)); exact HO1823.out) hb) (Kd.R_base ho0)) (Kd.R_base ho1)) (fun _ h_ => h_.1)); have n3_ := Aside0.mk (Kd.R_mono (Kd.R_told (Kd.R_told (Kd.R_old (by (with_reducible repeat (first | apply Kd.R_alloc | apply Kd.R_drewN | apply Kd.R_drew)); exact HO1826.out) hb) (Kd.R_base ho0)) (Kd.R_base ho1)) (fun _ h_ => h_.1)); have n4_ := Aside0.mk (Kd.R_lower (Kd.R_new' (Kd.R_new' (Kd.R_new' (Kd.R_new' (Kd.R_mono (ok' := fun k_ => some k_ ≠ (v1832 : Value).ownBlock) ho0 (fun _ hk_ => hk_.2)) (Kd.R_lt (by (with_reducible repeat (first | apply Kd.R_alloc | apply Kd.R_drewN | apply Kd.R_drew)); exact HO1817.out))) (Kd.R_lt (by (with_reducible repeat (first | apply Kd.R_alloc | apply Kd.R_drewN | apply Kd.R_drew)); exact HO1820.out))) (Kd.R_lt (by (with_reducible repeat (first | apply Kd.R_alloc | apply Kd.R_drewN | apply Kd.R_drew)); exact HO1823.out))) (Kd.R_lt (by (with_reducible repeat (first | apply Kd.R_alloc | apply Kd.R_drewN | apply Kd.R_drew)); exact HO1826.out))) (below_size (by repeat (first | (with_reducible first | exact HB.out | apply below_alloc | apply pw_below_drewN | apply below_drew1) | exact HB.out)))); have n5_ := Aside0.mk (Kd.R_lower (Kd.R_new' (Kd.R_new' (Kd.R_new' (Kd.R_new' (Kd.R_mono (ok' := fun k_ => some k_ ≠ (v1829 : Value).ownBlock) ho1 (fun _ hk_ => hk_.2)) (Kd.R_lt (by (with_reducible repeat (first | apply Kd.R_alloc | apply Kd.R_drewN | apply Kd.R_drew)); exact HO1817.out))) (Kd.R_lt (by (with_reducible repeat (first | apply Kd.R_alloc | apply Kd.R_drewN | apply Kd.R_drew)); exact HO1820.out))) (Kd.R_lt (by (with_reducible repeat (first | apply Kd.R_alloc | apply Kd.R_drewN | apply Kd.R_drew)); exact HO1823.out))) (Kd.R_lt (by (with_reducible repeat (first | apply Kd.R_alloc | apply Kd.R_drewN | apply Kd.R_drew)); exact HO1826.out))) (below_size (by repeat (first | (with_reducible first | exact HB.out | apply below_alloc | apply pw_below_drewN | apply below_drew1) | exact HB.out)))); have n6_ := Aside0.mk (below_step (by repeat (first | (with_reducible first | exact HB.out | apply below_alloc | apply pw_below_drewN | apply below_drew1) | exact HB.out)) hb); clear HO1817; clear HO1820; clear HO1823; clear HO1826; clear HB; have HO1817 := n0_; have HO1820 := n1_; have HO1823 := n2_; have HO1826 := n3_; have HO1830 := n4_; have HO1833 := n5_; have HB := n6_; clear n0_ n1_ n2_ n3_ n4_ n5_ n6_; (try clear hb); (try clear hb2); (try clear hk); (try clear hi); (try clear ho0); (try clear ho1)) | (go_at_call 75; (with_reducible refine (laws_r8At.calls _ _ l1 30 (wrap64 (t1814 + 1)) t1835 _ ?side1 ?side2 A11.out).mono ?_); (case side1 => repeat (first | exact (Kd.C_below HR1.out HB.out) | (with_reducible refine Kd.C_alloc ?_ _) | (with_reducible refine Kd.C_drewN ?_ _) | (with_reducible refine Kd.C_drew ?_))); (case side2 => exact HC1.out); rintro e w' ⟨rfl, ⟨nd, rfl⟩⟩; (try first | exact ⟨rfl, _, World.drewN_drewN _ _ _⟩ | exact ⟨rfl, _, Eq.trans (World.drewN_drewN _ _ _) (congrArg (World.drewN _) (Nat.add_assoc _ _ _))⟩)) | (go_at_call 44; (with_reducible refine (impl_SlideLanes.calls k t1813 (fun k_ => some k_ = (.slice Ao19 t1815.length co19 : Value).ownBlock) _ _ t1815 (fun k_ => some k_ = (.slice Ao20 t1818.length co20 : Value).ownBlock) _ _ t1818 t1835 t1836 t1839 _ ?side1 ?side2 A12.out).mono ?_); (case side1 => exact Kd.R_V (Kd.R_tight rfl (HO1817.out))); (case side2 => exact Kd.R_V (Kd.R_tight rfl (HO1820.out))); rintro e w25 ⟨v1837, rfl, ho0, hb⟩; have n0_ := Aside0.mk (Kd.R_elder' (by (with_reducible repeat (first | apply Kd.R_alloc | apply Kd.R_drewN | apply Kd.R_drew)); exact HO1817.out) ho0.1 hb); have n1_ := Aside0.mk (Kd.R_elder' (by (with_reducible repeat (first | apply Kd.R_alloc | apply Kd.R_drewN | apply Kd.R_drew)); exact HO1820.out) ho0.1 hb); have n2_ := Aside0.mk (Kd.R_elder' (by (with_reducible repeat (first | apply Kd.R_alloc | apply Kd.R_drewN | apply Kd.R_drew)); exact HO1823.out) ho0.1 hb); have n3_ := Aside0.mk (Kd.R_elder' (by (with_reducible repeat (first | apply Kd.R_alloc | apply Kd.R_drewN | apply Kd.R_drew)); exact HO1826.out) ho0.1 hb); have n4_ := Aside0.mk (Kd.R_elder' (by (with_reducible repeat (first | apply Kd.R_alloc | apply Kd.R_drewN | apply Kd.R_drew)); exact HO1830.out) ho0.1 hb); have n5_ := Aside0.mk (Kd.R_elder' (by (with_reducible repeat (first | apply Kd.R_alloc | apply Kd.R_drewN | apply Kd.R_drew)); exact HO1833.out) ho0.1 hb); have n6_ := Aside0.mk (Wn.lower ho0 (below_size (by repeat (first | (with_reducible first | exact HB.out | apply below_alloc | apply pw_below_drewN | apply below_drew1) | exact HB.out)))); have n7_ := Aside0.mk (below_step (by repeat (first | (with_reducible first | exact HB.out | apply below_alloc | apply pw_below_drewN | apply below_drew1) | exact HB.out)) hb); clear HO1817; clear HO1820; clear HO1823; clear HO1826; clear HO1830; clear HO1833; clear HB; have HO1817 := n0_; have HO1820 := n1_; have HO1823 := n2_; have HO1826 := n3_; have HO1830 := n4_; have HO1833 := n5_; have HO1838 := n6_; have HB := n7_; clear n0_ n1_ n2_ n3_ n4_ n5_ n6_ n7_; (try clear hb); (try clear hb2); (try clear hk); (try clear hi); (try clear ho0)) | (go_at_call 44; (with_reducible refine (impl_SlideLanes.calls k t1813 (fun k_ => some k_ = (.slice Ao20 t1818.length co20 : Value).ownBlock) _ _ t1818 (fun k_ => some k_ = (.slice Ao19 t1815.length co19 : Value).ownBlock) _ _ t1815 t1835 t1840 t1843 _ ?side1 ?side2 A13.out).mono ?_); (case side1 => exact Kd.R_V (Kd.R_tight rfl (HO1820.out))); (case side2 => exact Kd.R_V (Kd.R_tight rfl (HO1817.out))); rintro e w26 ⟨v1841, rfl, ho0, hb⟩; have n0_ := Aside0.mk (Kd.R_elder' (by (with_reducible repeat (first | apply Kd.R_alloc | apply Kd.R_drewN | apply Kd.R_drew)); exact HO1817.out) ho0.1 hb); have n1_ := Aside0.mk (Kd.R_elder' (by (with_reducible repeat (first | apply Kd.R_alloc | apply Kd.R_drewN | apply Kd.R_drew)); exact HO1820.out) ho0.1 hb); have n2_ := Aside0.mk (Kd.R_elder' (by (with_reducible repeat (first | apply Kd.R_alloc | apply Kd.R_drewN | apply Kd.R_drew)); exact HO1823.out) ho0.1 hb); have n3_ := Aside0.mk (Kd.R_elder' (by (with_reducible repeat (first | apply Kd.R_alloc | apply Kd.R_drewN | apply Kd.R_drew)); exact HO1826.out) ho0.1 hb); have n4_ := Aside0.mk (Kd.R_elder' (by (with_reducible repeat (first | apply Kd.R_alloc | apply Kd.R_drewN | apply Kd.R_drew)); exact HO1830.out) ho0.1 hb); have n5_ := Aside0.mk (Kd.R_elder' (by (with_reducible repeat (first | apply Kd.R_alloc | apply Kd.R_drewN | apply Kd.R_drew)); exact HO1833.out) ho0.1 hb); have n6_ := Aside0.mk (Wn.below (by (with_reducible repeat (first | apply Wn.alloc | apply Wn.drewN | apply Wn.drew)); exact HO1838.out) hb); have n7_ := Aside0.mk (Wn.lower ho0 (below_size (by repeat (first | (with_reducible first | exact HB.out | apply below_alloc | apply pw_below_drewN | apply below_drew1) | exact HB.out)))); have n8_ := Aside0.mk (below_step (by repeat (first | (with_reducible first | exact HB.out | apply below_alloc | apply pw_below_drewN | apply below_drew1) | exact HB.out)) hb); clear HO1817; clear HO1820; clear HO1823; clear HO1826; clear HO1830; clear HO1833; clear HO1838; clear HB; have HO1817 := n0_; have HO1820 := n1_; have HO1823 := n2_; have HO1826 := n3_; have HO1830 := n4_; have HO1833 := n5_; have HO1838 := n6_; have HO1842 := n7_; have HB := n8_; clear n0_ n1_ n2_ n3_ n4_ n5_ n6_ n7_ n8_; (try clear hb); (try clear hb2); (try clear hk); (try clear hi); (try clear ho0))))
 (try simp only [Act.put, List.setIfInBounds_toArray, List.set_cons_zero, List.set_cons_succ])
 go_cut [111] (fun v111 wc => ∃ (kq : Nat) (x111_13 : Bool), v111 = .bool x111_13 ∧ Aside0 (laws_FnTurns.j0 kq t1814 t1815 t1818 t1835 t1836 t1840 x111_13 = some r) ∧ Aside0 (kq ≤ k) ∧ Aside0 (Kd.R (Kd.int .i64) 2 wc w.heap.size (fun k_ => some k_ ≠ ((.slice Ao20 t1818.length co20) : Value).ownBlock ∧ some k_ ≠ (v1837 : Value).ownBlock ∧ some k_ ≠ (v1841 : Value).ownBlock) (.slice Ao19 t1815.length co19) t1815) ∧ Aside0 (Kd.R (Kd.int .i64) 2 wc w.heap.size (fun k_ => some k_ ≠ ((.slice Ao19 t1815.length co19) : Value).ownBlock ∧ some k_ ≠ (v1837 : Value).ownBlock ∧ some k_ ≠ (v1841 : Value).ownBlock) (.slice Ao20 t1818.length co20) t1818) ∧ Aside0 (Wn wc w.heap.size v1837 t1836) ∧ Aside0 (Wn wc w.heap.size v1841 t1840) ∧ Aside0 (Below w.heap.size w wc))
 case first =>
  have H := HC14.out
  clear HC14
  by_cases c27 : t1827 = true
  rotate_left
  ·replace c27 := Bool.eq_false_iff.mpr c27
   subst c27
   rw [if_neg (show ¬ (false = true) by decide)] at H
   exact (laws_FnTurns.j0_no H HRT.out).elim
  subst c27
  rw [if_pos rfl] at H
  by_cases c28 : t1834 = true
  rotate_left
  ·replace c28 := Bool.eq_false_iff.mpr c28
   subst c28
   rw [if_neg (show ¬ (false = true) by decide)] at H
   exact (laws_FnTurns.j0_no H HRT.out).elim
  subst c28
  rw [if_pos rfl] at H
  by_cases c29 : t1839 = true
  rotate_left
  ·replace c29 := Bool.eq_false_iff.mpr c29
   subst c29
   rw [if_neg (show ¬ (false = true) by decide)] at H
   exact (laws_FnTurns.j0_no H HRT.out).elim
  subst c29
  rw [if_pos rfl] at H
  by_cases c30 : t1843 = true
  rotate_left
  ·replace c30 := Bool.eq_false_iff.mpr c30
   subst c30
   rw [if_neg (show ¬ (false = true) by decide)] at H
   exact (laws_FnTurns.j0_no H HRT.out).elim
  subst c30
  rw [if_pos rfl] at H
  replace H := Option.bind_eq_some_iff.mp H
  obtain ⟨t1844, A310, H⟩ := H
  try dsimp only at H
  have A31 := Aside0.mk A310
  clear A310
  by_cases c32 : t1844 = true
  rotate_left
  ·replace c32 := Bool.eq_false_iff.mpr c32
   subst c32
   rw [if_neg (show ¬ (false = true) by decide)] at H
   exact (laws_FnTurns.j0_no H HRT.out).elim
  subst c32
  rw [if_pos rfl] at H
  replace H := Option.bind_eq_some_iff.mp H
  obtain ⟨t1845, A330, H⟩ := H
  try dsimp only at H
  have A33 := Aside0.mk A330
  clear A330
  by_cases c34 : t1845 = true
  rotate_left
  ·replace c34 := Bool.eq_false_iff.mpr c34
   subst c34
   rw [if_neg (show ¬ (false = true) by decide)] at H
   exact (laws_FnTurns.j0_no H HRT.out).elim
  subst c34
  rw [if_pos rfl] at H
  by_cases c35 : (t1836.length : Int) = (t1815.length : Int)
  rotate_left
  ·rw [if_neg c35] at H
   have c35b0 : ((t1836.length : Int) == (t1815.length : Int)) = false := beq_eq_false_iff_ne.mpr c35
   have c35b1 : ((t1836.length : Int) != (t1815.length : Int)) = true := bne_iff_ne.mpr c35
   have c35b2 : (t1836.length == t1815.length) = false := by first | simpa using c35 | (simp at c35 ⊢; omega)
   (first | rw [c35b0] | (simp only [i64_w, i32_w]; rw [c35b0]) | skip)
   exact (laws_FnTurns.j0_no H HRT.out).elim
  rw [if_pos c35] at H
  have c35b0 : ((t1836.length : Int) == (t1815.length : Int)) = true := beq_iff_eq.mpr c35
  have c35b1 : ((t1836.length : Int) != (t1815.length : Int)) = false := bne_eq_false_iff_eq.mpr c35
  have c35b2 : (t1836.length == t1815.length) = true := by first | simpa using c35 | (simp at c35 ⊢; omega)
  clear c35
  (first | rw [c35b0] | (simp only [i64_w, i32_w]; rw [c35b0]) | skip)
  have H' := Aside0.mk H
  clear H
  obtain ⟨Ao36, co36, eo36⟩ := Kd.R_slice HO1830.out
  subst eo36
  go_wp2_with (first | (go_at_call 76; (with_reducible refine (laws_r8Same.calls k _ _ t1828 _ _ t1815 true _ ?side1 ?side2 ?side3 ?side4 A31.out).mono ?_); (case side1 => repeat (first | exact (Kd.R_reads' HO1830.out).2.2 | (with_reducible refine Kd.C_alloc ?_ _) | (with_reducible refine Kd.C_drewN ?_ _) | (with_reducible refine Kd.C_drew ?_))); (case side2 => exact (Kd.R_reads' HO1830.out).2.1); (case side3 => repeat (first | exact (Kd.R_reads' HO1817.out).2.2 | (with_reducible refine Kd.C_alloc ?_ _) | (with_reducible refine Kd.C_drewN ?_ _) | (with_reducible refine Kd.C_drew ?_))); (case side4 => exact (Kd.R_reads' HO1817.out).2.1); rintro e w' ⟨rfl, ⟨nd, rfl⟩⟩; (try first | exact ⟨rfl, _, World.drewN_drewN _ _ _⟩ | exact ⟨rfl, _, Eq.trans (World.drewN_drewN _ _ _) (congrArg (World.drewN _) (Nat.add_assoc _ _ _))⟩); obtain ⟨Ao37, co37, eo37⟩ := Kd.R_slice HO1833.out; subst eo37) | (go_at_call 76; (with_reducible refine (laws_r8Same.calls k _ _ t1831 _ _ t1818 true _ ?side1 ?side2 ?side3 ?side4 A33.out).mono ?_); (case side1 => repeat (first | exact (Kd.R_reads' HO1833.out).2.2 | (with_reducible refine Kd.C_alloc ?_ _) | (with_reducible refine Kd.C_drewN ?_ _) | (with_reducible refine Kd.C_drew ?_))); (case side2 => exact (Kd.R_reads' HO1833.out).2.1); (case side3 => repeat (first | exact (Kd.R_reads' HO1820.out).2.2 | (with_reducible refine Kd.C_alloc ?_ _) | (with_reducible refine Kd.C_drewN ?_ _) | (with_reducible refine Kd.C_drew ?_))); (case side4 => exact (Kd.R_reads' HO1820.out).2.1); rintro e w' ⟨rfl, ⟨nd, rfl⟩⟩; (try first | exact ⟨rfl, _, World.drewN_drewN _ _ _⟩ | exact ⟨rfl, _, Eq.trans (World.drewN_drewN _ _ _) (congrArg (World.drewN _) (Nat.add_assoc _ _ _))⟩); obtain ⟨Ao38, co38, eo38⟩ := Wn.slice HO1838.out; subst eo38; obtain ⟨Ao39, co39, eo39⟩ := Wn.slice HO1842.out; subst eo39))
  repeat (go_quiet (first | (go_at_call 76; (with_reducible refine (laws_r8Same.calls k _ _ t1828 _ _ t1815 true _ ?side1 ?side2 ?side3 ?side4 A31.out).mono ?_); (case side1 => repeat (first | exact (Kd.R_reads' HO1830.out).2.2 | (with_reducible refine Kd.C_alloc ?_ _) | (with_reducible refine Kd.C_drewN ?_ _) | (with_reducible refine Kd.C_drew ?_))); (case side2 => exact (Kd.R_reads' HO1830.out).2.1); (case side3 => repeat (first | exact (Kd.R_reads' HO1817.out).2.2 | (with_reducible refine Kd.C_alloc ?_ _) | (with_reducible refine Kd.C_drewN ?_ _) | (with_reducible refine Kd.C_drew ?_))); (case side4 => exact (Kd.R_reads' HO1817.out).2.1); rintro e w' ⟨rfl, ⟨nd, rfl⟩⟩; (try first | exact ⟨rfl, _, World.drewN_drewN _ _ _⟩ | exact ⟨rfl, _, Eq.trans (World.drewN_drewN _ _ _) (congrArg (World.drewN _) (Nat.add_assoc _ _ _))⟩); obtain ⟨Ao37, co37, eo37⟩ := Kd.R_slice HO1833.out; subst eo37) | (go_at_call 76; (with_reducible refine (laws_r8Same.calls k _ _ t1831 _ _ t1818 true _ ?side1 ?side2 ?side3 ?side4 A33.out).mono ?_); (case side1 => repeat (first | exact (Kd.R_reads' HO1833.out).2.2 | (with_reducible refine Kd.C_alloc ?_ _) | (with_reducible refine Kd.C_drewN ?_ _) | (with_reducible refine Kd.C_drew ?_))); (case side2 => exact (Kd.R_reads' HO1833.out).2.1); (case side3 => repeat (first | exact (Kd.R_reads' HO1820.out).2.2 | (with_reducible refine Kd.C_alloc ?_ _) | (with_reducible refine Kd.C_drewN ?_ _) | (with_reducible refine Kd.C_drew ?_))); (case side4 => exact (Kd.R_reads' HO1820.out).2.1); rintro e w' ⟨rfl, ⟨nd, rfl⟩⟩; (try first | exact ⟨rfl, _, World.drewN_drewN _ _ _⟩ | exact ⟨rfl, _, Eq.trans (World.drewN_drewN _ _ _) (congrArg (World.drewN _) (Nat.add_assoc _ _ _))⟩); obtain ⟨Ao38, co38, eo38⟩ := Wn.slice HO1838.out; subst eo38; obtain ⟨Ao39, co39, eo39⟩ := Wn.slice HO1842.out; subst eo39)); try go_wp2_with (first | (go_at_call 76; (with_reducible refine (laws_r8Same.calls k _ _ t1828 _ _ t1815 true _ ?side1 ?side2 ?side3 ?side4 A31.out).mono ?_); (case side1 => repeat (first | exact (Kd.R_reads' HO1830.out).2.2 | (with_reducible refine Kd.C_alloc ?_ _) | (with_reducible refine Kd.C_drewN ?_ _) | (with_reducible refine Kd.C_drew ?_))); (case side2 => exact (Kd.R_reads' HO1830.out).2.1); (case side3 => repeat (first | exact (Kd.R_reads' HO1817.out).2.2 | (with_reducible refine Kd.C_alloc ?_ _) | (with_reducible refine Kd.C_drewN ?_ _) | (with_reducible refine Kd.C_drew ?_))); (case side4 => exact (Kd.R_reads' HO1817.out).2.1); rintro e w' ⟨rfl, ⟨nd, rfl⟩⟩; (try first | exact ⟨rfl, _, World.drewN_drewN _ _ _⟩ | exact ⟨rfl, _, Eq.trans (World.drewN_drewN _ _ _) (congrArg (World.drewN _) (Nat.add_assoc _ _ _))⟩); obtain ⟨Ao37, co37, eo37⟩ := Kd.R_slice HO1833.out; subst eo37) | (go_at_call 76; (with_reducible refine (laws_r8Same.calls k _ _ t1831 _ _ t1818 true _ ?side1 ?side2 ?side3 ?side4 A33.out).mono ?_); (case side1 => repeat (first | exact (Kd.R_reads' HO1833.out).2.2 | (with_reducible refine Kd.C_alloc ?_ _) | (with_reducible refine Kd.C_drewN ?_ _) | (with_reducible refine Kd.C_drew ?_))); (case side2 => exact (Kd.R_reads' HO1833.out).2.1); (case side3 => repeat (first | exact (Kd.R_reads' HO1820.out).2.2 | (with_reducible refine Kd.C_alloc ?_ _) | (with_reducible refine Kd.C_drewN ?_ _) | (with_reducible refine Kd.C_drew ?_))); (case side4 => exact (Kd.R_reads' HO1820.out).2.1); rintro e w' ⟨rfl, ⟨nd, rfl⟩⟩; (try first | exact ⟨rfl, _, World.drewN_drewN _ _ _⟩ | exact ⟨rfl, _, Eq.trans (World.drewN_drewN _ _ _) (congrArg (World.drewN _) (Nat.add_assoc _ _ _))⟩); obtain ⟨Ao38, co38, eo38⟩ := Wn.slice HO1838.out; subst eo38; obtain ⟨Ao39, co39, eo39⟩ := Wn.slice HO1842.out; subst eo39)))
  go_meet
  case rel => exact ⟨_, (((t1840.length : Int) != (t1815.length : Int))), (by first | rfl | (simp; done) | (simp [*]; done)), H', ⟨by first | omega | exact Nat.le_refl _⟩, ⟨by (with_reducible repeat (first | apply Kd.R_alloc | apply Kd.R_drewN | apply Kd.R_drew)); exact Kd.R_mono HO1817.out (fun _ hk => ⟨hk.1.1.1.1.1.1.2, ⟨hk.1.2, hk.2⟩⟩)⟩, ⟨by (with_reducible repeat (first | apply Kd.R_alloc | apply Kd.R_drewN | apply Kd.R_drew)); exact Kd.R_mono HO1820.out (fun _ hk => ⟨hk.1.1.1.1.1.1.2, ⟨hk.1.2, hk.2⟩⟩)⟩, ⟨by (with_reducible repeat (first | apply Wn.alloc | apply Wn.drewN | apply Wn.drew)); exact HO1838.out⟩, ⟨by (with_reducible repeat (first | apply Wn.alloc | apply Wn.drewN | apply Wn.drew)); exact HO1842.out⟩, ⟨by repeat (first | (with_reducible first | exact HB.out | apply below_alloc | apply pw_below_drewN | apply below_drew1) | exact HB.out)⟩⟩
 case rest =>
  as_aux_lemma =>
   clear HC14
   try clear c1
   try clear c2
   try clear p2
   try clear c3
   try clear c4
   try clear p6
   try clear c23
   try clear c27
   try clear c28
   try clear c29
   try clear c30
   try clear c32
   try clear c34
   try clear c35
   try clear c35b0
   try clear c35b1
   try clear c35b2
   obtain ⟨kq, x111_13, rfl, HA, HJ13, HO_7, HO_8, HO_16, HO_18, HB⟩ := hcut
   cases kq with
   | zero => exact absurd HA.out (by simp [laws_FnTurns.j0])
   | succ kj13 =>
    have H := HA.out
    clear HA
    simp only [laws_FnTurns.j0] at H
    by_cases c46 : x111_13 = true
    ·subst c46
     rw [if_pos rfl] at H
     obtain rfl := Option.some.inj H
     exact absurd HRT.out (by decide)
    replace c46 := Bool.eq_false_iff.mpr c46
    subst c46
    rw [if_neg (show ¬ (false = true) by decide)] at H
    have H' := Aside0.mk H
    clear H
    go_wp2
    repeat (go_quiet (fail); try go_wp2)
    go_loopg [20] kj13 (fun kq v20 w' => ∃ (x20_2 : Int), v20 = .int .i64 x20_2 ∧ Aside0 (laws_FnTurns.l0 kq t1814 t1815 t1818 t1835 t1836 t1840 x20_2 = some r) ∧ Aside0 (kq ≤ kj13) ∧ Aside0 (Kd.R (Kd.int .i64) 2 w' w.heap.size (fun k_ => some k_ ≠ ((.slice Ao20 t1818.length co20) : Value).ownBlock ∧ some k_ ≠ (v1837 : Value).ownBlock ∧ some k_ ≠ (v1841 : Value).ownBlock) (.slice Ao19 t1815.length co19) t1815) ∧ Aside0 (Kd.R (Kd.int .i64) 2 w' w.heap.size (fun k_ => some k_ ≠ ((.slice Ao19 t1815.length co19) : Value).ownBlock ∧ some k_ ≠ (v1837 : Value).ownBlock ∧ some k_ ≠ (v1841 : Value).ownBlock) (.slice Ao20 t1818.length co20) t1818) ∧ Aside0 (Wn w' w.heap.size v1837 t1836) ∧ Aside0 (Wn w' w.heap.size v1841 t1840) ∧ Aside0 (Below w.heap.size w w'))
    case atStart => exact ⟨(0), (by first | rfl | (simp; done) | (simp [*]; done)), H', ⟨Nat.le_refl _⟩, ⟨by (with_reducible repeat (first | apply Kd.R_alloc | apply Kd.R_drewN | apply Kd.R_drew)); exact HO_7.out⟩, ⟨by (with_reducible repeat (first | apply Kd.R_alloc | apply Kd.R_drewN | apply Kd.R_drew)); exact HO_8.out⟩, ⟨by (with_reducible repeat (first | apply Wn.alloc | apply Wn.drewN | apply Wn.drew)); exact HO_16.out⟩, ⟨by (with_reducible repeat (first | apply Wn.alloc | apply Wn.drewN | apply Wn.drew)); exact HO_18.out⟩, ⟨by repeat (first | (with_reducible first | exact HB.out | apply below_alloc | apply pw_below_drewN | apply below_drew1) | exact HB.out)⟩⟩
    case round =>
     clear H'
     try clear c1
     try clear c2
     try clear p2
     try clear c3
     try clear c4
     try clear p6
     try clear c23
     try clear c27
     try clear c28
     try clear c29
     try clear c30
     try clear c32
     try clear c34
     try clear c35
     try clear c35b0
     try clear c35b1
     try clear c35b2
     try clear c46
     try clear p2
     try clear p6
     obtain ⟨x20_2, rfl, HA, HK2, HO_7, HO_8, HO_16, HO_18, HB⟩ := hrel
     cases gk with
     | zero => exact absurd HA.out (by simp [laws_FnTurns.l0])
     | succ k2 =>
      have H := HA.out
      clear HA
      simp only [laws_FnTurns.l0] at H
      by_cases c47 : x20_2 < t1814
      rotate_left
      ·rw [if_neg c47] at H
       have c47b0 : decide (x20_2 < t1814) = false := decide_eq_false c47
       clear c47
       obtain rfl := Option.some.inj H
       go_wp2
       (try dsimp only [List.append])
       repeat (go_quiet (fail); try go_wp2)
       go_ret
       exact ⟨by first | rfl | (simp [errW_none, errW_some] <;> rfl) | (simp [*, errW_none, errW_some] <;> rfl), by repeat (first | (with_reducible first | exact HB.out | apply below_alloc | apply pw_below_drewN | apply below_drew1) | exact HB.out)⟩

      rw [if_pos c47] at H
      have c47b0 : decide (x20_2 < t1814) = true := decide_eq_true c47
      clear c47
      by_cases c48 : (wrap64 (x20_2 + t1835)) < t1814
      ·rw [if_pos c48] at H
       have c48b0 : decide ((wrap64 (x20_2 + t1835)) < t1814) = true := decide_eq_true c48
       clear c48
       by_cases c49 : 0 ≤ x20_2
       rotate_left
       ·rw [if_neg c49] at H
        exact absurd H (by simp)
       rw [if_pos c49] at H
       have c49b0 : decide (0 ≤ x20_2) = true := decide_eq_true c49
       clear c49
       by_cases c50 : x20_2 < (t1836.length : Int)
       rotate_left
       ·rw [if_neg c50] at H
        exact absurd H (by simp)
       rw [if_pos c50] at H
       have c50b0 : decide (x20_2 < (t1836.length : Int)) = true := decide_eq_true c50
       clear c50
       obtain ⟨ji51, hji51⟩ : ∃ j_ : Int, (wrap64 (x20_2 + t1835)) = j_ := ⟨_, rfl⟩
       replace H : (if 0 ≤ (ji51) then (if (ji51) < (t1815.length : Int) then (if (rd t1836 x20_2) = (rd t1815 (ji51)) then (if x20_2 < (t1840.length : Int) then (if (ji51) < (t1818.length : Int) then (if (rd t1840 x20_2) = (rd t1818 (ji51)) then (if (ji51) ≥ t1814 then (if 0 ≤ (wrap64 ((ji51) - t1814)) then (if (wrap64 ((ji51) - t1814)) < (t1818.length : Int) then (if (rd t1836 x20_2) = (rd t1818 (wrap64 ((ji51) - t1814))) then (if (wrap64 ((ji51) - t1814)) < (t1815.length : Int) then (if (rd t1840 x20_2) = (rd t1815 (wrap64 ((ji51) - t1814))) then (laws_FnTurns.l0 k2 t1814 t1815 t1818 t1835 t1836 t1840 (wrap64 (x20_2 + 1))) else (some false)) else (none)) else (some false)) else (none)) else (none)) else (laws_FnTurns.l0 k2 t1814 t1815 t1818 t1835 t1836 t1840 (wrap64 (x20_2 + 1)))) else (some false)) else (none)) else (none)) else (some false)) else (none)) else (none)) = some r := by first | (rw [hji51] at H; exact H) | (simp only [hji51] at H ⊢; exact H)
       (try rw [hji51] at c48b0)
       have hji51w : (IntKind.i64.wrap (x20_2 + t1835)) = ji51 := (i64_w _).trans hji51
       by_cases c52 : 0 ≤ (ji51)
       rotate_left
       ·rw [if_neg c52] at H
        exact absurd H (by simp)
       rw [if_pos c52] at H
       have c52b0 : decide (0 ≤ (ji51)) = true := decide_eq_true c52
       clear c52
       by_cases c53 : (ji51) < (t1815.length : Int)
       rotate_left
       ·rw [if_neg c53] at H
        exact absurd H (by simp)
       rw [if_pos c53] at H
       have c53b0 : decide ((ji51) < (t1815.length : Int)) = true := decide_eq_true c53
       clear c53
       by_cases c54 : (rd t1836 x20_2) = (rd t1815 (ji51))
       rotate_left
       ·rw [if_neg c54] at H
        have c54b0 : ((rd t1836 x20_2) == (rd t1815 (ji51))) = false := beq_eq_false_iff_ne.mpr c54
        have c54b1 : ((rd t1836 x20_2) != (rd t1815 (ji51))) = true := bne_iff_ne.mpr c54
        obtain rfl := Option.some.inj H
        exact absurd HRT.out (by decide)
       rw [if_pos c54] at H
       have c54b0 : ((rd t1836 x20_2) == (rd t1815 (ji51))) = true := beq_iff_eq.mpr c54
       have c54b1 : ((rd t1836 x20_2) != (rd t1815 (ji51))) = false := bne_eq_false_iff_eq.mpr c54
       clear c54
       by_cases c55 : x20_2 < (t1840.length : Int)
       rotate_left
       ·rw [if_neg c55] at H
        exact absurd H (by simp)
       rw [if_pos c55] at H
       have c55b0 : decide (x20_2 < (t1840.length : Int)) = true := decide_eq_true c55
       clear c55
       by_cases c56 : (ji51) < (t1818.length : Int)
       rotate_left
       ·rw [if_neg c56] at H
        exact absurd H (by simp)
       rw [if_pos c56] at H
       have c56b0 : decide ((ji51) < (t1818.length : Int)) = true := decide_eq_true c56
       clear c56
       by_cases c57 : (rd t1840 x20_2) = (rd t1818 (ji51))
       rotate_left
       ·rw [if_neg c57] at H
        have c57b0 : ((rd t1840 x20_2) == (rd t1818 (ji51))) = false := beq_eq_false_iff_ne.mpr c57
        have c57b1 : ((rd t1840 x20_2) != (rd t1818 (ji51))) = true := bne_iff_ne.mpr c57
        obtain rfl := Option.some.inj H
        exact absurd HRT.out (by decide)
       rw [if_pos c57] at H
       have c57b0 : ((rd t1840 x20_2) == (rd t1818 (ji51))) = true := beq_iff_eq.mpr c57
       have c57b1 : ((rd t1840 x20_2) != (rd t1818 (ji51))) = false := bne_eq_false_iff_eq.mpr c57
       clear c57
       by_cases c58 : (ji51) ≥ t1814
       ·rw [if_pos c58] at H
        have c58b0 : decide (t1814 ≤ (ji51)) = true := decide_eq_true c58
        clear c58
        obtain ⟨ji59, hji59⟩ : ∃ j_ : Int, (wrap64 ((ji51) - t1814)) = j_ := ⟨_, rfl⟩
        replace H : (if 0 ≤ (ji59) then (if (ji59) < (t1818.length : Int) then (if (rd t1836 x20_2) = (rd t1818 (ji59)) then (if (ji59) < (t1815.length : Int) then (if (rd t1840 x20_2) = (rd t1815 (ji59)) then (laws_FnTurns.l0 k2 t1814 t1815 t1818 t1835 t1836 t1840 (wrap64 (x20_2 + 1))) else (some false)) else (none)) else (some false)) else (none)) else (none)) = some r := by first | (rw [hji59] at H; exact H) | (simp only [hji59] at H ⊢; exact H)
        have hji59w : (IntKind.i64.wrap ((ji51) - t1814)) = ji59 := (i64_w _).trans hji59
        by_cases c60 : 0 ≤ (ji59)
        rotate_left
        ·rw [if_neg c60] at H
         exact absurd H (by simp)
        rw [if_pos c60] at H
        have c60b0 : decide (0 ≤ (ji59)) = true := decide_eq_true c60
        clear c60
        by_cases c61 : (ji59) < (t1818.length : Int)
        rotate_left
        ·rw [if_neg c61] at H
         exact absurd H (by simp)
        rw [if_pos c61] at H
        have c61b0 : decide ((ji59) < (t1818.length : Int)) = true := decide_eq_true c61
        clear c61
        by_cases c62 : (rd t1836 x20_2) = (rd t1818 (ji59))
        rotate_left
        ·rw [if_neg c62] at H
         have c62b0 : ((rd t1836 x20_2) == (rd t1818 (ji59))) = false := beq_eq_false_iff_ne.mpr c62
         have c62b1 : ((rd t1836 x20_2) != (rd t1818 (ji59))) = true := bne_iff_ne.mpr c62
         obtain rfl := Option.some.inj H
         exact absurd HRT.out (by decide)
        rw [if_pos c62] at H
        have c62b0 : ((rd t1836 x20_2) == (rd t1818 (ji59))) = true := beq_iff_eq.mpr c62
        have c62b1 : ((rd t1836 x20_2) != (rd t1818 (ji59))) = false := bne_eq_false_iff_eq.mpr c62
        clear c62
        by_cases c63 : (ji59) < (t1815.length : Int)
        rotate_left
        ·rw [if_neg c63] at H
         exact absurd H (by simp)
        rw [if_pos c63] at H
        have c63b0 : decide ((ji59) < (t1815.length : Int)) = true := decide_eq_true c63
        clear c63
        by_cases c64 : (rd t1840 x20_2) = (rd t1815 (ji59))
        rotate_left
        ·rw [if_neg c64] at H
         have c64b0 : ((rd t1840 x20_2) == (rd t1815 (ji59))) = false := beq_eq_false_iff_ne.mpr c64
         have c64b1 : ((rd t1840 x20_2) != (rd t1815 (ji59))) = true := bne_iff_ne.mpr c64
         obtain rfl := Option.some.inj H
         exact absurd HRT.out (by decide)
        rw [if_pos c64] at H
        have c64b0 : ((rd t1840 x20_2) == (rd t1815 (ji59))) = true := beq_iff_eq.mpr c64
        have c64b1 : ((rd t1840 x20_2) != (rd t1815 (ji59))) = false := bne_eq_false_iff_eq.mpr c64
        clear c64
        have H' := Aside0.mk H
        clear H
        obtain ⟨Ao65, co65, eo65⟩ := Wn.slice HO_16.out
        subst eo65
        have p1846 : 0 ≤ (x20_2 : Int) := of_decide_eq_true (by first | (with_reducible assumption) | assumption)
        have q1846 : x20_2 < (t1836.length : Int) := of_decide_eq_true (by first | (with_reducible assumption) | assumption)
        obtain ⟨ad1846, e1846, hx1846_0⟩ := Kd.at_int (Kd.V_reads' HO_16.out.2).2.2 x20_2 p1846 q1846
        cases e1846
        replace p1846 := eq_true p1846
        replace q1846 := eq_true q1846
        have p1847 : 0 ≤ ((ji51) : Int) := of_decide_eq_true (by first | (with_reducible assumption) | assumption)
        have q1847 : (ji51) < (t1815.length : Int) := of_decide_eq_true (by first | (with_reducible assumption) | assumption)
        obtain ⟨ad1847, e1847, hx1847_0⟩ := Kd.at_int (Kd.R_reads' HO_7.out).2.2 (ji51) p1847 q1847
        cases e1847
        replace p1847 := eq_true p1847
        replace q1847 := eq_true q1847
        obtain ⟨Ao66, co66, eo66⟩ := Wn.slice HO_18.out
        subst eo66
        have p1848 : 0 ≤ (x20_2 : Int) := of_decide_eq_true (by first | (with_reducible assumption) | assumption)
        have q1848 : x20_2 < (t1840.length : Int) := of_decide_eq_true (by first | (with_reducible assumption) | assumption)
        obtain ⟨ad1848, e1848, hx1848_0⟩ := Kd.at_int (Kd.V_reads' HO_18.out.2).2.2 x20_2 p1848 q1848
        cases e1848
        replace p1848 := eq_true p1848
        replace q1848 := eq_true q1848
        have p1849 : 0 ≤ ((ji51) : Int) := of_decide_eq_true (by first | (with_reducible assumption) | assumption)
        have q1849 : (ji51) < (t1818.length : Int) := of_decide_eq_true (by first | (with_reducible assumption) | assumption)
        obtain ⟨ad1849, e1849, hx1849_0⟩ := Kd.at_int (Kd.R_reads' HO_8.out).2.2 (ji51) p1849 q1849
        cases e1849
        replace p1849 := eq_true p1849
        replace q1849 := eq_true q1849
        have p1850 : 0 ≤ (x20_2 : Int) := of_decide_eq_true (by first | (with_reducible assumption) | assumption)
        have q1850 : x20_2 < (t1836.length : Int) := of_decide_eq_true (by first | (with_reducible assumption) | assumption)
        obtain ⟨ad1850, e1850, hx1850_0⟩ := Kd.at_int (Kd.V_reads' HO_16.out.2).2.2 x20_2 p1850 q1850
        obtain rfl : ad1846 = ad1850 := (by injection e1850)
        replace p1850 := eq_true p1850
        replace q1850 := eq_true q1850
        have p1851 : 0 ≤ ((ji59) : Int) := of_decide_eq_true (by first | (with_reducible assumption) | assumption)
        have q1851 : (ji59) < (t1818.length : Int) := of_decide_eq_true (by first | (with_reducible assumption) | assumption)
        obtain ⟨ad1851, e1851, hx1851_0⟩ := Kd.at_int (Kd.R_reads' HO_8.out).2.2 (ji59) p1851 q1851
        obtain rfl : ad1849 = ad1851 := (by injection e1851)
        replace p1851 := eq_true p1851
        replace q1851 := eq_true q1851
        have p1852 : 0 ≤ (x20_2 : Int) := of_decide_eq_true (by first | (with_reducible assumption) | assumption)
        have q1852 : x20_2 < (t1840.length : Int) := of_decide_eq_true (by first | (with_reducible assumption) | assumption)
        obtain ⟨ad1852, e1852, hx1852_0⟩ := Kd.at_int (Kd.V_reads' HO_18.out.2).2.2 x20_2 p1852 q1852
        obtain rfl : ad1848 = ad1852 := (by injection e1852)
        replace p1852 := eq_true p1852
        replace q1852 := eq_true q1852
        have p1853 : 0 ≤ ((ji59) : Int) := of_decide_eq_true (by first | (with_reducible assumption) | assumption)
        have q1853 : (ji59) < (t1815.length : Int) := of_decide_eq_true (by first | (with_reducible assumption) | assumption)
        obtain ⟨ad1853, e1853, hx1853_0⟩ := Kd.at_int (Kd.R_reads' HO_7.out).2.2 (ji59) p1853 q1853
        obtain rfl : ad1847 = ad1853 := (by injection e1853)
        replace p1853 := eq_true p1853
        replace q1853 := eq_true q1853
        go_wp2
        (try dsimp only [List.append])
        repeat (go_quiet (fail); try go_wp2)
        go_roundg k2
        case measure => have := HJ13.out; have := HK2.out; omega
        case rel => exact ⟨(wrap64 (x20_2 + 1)), (by first | rfl | (simp; done) | (simp [*]; done)), H', ⟨by have := HJ13.out; have := HK2.out; omega⟩, ⟨by (with_reducible repeat (first | apply Kd.R_alloc | apply Kd.R_drewN | apply Kd.R_drew)); exact HO_7.out⟩, ⟨by (with_reducible repeat (first | apply Kd.R_alloc | apply Kd.R_drewN | apply Kd.R_drew)); exact HO_8.out⟩, ⟨by (with_reducible repeat (first | apply Wn.alloc | apply Wn.drewN | apply Wn.drew)); exact HO_16.out⟩, ⟨by (with_reducible repeat (first | apply Wn.alloc | apply Wn.drewN | apply Wn.drew)); exact HO_18.out⟩, ⟨by repeat (first | (with_reducible first | exact HB.out | apply below_alloc | apply pw_below_drewN | apply below_drew1) | exact HB.out)⟩⟩
       ·rw [if_neg c58] at H
        have c58b0 : decide (t1814 ≤ (ji51)) = false := decide_eq_false c58
        clear c58
        have H' := Aside0.mk H
        clear H
        obtain ⟨Ao67, co67, eo67⟩ := Wn.slice HO_16.out
        subst eo67
        have p1846 : 0 ≤ (x20_2 : Int) := of_decide_eq_true (by first | (with_reducible assumption) | assumption)
        have q1846 : x20_2 < (t1836.length : Int) := of_decide_eq_true (by first | (with_reducible assumption) | assumption)
        obtain ⟨ad1846, e1846, hx1846_0⟩ := Kd.at_int (Kd.V_reads' HO_16.out.2).2.2 x20_2 p1846 q1846
        cases e1846
        replace p1846 := eq_true p1846
        replace q1846 := eq_true q1846
        have p1847 : 0 ≤ ((ji51) : Int) := of_decide_eq_true (by first | (with_reducible assumption) | assumption)
        have q1847 : (ji51) < (t1815.length : Int) := of_decide_eq_true (by first | (with_reducible assumption) | assumption)
        obtain ⟨ad1847, e1847, hx1847_0⟩ := Kd.at_int (Kd.R_reads' HO_7.out).2.2 (ji51) p1847 q1847
        cases e1847
        replace p1847 := eq_true p1847
        replace q1847 := eq_true q1847
        obtain ⟨Ao68, co68, eo68⟩ := Wn.slice HO_18.out
        subst eo68
        have p1848 : 0 ≤ (x20_2 : Int) := of_decide_eq_true (by first | (with_reducible assumption) | assumption)
        have q1848 : x20_2 < (t1840.length : Int) := of_decide_eq_true (by first | (with_reducible assumption) | assumption)
        obtain ⟨ad1848, e1848, hx1848_0⟩ := Kd.at_int (Kd.V_reads' HO_18.out.2).2.2 x20_2 p1848 q1848
        cases e1848
        replace p1848 := eq_true p1848
        replace q1848 := eq_true q1848
        have p1849 : 0 ≤ ((ji51) : Int) := of_decide_eq_true (by first | (with_reducible assumption) | assumption)
        have q1849 : (ji51) < (t1818.length : Int) := of_decide_eq_true (by first | (with_reducible assumption) | assumption)
        obtain ⟨ad1849, e1849, hx1849_0⟩ := Kd.at_int (Kd.R_reads' HO_8.out).2.2 (ji51) p1849 q1849
        cases e1849
        replace p1849 := eq_true p1849
        replace q1849 := eq_true q1849
        go_wp2
        (try dsimp only [List.append])
        repeat (go_quiet (fail); try go_wp2)
        go_roundg k2
        case measure => have := HJ13.out; have := HK2.out; omega
        case rel => exact ⟨(wrap64 (x20_2 + 1)), (by first | rfl | (simp; done) | (simp [*]; done)), H', ⟨by have := HJ13.out; have := HK2.out; omega⟩, ⟨by (with_reducible repeat (first | apply Kd.R_alloc | apply Kd.R_drewN | apply Kd.R_drew)); exact HO_7.out⟩, ⟨by (with_reducible repeat (first | apply Kd.R_alloc | apply Kd.R_drewN | apply Kd.R_drew)); exact HO_8.out⟩, ⟨by (with_reducible repeat (first | apply Wn.alloc | apply Wn.drewN | apply Wn.drew)); exact HO_16.out⟩, ⟨by (with_reducible repeat (first | apply Wn.alloc | apply Wn.drewN | apply Wn.drew)); exact HO_18.out⟩, ⟨by repeat (first | (with_reducible first | exact HB.out | apply below_alloc | apply pw_below_drewN | apply below_drew1) | exact HB.out)⟩⟩
      ·rw [if_neg c48] at H
       have c48b0 : decide ((wrap64 (x20_2 + t1835)) < t1814) = false := decide_eq_false c48
       clear c48
       by_cases c69 : (wrap64 (x20_2 + t1835)) ≥ t1814
       rotate_left
       ·exact (ways_FnTurns.z2 c48b0 c69).elim
       rw [if_pos c69] at H
       have c69b0 : decide (t1814 ≤ (wrap64 (x20_2 + t1835))) = true := decide_eq_true c69
       clear c69
       by_cases c70 : 0 ≤ x20_2
       rotate_left
       ·rw [if_neg c70] at H
        exact absurd H (by simp)
       rw [if_pos c70] at H
       have c70b0 : decide (0 ≤ x20_2) = true := decide_eq_true c70
       clear c70
       by_cases c71 : x20_2 < (t1836.length : Int)
       rotate_left
       ·rw [if_neg c71] at H
        exact absurd H (by simp)
       rw [if_pos c71] at H
       have c71b0 : decide (x20_2 < (t1836.length : Int)) = true := decide_eq_true c71
       clear c71
       obtain ⟨ji72, hji72⟩ : ∃ j_ : Int, (wrap64 ((wrap64 (x20_2 + t1835)) - t1814)) = j_ := ⟨_, rfl⟩
       replace H : (if 0 ≤ (ji72) then (if (ji72) < (t1818.length : Int) then (if (rd t1836 x20_2) = (rd t1818 (ji72)) then (if x20_2 < (t1840.length : Int) then (if (ji72) < (t1815.length : Int) then (if (rd t1840 x20_2) = (rd t1815 (ji72)) then (laws_FnTurns.l0 k2 t1814 t1815 t1818 t1835 t1836 t1840 (wrap64 (x20_2 + 1))) else (some false)) else (none)) else (none)) else (some false)) else (none)) else (none)) = some r := by first | (rw [hji72] at H; exact H) | (simp only [hji72] at H ⊢; exact H)
       have hji72w : (IntKind.i64.wrap ((wrap64 (x20_2 + t1835)) - t1814)) = ji72 := (i64_w _).trans hji72
       by_cases c73 : 0 ≤ (ji72)
       rotate_left
       ·rw [if_neg c73] at H
        exact absurd H (by simp)
       rw [if_pos c73] at H
       have c73b0 : decide (0 ≤ (ji72)) = true := decide_eq_true c73
       clear c73
       by_cases c74 : (ji72) < (t1818.length : Int)
       rotate_left
       ·rw [if_neg c74] at H
        exact absurd H (by simp)
       rw [if_pos c74] at H
       have c74b0 : decide ((ji72) < (t1818.length : Int)) = true := decide_eq_true c74
       clear c74
       by_cases c75 : (rd t1836 x20_2) = (rd t1818 (ji72))
       rotate_left
       ·rw [if_neg c75] at H
        have c75b0 : ((rd t1836 x20_2) == (rd t1818 (ji72))) = false := beq_eq_false_iff_ne.mpr c75
        have c75b1 : ((rd t1836 x20_2) != (rd t1818 (ji72))) = true := bne_iff_ne.mpr c75
        obtain rfl := Option.some.inj H
        exact absurd HRT.out (by decide)
       rw [if_pos c75] at H
       have c75b0 : ((rd t1836 x20_2) == (rd t1818 (ji72))) = true := beq_iff_eq.mpr c75
       have c75b1 : ((rd t1836 x20_2) != (rd t1818 (ji72))) = false := bne_eq_false_iff_eq.mpr c75
       clear c75
       by_cases c76 : x20_2 < (t1840.length : Int)
       rotate_left
       ·rw [if_neg c76] at H
        exact absurd H (by simp)
       rw [if_pos c76] at H
       have c76b0 : decide (x20_2 < (t1840.length : Int)) = true := decide_eq_true c76
       clear c76
       by_cases c77 : (ji72) < (t1815.length : Int)
       rotate_left
       ·rw [if_neg c77] at H
        exact absurd H (by simp)
       rw [if_pos c77] at H
       have c77b0 : decide ((ji72) < (t1815.length : Int)) = true := decide_eq_true c77
       clear c77
       by_cases c78 : (rd t1840 x20_2) = (rd t1815 (ji72))
       rotate_left
       ·rw [if_neg c78] at H
        have c78b0 : ((rd t1840 x20_2) == (rd t1815 (ji72))) = false := beq_eq_false_iff_ne.mpr c78
        have c78b1 : ((rd t1840 x20_2) != (rd t1815 (ji72))) = true := bne_iff_ne.mpr c78
        obtain rfl := Option.some.inj H
        exact absurd HRT.out (by decide)
       rw [if_pos c78] at H
       have c78b0 : ((rd t1840 x20_2) == (rd t1815 (ji72))) = true := beq_iff_eq.mpr c78
       have c78b1 : ((rd t1840 x20_2) != (rd t1815 (ji72))) = false := bne_eq_false_iff_eq.mpr c78
       clear c78
       have H' := Aside0.mk H
       clear H
       obtain ⟨Ao79, co79, eo79⟩ := Wn.slice HO_16.out
       subst eo79
       have p1854 : 0 ≤ (x20_2 : Int) := of_decide_eq_true (by first | (with_reducible assumption) | assumption)
       have q1854 : x20_2 < (t1836.length : Int) := of_decide_eq_true (by first | (with_reducible assumption) | assumption)
       obtain ⟨ad1854, e1854, hx1854_0⟩ := Kd.at_int (Kd.V_reads' HO_16.out.2).2.2 x20_2 p1854 q1854
       cases e1854
       replace p1854 := eq_true p1854
       replace q1854 := eq_true q1854
       have p1855 : 0 ≤ ((ji72) : Int) := of_decide_eq_true (by first | (with_reducible assumption) | assumption)
       have q1855 : (ji72) < (t1818.length : Int) := of_decide_eq_true (by first | (with_reducible assumption) | assumption)
       obtain ⟨ad1855, e1855, hx1855_0⟩ := Kd.at_int (Kd.R_reads' HO_8.out).2.2 (ji72) p1855 q1855
       cases e1855
       replace p1855 := eq_true p1855
       replace q1855 := eq_true q1855
       obtain ⟨Ao80, co80, eo80⟩ := Wn.slice HO_18.out
       subst eo80
       have p1856 : 0 ≤ (x20_2 : Int) := of_decide_eq_true (by first | (with_reducible assumption) | assumption)
       have q1856 : x20_2 < (t1840.length : Int) := of_decide_eq_true (by first | (with_reducible assumption) | assumption)
       obtain ⟨ad1856, e1856, hx1856_0⟩ := Kd.at_int (Kd.V_reads' HO_18.out.2).2.2 x20_2 p1856 q1856
       cases e1856
       replace p1856 := eq_true p1856
       replace q1856 := eq_true q1856
       have p1857 : 0 ≤ ((ji72) : Int) := of_decide_eq_true (by first | (with_reducible assumption) | assumption)
       have q1857 : (ji72) < (t1815.length : Int) := of_decide_eq_true (by first | (with_reducible assumption) | assumption)
       obtain ⟨ad1857, e1857, hx1857_0⟩ := Kd.at_int (Kd.R_reads' HO_7.out).2.2 (ji72) p1857 q1857
       cases e1857
       replace p1857 := eq_true p1857
       replace q1857 := eq_true q1857
       go_wp2
       (try dsimp only [List.append])
       repeat (go_quiet (fail); try go_wp2)
       go_roundg k2
       case measure => have := HJ13.out; have := HK2.out; omega
       case rel => exact ⟨(wrap64 (x20_2 + 1)), (by first | rfl | (simp; done) | (simp [*]; done)), H', ⟨by have := HJ13.out; have := HK2.out; omega⟩, ⟨by (with_reducible repeat (first | apply Kd.R_alloc | apply Kd.R_drewN | apply Kd.R_drew)); exact HO_7.out⟩, ⟨by (with_reducible repeat (first | apply Kd.R_alloc | apply Kd.R_drewN | apply Kd.R_drew)); exact HO_8.out⟩, ⟨by (with_reducible repeat (first | apply Wn.alloc | apply Wn.drewN | apply Wn.drew)); exact HO_16.out⟩, ⟨by (with_reducible repeat (first | apply Wn.alloc | apply Wn.drewN | apply Wn.drew)); exact HO_18.out⟩, ⟨by repeat (first | (with_reducible first | exact HB.out | apply below_alloc | apply pw_below_drewN | apply below_drew1) | exact HB.out)⟩⟩
/-- THE ONE PURE STATEMENT of laws_FnTurns: yours. -/
def laws_FnTurns.Pure : Prop := ∀ (l0 : List Int) (l1 : List Int), l0.length ≤ maxLen → l0.length * 1 ≤ 140737488351232 → (∀ x ∈ l0, (Lit.int .u8 x).wf = true) → l1.length ≤ maxLen → l1.length * 1 ≤ 140737488351232 → (∀ x ∈ l1, (Lit.int .u8 x).wf = true) → ∃ k, laws_FnTurns.f k l0 l1 = some true
theorem laws_FnTurns.walk (P : laws_FnTurns.Pure) (a0 : Option Addr) (len0 cap0 : Nat) (z0 : List Int) (a1 : Option Addr) (len1 cap1 : Nat) (z1 : List Int) (w : World) (w0 : (a0 = none ∧ len0 = 0 ∧ cap0 = 0 ∧ z0 = []) ∨ ∃ x, a0 = some x ∧ len0 ≤ cap0 ∧ cap0 ≤ maxLen ∧ z0.length = cap0 ∧ (∀ i, i < z0.length → w.cell? (x.add i) = some (.int .u8 (z0.getD i 0))) ∧ ∀ n ∈ z0, (Lit.int .u8 n).wf = true) (y0 : len0 * 1 ≤ 140737488351232) (w1 : (a1 = none ∧ len1 = 0 ∧ cap1 = 0 ∧ z1 = []) ∨ ∃ x, a1 = some x ∧ len1 ≤ cap1 ∧ cap1 ≤ maxLen ∧ z1.length = cap1 ∧ (∀ i, i < z1.length → w.cell? (x.add i) = some (.int .u8 (z1.getD i 0))) ∧ ∀ n ∈ z1, (Lit.int .u8 n).wf = true) (y1 : len1 * 1 ≤ 140737488351232) :
  Calls Try.prog 23 #[.slice a0 len0 cap0, .slice a1 len1 cap1] w fun e w' => e = .returned (.bool true) ∧ Below w.heap.size w w' := by
 obtain ⟨l0, rfl, hr0, hm0, hw0, hc0⟩ := ReadsInt.ofRowC w0
 obtain ⟨l1, rfl, hr1, hm1, hw1, hc1⟩ := ReadsInt.ofRowC w1
 obtain ⟨k, h⟩ := P l0 l1 hm0 y0 hw0 hm1 y1 hw1
 refine (laws_FnTurns.calls k _ _ l0 _ _ l1 true w (Kd.C_of_reads (d := (0 : Int)) (h1 := fun _ => rfl) hr0) hc0 (Kd.C_of_reads (d := (0 : Int)) (h1 := fun _ => rfl) hr1) hc1 h rfl).mono ?_
 rintro e w' ⟨rfl, hd⟩
 exact ⟨rfl, hd⟩

end Go.Proofs.Ytpcjjminopdofaa.K
