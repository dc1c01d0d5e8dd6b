-- Laid by a program of this session.
import Derived.Test.YtpcjjminopdofaaK0
import Derived.Test.YtpcjjminopdofaaH0
import Derived.Test.YtpcjjminopdofaaK3
namespace Go.Proofs.Ytpcjjminopdofaa.K
open Go.RowKit Go.Proofs.YtpcjjminopdofaaW.PrintWords Go.Proofs.YtpcjjminopdofaaW.PrintLast Go.Proofs.YtpcjjminopdofaaW.PrintMore Go.Proofs.Ytpcjjminopdofaa.Bx Go.Shelf
attribute [local go_sem] max2_int min2_int max_two min_two max_three min_three max_four min_four   -- for this text's walks alone
set_option linter.unusedVariables false
set_option linter.unusedSimpArgs false

/-! ### spec_ConflictsOf: function 41 -/
mutual
def spec_ConflictsOf.l0 : Nat → List Int → List Int → Int → Option (List Int × Bool)
 | 0, _, _, _ => none
 | k + 1, x0, x4, x5 => if x5 < (x0.length : Int) then (spec_ConflictsOf.l1 k x0 x4 x5 0 0) else (some (x4, true))
def spec_ConflictsOf.l1 : Nat → List Int → List Int → Int → Int → Int → Option (List Int × Bool)
 | 0, _, _, _, _, _ => none
 | k + 1, x0, x4, x5, x6, x7 => if x7 < x5 then (if 0 ≤ x7 then (if x7 < (x0.length : Int) then (if 0 ≤ x5 then (if x5 < (x0.length : Int) then (if (rd x0 x7) = (rd x0 x5) then (if 0 ≤ (IntKind.u64.wrap (x7)) then (spec_ConflictsOf.l1 k x0 x4 x5 (wrap64 (x6 + (shl .i64 1 (IntKind.u64.wrap (x7))))) (wrap64 (x7 + 1))) else (none)) else (spec_ConflictsOf.l1 k x0 x4 x5 x6 (wrap64 (x7 + 1)))) else (none)) else (none)) else (none)) else (none)) else (if x4.length < 17592186044416 then (spec_ConflictsOf.l0 k x0 (x4 ++ [x6]) (wrap64 (x5 + 1))) else (none))
end
def spec_ConflictsOf.f (k : Nat) (l0 : List Int) : Option (List Int × Bool) := (spec_l02Is.f k 16 l0).bind fun t929 => (if t929 = true then (spec_ConflictsOf.l0 k l0 (([] : List Int)) 0) else (some (([] : List Int), false)))
theorem spec_ConflictsOf.mono_l : ∀ k, (∀ y0 y1 y2, LeO (spec_ConflictsOf.l0 k y0 y1 y2) (spec_ConflictsOf.l0 (k + 1) y0 y1 y2)) ∧ (∀ y0 y1 y2 y3 y4, LeO (spec_ConflictsOf.l1 k y0 y1 y2 y3 y4) (spec_ConflictsOf.l1 (k + 1) y0 y1 y2 y3 y4))
 | 0 => ⟨fun _ _ _ r h => by simp [spec_ConflictsOf.l0] at h, fun _ _ _ _ _ r h => by simp [spec_ConflictsOf.l1] at h⟩
 | k + 1 => by
  obtain ⟨ih0, ih1⟩ := spec_ConflictsOf.mono_l k
  refine ⟨?_, ?_⟩
  ·intro y0 y1 y2
   unfold spec_ConflictsOf.l0
   repeat' first
   | (with_reducible exact ih0 _ _ _)
   | (with_reducible exact ih1 _ _ _ _ _)
   | (with_reducible exact spec_l02Is.mono _ _ _)
   | (with_reducible exact LeO.refl _)
   | (with_reducible exact LeO.none _)
   | (with_reducible refine LeO.ite ?_ ?_)
   | (with_reducible refine LeO.bind ?_ (fun _ => ?_))
   | exact ih0 _ _ _
   | exact ih1 _ _ _ _ _
   | exact spec_l02Is.mono _ _ _
   | exact LeO.none _
   | refine LeO.ite ?_ ?_
   | refine LeO.bind ?_ (fun _ => ?_)
  ·intro y0 y1 y2 y3 y4
   unfold spec_ConflictsOf.l1
   repeat' first
   | (with_reducible exact ih0 _ _ _)
   | (with_reducible exact ih1 _ _ _ _ _)
   | (with_reducible exact spec_l02Is.mono _ _ _)
   | (with_reducible exact LeO.refl _)
   | (with_reducible exact LeO.none _)
   | (with_reducible refine LeO.ite ?_ ?_)
   | (with_reducible refine LeO.bind ?_ (fun _ => ?_))
   | exact ih0 _ _ _
   | exact ih1 _ _ _ _ _
   | exact spec_l02Is.mono _ _ _
   | exact LeO.none _
   | refine LeO.ite ?_ ?_
   | refine LeO.bind ?_ (fun _ => ?_)
theorem spec_ConflictsOf.mono : ∀ a0 k, LeO (spec_ConflictsOf.f k a0) (spec_ConflictsOf.f (k + 1) a0) := by
 intro a0 k
 obtain ⟨ih0, ih1⟩ := spec_ConflictsOf.mono_l k
 unfold spec_ConflictsOf.f
 repeat' first
   | (with_reducible exact ih0 _ _ _)
   | (with_reducible exact ih1 _ _ _ _ _)
   | (with_reducible exact spec_l02Is.mono _ _ _)
   | (with_reducible exact LeO.refl _)
   | (with_reducible exact LeO.none _)
   | (with_reducible refine LeO.ite ?_ ?_)
   | (with_reducible refine LeO.bind ?_ (fun _ => ?_))
   | exact ih0 _ _ _
   | exact ih1 _ _ _ _ _
   | exact spec_l02Is.mono _ _ _
   | exact LeO.none _
   | refine LeO.ite ?_ ?_
   | refine LeO.bind ?_ (fun _ => ?_)
set_option maxHeartbeats 8000000 in
set_option maxRecDepth 100000 in
theorem spec_ConflictsOf.calls (k : Nat) (A0 : Option Addr) (c0 : Nat) (l0 : List Int) (r1 : List Int) (r2 : Bool) (w : World) (hr0 : Kd.C (Kd.int .i64) w A0 l0.length l0) (hc0 : l0.length ≤ c0) (h : spec_ConflictsOf.f k l0 = some (r1, r2)) :
  Calls Try.prog 41 #[.slice A0 l0.length c0] w fun e w' => ∃ v0_ : Value, e = .returned (.tuple #[v0_, .bool r2]) ∧ Kd.R (Kd.int .i64) 2 w' w.heap.size (fun _ => True) v0_ r1 ∧ Below w.heap.size w w' := by
 have HR0 := Aside0.mk hr0
 have HC0 := Aside0.mk hc0
 clear hr0 hc0
 have HB := Aside0.mk (Below.refl w.heap.size w)
 have H : ((spec_l02Is.f k 16 l0).bind fun t929 => (if t929 = true then (spec_ConflictsOf.l0 k l0 (([] : List Int)) 0) else (some (([] : List Int), false)))) = some (r1, r2) := h
 clear h
 replace H := Option.bind_eq_some_iff.mp H
 obtain ⟨t929, A20, H⟩ := H
 try dsimp only at H
 have A2 := Aside0.mk A20
 clear A20
 by_cases c3 : t929 = true
 rotate_left
 ·replace c3 := Bool.eq_false_iff.mpr c3
  subst c3
  rw [if_neg (show ¬ (false = true) by decide)] at H
  simp only [Option.some.injEq, Prod.mk.injEq] at H
  obtain ⟨rfl, rfl⟩ := H
  go_enter Try.func41, Try.ntmps41
  go_wp2_with (first | (go_at_call 89; (with_reducible refine (spec_l02Is.calls k 16 _ _ l0 false _ ?side1 ?side2 A2.out).mono ?_); (case side1 => repeat (first | exact HR0.out | (with_reducible refine Kd.C_alloc ?_ _) | (with_reducible refine Kd.C_drewN ?_ _) | (with_reducible refine Kd.C_drew ?_))); (case side2 => exact HC0.out); rintro e w' ⟨rfl, ⟨nd, rfl⟩⟩; (try first | exact ⟨rfl, _, World.drewN_drewN _ _ _⟩ | exact ⟨rfl, _, Eq.trans (World.drewN_drewN _ _ _) (congrArg (World.drewN _) (Nat.add_assoc _ _ _))⟩)))
  repeat (go_quiet (first | (go_at_call 89; (with_reducible refine (spec_l02Is.calls k 16 _ _ l0 false _ ?side1 ?side2 A2.out).mono ?_); (case side1 => repeat (first | exact HR0.out | (with_reducible refine Kd.C_alloc ?_ _) | (with_reducible refine Kd.C_drewN ?_ _) | (with_reducible refine Kd.C_drew ?_))); (case side2 => exact HC0.out); rintro e w' ⟨rfl, ⟨nd, rfl⟩⟩; (try first | exact ⟨rfl, _, World.drewN_drewN _ _ _⟩ | exact ⟨rfl, _, Eq.trans (World.drewN_drewN _ _ _) (congrArg (World.drewN _) (Nat.add_assoc _ _ _))⟩))); try go_wp2_with (first | (go_at_call 89; (with_reducible refine (spec_l02Is.calls k 16 _ _ l0 false _ ?side1 ?side2 A2.out).mono ?_); (case side1 => repeat (first | exact HR0.out | (with_reducible refine Kd.C_alloc ?_ _) | (with_reducible refine Kd.C_drewN ?_ _) | (with_reducible refine Kd.C_drew ?_))); (case side2 => exact HC0.out); rintro e w' ⟨rfl, ⟨nd, rfl⟩⟩; (try first | exact ⟨rfl, _, World.drewN_drewN _ _ _⟩ | exact ⟨rfl, _, Eq.trans (World.drewN_drewN _ _ _) (congrArg (World.drewN _) (Nat.add_assoc _ _ _))⟩))))
  go_ret2
  exact ⟨_, by first | rfl | (simp [errW_none, errW_some] <;> rfl) | (simp [*, errW_none, errW_some] <;> rfl), by first | exact Kd.R_nil _ _ _ _ _ | exact Kd.N_nil _ _ _ _ _ | exact Kd.V_nil _ _ _ _ _ | exact Kd.Q_nil _ _ _ _ _ | exact Kd.S_nil _ _ _ _ _, by repeat (first | (with_reducible first | exact HB.out | apply below_alloc | apply pw_below_drewN | apply below_drew1) | exact HB.out)⟩

 subst c3
 rw [if_pos rfl] at H
 obtain ⟨y930, hy930⟩ : ∃ y_ : List Int, y_ = (([] : List Int)) := ⟨_, rfl⟩
 replace H : (spec_ConflictsOf.l0 k l0 y930 0) = some (r1, r2) := by first | (rw [hy930]; with_reducible exact H) | (have H2_ := (Option.bind_some _ _).symm.trans H; rw [hy930]; with_reducible exact H2_) | (have H2_ := (Option.bind_some _ _).symm.trans H; with_reducible exact H2_) | with_reducible exact H | (rw [hy930]; exact H) | exact H
 have Ny930 := Aside0.mk hy930
 clear hy930
 have H' := Aside0.mk H
 clear H
 go_enter Try.func41, Try.ntmps41
 go_wp2_with (first | (go_at_call 89; (with_reducible refine (spec_l02Is.calls k 16 _ _ l0 true _ ?side1 ?side2 A2.out).mono ?_); (case side1 => repeat (first | exact HR0.out | (with_reducible refine Kd.C_alloc ?_ _) | (with_reducible refine Kd.C_drewN ?_ _) | (with_reducible refine Kd.C_drew ?_))); (case side2 => exact HC0.out); rintro e w' ⟨rfl, ⟨nd, rfl⟩⟩; (try first | exact ⟨rfl, _, World.drewN_drewN _ _ _⟩ | exact ⟨rfl, _, Eq.trans (World.drewN_drewN _ _ _) (congrArg (World.drewN _) (Nat.add_assoc _ _ _))⟩)) | ((with_reducible refine gate_dst (N := 11) rfl ?_); refine Kd.R_lit (Kd.int .i64) _ 2 ?hg (N := 11) ?hd (xs := ([] : List Int)) (inner := []) (ok := fun _ => True) (okp := fun _ => True) ?hr ?hp (fun _ hk => hk) trivial (Below.refl _ _) (Nat.le_refl _) (by simp) ?_; (case hd => rfl); (case hg => rfl); (case hr => first | (go_simp; done) | (go_simp; rfl)); (case hp => exact (Reps.none _ _)); intro v931 w4 ho5 hb hg_ hnew_; clear hg_ hnew_; (first | rw [← Ny930.out] at ho5 | (simp only [Int.reduceToNat] at ho5; rw [← Ny930.out] at ho5)); have n0_ := Aside0.mk (Kd.R_lower ho5 (below_size (by repeat (first | (with_reducible first | exact HB.out | apply below_alloc | apply pw_below_drewN | apply below_drew1) | exact HB.out)))); have n1_ := Aside0.mk (below_step (by repeat (first | (with_reducible first | exact HB.out | apply below_alloc | apply pw_below_drewN | apply below_drew1) | exact HB.out)) hb); clear HB; have HO932 := n0_; have HB := n1_; clear n0_ n1_; clear hb ho5))
 repeat (go_quiet (first | (go_at_call 89; (with_reducible refine (spec_l02Is.calls k 16 _ _ l0 true _ ?side1 ?side2 A2.out).mono ?_); (case side1 => repeat (first | exact HR0.out | (with_reducible refine Kd.C_alloc ?_ _) | (with_reducible refine Kd.C_drewN ?_ _) | (with_reducible refine Kd.C_drew ?_))); (case side2 => exact HC0.out); rintro e w' ⟨rfl, ⟨nd, rfl⟩⟩; (try first | exact ⟨rfl, _, World.drewN_drewN _ _ _⟩ | exact ⟨rfl, _, Eq.trans (World.drewN_drewN _ _ _) (congrArg (World.drewN _) (Nat.add_assoc _ _ _))⟩)) | ((with_reducible refine gate_dst (N := 11) rfl ?_); refine Kd.R_lit (Kd.int .i64) _ 2 ?hg (N := 11) ?hd (xs := ([] : List Int)) (inner := []) (ok := fun _ => True) (okp := fun _ => True) ?hr ?hp (fun _ hk => hk) trivial (Below.refl _ _) (Nat.le_refl _) (by simp) ?_; (case hd => rfl); (case hg => rfl); (case hr => first | (go_simp; done) | (go_simp; rfl)); (case hp => exact (Reps.none _ _)); intro v931 w4 ho5 hb hg_ hnew_; clear hg_ hnew_; (first | rw [← Ny930.out] at ho5 | (simp only [Int.reduceToNat] at ho5; rw [← Ny930.out] at ho5)); have n0_ := Aside0.mk (Kd.R_lower ho5 (below_size (by repeat (first | (with_reducible first | exact HB.out | apply below_alloc | apply pw_below_drewN | apply below_drew1) | exact HB.out)))); have n1_ := Aside0.mk (below_step (by repeat (first | (with_reducible first | exact HB.out | apply below_alloc | apply pw_below_drewN | apply below_drew1) | exact HB.out)) hb); clear HB; have HO932 := n0_; have HB := n1_; clear n0_ n1_; clear hb ho5)); try go_wp2_with (first | (go_at_call 89; (with_reducible refine (spec_l02Is.calls k 16 _ _ l0 true _ ?side1 ?side2 A2.out).mono ?_); (case side1 => repeat (first | exact HR0.out | (with_reducible refine Kd.C_alloc ?_ _) | (with_reducible refine Kd.C_drewN ?_ _) | (with_reducible refine Kd.C_drew ?_))); (case side2 => exact HC0.out); rintro e w' ⟨rfl, ⟨nd, rfl⟩⟩; (try first | exact ⟨rfl, _, World.drewN_drewN _ _ _⟩ | exact ⟨rfl, _, Eq.trans (World.drewN_drewN _ _ _) (congrArg (World.drewN _) (Nat.add_assoc _ _ _))⟩)) | ((with_reducible refine gate_dst (N := 11) rfl ?_); refine Kd.R_lit (Kd.int .i64) _ 2 ?hg (N := 11) ?hd (xs := ([] : List Int)) (inner := []) (ok := fun _ => True) (okp := fun _ => True) ?hr ?hp (fun _ hk => hk) trivial (Below.refl _ _) (Nat.le_refl _) (by simp) ?_; (case hd => rfl); (case hg => rfl); (case hr => first | (go_simp; done) | (go_simp; rfl)); (case hp => exact (Reps.none _ _)); intro v931 w4 ho5 hb hg_ hnew_; clear hg_ hnew_; (first | rw [← Ny930.out] at ho5 | (simp only [Int.reduceToNat] at ho5; rw [← Ny930.out] at ho5)); have n0_ := Aside0.mk (Kd.R_lower ho5 (below_size (by repeat (first | (with_reducible first | exact HB.out | apply below_alloc | apply pw_below_drewN | apply below_drew1) | exact HB.out)))); have n1_ := Aside0.mk (below_step (by repeat (first | (with_reducible first | exact HB.out | apply below_alloc | apply pw_below_drewN | apply below_drew1) | exact HB.out)) hb); clear HB; have HO932 := n0_; have HB := n1_; clear n0_ n1_; clear hb ho5)))
 go_loopg [4, 5] k (fun kq v4 v5 w' => ∃ (x4_1 : List Int) (x5_1 : Int), v5 = .int .i64 x5_1 ∧ Aside0 (spec_ConflictsOf.l0 kq l0 x4_1 x5_1 = some (r1, r2)) ∧ Aside0 (kq ≤ k) ∧ Aside0 (Kd.R (Kd.int .i64) 2 w' w.heap.size (fun _ => True) v4 x4_1) ∧ Aside0 (Below w.heap.size w w'))
 case atStart => exact ⟨(y930), (0), (by first | rfl | (simp; done) | (simp [*]; done)), H', ⟨Nat.le_refl _⟩, ⟨by (with_reducible repeat (first | apply Kd.R_alloc | apply Kd.R_drewN | apply Kd.R_drew)); exact HO932.out⟩, ⟨by repeat (first | (with_reducible first | exact HB.out | apply below_alloc | apply pw_below_drewN | apply below_drew1) | exact HB.out)⟩⟩
 case round =>
  clear H'
  try clear p2
  try clear c3
  try clear c4
  obtain ⟨x4_1, x5_1, rfl, HA, HK1, HO_4, HB⟩ := hrel
  cases gk with
  | zero => exact absurd HA.out (by simp [spec_ConflictsOf.l0])
  | succ k1 =>
   have H := HA.out
   clear HA
   simp only [spec_ConflictsOf.l0] at H
   by_cases c6 : x5_1 < (l0.length : Int)
   rotate_left
   ·rw [if_neg c6] at H
    have c6b0 : decide (x5_1 < (l0.length : Int)) = false := decide_eq_false c6
    clear c6
    simp only [Option.some.injEq, Prod.mk.injEq] at H
    obtain ⟨rfl, rfl⟩ := H
    go_wp2
    repeat (go_quiet (fail); try go_wp2)
    go_ret2
    exact ⟨_, by first | rfl | (simp [errW_none, errW_some] <;> rfl) | (simp [*, errW_none, errW_some] <;> rfl), by (with_reducible repeat (first | apply Kd.R_alloc | apply Kd.R_drewN | apply Kd.R_drew)); exact HO_4.out, by repeat (first | (with_reducible first | exact HB.out | apply below_alloc | apply pw_below_drewN | apply below_drew1) | exact HB.out)⟩
   rw [if_pos c6] at H
   have c6b0 : decide (x5_1 < (l0.length : Int)) = true := decide_eq_true c6
   clear c6
   have H' := Aside0.mk H
   clear H
   go_wp2
   repeat (go_quiet (fail); try go_wp2)
   go_loopg [6, 7] k1 (fun kq v6 v7 w' => ∃ (x6_2 : Int) (x7_2 : Int), v6 = .int .i64 x6_2 ∧ v7 = .int .i64 x7_2 ∧ Aside0 (spec_ConflictsOf.l1 kq l0 x4_1 x5_1 x6_2 x7_2 = some (r1, r2)) ∧ Aside0 (kq ≤ k1) ∧ Aside0 (Kd.R (Kd.int .i64) 2 w' w.heap.size (fun _ => True) u4 x4_1) ∧ Aside0 (Below w.heap.size w w'))
   case atStart => exact ⟨(0), (0), (by first | rfl | (simp; done) | (simp [*]; done)), (by first | rfl | (simp; done) | (simp [*]; done)), H', ⟨Nat.le_refl _⟩, ⟨by (with_reducible repeat (first | apply Kd.R_alloc | apply Kd.R_drewN | apply Kd.R_drew)); exact HO_4.out⟩, ⟨by repeat (first | (with_reducible first | exact HB.out | apply below_alloc | apply pw_below_drewN | apply below_drew1) | exact HB.out)⟩⟩
   case round =>
    clear H'
    try clear p2
    try clear c3
    try clear c4
    try clear c6
    try clear c6b0
    try clear p2
    obtain ⟨x6_2, x7_2, rfl, rfl, HA, HK2, HO_4, HB⟩ := hrel
    cases gk with
    | zero => exact absurd HA.out (by simp [spec_ConflictsOf.l1])
    | succ k2 =>
     have H := HA.out
     clear HA
     simp only [spec_ConflictsOf.l1] at H
     by_cases c7 : x7_2 < x5_1
     ·rw [if_pos c7] at H
      have c7b0 : decide (x7_2 < x5_1) = true := decide_eq_true c7
      clear c7
      by_cases c8 : 0 ≤ x7_2
      rotate_left
      ·rw [if_neg c8] at H
       exact absurd H (by simp)
      rw [if_pos c8] at H
      have c8b0 : decide (0 ≤ x7_2) = true := decide_eq_true c8
      clear c8
      by_cases c9 : x7_2 < (l0.length : Int)
      rotate_left
      ·rw [if_neg c9] at H
       exact absurd H (by simp)
      rw [if_pos c9] at H
      have c9b0 : decide (x7_2 < (l0.length : Int)) = true := decide_eq_true c9
      clear c9
      by_cases c10 : 0 ≤ x5_1
      rotate_left
      ·rw [if_neg c10] at H
       exact absurd H (by simp)
      rw [if_pos c10] at H
      have c10b0 : decide (0 ≤ x5_1) = true := decide_eq_true c10
      clear c10
      by_cases c11 : x5_1 < (l0.length : Int)
      rotate_left
      ·rw [if_neg c11] at H
       exact absurd H (by simp)
      rw [if_pos c11] at H
      have c11b0 : decide (x5_1 < (l0.length : Int)) = true := decide_eq_true c11
      clear c11
      by_cases c12 : (rd l0 x7_2) = (rd l0 x5_1)
      ·rw [if_pos c12] at H
       have c12b0 : ((rd l0 x7_2) == (rd l0 x5_1)) = true := beq_iff_eq.mpr c12
       have c12b1 : ((rd l0 x7_2) != (rd l0 x5_1)) = false := bne_eq_false_iff_eq.mpr c12
       clear c12
       obtain ⟨ji13, hji13⟩ : ∃ j_ : Int, (IntKind.u64.wrap (x7_2)) = j_ := ⟨_, rfl⟩
       replace H : (if 0 ≤ (ji13) then (spec_ConflictsOf.l1 k2 l0 x4_1 x5_1 (wrap64 (x6_2 + (shl .i64 1 (ji13)))) (wrap64 (x7_2 + 1))) else (none)) = some (r1, r2) := by first | (rw [hji13] at H; exact H) | (simp only [hji13] at H ⊢; exact H)
       by_cases c14 : 0 ≤ (ji13)
       rotate_left
       ·rw [if_neg c14] at H
        exact absurd H (by simp)
       rw [if_pos c14] at H
       have c14b0 := eq_true c14
       have c14b1 : decide (0 ≤ (ji13)) = true := decide_eq_true c14
       clear c14
       obtain ⟨ji15, hji15⟩ : ∃ j_ : Int, (shl .i64 1 (ji13)) = j_ := ⟨_, rfl⟩
       replace H : (spec_ConflictsOf.l1 k2 l0 x4_1 x5_1 (wrap64 (x6_2 + (ji15))) (wrap64 (x7_2 + 1))) = some (r1, r2) := by first | (rw [hji15] at H; exact H) | (simp only [hji15] at H ⊢; exact H)
       have hji15_ : (IntKind.i64.wrap (1 * 2 ^ min (ji13).toNat 64)) = ji15 := hji15
       have hji15z : (ji13) ≤ 64 → (IntKind.i64.wrap (1 * 2 ^ (ji13).toNat)) = ji15 := shl_small hji15
       have hji15u : (IntKind.i64.wrap (2 ^ min (ji13).toNat 64)) = ji15 := by have h_ := hji15_; rw [Int.one_mul] at h_; exact h_
       have hji15v : (ji13) ≤ 64 → (IntKind.i64.wrap (2 ^ (ji13).toNat)) = ji15 := fun hle_ => by have h_ := hji15z hle_; rw [Int.one_mul] at h_; exact h_
       have hji15y : (wrap64 (1 * 2 ^ min (ji13).toNat 64)) = ji15 := (i64_w _).symm.trans hji15_
       have hji15x : (ji13) ≤ 64 → (wrap64 (1 * 2 ^ (ji13).toNat)) = ji15 := fun h_ => (i64_w _).symm.trans (hji15z h_)
       have H' := Aside0.mk H
       clear H
       have p933 : 0 ≤ (x7_2 : Int) := of_decide_eq_true (by first | (with_reducible assumption) | assumption)
       have q933 : x7_2 < (l0.length : Int) := of_decide_eq_true (by first | (with_reducible assumption) | assumption)
       obtain ⟨ad933, e933, hx933_0⟩ := Kd.at_int HR0.out x7_2 p933 q933
       cases e933
       replace hx933_0 := (HB.out.cell (World.block_lt_of_cell? w _ hx933_0)).trans hx933_0
       replace p933 := eq_true p933
       replace q933 := eq_true q933
       have p934 : 0 ≤ (x5_1 : Int) := of_decide_eq_true (by first | (with_reducible assumption) | assumption)
       have q934 : x5_1 < (l0.length : Int) := of_decide_eq_true (by first | (with_reducible assumption) | assumption)
       obtain ⟨ad934, e934, hx934_0⟩ := Kd.at_int HR0.out x5_1 p934 q934
       obtain rfl : ad933 = ad934 := (by injection e934)
       replace hx934_0 := (HB.out.cell (World.block_lt_of_cell? w _ hx934_0)).trans hx934_0
       replace p934 := eq_true p934
       replace q934 := eq_true q934
       go_wp2
       repeat (go_quiet (fail); try go_wp2)
       go_roundg k2
       case measure => have := HK1.out; have := HK2.out; omega
       case rel => exact ⟨(wrap64 (x6_2 + (ji15))), (wrap64 (x7_2 + 1)), (by first | rfl | (simp; done) | (simp only [← hji15] <;> (first | rfl | simp)) | (simp [*]; done)), (by first | rfl | (simp; done) | (simp [*]; done)), H', ⟨by have := HK1.out; have := HK2.out; omega⟩, ⟨by (with_reducible repeat (first | apply Kd.R_alloc | apply Kd.R_drewN | apply Kd.R_drew)); exact HO_4.out⟩, ⟨by repeat (first | (with_reducible first | exact HB.out | apply below_alloc | apply pw_below_drewN | apply below_drew1) | exact HB.out)⟩⟩
      ·rw [if_neg c12] at H
       have c12b0 : ((rd l0 x7_2) == (rd l0 x5_1)) = false := beq_eq_false_iff_ne.mpr c12
       have c12b1 : ((rd l0 x7_2) != (rd l0 x5_1)) = true := bne_iff_ne.mpr c12
       have H' := Aside0.mk H
       clear H
       have p933 : 0 ≤ (x7_2 : Int) := of_decide_eq_true (by first | (with_reducible assumption) | assumption)
       have q933 : x7_2 < (l0.length : Int) := of_decide_eq_true (by first | (with_reducible assumption) | assumption)
       obtain ⟨ad933, e933, hx933_0⟩ := Kd.at_int HR0.out x7_2 p933 q933
       cases e933
       replace hx933_0 := (HB.out.cell (World.block_lt_of_cell? w _ hx933_0)).trans hx933_0
       replace p933 := eq_true p933
       replace q933 := eq_true q933
       have p934 : 0 ≤ (x5_1 : Int) := of_decide_eq_true (by first | (with_reducible assumption) | assumption)
       have q934 : x5_1 < (l0.length : Int) := of_decide_eq_true (by first | (with_reducible assumption) | assumption)
       obtain ⟨ad934, e934, hx934_0⟩ := Kd.at_int HR0.out x5_1 p934 q934
       obtain rfl : ad933 = ad934 := (by injection e934)
       replace hx934_0 := (HB.out.cell (World.block_lt_of_cell? w _ hx934_0)).trans hx934_0
       replace p934 := eq_true p934
       replace q934 := eq_true q934
       go_wp2
       repeat (go_quiet (fail); try go_wp2)
       go_roundg k2
       case measure => have := HK1.out; have := HK2.out; omega
       case rel => exact ⟨(x6_2), (wrap64 (x7_2 + 1)), (by first | rfl | (simp; done) | (simp [*]; done)), (by first | rfl | (simp; done) | (simp [*]; done)), H', ⟨by have := HK1.out; have := HK2.out; omega⟩, ⟨by (with_reducible repeat (first | apply Kd.R_alloc | apply Kd.R_drewN | apply Kd.R_drew)); exact HO_4.out⟩, ⟨by repeat (first | (with_reducible first | exact HB.out | apply below_alloc | apply pw_below_drewN | apply below_drew1) | exact HB.out)⟩⟩
     ·rw [if_neg c7] at H
      have c7b0 : decide (x7_2 < x5_1) = false := decide_eq_false c7
      clear c7
      by_cases c16 : x4_1.length < 17592186044416
      rotate_left
      ·rw [if_neg c16] at H
       exact absurd H (by simp)
      rw [if_pos c16] at H
      have LMc16 := Aside0.mk c16
      clear c16
      obtain ⟨y935, hy935⟩ : ∃ y_ : List Int, y_ = (x4_1 ++ [x6_2]) := ⟨_, rfl⟩
      replace H : (spec_ConflictsOf.l0 k2 l0 y935 (wrap64 (x5_1 + 1))) = some (r1, r2) := by first | (rw [hy935]; with_reducible exact H) | (have H2_ := (Option.bind_some _ _).symm.trans H; rw [hy935]; with_reducible exact H2_) | (have H2_ := (Option.bind_some _ _).symm.trans H; with_reducible exact H2_) | with_reducible exact H | (rw [hy935]; exact H) | exact H
      have Ny935 := Aside0.mk hy935
      clear hy935
      have H' := Aside0.mk H
      clear H
      go_wp2_with (first | ((with_reducible refine gate_builtin (b := .append) (xs := #[.tmp 37, .tmp 39]) rfl ?_); at_builtin; refine Kd.R_append (Kd.int .i64) (w0 := w) w.heap.size rfl (.tmp 37) (.tmp 39) 22 2 (.int .i64 0) 8 rfl Try.underlying22 info2 rfl (by decide) (by omega) u4 x4_1 x6_2 [.int .i64 x6_2] (fun _ => True) (fun _ => False) rfl rfl ?aP (fun _ hk => hk.elim) ?aF ?aO ?aB ?aS ?aL ?_; (case aP => exact rfl); (case aB => exact (by repeat (first | (with_reducible first | exact HB.out | apply below_alloc | apply pw_below_drewN | apply below_drew1) | exact HB.out))); (case aF => exact (fun _ _ => trivial)); (case aO => exact (by (with_reducible repeat (first | apply Kd.R_alloc | apply Kd.R_drewN | apply Kd.R_drew)); exact HO_4.out)); (case aS => exact (below_size (by repeat (first | (with_reducible first | exact HB.out | apply below_alloc | apply pw_below_drewN | apply below_drew1) | exact HB.out)))); (case aL => have := LMc16.out; omega); intro v936 w17 ho hb hg hat; rw [← Ny935.out] at ho; have n0_ := Aside0.mk (hb); have n1_ := Aside0.mk (ho); clear HB; clear HO_4; have HB := n0_; have HO937 := n1_; clear n0_ n1_; clear ho hb hg hat))
      repeat (go_quiet (first | ((with_reducible refine gate_builtin (b := .append) (xs := #[.tmp 37, .tmp 39]) rfl ?_); at_builtin; refine Kd.R_append (Kd.int .i64) (w0 := w) w.heap.size rfl (.tmp 37) (.tmp 39) 22 2 (.int .i64 0) 8 rfl Try.underlying22 info2 rfl (by decide) (by omega) u4 x4_1 x6_2 [.int .i64 x6_2] (fun _ => True) (fun _ => False) rfl rfl ?aP (fun _ hk => hk.elim) ?aF ?aO ?aB ?aS ?aL ?_; (case aP => exact rfl); (case aB => exact (by repeat (first | (with_reducible first | exact HB.out | apply below_alloc | apply pw_below_drewN | apply below_drew1) | exact HB.out))); (case aF => exact (fun _ _ => trivial)); (case aO => exact (by (with_reducible repeat (first | apply Kd.R_alloc | apply Kd.R_drewN | apply Kd.R_drew)); exact HO_4.out)); (case aS => exact (below_size (by repeat (first | (with_reducible first | exact HB.out | apply below_alloc | apply pw_below_drewN | apply below_drew1) | exact HB.out)))); (case aL => have := LMc16.out; omega); intro v936 w17 ho hb hg hat; rw [← Ny935.out] at ho; have n0_ := Aside0.mk (hb); have n1_ := Aside0.mk (ho); clear HB; clear HO_4; have HB := n0_; have HO937 := n1_; clear n0_ n1_; clear ho hb hg hat)); try go_wp2_with (first | ((with_reducible refine gate_builtin (b := .append) (xs := #[.tmp 37, .tmp 39]) rfl ?_); at_builtin; refine Kd.R_append (Kd.int .i64) (w0 := w) w.heap.size rfl (.tmp 37) (.tmp 39) 22 2 (.int .i64 0) 8 rfl Try.underlying22 info2 rfl (by decide) (by omega) u4 x4_1 x6_2 [.int .i64 x6_2] (fun _ => True) (fun _ => False) rfl rfl ?aP (fun _ hk => hk.elim) ?aF ?aO ?aB ?aS ?aL ?_; (case aP => exact rfl); (case aB => exact (by repeat (first | (with_reducible first | exact HB.out | apply below_alloc | apply pw_below_drewN | apply below_drew1) | exact HB.out))); (case aF => exact (fun _ _ => trivial)); (case aO => exact (by (with_reducible repeat (first | apply Kd.R_alloc | apply Kd.R_drewN | apply Kd.R_drew)); exact HO_4.out)); (case aS => exact (below_size (by repeat (first | (with_reducible first | exact HB.out | apply below_alloc | apply pw_below_drewN | apply below_drew1) | exact HB.out)))); (case aL => have := LMc16.out; omega); intro v936 w17 ho hb hg hat; rw [← Ny935.out] at ho; have n0_ := Aside0.mk (hb); have n1_ := Aside0.mk (ho); clear HB; clear HO_4; have HB := n0_; have HO937 := n1_; clear n0_ n1_; clear ho hb hg hat)))
      go_roundg k2
      case measure => have := HK1.out; have := HK2.out; omega
      case rel => exact ⟨(y935), (wrap64 (x5_1 + 1)), (by first | rfl | (simp; done) | (simp [*]; done)), H', ⟨by have := HK1.out; have := HK2.out; omega⟩, ⟨by (with_reducible repeat (first | apply Kd.R_alloc | apply Kd.R_drewN | apply Kd.R_drew)); exact HO937.out⟩, ⟨by repeat (first | (with_reducible first | exact HB.out | apply below_alloc | apply pw_below_drewN | apply below_drew1) | exact HB.out)⟩⟩
/-! ### impl_ConflictsOf: function 42 -/
/-- Which lanes before one have its number, among the first. -/
def cfl (l : List Int) (i : Int) : Nat → Int
 | 0 => 0
 | k + 1 => if rd l (k : Int) = rd l i then wrap64 (cfl l i k + shl .i64 1 (k : Int)) else cfl l i k
def impl_ConflictsOf.f (_k : Nat) (l0 : List Int) : Option (List Int × Bool) := some (if vec 16 l0 = true then ((List.range l0.length).map fun (j : Nat) => cfl l0 (j : Int) j, true) else ([], false))
theorem impl_ConflictsOf.mono : ∀ a0 k, LeO (impl_ConflictsOf.f k a0) (impl_ConflictsOf.f (k + 1) a0) := fun _ _ => LeO.refl _
set_option maxHeartbeats 4000000 in
theorem impl_ConflictsOf.lit (l : List Int) (A : Option Addr) (c : Nat) (B : Nat) (W : World) (j : Nat) (hj : j < l.length) (hl : l.length ≤ 16)
  (h1 : W.cell? ⟨B, 0, none⟩ = some (.slice A l.length c)) (hr : Kd.C (Kd.int .i64) W A l.length l) :
  Calls Try.prog 102 #[.int .i64 (j : Int), .pointer (some ⟨B, 0, none⟩)] W fun e w' => e = .returned (.int .i64 (cfl l (j : Int) j)) ∧ Below W.heap.size W w' := by
 have HR := Aside0.mk hr
 have HC := Aside0.mk h1
 have HJ := Aside0.mk hj
 have HL := Aside0.mk hl
 have HB := Aside0.mk (Below.refl W.heap.size W)
 clear hr h1 hj hl
 go_enter Try.func102, Try.ntmps102
 go_wp2
 go_loopg [4, 5, 7] j (fun kq v4 _ v7 w' => ∃ x : Nat, v7 = .int .i64 (x : Int) ∧ v4 = .int .i64 (cfl l (j : Int) x) ∧ Aside0 (x ≤ j) ∧ Aside0 (j - x ≤ kq) ∧ Aside0 (Below W.heap.size W w'))
 case atStart => exact ⟨0, rfl, rfl, ⟨Nat.zero_le _⟩, ⟨by simp⟩, HB⟩
 case round =>
  clear HB
  obtain ⟨x, rfl, rfl, H1, HK, HB⟩ := hrel
  by_cases c3 : (x : Int) < (j : Int)
  rotate_left
  ·have c3b0 : decide ((x : Int) < (j : Int)) = false := decide_eq_false c3
   have HX : Aside0 (x = j) := ⟨by have := H1.out; omega⟩
   have c3n : (x < j) = False := eq_false (by omega)
   clear c3
   go_wp2
   go_ret
   exact ⟨by rw [HX.out]; rfl, HB.out⟩
  have h2 := HJ.out
  have h3 := HL.out
  obtain ⟨ad, e1, hx⟩ := Kd.at_int (Kd.C_below HR.out HB.out) (x : Int) (Int.natCast_nonneg _) (by omega)
  obtain ⟨ad2, e2, hy⟩ := Kd.at_int (Kd.C_below HR.out HB.out) (j : Int) (Int.natCast_nonneg _) (by omega)
  have hc := pw_cell_below HB.out HC.out
  cases e1
  cases e2
  rw [Int.toNat_natCast] at hx hy
  have c3b0 : decide ((x : Int) < (j : Int)) = true := decide_eq_true c3
  have c4 : (x : Int) < (l.length : Int) := by omega
  have c5 : (j : Int) < (l.length : Int) := by omega
  have c6 : 0 ≤ (x : Int) := Int.natCast_nonneg _
  have c7 : 0 ≤ (j : Int) := Int.natCast_nonneg _
  have hw : wrap64 ((x : Int) + 1) = ((x + 1 : Nat) : Int) := by unfold wrap64; omega
  have HW := Aside0.mk hw
  have HX := Aside0.mk c3
  by_cases hq : rd l (x : Int) = rd l (j : Int)
  rotate_left
  ·have HQ : Aside0 (cfl l (j : Int) (x + 1) = cfl l (j : Int) x) := ⟨if_neg hq⟩
   have hq2 : (rd l (x : Int) == rd l (j : Int)) = false := by simpa using hq
   clear hw h2 h3
   go_wp2
   go_quiet (fail)
   go_wp2
   go_roundg (j - (x + 1))
   case measure => have := HK.out; have := HX.out; omega
   case rel =>
    have := HX.out
    exact ⟨x + 1, by rw [HW.out], by rw [HQ.out], ⟨by omega⟩, ⟨by omega⟩, ⟨by first | exact HB.out | exact pw_below_drewN HB.out _⟩⟩
  have HQ : Aside0 (cfl l (j : Int) (x + 1) = wrap64 (cfl l (j : Int) x + wrap64 (2 ^ min x 64))) := ⟨by
   have e : shl .i64 1 (x : Int) = wrap64 (2 ^ min x 64) := by
    unfold shl
    rw [Int.toNat_natCast, Int.one_mul, i64_w]
    first | done | rfl
   rw [← e]
   exact if_pos hq⟩
  rw [hq] at hx
  clear hw h2 h3 hq
  go_wp2
  go_quiet (fail)
  go_wp2
  go_roundg (j - (x + 1))
  case measure => have := HK.out; have := HX.out; omega
  case rel =>
   have := HX.out
   exact ⟨x + 1, by rw [HW.out], by rw [HQ.out], ⟨by omega⟩, ⟨by omega⟩, ⟨by first | exact HB.out | exact pw_below_drewN HB.out _⟩⟩
set_option maxHeartbeats 8000000 in
set_option maxRecDepth 100000 in
theorem impl_ConflictsOf.calls (k : Nat) (A0 : Option Addr) (c0 : Nat) (l0 : List Int) (r1 : List Int) (r2 : Bool) (w : World) (hr0 : Kd.C (Kd.int .i64) w A0 l0.length l0) (hc0 : l0.length ≤ c0) (h : impl_ConflictsOf.f k l0 = some (r1, r2)) :
  Calls Try.prog 42 #[.slice A0 l0.length c0] w fun e w' => ∃ v0_ : Value, e = .returned (.tuple #[v0_, .bool r2]) ∧ Kd.R (Kd.int .i64) 2 w' w.heap.size (fun _ => True) v0_ r1 ∧ Below w.heap.size w w' := by
 have hv := Option.some.inj h
 clear h
 have HR := Aside0.mk hr0
 have HC := Aside0.mk hc0
 by_cases hx : vec 16 l0 = true
 rotate_left
 ·rw [if_neg hx] at hv
  obtain ⟨rfl, rfl⟩ := Prod.mk.inj hv
  clear hv
  have HV : Aside0 (impl_IsVector.f 0 16 l0 = some false) := ⟨by unfold impl_IsVector.f; rw [Bool.not_eq_true] at hx; rw [hx]⟩
  clear hx hr0 hc0
  go_enter Try.func42, Try.ntmps42
  go_wp2_with (go_at_call 32; (with_reducible refine (impl_IsVector.calls 0 16 A0 c0 l0 false _ ?s1 HC.out HV.out).mono ?_); (case s1 => exact Kd.C_below HR.out (by repeat (first | exact Below.refl _ _ | apply below_alloc | apply pw_below_drewN | apply below_drew1))); rintro e w1 ⟨rfl, hb1⟩; have HB1 : Aside0 (Below w.heap.size w w1) := ⟨below_step (by repeat (first | exact Below.refl _ _ | apply below_alloc | apply pw_below_drewN | apply below_drew1)) hb1⟩; clear hb1)
  go_ret2
  refine ⟨_, rfl, Kd.R_nil _ _ _ _ _, HB1.out⟩

 rw [if_pos hx] at hv
 obtain ⟨rfl, rfl⟩ := Prod.mk.inj hv
 clear hv
 have hl16 := lanes_le (vec_iff.mp hx).2.1
 have HV : Aside0 (impl_IsVector.f 0 16 l0 = some true) := ⟨by unfold impl_IsVector.f; rw [hx]⟩
 have HA := Aside0.mk (fun (W : World) (hB : Below w.heap.size w W) (hB2 : w.heap.size < W.heap.size) (h1 : W.cell? ⟨w.heap.size, 0, none⟩ = some (.slice A0 l0.length c0)) =>
  lanesOf_c 102 #[.pointer (some ⟨w.heap.size, 0, none⟩)] (enters_of Try.func102 (by kernel_rfl) rfl) l0.length (fun (j : Nat) => cfl l0 (j : Int) j) W (by omega)
   (fun j hj W' hb' => impl_ConflictsOf.lit l0 A0 c0 w.heap.size W' j hj (by omega)
    ((hb'.cell (p := ⟨w.heap.size, 0, none⟩) (by show w.heap.size < _; omega)).trans h1) (Kd.C_below (Kd.C_below hr0 hB) hb')))
 clear hx hl16 hr0 hc0
 go_enter Try.func42, Try.ntmps42
 go_wp2_with (first | (go_at_call 32; (with_reducible refine (impl_IsVector.calls 0 16 A0 c0 l0 true _ ?s1 HC.out HV.out).mono ?_); (case s1 => exact Kd.C_below HR.out (by repeat (first | exact Below.refl _ _ | apply below_alloc | apply pw_below_drewN | apply below_drew1))); rintro e w1 ⟨rfl, hb1⟩; have hc1 : w1.cell? ⟨w.heap.size, 0, none⟩ = some (.slice A0 l0.length c0) := (hb1.cell (p := ⟨w.heap.size, 0, none⟩) (by simp)).trans (by go_simp; done); have hs1 : w.heap.size < w1.heap.size := (by have := below_size hb1; simp at this; omega); have HB1 : Aside0 (Below w.heap.size w w1) := ⟨below_step (by repeat (first | exact Below.refl _ _ | apply below_alloc | apply pw_below_drewN | apply below_drew1)) hb1⟩; clear hb1) | (go_at_call 96; refine (HA.out _ ?a1 ?a2 ?a3).mono ?_; (case a1 => repeat (first | exact HB1.out | apply below_alloc | apply pw_below_drewN | apply below_drew1)); (case a2 => first | exact hs1 | (simp; exact hs1)); (case a3 => first | exact hc1 | (go_simp; done)); rintro e w' ⟨v, rfl, ho, hb⟩))
 go_ret2
 refine ⟨_, rfl, Kd.R_lower ho (by first | omega | (simp; omega)), below_step ?_ hb⟩
 repeat (first | exact HB1.out | apply below_alloc | apply pw_below_drewN | apply below_drew1)
end Go.Proofs.Ytpcjjminopdofaa.K
