-- Laid by a program of this session.
import Derived.Test.YtpcjjminopdofaaK0
import Derived.Test.YtpcjjminopdofaaK29
import Derived.Test.YtpcjjminopdofaaK9
import Derived.Test.YtpcjjminopdofaaH0
import Derived.Test.YtpcjjminopdofaaK6
import Derived.Test.YtpcjjminopdofaaK8
import Derived.Test.YtpcjjminopdofaaK21
import Derived.Test.YtpcjjminopdofaaK34
namespace Go.Proofs.Ytpcjjminopdofaa.K
open Go.RowKit Go.Proofs.YtpcjjminopdofaaW.PrintWords Go.Proofs.YtpcjjminopdofaaW.PrintLast Go.Proofs.YtpcjjminopdofaaW.PrintMore Go.Proofs.Ytpcjjminopdofaa.Bx Go.Shelf
attribute [local go_sem] max2_int min2_int max_two min_two max_three min_three max_four min_four   -- for this text's walks alone
set_option linter.unusedVariables false
set_option linter.unusedSimpArgs false

/-! ### spec_InterleaveLanes: function 49 -/
def spec_InterleaveLanes.l0 : Nat → List Int → List Int → List Int → Int → Option (List Int × List Int × Bool)
 | 0, _, _, _, _ => none
 | k + 1, x1, x2, x9, x10 => if x10 < (x1.length : Int) then (if 0 ≤ x10 then (if x9.length < 17592186044416 then ((some (x9 ++ [rd x1 x10] : List Int)).bind fun y1085 => (if x10 < (x2.length : Int) then (if y1085.length < 17592186044416 then (spec_InterleaveLanes.l0 k x1 x2 (y1085 ++ [rd x2 x10]) (wrap64 (x10 + 1))) else (none)) else (none))) else (none)) else (none)) else (if 0 ≤ (x1.length : Int) then (if (x1.length : Int) ≤ (x9.length : Int) then ((spec_l00Own.f (x9.take ((x1.length : Int) : Int).toNat)).bind fun t1096 => ((spec_l00Own.f (x9.drop ((x1.length : Int) : Int).toNat)).bind fun t1103 => (some (t1096, t1103, true)))) else (none)) else (none))
def spec_InterleaveLanes.f (k : Nat) (a0 : Int) (l1 : List Int) (l2 : List Int) : Option (List Int × List Int × Bool) := (spec_l02Both.f k a0 l1 l2).bind fun t1080 => (if t1080 = true then (spec_InterleaveLanes.l0 k l1 l2 (([] : List Int)) 0) else (some (([] : List Int), ([] : List Int), false)))
theorem spec_InterleaveLanes.mono_l : ∀ k, (∀ y0 y1 y2 y3, LeO (spec_InterleaveLanes.l0 k y0 y1 y2 y3) (spec_InterleaveLanes.l0 (k + 1) y0 y1 y2 y3))
 | 0 => fun _ _ _ _ r h => by simp [spec_InterleaveLanes.l0] at h
 | k + 1 => by
  have ih0 := spec_InterleaveLanes.mono_l k
  ·intro y0 y1 y2 y3
   unfold spec_InterleaveLanes.l0
   repeat' first
   | (with_reducible exact ih0 _ _ _ _)
   | (with_reducible exact spec_l02Both.mono _ _ _ _)
   | (with_reducible exact LeO.refl _)
   | (with_reducible exact LeO.none _)
   | (with_reducible refine LeO.ite ?_ ?_)
   | (with_reducible refine LeO.bind ?_ (fun _ => ?_))
   | exact ih0 _ _ _ _
   | exact spec_l02Both.mono _ _ _ _
   | exact LeO.none _
   | refine LeO.ite ?_ ?_
   | refine LeO.bind ?_ (fun _ => ?_)
theorem spec_InterleaveLanes.mono : ∀ a0 a1 a2 k, LeO (spec_InterleaveLanes.f k a0 a1 a2) (spec_InterleaveLanes.f (k + 1) a0 a1 a2) := by
 intro a0 a1 a2 k
 have ih0 := spec_InterleaveLanes.mono_l k
 unfold spec_InterleaveLanes.f
 repeat' first
   | (with_reducible exact ih0 _ _ _ _)
   | (with_reducible exact spec_l02Both.mono _ _ _ _)
   | (with_reducible exact LeO.refl _)
   | (with_reducible exact LeO.none _)
   | (with_reducible refine LeO.ite ?_ ?_)
   | (with_reducible refine LeO.bind ?_ (fun _ => ?_))
   | exact ih0 _ _ _ _
   | exact spec_l02Both.mono _ _ _ _
   | exact LeO.none _
   | refine LeO.ite ?_ ?_
   | refine LeO.bind ?_ (fun _ => ?_)
def spec_InterleaveLanes.T9 : Bool × List (List Nat × List Nat) := (true, [([], []), ([], []), ([1], [1]), ([0, 2], [0, 2]), ([3], [3]), ([], []), ([], []), ([6], [6]), ([5, 7], [5, 7]), ([8, 4], [8]), ([4, 9, 0, 1, 2, 3, 4], [4]), ([9, 10, 0, 1, 2, 3, 4, 5, 6, 7, 8, 9, 10], [9]), ([11, 0, 1, 2, 3, 4, 5, 6, 7, 8, 9, 10, 11], [])])
def spec_InterleaveLanes.B9 : List Nat := [0, 0, 2, 7, 15, 0, 0, 64, 224, 511, 1023, 2047, 4095]
theorem spec_InterleaveLanes.tab9 : rtab .any (opsOf Try.f49 9) = spec_InterleaveLanes.T9 := by kernel_rfl
theorem spec_InterleaveLanes.bits9 : waitsOk spec_InterleaveLanes.T9.2 spec_InterleaveLanes.B9 = true := by kernel_rfl
set_option maxHeartbeats 8000000 in
set_option maxRecDepth 100000 in
theorem spec_InterleaveLanes.calls (k : Nat) (a0 : Int) (A1 : Option Addr) (c1 : Nat) (l1 : List Int) (A2 : Option Addr) (c2 : Nat) (l2 : List Int) (r1 : List Int) (r2 : List Int) (r3 : Bool) (w : World) (hr1 : Kd.C (Kd.int .i64) w A1 l1.length l1) (hc1 : l1.length ≤ c1) (hr2 : Kd.C (Kd.int .i64) w A2 l2.length l2) (hc2 : l2.length ≤ c2) (h : spec_InterleaveLanes.f k a0 l1 l2 = some (r1, r2, r3)) :
  Calls Try.prog 49 #[.int .i64 a0, .slice A1 l1.length c1, .slice A2 l2.length c2] w fun e w' => ∃ v0_ v1_ : Value, e = .returned (.tuple #[v0_, v1_, .bool r3]) ∧ Kd.R (Kd.int .i64) 2 w' w.heap.size (fun k_ => some k_ ≠ (v1_ : Value).ownBlock) v0_ r1 ∧ Kd.R (Kd.int .i64) 2 w' w.heap.size (fun k_ => some k_ ≠ (v0_ : Value).ownBlock) v1_ r2 ∧ Below w.heap.size w w' := by
 have HR1 := Aside0.mk hr1
 have HC1 := Aside0.mk hc1
 clear hr1 hc1
 have HR2 := Aside0.mk hr2
 have HC2 := Aside0.mk hc2
 clear hr2 hc2
 have HB := Aside0.mk (Below.refl w.heap.size w)
 have H : ((spec_l02Both.f k a0 l1 l2).bind fun t1080 => (if t1080 = true then (spec_InterleaveLanes.l0 k l1 l2 (([] : List Int)) 0) else (some (([] : List Int), ([] : List Int), false)))) = some (r1, r2, r3) := h
 clear h
 replace H := Option.bind_eq_some_iff.mp H
 obtain ⟨t1080, A40, H⟩ := H
 try dsimp only at H
 have A4 := Aside0.mk A40
 clear A40
 by_cases c5 : t1080 = true
 rotate_left
 ·replace c5 := Bool.eq_false_iff.mpr c5
  subst c5
  rw [if_neg (show ¬ (false = true) by decide)] at H
  simp only [Option.some.injEq, Prod.mk.injEq] at H
  obtain ⟨rfl, rfl, rfl⟩ := H
  go_enter Try.func49, Try.ntmps49
  go_wp2_with (first | ((with_reducible refine gate_callee (f := 103) rfl ?_); refine goesL_ (some 14) rfl rfl Try.func103 (by kernel_rfl) rfl #[.int .i64 a0, .slice A1 l1.length c1, .slice A2 l2.length c2] rfl (by (try simp only [List.map_toArray, List.map_cons, List.map_nil]); first | done | rfl | (simp only [List.length_drop, List.length_take]; rfl)) ?_; (with_reducible refine (spec_l02Both.calls k a0 _ _ l1 _ _ l2 false _ ?side1 ?side2 ?side3 ?side4 A4.out).mono ?_); (case side1 => repeat (first | exact HR1.out | (with_reducible refine Kd.C_alloc ?_ _) | (with_reducible refine Kd.C_drewN ?_ _) | (with_reducible refine Kd.C_drew ?_))); (case side2 => exact HC1.out); (case side3 => repeat (first | exact HR2.out | (with_reducible refine Kd.C_alloc ?_ _) | (with_reducible refine Kd.C_drewN ?_ _) | (with_reducible refine Kd.C_drew ?_))); (case side4 => exact HC2.out); rintro e w' ⟨rfl, ⟨nd, rfl⟩⟩; refine ⟨_, rfl, ?_⟩))
  go_ret3
  exact ⟨_, _, by first | rfl | (simp [errW_none, errW_some] <;> rfl) | (simp [*, errW_none, errW_some] <;> rfl), by first | exact Kd.R_nil _ _ _ _ _ | exact Kd.N_nil _ _ _ _ _ | exact Kd.V_nil _ _ _ _ _ | exact Kd.Q_nil _ _ _ _ _ | exact Kd.S_nil _ _ _ _ _, by first | exact Kd.R_nil _ _ _ _ _ | exact Kd.N_nil _ _ _ _ _ | exact Kd.V_nil _ _ _ _ _ | exact Kd.Q_nil _ _ _ _ _ | exact Kd.S_nil _ _ _ _ _, by repeat (first | (with_reducible first | exact HB.out | apply below_alloc | apply pw_below_drewN | apply below_drew1) | exact HB.out)⟩

 subst c5
 rw [if_pos rfl] at H
 obtain ⟨y1081, hy1081⟩ : ∃ y_ : List Int, y_ = (([] : List Int)) := ⟨_, rfl⟩
 replace H : (spec_InterleaveLanes.l0 k l1 l2 y1081 0) = some (r1, r2, r3) := by first | (rw [hy1081]; with_reducible exact H) | (have H2_ := (Option.bind_some _ _).symm.trans H; rw [hy1081]; with_reducible exact H2_) | (have H2_ := (Option.bind_some _ _).symm.trans H; with_reducible exact H2_) | with_reducible exact H | (rw [hy1081]; exact H) | exact H
 have Ny1081 := Aside0.mk hy1081
 clear hy1081
 have H' := Aside0.mk H
 clear H
 go_enter Try.func49, Try.ntmps49
 go_wp2_with (first | ((with_reducible refine gate_callee (f := 103) rfl ?_); refine goesL_ (some 14) rfl rfl Try.func103 (by kernel_rfl) rfl #[.int .i64 a0, .slice A1 l1.length c1, .slice A2 l2.length c2] rfl (by (try simp only [List.map_toArray, List.map_cons, List.map_nil]); first | done | rfl | (simp only [List.length_drop, List.length_take]; rfl)) ?_; (with_reducible refine (spec_l02Both.calls k a0 _ _ l1 _ _ l2 true _ ?side1 ?side2 ?side3 ?side4 A4.out).mono ?_); (case side1 => repeat (first | exact HR1.out | (with_reducible refine Kd.C_alloc ?_ _) | (with_reducible refine Kd.C_drewN ?_ _) | (with_reducible refine Kd.C_drew ?_))); (case side2 => exact HC1.out); (case side3 => repeat (first | exact HR2.out | (with_reducible refine Kd.C_alloc ?_ _) | (with_reducible refine Kd.C_drewN ?_ _) | (with_reducible refine Kd.C_drew ?_))); (case side4 => exact HC2.out); rintro e w' ⟨rfl, ⟨nd, rfl⟩⟩; refine ⟨_, rfl, ?_⟩) | ((with_reducible refine gate_dst (N := 16) rfl ?_); refine Kd.R_lit (Kd.int .i64) _ 2 ?hg (N := 16) ?hd (xs := ([] : List Int)) (inner := []) (ok := fun _ => True) (okp := fun _ => True) ?hr ?hp (fun _ hk => hk) trivial (Below.refl _ _) (Nat.le_refl _) (by simp) ?_; (case hd => rfl); (case hg => rfl); (case hr => first | (go_simp; done) | (go_simp; rfl)); (case hp => exact (Reps.none _ _)); intro v1082 w6 ho7 hb hg_ hnew_; clear hg_ hnew_; (first | rw [← Ny1081.out] at ho7 | (simp only [Int.reduceToNat] at ho7; rw [← Ny1081.out] at ho7)); have n0_ := Aside0.mk (Kd.R_lower ho7 (below_size (by repeat (first | (with_reducible first | exact HB.out | apply below_alloc | apply pw_below_drewN | apply below_drew1) | exact HB.out)))); have n1_ := Aside0.mk (below_step (by repeat (first | (with_reducible first | exact HB.out | apply below_alloc | apply pw_below_drewN | apply below_drew1) | exact HB.out)) hb); clear HB; have HO1083 := n0_; have HB := n1_; clear n0_ n1_; clear hb ho7))
 go_loopg [9, 10] k (fun kq v9 v10 w' => ∃ (x9_1 : List Int) (x10_1 : Int), v10 = .int .i64 x10_1 ∧ Aside0 (spec_InterleaveLanes.l0 kq l1 l2 x9_1 x10_1 = some (r1, r2, r3)) ∧ Aside0 (kq ≤ k) ∧ Aside0 (Kd.R (Kd.int .i64) 2 w' w.heap.size (fun _ => True) v9 x9_1) ∧ Aside0 (Below w.heap.size w w'))
 case atStart => exact ⟨(y1081), (0), (by first | rfl | (simp; done) | (simp [*]; done)), H', ⟨Nat.le_refl _⟩, ⟨by (with_reducible repeat (first | apply Kd.R_alloc | apply Kd.R_drewN | apply Kd.R_drew)); exact HO1083.out⟩, ⟨by repeat (first | (with_reducible first | exact HB.out | apply below_alloc | apply pw_below_drewN | apply below_drew1) | exact HB.out)⟩⟩
 case round =>
  clear H'
  try clear c1
  try clear c2
  try clear p2
  try clear c4
  try clear c5
  obtain ⟨x9_1, x10_1, rfl, HA, HK1, HO_9, HB⟩ := hrel
  cases gk with
  | zero => exact absurd HA.out (by simp [spec_InterleaveLanes.l0])
  | succ k1 =>
   have H := HA.out
   clear HA
   simp only [spec_InterleaveLanes.l0] at H
   by_cases c8 : x10_1 < (l1.length : Int)
   ·rw [if_pos c8] at H
    have c8b0 : decide (x10_1 < (l1.length : Int)) = true := decide_eq_true c8
    clear c8
    by_cases c9 : 0 ≤ x10_1
    rotate_left
    ·rw [if_neg c9] at H
     exact absurd H (by simp)
    rw [if_pos c9] at H
    have c9b0 : decide (0 ≤ x10_1) = true := decide_eq_true c9
    clear c9
    by_cases c10 : x9_1.length < 17592186044416
    rotate_left
    ·rw [if_neg c10] at H
     exact absurd H (by simp)
    rw [if_pos c10] at H
    have LMc10 := Aside0.mk c10
    clear c10
    obtain ⟨y1085, hy1085⟩ : ∃ y_ : List Int, y_ = (x9_1 ++ [rd l1 x10_1]) := ⟨_, rfl⟩
    replace H : (if x10_1 < (l2.length : Int) then (if y1085.length < 17592186044416 then (spec_InterleaveLanes.l0 k1 l1 l2 (y1085 ++ [rd l2 x10_1]) (wrap64 (x10_1 + 1))) else (none)) else (none)) = some (r1, r2, r3) := by first | (rw [hy1085]; with_reducible exact H) | (have H2_ := (Option.bind_some _ _).symm.trans H; rw [hy1085]; with_reducible exact H2_) | (have H2_ := (Option.bind_some _ _).symm.trans H; with_reducible exact H2_) | with_reducible exact H | (rw [hy1085]; exact H) | exact H
    have Ny1085 := Aside0.mk hy1085
    clear hy1085
    by_cases c11 : x10_1 < (l2.length : Int)
    rotate_left
    ·rw [if_neg c11] at H
     exact absurd H (by simp)
    rw [if_pos c11] at H
    have c11b0 : decide (x10_1 < (l2.length : Int)) = true := decide_eq_true c11
    clear c11
    by_cases c12 : y1085.length < 17592186044416
    rotate_left
    ·rw [if_neg c12] at H
     exact absurd H (by simp)
    rw [if_pos c12] at H
    have LMc12 := Aside0.mk c12
    clear c12
    obtain ⟨y1089, hy1089⟩ : ∃ y_ : List Int, y_ = (y1085 ++ [rd l2 x10_1]) := ⟨_, rfl⟩
    replace H : (spec_InterleaveLanes.l0 k1 l1 l2 y1089 (wrap64 (x10_1 + 1))) = some (r1, r2, r3) := by first | (rw [hy1089]; with_reducible exact H) | (have H2_ := (Option.bind_some _ _).symm.trans H; rw [hy1089]; with_reducible exact H2_) | (have H2_ := (Option.bind_some _ _).symm.trans H; with_reducible exact H2_) | with_reducible exact H | (rw [hy1089]; exact H) | exact H
    have Ny1089 := Aside0.mk hy1089
    clear hy1089
    have H' := Aside0.mk H
    clear H
    have p1084 : 0 ≤ (x10_1 : Int) := of_decide_eq_true (by first | (with_reducible assumption) | assumption)
    have q1084 : x10_1 < (l1.length : Int) := of_decide_eq_true (by first | (with_reducible assumption) | assumption)
    obtain ⟨ad1084, e1084, hx1084_0⟩ := Kd.at_int HR1.out x10_1 p1084 q1084
    cases e1084
    replace hx1084_0 := (HB.out.cell (World.block_lt_of_cell? w _ hx1084_0)).trans hx1084_0
    replace p1084 := eq_true p1084
    replace q1084 := eq_true q1084
    go_wp2_with (first | ((with_reducible refine gate_builtin (b := .append) (xs := #[.tmp 23, .tmp 28]) rfl ?_); at_builtin; refine Kd.R_append (Kd.int .i64) (w0 := w) w.heap.size rfl (.tmp 23) (.tmp 28) 22 2 (.int .i64 0) 8 rfl Try.underlying22 info2 rfl (by decide) (by omega) u9 x9_1 (rd l1 x10_1) [.int .i64 (rd l1 x10_1)] (fun _ => True) (fun _ => False) rfl rfl ?aP (fun _ hk => hk.elim) ?aF ?aO ?aB ?aS ?aL ?_; (case aP => exact rfl); (case aB => exact (by repeat (first | (with_reducible first | exact HB.out | apply below_alloc | apply pw_below_drewN | apply below_drew1) | exact HB.out))); (case aF => exact (fun _ _ => trivial)); (case aO => exact (by (with_reducible repeat (first | apply Kd.R_alloc | apply Kd.R_drewN | apply Kd.R_drew)); exact HO_9.out)); (case aS => exact (below_size (by repeat (first | (with_reducible first | exact HB.out | apply below_alloc | apply pw_below_drewN | apply below_drew1) | exact HB.out)))); (case aL => have := LMc10.out; omega); intro v1086 w13 ho hb hg hat; rw [← Ny1085.out] at ho; have n0_ := Aside0.mk (hb); have n1_ := Aside0.mk (ho); clear HB; clear HO_9; have HB := n0_; have HO1087 := n1_; clear n0_ n1_; clear ho hb hg hat; have p1088 : 0 ≤ (x10_1 : Int) := of_decide_eq_true (by first | (with_reducible assumption) | assumption); have q1088 : x10_1 < (l2.length : Int) := of_decide_eq_true (by first | (with_reducible assumption) | assumption); obtain ⟨ad1088, e1088, hx1088_0⟩ := Kd.at_int HR2.out x10_1 p1088 q1088; cases e1088; replace hx1088_0 := (HB.out.cell (World.block_lt_of_cell? w _ hx1088_0)).trans hx1088_0; replace p1088 := eq_true p1088; replace q1088 := eq_true q1088) | ((with_reducible refine gate_builtin (b := .append) (xs := #[.tmp 30, .tmp 35]) rfl ?_); at_builtin; refine Kd.R_append (Kd.int .i64) (w0 := w) w.heap.size rfl (.tmp 30) (.tmp 35) 22 2 (.int .i64 0) 8 rfl Try.underlying22 info2 rfl (by decide) (by omega) v1086 y1085 (rd l2 x10_1) [.int .i64 (rd l2 x10_1)] (fun _ => True) (fun _ => False) rfl rfl ?aP (fun _ hk => hk.elim) ?aF ?aO ?aB ?aS ?aL ?_; (case aP => exact rfl); (case aB => exact (by repeat (first | (with_reducible first | exact HB.out | apply below_alloc | apply pw_below_drewN | apply below_drew1) | exact HB.out))); (case aF => exact (fun _ _ => trivial)); (case aO => exact (by (with_reducible repeat (first | apply Kd.R_alloc | apply Kd.R_drewN | apply Kd.R_drew)); exact HO1087.out)); (case aS => exact (below_size (by repeat (first | (with_reducible first | exact HB.out | apply below_alloc | apply pw_below_drewN | apply below_drew1) | exact HB.out)))); (case aL => have := LMc12.out; omega); intro v1090 w14 ho hb hg hat; rw [← Ny1089.out] at ho; have n0_ := Aside0.mk (hb); have n1_ := Aside0.mk (ho); clear HB; clear HO1087; have HB := n0_; have HO1091 := n1_; clear n0_ n1_; clear ho hb hg hat))
    go_roundg k1
    case measure => have := HK1.out; omega
    case rel => exact ⟨(y1089), (wrap64 (x10_1 + 1)), (by first | rfl | (simp; done) | (simp [*]; done)), H', ⟨by have := HK1.out; omega⟩, ⟨by (with_reducible repeat (first | apply Kd.R_alloc | apply Kd.R_drewN | apply Kd.R_drew)); exact HO1091.out⟩, ⟨by repeat (first | (with_reducible first | exact HB.out | apply below_alloc | apply pw_below_drewN | apply below_drew1) | exact HB.out)⟩⟩
   ·rw [if_neg c8] at H
    have c8b0 : decide (x10_1 < (l1.length : Int)) = false := decide_eq_false c8
    clear c8
    by_cases c15 : 0 ≤ (l1.length : Int)
    rotate_left
    ·rw [if_neg c15] at H
     exact absurd H (by simp)
    rw [if_pos c15] at H
    have c15b0 := eq_true c15
    have c15b1 : decide (0 ≤ (l1.length : Int)) = true := decide_eq_true c15
    clear c15
    by_cases c16 : (l1.length : Int) ≤ (x9_1.length : Int)
    rotate_left
    ·rw [if_neg c16] at H
     exact absurd H (by simp)
    rw [if_pos c16] at H
    have c16b0 := eq_true c16
    have c16b1 : decide ((l1.length : Int) ≤ (x9_1.length : Int)) = true := decide_eq_true c16
    clear c16
    obtain ⟨y1092, hy1092⟩ : ∃ y_ : List Int, y_ = (x9_1.take ((l1.length : Int) : Int).toNat) := ⟨_, rfl⟩
    replace H : ((spec_l00Own.f y1092).bind fun t1096 => ((spec_l00Own.f (x9_1.drop ((l1.length : Int) : Int).toNat)).bind fun t1103 => (some (t1096, t1103, true)))) = some (r1, r2, r3) := by first | (rw [hy1092]; with_reducible exact H) | (have H2_ := (Option.bind_some _ _).symm.trans H; rw [hy1092]; with_reducible exact H2_) | (have H2_ := (Option.bind_some _ _).symm.trans H; with_reducible exact H2_) | with_reducible exact H | (rw [hy1092]; exact H) | exact H
    have Ny1092 := Aside0.mk hy1092
    clear hy1092
    replace H := Option.bind_eq_some_iff.mp H
    obtain ⟨t1096, A170, H⟩ := H
    try dsimp only at H
    have A17 := Aside0.mk A170
    clear A170
    have c18b0 := eq_true (of_decide_eq_true (by first | (with_reducible assumption) | assumption) : 0 ≤ (l1.length : Int))
    have c19b0 := eq_true (of_decide_eq_true (by first | (with_reducible assumption) | assumption) : (l1.length : Int) ≤ (x9_1.length : Int))
    obtain ⟨y1099, hy1099⟩ : ∃ y_ : List Int, y_ = (x9_1.drop ((l1.length : Int) : Int).toNat) := ⟨_, rfl⟩
    replace H : ((spec_l00Own.f y1099).bind fun t1103 => (some (t1096, t1103, true))) = some (r1, r2, r3) := by first | (rw [hy1099]; with_reducible exact H) | (have H2_ := (Option.bind_some _ _).symm.trans H; rw [hy1099]; with_reducible exact H2_) | (have H2_ := (Option.bind_some _ _).symm.trans H; with_reducible exact H2_) | with_reducible exact H | (rw [hy1099]; exact H) | exact H
    have Ny1099 := Aside0.mk hy1099
    clear hy1099
    replace H := Option.bind_eq_some_iff.mp H
    obtain ⟨t1103, A200, H⟩ := H
    try dsimp only at H
    have A20 := Aside0.mk A200
    clear A200
    simp only [Option.some.injEq, Prod.mk.injEq] at H
    obtain ⟨rfl, rfl, rfl⟩ := H
    try go_wp2
    have n0_ := Aside0.mk (Kd.R_drew HO_9.out)
    have n1_ := Aside0.mk (below_drew1 HB.out)
    clear HO_9
    clear HB
    have HO_9 := n0_
    have HB := n1_
    clear n0_ n1_
    obtain ⟨Ao23, co23, eo23⟩ := Kd.R_slice HO_9.out
    (first | subst eo23 | (injection eo23 with f1_ f2_ f3_; have f4_ := f1_.symm; have f5_ := f3_.symm; clear f1_ f2_ f3_; subst f4_; subst f5_))
    have q22 : ((l1.length : Int) : Int) ≤ ((x9_1.length : Int) : Int) := of_decide_eq_true (by first | (with_reducible assumption) | assumption)
    obtain ⟨i022, hi022, _, hsz22, _⟩ := info_parts info2
    have hroom22 : x9_1.length ≤ co23 := (Kd.R_reads' HO_9.out).2.1
    have hC22 : Kd.C (Kd.int .i64) _ Ao23 x9_1.length x9_1 := (Kd.R_reads' HO_9.out).2.2
    have hcut22 := cut_to (P := Try.prog) 22 2 .i64 Try.underlying22 hi022 Ao23 x9_1.length co23 (l1.length : Int) (of_decide_eq_true (by first | (with_reducible assumption) | assumption)) q22 hroom22
    have hr22 := Kd.C_take (m := ((l1.length : Int) : Int).toNat) hC22 (by omega)
    have hy22 : y1092.length = ((l1.length : Int) : Int).toNat := (by rw [Ny1092.out, List.length_take]; omega)
    rw [← Ny1092.out] at hr22
    rw [← hy22] at hcut22
    have HR1095 := Aside0.mk hr22
    have HC1095 := Aside0.mk (show y1092.length ≤ co23 from by omega)
    clear hr22 hC22 hroom22 hi022 hsz22
    have KY22 := Aside0.mk hy22
    clear hy22
    have KL22 := Aside0.mk (show ((l1.length : Int) : Int).toNat ≤ x9_1.length from by omega)
    replace q22 := eq_true q22
    have q24 : ((l1.length : Int) : Int) ≤ ((x9_1.length : Int) : Int) := of_decide_eq_true (by first | (with_reducible assumption) | assumption)
    obtain ⟨i024, hi024, _, hsz24, _⟩ := info_parts info2
    have hroom24 : x9_1.length ≤ co23 := (Kd.R_reads' HO_9.out).2.1
    have hC24 : Kd.C (Kd.int .i64) _ Ao23 x9_1.length x9_1 := (Kd.R_reads' HO_9.out).2.2
    have q024 : (0 : Int) ≤ ((l1.length : Int) : Int) := of_decide_eq_true (by first | (with_reducible assumption) | assumption)
    have hcut24 := cut_from (P := Try.prog) 22 2 .i64 Try.underlying22 hi024 1 hsz24 Ao23 x9_1.length co23 (l1.length : Int) q024 q24
    have hr24 := Kd.C_drop (m := ((l1.length : Int) : Int).toNat) (c := co23) hC24 (by omega) hroom24
    obtain ⟨A24, hA24⟩ : ∃ A1, A1 = (if co23 = ((l1.length : Int) : Int).toNat then Ao23 else (Ao23 : Option Addr).map (·.add (((l1.length : Int) : Int).toNat * 1))) := ⟨_, rfl⟩
    obtain ⟨c24, hc24⟩ : ∃ c1, c1 = co23 - ((l1.length : Int) : Int).toNat := ⟨_, rfl⟩
    have hy24 : y1099.length = x9_1.length - ((l1.length : Int) : Int).toNat := (by rw [Ny1099.out, List.length_drop] <;> omega)
    rw [show (x9_1).drop ((l1.length : Int) : Int).toNat = y1099 from Ny1099.out.symm] at hr24
    replace hr24 : Kd.C (Kd.int .i64) _ A24 y1099.length y1099 := (by rw [hA24]; exact hr24)
    rw [← hy24, ← hA24, ← hc24] at hcut24
    have HR1102 := Aside0.mk hr24
    have HC1102 := Aside0.mk (show y1099.length ≤ c24 from by rw [hy24, hc24]; exact Nat.sub_le_sub_right hroom24 _)
    clear hr24 hC24 hroom24 hi024 hsz24 hc24
    have KY24 := Aside0.mk hy24
    have KA24 := Aside0.mk hA24
    clear hy24 hA24
    have KL24 := Aside0.mk (show ((l1.length : Int) : Int).toNat ≤ x9_1.length from by omega)
    replace q24 := eq_true q24
    refine start_ (n := 13) (S := fun w' => True) (ds := []) #[false, false, false, false, false, false, false, false, false, false, false, false, false] (by kernel_rfl) rfl rfl trivial (fun hHeld => ?_); refine with_tabW spec_InterleaveLanes.tab9 spec_InterleaveLanes.bits9 (fun HT_ HW_ => ?_)
    generalize wr.drew = w21 at HO_9 HB HR1095 HR1102 hHeld ⊢
    refine pure_ (i := 0) (N := some 37) (v := ?_) (a' := ?_) #[true, false, false, false, false, false, false, false, false, false, false, false, false] rfl rfl (any_of HT_.out (by kernel_rfl)) (fun _ _ _ h => h) (Or.inl ⟨by rfl, ?_⟩) ?_ ?_
    rotate_left
    ·intro w'
     go_simp
     with_reducible rfl
    rotate_left
    ·simp only [Act.put, List.setIfInBounds_toArray, List.set_cons_zero, List.set_cons_succ, i64_w, i32_w]
     rfl
    refine pure_ (i := 1) (N := some 38) (v := ?_) (a' := ?_) #[true, true, false, false, false, false, false, false, false, false, false, false, false] rfl rfl (any_of HT_.out (by kernel_rfl)) (fun _ _ _ h => h) (Or.inl ⟨by rfl, ?_⟩) ?_ ?_
    rotate_left
    ·intro w'
     go_simp
     with_reducible rfl
    rotate_left
    ·simp only [Act.put, List.setIfInBounds_toArray, List.set_cons_zero, List.set_cons_succ, i64_w, i32_w]
     rfl
    refine pure_ (i := 2) (N := some 39) (v := ?_) (a' := ?_) #[true, true, true, false, false, false, false, false, false, false, false, false, false] rfl rfl (any_of HT_.out (by kernel_rfl)) (fun _ _ _ h => h) (Or.inl ⟨by rfl, ?_⟩) ?_ ?_
    rotate_left
    ·intro w'
     go_simp
     with_reducible rfl
    rotate_left
    ·simp only [Act.put, List.setIfInBounds_toArray, List.set_cons_zero, List.set_cons_succ, i64_w, i32_w]
     rfl
    refine pure_ (i := 3) (N := some 40) (v := ?_) (a' := ?_) #[true, true, true, true, false, false, false, false, false, false, false, false, false] rfl rfl (any_of HT_.out (by kernel_rfl)) (fun _ _ _ h => h) (Or.inl ⟨by rfl, ?_⟩) ?_ ?_
    rotate_left
    ·intro w'
     go_simp
     with_reducible rfl
    rotate_left
    ·simp only [Act.put, List.setIfInBounds_toArray, List.set_cons_zero, List.set_cons_succ, i64_w, i32_w]
     rfl
    refine pure_ (i := 5) (N := some 42) (v := ?_) (a' := ?_) #[true, true, true, true, false, true, false, false, false, false, false, false, false] rfl rfl (any_of HT_.out (by kernel_rfl)) (fun _ _ _ h => h) (Or.inl ⟨by rfl, ?_⟩) ?_ ?_
    rotate_left
    ·intro w'
     go_simp
     with_reducible rfl
    rotate_left
    ·simp only [Act.put, List.setIfInBounds_toArray, List.set_cons_zero, List.set_cons_succ, i64_w, i32_w]
     rfl
    refine pure_ (i := 6) (N := some 43) (v := ?_) (a' := ?_) #[true, true, true, true, false, true, true, false, false, false, false, false, false] rfl rfl (any_of HT_.out (by kernel_rfl)) (fun _ _ _ h => h) (Or.inl ⟨by rfl, ?_⟩) ?_ ?_
    rotate_left
    ·intro w'
     go_simp
     with_reducible rfl
    rotate_left
    ·simp only [Act.put, List.setIfInBounds_toArray, List.set_cons_zero, List.set_cons_succ, i64_w, i32_w]
     rfl
    refine pure_ (i := 7) (N := some 44) (v := ?_) (a' := ?_) #[true, true, true, true, false, true, true, true, false, false, false, false, false] rfl rfl (any_of HT_.out (by kernel_rfl)) (fun _ _ _ h => h) (Or.inl ⟨by rfl, ?_⟩) ?_ ?_
    rotate_left
    ·intro w'
     go_simp
     with_reducible rfl
    rotate_left
    ·simp only [Act.put, List.setIfInBounds_toArray, List.set_cons_zero, List.set_cons_succ, i64_w, i32_w]
     rfl
    refine pure_ (i := 8) (N := some 45) (v := ?_) (a' := ?_) #[true, true, true, true, false, true, true, true, true, false, false, false, false] rfl rfl (any_of HT_.out (by kernel_rfl)) (fun _ _ _ h => h) (Or.inl ⟨by rfl, ?_⟩) ?_ ?_
    rotate_left
    ·intro w'
     go_simp
     with_reducible rfl
    rotate_left
    ·simp only [Act.put, List.setIfInBounds_toArray, List.set_cons_zero, List.set_cons_succ, i64_w, i32_w]
     rfl
    refine one_ (i := 4) (N := some 41) #[true, true, true, true, true, true, true, true, true, false, false, false, false] rfl rfl (one_of HT_.out (by kernel_rfl)) (by decide) (fun K hK => ?_)
    refine goes_ Try.func105 (by kernel_rfl) rfl #[.slice Ao23 y1092.length co23] (by rfl) rfl rfl (by (try simp only [List.map_toArray, List.map_cons, List.map_nil]); first | done | rfl | (simp only [List.length_drop, List.length_take]; rfl)) ?_
    with_reducible refine (spec_l00Own.calls _ _ y1092 t1096 _ ?side1 ?side2 A17.out).mono ?_
    (case side1 => repeat (first | exact (by repeat (first | (with_reducible exact HR1095.out) | (with_reducible refine Kd.C_alloc ?_ _) | (with_reducible refine Kd.C_drewN ?_ _) | (with_reducible refine Kd.C_drew ?_) | exact HR1095.out)) | (with_reducible refine Kd.C_alloc ?_ _) | (with_reducible refine Kd.C_drewN ?_ _) | (with_reducible refine Kd.C_drew ?_)))
    (case side2 => exact HC1095.out)
    rintro e w25 ⟨v1097, rfl, ho0, hb⟩
    refine ⟨_, rfl, ?_⟩
    have n0_ := Aside0.mk (Kd.R_elder' (by (with_reducible repeat (first | apply Kd.R_alloc | apply Kd.R_drewN | apply Kd.R_drew)); exact HO_9.out) (Kd.R_base ho0) hb)
    have n1_ := Aside0.mk (Kd.R_lower (Kd.R_new' ho0 (Kd.R_lt (by (with_reducible repeat (first | apply Kd.R_alloc | apply Kd.R_drewN | apply Kd.R_drew)); exact HO_9.out))) (below_size (by repeat (first | (with_reducible first | exact HB.out | apply below_alloc | apply pw_below_drewN | apply below_drew1) | exact HB.out))))
    have n2_ := Aside0.mk (Kd.C_below (by repeat (first | (with_reducible exact HR1095.out) | (with_reducible refine Kd.C_alloc ?_ _) | (with_reducible refine Kd.C_drewN ?_ _) | (with_reducible refine Kd.C_drew ?_) | exact HR1095.out)) hb)
    have n3_ := Aside0.mk (Kd.C_below (by repeat (first | (with_reducible exact HR1102.out) | (with_reducible refine Kd.C_alloc ?_ _) | (with_reducible refine Kd.C_drewN ?_ _) | (with_reducible refine Kd.C_drew ?_) | exact HR1102.out)) hb)
    have n4_ := Aside0.mk (below_step (by repeat (first | (with_reducible first | exact HB.out | apply below_alloc | apply pw_below_drewN | apply below_drew1) | exact HB.out)) hb)
    clear HO_9
    clear HR1095
    clear HR1102
    clear HB
    have HO_9 := n0_
    have HO1098 := n1_
    have HR1095 := n2_
    have HR1102 := n3_
    have HB := n4_
    clear n0_ n1_ n2_ n3_ n4_
    (try clear hb)
    (try clear hb2)
    (try clear hk)
    (try clear hi)
    (try clear ho0)
    refine hK.out _ _ trivial (fun hHeld => ?_)
    clear hK K
    refine norm_ (a' := ?_) ?_ ?_
    rotate_left
    ·show Act.put _ (some 41) _ = _
     simp only [Act.put, List.setIfInBounds_toArray, List.set_cons_zero, List.set_cons_succ, i64_w, i32_w]
     rfl
    refine one_ (i := 9) (N := some 46) #[true, true, true, true, true, true, true, true, true, true, false, false, false] rfl rfl (one_of HT_.out (by kernel_rfl)) (by decide) (fun K hK => ?_)
    refine goes_ Try.func105 (by kernel_rfl) rfl #[.slice A24 y1099.length c24] (by rfl) rfl rfl (by (try simp only [List.map_toArray, List.map_cons, List.map_nil]); first | done | rfl | (simp only [List.length_drop, List.length_take]; rfl)) ?_
    with_reducible refine (spec_l00Own.calls _ _ y1099 t1103 _ ?side1 ?side2 A20.out).mono ?_
    (case side1 => repeat (first | exact (by repeat (first | (with_reducible exact HR1102.out) | (with_reducible refine Kd.C_alloc ?_ _) | (with_reducible refine Kd.C_drewN ?_ _) | (with_reducible refine Kd.C_drew ?_) | exact HR1102.out)) | (with_reducible refine Kd.C_alloc ?_ _) | (with_reducible refine Kd.C_drewN ?_ _) | (with_reducible refine Kd.C_drew ?_)))
    (case side2 => exact HC1102.out)
    rintro e w26 ⟨v1104, rfl, ho0, hb⟩
    refine ⟨_, rfl, ?_⟩
    have n0_ := Aside0.mk (Kd.R_elder' (by (with_reducible repeat (first | apply Kd.R_alloc | apply Kd.R_drewN | apply Kd.R_drew)); exact HO_9.out) (Kd.R_base ho0) hb)
    have n1_ := Aside0.mk (Kd.R_elder' (by (with_reducible repeat (first | apply Kd.R_alloc | apply Kd.R_drewN | apply Kd.R_drew)); exact HO1098.out) (Kd.R_base ho0) hb)
    have n2_ := Aside0.mk (Kd.R_lower (Kd.R_new' (Kd.R_new' ho0 (Kd.R_lt (by (with_reducible repeat (first | apply Kd.R_alloc | apply Kd.R_drewN | apply Kd.R_drew)); exact HO_9.out))) (Kd.R_lt (by (with_reducible repeat (first | apply Kd.R_alloc | apply Kd.R_drewN | apply Kd.R_drew)); exact HO1098.out))) (below_size (by repeat (first | (with_reducible first | exact HB.out | apply below_alloc | apply pw_below_drewN | apply below_drew1) | exact HB.out))))
    have n3_ := Aside0.mk (Kd.C_below (by repeat (first | (with_reducible exact HR1095.out) | (with_reducible refine Kd.C_alloc ?_ _) | (with_reducible refine Kd.C_drewN ?_ _) | (with_reducible refine Kd.C_drew ?_) | exact HR1095.out)) hb)
    have n4_ := Aside0.mk (Kd.C_below (by repeat (first | (with_reducible exact HR1102.out) | (with_reducible refine Kd.C_alloc ?_ _) | (with_reducible refine Kd.C_drewN ?_ _) | (with_reducible refine Kd.C_drew ?_) | exact HR1102.out)) hb)
    have n5_ := Aside0.mk (below_step (by repeat (first | (with_reducible first | exact HB.out | apply below_alloc | apply pw_below_drewN | apply below_drew1) | exact HB.out)) hb)
    clear HO_9
    clear HO1098
    clear HR1095
    clear HR1102
    clear HB
    have HO_9 := n0_
    have HO1098 := n1_
    have HO1105 := n2_
    have HR1095 := n3_
    have HR1102 := n4_
    have HB := n5_
    clear n0_ n1_ n2_ n3_ n4_ n5_
    (try clear hb)
    (try clear hb2)
    (try clear hk)
    (try clear hi)
    (try clear ho0)
    refine hK.out _ _ trivial (fun hHeld => ?_)
    clear hK K
    refine norm_ (a' := ?_) ?_ ?_
    rotate_left
    ·show Act.put _ (some 46) _ = _
     simp only [Act.put, List.setIfInBounds_toArray, List.set_cons_zero, List.set_cons_succ, i64_w, i32_w]
     rfl
    refine pure_ (i := 10) (N := some 6) (v := ?_) (a' := ?_) #[true, true, true, true, true, true, true, true, true, true, true, false, false] rfl rfl (any_of HT_.out (by kernel_rfl)) (fun _ _ _ h => h) (Or.inl ⟨by rfl, ?_⟩) ?_ ?_
    rotate_left
    ·intro w'
     go_simp
     with_reducible rfl
    rotate_left
    ·simp only [Act.put, List.setIfInBounds_toArray, List.set_cons_zero, List.set_cons_succ, i64_w, i32_w]
     rfl
    refine pure_ (i := 11) (N := some 7) (v := ?_) (a' := ?_) #[true, true, true, true, true, true, true, true, true, true, true, true, false] rfl rfl (any_of HT_.out (by kernel_rfl)) (fun _ _ _ h => h) (Or.inl ⟨by rfl, ?_⟩) ?_ ?_
    rotate_left
    ·intro w'
     go_simp
     with_reducible rfl
    rotate_left
    ·simp only [Act.put, List.setIfInBounds_toArray, List.set_cons_zero, List.set_cons_succ, i64_w, i32_w]
     rfl
    refine pure_ (i := 12) (N := some 8) (v := ?_) (a' := ?_) #[true, true, true, true, true, true, true, true, true, true, true, true, true] rfl rfl (any_of HT_.out (by kernel_rfl)) (fun _ _ _ h => h) (Or.inl ⟨by rfl, ?_⟩) ?_ ?_
    rotate_left
    ·intro w'
     go_simp
     with_reducible rfl
    rotate_left
    ·simp only [Act.put, List.setIfInBounds_toArray, List.set_cons_zero, List.set_cons_succ, i64_w, i32_w]
     rfl
    refine done_ (done_of HT_.out (by kernel_rfl)) ?_
    try go_wp2
    go_ret3
    exact ⟨_, _, by first | rfl | (simp [errW_none, errW_some] <;> rfl) | (simp [*, errW_none, errW_some] <;> rfl), by (with_reducible repeat (first | apply Kd.R_alloc | apply Kd.R_drewN | apply Kd.R_drew)); exact Kd.R_mono HO1098.out (fun _ hk => hk.2), by (with_reducible repeat (first | apply Kd.R_alloc | apply Kd.R_drewN | apply Kd.R_drew)); exact Kd.R_mono HO1105.out (fun _ hk => hk.2), by repeat (first | (with_reducible first | exact HB.out | apply below_alloc | apply pw_below_drewN | apply below_drew1) | exact HB.out)⟩
/-! ### impl_InterleaveLanes: function 50 -/
/-- Two rows in turn. -/
def ilv (l m : List Int) (j : Nat) : Int := if j % 2 = 0 then rd l ((j / 2 : Nat) : Int) else rd m ((j / 2 : Nat) : Int)
def ilw (l m : List Int) : List Int := (List.range (2 * l.length)).map (ilv l m)
def impl_InterleaveLanes.f (_k : Nat) (a0 : Int) (l1 : List Int) (l2 : List Int) : Option (List Int × List Int × Bool) := some (if vecs a0 [l1, l2] = true then ((ilw l1 l2).take l1.length, (ilw l1 l2).drop l1.length, true) else ([], [], false))
theorem impl_InterleaveLanes.mono : ∀ a0 a1 a2 k, LeO (impl_InterleaveLanes.f k a0 a1 a2) (impl_InterleaveLanes.f (k + 1) a0 a1 a2) := fun _ _ _ _ => LeO.refl _
set_option maxHeartbeats 4000000 in
theorem impl_InterleaveLanes.lit (l m : List Int) (A D : Option Addr) (c d : Nat) (B : Nat) (W : World) (j : Nat) (hj : j < 2 * l.length) (he : l.length = m.length) (hl : l.length ≤ 16)
  (h1 : W.cell? ⟨B, 0, none⟩ = some (.slice A l.length c)) (h2 : W.cell? ⟨B + 1, 0, none⟩ = some (.slice D m.length d)) (hr : Kd.C (Kd.int .i64) W A l.length l) (hr2 : Kd.C (Kd.int .i64) W D m.length m) :
  Calls Try.prog 112 #[.int .i64 (j : Int), .pointer (some ⟨B, 0, none⟩), .pointer (some ⟨B + 1, 0, none⟩)] W fun e w' => e = .returned (.int .i64 (ilv l m j)) ∧ Below W.heap.size W w' := by
 obtain ⟨q, hq⟩ : ∃ q, q = j / 2 := ⟨_, rfl⟩
 have k1 : (q : Int) < (l.length : Int) := by omega
 have k2 : (q : Int) < (m.length : Int) := by omega
 have k0 : 0 ≤ (q : Int) := Int.natCast_nonneg q
 obtain ⟨ad, e1, hx⟩ := Kd.at_int hr (q : Int) k0 k1
 obtain ⟨ad2, e2, hy⟩ := Kd.at_int hr2 (q : Int) k0 k2
 cases e1
 cases e2
 rw [Int.toNat_natCast] at hx hy
 have d1 : Int.tdiv (j : Int) 2 = (q : Int) := by rw [Int.tdiv_eq_ediv_of_nonneg (by omega)]; omega
 have d2 : wrap64 (q : Int) = (q : Int) := w_small (by omega)
 unfold ilv
 rw [← hq]
 clear hr hr2
 generalize rd l (q : Int) = x at hx ⊢
 generalize rd m (q : Int) = y at hy ⊢
 by_cases hp : j % 2 = 0
 ·rw [if_pos hp]
  have d3 : Int.tmod (j : Int) 2 = 0 := by rw [Int.tmod_eq_emod_of_nonneg (by omega)]; omega
  have HQ : Aside0 (impl_pick.f true x y = some x) := ⟨by unfold impl_pick.f; exact if_pos rfl⟩
  clear hp hq hj he hl
  go_enter Try.func112, Try.ntmps112
  go_wp2
  go_quiet ((go_at_call 113; exact quiet0 (impl_pick.calls _ _ _ _ _ HQ.out)))
  go_wp2
  go_ret
  exact ⟨rfl, pw_below_drewN (Below.refl _ _) _⟩
 rw [if_neg hp]
 have d3 : Int.tmod (j : Int) 2 = 1 := by rw [Int.tmod_eq_emod_of_nonneg (by omega)]; omega
 have HQ : Aside0 (impl_pick.f false x y = some y) := ⟨by unfold impl_pick.f; exact if_neg (by simp)⟩
 clear hp hq hj he hl
 go_enter Try.func112, Try.ntmps112
 go_wp2
 go_quiet ((go_at_call 113; exact quiet0 (impl_pick.calls _ _ _ _ _ HQ.out)))
 go_wp2
 go_ret
 exact ⟨rfl, pw_below_drewN (Below.refl _ _) _⟩
theorem impl_InterleaveLanes.ok {b : Int} {l m : List Int} (h : vecs b [l, m] = true) : l.length = m.length ∧ l.length ≤ 16 := by
 have h : ((vec b l && ((l.length : Int) == (l.length : Int))) && ((vec b m && ((m.length : Int) == (l.length : Int))) && true)) = true := h
 simp only [Bool.and_eq_true, beq_iff_eq, Bool.and_true] at h
 have := lanes_le (vec_iff.mp h.1.1).2.1
 omega
set_option maxHeartbeats 8000000 in
set_option maxRecDepth 100000 in
theorem impl_InterleaveLanes.calls (k : Nat) (a0 : Int) (P1_ : Nat → Prop) (A1 : Option Addr) (c1 : Nat) (l1 : List Int) (P2_ : Nat → Prop) (A2 : Option Addr) (c2 : Nat) (l2 : List Int) (r1 : List Int) (r2 : List Int) (r3 : Bool) (w : World) (hs1 : Kd.V (Kd.int .i64) 2 w w.heap.size (fun k_ => P1_ k_) (.slice A1 l1.length c1) l1) (hs2 : Kd.V (Kd.int .i64) 2 w w.heap.size (fun k_ => P2_ k_) (.slice A2 l2.length c2) l2) (h : impl_InterleaveLanes.f k a0 l1 l2 = some (r1, r2, r3)) :
  Calls Try.prog 50 #[.int .i64 a0, .slice A1 l1.length c1, .slice A2 l2.length c2] w fun e w' => ∃ v0_ v1_ : Value, e = .returned (.tuple #[v0_, v1_, .bool r3]) ∧ Kd.R (Kd.int .i64) 2 w' w.heap.size (fun k_ => (w.heap.size ≤ k_) ∧ some k_ ≠ (v1_ : Value).ownBlock) v0_ r1 ∧ Kd.R (Kd.int .i64) 2 w' w.heap.size (fun k_ => (w.heap.size ≤ k_) ∧ some k_ ≠ (v0_ : Value).ownBlock) v1_ r2 ∧ Below w.heap.size w w' := by
 have hv := Option.some.inj h
 clear h
 have HC1 := Aside0.mk (Kd.V_reads' hs1).2.1
 have HC2 := Aside0.mk (Kd.V_reads' hs2).2.1
 have HR1 := Aside0.mk (Kd.V_reads' hs1).2.2
 have HR2 := Aside0.mk (Kd.V_reads' hs2).2.2
 have HO1 := Aside0.mk (show Kd.V (Kd.int .i64) 2 w w.heap.size (fun k_ => ((P1_ k_ ∨ P2_ k_) ∨ w.heap.size ≤ k_)) (.slice A1 l1.length c1) l1 from Kd.V_mono hs1 (fun k_ hk => .inl (.inl hk)))
 have HO2 := Aside0.mk (show Kd.V (Kd.int .i64) 2 w w.heap.size (fun k_ => ((P1_ k_ ∨ P2_ k_) ∨ w.heap.size ≤ k_)) (.slice A2 l2.length c2) l2 from Kd.V_mono hs2 (fun k_ hk => .inl (.inr hk)))
 have HB := Aside0.mk (Below.refl w.heap.size w)
 obtain ⟨y, hy⟩ : ∃ y : List (List Int), y = [l1, l2] := ⟨_, rfl⟩
 have Ny := Aside0.mk hy
 by_cases q : vecs a0 [l1, l2] = true
 rotate_left
 ·rw [if_neg q] at hv
  obtain ⟨rfl, e2⟩ := Prod.mk.inj hv
  obtain ⟨rfl, rfl⟩ := Prod.mk.inj e2
  clear hv e2
  have HV : Aside0 (impl_areVectors.f 0 a0 y = some false) := ⟨by rw [hy]; unfold impl_areVectors.f; rw [Bool.eq_false_iff.mpr q]⟩
  clear q hs1 hs2 hy
  go_enter Try.func50, Try.ntmps50
  go_wp2_with (first | ((with_reducible refine gate_dst (N := 14) rfl ?_); (try (refine gate_guard (by rfl) ?_; dsimp only)); refine Kd.N_lit (Kd.slice 2 (Kd.int .i64)) _ 22 ?hg (N' := 14) ?hd (xs := ([l1, l2] : List (List Int))) (inner := [.slice A1 l1.length c1, .slice A2 l2.length c2]) (ok := (fun k_ => ((P1_ k_ ∨ P2_ k_) ∨ w.heap.size ≤ k_))) (okp := (fun k_ => ((P1_ k_ ∨ P2_ k_) ∨ w.heap.size ≤ k_))) ?hr ?hp (fun _ hk => hk) ((show ∀ k_, w.heap.size ≤ k_ → (fun k_ => ((P1_ k_ ∨ P2_ k_) ∨ w.heap.size ≤ k_)) k_ from fun k_ hk => .inr hk) _ (below_size (by repeat (first | exact HB.out | exact Below.refl _ _ | apply below_alloc | apply pw_below_drewN | apply below_drew1)))) (Below.refl _ _) (Nat.le_refl _) (by simp) ?_; (case hd => rfl); (case hg => rfl); (case hr => first | (go_simp; done) | (go_simp; rfl)); (case hp => exact (Reps.one (show Kd.FK (Kd.slice 2 (Kd.int .i64)) _ _ l1 [.slice A1 l1.length c1] from (Kd.FK_slice_mk HC1.out (Kd.V_F (Kd.V_mono (ok' := (fun k_ => ((P1_ k_ ∨ P2_ k_) ∨ w.heap.size ≤ k_))) (by (with_reducible repeat (first | apply Kd.V_alloc | apply Kd.V_drewN | apply Kd.V_drew)); exact HO1.out) (fun k_ hk => hk))))) (Reps.one (show Kd.FK (Kd.slice 2 (Kd.int .i64)) _ _ l2 [.slice A2 l2.length c2] from (Kd.FK_slice_mk HC2.out (Kd.V_F (Kd.V_mono (ok' := (fun k_ => ((P1_ k_ ∨ P2_ k_) ∨ w.heap.size ≤ k_))) (by (with_reducible repeat (first | apply Kd.V_alloc | apply Kd.V_drewN | apply Kd.V_drew)); exact HO2.out) (fun k_ hk => hk))))) (Reps.none _ _)))); intro v245 w10 ho11 hb hg_ hnew_; clear hg_ hnew_; (first | rw [← Ny.out] at ho11 | (simp only [Int.reduceToNat] at ho11; rw [← Ny.out] at ho11)); have HY := Aside0.mk ho11; have ca1 : w10.cell? ⟨w.heap.size, 0, none⟩ = some (.slice A1 l1.length c1) := (hb.cell (p := ⟨w.heap.size, 0, none⟩) (by simp; omega)).trans (by go_simp; done); have ca2 : w10.cell? ⟨w.heap.size + 1, 0, none⟩ = some (.slice A2 l2.length c2) := (hb.cell (p := ⟨w.heap.size + 1, 0, none⟩) (by simp)).trans (by go_simp; done); have hsz1 : w.heap.size + 2 ≤ w10.heap.size := (by have := below_size hb; simp at this; omega); have n3_ : Aside0 (Below w.heap.size w w10) := ⟨below_step (by repeat (first | exact HB.out | exact Below.refl _ _ | apply below_alloc | apply pw_below_drewN | apply below_drew1)) hb⟩; (try clear HB); have HB := n3_; clear n3_; clear hb ho11; obtain ⟨Ao12, co12, eo12⟩ := Kd.N_slice HY.out; subst eo12) | (go_at_call 106; (with_reducible refine (impl_areVectors.calls 0 a0 _ _ y false _ ?side1 ?side2 HV.out).mono ?_); (case side1 => repeat (first | exact (Kd.N_reads' HY.out).2.2 | (with_reducible refine Kd.C_alloc ?_ _) | (with_reducible refine Kd.C_drewN ?_ _) | (with_reducible refine Kd.C_drew ?_))); (case side2 => exact (Kd.N_reads' HY.out).2.1); rintro e w13 ⟨rfl, hb⟩; have cb1 : w13.cell? ⟨w.heap.size, 0, none⟩ = some (.slice A1 l1.length c1) := (hb.cell (p := ⟨w.heap.size, 0, none⟩) (by simp; omega)).trans (by first | exact ca1 | (go_simp; exact ca1)); have cb2 : w13.cell? ⟨w.heap.size + 1, 0, none⟩ = some (.slice A2 l2.length c2) := (hb.cell (p := ⟨w.heap.size + 1, 0, none⟩) (by simp; omega)).trans (by first | exact ca2 | (go_simp; exact ca2)); have hsz2 : w.heap.size + 2 ≤ w13.heap.size := (by have := below_size hb; (try simp at this); omega); have n3_ : Aside0 (Below w.heap.size w w13) := ⟨below_step (by repeat (first | exact HB.out | exact Below.refl _ _ | apply below_alloc | apply pw_below_drewN | apply below_drew1)) hb⟩; clear HB; have HB := n3_; clear n3_; clear hb))
  go_ret3
  exact ⟨_, _, rfl, Kd.R_nil _ _ _ _ _, Kd.R_nil _ _ _ _ _, by repeat (first | exact HB.out | exact Below.refl _ _ | apply below_alloc | apply pw_below_drewN | apply below_drew1)⟩

 rw [if_pos q] at hv
 obtain ⟨rfl, e2⟩ := Prod.mk.inj hv
 obtain ⟨rfl, rfl⟩ := Prod.mk.inj e2
 clear hv e2
 obtain ⟨he, h16⟩ := impl_InterleaveLanes.ok q
 have HV : Aside0 (impl_areVectors.f 0 a0 y = some true) := ⟨by rw [hy]; unfold impl_areVectors.f; rw [q]⟩
 have hlen : (ilw l1 l2).length = 2 * l1.length := by unfold ilw; simp
 have HH : Aside0 (impl_halves.f 0 (ilw l1 l2) = some ((ilw l1 l2).take l1.length, (ilw l1 l2).drop l1.length)) := ⟨by
  unfold impl_halves.f
  have e : wrap64 (((ilw l1 l2).length : Int) / 2) = (l1.length : Int) := by rw [hlen, w_small (by omega)]; omega
  rw [e, if_pos (by omega), if_pos (by omega), Int.toNat_natCast]
  unfold slices_Clone_int64_int64.f
  rw [if_pos (by rw [List.length_take]; omega), if_pos (by rw [List.length_drop]; omega)]
  rfl⟩
 have ew : wrap64 (2 * (l1.length : Int)) = ((2 * l1.length : Nat) : Int) := by rw [w_small (by omega)]; omega
 have HA := Aside0.mk (fun (W : World) (hB : Below w.heap.size w W) (hB2 : w.heap.size + 2 ≤ W.heap.size) (h1 : W.cell? ⟨w.heap.size, 0, none⟩ = some (.slice A1 l1.length c1)) (h2 : W.cell? ⟨w.heap.size + 1, 0, none⟩ = some (.slice A2 l2.length c2)) =>
  lanesOf_c 112 #[.pointer (some ⟨w.heap.size, 0, none⟩), .pointer (some ⟨w.heap.size + 1, 0, none⟩)] (enters_of Try.func112 (by kernel_rfl) rfl) (2 * l1.length) (ilv l1 l2) W (by omega)
   (fun j hj W' hb' => impl_InterleaveLanes.lit l1 l2 A1 A2 c1 c2 w.heap.size W' j hj he h16
    ((hb'.cell (p := ⟨w.heap.size, 0, none⟩) (by show w.heap.size < _; omega)).trans h1) ((hb'.cell (p := ⟨w.heap.size + 1, 0, none⟩) (by show w.heap.size + 1 < _; omega)).trans h2)
    (Kd.C_below (Kd.C_below HR1.out hB) hb') (Kd.C_below (Kd.C_below HR2.out hB) hb')))
 clear q hs1 hs2 hy hlen he h16
 go_enter Try.func50, Try.ntmps50
 go_wp2_with (first | ((with_reducible refine gate_dst (N := 14) rfl ?_); (try (refine gate_guard (by rfl) ?_; dsimp only)); refine Kd.N_lit (Kd.slice 2 (Kd.int .i64)) _ 22 ?hg (N' := 14) ?hd (xs := ([l1, l2] : List (List Int))) (inner := [.slice A1 l1.length c1, .slice A2 l2.length c2]) (ok := (fun k_ => ((P1_ k_ ∨ P2_ k_) ∨ w.heap.size ≤ k_))) (okp := (fun k_ => ((P1_ k_ ∨ P2_ k_) ∨ w.heap.size ≤ k_))) ?hr ?hp (fun _ hk => hk) ((show ∀ k_, w.heap.size ≤ k_ → (fun k_ => ((P1_ k_ ∨ P2_ k_) ∨ w.heap.size ≤ k_)) k_ from fun k_ hk => .inr hk) _ (below_size (by repeat (first | exact HB.out | exact Below.refl _ _ | apply below_alloc | apply pw_below_drewN | apply below_drew1)))) (Below.refl _ _) (Nat.le_refl _) (by simp) ?_; (case hd => rfl); (case hg => rfl); (case hr => first | (go_simp; done) | (go_simp; rfl)); (case hp => exact (Reps.one (show Kd.FK (Kd.slice 2 (Kd.int .i64)) _ _ l1 [.slice A1 l1.length c1] from (Kd.FK_slice_mk HC1.out (Kd.V_F (Kd.V_mono (ok' := (fun k_ => ((P1_ k_ ∨ P2_ k_) ∨ w.heap.size ≤ k_))) (by (with_reducible repeat (first | apply Kd.V_alloc | apply Kd.V_drewN | apply Kd.V_drew)); exact HO1.out) (fun k_ hk => hk))))) (Reps.one (show Kd.FK (Kd.slice 2 (Kd.int .i64)) _ _ l2 [.slice A2 l2.length c2] from (Kd.FK_slice_mk HC2.out (Kd.V_F (Kd.V_mono (ok' := (fun k_ => ((P1_ k_ ∨ P2_ k_) ∨ w.heap.size ≤ k_))) (by (with_reducible repeat (first | apply Kd.V_alloc | apply Kd.V_drewN | apply Kd.V_drew)); exact HO2.out) (fun k_ hk => hk))))) (Reps.none _ _)))); intro v245 w10 ho11 hb hg_ hnew_; clear hg_ hnew_; (first | rw [← Ny.out] at ho11 | (simp only [Int.reduceToNat] at ho11; rw [← Ny.out] at ho11)); have HY := Aside0.mk ho11; have ca1 : w10.cell? ⟨w.heap.size, 0, none⟩ = some (.slice A1 l1.length c1) := (hb.cell (p := ⟨w.heap.size, 0, none⟩) (by simp; omega)).trans (by go_simp; done); have ca2 : w10.cell? ⟨w.heap.size + 1, 0, none⟩ = some (.slice A2 l2.length c2) := (hb.cell (p := ⟨w.heap.size + 1, 0, none⟩) (by simp)).trans (by go_simp; done); have hsz1 : w.heap.size + 2 ≤ w10.heap.size := (by have := below_size hb; simp at this; omega); have n3_ : Aside0 (Below w.heap.size w w10) := ⟨below_step (by repeat (first | exact HB.out | exact Below.refl _ _ | apply below_alloc | apply pw_below_drewN | apply below_drew1)) hb⟩; (try clear HB); have HB := n3_; clear n3_; clear hb ho11; obtain ⟨Ao12, co12, eo12⟩ := Kd.N_slice HY.out; subst eo12) | (go_at_call 106; (with_reducible refine (impl_areVectors.calls 0 a0 _ _ y true _ ?side1 ?side2 HV.out).mono ?_); (case side1 => repeat (first | exact (Kd.N_reads' HY.out).2.2 | (with_reducible refine Kd.C_alloc ?_ _) | (with_reducible refine Kd.C_drewN ?_ _) | (with_reducible refine Kd.C_drew ?_))); (case side2 => exact (Kd.N_reads' HY.out).2.1); rintro e w13 ⟨rfl, hb⟩; have cb1 : w13.cell? ⟨w.heap.size, 0, none⟩ = some (.slice A1 l1.length c1) := (hb.cell (p := ⟨w.heap.size, 0, none⟩) (by simp; omega)).trans (by first | exact ca1 | (go_simp; exact ca1)); have cb2 : w13.cell? ⟨w.heap.size + 1, 0, none⟩ = some (.slice A2 l2.length c2) := (hb.cell (p := ⟨w.heap.size + 1, 0, none⟩) (by simp; omega)).trans (by first | exact ca2 | (go_simp; exact ca2)); have hsz2 : w.heap.size + 2 ≤ w13.heap.size := (by have := below_size hb; (try simp at this); omega); have n3_ : Aside0 (Below w.heap.size w w13) := ⟨below_step (by repeat (first | exact HB.out | exact Below.refl _ _ | apply below_alloc | apply pw_below_drewN | apply below_drew1)) hb⟩; clear HB; have HB := n3_; clear n3_; clear hb) | (go_at_call 96; rw [ew]; refine (HA.out _ ?a1 ?a2 ?a4 ?a5).mono ?_; (case a1 => repeat (first | exact HB.out | exact Below.refl _ _ | apply below_alloc | apply pw_below_drewN | apply below_drew1)); (case a2 => first | exact hsz2 | (simp; exact hsz2)); (case a4 => first | exact cb1 | (go_simp; done)); (case a5 => first | exact cb2 | (go_simp; done)); rintro e w2 ⟨v, rfl, ho, hb⟩; have ho2 : Kd.R (Kd.int .i64) 2 w2 _ _ v (ilw l1 l2) := ho; clear ho; obtain ⟨Av, cv, rfl, hcv, hCv⟩ := Kd.R_reads ho2; have HB2 : Aside0 (Below w.heap.size w w2) := ⟨below_step (by repeat (first | exact HB.out | exact Below.refl _ _ | apply below_alloc | apply pw_below_drewN | apply below_drew1)) hb⟩; clear hb ho2) | (go_at_call 111; (with_reducible refine (impl_halves.calls 0 Av cv (ilw l1 l2) _ _ _ ?h1 hcv HH.out).mono ?_); (case h1 => repeat (first | exact hCv | (with_reducible refine Kd.C_drewN ?_ _))); rintro e w3 ⟨v0, v1, rfl, hr0, hr1, hb3⟩))
 go_ret3
 have hs3 : w.heap.size ≤ w2.heap.size := below_size HB2.out
 refine ⟨_, _, rfl, Kd.R_lower (Kd.R_mono (Kd.R_bound hr0) (fun k_ hk => ?_)) hs3, Kd.R_lower (Kd.R_mono (Kd.R_bound hr1) (fun k_ hk => ?_)) hs3, below_step HB2.out hb3⟩
 ·exact ⟨Nat.le_trans hs3 hk.2.1, hk.1⟩
 ·exact ⟨Nat.le_trans hs3 hk.2.1, hk.1⟩
end Go.Proofs.Ytpcjjminopdofaa.K
