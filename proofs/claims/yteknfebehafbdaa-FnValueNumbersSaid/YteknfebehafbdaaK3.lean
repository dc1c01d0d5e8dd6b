-- Laid by a program of this session.
import Derived.Test.YteknfebehafbdaaK0
import Derived.Test.YteknfebehafbdaaH0
import Derived.Test.YteknfebehafbdaaHA
import Derived.Test.YteknfebehafbdaaH6
import Derived.Test.YteknfebehafbdaaK2
namespace Go.Proofs.Yteknfebehafbdaa.K
open Go.RowKit Go.Proofs.YteknfebehafbdaaW.PrintWords Go.Proofs.YteknfebehafbdaaW.PrintLast Go.Proofs.YteknfebehafbdaaW.PrintMore Go.Proofs.Yteknfebehafbdaa.Bx Go.Shelf
attribute [local go_sem] max2_int min2_int max_two min_two max_three min_three max_four min_four   -- for this text's walks alone
set_option linter.unusedVariables false
set_option linter.unusedSimpArgs false

/-! ### spec_l00Put: function 84 -/
mutual
def spec_l00Put.l0 : Nat → List Int → Int → List Int → Bool → Int → Option (List Int)
 | 0, _, _, _, _, _ => none
 | k + 1, x0, x1, x5, x6, x7 => if x7 < (x0.length : Int) then (if x6 = true then (spec_l00Put.j1 k x0 x1 x5 x6 x7 false) else (if 0 ≤ x7 then (spec_l00Put.j1 k x0 x1 x5 x6 x7 (decide ((rd x0 x7) ≥ x1))) else (none))) else (if x6 = true then (some x5) else (if x5.length < 17592186044416 then (some (x5 ++ [x1])) else (none)))
def spec_l00Put.j1 : Nat → List Int → Int → List Int → Bool → Int → Bool → Option (List Int)
 | 0, _, _, _, _, _, _ => none
 | k + 1, x0, x1, x5, x6, x7, x24 => if x24 = true then (if 0 ≤ x7 then (if x7 < (x0.length : Int) then (if (rd x0 x7) > x1 then (if x5.length < 17592186044416 then ((some (x5 ++ [x1] : List Int)).bind fun y133 => (if y133.length < 17592186044416 then (spec_l00Put.l0 k x0 x1 (y133 ++ [rd x0 x7]) true (wrap64 (x7 + 1))) else (none))) else (none)) else (if x5.length < 17592186044416 then (spec_l00Put.l0 k x0 x1 (x5 ++ [rd x0 x7]) true (wrap64 (x7 + 1))) else (none))) else (none)) else (none)) else (if 0 ≤ x7 then (if x7 < (x0.length : Int) then (if x5.length < 17592186044416 then (spec_l00Put.l0 k x0 x1 (x5 ++ [rd x0 x7]) x6 (wrap64 (x7 + 1))) else (none)) else (none)) else (none))
end
def spec_l00Put.f (k : Nat) (l0 : List Int) (a1 : Int) : Option (List Int) := spec_l00Put.l0 k l0 a1 (([] : List Int)) false 0
theorem spec_l00Put.mono_l : ∀ k, (∀ y0 y1 y2 y3 y4, LeO (spec_l00Put.l0 k y0 y1 y2 y3 y4) (spec_l00Put.l0 (k + 1) y0 y1 y2 y3 y4)) ∧ (∀ y0 y1 y2 y3 y4 y5, LeO (spec_l00Put.j1 k y0 y1 y2 y3 y4 y5) (spec_l00Put.j1 (k + 1) y0 y1 y2 y3 y4 y5))
 | 0 => ⟨fun _ _ _ _ _ r h => by simp [spec_l00Put.l0] at h, fun _ _ _ _ _ _ r h => by simp [spec_l00Put.j1] at h⟩
 | k + 1 => by
  obtain ⟨ih0, ih1⟩ := spec_l00Put.mono_l k
  refine ⟨?_, ?_⟩
  ·intro y0 y1 y2 y3 y4
   unfold spec_l00Put.l0
   repeat' first
   | (with_reducible exact ih0 _ _ _ _ _)
   | (with_reducible exact ih1 _ _ _ _ _ _)
   | (with_reducible exact LeO.refl _)
   | (with_reducible exact LeO.none _)
   | (with_reducible refine LeO.ite ?_ ?_)
   | (with_reducible refine LeO.bind ?_ (fun _ => ?_))
   | exact ih0 _ _ _ _ _
   | exact ih1 _ _ _ _ _ _
   | exact LeO.none _
   | refine LeO.ite ?_ ?_
   | refine LeO.bind ?_ (fun _ => ?_)
  ·intro y0 y1 y2 y3 y4 y5
   unfold spec_l00Put.j1
   repeat' first
   | (with_reducible exact ih0 _ _ _ _ _)
   | (with_reducible exact ih1 _ _ _ _ _ _)
   | (with_reducible exact LeO.refl _)
   | (with_reducible exact LeO.none _)
   | (with_reducible refine LeO.ite ?_ ?_)
   | (with_reducible refine LeO.bind ?_ (fun _ => ?_))
   | exact ih0 _ _ _ _ _
   | exact ih1 _ _ _ _ _ _
   | exact LeO.none _
   | refine LeO.ite ?_ ?_
   | refine LeO.bind ?_ (fun _ => ?_)
theorem spec_l00Put.mono : ∀ a0 a1 k, LeO (spec_l00Put.f k a0 a1) (spec_l00Put.f (k + 1) a0 a1) := by
 intro a0 a1 k
 obtain ⟨ih0, ih1⟩ := spec_l00Put.mono_l k
 unfold spec_l00Put.f
 repeat' first
   | (with_reducible exact ih0 _ _ _ _ _)
   | (with_reducible exact ih1 _ _ _ _ _ _)
   | (with_reducible exact LeO.refl _)
   | (with_reducible exact LeO.none _)
   | (with_reducible refine LeO.ite ?_ ?_)
   | (with_reducible refine LeO.bind ?_ (fun _ => ?_))
   | exact ih0 _ _ _ _ _
   | exact ih1 _ _ _ _ _ _
   | exact LeO.none _
   | refine LeO.ite ?_ ?_
   | refine LeO.bind ?_ (fun _ => ?_)
set_option maxHeartbeats 8000000 in
set_option maxRecDepth 100000 in
theorem spec_l00Put.calls (k : Nat) (A0 : Option Addr) (c0 : Nat) (l0 : List Int) (a1 : Int) (r : List Int) (w : World) (hr0 : Kd.C (Kd.int .i64) w A0 l0.length l0) (hc0 : l0.length ≤ c0) (h : spec_l00Put.f k l0 a1 = some r) :
  Calls Try.prog 84 #[.slice A0 l0.length c0, .int .i64 a1] w fun e w' => ∃ v0_ : Value, e = .returned (v0_) ∧ Kd.R (Kd.int .i64) 2 w' w.heap.size (fun _ => True) v0_ r ∧ Below w.heap.size w w' := by
 have HR0 := Aside0.mk hr0
 have HC0 := Aside0.mk hc0
 clear hr0 hc0
 have HB := Aside0.mk (Below.refl w.heap.size w)
 have H : (spec_l00Put.l0 k l0 a1 (([] : List Int)) false 0) = some r := h
 clear h
 obtain ⟨y125, hy125⟩ : ∃ y_ : List Int, y_ = (([] : List Int)) := ⟨_, rfl⟩
 replace H : (spec_l00Put.l0 k l0 a1 y125 false 0) = some r := by first | (rw [hy125]; with_reducible exact H) | (have H2_ := (Option.bind_some _ _).symm.trans H; rw [hy125]; with_reducible exact H2_) | (have H2_ := (Option.bind_some _ _).symm.trans H; with_reducible exact H2_) | with_reducible exact H | (rw [hy125]; exact H) | exact H
 have Ny125 := Aside0.mk hy125
 clear hy125
 have H' := Aside0.mk H
 clear H
 go_enter Try.func84, Try.ntmps84
 go_wp2_with (first | ((with_reducible refine gate_dst (N := 8) rfl ?_); refine Kd.R_lit (Kd.int .i64) _ 2 ?hg (N := 8) ?hd (xs := ([] : List Int)) (inner := []) (ok := fun _ => True) (okp := fun _ => True) ?hr ?hp (fun _ hk => hk) trivial (Below.refl _ _) (Nat.le_refl _) (by simp) ?_; (case hd => rfl); (case hg => rfl); (case hr => first | (go_simp; done) | (go_simp; rfl)); (case hp => exact (Reps.none _ _)); intro v126 w3 ho4 hb hg_ hnew_; clear hg_ hnew_; (first | rw [← Ny125.out] at ho4 | (simp only [Int.reduceToNat] at ho4; rw [← Ny125.out] at ho4)); have n0_ := Aside0.mk (Kd.R_lower ho4 (below_size (by repeat (first | (with_reducible first | exact HB.out | apply below_alloc | apply pw_below_drewN | apply below_drew1) | exact HB.out)))); have n1_ := Aside0.mk (below_step (by repeat (first | (with_reducible first | exact HB.out | apply below_alloc | apply pw_below_drewN | apply below_drew1) | exact HB.out)) hb); clear HB; have HO127 := n0_; have HB := n1_; clear n0_ n1_; clear hb ho4))
 go_loopg [5, 6, 7] k (fun kq v5 v6 v7 w' => ∃ (x5_1 : List Int) (x6_1 : Bool) (x7_1 : Int), v6 = .bool x6_1 ∧ v7 = .int .i64 x7_1 ∧ Aside0 (spec_l00Put.l0 kq l0 a1 x5_1 x6_1 x7_1 = some r) ∧ Aside0 (kq ≤ k) ∧ Aside0 (Kd.R (Kd.int .i64) 2 w' w.heap.size (fun _ => True) v5 x5_1) ∧ Aside0 (Below w.heap.size w w'))
 case atStart => exact ⟨(y125), (false), (0), (by first | rfl | (simp; done) | (simp [*]; done)), (by first | rfl | (simp; done) | (simp [*]; done)), H', ⟨Nat.le_refl _⟩, ⟨by (with_reducible repeat (first | apply Kd.R_alloc | apply Kd.R_drewN | apply Kd.R_drew)); exact HO127.out⟩, ⟨by repeat (first | (with_reducible first | exact HB.out | apply below_alloc | apply pw_below_drewN | apply below_drew1) | exact HB.out)⟩⟩
 case round =>
  clear H'
  try clear p2
  obtain ⟨x5_1, x6_1, x7_1, rfl, rfl, HA, HK1, HO_5, HB⟩ := hrel
  cases gk with
  | zero => exact absurd HA.out (by simp [spec_l00Put.l0])
  | succ k1 =>
   have H := HA.out
   clear HA
   simp only [spec_l00Put.l0] at H
   by_cases c5 : x7_1 < (l0.length : Int)
   ·rw [if_pos c5] at H
    have c5b0 : decide (x7_1 < (l0.length : Int)) = true := decide_eq_true c5
    clear c5
    have HC6 := Aside0.mk H
    clear H
    go_upto_region 6 with (fail)
    go_cut [24] (fun v24 wc => ∃ (kq : Nat) (x24_5 : Bool), v24 = .bool x24_5 ∧ Aside0 (spec_l00Put.j1 kq l0 a1 x5_1 x6_1 x7_1 x24_5 = some r) ∧ Aside0 (kq ≤ k1) ∧ Aside0 (Kd.R (Kd.int .i64) 2 wc w.heap.size (fun _ => True) u5 x5_1) ∧ Aside0 (Below w.heap.size w wc))
    case first =>
     have H := HC6.out
     clear HC6
     by_cases c7 : x6_1 = true
     ·subst c7
      rw [if_pos rfl] at H
      have H' := Aside0.mk H
      clear H
      go_wp2
      go_meet
      case rel => exact ⟨_, (false), (by first | rfl | (simp; done) | (simp [*]; done)), H', ⟨by have := HK1.out; first | omega | exact Nat.le_refl _⟩, ⟨by (with_reducible repeat (first | apply Kd.R_alloc | apply Kd.R_drewN | apply Kd.R_drew)); exact HO_5.out⟩, ⟨by repeat (first | (with_reducible first | exact HB.out | apply below_alloc | apply pw_below_drewN | apply below_drew1) | exact HB.out)⟩⟩
     replace c7 := Bool.eq_false_iff.mpr c7
     subst c7
     rw [if_neg (show ¬ (false = true) by decide)] at H
     by_cases c8 : 0 ≤ x7_1
     rotate_left
     ·rw [if_neg c8] at H
      exact absurd H (by simp)
     rw [if_pos c8] at H
     have c8b0 : decide (0 ≤ x7_1) = true := decide_eq_true c8
     clear c8
     (first | rw [c8b0] | (simp only [i64_w, i32_w]; rw [c8b0]) | skip)
     have H' := Aside0.mk H
     clear H
     have p131 : 0 ≤ (x7_1 : Int) := of_decide_eq_true (by first | (with_reducible assumption) | assumption)
     have q131 : x7_1 < (l0.length : Int) := of_decide_eq_true (by first | (with_reducible assumption) | assumption)
     obtain ⟨ad131, e131, hx131_0⟩ := Kd.at_int HR0.out x7_1 p131 q131
     cases e131
     replace hx131_0 := (HB.out.cell (World.block_lt_of_cell? w _ hx131_0)).trans hx131_0
     replace p131 := eq_true p131
     replace q131 := eq_true q131
     go_wp2
     go_meet
     case rel => exact ⟨_, (decide ((rd l0 x7_1) ≥ a1)), (by first | rfl | (simp; done) | (simp [*]; done)), H', ⟨by have := HK1.out; first | omega | exact Nat.le_refl _⟩, ⟨by (with_reducible repeat (first | apply Kd.R_alloc | apply Kd.R_drewN | apply Kd.R_drew)); exact HO_5.out⟩, ⟨by repeat (first | (with_reducible first | exact HB.out | apply below_alloc | apply pw_below_drewN | apply below_drew1) | exact HB.out)⟩⟩
    case rest =>
     clear HC6
     try clear p1
     try clear q1
     try clear hx1
     try clear p2
     try clear c5
     try clear c5b0
     try clear c7
     try clear c8
     try clear c8b0
     try clear hx131_0
     try clear p131
     try clear p2
     try clear q131
     obtain ⟨kq, x24_5, rfl, HA, HJ5, HO_5, HB⟩ := hcut
     cases kq with
     | zero => exact absurd HA.out (by simp [spec_l00Put.j1])
     | succ kj5 =>
      have H := HA.out
      clear HA
      simp only [spec_l00Put.j1] at H
      by_cases c9 : x24_5 = true
      ·subst c9
       rw [if_pos rfl] at H
       by_cases c10 : 0 ≤ x7_1
       rotate_left
       ·rw [if_neg c10] at H
        exact absurd H (by simp)
       rw [if_pos c10] at H
       have c10b0 : decide (0 ≤ x7_1) = true := decide_eq_true c10
       clear c10
       by_cases c11 : x7_1 < (l0.length : Int)
       rotate_left
       ·rw [if_neg c11] at H
        exact absurd H (by simp)
       rw [if_pos c11] at H
       have c11b0 : decide (x7_1 < (l0.length : Int)) = true := decide_eq_true c11
       clear c11
       by_cases c12 : (rd l0 x7_1) > a1
       ·rw [if_pos c12] at H
        have c12b0 : decide (a1 < (rd l0 x7_1)) = true := decide_eq_true c12
        clear c12
        by_cases c13 : x5_1.length < 17592186044416
        rotate_left
        ·rw [if_neg c13] at H
         exact absurd H (by simp)
        rw [if_pos c13] at H
        have LMc13 := Aside0.mk c13
        clear c13
        obtain ⟨y133, hy133⟩ : ∃ y_ : List Int, y_ = (x5_1 ++ [a1]) := ⟨_, rfl⟩
        replace H : (if y133.length < 17592186044416 then (spec_l00Put.l0 kj5 l0 a1 (y133 ++ [rd l0 x7_1]) true (wrap64 (x7_1 + 1))) else (none)) = some r := by first | (rw [hy133]; with_reducible exact H) | (have H2_ := (Option.bind_some _ _).symm.trans H; rw [hy133]; with_reducible exact H2_) | (have H2_ := (Option.bind_some _ _).symm.trans H; with_reducible exact H2_) | with_reducible exact H | (rw [hy133]; exact H) | exact H
        have Ny133 := Aside0.mk hy133
        clear hy133
        by_cases c14 : y133.length < 17592186044416
        rotate_left
        ·rw [if_neg c14] at H
         exact absurd H (by simp)
        rw [if_pos c14] at H
        have LMc14 := Aside0.mk c14
        clear c14
        obtain ⟨y137, hy137⟩ : ∃ y_ : List Int, y_ = (y133 ++ [rd l0 x7_1]) := ⟨_, rfl⟩
        replace H : (spec_l00Put.l0 kj5 l0 a1 y137 true (wrap64 (x7_1 + 1))) = some r := by first | (rw [hy137]; with_reducible exact H) | (have H2_ := (Option.bind_some _ _).symm.trans H; rw [hy137]; with_reducible exact H2_) | (have H2_ := (Option.bind_some _ _).symm.trans H; with_reducible exact H2_) | with_reducible exact H | (rw [hy137]; exact H) | exact H
        have Ny137 := Aside0.mk hy137
        clear hy137
        have H' := Aside0.mk H
        clear H
        have p132 : 0 ≤ (x7_1 : Int) := of_decide_eq_true (by first | (with_reducible assumption) | assumption)
        have q132 : x7_1 < (l0.length : Int) := of_decide_eq_true (by first | (with_reducible assumption) | assumption)
        obtain ⟨ad132, e132, hx132_0⟩ := Kd.at_int HR0.out x7_1 p132 q132
        cases e132
        replace hx132_0 := (HB.out.cell (World.block_lt_of_cell? w _ hx132_0)).trans hx132_0
        replace p132 := eq_true p132
        replace q132 := eq_true q132
        go_wp2_with (first | ((with_reducible refine gate_builtin (b := .append) (xs := #[.tmp 31, .tmp 33]) rfl ?_); at_builtin; refine Kd.R_append (Kd.int .i64) (w0 := w) w.heap.size rfl (.tmp 31) (.tmp 33) 33 2 (.int .i64 0) 8 rfl Try.underlying33 info2 rfl (by decide) (by omega) u5 x5_1 a1 [.int .i64 a1] (fun _ => True) (fun _ => False) rfl rfl ?aP (fun _ hk => hk.elim) ?aF ?aO ?aB ?aS ?aL ?_; (case aP => exact rfl); (case aB => exact (by repeat (first | (with_reducible first | exact HB.out | apply below_alloc | apply pw_below_drewN | apply below_drew1) | exact HB.out))); (case aF => exact (fun _ _ => trivial)); (case aO => exact (by (with_reducible repeat (first | apply Kd.R_alloc | apply Kd.R_drewN | apply Kd.R_drew)); exact HO_5.out)); (case aS => exact (below_size (by repeat (first | (with_reducible first | exact HB.out | apply below_alloc | apply pw_below_drewN | apply below_drew1) | exact HB.out)))); (case aL => have := LMc13.out; omega); intro v134 w15 ho hb hg hat; rw [← Ny133.out] at ho; have n0_ := Aside0.mk (hb); have n1_ := Aside0.mk (ho); clear HB; clear HO_5; have HB := n0_; have HO135 := n1_; clear n0_ n1_; clear ho hb hg hat; have p136 : 0 ≤ (x7_1 : Int) := of_decide_eq_true (by first | (with_reducible assumption) | assumption); have q136 : x7_1 < (l0.length : Int) := of_decide_eq_true (by first | (with_reducible assumption) | assumption); obtain ⟨ad136, e136, hx136_0⟩ := Kd.at_int HR0.out x7_1 p136 q136; obtain rfl : ad132 = ad136 := (by injection e136); replace hx136_0 := (HB.out.cell (World.block_lt_of_cell? w _ hx136_0)).trans hx136_0; replace p136 := eq_true p136; replace q136 := eq_true q136) | ((with_reducible refine gate_builtin (b := .append) (xs := #[.tmp 35, .tmp 40]) rfl ?_); at_builtin; refine Kd.R_append (Kd.int .i64) (w0 := w) w.heap.size rfl (.tmp 35) (.tmp 40) 33 2 (.int .i64 0) 8 rfl Try.underlying33 info2 rfl (by decide) (by omega) v134 y133 (rd l0 x7_1) [.int .i64 (rd l0 x7_1)] (fun _ => True) (fun _ => False) rfl rfl ?aP (fun _ hk => hk.elim) ?aF ?aO ?aB ?aS ?aL ?_; (case aP => exact rfl); (case aB => exact (by repeat (first | (with_reducible first | exact HB.out | apply below_alloc | apply pw_below_drewN | apply below_drew1) | exact HB.out))); (case aF => exact (fun _ _ => trivial)); (case aO => exact (by (with_reducible repeat (first | apply Kd.R_alloc | apply Kd.R_drewN | apply Kd.R_drew)); exact HO135.out)); (case aS => exact (below_size (by repeat (first | (with_reducible first | exact HB.out | apply below_alloc | apply pw_below_drewN | apply below_drew1) | exact HB.out)))); (case aL => have := LMc14.out; omega); intro v138 w16 ho hb hg hat; rw [← Ny137.out] at ho; have n0_ := Aside0.mk (hb); have n1_ := Aside0.mk (ho); clear HB; clear HO135; have HB := n0_; have HO139 := n1_; clear n0_ n1_; clear ho hb hg hat))
        go_roundg kj5
        case measure => have := HK1.out; have := HJ5.out; omega
        case rel => exact ⟨(y137), (true), (wrap64 (x7_1 + 1)), (by first | rfl | (simp; done) | (simp [*]; done)), (by first | rfl | (simp; done) | (simp [*]; done)), H', ⟨by have := HK1.out; have := HJ5.out; omega⟩, ⟨by (with_reducible repeat (first | apply Kd.R_alloc | apply Kd.R_drewN | apply Kd.R_drew)); exact HO139.out⟩, ⟨by repeat (first | (with_reducible first | exact HB.out | apply below_alloc | apply pw_below_drewN | apply below_drew1) | exact HB.out)⟩⟩
       ·rw [if_neg c12] at H
        have c12b0 : decide (a1 < (rd l0 x7_1)) = false := decide_eq_false c12
        clear c12
        by_cases c17 : x5_1.length < 17592186044416
        rotate_left
        ·rw [if_neg c17] at H
         exact absurd H (by simp)
        rw [if_pos c17] at H
        have LMc17 := Aside0.mk c17
        clear c17
        obtain ⟨y141, hy141⟩ : ∃ y_ : List Int, y_ = (x5_1 ++ [rd l0 x7_1]) := ⟨_, rfl⟩
        replace H : (spec_l00Put.l0 kj5 l0 a1 y141 true (wrap64 (x7_1 + 1))) = some r := by first | (rw [hy141]; with_reducible exact H) | (have H2_ := (Option.bind_some _ _).symm.trans H; rw [hy141]; with_reducible exact H2_) | (have H2_ := (Option.bind_some _ _).symm.trans H; with_reducible exact H2_) | with_reducible exact H | (rw [hy141]; exact H) | exact H
        have Ny141 := Aside0.mk hy141
        clear hy141
        have H' := Aside0.mk H
        clear H
        have p132 : 0 ≤ (x7_1 : Int) := of_decide_eq_true (by first | (with_reducible assumption) | assumption)
        have q132 : x7_1 < (l0.length : Int) := of_decide_eq_true (by first | (with_reducible assumption) | assumption)
        obtain ⟨ad132, e132, hx132_0⟩ := Kd.at_int HR0.out x7_1 p132 q132
        cases e132
        replace hx132_0 := (HB.out.cell (World.block_lt_of_cell? w _ hx132_0)).trans hx132_0
        replace p132 := eq_true p132
        replace q132 := eq_true q132
        have p140 : 0 ≤ (x7_1 : Int) := of_decide_eq_true (by first | (with_reducible assumption) | assumption)
        have q140 : x7_1 < (l0.length : Int) := of_decide_eq_true (by first | (with_reducible assumption) | assumption)
        obtain ⟨ad140, e140, hx140_0⟩ := Kd.at_int HR0.out x7_1 p140 q140
        obtain rfl : ad132 = ad140 := (by injection e140)
        replace hx140_0 := (HB.out.cell (World.block_lt_of_cell? w _ hx140_0)).trans hx140_0
        replace p140 := eq_true p140
        replace q140 := eq_true q140
        go_wp2_with (first | ((with_reducible refine gate_builtin (b := .append) (xs := #[.tmp 35, .tmp 40]) rfl ?_); at_builtin; refine Kd.R_append (Kd.int .i64) (w0 := w) w.heap.size rfl (.tmp 35) (.tmp 40) 33 2 (.int .i64 0) 8 rfl Try.underlying33 info2 rfl (by decide) (by omega) u5 x5_1 (rd l0 x7_1) [.int .i64 (rd l0 x7_1)] (fun _ => True) (fun _ => False) rfl rfl ?aP (fun _ hk => hk.elim) ?aF ?aO ?aB ?aS ?aL ?_; (case aP => exact rfl); (case aB => exact (by repeat (first | (with_reducible first | exact HB.out | apply below_alloc | apply pw_below_drewN | apply below_drew1) | exact HB.out))); (case aF => exact (fun _ _ => trivial)); (case aO => exact (by (with_reducible repeat (first | apply Kd.R_alloc | apply Kd.R_drewN | apply Kd.R_drew)); exact HO_5.out)); (case aS => exact (below_size (by repeat (first | (with_reducible first | exact HB.out | apply below_alloc | apply pw_below_drewN | apply below_drew1) | exact HB.out)))); (case aL => have := LMc17.out; omega); intro v142 w18 ho hb hg hat; rw [← Ny141.out] at ho; have n0_ := Aside0.mk (hb); have n1_ := Aside0.mk (ho); clear HB; clear HO_5; have HB := n0_; have HO143 := n1_; clear n0_ n1_; clear ho hb hg hat))
        go_roundg kj5
        case measure => have := HK1.out; have := HJ5.out; omega
        case rel => exact ⟨(y141), (true), (wrap64 (x7_1 + 1)), (by first | rfl | (simp; done) | (simp [*]; done)), (by first | rfl | (simp; done) | (simp [*]; done)), H', ⟨by have := HK1.out; have := HJ5.out; omega⟩, ⟨by (with_reducible repeat (first | apply Kd.R_alloc | apply Kd.R_drewN | apply Kd.R_drew)); exact HO143.out⟩, ⟨by repeat (first | (with_reducible first | exact HB.out | apply below_alloc | apply pw_below_drewN | apply below_drew1) | exact HB.out)⟩⟩
      ·replace c9 := Bool.eq_false_iff.mpr c9
       subst c9
       rw [if_neg (show ¬ (false = true) by decide)] at H
       by_cases c19 : 0 ≤ x7_1
       rotate_left
       ·rw [if_neg c19] at H
        exact absurd H (by simp)
       rw [if_pos c19] at H
       have c19b0 : decide (0 ≤ x7_1) = true := decide_eq_true c19
       clear c19
       by_cases c20 : x7_1 < (l0.length : Int)
       rotate_left
       ·rw [if_neg c20] at H
        exact absurd H (by simp)
       rw [if_pos c20] at H
       have c20b0 : decide (x7_1 < (l0.length : Int)) = true := decide_eq_true c20
       clear c20
       by_cases c21 : x5_1.length < 17592186044416
       rotate_left
       ·rw [if_neg c21] at H
        exact absurd H (by simp)
       rw [if_pos c21] at H
       have LMc21 := Aside0.mk c21
       clear c21
       obtain ⟨y145, hy145⟩ : ∃ y_ : List Int, y_ = (x5_1 ++ [rd l0 x7_1]) := ⟨_, rfl⟩
       replace H : (spec_l00Put.l0 kj5 l0 a1 y145 x6_1 (wrap64 (x7_1 + 1))) = some r := by first | (rw [hy145]; with_reducible exact H) | (have H2_ := (Option.bind_some _ _).symm.trans H; rw [hy145]; with_reducible exact H2_) | (have H2_ := (Option.bind_some _ _).symm.trans H; with_reducible exact H2_) | with_reducible exact H | (rw [hy145]; exact H) | exact H
       have Ny145 := Aside0.mk hy145
       clear hy145
       have H' := Aside0.mk H
       clear H
       have p144 : 0 ≤ (x7_1 : Int) := of_decide_eq_true (by first | (with_reducible assumption) | assumption)
       have q144 : x7_1 < (l0.length : Int) := of_decide_eq_true (by first | (with_reducible assumption) | assumption)
       obtain ⟨ad144, e144, hx144_0⟩ := Kd.at_int HR0.out x7_1 p144 q144
       cases e144
       replace hx144_0 := (HB.out.cell (World.block_lt_of_cell? w _ hx144_0)).trans hx144_0
       replace p144 := eq_true p144
       replace q144 := eq_true q144
       go_wp2_with (first | ((with_reducible refine gate_builtin (b := .append) (xs := #[.tmp 35, .tmp 40]) rfl ?_); at_builtin; refine Kd.R_append (Kd.int .i64) (w0 := w) w.heap.size rfl (.tmp 35) (.tmp 40) 33 2 (.int .i64 0) 8 rfl Try.underlying33 info2 rfl (by decide) (by omega) u5 x5_1 (rd l0 x7_1) [.int .i64 (rd l0 x7_1)] (fun _ => True) (fun _ => False) rfl rfl ?aP (fun _ hk => hk.elim) ?aF ?aO ?aB ?aS ?aL ?_; (case aP => exact rfl); (case aB => exact (by repeat (first | (with_reducible first | exact HB.out | apply below_alloc | apply pw_below_drewN | apply below_drew1) | exact HB.out))); (case aF => exact (fun _ _ => trivial)); (case aO => exact (by (with_reducible repeat (first | apply Kd.R_alloc | apply Kd.R_drewN | apply Kd.R_drew)); exact HO_5.out)); (case aS => exact (below_size (by repeat (first | (with_reducible first | exact HB.out | apply below_alloc | apply pw_below_drewN | apply below_drew1) | exact HB.out)))); (case aL => have := LMc21.out; omega); intro v146 w22 ho hb hg hat; rw [← Ny145.out] at ho; have n0_ := Aside0.mk (hb); have n1_ := Aside0.mk (ho); clear HB; clear HO_5; have HB := n0_; have HO147 := n1_; clear n0_ n1_; clear ho hb hg hat))
       go_roundg kj5
       case measure => have := HK1.out; have := HJ5.out; omega
       case rel => exact ⟨(y145), (x6_1), (wrap64 (x7_1 + 1)), (by first | rfl | (simp; done) | (simp [*]; done)), (by first | rfl | (simp; done) | (simp [*]; done)), H', ⟨by have := HK1.out; have := HJ5.out; omega⟩, ⟨by (with_reducible repeat (first | apply Kd.R_alloc | apply Kd.R_drewN | apply Kd.R_drew)); exact HO147.out⟩, ⟨by repeat (first | (with_reducible first | exact HB.out | apply below_alloc | apply pw_below_drewN | apply below_drew1) | exact HB.out)⟩⟩
   ·rw [if_neg c5] at H
    have c5b0 : decide (x7_1 < (l0.length : Int)) = false := decide_eq_false c5
    clear c5
    by_cases c23 : x6_1 = true
    ·subst c23
     rw [if_pos rfl] at H
     obtain rfl := Option.some.inj H
     go_wp2
     go_ret
     exact ⟨_, by first | rfl | (simp [errW_none, errW_some] <;> rfl) | (simp [*, errW_none, errW_some] <;> rfl), by (with_reducible repeat (first | apply Kd.R_alloc | apply Kd.R_drewN | apply Kd.R_drew)); exact HO_5.out, by repeat (first | (with_reducible first | exact HB.out | apply below_alloc | apply pw_below_drewN | apply below_drew1) | exact HB.out)⟩
    replace c23 := Bool.eq_false_iff.mpr c23
    subst c23
    rw [if_neg (show ¬ (false = true) by decide)] at H
    by_cases c24 : x5_1.length < 17592186044416
    rotate_left
    ·rw [if_neg c24] at H
     exact absurd H (by simp)

    rw [if_pos c24] at H
    have LMc24 := Aside0.mk c24
    clear c24
    obtain ⟨y128, hy128⟩ : ∃ y_ : List Int, y_ = (x5_1 ++ [a1]) := ⟨_, rfl⟩
    replace H : (some y128) = some r := by first | (rw [hy128]; with_reducible exact H) | (have H2_ := (Option.bind_some _ _).symm.trans H; rw [hy128]; with_reducible exact H2_) | (have H2_ := (Option.bind_some _ _).symm.trans H; with_reducible exact H2_) | with_reducible exact H | (rw [hy128]; exact H) | exact H
    have Ny128 := Aside0.mk hy128
    clear hy128
    obtain rfl := Option.some.inj H
    go_wp2_with (first | ((with_reducible refine gate_builtin (b := .append) (xs := #[.tmp 44, .tmp 46]) rfl ?_); at_builtin; refine Kd.R_append (Kd.int .i64) (w0 := w) w.heap.size rfl (.tmp 44) (.tmp 46) 33 2 (.int .i64 0) 8 rfl Try.underlying33 info2 rfl (by decide) (by omega) u5 x5_1 a1 [.int .i64 a1] (fun _ => True) (fun _ => False) rfl rfl ?aP (fun _ hk => hk.elim) ?aF ?aO ?aB ?aS ?aL ?_; (case aP => exact rfl); (case aB => exact (by repeat (first | (with_reducible first | exact HB.out | apply below_alloc | apply pw_below_drewN | apply below_drew1) | exact HB.out))); (case aF => exact (fun _ _ => trivial)); (case aO => exact (by (with_reducible repeat (first | apply Kd.R_alloc | apply Kd.R_drewN | apply Kd.R_drew)); exact HO_5.out)); (case aS => exact (below_size (by repeat (first | (with_reducible first | exact HB.out | apply below_alloc | apply pw_below_drewN | apply below_drew1) | exact HB.out)))); (case aL => have := LMc24.out; omega); intro v129 w25 ho hb hg hat; rw [← Ny128.out] at ho; have n0_ := Aside0.mk (hb); have n1_ := Aside0.mk (ho); clear HB; clear HO_5; have HB := n0_; have HO130 := n1_; clear n0_ n1_; clear ho hb hg hat))
    go_ret
    exact ⟨_, by first | rfl | (simp [errW_none, errW_some] <;> rfl) | (simp [*, errW_none, errW_some] <;> rfl), by (with_reducible repeat (first | apply Kd.R_alloc | apply Kd.R_drewN | apply Kd.R_drew)); exact HO130.out, by repeat (first | (with_reducible first | exact HB.out | apply below_alloc | apply pw_below_drewN | apply below_drew1) | exact HB.out)⟩
/-! ### spec_l03Outputs: function 78 -/
def spec_l03Outputs.l0 : Nat → List (S58) → List Int → Int → Option (List Int)
 | 0, _, _, _ => none
 | k + 1, x0, x3, x4 => if x4 < (x0.length : Int) then (if 0 ≤ x4 then ((spec_l00Put.f k x3 ((rd_T58 x0 x4).f1)).bind fun t152 => (spec_l03Outputs.l0 k x0 t152 (wrap64 (x4 + 1)))) else (none)) else (some x3)
def spec_l03Outputs.f (k : Nat) (l0 : List (S58)) : Option (List Int) := spec_l03Outputs.l0 k l0 (([] : List Int)) 0
theorem spec_l03Outputs.mono_l : ∀ k, (∀ y0 y1 y2, LeO (spec_l03Outputs.l0 k y0 y1 y2) (spec_l03Outputs.l0 (k + 1) y0 y1 y2))
 | 0 => fun _ _ _ r h => by simp [spec_l03Outputs.l0] at h
 | k + 1 => by
  have ih0 := spec_l03Outputs.mono_l k
  ·intro y0 y1 y2
   unfold spec_l03Outputs.l0
   repeat' first
   | (with_reducible exact ih0 _ _ _)
   | (with_reducible exact spec_l00Put.mono _ _ _)
   | (with_reducible exact LeO.refl _)
   | (with_reducible exact LeO.none _)
   | (with_reducible refine LeO.ite ?_ ?_)
   | (with_reducible refine LeO.bind ?_ (fun _ => ?_))
   | exact ih0 _ _ _
   | exact spec_l00Put.mono _ _ _
   | exact LeO.none _
   | refine LeO.ite ?_ ?_
   | refine LeO.bind ?_ (fun _ => ?_)
theorem spec_l03Outputs.mono : ∀ a0 k, LeO (spec_l03Outputs.f k a0) (spec_l03Outputs.f (k + 1) a0) := by
 intro a0 k
 have ih0 := spec_l03Outputs.mono_l k
 unfold spec_l03Outputs.f
 repeat' first
   | (with_reducible exact ih0 _ _ _)
   | (with_reducible exact spec_l00Put.mono _ _ _)
   | (with_reducible exact LeO.refl _)
   | (with_reducible exact LeO.none _)
   | (with_reducible refine LeO.ite ?_ ?_)
   | (with_reducible refine LeO.bind ?_ (fun _ => ?_))
   | exact ih0 _ _ _
   | exact spec_l00Put.mono _ _ _
   | exact LeO.none _
   | refine LeO.ite ?_ ?_
   | refine LeO.bind ?_ (fun _ => ?_)
set_option maxHeartbeats 8000000 in
set_option maxRecDepth 100000 in
theorem spec_l03Outputs.calls (k : Nat) (A0 : Option Addr) (c0 : Nat) (l0 : List (S58)) (r : List Int) (w : World) (hr0 : Kd.C k58 w A0 l0.length l0) (hc0 : l0.length ≤ c0) (h : spec_l03Outputs.f k l0 = some r) :
  Calls Try.prog 78 #[.slice A0 l0.length c0] w fun e w' => ∃ v0_ : Value, e = .returned (v0_) ∧ Kd.R (Kd.int .i64) 2 w' w.heap.size (fun _ => True) v0_ r ∧ Below w.heap.size w w' := by
 have HR0 := Aside0.mk hr0
 have HC0 := Aside0.mk hc0
 clear hr0 hc0
 have HB := Aside0.mk (Below.refl w.heap.size w)
 have H : (spec_l03Outputs.l0 k l0 (([] : List Int)) 0) = some r := h
 clear h
 obtain ⟨y148, hy148⟩ : ∃ y_ : List Int, y_ = (([] : List Int)) := ⟨_, rfl⟩
 replace H : (spec_l03Outputs.l0 k l0 y148 0) = some r := by first | (rw [hy148]; with_reducible exact H) | (have H2_ := (Option.bind_some _ _).symm.trans H; rw [hy148]; with_reducible exact H2_) | (have H2_ := (Option.bind_some _ _).symm.trans H; with_reducible exact H2_) | with_reducible exact H | (rw [hy148]; exact H) | exact H
 have Ny148 := Aside0.mk hy148
 clear hy148
 have H' := Aside0.mk H
 clear H
 go_enter Try.func78, Try.ntmps78
 go_wp2_with (first | ((with_reducible refine gate_dst (N := 5) rfl ?_); refine Kd.R_lit (Kd.int .i64) _ 2 ?hg (N := 5) ?hd (xs := ([] : List Int)) (inner := []) (ok := fun _ => True) (okp := fun _ => True) ?hr ?hp (fun _ hk => hk) trivial (Below.refl _ _) (Nat.le_refl _) (by simp) ?_; (case hd => rfl); (case hg => rfl); (case hr => first | (go_simp; done) | (go_simp; rfl)); (case hp => exact (Reps.none _ _)); intro v149 w2 ho3 hb hg_ hnew_; clear hg_ hnew_; (first | rw [← Ny148.out] at ho3 | (simp only [Int.reduceToNat] at ho3; rw [← Ny148.out] at ho3)); have n0_ := Aside0.mk (Kd.R_lower ho3 (below_size (by repeat (first | (with_reducible first | exact HB.out | apply below_alloc | apply pw_below_drewN | apply below_drew1) | exact HB.out)))); have n1_ := Aside0.mk (below_step (by repeat (first | (with_reducible first | exact HB.out | apply below_alloc | apply pw_below_drewN | apply below_drew1) | exact HB.out)) hb); clear HB; have HO150 := n0_; have HB := n1_; clear n0_ n1_; clear hb ho3))
 go_loopg [3, 4] k (fun kq v3 v4 w' => ∃ (x3_1 : List Int) (x4_1 : Int), v4 = .int .i64 x4_1 ∧ Aside0 (spec_l03Outputs.l0 kq l0 x3_1 x4_1 = some r) ∧ Aside0 (kq ≤ k) ∧ Aside0 (Kd.R (Kd.int .i64) 2 w' w.heap.size (fun _ => True) v3 x3_1) ∧ Aside0 (Below w.heap.size w w'))
 case atStart => exact ⟨(y148), (0), (by first | rfl | (simp; done) | (simp [*]; done)), H', ⟨Nat.le_refl _⟩, ⟨by (with_reducible repeat (first | apply Kd.R_alloc | apply Kd.R_drewN | apply Kd.R_drew)); exact HO150.out⟩, ⟨by repeat (first | (with_reducible first | exact HB.out | apply below_alloc | apply pw_below_drewN | apply below_drew1) | exact HB.out)⟩⟩
 case round =>
  clear H'
  try clear p2
  obtain ⟨x3_1, x4_1, rfl, HA, HK1, HO_3, HB⟩ := hrel
  cases gk with
  | zero => exact absurd HA.out (by simp [spec_l03Outputs.l0])
  | succ k1 =>
   have H := HA.out
   clear HA
   simp only [spec_l03Outputs.l0] at H
   by_cases c4 : x4_1 < (l0.length : Int)
   rotate_left
   ·rw [if_neg c4] at H
    have c4b0 : decide (x4_1 < (l0.length : Int)) = false := decide_eq_false c4
    clear c4
    obtain rfl := Option.some.inj H
    go_wp2
    go_ret
    exact ⟨_, by first | rfl | (simp [errW_none, errW_some] <;> rfl) | (simp [*, errW_none, errW_some] <;> rfl), by (with_reducible repeat (first | apply Kd.R_alloc | apply Kd.R_drewN | apply Kd.R_drew)); exact HO_3.out, by repeat (first | (with_reducible first | exact HB.out | apply below_alloc | apply pw_below_drewN | apply below_drew1) | exact HB.out)⟩

   rw [if_pos c4] at H
   have c4b0 : decide (x4_1 < (l0.length : Int)) = true := decide_eq_true c4
   clear c4
   by_cases c5 : 0 ≤ x4_1
   rotate_left
   ·rw [if_neg c5] at H
    exact absurd H (by simp)
   rw [if_pos c5] at H
   have c5b0 : decide (0 ≤ x4_1) = true := decide_eq_true c5
   clear c5
   replace H := Option.bind_eq_some_iff.mp H
   obtain ⟨t152, A60, H⟩ := H
   try dsimp only at H
   have A6 := Aside0.mk A60
   clear A60
   have H' := Aside0.mk H
   clear H
   have p151 : 0 ≤ (x4_1 : Int) := of_decide_eq_true (by first | (with_reducible assumption) | assumption)
   have q151 : x4_1 < (l0.length : Int) := of_decide_eq_true (by first | (with_reducible assumption) | assumption)
   obtain ⟨ad151, e151, hx151_0, hx151_1, hx151_2, hx151_3⟩ := at_T58 HR0.out x4_1 p151 q151
   cases e151
   replace hx151_0 := (HB.out.cell (World.block_lt_of_cell? w _ hx151_0)).trans hx151_0
   replace hx151_1 := (HB.out.cell (World.block_lt_of_cell? w _ hx151_1)).trans hx151_1
   replace hx151_2 := (HB.out.cell (World.block_lt_of_cell? w _ hx151_2)).trans hx151_2
   replace hx151_3 := (HB.out.cell (World.block_lt_of_cell? w _ hx151_3)).trans hx151_3
   replace p151 := eq_true p151
   replace q151 := eq_true q151
   obtain ⟨Ao7, co7, eo7⟩ := Kd.R_slice HO_3.out
   subst eo7
   go_wp2_with (first | ((with_reducible refine gate_callee (f := 84) rfl ?_); refine goesL_ (some 18) rfl rfl Try.func84 (by kernel_rfl) rfl #[.slice Ao7 x3_1.length co7, .int .i64 ((rd_T58 l0 x4_1).f1)] rfl (by (try simp only [List.map_toArray, List.map_cons, List.map_nil]); first | done | rfl | (simp only [List.length_drop, List.length_take]; rfl)) ?_; (with_reducible refine (spec_l00Put.calls k1 _ _ x3_1 ((rd_T58 l0 x4_1).f1) t152 _ ?side1 ?side2 A6.out).mono ?_); (case side1 => repeat (first | exact (Kd.R_reads' HO_3.out).2.2 | (with_reducible refine Kd.C_alloc ?_ _) | (with_reducible refine Kd.C_drewN ?_ _) | (with_reducible refine Kd.C_drew ?_))); (case side2 => exact (Kd.R_reads' HO_3.out).2.1); rintro e w8 ⟨v153, rfl, ho0, hb⟩; refine ⟨_, rfl, ?_⟩; have n0_ := Aside0.mk (Kd.R_elder' (by (with_reducible repeat (first | apply Kd.R_alloc | apply Kd.R_drewN | apply Kd.R_drew)); exact HO_3.out) (Kd.R_base ho0) hb); have n1_ := Aside0.mk (Kd.R_lower (Kd.R_new' ho0 (Kd.R_lt (by (with_reducible repeat (first | apply Kd.R_alloc | apply Kd.R_drewN | apply Kd.R_drew)); exact HO_3.out))) (below_size (by repeat (first | (with_reducible first | exact HB.out | apply below_alloc | apply pw_below_drewN | apply below_drew1) | exact HB.out)))); have n2_ := Aside0.mk (below_step (by repeat (first | (with_reducible first | exact HB.out | apply below_alloc | apply pw_below_drewN | apply below_drew1) | exact HB.out)) hb); clear HO_3; clear HB; have HO_3 := n0_; have HO154 := n1_; have HB := n2_; clear n0_ n1_ n2_; (try clear hb); (try clear hb2); (try clear hk); (try clear hi); (try clear ho0)))
   go_roundg k1
   case measure => have := HK1.out; omega
   case rel => exact ⟨(t152), (wrap64 (x4_1 + 1)), (by first | rfl | (simp; done) | (simp [*]; done)), H', ⟨by have := HK1.out; omega⟩, ⟨by (with_reducible repeat (first | apply Kd.R_alloc | apply Kd.R_drewN | apply Kd.R_drew)); exact Kd.R_mono HO154.out (fun _ hk => trivial)⟩, ⟨by repeat (first | (with_reducible first | exact HB.out | apply below_alloc | apply pw_below_drewN | apply below_drew1) | exact HB.out)⟩⟩
/-! ### impl_IsCommutative: function 81 -/
def impl_IsCommutative.f (a0 : Int) : Option (Bool) := if a0 = 0 then (some true) else (if a0 = 14 then (some true) else ((impl_within.f a0 2 11).bind fun t155 => (some t155)))
set_option maxHeartbeats 8000000 in
set_option maxRecDepth 100000 in
theorem impl_IsCommutative.calls (a0 : Int) (r : Bool) (w : World) (h : impl_IsCommutative.f a0 = some r) :
  Calls Try.prog 81 #[.int .i64 a0] w fun e w' => e = .returned (.bool r) ∧ Drawn0 w w' := by
 have H : (if a0 = 0 then (some true) else (if a0 = 14 then (some true) else ((impl_within.f a0 2 11).bind fun t155 => (some t155)))) = some r := h
 clear h
 by_cases c2 : a0 = 0
 ·rw [if_pos c2] at H
  have c2b0 : (a0 == 0) = true := beq_iff_eq.mpr c2
  have c2b1 : (a0 != 0) = false := bne_eq_false_iff_eq.mpr c2
  clear c2
  obtain rfl := Option.some.inj H
  go_enter Try.func81, Try.ntmps81
  go_wp2
  go_ret
  exact ⟨by first | rfl | (simp; done) | (simp [*]; done), by repeat (first | exact Drawn0.refl _ | apply Drawn0.step)⟩
 rw [if_neg c2] at H
 have c2b0 : (a0 == 0) = false := beq_eq_false_iff_ne.mpr c2
 have c2b1 : (a0 != 0) = true := bne_iff_ne.mpr c2
 by_cases c3 : a0 = 14
 ·rw [if_pos c3] at H
  have c3b0 : (a0 == 14) = true := beq_iff_eq.mpr c3
  have c3b1 : (a0 != 14) = false := bne_eq_false_iff_eq.mpr c3
  clear c3
  obtain rfl := Option.some.inj H
  go_enter Try.func81, Try.ntmps81
  go_wp2
  go_ret
  exact ⟨by first | rfl | (simp; done) | (simp [*]; done), by repeat (first | exact Drawn0.refl _ | apply Drawn0.step)⟩
 rw [if_neg c3] at H
 have c3b0 : (a0 == 14) = false := beq_eq_false_iff_ne.mpr c3
 have c3b1 : (a0 != 14) = true := bne_iff_ne.mpr c3
 replace H := Option.bind_eq_some_iff.mp H
 obtain ⟨t155, A40, H⟩ := H
 try dsimp only at H
 have A4 := Aside0.mk A40
 clear A40
 obtain rfl := Option.some.inj H
 go_enter Try.func81, Try.ntmps81
 go_wp2_with (first | (go_at_call 100; (with_reducible refine (impl_within.calls a0 2 11 t155 _ A4.out).mono ?_); rintro e w' ⟨rfl, ⟨nd, rfl⟩⟩))
 go_ret
 exact ⟨by first | rfl | (simp; done) | (simp [*]; done), by repeat (first | exact Drawn0.refl _ | apply Drawn0.step)⟩
theorem iComm (op : Int) : impl_IsCommutative.f op = some (decide (op = 0 ∨ op = 14 ∨ (2 ≤ op ∧ op ≤ 11))) := by
 unfold impl_IsCommutative.f
 by_cases h : op = 0
 ·simp [h]
 by_cases h2 : op = 14
 ·simp [h2]
 simp [h, h2, iIn]

/-! ### impl_ValueNumbers: function 44 -/
/-- The test of code. -/
def vOk (l : List S58) : Bool := decide (l.length ≤ 16) && (List.range l.length).all fun (j : Nat) => stOk (rd_T58 l (j : Int))
theorem vOk_len {l : List S58} (h : vOk l = true) : l.length ≤ 16 := by
 unfold vOk at h
 rw [Bool.and_eq_true] at h
 exact of_decide_eq_true h.1
theorem cellB_iff {n : Int} : cellB n = true ↔ 0 ≤ n ∧ n ≤ 31 := by unfold cellB; exact decide_eq_true_iff
theorem vOk_at {l : List S58} (h : vOk l = true) {j : Nat} (hj : j < l.length) : OpOk (rd_T58 l (j : Int)).f0 ∧ (0 ≤ (rd_T58 l (j : Int)).f1 ∧ (rd_T58 l (j : Int)).f1 ≤ 31) ∧ (0 ≤ (rd_T58 l (j : Int)).f2 ∧ (rd_T58 l (j : Int)).f2 ≤ 31) ∧ (0 ≤ (rd_T58 l (j : Int)).f3 ∧ (rd_T58 l (j : Int)).f3 ≤ 31) := by
 unfold vOk at h
 rw [Bool.and_eq_true, List.all_eq_true] at h
 have := h.2 j (List.mem_range.mpr hj)
 unfold stOk at this
 simp only [Bool.and_eq_true] at this
 exact ⟨of_decide_eq_true this.1, cellB_iff.mp this.2.1, cellB_iff.mp this.2.2.1, cellB_iff.mp this.2.2.2⟩
def comI (op : Int) : Bool := decide (op = 0 ∨ op = 14 ∨ (2 ≤ op ∧ op ≤ 11))
theorem iCom (op : Int) : impl_IsCommutative.f op = some (comI op) := by
 unfold impl_IsCommutative.f comI
 by_cases h0 : op = 0
 ·rw [if_pos h0, decide_eq_true (Or.inl h0)]
 rw [if_neg h0]
 by_cases h1 : op = 14
 ·rw [if_pos h1, decide_eq_true (Or.inr (Or.inl h1))]
 rw [if_neg h1]
 unfold impl_within.f
 by_cases h2 : op ≥ 2
 ·simp [h0, h1, h2]
 simp [h0, h1, h2]
/-- What a statement's value is known by. -/
def vkey (V : List Int) (s : S58) : Int × Int × Int := if comI s.f0 = true then (s.f0, mn (rd V s.f2) (rd V s.f3), mx (rd V s.f2) (rd V s.f3)) else (s.f0, rd V s.f2, rd V s.f3)
/-- The cells' values, the keys, and the numbers given, behind x statements. -/
def vn (l : List S58) : Nat → List Int × List (Int × Int × Int) × List Int
 | 0 => ((List.range 32).map fun (j : Nat) => (j : Int), [], [])
 | x + 1 => ((vn l x).1.set (rd_T58 l (x : Int)).f1.toNat (32 + ((vn l x).2.1.idxOf (vkey (vn l x).1 (rd_T58 l (x : Int))) : Int)), if vkey (vn l x).1 (rd_T58 l (x : Int)) ∈ (vn l x).2.1 then (vn l x).2.1 else (vn l x).2.1 ++ [vkey (vn l x).1 (rd_T58 l (x : Int))], (vn l x).2.2 ++ [32 + ((vn l x).2.1.idxOf (vkey (vn l x).1 (rd_T58 l (x : Int))) : Int)])
def impl_ValueNumbers.f (_k : Nat) (l0 : List (S58)) : Option (List Int × Bool) := some (if vOk l0 = true then ((vn l0 l0.length).2.2, true) else ([], false))
theorem impl_ValueNumbers.mono : ∀ a0 k, LeO (impl_ValueNumbers.f k a0) (impl_ValueNumbers.f (k + 1) a0) := fun _ _ => LeO.refl _
/-- What stands behind x statements of valid code: the keys differ and are small, all numbers are small. -/
def VnOk (st : List Int × List (Int × Int × Int) × List Int) (x : Nat) : Prop := st.2.1.Nodup ∧ (∀ k ∈ st.2.1, KOk k) ∧ st.2.1.length ≤ x ∧ st.2.2.length = x ∧ st.1.length = 32 ∧ ∀ v ∈ st.1, 0 ≤ v ∧ v ≤ 32 + (x : Int)
theorem VnOk.nd {st : List Int × List (Int × Int × Int) × List Int} {x : Nat} (h : VnOk st x) : st.2.1.Nodup := h.1
theorem VnOk.ok {st : List Int × List (Int × Int × Int) × List Int} {x : Nat} (h : VnOk st x) : ∀ k ∈ st.2.1, KOk k := h.2.1
theorem VnOk.len {st : List Int × List (Int × Int × Int) × List Int} {x : Nat} (h : VnOk st x) : st.2.1.length ≤ x := h.2.2.1
theorem VnOk.out {st : List Int × List (Int × Int × Int) × List Int} {x : Nat} (h : VnOk st x) : st.2.2.length = x := h.2.2.2.1
theorem VnOk.n32 {st : List Int × List (Int × Int × Int) × List Int} {x : Nat} (h : VnOk st x) : st.1.length = 32 := h.2.2.2.2.1
theorem VnOk.val {st : List Int × List (Int × Int × Int) × List Int} {x : Nat} (h : VnOk st x) : ∀ v ∈ st.1, 0 ≤ v ∧ v ≤ 32 + (x : Int) := h.2.2.2.2.2
theorem rd_in {V : List Int} (h : V.length = 32) {i : Int} (h0 : 0 ≤ i) (h1 : i ≤ 31) : rd V i ∈ V := by
 unfold rd
 rw [List.getD_eq_getElem?_getD, List.getElem?_eq_getElem (by omega), Option.getD_some]
 exact List.getElem_mem _
theorem vkey_ok {V : List Int} {s : S58} {x : Nat} (hn : V.length = 32) (hv : ∀ v ∈ V, 0 ≤ v ∧ v ≤ 32 + (x : Int)) (hx : x ≤ 16) (h0 : 0 ≤ s.f0 ∧ s.f0 ≤ 17) (h2 : 0 ≤ s.f2 ∧ s.f2 ≤ 31) (h3 : 0 ≤ s.f3 ∧ s.f3 ≤ 31) : KOk (vkey V s) := by
 have a := hv _ (rd_in hn h2.1 h2.2)
 have b := hv _ (rd_in hn h3.1 h3.2)
 unfold vkey
 split
 ·refine ⟨⟨by show _ ≤ s.f0; omega, by show s.f0 ≤ _; omega⟩, ⟨?_, ?_⟩, ⟨?_, ?_⟩⟩ <;> simp only [mn, mx] <;> split <;> omega
 ·exact ⟨⟨by show _ ≤ s.f0; omega, by show s.f0 ≤ _; omega⟩, ⟨by show _ ≤ rd V s.f2; omega, by show rd V s.f2 ≤ _; omega⟩, ⟨by show _ ≤ rd V s.f3; omega, by show rd V s.f3 ≤ _; omega⟩⟩
theorem vn_ok {l : List S58} (hx : vOk l = true) : ∀ x, x ≤ l.length → VnOk (vn l x) x
 | 0, _ => by
  unfold VnOk
  exact ⟨List.nodup_nil, fun k hk => absurd hk (by simp [vn]), by simp [vn], rfl, by simp [vn], fun v hv => by
   simp only [vn, List.mem_map, List.mem_range] at hv
   obtain ⟨j, hj, rfl⟩ := hv
   omega⟩
 | x + 1, h => by
  have ih := vn_ok hx x (by omega)
  have h16 := vOk_len hx
  obtain ⟨⟨o0, o1⟩, ⟨d0, d1⟩, ⟨a0, a1⟩, b0, b1⟩ := vOk_at hx (by omega : x < l.length)
  have hk := vkey_ok ih.n32 ih.val (by omega) ⟨o0, o1⟩ ⟨a0, a1⟩ ⟨b0, b1⟩
  have hi : (vn l x).2.1.idxOf (vkey (vn l x).1 (rd_T58 l (x : Int))) ≤ (vn l x).2.1.length := List.idxOf_le_length
  have hlen := ih.len
  unfold VnOk
  refine ⟨?_, ?_, ?_, ?_, ?_, ?_⟩
  ·simp only [vn]
   split
   ·exact ih.nd
   ·rename_i hm
    rw [List.nodup_append]
    exact ⟨ih.nd, by simp, fun a ha b hb => by rw [List.mem_singleton.mp hb]; exact fun e => hm (e ▸ ha)⟩
  ·simp only [vn]
   split
   ·exact ih.ok
   ·intro k hk2
    rcases List.mem_append.mp hk2 with h | h
    ·exact ih.ok k h
    ·rw [List.mem_singleton.mp h]; exact hk
  ·simp only [vn]
   split
   ·omega
   ·rw [List.length_append]; show _ + 1 ≤ _; omega
  ·simp only [vn]
   rw [List.length_append, ih.out]; rfl
  ·simp only [vn]
   rw [List.length_set]; exact ih.n32
  ·intro v hv
   simp only [vn] at hv
   rcases List.mem_or_eq_of_mem_set hv with h | h
   ·have := ih.val v h; omega
   ·rw [h]; omega
/-- The first x cells hold their own numbers. -/
def itl (x : Nat) : List Int := (List.range 32).map fun (j : Nat) => if j < x then (j : Int) else 0
theorem itl_zero : List.replicate 32 (0 : Int) = itl 0 := by decide
theorem itl_put {x : Nat} (h : x < 32) : (itl x).set (x : Int).toNat (x : Int) = itl (x + 1) := by
 unfold itl
 apply List.ext_getElem
 ·simp
 ·intro j h1 h2
  simp only [List.length_map, List.length_range] at h2
  rw [List.getElem_set]
  simp only [List.getElem_map, List.getElem_range, Int.toNat_natCast]
  by_cases e : x = j
  ·subst e
   rw [if_pos rfl, if_pos (by omega)]
  rw [if_neg e]
  by_cases h3 : j < x
  ·rw [if_pos h3, if_pos (by omega)]
  rw [if_neg h3, if_neg (by omega)]
theorem itl_all (l : List S58) : itl 32 = (vn l 0).1 := by
 show itl 32 = (List.range 32).map fun (j : Nat) => (j : Int)
 decide
/-- The four cells of a statement's copy. -/
def C4 (w : World) (hs : Nat) (s : S58) : Prop := w.cell? ⟨hs, 0, none⟩ = some (.int .i64 s.f0) ∧ w.cell? ⟨hs, 1, none⟩ = some (.int .i64 s.f1) ∧ w.cell? ⟨hs, 2, none⟩ = some (.int .i64 s.f2) ∧ w.cell? ⟨hs, 3, none⟩ = some (.int .i64 s.f3)
theorem C4_new (w : World) (s : S58) : C4 (w.alloc (.cells #[.int .i64 s.f0, .int .i64 s.f1, .int .i64 s.f2, .int .i64 s.f3] 58)) w.heap.size s := by
 refine ⟨?_, ?_, ?_, ?_⟩ <;> rw [World.cell?_alloc_new] <;> rfl
theorem C4_step {w w1 : World} {hs : Nat} {s : S58} (h : C4 w hs s) (he : w1.heap[hs]? = w.heap[hs]?) : C4 w1 hs s := by
 unfold C4 World.cell? at h ⊢
 simp only [he]
 exact h
theorem C4_lt {w : World} {hs : Nat} {s : S58} (h : C4 w hs s) : hs < w.heap.size := World.block_lt_of_cell? w ⟨hs, 0, none⟩ h.1
theorem C4_below {w w1 : World} {hs : Nat} {s : S58} (h : C4 w hs s) (hb : Below w.heap.size w w1) : C4 w1 hs s := C4_step h (hb.block hs (C4_lt h))
set_option maxHeartbeats 16000000 in
set_option maxRecDepth 100000 in
theorem impl_ValueNumbers.calls (k : Nat) (A0 : Option Addr) (c0 : Nat) (l0 : List (S58)) (r1 : List Int) (r2 : Bool) (w : World) (hr0 : Kd.C k58 w A0 l0.length l0) (hc0 : l0.length ≤ c0) (h : impl_ValueNumbers.f k l0 = some (r1, r2)) :
  Calls Try.prog 44 #[.slice A0 l0.length c0] w fun e w' => ∃ v0_ : Value, e = .returned (.tuple #[v0_, .bool r2]) ∧ Kd.R (Kd.int .i64) 2 w' w.heap.size (fun _ => True) v0_ r1 ∧ Below w.heap.size w w' := by
 have hv := Option.some.inj h
 clear h
 have HR := Aside0.mk hr0
 have HC := Aside0.mk hc0
 by_cases hx : vOk l0 = true
 rotate_left
 ·rw [if_neg hx] at hv
  obtain ⟨rfl, rfl⟩ := Prod.mk.inj hv
  clear hv
  have HV : Aside0 (impl_ValidCode.f 0 l0 = some false) := ⟨by rw [Bool.not_eq_true] at hx; rw [← hx]; rfl⟩
  clear hx hr0 hc0
  go_enter Try.func44, Try.ntmps44
  go_wp2_with (go_at_call 21; (with_reducible refine (impl_ValidCode.calls 0 A0 c0 l0 false _ ?s1 HC.out HV.out).mono ?_); (case s1 => exact Kd.C_below HR.out (by repeat (first | exact Below.refl _ _ | apply below_alloc | apply pw_below_drewN | apply below_drew1))); rintro e w1 ⟨rfl, hb1⟩; have HB1 : Aside0 (Below w.heap.size w w1) := ⟨below_step (by repeat (first | exact Below.refl _ _ | apply below_alloc | apply pw_below_drewN | apply below_drew1)) hb1⟩; clear hb1)
  go_ret2
  refine ⟨_, rfl, Kd.R_nil _ _ _ _ _, HB1.out⟩

 rw [if_pos hx] at hv
 obtain ⟨rfl, rfl⟩ := Prod.mk.inj hv
 clear hv
 have hl16 := vOk_len hx
 have HL := Aside0.mk hl16
 have HX := Aside0.mk hx
 have HV : Aside0 (impl_ValidCode.f 0 l0 = some true) := ⟨by rw [← hx]; rfl⟩
 clear hx hl16 hr0 hc0
 go_enter Try.func44, Try.ntmps44
 go_wp2_with (first | (go_at_call 21; (with_reducible refine (impl_ValidCode.calls 0 A0 c0 l0 true _ ?s1 HC.out HV.out).mono ?_); (case s1 => exact Kd.C_below HR.out (by repeat (first | exact Below.refl _ _ | apply below_alloc | apply pw_below_drewN | apply below_drew1))); rintro e w1 ⟨rfl, hb1⟩; have HB1 : Aside0 (Below w.heap.size w w1) := ⟨below_step (by repeat (first | exact Below.refl _ _ | apply below_alloc | apply pw_below_drewN | apply below_drew1)) hb1⟩; clear hb1)
  )
 have hg1 : w.heap.size ≤ w1.heap.size := below_size HB1.out
 have HA : Aside0 (ArrI (w1.alloc (.cells zero32 81)) w.heap.size w1.heap.size (itl 0)) := ⟨by rw [← itl_zero]; exact ArrI_new w1 _ hg1⟩
 have HB2 : Aside0 (Below w.heap.size w (w1.alloc (.cells zero32 81))) := ⟨below_alloc HB1.out _⟩
 clear hg1
 unfold zero32 at HA HB2
 generalize w1.alloc _ = w2 at HA HB2 ⊢
 generalize w1.heap.size = g4 at HA ⊢
 clear HB1
 go_loopg [5, 19] 32 (fun kq v5 v19 w' => ∃ x : Nat, v19 = .int .i64 (x : Int) ∧ Aside0 (ArrI w' w.heap.size g4 (itl x)) ∧ Aside0 (x ≤ 32) ∧ Aside0 (32 - x ≤ kq) ∧ Aside0 (Below w.heap.size w w'))
 case atStart => exact ⟨0, rfl, HA, ⟨by omega⟩, ⟨by omega⟩, HB2⟩
 case round =>
  clear HA HB2
  obtain ⟨x, rfl, HA, H1, HK, HB⟩ := hrel
  by_cases c3 : (x : Int) < 32
  ·have hx32 : x < 32 := by omega
   have c3b0 : decide ((x : Int) < 32) = true := decide_eq_true c3
   have c6 : 0 ≤ (x : Int) := Int.natCast_nonneg _
   have HW : Aside0 (wrap64 ((x : Int) + 1) = ((x + 1 : Nat) : Int)) := ⟨by unfold wrap64; omega⟩
   have HX2 := Aside0.mk hx32
   obtain ⟨p4, q4⟩ := ArrI_cell HA.out (x : Int) c6 (by omega)
   rw [Int.toNat_natCast] at p4 q4
   clear hx32
   go_wp2
   go_roundg (32 - (x + 1))
   case measure => have := HK.out; have := HX2.out; omega
   case rel =>
    have := HX2.out
    exact ⟨x + 1, by first | rfl | rw [HW.out], ⟨by have h2 := ArrI_put HA.out (x : Int) (x : Int); rw [itl_put this] at h2; exact h2⟩, ⟨by omega⟩, ⟨by omega⟩, ⟨below_set HB.out (ArrI_base HA.out)⟩⟩
  have c3b0 : decide ((x : Int) < 32) = false := decide_eq_false c3
  have HX32 : Aside0 (x = 32) := ⟨by have := H1.out; omega⟩
  have hmm := @run_makeMap Try.prog
  clear c3
  go_wp2
  have HA2 : Aside0 (ArrI (wr.alloc (.map #[] 0)) w.heap.size g4 (vn l0 0).1) := ⟨by have := HA.out; rw [HX32.out, itl_all l0] at this; exact ArrI_below this (below_alloc (Below.refl _ _) _)⟩
  have HM : Aside0 (MapAt (wr.alloc (.map #[] 0)) w.heap.size wr.heap.size (vn l0 0).2.1) := ⟨MapAt_new wr _ (below_size HB.out)⟩
  have HB3 : Aside0 (Below w.heap.size w (wr.alloc (.map #[] 0))) := ⟨below_alloc HB.out _⟩
  clear HA HB hmm HX32 H1 HK
  generalize wr.alloc _ = w3 at HA2 HM HB3 ⊢
  generalize wr.heap.size = gm at HM ⊢
  have HO : Aside0 (Kd.R (Kd.int .i64) 2 w3 w.heap.size (fun _ => True) (.slice none 0 0) (vn l0 0).2.2) := ⟨Kd.R_nil _ _ _ _ _⟩
  go_loopg [7, 8, 10, 11, 12, 13, 14, 15, 29] 16 (fun kq v7 v8 v10 v11 v12 v13 v14 v15 v29 w' => ∃ x : Nat, v29 = .int .i64 (x : Int) ∧ v7 = .int .i64 (32 + ((vn l0 x).2.1.length : Int)) ∧ Aside0 (ArrI w' w.heap.size g4 (vn l0 x).1) ∧ Aside0 (MapAt w' w.heap.size gm (vn l0 x).2.1) ∧ Aside0 (Kd.R (Kd.int .i64) 2 w' w.heap.size (fun _ => True) v8 (vn l0 x).2.2) ∧ Aside0 (x ≤ l0.length) ∧ Aside0 (l0.length - x ≤ kq) ∧ Aside0 (Below w.heap.size w w'))
  case atStart => exact ⟨0, rfl, rfl, HA2, HM, HO, ⟨by omega⟩, ⟨by have := HL.out; omega⟩, HB3⟩
  case round =>
   clear HA2 HM HB3 HO
   obtain ⟨x, rfl, rfl, HA, HM, HO, H1, HK, HB⟩ := hrel
   by_cases c3 : (x : Int) < (l0.length : Int)
   rotate_left
   ·have c3b0 : decide ((x : Int) < (l0.length : Int)) = false := decide_eq_false c3
    have HX2 : Aside0 (x = l0.length) := ⟨by have := H1.out; omega⟩
    have c3n : (x < l0.length) = False := eq_false (by omega)
    clear c3
    go_wp2
    go_ret2
    have ho := HO.out
    rw [HX2.out] at ho
    exact ⟨_, rfl, ho, HB.out⟩
   have hxl : x < l0.length := by omega
   obtain ⟨⟨o0, o1⟩, ⟨d0, d1⟩, ⟨a0, a1⟩, b0, b1⟩ := vOk_at HX.out hxl
   have c6 : 0 ≤ (x : Int) := Int.natCast_nonneg _
   obtain ⟨ad, e1, hx0, hx1, hx2, hx3⟩ := at_T58 (Kd.C_below HR.out HB.out) (x : Int) c6 (by omega)
   cases e1
   rw [Int.toNat_natCast] at hx0 hx1 hx2 hx3
   have HW : Aside0 (wrap64 ((x : Int) + 1) = ((x + 1 : Nat) : Int)) := ⟨by have := HL.out; unfold wrap64; omega⟩
   have HX2 := Aside0.mk hxl
   have c3b0 : decide ((x : Int) < (l0.length : Int)) = true := decide_eq_true c3
   have HV1 := Aside0.mk (vn_ok HX.out x (by omega))
   have HKy := Aside0.mk (vkey_ok HV1.out.n32 HV1.out.val (by have := HL.out; omega) ⟨o0, o1⟩ ⟨a0, a1⟩ ⟨b0, b1⟩)
   have D0 := Aside0.mk d0
   have D1 := Aside0.mk d1
   have E0 := Aside0.mk a0
   have E1 := Aside0.mk a1
   have F0 := Aside0.mk b0
   have F1 := Aside0.mk b1
   clear hxl d0 d1 a0 a1 b0 b1 o0 o1
   go_upto_region 15 with (fail)
   have HA4 : Aside0 (ArrI (wr.alloc (.cells #[.int .i64 (rd_T58 l0 (x : Int)).f0, .int .i64 (rd_T58 l0 (x : Int)).f1, .int .i64 (rd_T58 l0 (x : Int)).f2, .int .i64 (rd_T58 l0 (x : Int)).f3] 58)) w.heap.size g4 (vn l0 x).1) := ⟨ArrI_below HA.out (below_alloc (Below.refl _ _) _)⟩
   have HM4 : Aside0 (MapAt (wr.alloc (.cells #[.int .i64 (rd_T58 l0 (x : Int)).f0, .int .i64 (rd_T58 l0 (x : Int)).f1, .int .i64 (rd_T58 l0 (x : Int)).f2, .int .i64 (rd_T58 l0 (x : Int)).f3] 58)) w.heap.size gm (vn l0 x).2.1) := ⟨MapAt_below HM.out (below_alloc (Below.refl _ _) _)⟩
   have HO4 : Aside0 (Kd.R (Kd.int .i64) 2 (wr.alloc (.cells #[.int .i64 (rd_T58 l0 (x : Int)).f0, .int .i64 (rd_T58 l0 (x : Int)).f1, .int .i64 (rd_T58 l0 (x : Int)).f2, .int .i64 (rd_T58 l0 (x : Int)).f3] 58)) w.heap.size (fun _ => True) u8 (vn l0 x).2.2) := ⟨Kd.R_alloc HO.out _⟩
   have HB4 : Aside0 (Below w.heap.size w (wr.alloc (.cells #[.int .i64 (rd_T58 l0 (x : Int)).f0, .int .i64 (rd_T58 l0 (x : Int)).f1, .int .i64 (rd_T58 l0 (x : Int)).f2, .int .i64 (rd_T58 l0 (x : Int)).f3] 58))) := ⟨below_alloc HB.out _⟩
   have HC4 : Aside0 (C4 (wr.alloc (.cells #[.int .i64 (rd_T58 l0 (x : Int)).f0, .int .i64 (rd_T58 l0 (x : Int)).f1, .int .i64 (rd_T58 l0 (x : Int)).f2, .int .i64 (rd_T58 l0 (x : Int)).f3] 58)) wr.heap.size (rd_T58 l0 (x : Int))) := ⟨C4_new _ _⟩
   have HG4 : Aside0 (g4 < wr.heap.size) := ⟨ArrI_lt HA.out⟩
   have HGm : Aside0 (gm < wr.heap.size) := ⟨MapAt_lt HM.out⟩
   have HGw : Aside0 (w.heap.size ≤ wr.heap.size) := ⟨below_size HB.out⟩
   clear hx0 hx1 hx2 hx3 HA HM HO HB
   generalize wr.alloc _ = w4 at HA4 HM4 HO4 HB4 HC4 ⊢
   generalize wr.heap.size = hs at HC4 HG4 HGm HGw ⊢
   obtain ⟨p2, q2⟩ := ArrI_cell HA4.out (rd_T58 l0 (x : Int)).f2 E0.out E1.out
   obtain ⟨p3, q3⟩ := ArrI_cell HA4.out (rd_T58 l0 (x : Int)).f3 F0.out F1.out
   have l20 : 0 ≤ (rd_T58 l0 (x : Int)).f2 := E0.out
   have l21 : (rd_T58 l0 (x : Int)).f2 < 32 := by have := E1.out; omega
   have l30 : 0 ≤ (rd_T58 l0 (x : Int)).f3 := F0.out
   have l31 : (rd_T58 l0 (x : Int)).f3 < 32 := by have := F1.out; omega
   have hc0 := HC4.out.1
   have hc2 := HC4.out.2.2.1
   have hc3 := HC4.out.2.2.2
   go_quiet (fail)
   cases hcom : comI (rd_T58 l0 (x : Int)).f0 with
   | true =>
    have HCM : Aside0 (impl_IsCommutative.f (rd_T58 l0 (x : Int)).f0 = some true) := ⟨by rw [iCom, hcom]⟩
    have HKe : Aside0 (vkey (vn l0 x).1 (rd_T58 l0 (x : Int)) = ((rd_T58 l0 (x : Int)).f0, mn (rd (vn l0 x).1 (rd_T58 l0 (x : Int)).f2) (rd (vn l0 x).1 (rd_T58 l0 (x : Int)).f3), mx (rd (vn l0 x).1 (rd_T58 l0 (x : Int)).f2) (rd (vn l0 x).1 (rd_T58 l0 (x : Int)).f3))) := ⟨by unfold vkey; rw [hcom, if_pos rfl]⟩
    clear hcom
    go_upto_region 18 with (go_at_call 81; (with_reducible refine (impl_IsCommutative.calls _ true _ HCM.out).mono ?_); rintro e w5 ⟨rfl, ⟨nd, rfl⟩⟩)
    replace HKe : Aside0 (vkey (vn l0 x).1 (rd_T58 l0 (x : Int)) = ((rd_T58 l0 (x : Int)).f0, (if rd (vn l0 x).1 (rd_T58 l0 (x : Int)).f3 < rd (vn l0 x).1 (rd_T58 l0 (x : Int)).f2 then rd (vn l0 x).1 (rd_T58 l0 (x : Int)).f3 else rd (vn l0 x).1 (rd_T58 l0 (x : Int)).f2), (if rd (vn l0 x).1 (rd_T58 l0 (x : Int)).f2 < rd (vn l0 x).1 (rd_T58 l0 (x : Int)).f3 then rd (vn l0 x).1 (rd_T58 l0 (x : Int)).f3 else rd (vn l0 x).1 (rd_T58 l0 (x : Int)).f2))) := ⟨HKe.out⟩
    clear p2 q2 p3 q3 l20 l21 l30 l31 hc0 hc2 hc3 HCM
    generalize (if rd (vn l0 x).1 (rd_T58 l0 (x : Int)).f3 < rd (vn l0 x).1 (rd_T58 l0 (x : Int)).f2 then rd (vn l0 x).1 (rd_T58 l0 (x : Int)).f3 else rd (vn l0 x).1 (rd_T58 l0 (x : Int)).f2) = A at HKe ⊢
    generalize (if rd (vn l0 x).1 (rd_T58 l0 (x : Int)).f2 < rd (vn l0 x).1 (rd_T58 l0 (x : Int)).f3 then rd (vn l0 x).1 (rd_T58 l0 (x : Int)).f3 else rd (vn l0 x).1 (rd_T58 l0 (x : Int)).f2) = B at HKe ⊢
    have HA5 : Aside0 (ArrI (w4.drewN (nq + nd)) w.heap.size g4 (vn l0 x).1) := ⟨ArrI_below HA4.out (pw_below_drewN (Below.refl _ _) _)⟩
    have HM5 : Aside0 (MapAt (w4.drewN (nq + nd)) w.heap.size gm (vn l0 x).2.1) := ⟨MapAt_below HM4.out (pw_below_drewN (Below.refl _ _) _)⟩
    have HO5 : Aside0 (Kd.R (Kd.int .i64) 2 (w4.drewN (nq + nd)) w.heap.size (fun _ => True) u8 (vn l0 x).2.2) := ⟨Kd.R_drewN HO4.out _⟩
    have HB5 : Aside0 (Below w.heap.size w (w4.drewN (nq + nd))) := ⟨pw_below_drewN HB4.out _⟩
    have HC5 : Aside0 (C4 (w4.drewN (nq + nd)) hs (rd_T58 l0 (x : Int))) := ⟨C4_below HC4.out (pw_below_drewN (Below.refl _ _) _)⟩
    clear HA4 HM4 HO4 HB4 HC4
    generalize w4.drewN (nq + nd) = w5 at HA5 HM5 HO5 HB5 HC5 ⊢
    have hc0 := HC5.out.1
    go_upto_region 19 with (fail)
    have HA6 : Aside0 (ArrI (w5.alloc (.cells #[.int .i64 (rd_T58 l0 (x : Int)).f0, .int .i64 A, .int .i64 B] 83)) w.heap.size g4 (vn l0 x).1) := ⟨ArrI_below HA5.out (below_alloc (Below.refl _ _) _)⟩
    have HM6 : Aside0 (MapAt (w5.alloc (.cells #[.int .i64 (rd_T58 l0 (x : Int)).f0, .int .i64 A, .int .i64 B] 83)) w.heap.size gm (vn l0 x).2.1) := ⟨MapAt_below HM5.out (below_alloc (Below.refl _ _) _)⟩
    have HO6 : Aside0 (Kd.R (Kd.int .i64) 2 (w5.alloc (.cells #[.int .i64 (rd_T58 l0 (x : Int)).f0, .int .i64 A, .int .i64 B] 83)) w.heap.size (fun _ => True) u8 (vn l0 x).2.2) := ⟨Kd.R_alloc HO5.out _⟩
    have HB6 : Aside0 (Below w.heap.size w (w5.alloc (.cells #[.int .i64 (rd_T58 l0 (x : Int)).f0, .int .i64 A, .int .i64 B] 83))) := ⟨below_alloc HB5.out _⟩
    have HC6 : Aside0 (C4 (w5.alloc (.cells #[.int .i64 (rd_T58 l0 (x : Int)).f0, .int .i64 A, .int .i64 B] 83)) hs (rd_T58 l0 (x : Int))) := ⟨C4_below HC5.out (below_alloc (Below.refl _ _) _)⟩
    have HKB : Aside0 ((w5.alloc (.cells #[.int .i64 (rd_T58 l0 (x : Int)).f0, .int .i64 A, .int .i64 B] 83)).heap[w5.heap.size]? = some (.cells #[.int .i64 (rd_T58 l0 (x : Int)).f0, .int .i64 A, .int .i64 B] 83 (0, 0))) := ⟨heap_alloc_new w5 _⟩
    have HKg : Aside0 (g4 ≠ w5.heap.size ∧ gm ≠ w5.heap.size ∧ hs < w5.heap.size) := ⟨by have h1 := ArrI_lt HA5.out; have h2 := MapAt_lt HM5.out; have h3 := C4_lt HC5.out; omega⟩
    clear HA5 HM5 HO5 HB5 HC5 hc0
    generalize w5.alloc _ = w6 at HA6 HM6 HO6 HB6 HC6 HKB ⊢
    generalize w5.heap.size = hk at HKB HKg ⊢
    by_cases hmem : vkey (vn l0 x).1 (rd_T58 l0 (x : Int)) ∈ (vn l0 x).2.1
    ·have hidx : (vn l0 x).2.1[(vn l0 x).2.1.idxOf (vkey (vn l0 x).1 (rd_T58 l0 (x : Int)))]? = some (vkey (vn l0 x).1 (rd_T58 l0 (x : Int))) := List.getElem?_eq_some_iff.mpr ⟨List.idxOf_lt_length_of_mem hmem, List.getElem_idxOf _⟩
     have HLk := Aside0.mk (look_hit HM6.out HV1.out.nd HV1.out.ok hidx)
     have HNx : Aside0 (vn l0 (x + 1) = ((vn l0 x).1.set (rd_T58 l0 (x : Int)).f1.toNat (32 + ((vn l0 x).2.1.idxOf (vkey (vn l0 x).1 (rd_T58 l0 (x : Int))) : Int)), (vn l0 x).2.1, (vn l0 x).2.2 ++ [32 + ((vn l0 x).2.1.idxOf (vkey (vn l0 x).1 (rd_T58 l0 (x : Int))) : Int)])) := ⟨by simp only [vn]; rw [if_pos hmem]⟩
     clear hmem hidx
     generalize (vn l0 x).2.1.idxOf (vkey (vn l0 x).1 (rd_T58 l0 (x : Int))) = ix at HLk HNx ⊢
     rw [HKe.out] at HLk
     go_upto_region 24 with (first | ((with_reducible refine gate_dst (N := 57) rfl ?_); refine wpList_load_row rfl 83 (.tmp 13) rfl hk rfl 83 _ (0, 0) _ HKB.out Try.underlying83 rfl (by kernel_rfl) ?_) | ((with_reducible refine gate_dst (N := 58) rfl ?_); refine wpList_look rfl 82 _ _ rfl _ HLk.out ?_))
     have hc1 := HC6.out.2.1
     obtain ⟨p1, q1⟩ := ArrI_cell HA6.out (rd_T58 l0 (x : Int)).f1 D0.out D1.out
     have l10 : 0 ≤ (rd_T58 l0 (x : Int)).f1 := D0.out
     have l11 : (rd_T58 l0 (x : Int)).f1 < 32 := by have := D1.out; omega
     go_upto_region 25 with (fail)
     have HA7 : Aside0 (ArrI (w6.setCell ⟨g4, (rd_T58 l0 (x : Int)).f1.toNat, none⟩ (.int .i64 (32 + (ix : Int)))) w.heap.size g4 (vn l0 (x + 1)).1) := ⟨by rw [HNx.out]; exact ArrI_put HA6.out _ _⟩
     have HM7 : Aside0 (MapAt (w6.setCell ⟨g4, (rd_T58 l0 (x : Int)).f1.toNat, none⟩ (.int .i64 (32 + (ix : Int)))) w.heap.size gm (vn l0 (x + 1)).2.1) := ⟨by rw [HNx.out]; obtain ⟨cs, hcs⟩ := ArrI_typed HA6.out; exact MapAt_far HM6.out (fun e => MapAt_ne HM6.out hcs e.symm) _⟩
     have HO7 : Aside0 (Kd.R (Kd.int .i64) 2 (w6.setCell ⟨g4, (rd_T58 l0 (x : Int)).f1.toNat, none⟩ (.int .i64 (32 + (ix : Int)))) w.heap.size (fun _ => True) u8 (vn l0 x).2.2) := ⟨by obtain ⟨cs, hcs⟩ := ArrI_typed HA6.out; exact Kd.R_set HO6.out hcs (by decide) _ _⟩
     have HB7 : Aside0 (Below w.heap.size w (w6.setCell ⟨g4, (rd_T58 l0 (x : Int)).f1.toNat, none⟩ (.int .i64 (32 + (ix : Int))))) := ⟨below_set HB6.out (ArrI_base HA6.out)⟩
     clear HA6 HM6 HO6 HB6 HC6 hc1 p1 q1 l10 l11
     generalize w6.setCell _ _ = w7 at HA7 HM7 HO7 HB7 ⊢
     have HOl : Aside0 ((vn l0 x).2.2.length ≤ 16) := ⟨by have h1 := HV1.out.out; have h2 := HX2.out; have h3 := HL.out; omega⟩
     go_wp2_with ((with_reducible refine gate_builtin (b := .append) (xs := #[.tmp 73, .tmp 75]) rfl ?_); at_builtin; refine Kd.R_append (Kd.int .i64) (w0 := w) w.heap.size rfl (.tmp 73) (.tmp 75) 33 2 (.int .i64 0) 8 rfl Try.underlying33 info2 rfl (by decide) (by omega) u8 (vn l0 x).2.2 ((32 + (ix : Int)) : Int) [.int .i64 (32 + (ix : Int))] (fun _ => True) (fun _ => False) rfl rfl ?aP (fun _ hk => hk.elim) ?aF ?aO ?aB ?aS ?aL ?_; (case aP => exact rfl); (case aB => exact HB7.out); (case aF => exact (fun _ _ => trivial)); (case aO => exact HO7.out); (case aS => exact below_size HB7.out); (case aL => have := HOl.out; omega); intro v173 w15 ho hb hg hat; have HO8 := Aside0.mk ho; have HB8 := Aside0.mk hb; have HG8 := Aside0.mk hg; clear ho hb hg hat)
     go_roundg (l0.length - (x + 1))
     case measure => have := HK.out; have := HX2.out; omega
     case rel =>
      have h1 := HX2.out
      have hA : ArrI w15 w.heap.size g4 (vn l0 (x + 1)).1 := ⟨HA7.out.1, Kd.R_over HA7.out.2 HO7.out (by decide) HG8.out⟩
      have hM : MapAt w15 w.heap.size gm (vn l0 (x + 1)).2.1 := MapAt_move HM7.out (HG8.out.block gm (MapAt_lt HM7.out) (fun e => by obtain ⟨cs, hcs⟩ := Kd.R_typed HO7.out gm e.symm; exact MapAt_ne HM7.out hcs rfl))
      have hO : Kd.R (Kd.int .i64) 2 w15 w.heap.size (fun _ => True) v173 (vn l0 (x + 1)).2.2 := by rw [HNx.out]; exact HO8.out
      exact ⟨x + 1, by first | rfl | rw [HW.out], by rw [HNx.out], ⟨hA⟩, ⟨hM⟩, ⟨hO⟩, ⟨by omega⟩, ⟨by omega⟩, HB8⟩
    ·have HLk := Aside0.mk (look_miss HM6.out HV1.out.ok HKy.out hmem)
     have HNx : Aside0 (vn l0 (x + 1) = ((vn l0 x).1.set (rd_T58 l0 (x : Int)).f1.toNat (32 + ((vn l0 x).2.1.length : Int)), (vn l0 x).2.1 ++ [vkey (vn l0 x).1 (rd_T58 l0 (x : Int))], (vn l0 x).2.2 ++ [32 + ((vn l0 x).2.1.length : Int)])) := ⟨by simp only [vn]; rw [if_neg hmem, List.idxOf_eq_length hmem]⟩
     obtain ⟨wu, hu1, hu2, hu3, hu4⟩ := map_update HM6.out HV1.out.ok HKy.out hmem (32 + ((vn l0 x).2.1.length : Int))
     have HU1 := Aside0.mk hu1
     have HWn : Aside0 (wrap64 (32 + ((vn l0 x).2.1.length : Int) + 1) = 32 + (((vn l0 x).2.1.length : Int) + 1)) := ⟨by have h1 := HV1.out.len; have h2 := HX2.out; have h3 := HL.out; unfold wrap64; omega⟩
     have HAu : Aside0 (ArrI wu w.heap.size g4 (vn l0 x).1) := ⟨⟨HA6.out.1, Kd.R_mono (Kd.R_step (Kd.R_tight rfl HA6.out.2) (fun k hk _ => hu2 k (by rintro rfl; obtain ⟨cs, hcs⟩ := Kd.R_typed HA6.out.2 k hk.symm; exact MapAt_ne HM6.out hcs rfl))) (fun _ _ => trivial)⟩⟩
     have HOu : Aside0 (Kd.R (Kd.int .i64) 2 wu w.heap.size (fun _ => True) u8 (vn l0 x).2.2) := ⟨Kd.R_mono (Kd.R_step (Kd.R_tight rfl HO6.out) (fun k hk _ => hu2 k (by rintro rfl; obtain ⟨cs, hcs⟩ := Kd.R_typed HO6.out k hk.symm; exact MapAt_ne HM6.out hcs rfl))) (fun _ _ => trivial)⟩
     have HBu : Aside0 (Below w.heap.size w wu) := ⟨HB6.out.trans hu3⟩
     have HMu : Aside0 (MapAt wu w.heap.size gm ((vn l0 x).2.1 ++ [vkey (vn l0 x).1 (rd_T58 l0 (x : Int))])) := ⟨hu4 rfl⟩
     have HCu : Aside0 (C4 wu hs (rd_T58 l0 (x : Int))) := ⟨C4_step HC6.out (hu2 hs (by have := HGm.out; omega))⟩
     clear hmem hu1 hu2 hu3 hu4
     rw [HKe.out] at HLk HU1
     have hWn := HWn.out
     go_upto_region 24 with (first | ((with_reducible refine gate_dst (N := 57) rfl ?_); refine wpList_load_row rfl 83 (.tmp 13) rfl hk rfl 83 _ (0, 0) _ HKB.out Try.underlying83 rfl (by kernel_rfl) ?_) | ((with_reducible refine gate_dst (N := 65) rfl ?_); refine wpList_load_row rfl 83 (.tmp 13) rfl hk rfl 83 _ (0, 0) _ HKB.out Try.underlying83 rfl (by kernel_rfl) ?_) | ((with_reducible refine gate_dst (N := 58) rfl ?_); refine wpList_look rfl 82 _ _ rfl _ HLk.out ?_) | (refine wpList_update rfl 82 _ _ _ rfl HU1.out ?_))
     have hc1 := HCu.out.2.1
     obtain ⟨p1, q1⟩ := ArrI_cell HAu.out (rd_T58 l0 (x : Int)).f1 D0.out D1.out
     have l10 : 0 ≤ (rd_T58 l0 (x : Int)).f1 := D0.out
     have l11 : (rd_T58 l0 (x : Int)).f1 < 32 := by have := D1.out; omega
     go_upto_region 25 with (fail)
     have HA7 : Aside0 (ArrI (wu.setCell ⟨g4, (rd_T58 l0 (x : Int)).f1.toNat, none⟩ (.int .i64 (32 + ((vn l0 x).2.1.length : Int)))) w.heap.size g4 (vn l0 (x + 1)).1) := ⟨by rw [HNx.out]; exact ArrI_put HAu.out _ _⟩
     have HM7 : Aside0 (MapAt (wu.setCell ⟨g4, (rd_T58 l0 (x : Int)).f1.toNat, none⟩ (.int .i64 (32 + ((vn l0 x).2.1.length : Int)))) w.heap.size gm (vn l0 (x + 1)).2.1) := ⟨by rw [HNx.out]; obtain ⟨cs, hcs⟩ := ArrI_typed HAu.out; exact MapAt_far HMu.out (fun e => MapAt_ne HMu.out hcs e.symm) _⟩
     have HO7 : Aside0 (Kd.R (Kd.int .i64) 2 (wu.setCell ⟨g4, (rd_T58 l0 (x : Int)).f1.toNat, none⟩ (.int .i64 (32 + ((vn l0 x).2.1.length : Int)))) w.heap.size (fun _ => True) u8 (vn l0 x).2.2) := ⟨by obtain ⟨cs, hcs⟩ := ArrI_typed HAu.out; exact Kd.R_set HOu.out hcs (by decide) _ _⟩
     have HB7 : Aside0 (Below w.heap.size w (wu.setCell ⟨g4, (rd_T58 l0 (x : Int)).f1.toNat, none⟩ (.int .i64 (32 + ((vn l0 x).2.1.length : Int))))) := ⟨below_set HBu.out (ArrI_base HAu.out)⟩
     clear HAu HMu HOu HBu HCu hc1 p1 q1 l10 l11
     generalize wu.setCell _ _ = w7 at HA7 HM7 HO7 HB7 ⊢
     have HOl : Aside0 ((vn l0 x).2.2.length ≤ 16) := ⟨by have h1 := HV1.out.out; have h2 := HX2.out; have h3 := HL.out; omega⟩
     clear hWn
     go_wp2_with ((with_reducible refine gate_builtin (b := .append) (xs := #[.tmp 73, .tmp 75]) rfl ?_); at_builtin; refine Kd.R_append (Kd.int .i64) (w0 := w) w.heap.size rfl (.tmp 73) (.tmp 75) 33 2 (.int .i64 0) 8 rfl Try.underlying33 info2 rfl (by decide) (by omega) u8 (vn l0 x).2.2 ((32 + ((vn l0 x).2.1.length : Int)) : Int) [.int .i64 (32 + ((vn l0 x).2.1.length : Int))] (fun _ => True) (fun _ => False) rfl rfl ?aP (fun _ hk => hk.elim) ?aF ?aO ?aB ?aS ?aL ?_; (case aP => exact rfl); (case aB => exact HB7.out); (case aF => exact (fun _ _ => trivial)); (case aO => exact HO7.out); (case aS => exact below_size HB7.out); (case aL => have := HOl.out; omega); intro v173 w15 ho hb hg hat; have HO8 := Aside0.mk ho; have HB8 := Aside0.mk hb; have HG8 := Aside0.mk hg; clear ho hb hg hat)
     go_roundg (l0.length - (x + 1))
     case measure => have := HK.out; have := HX2.out; omega
     case rel =>
      have h1 := HX2.out
      have hA : ArrI w15 w.heap.size g4 (vn l0 (x + 1)).1 := ⟨HA7.out.1, Kd.R_over HA7.out.2 HO7.out (by decide) HG8.out⟩
      have hM : MapAt w15 w.heap.size gm (vn l0 (x + 1)).2.1 := MapAt_move HM7.out (HG8.out.block gm (MapAt_lt HM7.out) (fun e => by obtain ⟨cs, hcs⟩ := Kd.R_typed HO7.out gm e.symm; exact MapAt_ne HM7.out hcs rfl))
      have hO : Kd.R (Kd.int .i64) 2 w15 w.heap.size (fun _ => True) v173 (vn l0 (x + 1)).2.2 := by rw [HNx.out]; exact HO8.out
      exact ⟨x + 1, by first | rfl | rw [HW.out], by rw [HNx.out, HWn.out, List.length_append]; rfl, ⟨hA⟩, ⟨hM⟩, ⟨hO⟩, ⟨by omega⟩, ⟨by omega⟩, HB8⟩
   | false =>
    have HCM : Aside0 (impl_IsCommutative.f (rd_T58 l0 (x : Int)).f0 = some false) := ⟨by rw [iCom, hcom]⟩
    have HKe : Aside0 (vkey (vn l0 x).1 (rd_T58 l0 (x : Int)) = ((rd_T58 l0 (x : Int)).f0, rd (vn l0 x).1 (rd_T58 l0 (x : Int)).f2, rd (vn l0 x).1 (rd_T58 l0 (x : Int)).f3)) := ⟨by unfold vkey; rw [hcom, if_neg (by decide)]⟩
    clear hcom
    go_upto_region 18 with (go_at_call 81; (with_reducible refine (impl_IsCommutative.calls _ false _ HCM.out).mono ?_); rintro e w5 ⟨rfl, ⟨nd, rfl⟩⟩)
    clear p2 q2 p3 q3 l20 l21 l30 l31 hc0 hc2 hc3 HCM
    obtain ⟨A, hA⟩ : ∃ A, rd (vn l0 x).1 (rd_T58 l0 (x : Int)).f2 = A := ⟨_, rfl⟩
    obtain ⟨B, hB⟩ : ∃ B, rd (vn l0 x).1 (rd_T58 l0 (x : Int)).f3 = B := ⟨_, rfl⟩
    rw [hA, hB] at HKe
    rw [hA, hB]
    clear hA hB
    have HA5 : Aside0 (ArrI (w4.drewN (nq + nd)) w.heap.size g4 (vn l0 x).1) := ⟨ArrI_below HA4.out (pw_below_drewN (Below.refl _ _) _)⟩
    have HM5 : Aside0 (MapAt (w4.drewN (nq + nd)) w.heap.size gm (vn l0 x).2.1) := ⟨MapAt_below HM4.out (pw_below_drewN (Below.refl _ _) _)⟩
    have HO5 : Aside0 (Kd.R (Kd.int .i64) 2 (w4.drewN (nq + nd)) w.heap.size (fun _ => True) u8 (vn l0 x).2.2) := ⟨Kd.R_drewN HO4.out _⟩
    have HB5 : Aside0 (Below w.heap.size w (w4.drewN (nq + nd))) := ⟨pw_below_drewN HB4.out _⟩
    have HC5 : Aside0 (C4 (w4.drewN (nq + nd)) hs (rd_T58 l0 (x : Int))) := ⟨C4_below HC4.out (pw_below_drewN (Below.refl _ _) _)⟩
    clear HA4 HM4 HO4 HB4 HC4
    generalize w4.drewN (nq + nd) = w5 at HA5 HM5 HO5 HB5 HC5 ⊢
    have hc0 := HC5.out.1
    go_upto_region 19 with (fail)
    have HA6 : Aside0 (ArrI (w5.alloc (.cells #[.int .i64 (rd_T58 l0 (x : Int)).f0, .int .i64 A, .int .i64 B] 83)) w.heap.size g4 (vn l0 x).1) := ⟨ArrI_below HA5.out (below_alloc (Below.refl _ _) _)⟩
    have HM6 : Aside0 (MapAt (w5.alloc (.cells #[.int .i64 (rd_T58 l0 (x : Int)).f0, .int .i64 A, .int .i64 B] 83)) w.heap.size gm (vn l0 x).2.1) := ⟨MapAt_below HM5.out (below_alloc (Below.refl _ _) _)⟩
    have HO6 : Aside0 (Kd.R (Kd.int .i64) 2 (w5.alloc (.cells #[.int .i64 (rd_T58 l0 (x : Int)).f0, .int .i64 A, .int .i64 B] 83)) w.heap.size (fun _ => True) u8 (vn l0 x).2.2) := ⟨Kd.R_alloc HO5.out _⟩
    have HB6 : Aside0 (Below w.heap.size w (w5.alloc (.cells #[.int .i64 (rd_T58 l0 (x : Int)).f0, .int .i64 A, .int .i64 B] 83))) := ⟨below_alloc HB5.out _⟩
    have HC6 : Aside0 (C4 (w5.alloc (.cells #[.int .i64 (rd_T58 l0 (x : Int)).f0, .int .i64 A, .int .i64 B] 83)) hs (rd_T58 l0 (x : Int))) := ⟨C4_below HC5.out (below_alloc (Below.refl _ _) _)⟩
    have HKB : Aside0 ((w5.alloc (.cells #[.int .i64 (rd_T58 l0 (x : Int)).f0, .int .i64 A, .int .i64 B] 83)).heap[w5.heap.size]? = some (.cells #[.int .i64 (rd_T58 l0 (x : Int)).f0, .int .i64 A, .int .i64 B] 83 (0, 0))) := ⟨heap_alloc_new w5 _⟩
    have HKg : Aside0 (g4 ≠ w5.heap.size ∧ gm ≠ w5.heap.size ∧ hs < w5.heap.size) := ⟨by have h1 := ArrI_lt HA5.out; have h2 := MapAt_lt HM5.out; have h3 := C4_lt HC5.out; omega⟩
    clear HA5 HM5 HO5 HB5 HC5 hc0
    generalize w5.alloc _ = w6 at HA6 HM6 HO6 HB6 HC6 HKB ⊢
    generalize w5.heap.size = hk at HKB HKg ⊢
    by_cases hmem : vkey (vn l0 x).1 (rd_T58 l0 (x : Int)) ∈ (vn l0 x).2.1
    ·have hidx : (vn l0 x).2.1[(vn l0 x).2.1.idxOf (vkey (vn l0 x).1 (rd_T58 l0 (x : Int)))]? = some (vkey (vn l0 x).1 (rd_T58 l0 (x : Int))) := List.getElem?_eq_some_iff.mpr ⟨List.idxOf_lt_length_of_mem hmem, List.getElem_idxOf _⟩
     have HLk := Aside0.mk (look_hit HM6.out HV1.out.nd HV1.out.ok hidx)
     have HNx : Aside0 (vn l0 (x + 1) = ((vn l0 x).1.set (rd_T58 l0 (x : Int)).f1.toNat (32 + ((vn l0 x).2.1.idxOf (vkey (vn l0 x).1 (rd_T58 l0 (x : Int))) : Int)), (vn l0 x).2.1, (vn l0 x).2.2 ++ [32 + ((vn l0 x).2.1.idxOf (vkey (vn l0 x).1 (rd_T58 l0 (x : Int))) : Int)])) := ⟨by simp only [vn]; rw [if_pos hmem]⟩
     clear hmem hidx
     generalize (vn l0 x).2.1.idxOf (vkey (vn l0 x).1 (rd_T58 l0 (x : Int))) = ix at HLk HNx ⊢
     rw [HKe.out] at HLk
     go_upto_region 24 with (first | ((with_reducible refine gate_dst (N := 57) rfl ?_); refine wpList_load_row rfl 83 (.tmp 13) rfl hk rfl 83 _ (0, 0) _ HKB.out Try.underlying83 rfl (by kernel_rfl) ?_) | ((with_reducible refine gate_dst (N := 58) rfl ?_); refine wpList_look rfl 82 _ _ rfl _ HLk.out ?_))
     have hc1 := HC6.out.2.1
     obtain ⟨p1, q1⟩ := ArrI_cell HA6.out (rd_T58 l0 (x : Int)).f1 D0.out D1.out
     have l10 : 0 ≤ (rd_T58 l0 (x : Int)).f1 := D0.out
     have l11 : (rd_T58 l0 (x : Int)).f1 < 32 := by have := D1.out; omega
     go_upto_region 25 with (fail)
     have HA7 : Aside0 (ArrI (w6.setCell ⟨g4, (rd_T58 l0 (x : Int)).f1.toNat, none⟩ (.int .i64 (32 + (ix : Int)))) w.heap.size g4 (vn l0 (x + 1)).1) := ⟨by rw [HNx.out]; exact ArrI_put HA6.out _ _⟩
     have HM7 : Aside0 (MapAt (w6.setCell ⟨g4, (rd_T58 l0 (x : Int)).f1.toNat, none⟩ (.int .i64 (32 + (ix : Int)))) w.heap.size gm (vn l0 (x + 1)).2.1) := ⟨by rw [HNx.out]; obtain ⟨cs, hcs⟩ := ArrI_typed HA6.out; exact MapAt_far HM6.out (fun e => MapAt_ne HM6.out hcs e.symm) _⟩
     have HO7 : Aside0 (Kd.R (Kd.int .i64) 2 (w6.setCell ⟨g4, (rd_T58 l0 (x : Int)).f1.toNat, none⟩ (.int .i64 (32 + (ix : Int)))) w.heap.size (fun _ => True) u8 (vn l0 x).2.2) := ⟨by obtain ⟨cs, hcs⟩ := ArrI_typed HA6.out; exact Kd.R_set HO6.out hcs (by decide) _ _⟩
     have HB7 : Aside0 (Below w.heap.size w (w6.setCell ⟨g4, (rd_T58 l0 (x : Int)).f1.toNat, none⟩ (.int .i64 (32 + (ix : Int))))) := ⟨below_set HB6.out (ArrI_base HA6.out)⟩
     clear HA6 HM6 HO6 HB6 HC6 hc1 p1 q1 l10 l11
     generalize w6.setCell _ _ = w7 at HA7 HM7 HO7 HB7 ⊢
     have HOl : Aside0 ((vn l0 x).2.2.length ≤ 16) := ⟨by have h1 := HV1.out.out; have h2 := HX2.out; have h3 := HL.out; omega⟩
     go_wp2_with ((with_reducible refine gate_builtin (b := .append) (xs := #[.tmp 73, .tmp 75]) rfl ?_); at_builtin; refine Kd.R_append (Kd.int .i64) (w0 := w) w.heap.size rfl (.tmp 73) (.tmp 75) 33 2 (.int .i64 0) 8 rfl Try.underlying33 info2 rfl (by decide) (by omega) u8 (vn l0 x).2.2 ((32 + (ix : Int)) : Int) [.int .i64 (32 + (ix : Int))] (fun _ => True) (fun _ => False) rfl rfl ?aP (fun _ hk => hk.elim) ?aF ?aO ?aB ?aS ?aL ?_; (case aP => exact rfl); (case aB => exact HB7.out); (case aF => exact (fun _ _ => trivial)); (case aO => exact HO7.out); (case aS => exact below_size HB7.out); (case aL => have := HOl.out; omega); intro v173 w15 ho hb hg hat; have HO8 := Aside0.mk ho; have HB8 := Aside0.mk hb; have HG8 := Aside0.mk hg; clear ho hb hg hat)
     go_roundg (l0.length - (x + 1))
     case measure => have := HK.out; have := HX2.out; omega
     case rel =>
      have h1 := HX2.out
      have hA : ArrI w15 w.heap.size g4 (vn l0 (x + 1)).1 := ⟨HA7.out.1, Kd.R_over HA7.out.2 HO7.out (by decide) HG8.out⟩
      have hM : MapAt w15 w.heap.size gm (vn l0 (x + 1)).2.1 := MapAt_move HM7.out (HG8.out.block gm (MapAt_lt HM7.out) (fun e => by obtain ⟨cs, hcs⟩ := Kd.R_typed HO7.out gm e.symm; exact MapAt_ne HM7.out hcs rfl))
      have hO : Kd.R (Kd.int .i64) 2 w15 w.heap.size (fun _ => True) v173 (vn l0 (x + 1)).2.2 := by rw [HNx.out]; exact HO8.out
      exact ⟨x + 1, by first | rfl | rw [HW.out], by rw [HNx.out], ⟨hA⟩, ⟨hM⟩, ⟨hO⟩, ⟨by omega⟩, ⟨by omega⟩, HB8⟩
    ·have HLk := Aside0.mk (look_miss HM6.out HV1.out.ok HKy.out hmem)
     have HNx : Aside0 (vn l0 (x + 1) = ((vn l0 x).1.set (rd_T58 l0 (x : Int)).f1.toNat (32 + ((vn l0 x).2.1.length : Int)), (vn l0 x).2.1 ++ [vkey (vn l0 x).1 (rd_T58 l0 (x : Int))], (vn l0 x).2.2 ++ [32 + ((vn l0 x).2.1.length : Int)])) := ⟨by simp only [vn]; rw [if_neg hmem, List.idxOf_eq_length hmem]⟩
     obtain ⟨wu, hu1, hu2, hu3, hu4⟩ := map_update HM6.out HV1.out.ok HKy.out hmem (32 + ((vn l0 x).2.1.length : Int))
     have HU1 := Aside0.mk hu1
     have HWn : Aside0 (wrap64 (32 + ((vn l0 x).2.1.length : Int) + 1) = 32 + (((vn l0 x).2.1.length : Int) + 1)) := ⟨by have h1 := HV1.out.len; have h2 := HX2.out; have h3 := HL.out; unfold wrap64; omega⟩
     have HAu : Aside0 (ArrI wu w.heap.size g4 (vn l0 x).1) := ⟨⟨HA6.out.1, Kd.R_mono (Kd.R_step (Kd.R_tight rfl HA6.out.2) (fun k hk _ => hu2 k (by rintro rfl; obtain ⟨cs, hcs⟩ := Kd.R_typed HA6.out.2 k hk.symm; exact MapAt_ne HM6.out hcs rfl))) (fun _ _ => trivial)⟩⟩
     have HOu : Aside0 (Kd.R (Kd.int .i64) 2 wu w.heap.size (fun _ => True) u8 (vn l0 x).2.2) := ⟨Kd.R_mono (Kd.R_step (Kd.R_tight rfl HO6.out) (fun k hk _ => hu2 k (by rintro rfl; obtain ⟨cs, hcs⟩ := Kd.R_typed HO6.out k hk.symm; exact MapAt_ne HM6.out hcs rfl))) (fun _ _ => trivial)⟩
     have HBu : Aside0 (Below w.heap.size w wu) := ⟨HB6.out.trans hu3⟩
     have HMu : Aside0 (MapAt wu w.heap.size gm ((vn l0 x).2.1 ++ [vkey (vn l0 x).1 (rd_T58 l0 (x : Int))])) := ⟨hu4 rfl⟩
     have HCu : Aside0 (C4 wu hs (rd_T58 l0 (x : Int))) := ⟨C4_step HC6.out (hu2 hs (by have := HGm.out; omega))⟩
     clear hmem hu1 hu2 hu3 hu4
     rw [HKe.out] at HLk HU1
     have hWn := HWn.out
     go_upto_region 24 with (first | ((with_reducible refine gate_dst (N := 57) rfl ?_); refine wpList_load_row rfl 83 (.tmp 13) rfl hk rfl 83 _ (0, 0) _ HKB.out Try.underlying83 rfl (by kernel_rfl) ?_) | ((with_reducible refine gate_dst (N := 65) rfl ?_); refine wpList_load_row rfl 83 (.tmp 13) rfl hk rfl 83 _ (0, 0) _ HKB.out Try.underlying83 rfl (by kernel_rfl) ?_) | ((with_reducible refine gate_dst (N := 58) rfl ?_); refine wpList_look rfl 82 _ _ rfl _ HLk.out ?_) | (refine wpList_update rfl 82 _ _ _ rfl HU1.out ?_))
     have hc1 := HCu.out.2.1
     obtain ⟨p1, q1⟩ := ArrI_cell HAu.out (rd_T58 l0 (x : Int)).f1 D0.out D1.out
     have l10 : 0 ≤ (rd_T58 l0 (x : Int)).f1 := D0.out
     have l11 : (rd_T58 l0 (x : Int)).f1 < 32 := by have := D1.out; omega
     go_upto_region 25 with (fail)
     have HA7 : Aside0 (ArrI (wu.setCell ⟨g4, (rd_T58 l0 (x : Int)).f1.toNat, none⟩ (.int .i64 (32 + ((vn l0 x).2.1.length : Int)))) w.heap.size g4 (vn l0 (x + 1)).1) := ⟨by rw [HNx.out]; exact ArrI_put HAu.out _ _⟩
     have HM7 : Aside0 (MapAt (wu.setCell ⟨g4, (rd_T58 l0 (x : Int)).f1.toNat, none⟩ (.int .i64 (32 + ((vn l0 x).2.1.length : Int)))) w.heap.size gm (vn l0 (x + 1)).2.1) := ⟨by rw [HNx.out]; obtain ⟨cs, hcs⟩ := ArrI_typed HAu.out; exact MapAt_far HMu.out (fun e => MapAt_ne HMu.out hcs e.symm) _⟩
     have HO7 : Aside0 (Kd.R (Kd.int .i64) 2 (wu.setCell ⟨g4, (rd_T58 l0 (x : Int)).f1.toNat, none⟩ (.int .i64 (32 + ((vn l0 x).2.1.length : Int)))) w.heap.size (fun _ => True) u8 (vn l0 x).2.2) := ⟨by obtain ⟨cs, hcs⟩ := ArrI_typed HAu.out; exact Kd.R_set HOu.out hcs (by decide) _ _⟩
     have HB7 : Aside0 (Below w.heap.size w (wu.setCell ⟨g4, (rd_T58 l0 (x : Int)).f1.toNat, none⟩ (.int .i64 (32 + ((vn l0 x).2.1.length : Int))))) := ⟨below_set HBu.out (ArrI_base HAu.out)⟩
     clear HAu HMu HOu HBu HCu hc1 p1 q1 l10 l11
     generalize wu.setCell _ _ = w7 at HA7 HM7 HO7 HB7 ⊢
     have HOl : Aside0 ((vn l0 x).2.2.length ≤ 16) := ⟨by have h1 := HV1.out.out; have h2 := HX2.out; have h3 := HL.out; omega⟩
     clear hWn
     go_wp2_with ((with_reducible refine gate_builtin (b := .append) (xs := #[.tmp 73, .tmp 75]) rfl ?_); at_builtin; refine Kd.R_append (Kd.int .i64) (w0 := w) w.heap.size rfl (.tmp 73) (.tmp 75) 33 2 (.int .i64 0) 8 rfl Try.underlying33 info2 rfl (by decide) (by omega) u8 (vn l0 x).2.2 ((32 + ((vn l0 x).2.1.length : Int)) : Int) [.int .i64 (32 + ((vn l0 x).2.1.length : Int))] (fun _ => True) (fun _ => False) rfl rfl ?aP (fun _ hk => hk.elim) ?aF ?aO ?aB ?aS ?aL ?_; (case aP => exact rfl); (case aB => exact HB7.out); (case aF => exact (fun _ _ => trivial)); (case aO => exact HO7.out); (case aS => exact below_size HB7.out); (case aL => have := HOl.out; omega); intro v173 w15 ho hb hg hat; have HO8 := Aside0.mk ho; have HB8 := Aside0.mk hb; have HG8 := Aside0.mk hg; clear ho hb hg hat)
     go_roundg (l0.length - (x + 1))
     case measure => have := HK.out; have := HX2.out; omega
     case rel =>
      have h1 := HX2.out
      have hA : ArrI w15 w.heap.size g4 (vn l0 (x + 1)).1 := ⟨HA7.out.1, Kd.R_over HA7.out.2 HO7.out (by decide) HG8.out⟩
      have hM : MapAt w15 w.heap.size gm (vn l0 (x + 1)).2.1 := MapAt_move HM7.out (HG8.out.block gm (MapAt_lt HM7.out) (fun e => by obtain ⟨cs, hcs⟩ := Kd.R_typed HO7.out gm e.symm; exact MapAt_ne HM7.out hcs rfl))
      have hO : Kd.R (Kd.int .i64) 2 w15 w.heap.size (fun _ => True) v173 (vn l0 (x + 1)).2.2 := by rw [HNx.out]; exact HO8.out
      exact ⟨x + 1, by first | rfl | rw [HW.out], by rw [HNx.out, HWn.out, List.length_append]; rfl, ⟨hA⟩, ⟨hM⟩, ⟨hO⟩, ⟨by omega⟩, ⟨by omega⟩, HB8⟩
/-! ### impl_isBits: function 112 -/
def impl_isBits.f (a0 : Int) : Option (Bool) := if a0 = 4 then (some true) else (if a0 = 8 then (some true) else (some (a0 == 16)))
set_option maxHeartbeats 8000000 in
set_option maxRecDepth 100000 in
theorem impl_isBits.calls (a0 : Int) (r : Bool) (w : World) (h : impl_isBits.f a0 = some r) :
  Calls Try.prog 112 #[.int .i64 a0] w fun e w' => e = .returned (.bool r) ∧ Drawn0 w w' := by
 have H : (if a0 = 4 then (some true) else (if a0 = 8 then (some true) else (some (a0 == 16)))) = some r := h
 clear h
 by_cases c2 : a0 = 4
 ·rw [if_pos c2] at H
  have c2b0 : (a0 == 4) = true := beq_iff_eq.mpr c2
  have c2b1 : (a0 != 4) = false := bne_eq_false_iff_eq.mpr c2
  clear c2
  obtain rfl := Option.some.inj H
  go_enter Try.func112, Try.ntmps112
  go_wp2
  go_ret
  exact ⟨by first | rfl | (simp; done) | (simp [*]; done), by repeat (first | exact Drawn0.refl _ | apply Drawn0.step)⟩
 rw [if_neg c2] at H
 have c2b0 : (a0 == 4) = false := beq_eq_false_iff_ne.mpr c2
 have c2b1 : (a0 != 4) = true := bne_iff_ne.mpr c2
 by_cases c3 : a0 = 8
 rotate_left
 ·rw [if_neg c3] at H
  have c3b0 : (a0 == 8) = false := beq_eq_false_iff_ne.mpr c3
  have c3b1 : (a0 != 8) = true := bne_iff_ne.mpr c3
  obtain rfl := Option.some.inj H
  go_enter Try.func112, Try.ntmps112
  go_wp2
  go_ret
  exact ⟨by first | rfl | (simp; done) | (simp [*]; done), by repeat (first | exact Drawn0.refl _ | apply Drawn0.step)⟩
 rw [if_pos c3] at H
 have c3b0 : (a0 == 8) = true := beq_iff_eq.mpr c3
 have c3b1 : (a0 != 8) = false := bne_eq_false_iff_eq.mpr c3
 clear c3
 obtain rfl := Option.some.inj H
 go_enter Try.func112, Try.ntmps112
 go_wp2
 go_ret
 exact ⟨by first | rfl | (simp; done) | (simp [*]; done), by repeat (first | exact Drawn0.refl _ | apply Drawn0.step)⟩
theorem iBits (b : Int) : impl_isBits.f b = some (decide (Bits b)) := by
 unfold impl_isBits.f Bits
 by_cases h : b = 4
 ·simp [h]
 by_cases h8 : b = 8
 ·simp [h8]
 simp only [if_neg h, if_neg h8]; congr 1
 by_cases h16 : b = 16 <;> simp [h, h8, h16]

/-! ### impl_IsWord: function 114 -/
def impl_IsWord.f (a0 : Int) (a1 : Int) : Option (Bool) := (impl_isBits.f a0).bind fun t161 => (if t161 = true then (if 0 ≤ a0 then ((impl_within.f a1 0 (wrap64 ((shl .i64 1 a0) - 1))).bind fun t162 => (some t162)) else (none)) else (some false))
set_option maxHeartbeats 8000000 in
set_option maxRecDepth 100000 in
theorem impl_IsWord.calls (a0 : Int) (a1 : Int) (r : Bool) (w : World) (h : impl_IsWord.f a0 a1 = some r) :
  Calls Try.prog 114 #[.int .i64 a0, .int .i64 a1] w fun e w' => e = .returned (.bool r) ∧ Drawn0 w w' := by
 have H : ((impl_isBits.f a0).bind fun t161 => (if t161 = true then (if 0 ≤ a0 then ((impl_within.f a1 0 (wrap64 ((shl .i64 1 a0) - 1))).bind fun t162 => (some t162)) else (none)) else (some false))) = some r := h
 clear h
 replace H := Option.bind_eq_some_iff.mp H
 obtain ⟨t161, A30, H⟩ := H
 try dsimp only at H
 have A3 := Aside0.mk A30
 clear A30
 by_cases c4 : t161 = true
 rotate_left
 ·replace c4 := Bool.eq_false_iff.mpr c4
  subst c4
  rw [if_neg (show ¬ (false = true) by decide)] at H
  obtain rfl := Option.some.inj H
  go_enter Try.func114, Try.ntmps114
  go_wp2_with (first | ((with_reducible refine gate_callee (f := 112) rfl ?_); refine goesL_ (some 6) rfl rfl Try.func112 (by kernel_rfl) rfl #[.int .i64 a0] rfl (by (try simp only [List.map_toArray, List.map_cons, List.map_nil]); first | done | rfl | (simp only [List.length_drop, List.length_take]; rfl)) ?_; (with_reducible refine (impl_isBits.calls a0 false _ A3.out).mono ?_); rintro e w' ⟨rfl, ⟨nd, rfl⟩⟩; refine ⟨_, rfl, ?_⟩))
  go_ret
  exact ⟨by first | rfl | (simp; done) | (simp [*]; done), by repeat (first | exact Drawn0.refl _ | apply Drawn0.step)⟩
 subst c4
 rw [if_pos rfl] at H
 by_cases c5 : 0 ≤ a0
 rotate_left
 ·rw [if_neg c5] at H
  exact absurd H (by simp)
 rw [if_pos c5] at H
 have c5b0 := eq_true c5
 have c5b1 : decide (0 ≤ a0) = true := decide_eq_true c5
 clear c5
 obtain ⟨ji6, hji6⟩ : ∃ j_ : Int, (shl .i64 1 a0) = j_ := ⟨_, rfl⟩
 replace H : ((impl_within.f a1 0 (wrap64 ((ji6) - 1))).bind fun t162 => (some t162)) = some r := by first | (rw [hji6] at H; exact H) | (simp only [hji6] at H ⊢; exact H)
 (try rw [hji6] at A3)
 have hji6_ : (IntKind.i64.wrap (1 * 2 ^ min a0.toNat 64)) = ji6 := hji6
 have hji6z : a0 ≤ 64 → (IntKind.i64.wrap (1 * 2 ^ a0.toNat)) = ji6 := shl_small hji6
 have hji6u : (IntKind.i64.wrap (2 ^ min a0.toNat 64)) = ji6 := by have h_ := hji6_; rw [Int.one_mul] at h_; exact h_
 have hji6v : a0 ≤ 64 → (IntKind.i64.wrap (2 ^ a0.toNat)) = ji6 := fun hle_ => by have h_ := hji6z hle_; rw [Int.one_mul] at h_; exact h_
 have hji6y : (wrap64 (1 * 2 ^ min a0.toNat 64)) = ji6 := (i64_w _).symm.trans hji6_
 have hji6x : a0 ≤ 64 → (wrap64 (1 * 2 ^ a0.toNat)) = ji6 := fun h_ => (i64_w _).symm.trans (hji6z h_)
 replace H := Option.bind_eq_some_iff.mp H
 obtain ⟨t162, A70, H⟩ := H
 try dsimp only at H
 have A7 := Aside0.mk A70
 clear A70
 obtain rfl := Option.some.inj H
 go_enter Try.func114, Try.ntmps114
 go_wp2_with (first | ((with_reducible refine gate_callee (f := 112) rfl ?_); refine goesL_ (some 6) rfl rfl Try.func112 (by kernel_rfl) rfl #[.int .i64 a0] rfl (by (try simp only [List.map_toArray, List.map_cons, List.map_nil]); first | done | rfl | (simp only [List.length_drop, List.length_take]; rfl)) ?_; (with_reducible refine (impl_isBits.calls a0 true _ A3.out).mono ?_); rintro e w' ⟨rfl, ⟨nd, rfl⟩⟩; refine ⟨_, rfl, ?_⟩) | (go_at_call 100; (with_reducible refine (impl_within.calls a1 0 (wrap64 ((ji6) - 1)) t162 _ A7.out).mono ?_); rintro e w' ⟨rfl, ⟨nd, rfl⟩⟩))
 go_ret
 exact ⟨by first | rfl | (simp; done) | (simp only [← hji6] <;> (first | rfl | simp)) | (simp [*]; done), by repeat (first | exact Drawn0.refl _ | apply Drawn0.step)⟩
theorem iWord (b x : Int) : impl_IsWord.f b x = some (decide (Word b x)) := by
 unfold impl_IsWord.f
 rw [iBits]
 by_cases h : Bits b
 rotate_left
 ·simp [Word, h]

 simp only [h, decide_true, Option.bind_some, if_true]
 have hb := h
 rcases hb with rfl | rfl | rfl
 ·rw [if_pos (by omega), shl4, w_small (by omega), iIn]
  simp only [Option.bind_some]; exact congrArg some (decide_eq_decide.mpr ⟨fun hh => ⟨h, by rw [M4]; omega⟩, fun hh => by have := hh.2; rw [M4] at this; omega⟩)
 ·rw [if_pos (by omega), shl8, w_small (by omega), iIn]
  simp only [Option.bind_some]; exact congrArg some (decide_eq_decide.mpr ⟨fun hh => ⟨h, by rw [M8]; omega⟩, fun hh => by have := hh.2; rw [M8] at this; omega⟩)
 ·rw [if_pos (by omega), shl16, w_small (by omega), iIn]
  simp only [Option.bind_some]; exact congrArg some (decide_eq_decide.mpr ⟨fun hh => ⟨h, by rw [M16]; omega⟩, fun hh => by have := hh.2; rw [M16] at this; omega⟩)
/-! ### impl_areCells: function 90 -/
/-- The words of all cells. -/
def celB (b : Int) (l : List Int) : Bool := decide (Bits b) && (decide (l.length = 32) && (List.range l.length).all fun j => decide (Word b (rd l (j : Int))))
def impl_areCells.f (a0 : Int) (l1 : List Int) : Option (Bool) := some (celB a0 l1)
set_option maxHeartbeats 4000000 in
theorem impl_areCells.lit (b x : Int) (B : Nat) (W : World) (hc : W.cell? ⟨B, 0, none⟩ = some (.int .i64 b)) :
  Calls Try.prog 113 #[.int .i64 x, .pointer (some ⟨B, 0, none⟩)] W fun e w' => e = .returned (.bool (decide (Word b x))) ∧ Below W.heap.size W w' := by
 go_enter Try.func113, Try.ntmps113
 go_wp2_with (go_at_call 114; (with_reducible refine (impl_IsWord.calls b x _ _ (iWord b x)).mono ?_); rintro e w' ⟨rfl, ⟨nd, rfl⟩⟩)
 go_ret
 exact ⟨rfl, pw_below_drewN (Below.refl _ _) _⟩
set_option maxHeartbeats 8000000 in
set_option maxRecDepth 100000 in
theorem impl_areCells.calls (a0 : Int) (A1 : Option Addr) (c1 : Nat) (l1 : List Int) (r : Bool) (w : World) (hr1 : Kd.C (Kd.int .i64) w A1 l1.length l1) (hc1 : l1.length ≤ c1) (h : impl_areCells.f a0 l1 = some r) :
  Calls Try.prog 90 #[.int .i64 a0, .slice A1 l1.length c1] w fun e w' => e = .returned (.bool r) ∧ Below w.heap.size w w' := by
 obtain rfl := Option.some.inj h
 have HR := Aside0.mk hr1
 have HC := Aside0.mk hc1
 clear h hr1 hc1
 have hA := fun (W : World) (hB : Below w.heap.size w W) (hB2 : w.heap.size < W.heap.size) (hc : W.cell? ⟨w.heap.size, 0, none⟩ = some (.int .i64 a0)) =>
  areAll_i 113 #[.pointer (some ⟨w.heap.size, 0, none⟩)] (enters_of Try.func113 (by kernel_rfl) rfl) A1 l1.length c1 _ (fun j => decide (Word a0 (rd l1 (j : Int)))) W
   (ElemsI.of_ints (Kd.C_below HR.out hB))
   (fun j hj W' hb' => impl_areCells.lit a0 (rd l1 (j : Int)) w.heap.size W' ((hb'.cell (p := ⟨w.heap.size, 0, none⟩) hB2).trans hc))
 have HA := Aside0.mk hA
 clear hA
 by_cases hb : Bits a0
 rotate_left
 ·have HBT := Aside0.mk hb
  have HV : Aside0 (celB a0 l1 = false) := ⟨by unfold celB; simp [hb]⟩
  clear hb
  go_enter Try.func90, Try.ntmps90
  go_wp2_with (first | (go_at_call 112; (with_reducible refine (impl_isBits.calls a0 false _ (by rw [iBits, decide_eq_false HBT.out])).mono ?_); rintro e w' ⟨rfl, ⟨nd, rfl⟩⟩))
  go_ret
  refine ⟨by rw [HV.out]; rfl, ?_⟩
  repeat (first | exact Below.refl _ _ | apply below_alloc | apply pw_below_drewN | apply below_drew1)

 have HBT := Aside0.mk hb
 by_cases hl : l1.length = 32
 ·have HL := Aside0.mk hl
  have hlb : ((l1.length : Int) == 32) = true := beq_iff_eq.mpr (by omega)
  have HV : Aside0 (celB a0 l1 = (List.range l1.length).all fun j => decide (Word a0 (rd l1 (j : Int)))) := ⟨by unfold celB; rw [decide_eq_true hb, decide_eq_true hl]; rfl⟩
  have hlc : (l1.length == 32) = true := beq_iff_eq.mpr hl
  clear hb hl
  go_enter Try.func90, Try.ntmps90
  go_wp2_with (first | (go_at_call 112; (with_reducible refine (impl_isBits.calls a0 true _ (by rw [iBits, decide_eq_true HBT.out])).mono ?_); rintro e w' ⟨rfl, ⟨nd, rfl⟩⟩) | (go_at_call 86; refine (HA.out _ ?a1 ?a2 ?a3).mono ?_; (case a1 => repeat (first | exact Below.refl _ _ | apply below_alloc | apply pw_below_drewN | apply below_drew1)); (case a2 => simp); (case a3 => simp); rintro e w' ⟨rfl, hb⟩))
  go_ret
  refine ⟨by rw [HV.out]; rfl, below_step ?_ hb⟩
  repeat (first | exact Below.refl _ _ | apply below_alloc | apply pw_below_drewN | apply below_drew1)
 have HL := Aside0.mk hl
 have hlb : ((l1.length : Int) == 32) = false := beq_eq_false_iff_ne.mpr (by omega)
 have hlb2 : (l1.length = 32) = False := eq_false hl
 have HV : Aside0 (celB a0 l1 = false) := ⟨by unfold celB; simp [hl]⟩
 clear hb hl
 go_enter Try.func90, Try.ntmps90
 go_wp2_with (first | (go_at_call 112; (with_reducible refine (impl_isBits.calls a0 true _ (by rw [iBits, decide_eq_true HBT.out])).mono ?_); rintro e w' ⟨rfl, ⟨nd, rfl⟩⟩))
 go_ret
 refine ⟨by rw [HV.out]; rfl, ?_⟩
 repeat (first | exact Below.refl _ _ | apply below_alloc | apply pw_below_drewN | apply below_drew1)
end Go.Proofs.Yteknfebehafbdaa.K
