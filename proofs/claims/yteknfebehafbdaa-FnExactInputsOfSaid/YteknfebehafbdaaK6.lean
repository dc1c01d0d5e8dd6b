-- Laid by a program of this session.
import Derived.Test.YteknfebehafbdaaK0
import Derived.Test.YteknfebehafbdaaK4
import Derived.Test.YteknfebehafbdaaH0
import Derived.Test.YteknfebehafbdaaH4
import Derived.Test.YteknfebehafbdaaK1
import Derived.Test.YteknfebehafbdaaK3
import Derived.Test.YteknfebehafbdaaK5
namespace Go.Proofs.Yteknfebehafbdaa.K
open Go.RowKit Go.Proofs.YteknfebehafbdaaW.PrintWords Go.Proofs.YteknfebehafbdaaW.PrintLast Go.Proofs.YteknfebehafbdaaW.PrintMore Go.Proofs.Yteknfebehafbdaa.Bx Go.Shelf
attribute [local go_sem] max2_int min2_int max_two min_two max_three min_three max_four min_four   -- for this text's walks alone
set_option linter.unusedVariables false
set_option linter.unusedSimpArgs false

/-! ### spec_l03Inputs: function 82 -/
mutual
def spec_l03Inputs.l0 : Nat → List (S58) → List Int → List Int → Int → Option (List Int)
 | 0, _, _, _, _ => none
 | k + 1, x0, x3, x4, x5 => if x5 < (x0.length : Int) then (if 0 ≤ x5 then ((spec_l00Has.f k x4 ((rd_T58 x0 x5).f2)).bind fun t245 => (if t245 = true then (spec_l03Inputs.j1 k x0 x3 x4 x5) else ((spec_l00Put.f k x3 ((rd_T58 x0 x5).f2)).bind fun t247 => (spec_l03Inputs.j1 k x0 t247 x4 x5)))) else (none)) else (some x3)
def spec_l03Inputs.j1 : Nat → List (S58) → List Int → List Int → Int → Option (List Int)
 | 0, _, _, _, _ => none
 | k + 1, x0, x3, x4, x5 => if 0 ≤ x5 then (if x5 < (x0.length : Int) then ((spec_l00Has.f k x4 ((rd_T58 x0 x5).f3)).bind fun t251 => (if t251 = true then ((spec_l00Put.f k x4 ((rd_T58 x0 x5).f1)).bind fun t253 => (spec_l03Inputs.l0 k x0 x3 t253 (wrap64 (x5 + 1)))) else ((spec_l00Put.f k x3 ((rd_T58 x0 x5).f3)).bind fun t257 => ((spec_l00Put.f k x4 ((rd_T58 x0 x5).f1)).bind fun t261 => (spec_l03Inputs.l0 k x0 t257 t261 (wrap64 (x5 + 1))))))) else (none)) else (none)
end
def spec_l03Inputs.f (k : Nat) (l0 : List (S58)) : Option (List Int) := spec_l03Inputs.l0 k l0 (([] : List Int)) (([] : List Int)) 0
theorem spec_l03Inputs.mono_l : ∀ k, (∀ y0 y1 y2 y3, LeO (spec_l03Inputs.l0 k y0 y1 y2 y3) (spec_l03Inputs.l0 (k + 1) y0 y1 y2 y3)) ∧ (∀ y0 y1 y2 y3, LeO (spec_l03Inputs.j1 k y0 y1 y2 y3) (spec_l03Inputs.j1 (k + 1) y0 y1 y2 y3))
 | 0 => ⟨fun _ _ _ _ r h => by simp [spec_l03Inputs.l0] at h, fun _ _ _ _ r h => by simp [spec_l03Inputs.j1] at h⟩
 | k + 1 => by
  obtain ⟨ih0, ih1⟩ := spec_l03Inputs.mono_l k
  refine ⟨?_, ?_⟩
  ·intro y0 y1 y2 y3
   unfold spec_l03Inputs.l0
   repeat' first
   | (with_reducible exact ih0 _ _ _ _)
   | (with_reducible exact ih1 _ _ _ _)
   | (with_reducible exact spec_l00Has.mono _ _ _)
   | (with_reducible exact spec_l00Put.mono _ _ _)
   | (with_reducible exact LeO.refl _)
   | (with_reducible exact LeO.none _)
   | (with_reducible refine LeO.ite ?_ ?_)
   | (with_reducible refine LeO.bind ?_ (fun _ => ?_))
   | exact ih0 _ _ _ _
   | exact ih1 _ _ _ _
   | exact spec_l00Has.mono _ _ _
   | exact spec_l00Put.mono _ _ _
   | exact LeO.none _
   | refine LeO.ite ?_ ?_
   | refine LeO.bind ?_ (fun _ => ?_)
  ·intro y0 y1 y2 y3
   unfold spec_l03Inputs.j1
   repeat' first
   | (with_reducible exact ih0 _ _ _ _)
   | (with_reducible exact ih1 _ _ _ _)
   | (with_reducible exact spec_l00Has.mono _ _ _)
   | (with_reducible exact spec_l00Put.mono _ _ _)
   | (with_reducible exact LeO.refl _)
   | (with_reducible exact LeO.none _)
   | (with_reducible refine LeO.ite ?_ ?_)
   | (with_reducible refine LeO.bind ?_ (fun _ => ?_))
   | exact ih0 _ _ _ _
   | exact ih1 _ _ _ _
   | exact spec_l00Has.mono _ _ _
   | exact spec_l00Put.mono _ _ _
   | exact LeO.none _
   | refine LeO.ite ?_ ?_
   | refine LeO.bind ?_ (fun _ => ?_)
theorem spec_l03Inputs.mono : ∀ a0 k, LeO (spec_l03Inputs.f k a0) (spec_l03Inputs.f (k + 1) a0) := by
 intro a0 k
 obtain ⟨ih0, ih1⟩ := spec_l03Inputs.mono_l k
 unfold spec_l03Inputs.f
 repeat' first
   | (with_reducible exact ih0 _ _ _ _)
   | (with_reducible exact ih1 _ _ _ _)
   | (with_reducible exact spec_l00Has.mono _ _ _)
   | (with_reducible exact spec_l00Put.mono _ _ _)
   | (with_reducible exact LeO.refl _)
   | (with_reducible exact LeO.none _)
   | (with_reducible refine LeO.ite ?_ ?_)
   | (with_reducible refine LeO.bind ?_ (fun _ => ?_))
   | exact ih0 _ _ _ _
   | exact ih1 _ _ _ _
   | exact spec_l00Has.mono _ _ _
   | exact spec_l00Put.mono _ _ _
   | exact LeO.none _
   | refine LeO.ite ?_ ?_
   | refine LeO.bind ?_ (fun _ => ?_)
set_option maxHeartbeats 8000000 in
set_option maxRecDepth 100000 in
theorem spec_l03Inputs.calls (k : Nat) (A0 : Option Addr) (c0 : Nat) (l0 : List (S58)) (r : List Int) (w : World) (hr0 : Kd.C k58 w A0 l0.length l0) (hc0 : l0.length ≤ c0) (h : spec_l03Inputs.f k l0 = some r) :
  Calls Try.prog 82 #[.slice A0 l0.length c0] w fun e w' => ∃ v0_ : Value, e = .returned (v0_) ∧ Kd.R (Kd.int .i64) 2 w' w.heap.size (fun _ => True) v0_ r ∧ Below w.heap.size w w' := by
 have HR0 := Aside0.mk hr0
 have HC0 := Aside0.mk hc0
 clear hr0 hc0
 have HB := Aside0.mk (Below.refl w.heap.size w)
 have H : (spec_l03Inputs.l0 k l0 (([] : List Int)) (([] : List Int)) 0) = some r := h
 clear h
 obtain ⟨y238, hy238⟩ : ∃ y_ : List Int, y_ = (([] : List Int)) := ⟨_, rfl⟩
 replace H : (spec_l03Inputs.l0 k l0 y238 (([] : List Int)) 0) = some r := by first | (rw [hy238]; with_reducible exact H) | (have H2_ := (Option.bind_some _ _).symm.trans H; rw [hy238]; with_reducible exact H2_) | (have H2_ := (Option.bind_some _ _).symm.trans H; with_reducible exact H2_) | with_reducible exact H | (rw [hy238]; exact H) | exact H
 have Ny238 := Aside0.mk hy238
 clear hy238
 obtain ⟨y241, hy241⟩ : ∃ y_ : List Int, y_ = (([] : List Int)) := ⟨_, rfl⟩
 replace H : (spec_l03Inputs.l0 k l0 y238 y241 0) = some r := by first | (rw [hy241]; with_reducible exact H) | (have H2_ := (Option.bind_some _ _).symm.trans H; rw [hy241]; with_reducible exact H2_) | (have H2_ := (Option.bind_some _ _).symm.trans H; with_reducible exact H2_) | with_reducible exact H | (rw [hy241]; exact H) | exact H
 have Ny241 := Aside0.mk hy241
 clear hy241
 have H' := Aside0.mk H
 clear H
 go_enter Try.func82, Try.ntmps82
 go_wp2_with (first | ((with_reducible refine gate_dst (N := 6) rfl ?_); refine Kd.R_lit (Kd.int .i64) _ 2 ?hg (N := 6) ?hd (xs := ([] : List Int)) (inner := []) (ok := fun _ => True) (okp := fun _ => True) ?hr ?hp (fun _ hk => hk) trivial (Below.refl _ _) (Nat.le_refl _) (by simp) ?_; (case hd => rfl); (case hg => rfl); (case hr => first | (go_simp; done) | (go_simp; rfl)); (case hp => exact (Reps.none _ _)); intro v239 w2 ho3 hb hg_ hnew_; clear hg_ hnew_; (first | rw [← Ny238.out] at ho3 | (simp only [Int.reduceToNat] at ho3; rw [← Ny238.out] at ho3)); have n0_ := Aside0.mk (Kd.R_lower ho3 (below_size (by repeat (first | (with_reducible first | exact HB.out | apply below_alloc | apply pw_below_drewN | apply below_drew1) | exact HB.out)))); have n1_ := Aside0.mk (below_step (by repeat (first | (with_reducible first | exact HB.out | apply below_alloc | apply pw_below_drewN | apply below_drew1) | exact HB.out)) hb); clear HB; have HO240 := n0_; have HB := n1_; clear n0_ n1_; clear hb ho3) | ((with_reducible refine gate_dst (N := 7) rfl ?_); refine Kd.R_lit (Kd.int .i64) _ 2 ?hg (N := 7) ?hd (xs := ([] : List Int)) (inner := []) (ok := fun _ => True) (okp := fun _ => True) ?hr ?hp (fun _ hk => hk) trivial (Below.refl _ _) (Nat.le_refl _) (by simp) ?_; (case hd => rfl); (case hg => rfl); (case hr => first | (go_simp; done) | (go_simp; rfl)); (case hp => exact (Reps.none _ _)); intro v242 w4 ho5 hb hg_ hnew_; clear hg_ hnew_; (first | rw [← Ny241.out] at ho5 | (simp only [Int.reduceToNat] at ho5; rw [← Ny241.out] at ho5)); have n0_ := Aside0.mk (Kd.R_elder' (by (with_reducible repeat (first | apply Kd.R_alloc | apply Kd.R_drewN | apply Kd.R_drew)); exact HO240.out) (Kd.R_base ho5) hb); have n1_ := Aside0.mk (Kd.R_lower (Kd.R_new' ho5 (Kd.R_lt (by (with_reducible repeat (first | apply Kd.R_alloc | apply Kd.R_drewN | apply Kd.R_drew)); exact HO240.out))) (below_size (by repeat (first | (with_reducible first | exact HB.out | apply below_alloc | apply pw_below_drewN | apply below_drew1) | exact HB.out)))); have n2_ := Aside0.mk (below_step (by repeat (first | (with_reducible first | exact HB.out | apply below_alloc | apply pw_below_drewN | apply below_drew1) | exact HB.out)) hb); clear HO240; clear HB; have HO240 := n0_; have HO243 := n1_; have HB := n2_; clear n0_ n1_ n2_; clear hb ho5))
 go_loopg [3, 4, 5] k (fun kq v3 v4 v5 w' => ∃ (x3_1 : List Int) (x4_1 : List Int) (x5_1 : Int), v5 = .int .i64 x5_1 ∧ Aside0 (spec_l03Inputs.l0 kq l0 x3_1 x4_1 x5_1 = some r) ∧ Aside0 (kq ≤ k) ∧ Aside0 (Kd.R (Kd.int .i64) 2 w' w.heap.size (fun k_ => some k_ ≠ (v4 : Value).ownBlock) v3 x3_1) ∧ Aside0 (Kd.R (Kd.int .i64) 2 w' w.heap.size (fun k_ => some k_ ≠ (v3 : Value).ownBlock) v4 x4_1) ∧ Aside0 (Below w.heap.size w w'))
 case atStart => exact ⟨(y238), (y241), (0), (by first | rfl | (simp; done) | (simp [*]; done)), H', ⟨Nat.le_refl _⟩, ⟨by (with_reducible repeat (first | apply Kd.R_alloc | apply Kd.R_drewN | apply Kd.R_drew)); exact Kd.R_mono HO240.out (fun _ hk => hk.2)⟩, ⟨by (with_reducible repeat (first | apply Kd.R_alloc | apply Kd.R_drewN | apply Kd.R_drew)); exact Kd.R_mono HO243.out (fun _ hk => hk.2)⟩, ⟨by repeat (first | (with_reducible first | exact HB.out | apply below_alloc | apply pw_below_drewN | apply below_drew1) | exact HB.out)⟩⟩
 case round =>
  clear H'
  try clear p2
  obtain ⟨x3_1, x4_1, x5_1, rfl, HA, HK1, HO_3, HO_4, HB⟩ := hrel
  cases gk with
  | zero => exact absurd HA.out (by simp [spec_l03Inputs.l0])
  | succ k1 =>
   have H := HA.out
   clear HA
   simp only [spec_l03Inputs.l0] at H
   by_cases c6 : x5_1 < (l0.length : Int)
   rotate_left
   ·rw [if_neg c6] at H
    have c6b0 : decide (x5_1 < (l0.length : Int)) = false := decide_eq_false c6
    clear c6
    obtain rfl := Option.some.inj H
    go_wp2
    go_ret
    exact ⟨_, by first | rfl | (simp [errW_none, errW_some] <;> rfl) | (simp [*, errW_none, errW_some] <;> rfl), by (with_reducible repeat (first | apply Kd.R_alloc | apply Kd.R_drewN | apply Kd.R_drew)); exact Kd.R_mono HO_3.out (fun _ hk => trivial), by repeat (first | (with_reducible first | exact HB.out | apply below_alloc | apply pw_below_drewN | apply below_drew1) | exact HB.out)⟩

   rw [if_pos c6] at H
   have c6b0 : decide (x5_1 < (l0.length : Int)) = true := decide_eq_true c6
   clear c6
   by_cases c7 : 0 ≤ x5_1
   rotate_left
   ·rw [if_neg c7] at H
    exact absurd H (by simp)
   rw [if_pos c7] at H
   have c7b0 : decide (0 ≤ x5_1) = true := decide_eq_true c7
   clear c7
   replace H := Option.bind_eq_some_iff.mp H
   obtain ⟨t245, A80, H⟩ := H
   try dsimp only at H
   have A8 := Aside0.mk A80
   clear A80
   have HC9 := Aside0.mk H
   clear H
   have p244 : 0 ≤ (x5_1 : Int) := of_decide_eq_true (by first | (with_reducible assumption) | assumption)
   have q244 : x5_1 < (l0.length : Int) := of_decide_eq_true (by first | (with_reducible assumption) | assumption)
   obtain ⟨ad244, e244, hx244_0, hx244_1, hx244_2, hx244_3⟩ := at_T58 HR0.out x5_1 p244 q244
   cases e244
   replace hx244_0 := (HB.out.cell (World.block_lt_of_cell? w _ hx244_0)).trans hx244_0
   replace hx244_1 := (HB.out.cell (World.block_lt_of_cell? w _ hx244_1)).trans hx244_1
   replace hx244_2 := (HB.out.cell (World.block_lt_of_cell? w _ hx244_2)).trans hx244_2
   replace hx244_3 := (HB.out.cell (World.block_lt_of_cell? w _ hx244_3)).trans hx244_3
   replace p244 := eq_true p244
   replace q244 := eq_true q244
   obtain ⟨Ao10, co10, eo10⟩ := Kd.R_slice HO_4.out
   subst eo10
   go_upto_if 21 with (first | ((with_reducible refine gate_callee (f := 101) rfl ?_); refine goesL_ (some 20) rfl rfl Try.func101 (by kernel_rfl) rfl #[.slice Ao10 x4_1.length co10, .int .i64 ((rd_T58 l0 x5_1).f2)] rfl (by (try simp only [List.map_toArray, List.map_cons, List.map_nil]); first | done | rfl | (simp only [List.length_drop, List.length_take]; rfl)) ?_; (with_reducible refine (spec_l00Has.calls k1 _ _ x4_1 ((rd_T58 l0 x5_1).f2) t245 _ ?side1 ?side2 A8.out).mono ?_); (case side1 => repeat (first | exact (Kd.R_reads' HO_4.out).2.2 | (with_reducible refine Kd.C_alloc ?_ _) | (with_reducible refine Kd.C_drewN ?_ _) | (with_reducible refine Kd.C_drew ?_))); (case side2 => exact (Kd.R_reads' HO_4.out).2.1); rintro e w' ⟨rfl, ⟨nd, rfl⟩⟩; refine ⟨_, rfl, ?_⟩))
   (try simp only [Act.put, List.setIfInBounds_toArray, List.set_cons_zero, List.set_cons_succ])
   go_cut [3] (fun v3 wc => ∃ (kq : Nat) (x3_8 : List Int), Aside0 (spec_l03Inputs.j1 kq l0 x3_8 x4_1 x5_1 = some r) ∧ Aside0 (kq ≤ k1) ∧ Aside0 (Kd.R (Kd.int .i64) 2 wc w.heap.size (fun k_ => some k_ ≠ ((.slice Ao10 x4_1.length co10) : Value).ownBlock) v3 x3_8) ∧ Aside0 (Kd.R (Kd.int .i64) 2 wc w.heap.size (fun k_ => some k_ ≠ (v3 : Value).ownBlock) (.slice Ao10 x4_1.length co10) x4_1) ∧ Aside0 (Below w.heap.size w wc))
   case first =>
    have H := HC9.out
    clear HC9
    by_cases c11 : t245 = true
    ·subst c11
     rw [if_pos rfl] at H
     have H' := Aside0.mk H
     clear H
     go_wp2
     go_meet
     case rel => exact ⟨_, (x3_1), H', ⟨by have := HK1.out; first | omega | exact Nat.le_refl _⟩, ⟨by (with_reducible repeat (first | apply Kd.R_alloc | apply Kd.R_drewN | apply Kd.R_drew)); exact HO_3.out⟩, ⟨by (with_reducible repeat (first | apply Kd.R_alloc | apply Kd.R_drewN | apply Kd.R_drew)); exact HO_4.out⟩, ⟨by repeat (first | (with_reducible first | exact HB.out | apply below_alloc | apply pw_below_drewN | apply below_drew1) | exact HB.out)⟩⟩
    replace c11 := Bool.eq_false_iff.mpr c11
    subst c11
    rw [if_neg (show ¬ (false = true) by decide)] at H
    replace H := Option.bind_eq_some_iff.mp H
    obtain ⟨t247, A120, H⟩ := H
    try dsimp only at H
    have A12 := Aside0.mk A120
    clear A120
    have H' := Aside0.mk H
    clear H
    have p246 : 0 ≤ (x5_1 : Int) := of_decide_eq_true (by first | (with_reducible assumption) | assumption)
    have q246 : x5_1 < (l0.length : Int) := of_decide_eq_true (by first | (with_reducible assumption) | assumption)
    obtain ⟨ad246, e246, hx246_0, hx246_1, hx246_2, hx246_3⟩ := at_T58 HR0.out x5_1 p246 q246
    obtain rfl : ad244 = ad246 := (by injection e246)
    replace hx246_0 := (HB.out.cell (World.block_lt_of_cell? w _ hx246_0)).trans hx246_0
    replace hx246_1 := (HB.out.cell (World.block_lt_of_cell? w _ hx246_1)).trans hx246_1
    replace hx246_2 := (HB.out.cell (World.block_lt_of_cell? w _ hx246_2)).trans hx246_2
    replace hx246_3 := (HB.out.cell (World.block_lt_of_cell? w _ hx246_3)).trans hx246_3
    replace p246 := eq_true p246
    replace q246 := eq_true q246
    obtain ⟨Ao13, co13, eo13⟩ := Kd.R_slice HO_3.out
    subst eo13
    go_wp2_with (first | ((with_reducible refine gate_callee (f := 84) rfl ?_); refine goesL_ (some 28) rfl rfl Try.func84 (by kernel_rfl) rfl #[.slice Ao13 x3_1.length co13, .int .i64 ((rd_T58 l0 x5_1).f2)] rfl (by (try simp only [List.map_toArray, List.map_cons, List.map_nil]); first | done | rfl | (simp only [List.length_drop, List.length_take]; rfl)) ?_; (with_reducible refine (spec_l00Put.calls k1 _ _ x3_1 ((rd_T58 l0 x5_1).f2) t247 _ ?side1 ?side2 A12.out).mono ?_); (case side1 => repeat (first | exact (Kd.R_reads' HO_3.out).2.2 | (with_reducible refine Kd.C_alloc ?_ _) | (with_reducible refine Kd.C_drewN ?_ _) | (with_reducible refine Kd.C_drew ?_))); (case side2 => exact (Kd.R_reads' HO_3.out).2.1); rintro e w14 ⟨v248, rfl, ho0, hb⟩; refine ⟨_, rfl, ?_⟩; have n0_ := Aside0.mk (Kd.R_elder' (by (with_reducible repeat (first | apply Kd.R_alloc | apply Kd.R_drewN | apply Kd.R_drew)); exact HO_3.out) (Kd.R_base ho0) hb); have n1_ := Aside0.mk (Kd.R_elder' (by (with_reducible repeat (first | apply Kd.R_alloc | apply Kd.R_drewN | apply Kd.R_drew)); exact HO_4.out) (Kd.R_base ho0) hb); have n2_ := Aside0.mk (Kd.R_lower (Kd.R_new' (Kd.R_new' ho0 (Kd.R_lt (by (with_reducible repeat (first | apply Kd.R_alloc | apply Kd.R_drewN | apply Kd.R_drew)); exact HO_3.out))) (Kd.R_lt (by (with_reducible repeat (first | apply Kd.R_alloc | apply Kd.R_drewN | apply Kd.R_drew)); exact HO_4.out))) (below_size (by repeat (first | (with_reducible first | exact HB.out | apply below_alloc | apply pw_below_drewN | apply below_drew1) | exact HB.out)))); have n3_ := Aside0.mk (below_step (by repeat (first | (with_reducible first | exact HB.out | apply below_alloc | apply pw_below_drewN | apply below_drew1) | exact HB.out)) hb); clear HO_3; clear HO_4; clear HB; have HO_3 := n0_; have HO_4 := n1_; have HO249 := n2_; have HB := n3_; clear n0_ n1_ n2_ n3_; (try clear hb); (try clear hb2); (try clear hk); (try clear hi); (try clear ho0)))
    go_meet
    case rel => exact ⟨_, (t247), H', ⟨by have := HK1.out; first | omega | exact Nat.le_refl _⟩, ⟨by (with_reducible repeat (first | apply Kd.R_alloc | apply Kd.R_drewN | apply Kd.R_drew)); exact Kd.R_mono HO249.out (fun _ hk => hk.2)⟩, ⟨by (with_reducible repeat (first | apply Kd.R_alloc | apply Kd.R_drewN | apply Kd.R_drew)); exact Kd.R_mono HO_4.out (fun _ hk => hk.2)⟩, ⟨by repeat (first | (with_reducible first | exact HB.out | apply below_alloc | apply pw_below_drewN | apply below_drew1) | exact HB.out)⟩⟩
   case rest =>
    clear HC9
    try clear c1
    try clear p2
    try clear q2
    try clear hx2
    try clear c6
    try clear c6b0
    try clear c7
    try clear c7b0
    try clear c8
    try clear c10
    try clear c11
    try clear hx244_0
    try clear hx244_1
    try clear hx244_2
    try clear hx244_3
    try clear hx246_0
    try clear hx246_1
    try clear hx246_2
    try clear hx246_3
    try clear p2
    try clear p244
    try clear p246
    try clear q244
    try clear q246
    obtain ⟨kq, x3_8, HA, HJ8, HO_3, HO_4, HB⟩ := hcut
    cases kq with
    | zero => exact absurd HA.out (by simp [spec_l03Inputs.j1])
    | succ kj8 =>
     have H := HA.out
     clear HA
     simp only [spec_l03Inputs.j1] at H
     by_cases c15 : 0 ≤ x5_1
     rotate_left
     ·rw [if_neg c15] at H
      exact absurd H (by simp)
     rw [if_pos c15] at H
     have c15b0 : decide (0 ≤ x5_1) = true := decide_eq_true c15
     clear c15
     by_cases c16 : x5_1 < (l0.length : Int)
     rotate_left
     ·rw [if_neg c16] at H
      exact absurd H (by simp)
     rw [if_pos c16] at H
     have c16b0 : decide (x5_1 < (l0.length : Int)) = true := decide_eq_true c16
     clear c16
     replace H := Option.bind_eq_some_iff.mp H
     obtain ⟨t251, A170, H⟩ := H
     try dsimp only at H
     have A17 := Aside0.mk A170
     clear A170
     by_cases c18 : t251 = true
     ·subst c18
      rw [if_pos rfl] at H
      replace H := Option.bind_eq_some_iff.mp H
      obtain ⟨t253, A190, H⟩ := H
      try dsimp only at H
      have A19 := Aside0.mk A190
      clear A190
      have H' := Aside0.mk H
      clear H
      have p250 : 0 ≤ (x5_1 : Int) := of_decide_eq_true (by first | (with_reducible assumption) | assumption)
      have q250 : x5_1 < (l0.length : Int) := of_decide_eq_true (by first | (with_reducible assumption) | assumption)
      obtain ⟨ad250, e250, hx250_0, hx250_1, hx250_2, hx250_3⟩ := at_T58 HR0.out x5_1 p250 q250
      obtain rfl : ad244 = ad250 := (by injection e250)
      replace hx250_0 := (HB.out.cell (World.block_lt_of_cell? w _ hx250_0)).trans hx250_0
      replace hx250_1 := (HB.out.cell (World.block_lt_of_cell? w _ hx250_1)).trans hx250_1
      replace hx250_2 := (HB.out.cell (World.block_lt_of_cell? w _ hx250_2)).trans hx250_2
      replace hx250_3 := (HB.out.cell (World.block_lt_of_cell? w _ hx250_3)).trans hx250_3
      replace p250 := eq_true p250
      replace q250 := eq_true q250
      go_wp2_with (first | ((with_reducible refine gate_callee (f := 101) rfl ?_); refine goesL_ (some 35) rfl rfl Try.func101 (by kernel_rfl) rfl #[.slice Ao10 x4_1.length co10, .int .i64 ((rd_T58 l0 x5_1).f3)] rfl (by (try simp only [List.map_toArray, List.map_cons, List.map_nil]); first | done | rfl | (simp only [List.length_drop, List.length_take]; rfl)) ?_; (with_reducible refine (spec_l00Has.calls kj8 _ _ x4_1 ((rd_T58 l0 x5_1).f3) true _ ?side1 ?side2 A17.out).mono ?_); (case side1 => repeat (first | exact (Kd.R_reads' HO_4.out).2.2 | (with_reducible refine Kd.C_alloc ?_ _) | (with_reducible refine Kd.C_drewN ?_ _) | (with_reducible refine Kd.C_drew ?_))); (case side2 => exact (Kd.R_reads' HO_4.out).2.1); rintro e w' ⟨rfl, ⟨nd, rfl⟩⟩; refine ⟨_, rfl, ?_⟩; have p252 : 0 ≤ (x5_1 : Int) := of_decide_eq_true (by first | (with_reducible assumption) | assumption); have q252 : x5_1 < (l0.length : Int) := of_decide_eq_true (by first | (with_reducible assumption) | assumption); obtain ⟨ad252, e252, hx252_0, hx252_1, hx252_2, hx252_3⟩ := at_T58 HR0.out x5_1 p252 q252; obtain rfl : ad244 = ad252 := (by injection e252); replace hx252_0 := (HB.out.cell (World.block_lt_of_cell? w _ hx252_0)).trans hx252_0; replace hx252_1 := (HB.out.cell (World.block_lt_of_cell? w _ hx252_1)).trans hx252_1; replace hx252_2 := (HB.out.cell (World.block_lt_of_cell? w _ hx252_2)).trans hx252_2; replace hx252_3 := (HB.out.cell (World.block_lt_of_cell? w _ hx252_3)).trans hx252_3; replace p252 := eq_true p252; replace q252 := eq_true q252) | ((with_reducible refine gate_callee (f := 84) rfl ?_); refine goesL_ (some 50) rfl rfl Try.func84 (by kernel_rfl) rfl #[.slice Ao10 x4_1.length co10, .int .i64 ((rd_T58 l0 x5_1).f1)] rfl (by (try simp only [List.map_toArray, List.map_cons, List.map_nil]); first | done | rfl | (simp only [List.length_drop, List.length_take]; rfl)) ?_; (with_reducible refine (spec_l00Put.calls kj8 _ _ x4_1 ((rd_T58 l0 x5_1).f1) t253 _ ?side1 ?side2 A19.out).mono ?_); (case side1 => repeat (first | exact (Kd.R_reads' HO_4.out).2.2 | (with_reducible refine Kd.C_alloc ?_ _) | (with_reducible refine Kd.C_drewN ?_ _) | (with_reducible refine Kd.C_drew ?_))); (case side2 => exact (Kd.R_reads' HO_4.out).2.1); rintro e w20 ⟨v254, rfl, ho0, hb⟩; refine ⟨_, rfl, ?_⟩; have n0_ := Aside0.mk (Kd.R_elder' (by (with_reducible repeat (first | apply Kd.R_alloc | apply Kd.R_drewN | apply Kd.R_drew)); exact HO_3.out) (Kd.R_base ho0) hb); have n1_ := Aside0.mk (Kd.R_elder' (by (with_reducible repeat (first | apply Kd.R_alloc | apply Kd.R_drewN | apply Kd.R_drew)); exact HO_4.out) (Kd.R_base ho0) hb); have n2_ := Aside0.mk (Kd.R_lower (Kd.R_new' (Kd.R_new' ho0 (Kd.R_lt (by (with_reducible repeat (first | apply Kd.R_alloc | apply Kd.R_drewN | apply Kd.R_drew)); exact HO_3.out))) (Kd.R_lt (by (with_reducible repeat (first | apply Kd.R_alloc | apply Kd.R_drewN | apply Kd.R_drew)); exact HO_4.out))) (below_size (by repeat (first | (with_reducible first | exact HB.out | apply below_alloc | apply pw_below_drewN | apply below_drew1) | exact HB.out)))); have n3_ := Aside0.mk (below_step (by repeat (first | (with_reducible first | exact HB.out | apply below_alloc | apply pw_below_drewN | apply below_drew1) | exact HB.out)) hb); clear HO_3; clear HO_4; clear HB; have HO_3 := n0_; have HO_4 := n1_; have HO255 := n2_; have HB := n3_; clear n0_ n1_ n2_ n3_; (try clear hb); (try clear hb2); (try clear hk); (try clear hi); (try clear ho0)))
      go_roundg kj8
      case measure => have := HK1.out; have := HJ8.out; omega
      case rel => exact ⟨(x3_8), (t253), (wrap64 (x5_1 + 1)), (by first | rfl | (simp; done) | (simp [*]; done)), H', ⟨by have := HK1.out; have := HJ8.out; omega⟩, ⟨by (with_reducible repeat (first | apply Kd.R_alloc | apply Kd.R_drewN | apply Kd.R_drew)); exact Kd.R_mono HO_3.out (fun _ hk => hk.2)⟩, ⟨by (with_reducible repeat (first | apply Kd.R_alloc | apply Kd.R_drewN | apply Kd.R_drew)); exact Kd.R_mono HO255.out (fun _ hk => hk.1.2)⟩, ⟨by repeat (first | (with_reducible first | exact HB.out | apply below_alloc | apply pw_below_drewN | apply below_drew1) | exact HB.out)⟩⟩
     ·replace c18 := Bool.eq_false_iff.mpr c18
      subst c18
      rw [if_neg (show ¬ (false = true) by decide)] at H
      replace H := Option.bind_eq_some_iff.mp H
      obtain ⟨t257, A210, H⟩ := H
      try dsimp only at H
      have A21 := Aside0.mk A210
      clear A210
      replace H := Option.bind_eq_some_iff.mp H
      obtain ⟨t261, A220, H⟩ := H
      try dsimp only at H
      have A22 := Aside0.mk A220
      clear A220
      have H' := Aside0.mk H
      clear H
      have p250 : 0 ≤ (x5_1 : Int) := of_decide_eq_true (by first | (with_reducible assumption) | assumption)
      have q250 : x5_1 < (l0.length : Int) := of_decide_eq_true (by first | (with_reducible assumption) | assumption)
      obtain ⟨ad250, e250, hx250_0, hx250_1, hx250_2, hx250_3⟩ := at_T58 HR0.out x5_1 p250 q250
      obtain rfl : ad244 = ad250 := (by injection e250)
      replace hx250_0 := (HB.out.cell (World.block_lt_of_cell? w _ hx250_0)).trans hx250_0
      replace hx250_1 := (HB.out.cell (World.block_lt_of_cell? w _ hx250_1)).trans hx250_1
      replace hx250_2 := (HB.out.cell (World.block_lt_of_cell? w _ hx250_2)).trans hx250_2
      replace hx250_3 := (HB.out.cell (World.block_lt_of_cell? w _ hx250_3)).trans hx250_3
      replace p250 := eq_true p250
      replace q250 := eq_true q250
      go_wp2_with (first | ((with_reducible refine gate_callee (f := 101) rfl ?_); refine goesL_ (some 35) rfl rfl Try.func101 (by kernel_rfl) rfl #[.slice Ao10 x4_1.length co10, .int .i64 ((rd_T58 l0 x5_1).f3)] rfl (by (try simp only [List.map_toArray, List.map_cons, List.map_nil]); first | done | rfl | (simp only [List.length_drop, List.length_take]; rfl)) ?_; (with_reducible refine (spec_l00Has.calls kj8 _ _ x4_1 ((rd_T58 l0 x5_1).f3) false _ ?side1 ?side2 A17.out).mono ?_); (case side1 => repeat (first | exact (Kd.R_reads' HO_4.out).2.2 | (with_reducible refine Kd.C_alloc ?_ _) | (with_reducible refine Kd.C_drewN ?_ _) | (with_reducible refine Kd.C_drew ?_))); (case side2 => exact (Kd.R_reads' HO_4.out).2.1); rintro e w' ⟨rfl, ⟨nd, rfl⟩⟩; refine ⟨_, rfl, ?_⟩; have p256 : 0 ≤ (x5_1 : Int) := of_decide_eq_true (by first | (with_reducible assumption) | assumption); have q256 : x5_1 < (l0.length : Int) := of_decide_eq_true (by first | (with_reducible assumption) | assumption); obtain ⟨ad256, e256, hx256_0, hx256_1, hx256_2, hx256_3⟩ := at_T58 HR0.out x5_1 p256 q256; obtain rfl : ad244 = ad256 := (by injection e256); replace hx256_0 := (HB.out.cell (World.block_lt_of_cell? w _ hx256_0)).trans hx256_0; replace hx256_1 := (HB.out.cell (World.block_lt_of_cell? w _ hx256_1)).trans hx256_1; replace hx256_2 := (HB.out.cell (World.block_lt_of_cell? w _ hx256_2)).trans hx256_2; replace hx256_3 := (HB.out.cell (World.block_lt_of_cell? w _ hx256_3)).trans hx256_3; replace p256 := eq_true p256; replace q256 := eq_true q256; obtain ⟨Ao23, co23, eo23⟩ := Kd.R_slice HO_3.out; subst eo23) | ((with_reducible refine gate_callee (f := 84) rfl ?_); refine goesL_ (some 43) rfl rfl Try.func84 (by kernel_rfl) rfl #[.slice Ao23 x3_8.length co23, .int .i64 ((rd_T58 l0 x5_1).f3)] rfl (by (try simp only [List.map_toArray, List.map_cons, List.map_nil]); first | done | rfl | (simp only [List.length_drop, List.length_take]; rfl)) ?_; (with_reducible refine (spec_l00Put.calls kj8 _ _ x3_8 ((rd_T58 l0 x5_1).f3) t257 _ ?side1 ?side2 A21.out).mono ?_); (case side1 => repeat (first | exact (Kd.R_reads' HO_3.out).2.2 | (with_reducible refine Kd.C_alloc ?_ _) | (with_reducible refine Kd.C_drewN ?_ _) | (with_reducible refine Kd.C_drew ?_))); (case side2 => exact (Kd.R_reads' HO_3.out).2.1); rintro e w24 ⟨v258, rfl, ho0, hb⟩; refine ⟨_, rfl, ?_⟩; have n0_ := Aside0.mk (Kd.R_elder' (by (with_reducible repeat (first | apply Kd.R_alloc | apply Kd.R_drewN | apply Kd.R_drew)); exact HO_3.out) (Kd.R_base ho0) hb); have n1_ := Aside0.mk (Kd.R_elder' (by (with_reducible repeat (first | apply Kd.R_alloc | apply Kd.R_drewN | apply Kd.R_drew)); exact HO_4.out) (Kd.R_base ho0) hb); have n2_ := Aside0.mk (Kd.R_lower (Kd.R_new' (Kd.R_new' ho0 (Kd.R_lt (by (with_reducible repeat (first | apply Kd.R_alloc | apply Kd.R_drewN | apply Kd.R_drew)); exact HO_3.out))) (Kd.R_lt (by (with_reducible repeat (first | apply Kd.R_alloc | apply Kd.R_drewN | apply Kd.R_drew)); exact HO_4.out))) (below_size (by repeat (first | (with_reducible first | exact HB.out | apply below_alloc | apply pw_below_drewN | apply below_drew1) | exact HB.out)))); have n3_ := Aside0.mk (below_step (by repeat (first | (with_reducible first | exact HB.out | apply below_alloc | apply pw_below_drewN | apply below_drew1) | exact HB.out)) hb); clear HO_3; clear HO_4; clear HB; have HO_3 := n0_; have HO_4 := n1_; have HO259 := n2_; have HB := n3_; clear n0_ n1_ n2_ n3_; (try clear hb); (try clear hb2); (try clear hk); (try clear hi); (try clear ho0); have p260 : 0 ≤ (x5_1 : Int) := of_decide_eq_true (by first | (with_reducible assumption) | assumption); have q260 : x5_1 < (l0.length : Int) := of_decide_eq_true (by first | (with_reducible assumption) | assumption); obtain ⟨ad260, e260, hx260_0, hx260_1, hx260_2, hx260_3⟩ := at_T58 HR0.out x5_1 p260 q260; obtain rfl : ad244 = ad260 := (by injection e260); replace hx260_0 := (HB.out.cell (World.block_lt_of_cell? w _ hx260_0)).trans hx260_0; replace hx260_1 := (HB.out.cell (World.block_lt_of_cell? w _ hx260_1)).trans hx260_1; replace hx260_2 := (HB.out.cell (World.block_lt_of_cell? w _ hx260_2)).trans hx260_2; replace hx260_3 := (HB.out.cell (World.block_lt_of_cell? w _ hx260_3)).trans hx260_3; replace p260 := eq_true p260; replace q260 := eq_true q260) | ((with_reducible refine gate_callee (f := 84) rfl ?_); refine goesL_ (some 50) rfl rfl Try.func84 (by kernel_rfl) rfl #[.slice Ao10 x4_1.length co10, .int .i64 ((rd_T58 l0 x5_1).f1)] rfl (by (try simp only [List.map_toArray, List.map_cons, List.map_nil]); first | done | rfl | (simp only [List.length_drop, List.length_take]; rfl)) ?_; (with_reducible refine (spec_l00Put.calls kj8 _ _ x4_1 ((rd_T58 l0 x5_1).f1) t261 _ ?side1 ?side2 A22.out).mono ?_); (case side1 => repeat (first | exact (Kd.R_reads' HO_4.out).2.2 | (with_reducible refine Kd.C_alloc ?_ _) | (with_reducible refine Kd.C_drewN ?_ _) | (with_reducible refine Kd.C_drew ?_))); (case side2 => exact (Kd.R_reads' HO_4.out).2.1); rintro e w25 ⟨v262, rfl, ho0, hb⟩; refine ⟨_, rfl, ?_⟩; have n0_ := Aside0.mk (Kd.R_elder' (by (with_reducible repeat (first | apply Kd.R_alloc | apply Kd.R_drewN | apply Kd.R_drew)); exact HO_3.out) (Kd.R_base ho0) hb); have n1_ := Aside0.mk (Kd.R_elder' (by (with_reducible repeat (first | apply Kd.R_alloc | apply Kd.R_drewN | apply Kd.R_drew)); exact HO_4.out) (Kd.R_base ho0) hb); have n2_ := Aside0.mk (Kd.R_elder' (by (with_reducible repeat (first | apply Kd.R_alloc | apply Kd.R_drewN | apply Kd.R_drew)); exact HO259.out) (Kd.R_base ho0) hb); have n3_ := Aside0.mk (Kd.R_lower (Kd.R_new' (Kd.R_new' (Kd.R_new' ho0 (Kd.R_lt (by (with_reducible repeat (first | apply Kd.R_alloc | apply Kd.R_drewN | apply Kd.R_drew)); exact HO_3.out))) (Kd.R_lt (by (with_reducible repeat (first | apply Kd.R_alloc | apply Kd.R_drewN | apply Kd.R_drew)); exact HO_4.out))) (Kd.R_lt (by (with_reducible repeat (first | apply Kd.R_alloc | apply Kd.R_drewN | apply Kd.R_drew)); exact HO259.out))) (below_size (by repeat (first | (with_reducible first | exact HB.out | apply below_alloc | apply pw_below_drewN | apply below_drew1) | exact HB.out)))); have n4_ := Aside0.mk (below_step (by repeat (first | (with_reducible first | exact HB.out | apply below_alloc | apply pw_below_drewN | apply below_drew1) | exact HB.out)) hb); clear HO_3; clear HO_4; clear HO259; clear HB; have HO_3 := n0_; have HO_4 := n1_; have HO259 := n2_; have HO263 := n3_; have HB := n4_; clear n0_ n1_ n2_ n3_ n4_; (try clear hb); (try clear hb2); (try clear hk); (try clear hi); (try clear ho0)))
      go_roundg kj8
      case measure => have := HK1.out; have := HJ8.out; omega
      case rel => exact ⟨(t257), (t261), (wrap64 (x5_1 + 1)), (by first | rfl | (simp; done) | (simp [*]; done)), H', ⟨by have := HK1.out; have := HJ8.out; omega⟩, ⟨by (with_reducible repeat (first | apply Kd.R_alloc | apply Kd.R_drewN | apply Kd.R_drew)); exact Kd.R_mono HO259.out (fun _ hk => hk.2)⟩, ⟨by (with_reducible repeat (first | apply Kd.R_alloc | apply Kd.R_drewN | apply Kd.R_drew)); exact Kd.R_mono HO263.out (fun _ hk => hk.2)⟩, ⟨by repeat (first | (with_reducible first | exact HB.out | apply below_alloc | apply pw_below_drewN | apply below_drew1) | exact HB.out)⟩⟩
/-! ### spec_InputsOf: function 45 -/
def spec_InputsOf.f (k : Nat) (l0 : List (S58)) : Option (List Int × Bool) := (spec_l03Is.f k l0).bind fun t264 => (if t264 = true then ((spec_l03Inputs.f k l0).bind fun t265 => (some (t265, true))) else (some (([] : List Int), false)))
theorem spec_InputsOf.mono : ∀ a0 k, LeO (spec_InputsOf.f k a0) (spec_InputsOf.f (k + 1) a0) := by
 intro a0 k
 unfold spec_InputsOf.f
 repeat' first
   | (with_reducible exact spec_l03Inputs.mono _ _)
   | (with_reducible exact spec_l03Is.mono _ _)
   | (with_reducible exact LeO.refl _)
   | (with_reducible exact LeO.none _)
   | (with_reducible refine LeO.ite ?_ ?_)
   | (with_reducible refine LeO.bind ?_ (fun _ => ?_))
   | exact spec_l03Inputs.mono _ _
   | exact spec_l03Is.mono _ _
   | exact LeO.none _
   | refine LeO.ite ?_ ?_
   | refine LeO.bind ?_ (fun _ => ?_)
set_option maxHeartbeats 8000000 in
set_option maxRecDepth 100000 in
theorem spec_InputsOf.calls (k : Nat) (A0 : Option Addr) (c0 : Nat) (l0 : List (S58)) (r1 : List Int) (r2 : Bool) (w : World) (hr0 : Kd.C k58 w A0 l0.length l0) (hc0 : l0.length ≤ c0) (h : spec_InputsOf.f k l0 = some (r1, r2)) :
  Calls Try.prog 45 #[.slice A0 l0.length c0] w fun e w' => ∃ v0_ : Value, e = .returned (.tuple #[v0_, .bool r2]) ∧ Kd.R (Kd.int .i64) 2 w' w.heap.size (fun _ => True) v0_ r1 ∧ Below w.heap.size w w' := by
 have HR0 := Aside0.mk hr0
 have HC0 := Aside0.mk hc0
 clear hr0 hc0
 have HB := Aside0.mk (Below.refl w.heap.size w)
 have H : ((spec_l03Is.f k l0).bind fun t264 => (if t264 = true then ((spec_l03Inputs.f k l0).bind fun t265 => (some (t265, true))) else (some (([] : List Int), false)))) = some (r1, r2) := h
 clear h
 replace H := Option.bind_eq_some_iff.mp H
 obtain ⟨t264, A20, H⟩ := H
 try dsimp only at H
 have A2 := Aside0.mk A20
 clear A20
 by_cases c3 : t264 = true
 rotate_left
 ·replace c3 := Bool.eq_false_iff.mpr c3
  subst c3
  rw [if_neg (show ¬ (false = true) by decide)] at H
  simp only [Option.some.injEq, Prod.mk.injEq] at H
  obtain ⟨rfl, rfl⟩ := H
  go_enter Try.func45, Try.ntmps45
  go_wp2_with (first | ((with_reducible refine gate_callee (f := 60) rfl ?_); refine goesL_ (some 5) rfl rfl Try.func60 (by kernel_rfl) rfl #[.slice A0 l0.length c0] rfl (by (try simp only [List.map_toArray, List.map_cons, List.map_nil]); first | done | rfl | (simp only [List.length_drop, List.length_take]; rfl)) ?_; (with_reducible refine (spec_l03Is.calls k _ _ l0 false _ ?side1 ?side2 A2.out).mono ?_); (case side1 => repeat (first | exact HR0.out | (with_reducible refine Kd.C_alloc ?_ _) | (with_reducible refine Kd.C_drewN ?_ _) | (with_reducible refine Kd.C_drew ?_))); (case side2 => exact HC0.out); rintro e w' ⟨rfl, ⟨nd, rfl⟩⟩; refine ⟨_, rfl, ?_⟩))
  go_ret2
  exact ⟨_, by first | rfl | (simp [errW_none, errW_some] <;> rfl) | (simp [*, errW_none, errW_some] <;> rfl), by first | exact Kd.R_nil _ _ _ _ _ | exact Kd.N_nil _ _ _ _ _ | exact Kd.V_nil _ _ _ _ _ | exact Kd.Q_nil _ _ _ _ _ | exact Kd.S_nil _ _ _ _ _, by repeat (first | (with_reducible first | exact HB.out | apply below_alloc | apply pw_below_drewN | apply below_drew1) | exact HB.out)⟩

 subst c3
 rw [if_pos rfl] at H
 replace H := Option.bind_eq_some_iff.mp H
 obtain ⟨t265, A40, H⟩ := H
 try dsimp only at H
 have A4 := Aside0.mk A40
 clear A40
 simp only [Option.some.injEq, Prod.mk.injEq] at H
 obtain ⟨rfl, rfl⟩ := H
 go_enter Try.func45, Try.ntmps45
 go_wp2_with (first | ((with_reducible refine gate_callee (f := 60) rfl ?_); refine goesL_ (some 5) rfl rfl Try.func60 (by kernel_rfl) rfl #[.slice A0 l0.length c0] rfl (by (try simp only [List.map_toArray, List.map_cons, List.map_nil]); first | done | rfl | (simp only [List.length_drop, List.length_take]; rfl)) ?_; (with_reducible refine (spec_l03Is.calls k _ _ l0 true _ ?side1 ?side2 A2.out).mono ?_); (case side1 => repeat (first | exact HR0.out | (with_reducible refine Kd.C_alloc ?_ _) | (with_reducible refine Kd.C_drewN ?_ _) | (with_reducible refine Kd.C_drew ?_))); (case side2 => exact HC0.out); rintro e w' ⟨rfl, ⟨nd, rfl⟩⟩; refine ⟨_, rfl, ?_⟩) | ((with_reducible refine gate_callee (f := 82) rfl ?_); refine goesL_ (some 8) rfl rfl Try.func82 (by kernel_rfl) rfl #[.slice A0 l0.length c0] rfl (by (try simp only [List.map_toArray, List.map_cons, List.map_nil]); first | done | rfl | (simp only [List.length_drop, List.length_take]; rfl)) ?_; (with_reducible refine (spec_l03Inputs.calls k _ _ l0 t265 _ ?side1 ?side2 A4.out).mono ?_); (case side1 => repeat (first | exact HR0.out | (with_reducible refine Kd.C_alloc ?_ _) | (with_reducible refine Kd.C_drewN ?_ _) | (with_reducible refine Kd.C_drew ?_))); (case side2 => exact HC0.out); rintro e w5 ⟨v266, rfl, ho0, hb⟩; refine ⟨_, rfl, ?_⟩; have n0_ := Aside0.mk (Kd.R_lower ho0 (below_size (by repeat (first | (with_reducible first | exact HB.out | apply below_alloc | apply pw_below_drewN | apply below_drew1) | exact HB.out)))); have n1_ := Aside0.mk (below_step (by repeat (first | (with_reducible first | exact HB.out | apply below_alloc | apply pw_below_drewN | apply below_drew1) | exact HB.out)) hb); clear HB; have HO267 := n0_; have HB := n1_; clear n0_ n1_; (try clear hb); (try clear hb2); (try clear hk); (try clear hi); (try clear ho0)))
 go_ret2
 exact ⟨_, by first | rfl | (simp [errW_none, errW_some] <;> rfl) | (simp [*, errW_none, errW_some] <;> rfl), by (with_reducible repeat (first | apply Kd.R_alloc | apply Kd.R_drewN | apply Kd.R_drew)); exact HO267.out, by repeat (first | (with_reducible first | exact HB.out | apply below_alloc | apply pw_below_drewN | apply below_drew1) | exact HB.out)⟩
/-! ### impl_InputsOf: function 46 -/
/-- The cells that the first x statements read before they write them. -/
def rd2 (R W : Nat → Bool) (a b : Int) : Nat → Bool := put (put R a (R a.toNat || !W a.toNat)) b ((put R a (R a.toNat || !W a.toNat)) b.toNat || !W b.toNat)
def rdm (l : List S58) : Nat → Nat → Bool
 | 0 => fun _ => false
 | x + 1 => rd2 (rdm l x) (wrm l x) (rd_T58 l (x : Int)).f2 (rd_T58 l (x : Int)).f3
def impl_InputsOf.f (_k : Nat) (l0 : List (S58)) : Option (List Int × Bool) := some (if vOk l0 = true then (setTo (rdm l0 l0.length) 32, true) else ([], false))
theorem impl_InputsOf.mono : ∀ a0 k, LeO (impl_InputsOf.f k a0) (impl_InputsOf.f (k + 1) a0) := fun _ _ => LeO.refl _
theorem Arr_far {w : World} {base g : Nat} {m : Nat → Bool} (h : Arr w base g m) {p : Addr} (hp : g ≠ p.block) (u : Value) : Arr (w.setCell p u) base g m := by
 exact Kd.R_mono (Kd.R_far (Kd.R_tight rfl h) (p := p) (fun k hk => by injection hk with hk; rw [hk]; exact hp) u) (fun _ _ => trivial)
/-- What stays while the marks change: a field of the statement's copy, and the list of its two cells. -/
def C3 (w : World) (hs : Nat) (d a b : Int) : Prop := w.cell? ⟨hs, 1, none⟩ = some (.int .i64 d) ∧ w.cell? ⟨hs + 1, 0, none⟩ = some (.int .i64 a) ∧ w.cell? ⟨hs + 1, 1, none⟩ = some (.int .i64 b)
theorem C3_new (w : World) (p d a b : Int) : C3 ((w.alloc (.cells #[.int .i64 p, .int .i64 d, .int .i64 a, .int .i64 b] 58)).alloc (.cells #[.int .i64 a, .int .i64 b] 2)) w.heap.size d a b := by
 have e := World.size_alloc (w := w) (o := .cells #[.int .i64 p, .int .i64 d, .int .i64 a, .int .i64 b] 58)
 refine ⟨?_, ?_, ?_⟩
 ·have h1 : (w.alloc (.cells #[.int .i64 p, .int .i64 d, .int .i64 a, .int .i64 b] 58)).cell? ⟨w.heap.size, 1, none⟩ = some (.int .i64 d) := by
   rw [World.cell?_alloc_new]; rfl
  rw [World.cell?_alloc_old _ _ _ (by rw [e]; show w.heap.size ≠ w.heap.size + 1; omega)]
  exact h1
 ·rw [← e, World.cell?_alloc_new]; rfl
 ·rw [← e, World.cell?_alloc_new]; rfl
theorem C3_far {w : World} {hs : Nat} {d a b : Int} (h : C3 w hs d a b) {p : Addr} (hp : p.block < hs) (u : Value) : C3 (w.setCell p u) hs d a b := by
 refine ⟨?_, ?_, ?_⟩
 ·rw [World.cell?_setCell_far _ _ _ _ (by show p.block ≠ hs; omega)]; exact h.1
 ·rw [World.cell?_setCell_far _ _ _ _ (by show p.block ≠ hs + 1; omega)]; exact h.2.1
 ·rw [World.cell?_setCell_far _ _ _ _ (by show p.block ≠ hs + 1; omega)]; exact h.2.2
/-- The cells read, behind y of a statement's two. -/
def rdy (R W : Nat → Bool) (a b : Int) : Nat → Nat → Bool
 | 0 => R
 | 1 => put R a (R a.toNat || !W a.toNat)
 | _ => rd2 R W a b
theorem Arr_lt {w : World} {base g : Nat} {m : Nat → Bool} (h : Arr w base g m) : g < w.heap.size := by
 have := Arr_heap h
 exact (Array.getElem?_eq_some_iff.mp this).1
set_option maxHeartbeats 8000000 in
set_option maxRecDepth 100000 in
theorem impl_InputsOf.calls (k : Nat) (A0 : Option Addr) (c0 : Nat) (l0 : List (S58)) (r1 : List Int) (r2 : Bool) (w : World) (hr0 : Kd.C k58 w A0 l0.length l0) (hc0 : l0.length ≤ c0) (h : impl_InputsOf.f k l0 = some (r1, r2)) :
  Calls Try.prog 46 #[.slice A0 l0.length c0] w fun e w' => ∃ v0_ : Value, e = .returned (.tuple #[v0_, .bool r2]) ∧ Kd.R (Kd.int .i64) 2 w' w.heap.size (fun _ => True) v0_ r1 ∧ Below w.heap.size w w' := by
 have hv := Option.some.inj h
 clear h
 have HR := Aside0.mk hr0
 have HC := Aside0.mk hc0
 by_cases hx : vOk l0 = true
 rotate_left
 ·rw [if_neg hx] at hv
  obtain ⟨rfl, rfl⟩ := Prod.mk.inj hv
  clear hv
  have HV : Aside0 (impl_ValidCode.f 0 l0 = some false) := ⟨by rw [Bool.not_eq_true] at hx; rw [← hx]; rfl⟩
  clear hx hr0 hc0
  go_enter Try.func46, Try.ntmps46
  go_wp2_with (go_at_call 21; (with_reducible refine (impl_ValidCode.calls 0 A0 c0 l0 false _ ?s1 HC.out HV.out).mono ?_); (case s1 => exact Kd.C_below HR.out (by repeat (first | exact Below.refl _ _ | apply below_alloc | apply pw_below_drewN | apply below_drew1))); rintro e w1 ⟨rfl, hb1⟩; have HB1 : Aside0 (Below w.heap.size w w1) := ⟨below_step (by repeat (first | exact Below.refl _ _ | apply below_alloc | apply pw_below_drewN | apply below_drew1)) hb1⟩; clear hb1)
  go_ret2
  refine ⟨_, rfl, Kd.R_nil _ _ _ _ _, HB1.out⟩

 rw [if_pos hx] at hv
 obtain ⟨rfl, rfl⟩ := Prod.mk.inj hv
 clear hv
 have hl16 := vOk_len hx
 have HL := Aside0.mk hl16
 have HX := Aside0.mk hx
 have HV : Aside0 (impl_ValidCode.f 0 l0 = some true) := ⟨by rw [← hx]; rfl⟩
 clear hx hl16 hr0 hc0
 go_enter Try.func46, Try.ntmps46
 go_wp2_with (first | (go_at_call 21; (with_reducible refine (impl_ValidCode.calls 0 A0 c0 l0 true _ ?s1 HC.out HV.out).mono ?_); (case s1 => exact Kd.C_below HR.out (by repeat (first | exact Below.refl _ _ | apply below_alloc | apply pw_below_drewN | apply below_drew1))); rintro e w1 ⟨rfl, hb1⟩; have HB1 : Aside0 (Below w.heap.size w w1) := ⟨below_step (by repeat (first | exact Below.refl _ _ | apply below_alloc | apply pw_below_drewN | apply below_drew1)) hb1⟩; clear hb1)
  )
 have hg1 : w.heap.size ≤ w1.heap.size := below_size HB1.out
 have HA : Aside0 (Arr ((w1.alloc (.cells (mk32 fun _ => false) 79)).alloc (.cells (mk32 fun _ => false) 79)) w.heap.size w1.heap.size (rdm l0 0)) := ⟨Arr_below (Arr_new w1 _ hg1 _) (below_alloc (Below.refl _ _) _)⟩
 have HW5 : Aside0 (Arr ((w1.alloc (.cells (mk32 fun _ => false) 79)).alloc (.cells (mk32 fun _ => false) 79)) w.heap.size (w1.heap.size + 1) (wrm l0 0)) := ⟨by have := Arr_new (w1.alloc (.cells (mk32 fun _ => false) 79)) w.heap.size (by rw [World.size_alloc]; omega) (wrm l0 0); rw [World.size_alloc] at this; exact this⟩
 have HB2 : Aside0 (Below w.heap.size w ((w1.alloc (.cells (mk32 fun _ => false) 79)).alloc (.cells (mk32 fun _ => false) 79))) := ⟨below_alloc (below_alloc HB1.out _) _⟩
 clear hg1
 unfold mk32 at HA HW5 HB2
 generalize (w1.alloc _).alloc _ = w2 at HA HW5 HB2 ⊢
 generalize w1.heap.size = g4 at HA HW5 ⊢
 clear HB1
 go_loopg [7, 9, 15] 16 (fun kq v7 v9 v15 w' => ∃ x : Nat, v15 = .int .i64 (x : Int) ∧ Aside0 (Arr w' w.heap.size g4 (rdm l0 x)) ∧ Aside0 (Arr w' w.heap.size (g4 + 1) (wrm l0 x)) ∧ Aside0 (x ≤ l0.length) ∧ Aside0 (l0.length - x ≤ kq) ∧ Aside0 (Below w.heap.size w w'))
 case atStart => exact ⟨0, rfl, HA, HW5, ⟨Nat.zero_le _⟩, ⟨by have := HL.out; omega⟩, HB2⟩
 case round =>
  clear HA HB2 HW5
  obtain ⟨x, rfl, HA, HA5, H1, HK, HB⟩ := hrel
  by_cases c3 : (x : Int) < (l0.length : Int)
  rotate_left
  ·have c3b0 : decide ((x : Int) < (l0.length : Int)) = false := decide_eq_false c3
   have HX2 : Aside0 (x = l0.length) := ⟨by have := H1.out; omega⟩
   have c3n : (x < l0.length) = False := eq_false (by omega)
   clear c3
   go_wp2_with (first | ((with_reducible refine gate_dst (N := 45) rfl ?_); refine wpList_load_row rfl 79 (.tmp 4) rfl g4 rfl 79 _ (0, 0) _ (Arr_heap HA.out) Try.underlying79 rfl info79 ?_) | (go_at_call 79; refine (cellSet_c _ _).mono ?_; rintro e w' ⟨v, rfl, ho, hb⟩))
   go_ret2
   have ho2 := Kd.R_lower ho (below_size HB.out)
   rw [HX2.out] at ho2
   exact ⟨_, rfl, ho2, below_step HB.out hb⟩
  have hxl : x < l0.length := by omega
  obtain ⟨_, ⟨d0, d1⟩, ⟨a0, a1⟩, b0, b1⟩ := vOk_at HX.out hxl
  have c6 : 0 ≤ (x : Int) := Int.natCast_nonneg _
  obtain ⟨ad, e1, hx0, hx1, hx2, hx3⟩ := at_T58 (Kd.C_below HR.out HB.out) (x : Int) c6 (by omega)
  cases e1
  rw [Int.toNat_natCast] at hx0 hx1 hx2 hx3
  have HW : Aside0 (wrap64 ((x : Int) + 1) = ((x + 1 : Nat) : Int)) := ⟨by have := HL.out; unfold wrap64; omega⟩
  have HX2 := Aside0.mk hxl
  have c3b0 : decide ((x : Int) < (l0.length : Int)) = true := decide_eq_true c3
  have D0 := Aside0.mk d0
  have D1 := Aside0.mk d1
  have E0 := Aside0.mk a0
  have E1 := Aside0.mk a1
  have F0 := Aside0.mk b0
  have F1 := Aside0.mk b1
  clear hxl d0 d1 a0 a1 b0 b1
  go_wp2
  have hs5 := Arr_lt HA5.out
  have H4 : Aside0 (Arr ((wr.alloc (.cells #[.int .i64 (rd_T58 l0 (x : Int)).f0, .int .i64 (rd_T58 l0 (x : Int)).f1, .int .i64 (rd_T58 l0 (x : Int)).f2, .int .i64 (rd_T58 l0 (x : Int)).f3] 58)).alloc (.cells #[.int .i64 (rd_T58 l0 (x : Int)).f2, .int .i64 (rd_T58 l0 (x : Int)).f3] 2)) w.heap.size g4 (rdm l0 x)) := ⟨Arr_below (Arr_below HA.out (below_alloc (Below.refl _ _) _)) (below_alloc (Below.refl _ _) _)⟩
  have H5 : Aside0 (Arr ((wr.alloc (.cells #[.int .i64 (rd_T58 l0 (x : Int)).f0, .int .i64 (rd_T58 l0 (x : Int)).f1, .int .i64 (rd_T58 l0 (x : Int)).f2, .int .i64 (rd_T58 l0 (x : Int)).f3] 58)).alloc (.cells #[.int .i64 (rd_T58 l0 (x : Int)).f2, .int .i64 (rd_T58 l0 (x : Int)).f3] 2)) w.heap.size (g4 + 1) (wrm l0 x)) := ⟨Arr_below (Arr_below HA5.out (below_alloc (Below.refl _ _) _)) (below_alloc (Below.refl _ _) _)⟩
  have HBi : Aside0 (Below w.heap.size w ((wr.alloc (.cells #[.int .i64 (rd_T58 l0 (x : Int)).f0, .int .i64 (rd_T58 l0 (x : Int)).f1, .int .i64 (rd_T58 l0 (x : Int)).f2, .int .i64 (rd_T58 l0 (x : Int)).f3] 58)).alloc (.cells #[.int .i64 (rd_T58 l0 (x : Int)).f2, .int .i64 (rd_T58 l0 (x : Int)).f3] 2))) := ⟨below_alloc (below_alloc HB.out _) _⟩
  have HC3 : Aside0 (C3 ((wr.alloc (.cells #[.int .i64 (rd_T58 l0 (x : Int)).f0, .int .i64 (rd_T58 l0 (x : Int)).f1, .int .i64 (rd_T58 l0 (x : Int)).f2, .int .i64 (rd_T58 l0 (x : Int)).f3] 58)).alloc (.cells #[.int .i64 (rd_T58 l0 (x : Int)).f2, .int .i64 (rd_T58 l0 (x : Int)).f3] 2)) wr.heap.size (rd_T58 l0 (x : Int)).f1 (rd_T58 l0 (x : Int)).f2 (rd_T58 l0 (x : Int)).f3) := ⟨C3_new _ _ _ _ _⟩
  have HS5 := Aside0.mk hs5
  clear hs5 hx0 hx1 hx2 hx3 HA HA5 HB
  generalize (wr.alloc _).alloc _ = w3 at H4 H5 HBi HC3 ⊢
  generalize wr.heap.size = hs at HC3 HS5 ⊢
  go_loopg [9, 25] 2 (fun kq v9 v25 w' => ∃ y : Nat, v25 = .int .i64 (y : Int) ∧ Aside0 (Arr w' w.heap.size g4 (rdy (rdm l0 x) (wrm l0 x) (rd_T58 l0 (x : Int)).f2 (rd_T58 l0 (x : Int)).f3 y)) ∧ Aside0 (Arr w' w.heap.size (g4 + 1) (wrm l0 x)) ∧ Aside0 (C3 w' hs (rd_T58 l0 (x : Int)).f1 (rd_T58 l0 (x : Int)).f2 (rd_T58 l0 (x : Int)).f3) ∧ Aside0 (y ≤ 2) ∧ Aside0 (2 - y ≤ kq) ∧ Aside0 (Below w.heap.size w w'))
  case atStart => exact ⟨0, rfl, H4, H5, HC3, ⟨by omega⟩, ⟨by omega⟩, HBi⟩
  case round =>
   clear H4 H5 HBi HC3
   obtain ⟨y, rfl, H4, H5, HC3, HY, HKY, HBi⟩ := hrel
   rcases (by have := HY.out; omega : y = 0 ∨ y = 1 ∨ y = 2) with rfl | rfl | rfl
   ·have hcc := HC3.out.2.1
    obtain ⟨p4, q4⟩ := Arr_cell H4.out (rd_T58 l0 (x : Int)).f2 E0.out E1.out
    obtain ⟨p5, q5⟩ := Arr_cell H5.out (rd_T58 l0 (x : Int)).f2 E0.out E1.out
    have l32 : (rd_T58 l0 (x : Int)).f2 < 32 := by have := E1.out; omega
    have l0_ : 0 ≤ (rd_T58 l0 (x : Int)).f2 := E0.out
    cases hR : (rdy (rdm l0 x) (wrm l0 x) (rd_T58 l0 (x : Int)).f2 (rd_T58 l0 (x : Int)).f3 0) ((rd_T58 l0 (x : Int)).f2).toNat with
    | true =>
     rw [hR] at p4
     have HR2 := Aside0.mk hR
     clear hR
     go_wp2
     go_roundg (2 - (0 + 1))
     case measure => have := HKY.out; omega
     case rel => exact ⟨0 + 1, rfl, ⟨by have := Arr_put H4.out (rd_T58 l0 (x : Int)).f2 E0.out E1.out true; have e : rdy (rdm l0 x) (wrm l0 x) (rd_T58 l0 (x : Int)).f2 (rd_T58 l0 (x : Int)).f3 (0 + 1) = put (rdy (rdm l0 x) (wrm l0 x) (rd_T58 l0 (x : Int)).f2 (rd_T58 l0 (x : Int)).f3 0) ((rd_T58 l0 (x : Int)).f2) ((rdy (rdm l0 x) (wrm l0 x) (rd_T58 l0 (x : Int)).f2 (rd_T58 l0 (x : Int)).f3 0) ((rd_T58 l0 (x : Int)).f2).toNat || !(wrm l0 x) ((rd_T58 l0 (x : Int)).f2).toNat) := rfl; rw [e, HR2.out]; exact this⟩, ⟨Arr_far H5.out (by show g4 + 1 ≠ g4; omega) _⟩, ⟨C3_far HC3.out (by show g4 < hs; have := HS5.out; omega) _⟩, ⟨by omega⟩, ⟨by omega⟩, ⟨below_set HBi.out (Arr_base H4.out)⟩⟩
    | false =>
     rw [hR] at p4
     have HR2 := Aside0.mk hR
     clear hR
     go_wp2
     go_roundg (2 - (0 + 1))
     case measure => have := HKY.out; omega
     case rel => exact ⟨0 + 1, rfl, ⟨by have := Arr_put H4.out (rd_T58 l0 (x : Int)).f2 E0.out E1.out (!(wrm l0 x) ((rd_T58 l0 (x : Int)).f2).toNat); have e : rdy (rdm l0 x) (wrm l0 x) (rd_T58 l0 (x : Int)).f2 (rd_T58 l0 (x : Int)).f3 (0 + 1) = put (rdy (rdm l0 x) (wrm l0 x) (rd_T58 l0 (x : Int)).f2 (rd_T58 l0 (x : Int)).f3 0) ((rd_T58 l0 (x : Int)).f2) ((rdy (rdm l0 x) (wrm l0 x) (rd_T58 l0 (x : Int)).f2 (rd_T58 l0 (x : Int)).f3 0) ((rd_T58 l0 (x : Int)).f2).toNat || !(wrm l0 x) ((rd_T58 l0 (x : Int)).f2).toNat) := rfl; rw [e, HR2.out]; exact this⟩, ⟨Arr_far H5.out (by show g4 + 1 ≠ g4; omega) _⟩, ⟨C3_far HC3.out (by show g4 < hs; have := HS5.out; omega) _⟩, ⟨by omega⟩, ⟨by omega⟩, ⟨below_set HBi.out (Arr_base H4.out)⟩⟩
   ·have hcc := HC3.out.2.2
    obtain ⟨p4, q4⟩ := Arr_cell H4.out (rd_T58 l0 (x : Int)).f3 F0.out F1.out
    obtain ⟨p5, q5⟩ := Arr_cell H5.out (rd_T58 l0 (x : Int)).f3 F0.out F1.out
    have l32 : (rd_T58 l0 (x : Int)).f3 < 32 := by have := F1.out; omega
    have l0_ : 0 ≤ (rd_T58 l0 (x : Int)).f3 := F0.out
    cases hR : (rdy (rdm l0 x) (wrm l0 x) (rd_T58 l0 (x : Int)).f2 (rd_T58 l0 (x : Int)).f3 1) ((rd_T58 l0 (x : Int)).f3).toNat with
    | true =>
     rw [hR] at p4
     have HR2 := Aside0.mk hR
     clear hR
     go_wp2
     go_roundg (2 - (1 + 1))
     case measure => have := HKY.out; omega
     case rel => exact ⟨1 + 1, rfl, ⟨by have := Arr_put H4.out (rd_T58 l0 (x : Int)).f3 F0.out F1.out true; have e : rdy (rdm l0 x) (wrm l0 x) (rd_T58 l0 (x : Int)).f2 (rd_T58 l0 (x : Int)).f3 (1 + 1) = put (rdy (rdm l0 x) (wrm l0 x) (rd_T58 l0 (x : Int)).f2 (rd_T58 l0 (x : Int)).f3 1) ((rd_T58 l0 (x : Int)).f3) ((rdy (rdm l0 x) (wrm l0 x) (rd_T58 l0 (x : Int)).f2 (rd_T58 l0 (x : Int)).f3 1) ((rd_T58 l0 (x : Int)).f3).toNat || !(wrm l0 x) ((rd_T58 l0 (x : Int)).f3).toNat) := rfl; rw [e, HR2.out]; exact this⟩, ⟨Arr_far H5.out (by show g4 + 1 ≠ g4; omega) _⟩, ⟨C3_far HC3.out (by show g4 < hs; have := HS5.out; omega) _⟩, ⟨by omega⟩, ⟨by omega⟩, ⟨below_set HBi.out (Arr_base H4.out)⟩⟩
    | false =>
     rw [hR] at p4
     have HR2 := Aside0.mk hR
     clear hR
     go_wp2
     go_roundg (2 - (1 + 1))
     case measure => have := HKY.out; omega
     case rel => exact ⟨1 + 1, rfl, ⟨by have := Arr_put H4.out (rd_T58 l0 (x : Int)).f3 F0.out F1.out (!(wrm l0 x) ((rd_T58 l0 (x : Int)).f3).toNat); have e : rdy (rdm l0 x) (wrm l0 x) (rd_T58 l0 (x : Int)).f2 (rd_T58 l0 (x : Int)).f3 (1 + 1) = put (rdy (rdm l0 x) (wrm l0 x) (rd_T58 l0 (x : Int)).f2 (rd_T58 l0 (x : Int)).f3 1) ((rd_T58 l0 (x : Int)).f3) ((rdy (rdm l0 x) (wrm l0 x) (rd_T58 l0 (x : Int)).f2 (rd_T58 l0 (x : Int)).f3 1) ((rd_T58 l0 (x : Int)).f3).toNat || !(wrm l0 x) ((rd_T58 l0 (x : Int)).f3).toNat) := rfl; rw [e, HR2.out]; exact this⟩, ⟨Arr_far H5.out (by show g4 + 1 ≠ g4; omega) _⟩, ⟨C3_far HC3.out (by show g4 < hs; have := HS5.out; omega) _⟩, ⟨by omega⟩, ⟨by omega⟩, ⟨below_set HBi.out (Arr_base H4.out)⟩⟩
   ·have hcc := HC3.out.1
    obtain ⟨p5, q5⟩ := Arr_cell H5.out (rd_T58 l0 (x : Int)).f1 D0.out D1.out
    have l32 : (rd_T58 l0 (x : Int)).f1 < 32 := by have := D1.out; omega
    have l0_ : 0 ≤ (rd_T58 l0 (x : Int)).f1 := D0.out
    go_wp2
    go_roundg (l0.length - (x + 1))
    case measure => have := HK.out; have := HX2.out; omega
    case rel =>
     have := HX2.out
     exact ⟨x + 1, by first | rfl | rw [HW.out], ⟨Arr_far H4.out (by show g4 ≠ g4 + 1; omega) _⟩, ⟨Arr_put H5.out _ D0.out D1.out true⟩, ⟨by omega⟩, ⟨by omega⟩, ⟨below_set HBi.out (Arr_base H5.out)⟩⟩
end Go.Proofs.Yteknfebehafbdaa.K
