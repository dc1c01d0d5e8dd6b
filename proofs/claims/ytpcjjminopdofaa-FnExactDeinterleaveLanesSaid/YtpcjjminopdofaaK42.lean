-- Laid by a program of this session.
import Derived.Test.YtpcjjminopdofaaK0
import Derived.Test.YtpcjjminopdofaaH0
import Derived.Test.YtpcjjminopdofaaH1
import Derived.Test.YtpcjjminopdofaaK6
import Derived.Test.YtpcjjminopdofaaK8
import Derived.Test.YtpcjjminopdofaaK21
namespace Go.Proofs.Ytpcjjminopdofaa.K
open Go.RowKit Go.Proofs.YtpcjjminopdofaaW.PrintWords Go.Proofs.YtpcjjminopdofaaW.PrintLast Go.Proofs.YtpcjjminopdofaaW.PrintMore Go.Proofs.Ytpcjjminopdofaa.Bx Go.Shelf
attribute [local go_sem] max2_int min2_int max_two min_two max_three min_three max_four min_four   -- for this text's walks alone
set_option linter.unusedVariables false
set_option linter.unusedSimpArgs false

/-! ### spec_DeinterleaveLanes: function 51 -/
def spec_DeinterleaveLanes.l0 : Nat → List Int → List Int → List Int → Int → Option (List Int × List Int × Bool)
 | 0, _, _, _, _ => none
 | k + 1, x9, x10, x11, x12 => if x12 < (x9.length : Int) then (if 0 ≤ x12 then (if x10.length < 17592186044416 then (if 0 ≤ (wrap64 (x12 + 1)) then (if (wrap64 (x12 + 1)) < (x9.length : Int) then (if x11.length < 17592186044416 then (spec_DeinterleaveLanes.l0 k x9 (x10 ++ [rd x9 x12]) (x11 ++ [rd x9 (wrap64 (x12 + 1))]) (wrap64 (x12 + 2))) else (none)) else (none)) else (none)) else (none)) else (none)) else (some (x10, x11, true))
def spec_DeinterleaveLanes.f (k : Nat) (a0 : Int) (l1 : List Int) (l2 : List Int) : Option (List Int × List Int × Bool) := (spec_l02Both.f k a0 l1 l2).bind fun t1269 => (if t1269 = true then ((spec_l00Own.f l1).bind fun t1270 => (if t1270.length + l2.length < 17592186044416 then (spec_DeinterleaveLanes.l0 k (t1270 ++ l2) (([] : List Int)) (([] : List Int)) 0) else (none))) else (some (([] : List Int), ([] : List Int), false)))
theorem spec_DeinterleaveLanes.mono_l : ∀ k, (∀ y0 y1 y2 y3, LeO (spec_DeinterleaveLanes.l0 k y0 y1 y2 y3) (spec_DeinterleaveLanes.l0 (k + 1) y0 y1 y2 y3))
 | 0 => fun _ _ _ _ r h => by simp [spec_DeinterleaveLanes.l0] at h
 | k + 1 => by
  have ih0 := spec_DeinterleaveLanes.mono_l k
  ·intro y0 y1 y2 y3
   unfold spec_DeinterleaveLanes.l0
   repeat' first
   | (with_reducible exact ih0 _ _ _ _)
   | (with_reducible exact spec_l02Both.mono _ _ _ _)
   | (with_reducible exact LeO.refl _)
   | (with_reducible exact LeO.none _)
   | (with_reducible refine LeO.ite ?_ ?_)
   | (with_reducible refine LeO.bind ?_ (fun _ => ?_))
   | exact ih0 _ _ _ _
   | exact spec_l02Both.mono _ _ _ _
   | exact LeO.none _
   | refine LeO.ite ?_ ?_
   | refine LeO.bind ?_ (fun _ => ?_)
theorem spec_DeinterleaveLanes.mono : ∀ a0 a1 a2 k, LeO (spec_DeinterleaveLanes.f k a0 a1 a2) (spec_DeinterleaveLanes.f (k + 1) a0 a1 a2) := by
 intro a0 a1 a2 k
 have ih0 := spec_DeinterleaveLanes.mono_l k
 unfold spec_DeinterleaveLanes.f
 repeat' first
   | (with_reducible exact ih0 _ _ _ _)
   | (with_reducible exact spec_l02Both.mono _ _ _ _)
   | (with_reducible exact LeO.refl _)
   | (with_reducible exact LeO.none _)
   | (with_reducible refine LeO.ite ?_ ?_)
   | (with_reducible refine LeO.bind ?_ (fun _ => ?_))
   | exact ih0 _ _ _ _
   | exact spec_l02Both.mono _ _ _ _
   | exact LeO.none _
   | refine LeO.ite ?_ ?_
   | refine LeO.bind ?_ (fun _ => ?_)
set_option maxHeartbeats 8000000 in
set_option maxRecDepth 100000 in
theorem spec_DeinterleaveLanes.calls (k : Nat) (a0 : Int) (A1 : Option Addr) (c1 : Nat) (l1 : List Int) (A2 : Option Addr) (c2 : Nat) (l2 : List Int) (r1 : List Int) (r2 : List Int) (r3 : Bool) (w : World) (hr1 : Kd.C (Kd.int .i64) w A1 l1.length l1) (hc1 : l1.length ≤ c1) (hr2 : Kd.C (Kd.int .i64) w A2 l2.length l2) (hc2 : l2.length ≤ c2) (h : spec_DeinterleaveLanes.f k a0 l1 l2 = some (r1, r2, r3)) :
  Calls Try.prog 51 #[.int .i64 a0, .slice A1 l1.length c1, .slice A2 l2.length c2] w fun e w' => ∃ v0_ v1_ : Value, e = .returned (.tuple #[v0_, v1_, .bool r3]) ∧ Kd.R (Kd.int .i64) 2 w' w.heap.size (fun k_ => some k_ ≠ (v1_ : Value).ownBlock) v0_ r1 ∧ Kd.R (Kd.int .i64) 2 w' w.heap.size (fun k_ => some k_ ≠ (v0_ : Value).ownBlock) v1_ r2 ∧ Below w.heap.size w w' := by
 have HR1 := Aside0.mk hr1
 have HC1 := Aside0.mk hc1
 clear hr1 hc1
 have HR2 := Aside0.mk hr2
 have HC2 := Aside0.mk hc2
 clear hr2 hc2
 have HB := Aside0.mk (Below.refl w.heap.size w)
 have H : ((spec_l02Both.f k a0 l1 l2).bind fun t1269 => (if t1269 = true then ((spec_l00Own.f l1).bind fun t1270 => (if t1270.length + l2.length < 17592186044416 then (spec_DeinterleaveLanes.l0 k (t1270 ++ l2) (([] : List Int)) (([] : List Int)) 0) else (none))) else (some (([] : List Int), ([] : List Int), false)))) = some (r1, r2, r3) := h
 clear h
 replace H := Option.bind_eq_some_iff.mp H
 obtain ⟨t1269, A40, H⟩ := H
 try dsimp only at H
 have A4 := Aside0.mk A40
 clear A40
 by_cases c5 : t1269 = true
 rotate_left
 ·replace c5 := Bool.eq_false_iff.mpr c5
  subst c5
  rw [if_neg (show ¬ (false = true) by decide)] at H
  simp only [Option.some.injEq, Prod.mk.injEq] at H
  obtain ⟨rfl, rfl, rfl⟩ := H
  go_enter Try.func51, Try.ntmps51
  go_wp2_with (first | ((with_reducible refine gate_callee (f := 103) rfl ?_); refine goesL_ (some 16) rfl rfl Try.func103 (by kernel_rfl) rfl #[.int .i64 a0, .slice A1 l1.length c1, .slice A2 l2.length c2] rfl (by (try simp only [List.map_toArray, List.map_cons, List.map_nil]); first | done | rfl | (simp only [List.length_drop, List.length_take]; rfl)) ?_; (with_reducible refine (spec_l02Both.calls k a0 _ _ l1 _ _ l2 false _ ?side1 ?side2 ?side3 ?side4 A4.out).mono ?_); (case side1 => repeat (first | exact HR1.out | (with_reducible refine Kd.C_alloc ?_ _) | (with_reducible refine Kd.C_drewN ?_ _) | (with_reducible refine Kd.C_drew ?_))); (case side2 => exact HC1.out); (case side3 => repeat (first | exact HR2.out | (with_reducible refine Kd.C_alloc ?_ _) | (with_reducible refine Kd.C_drewN ?_ _) | (with_reducible refine Kd.C_drew ?_))); (case side4 => exact HC2.out); rintro e w' ⟨rfl, ⟨nd, rfl⟩⟩; refine ⟨_, rfl, ?_⟩))
  go_ret3
  exact ⟨_, _, by first | rfl | (simp [errW_none, errW_some] <;> rfl) | (simp [*, errW_none, errW_some] <;> rfl), by first | exact Kd.R_nil _ _ _ _ _ | exact Kd.N_nil _ _ _ _ _ | exact Kd.V_nil _ _ _ _ _ | exact Kd.Q_nil _ _ _ _ _ | exact Kd.S_nil _ _ _ _ _, by first | exact Kd.R_nil _ _ _ _ _ | exact Kd.N_nil _ _ _ _ _ | exact Kd.V_nil _ _ _ _ _ | exact Kd.Q_nil _ _ _ _ _ | exact Kd.S_nil _ _ _ _ _, by repeat (first | (with_reducible first | exact HB.out | apply below_alloc | apply pw_below_drewN | apply below_drew1) | exact HB.out)⟩

 subst c5
 rw [if_pos rfl] at H
 replace H := Option.bind_eq_some_iff.mp H
 obtain ⟨t1270, A60, H⟩ := H
 try dsimp only at H
 have A6 := Aside0.mk A60
 clear A60
 by_cases c7 : t1270.length + l2.length < 17592186044416
 rotate_left
 ·rw [if_neg c7] at H
  exact absurd H (by simp)
 rw [if_pos c7] at H
 have LMc7 := Aside0.mk c7
 clear c7
 obtain ⟨y1273, hy1273⟩ : ∃ y_ : List Int, y_ = (t1270 ++ l2) := ⟨_, rfl⟩
 replace H : (spec_DeinterleaveLanes.l0 k y1273 (([] : List Int)) (([] : List Int)) 0) = some (r1, r2, r3) := by first | (rw [hy1273]; with_reducible exact H) | (have H2_ := (Option.bind_some _ _).symm.trans H; rw [hy1273]; with_reducible exact H2_) | (have H2_ := (Option.bind_some _ _).symm.trans H; with_reducible exact H2_) | with_reducible exact H | (rw [hy1273]; exact H) | exact H
 have Ny1273 := Aside0.mk hy1273
 clear hy1273
 obtain ⟨y1276, hy1276⟩ : ∃ y_ : List Int, y_ = (([] : List Int)) := ⟨_, rfl⟩
 replace H : (spec_DeinterleaveLanes.l0 k y1273 y1276 (([] : List Int)) 0) = some (r1, r2, r3) := by first | (rw [hy1276]; with_reducible exact H) | (have H2_ := (Option.bind_some _ _).symm.trans H; rw [hy1276]; with_reducible exact H2_) | (have H2_ := (Option.bind_some _ _).symm.trans H; with_reducible exact H2_) | with_reducible exact H | (rw [hy1276]; exact H) | exact H
 have Ny1276 := Aside0.mk hy1276
 clear hy1276
 obtain ⟨y1279, hy1279⟩ : ∃ y_ : List Int, y_ = (([] : List Int)) := ⟨_, rfl⟩
 replace H : (spec_DeinterleaveLanes.l0 k y1273 y1276 y1279 0) = some (r1, r2, r3) := by first | (rw [hy1279]; with_reducible exact H) | (have H2_ := (Option.bind_some _ _).symm.trans H; rw [hy1279]; with_reducible exact H2_) | (have H2_ := (Option.bind_some _ _).symm.trans H; with_reducible exact H2_) | with_reducible exact H | (rw [hy1279]; exact H) | exact H
 have Ny1279 := Aside0.mk hy1279
 clear hy1279
 have H' := Aside0.mk H
 clear H
 go_enter Try.func51, Try.ntmps51
 go_wp2_with (first | ((with_reducible refine gate_callee (f := 103) rfl ?_); refine goesL_ (some 16) rfl rfl Try.func103 (by kernel_rfl) rfl #[.int .i64 a0, .slice A1 l1.length c1, .slice A2 l2.length c2] rfl (by (try simp only [List.map_toArray, List.map_cons, List.map_nil]); first | done | rfl | (simp only [List.length_drop, List.length_take]; rfl)) ?_; (with_reducible refine (spec_l02Both.calls k a0 _ _ l1 _ _ l2 true _ ?side1 ?side2 ?side3 ?side4 A4.out).mono ?_); (case side1 => repeat (first | exact HR1.out | (with_reducible refine Kd.C_alloc ?_ _) | (with_reducible refine Kd.C_drewN ?_ _) | (with_reducible refine Kd.C_drew ?_))); (case side2 => exact HC1.out); (case side3 => repeat (first | exact HR2.out | (with_reducible refine Kd.C_alloc ?_ _) | (with_reducible refine Kd.C_drewN ?_ _) | (with_reducible refine Kd.C_drew ?_))); (case side4 => exact HC2.out); rintro e w' ⟨rfl, ⟨nd, rfl⟩⟩; refine ⟨_, rfl, ?_⟩) | ((with_reducible refine gate_callee (f := 105) rfl ?_); refine goesL_ (some 19) rfl rfl Try.func105 (by kernel_rfl) rfl #[.slice A1 l1.length c1] rfl (by (try simp only [List.map_toArray, List.map_cons, List.map_nil]); first | done | rfl | (simp only [List.length_drop, List.length_take]; rfl)) ?_; (with_reducible refine (spec_l00Own.calls _ _ l1 t1270 _ ?side1 ?side2 A6.out).mono ?_); (case side1 => repeat (first | exact HR1.out | (with_reducible refine Kd.C_alloc ?_ _) | (with_reducible refine Kd.C_drewN ?_ _) | (with_reducible refine Kd.C_drew ?_))); (case side2 => exact HC1.out); rintro e w8 ⟨v1271, rfl, ho0, hb⟩; refine ⟨_, rfl, ?_⟩; have n0_ := Aside0.mk (Kd.R_lower ho0 (below_size (by repeat (first | (with_reducible first | exact HB.out | apply below_alloc | apply pw_below_drewN | apply below_drew1) | exact HB.out)))); have n1_ := Aside0.mk (below_step (by repeat (first | (with_reducible first | exact HB.out | apply below_alloc | apply pw_below_drewN | apply below_drew1) | exact HB.out)) hb); clear HB; have HO1272 := n0_; have HB := n1_; clear n0_ n1_; (try clear hb); (try clear hb2); (try clear hk); (try clear hi); (try clear ho0)) | ((with_reducible refine gate_builtin (b := .append) (xs := #[.tmp 19, .tmp 20]) rfl ?_); at_builtin; refine Kd.R_append_rows (Kd.int .i64) (w0 := w) w.heap.size rfl (.tmp 19) (.tmp 20) 22 2 (.int .i64 0) 8 rfl Try.underlying22 info2 rfl (by decide) (by omega) v1271 t1270 l2 _ _ _ (fun _ => True) (fun _ => False) rfl rfl ?aO ?aR (fun _ _ h => h) (fun _ h => h.elim) ?aF ?aB ?aS ?aL ?_; (case aR => repeat (first | exact (Kd.C_below HR2.out HB.out) | (with_reducible refine Kd.C_alloc ?_ _) | (with_reducible refine Kd.C_drewN ?_ _) | (with_reducible refine Kd.C_drew ?_))); (case aB => exact (by repeat (first | (with_reducible first | exact HB.out | apply below_alloc | apply pw_below_drewN | apply below_drew1) | exact HB.out))); (case aF => exact (fun _ _ => trivial)); (case aO => exact (by (with_reducible repeat (first | apply Kd.R_alloc | apply Kd.R_drewN | apply Kd.R_drew)); exact HO1272.out)); (case aS => exact (below_size (by repeat (first | (with_reducible first | exact HB.out | apply below_alloc | apply pw_below_drewN | apply below_drew1) | exact HB.out)))); (case aL => have := LMc7.out; omega); intro v1274 w9 ho hb hg hat; rw [← Ny1273.out] at ho; have n0_ := Aside0.mk (hb); have n1_ := Aside0.mk (ho); clear HB; clear HO1272; have HB := n0_; have HO1275 := n1_; clear n0_ n1_; clear ho hb hg hat) | ((with_reducible refine gate_dst (N := 22) rfl ?_); refine Kd.R_lit (Kd.int .i64) _ 2 ?hg (N := 22) ?hd (xs := ([] : List Int)) (inner := []) (ok := fun _ => True) (okp := fun _ => True) ?hr ?hp (fun _ hk => hk) trivial (Below.refl _ _) (Nat.le_refl _) (by simp) ?_; (case hd => rfl); (case hg => rfl); (case hr => first | (go_simp; done) | (go_simp; rfl)); (case hp => exact (Reps.none _ _)); intro v1277 w10 ho11 hb hg_ hnew_; clear hg_ hnew_; (first | rw [← Ny1276.out] at ho11 | (simp only [Int.reduceToNat] at ho11; rw [← Ny1276.out] at ho11)); have n0_ := Aside0.mk (Kd.R_elder' (by (with_reducible repeat (first | apply Kd.R_alloc | apply Kd.R_drewN | apply Kd.R_drew)); exact HO1275.out) (Kd.R_base ho11) hb); have n1_ := Aside0.mk (Kd.R_lower (Kd.R_new' ho11 (Kd.R_lt (by (with_reducible repeat (first | apply Kd.R_alloc | apply Kd.R_drewN | apply Kd.R_drew)); exact HO1275.out))) (below_size (by repeat (first | (with_reducible first | exact HB.out | apply below_alloc | apply pw_below_drewN | apply below_drew1) | exact HB.out)))); have n2_ := Aside0.mk (below_step (by repeat (first | (with_reducible first | exact HB.out | apply below_alloc | apply pw_below_drewN | apply below_drew1) | exact HB.out)) hb); clear HO1275; clear HB; have HO1275 := n0_; have HO1278 := n1_; have HB := n2_; clear n0_ n1_ n2_; clear hb ho11) | ((with_reducible refine gate_dst (N := 23) rfl ?_); refine Kd.R_lit (Kd.int .i64) _ 2 ?hg (N := 23) ?hd (xs := ([] : List Int)) (inner := []) (ok := fun _ => True) (okp := fun _ => True) ?hr ?hp (fun _ hk => hk) trivial (Below.refl _ _) (Nat.le_refl _) (by simp) ?_; (case hd => rfl); (case hg => rfl); (case hr => first | (go_simp; done) | (go_simp; rfl)); (case hp => exact (Reps.none _ _)); intro v1280 w12 ho13 hb hg_ hnew_; clear hg_ hnew_; (first | rw [← Ny1279.out] at ho13 | (simp only [Int.reduceToNat] at ho13; rw [← Ny1279.out] at ho13)); have n0_ := Aside0.mk (Kd.R_elder' (by (with_reducible repeat (first | apply Kd.R_alloc | apply Kd.R_drewN | apply Kd.R_drew)); exact HO1275.out) (Kd.R_base ho13) hb); have n1_ := Aside0.mk (Kd.R_elder' (by (with_reducible repeat (first | apply Kd.R_alloc | apply Kd.R_drewN | apply Kd.R_drew)); exact HO1278.out) (Kd.R_base ho13) hb); have n2_ := Aside0.mk (Kd.R_lower (Kd.R_new' (Kd.R_new' ho13 (Kd.R_lt (by (with_reducible repeat (first | apply Kd.R_alloc | apply Kd.R_drewN | apply Kd.R_drew)); exact HO1275.out))) (Kd.R_lt (by (with_reducible repeat (first | apply Kd.R_alloc | apply Kd.R_drewN | apply Kd.R_drew)); exact HO1278.out))) (below_size (by repeat (first | (with_reducible first | exact HB.out | apply below_alloc | apply pw_below_drewN | apply below_drew1) | exact HB.out)))); have n3_ := Aside0.mk (below_step (by repeat (first | (with_reducible first | exact HB.out | apply below_alloc | apply pw_below_drewN | apply below_drew1) | exact HB.out)) hb); clear HO1275; clear HO1278; clear HB; have HO1275 := n0_; have HO1278 := n1_; have HO1281 := n2_; have HB := n3_; clear n0_ n1_ n2_ n3_; clear hb ho13))
 go_loopg [10, 11, 12] k (fun kq v10 v11 v12 w' => ∃ (x10_1 : List Int) (x11_1 : List Int) (x12_1 : Int), v12 = .int .i64 x12_1 ∧ Aside0 (spec_DeinterleaveLanes.l0 kq y1273 x10_1 x11_1 x12_1 = some (r1, r2, r3)) ∧ Aside0 (kq ≤ k) ∧ Aside0 (Kd.R (Kd.int .i64) 2 w' w.heap.size (fun k_ => some k_ ≠ (v10 : Value).ownBlock ∧ some k_ ≠ (v11 : Value).ownBlock) v1274 y1273) ∧ Aside0 (Kd.R (Kd.int .i64) 2 w' w.heap.size (fun k_ => some k_ ≠ (v1274 : Value).ownBlock ∧ some k_ ≠ (v11 : Value).ownBlock) v10 x10_1) ∧ Aside0 (Kd.R (Kd.int .i64) 2 w' w.heap.size (fun k_ => some k_ ≠ (v1274 : Value).ownBlock ∧ some k_ ≠ (v10 : Value).ownBlock) v11 x11_1) ∧ Aside0 (Below w.heap.size w w'))
 case atStart => exact ⟨(y1276), (y1279), (0), (by first | rfl | (simp; done) | (simp [*]; done)), H', ⟨Nat.le_refl _⟩, ⟨by (with_reducible repeat (first | apply Kd.R_alloc | apply Kd.R_drewN | apply Kd.R_drew)); exact Kd.R_mono HO1275.out (fun _ hk => ⟨hk.1.2, hk.2⟩)⟩, ⟨by (with_reducible repeat (first | apply Kd.R_alloc | apply Kd.R_drewN | apply Kd.R_drew)); exact Kd.R_mono HO1278.out (fun _ hk => ⟨hk.1.2, hk.2⟩)⟩, ⟨by (with_reducible repeat (first | apply Kd.R_alloc | apply Kd.R_drewN | apply Kd.R_drew)); exact Kd.R_mono HO1281.out (fun _ hk => ⟨hk.1.2, hk.2⟩)⟩, ⟨by repeat (first | (with_reducible first | exact HB.out | apply below_alloc | apply pw_below_drewN | apply below_drew1) | exact HB.out)⟩⟩
 case round =>
  clear H'
  try clear c1
  try clear c2
  try clear p2
  try clear c5
  try clear c7
  try clear c10
  obtain ⟨x10_1, x11_1, x12_1, rfl, HA, HK1, HO_9, HO_10, HO_11, HB⟩ := hrel
  cases gk with
  | zero => exact absurd HA.out (by simp [spec_DeinterleaveLanes.l0])
  | succ k1 =>
   have H := HA.out
   clear HA
   simp only [spec_DeinterleaveLanes.l0] at H
   by_cases c14 : x12_1 < (y1273.length : Int)
   rotate_left
   ·rw [if_neg c14] at H
    have c14b0 : decide (x12_1 < (y1273.length : Int)) = false := decide_eq_false c14
    clear c14
    simp only [Option.some.injEq, Prod.mk.injEq] at H
    obtain ⟨rfl, rfl, rfl⟩ := H
    obtain ⟨Ao24, co24, eo24⟩ := Kd.R_slice HO_9.out
    subst eo24
    go_wp2
    go_ret3
    exact ⟨_, _, by first | rfl | (simp [errW_none, errW_some] <;> rfl) | (simp [*, errW_none, errW_some] <;> rfl), by (with_reducible repeat (first | apply Kd.R_alloc | apply Kd.R_drewN | apply Kd.R_drew)); exact Kd.R_mono HO_10.out (fun _ hk => hk.2), by (with_reducible repeat (first | apply Kd.R_alloc | apply Kd.R_drewN | apply Kd.R_drew)); exact Kd.R_mono HO_11.out (fun _ hk => hk.2), by repeat (first | (with_reducible first | exact HB.out | apply below_alloc | apply pw_below_drewN | apply below_drew1) | exact HB.out)⟩
   rw [if_pos c14] at H
   have c14b0 : decide (x12_1 < (y1273.length : Int)) = true := decide_eq_true c14
   clear c14
   by_cases c15 : 0 ≤ x12_1
   rotate_left
   ·rw [if_neg c15] at H
    exact absurd H (by simp)
   rw [if_pos c15] at H
   have c15b0 : decide (0 ≤ x12_1) = true := decide_eq_true c15
   clear c15
   by_cases c16 : x10_1.length < 17592186044416
   rotate_left
   ·rw [if_neg c16] at H
    exact absurd H (by simp)
   rw [if_pos c16] at H
   have LMc16 := Aside0.mk c16
   clear c16
   obtain ⟨y1283, hy1283⟩ : ∃ y_ : List Int, y_ = (x10_1 ++ [rd y1273 x12_1]) := ⟨_, rfl⟩
   replace H : (if 0 ≤ (wrap64 (x12_1 + 1)) then (if (wrap64 (x12_1 + 1)) < (y1273.length : Int) then (if x11_1.length < 17592186044416 then (spec_DeinterleaveLanes.l0 k1 y1273 y1283 (x11_1 ++ [rd y1273 (wrap64 (x12_1 + 1))]) (wrap64 (x12_1 + 2))) else (none)) else (none)) else (none)) = some (r1, r2, r3) := by first | (rw [hy1283]; with_reducible exact H) | (have H2_ := (Option.bind_some _ _).symm.trans H; rw [hy1283]; with_reducible exact H2_) | (have H2_ := (Option.bind_some _ _).symm.trans H; with_reducible exact H2_) | with_reducible exact H | (rw [hy1283]; exact H) | exact H
   have Ny1283 := Aside0.mk hy1283
   clear hy1283
   obtain ⟨ji17, hji17⟩ : ∃ j_ : Int, (wrap64 (x12_1 + 1)) = j_ := ⟨_, rfl⟩
   replace H : (if 0 ≤ (ji17) then (if (ji17) < (y1273.length : Int) then (if x11_1.length < 17592186044416 then (spec_DeinterleaveLanes.l0 k1 y1273 y1283 (x11_1 ++ [rd y1273 (ji17)]) (wrap64 (x12_1 + 2))) else (none)) else (none)) else (none)) = some (r1, r2, r3) := by first | (rw [hji17] at H; exact H) | (simp only [hji17] at H ⊢; exact H)
   have hji17w : (IntKind.i64.wrap (x12_1 + 1)) = ji17 := (i64_w _).trans hji17
   by_cases c18 : 0 ≤ (ji17)
   rotate_left
   ·rw [if_neg c18] at H
    exact absurd H (by simp)
   rw [if_pos c18] at H
   have c18b0 : decide (0 ≤ (ji17)) = true := decide_eq_true c18
   clear c18
   by_cases c19 : (ji17) < (y1273.length : Int)
   rotate_left
   ·rw [if_neg c19] at H
    exact absurd H (by simp)
   rw [if_pos c19] at H
   have c19b0 : decide ((ji17) < (y1273.length : Int)) = true := decide_eq_true c19
   clear c19
   by_cases c20 : x11_1.length < 17592186044416
   rotate_left
   ·rw [if_neg c20] at H
    exact absurd H (by simp)
   rw [if_pos c20] at H
   have LMc20 := Aside0.mk c20
   clear c20
   obtain ⟨y1287, hy1287⟩ : ∃ y_ : List Int, y_ = (x11_1 ++ [rd y1273 (ji17)]) := ⟨_, rfl⟩
   replace H : (spec_DeinterleaveLanes.l0 k1 y1273 y1283 y1287 (wrap64 (x12_1 + 2))) = some (r1, r2, r3) := by first | (rw [hy1287]; with_reducible exact H) | (have H2_ := (Option.bind_some _ _).symm.trans H; rw [hy1287]; with_reducible exact H2_) | (have H2_ := (Option.bind_some _ _).symm.trans H; with_reducible exact H2_) | with_reducible exact H | (rw [hy1287]; exact H) | exact H
   have Ny1287 := Aside0.mk hy1287
   clear hy1287
   have H' := Aside0.mk H
   clear H
   obtain ⟨Ao21, co21, eo21⟩ := Kd.R_slice HO_9.out
   subst eo21
   have p1282 : 0 ≤ (x12_1 : Int) := of_decide_eq_true (by first | (with_reducible assumption) | assumption)
   have q1282 : x12_1 < (y1273.length : Int) := of_decide_eq_true (by first | (with_reducible assumption) | assumption)
   obtain ⟨ad1282, e1282, hx1282_0⟩ := Kd.at_int (Kd.R_reads' HO_9.out).2.2 x12_1 p1282 q1282
   cases e1282
   replace p1282 := eq_true p1282
   replace q1282 := eq_true q1282
   go_wp2_with (first | ((with_reducible refine gate_builtin (b := .append) (xs := #[.tmp 30, .tmp 35]) rfl ?_); at_builtin; refine Kd.R_append (Kd.int .i64) (w0 := w) w.heap.size rfl (.tmp 30) (.tmp 35) 22 2 (.int .i64 0) 8 rfl Try.underlying22 info2 rfl (by decide) (by omega) u10 x10_1 (rd y1273 x12_1) [.int .i64 (rd y1273 x12_1)] (fun k_ => some k_ ≠ (.slice (some ad1282) y1273.length co21 : Value).ownBlock ∧ some k_ ≠ (u11 : Value).ownBlock) (fun _ => False) rfl rfl ?aP (fun _ hk => hk.elim) ?aF ?aO ?aB ?aS ?aL ?_; (case aP => exact rfl); (case aB => exact (by repeat (first | (with_reducible first | exact HB.out | apply below_alloc | apply pw_below_drewN | apply below_drew1) | exact HB.out))); (case aF => exact (fun k_ hk => ⟨Kd.fresh' (Kd.R_lt (by (with_reducible repeat (first | apply Kd.R_alloc | apply Kd.R_drewN | apply Kd.R_drew)); exact HO_9.out)) k_ hk, Kd.fresh' (Kd.R_lt (by (with_reducible repeat (first | apply Kd.R_alloc | apply Kd.R_drewN | apply Kd.R_drew)); exact HO_11.out)) k_ hk⟩)); (case aO => exact (by (with_reducible repeat (first | apply Kd.R_alloc | apply Kd.R_drewN | apply Kd.R_drew)); exact HO_10.out)); (case aS => exact (below_size (by repeat (first | (with_reducible first | exact HB.out | apply below_alloc | apply pw_below_drewN | apply below_drew1) | exact HB.out)))); (case aL => have := LMc16.out; omega); intro v1284 w22 ho hb hg hat; rw [← Ny1283.out] at ho; have n0_ := Aside0.mk (Kd.R_after (ok := (fun k_ => some k_ ≠ (u11 : Value).ownBlock)) (by (with_reducible repeat (first | apply Kd.R_alloc | apply Kd.R_drewN | apply Kd.R_drew)); exact Kd.R_mono HO_9.out (fun _ hk => ⟨hk.2, hk.1⟩)) hg hat); have n1_ := Aside0.mk (Kd.R_after (ok := (fun k_ => some k_ ≠ (.slice (some ad1282) y1273.length co21 : Value).ownBlock)) (by (with_reducible repeat (first | apply Kd.R_alloc | apply Kd.R_drewN | apply Kd.R_drew)); exact HO_11.out) hg hat); have n2_ := Aside0.mk (hb); have n3_ := Aside0.mk (ho); clear HO_9; clear HO_11; clear HB; clear HO_10; have HO_9 := n0_; have HO_11 := n1_; have HB := n2_; have HO1285 := n3_; clear n0_ n1_ n2_ n3_; clear ho hb hg hat; have p1286 : 0 ≤ ((ji17) : Int) := of_decide_eq_true (by first | (with_reducible assumption) | assumption); have q1286 : (ji17) < (y1273.length : Int) := of_decide_eq_true (by first | (with_reducible assumption) | assumption); obtain ⟨ad1286, e1286, hx1286_0⟩ := Kd.at_int (Kd.R_reads' HO_9.out).2.2 (ji17) p1286 q1286; obtain rfl : ad1282 = ad1286 := (by injection e1286); replace p1286 := eq_true p1286; replace q1286 := eq_true q1286) | ((with_reducible refine gate_builtin (b := .append) (xs := #[.tmp 37, .tmp 43]) rfl ?_); at_builtin; refine Kd.R_append (Kd.int .i64) (w0 := w) w.heap.size rfl (.tmp 37) (.tmp 43) 22 2 (.int .i64 0) 8 rfl Try.underlying22 info2 rfl (by decide) (by omega) u11 x11_1 (rd y1273 (ji17)) [.int .i64 (rd y1273 (ji17))] (fun k_ => some k_ ≠ (.slice (some ad1282) y1273.length co21 : Value).ownBlock ∧ some k_ ≠ (v1284 : Value).ownBlock) (fun _ => False) rfl rfl ?aP (fun _ hk => hk.elim) ?aF ?aO ?aB ?aS ?aL ?_; (case aP => exact rfl); (case aB => exact (by repeat (first | (with_reducible first | exact HB.out | apply below_alloc | apply pw_below_drewN | apply below_drew1) | exact HB.out))); (case aF => exact (fun k_ hk => ⟨Kd.fresh' (Kd.R_lt (by (with_reducible repeat (first | apply Kd.R_alloc | apply Kd.R_drewN | apply Kd.R_drew)); exact HO_9.out)) k_ hk, Kd.fresh' (Kd.R_lt (by (with_reducible repeat (first | apply Kd.R_alloc | apply Kd.R_drewN | apply Kd.R_drew)); exact HO1285.out)) k_ hk⟩)); (case aO => exact (by (with_reducible repeat (first | apply Kd.R_alloc | apply Kd.R_drewN | apply Kd.R_drew)); exact HO_11.out)); (case aS => exact (below_size (by repeat (first | (with_reducible first | exact HB.out | apply below_alloc | apply pw_below_drewN | apply below_drew1) | exact HB.out)))); (case aL => have := LMc20.out; omega); intro v1288 w23 ho hb hg hat; rw [← Ny1287.out] at ho; have n0_ := Aside0.mk (Kd.R_after (ok := (fun k_ => some k_ ≠ (v1284 : Value).ownBlock)) (by (with_reducible repeat (first | apply Kd.R_alloc | apply Kd.R_drewN | apply Kd.R_drew)); exact Kd.R_mono HO_9.out (fun _ hk => ⟨hk.2, hk.1⟩)) hg hat); have n1_ := Aside0.mk (Kd.R_after (ok := (fun k_ => some k_ ≠ (.slice (some ad1282) y1273.length co21 : Value).ownBlock)) (by (with_reducible repeat (first | apply Kd.R_alloc | apply Kd.R_drewN | apply Kd.R_drew)); exact HO1285.out) hg hat); have n2_ := Aside0.mk (hb); have n3_ := Aside0.mk (ho); clear HO_9; clear HO1285; clear HB; clear HO_11; have HO_9 := n0_; have HO1285 := n1_; have HB := n2_; have HO1289 := n3_; clear n0_ n1_ n2_ n3_; clear ho hb hg hat))
   go_roundg k1
   case measure => have := HK1.out; omega
   case rel => exact ⟨(y1283), (y1287), (wrap64 (x12_1 + 2)), (by first | rfl | (simp; done) | (simp [*]; done)), H', ⟨by have := HK1.out; omega⟩, ⟨by (with_reducible repeat (first | apply Kd.R_alloc | apply Kd.R_drewN | apply Kd.R_drew)); exact HO_9.out⟩, ⟨by (with_reducible repeat (first | apply Kd.R_alloc | apply Kd.R_drewN | apply Kd.R_drew)); exact HO1285.out⟩, ⟨by (with_reducible repeat (first | apply Kd.R_alloc | apply Kd.R_drewN | apply Kd.R_drew)); exact HO1289.out⟩, ⟨by repeat (first | (with_reducible first | exact HB.out | apply below_alloc | apply pw_below_drewN | apply below_drew1) | exact HB.out)⟩⟩
/-! ### impl_DeinterleaveLanes: function 52 -/
def dei (p : Nat) (l m : List Int) : List Int := (List.range l.length).map fun (j : Nat) => rd (l ++ m) ((2 * j + p : Nat) : Int)
def impl_DeinterleaveLanes.f (_k : Nat) (a0 : Int) (l1 : List Int) (l2 : List Int) : Option (List Int × List Int × Bool) := some (if vecs a0 [l1, l2] = true then (dei 0 l1 l2, dei 1 l1 l2, true) else ([], [], false))
theorem impl_DeinterleaveLanes.mono : ∀ a0 a1 a2 k, LeO (impl_DeinterleaveLanes.f k a0 a1 a2) (impl_DeinterleaveLanes.f (k + 1) a0 a1 a2) := fun _ _ _ _ => LeO.refl _
theorem impl_DeinterleaveLanes.ok {b : Int} {l m : List Int} (h : vecs b [l, m] = true) : l.length = m.length ∧ 2 ≤ l.length ∧ l.length ≤ 16 := by
 have h : ((vec b l && ((l.length : Int) == (l.length : Int))) && ((vec b m && ((m.length : Int) == (l.length : Int))) && true)) = true := h
 simp only [Bool.and_eq_true, beq_iff_eq, Bool.and_true] at h
 have := lanes_le (vec_iff.mp h.1.1).2.1
 omega
set_option maxHeartbeats 4000000 in
theorem impl_DeinterleaveLanes.lit0 (z : List Int) (A : Option Addr) (n c : Nat) (q : Addr) (W : World) (j : Nat) (hj : 2 * j < z.length) (hl : z.length ≤ 64)
  (h1 : W.cell? q = some (.slice A z.length c)) (hr : Kd.C (Kd.int .i64) W A z.length z) :
  Calls Try.prog 114 #[.int .i64 (j : Int), .pointer (some q)] W fun e w' => e = .returned (.int .i64 (rd z ((2 * j + 0 : Nat) : Int))) ∧ Below W.heap.size W w' := by
 have k1 : ((2 * j + 0 : Nat) : Int) < (z.length : Int) := by omega
 have k0 : 0 ≤ ((2 * j + 0 : Nat) : Int) := Int.natCast_nonneg _
 have e0 : wrap64 (2 * (j : Int)) = ((2 * j + 0 : Nat) : Int) := by rw [w_small (by omega)]; omega
 generalize 2 * j + 0 = i at k0 k1 e0 ⊢
 obtain ⟨ad, e1, hx⟩ := Kd.at_int hr (i : Int) k0 k1
 cases e1
 rw [Int.toNat_natCast] at hx
 clear hr hj hl
 generalize rd z (i : Int) = x at hx ⊢
 go_enter Try.func114, Try.ntmps114
 go_wp2
 go_ret
 exact ⟨rfl, Below.refl _ _⟩
set_option maxHeartbeats 4000000 in
theorem impl_DeinterleaveLanes.lit1 (z : List Int) (A : Option Addr) (n c : Nat) (q : Addr) (W : World) (j : Nat) (hj : 2 * j + 1 < z.length) (hl : z.length ≤ 64)
  (h1 : W.cell? q = some (.slice A z.length c)) (hr : Kd.C (Kd.int .i64) W A z.length z) :
  Calls Try.prog 115 #[.int .i64 (j : Int), .pointer (some q)] W fun e w' => e = .returned (.int .i64 (rd z ((2 * j + 1 : Nat) : Int))) ∧ Below W.heap.size W w' := by
 have k1 : ((2 * j + 1 : Nat) : Int) < (z.length : Int) := by omega
 have k0 : 0 ≤ ((2 * j + 1 : Nat) : Int) := Int.natCast_nonneg _
 have e00 : wrap64 (2 * (j : Int)) = 2 * (j : Int) := w_small (by omega)
 have e0 : wrap64 (2 * (j : Int) + 1) = ((2 * j + 1 : Nat) : Int) := by rw [w_small (by omega)]; omega
 generalize 2 * j + 1 = i at k0 k1 e0 ⊢
 obtain ⟨ad, e1, hx⟩ := Kd.at_int hr (i : Int) k0 k1
 cases e1
 rw [Int.toNat_natCast] at hx
 clear hr hj hl
 generalize rd z (i : Int) = x at hx ⊢
 go_enter Try.func115, Try.ntmps115
 go_wp2
 go_ret
 exact ⟨rfl, Below.refl _ _⟩
set_option maxHeartbeats 8000000 in
set_option maxRecDepth 100000 in
theorem impl_DeinterleaveLanes.calls (k : Nat) (a0 : Int) (P1_ : Nat → Prop) (A1 : Option Addr) (c1 : Nat) (l1 : List Int) (P2_ : Nat → Prop) (A2 : Option Addr) (c2 : Nat) (l2 : List Int) (r1 : List Int) (r2 : List Int) (r3 : Bool) (w : World) (hs1 : Kd.V (Kd.int .i64) 2 w w.heap.size (fun k_ => P1_ k_) (.slice A1 l1.length c1) l1) (hs2 : Kd.V (Kd.int .i64) 2 w w.heap.size (fun k_ => P2_ k_) (.slice A2 l2.length c2) l2) (h : impl_DeinterleaveLanes.f k a0 l1 l2 = some (r1, r2, r3)) :
  Calls Try.prog 52 #[.int .i64 a0, .slice A1 l1.length c1, .slice A2 l2.length c2] w fun e w' => ∃ v0_ v1_ : Value, e = .returned (.tuple #[v0_, v1_, .bool r3]) ∧ Kd.R (Kd.int .i64) 2 w' w.heap.size (fun k_ => (w.heap.size ≤ k_) ∧ some k_ ≠ (v1_ : Value).ownBlock) v0_ r1 ∧ Kd.R (Kd.int .i64) 2 w' w.heap.size (fun k_ => (w.heap.size ≤ k_) ∧ some k_ ≠ (v0_ : Value).ownBlock) v1_ r2 ∧ Below w.heap.size w w' := by
 have hv := Option.some.inj h
 clear h
 have HC1 := Aside0.mk (Kd.V_reads' hs1).2.1
 have HC2 := Aside0.mk (Kd.V_reads' hs2).2.1
 have HO1 := Aside0.mk (show Kd.V (Kd.int .i64) 2 w w.heap.size (fun k_ => ((P1_ k_ ∨ P2_ k_) ∨ w.heap.size ≤ k_)) (.slice A1 l1.length c1) l1 from Kd.V_mono hs1 (fun k_ hk => .inl (.inl hk)))
 have HO2 := Aside0.mk (show Kd.V (Kd.int .i64) 2 w w.heap.size (fun k_ => ((P1_ k_ ∨ P2_ k_) ∨ w.heap.size ≤ k_)) (.slice A2 l2.length c2) l2 from Kd.V_mono hs2 (fun k_ hk => .inl (.inr hk)))
 have HB := Aside0.mk (Below.refl w.heap.size w)
 obtain ⟨y, hy⟩ : ∃ y : List (List Int), y = [l1, l2] := ⟨_, rfl⟩
 have Ny := Aside0.mk hy
 by_cases q : vecs a0 [l1, l2] = true
 rotate_left
 ·rw [if_neg q] at hv
  obtain ⟨rfl, e2⟩ := Prod.mk.inj hv
  obtain ⟨rfl, rfl⟩ := Prod.mk.inj e2
  clear hv e2
  have HV : Aside0 (impl_areVectors.f 0 a0 y = some false) := ⟨by rw [hy]; unfold impl_areVectors.f; rw [Bool.eq_false_iff.mpr q]⟩
  clear q hs1 hs2 hy
  go_enter Try.func52, Try.ntmps52
  go_wp2_with (first | ((with_reducible refine gate_dst (N := 13) rfl ?_); (try (refine gate_guard (by rfl) ?_; dsimp only)); refine Kd.N_lit (Kd.slice 2 (Kd.int .i64)) _ 22 ?hg (N' := 13) ?hd (xs := ([l1, l2] : List (List Int))) (inner := [.slice A1 l1.length c1, .slice A2 l2.length c2]) (ok := (fun k_ => ((P1_ k_ ∨ P2_ k_) ∨ w.heap.size ≤ k_))) (okp := (fun k_ => ((P1_ k_ ∨ P2_ k_) ∨ w.heap.size ≤ k_))) ?hr ?hp (fun _ hk => hk) ((show ∀ k_, w.heap.size ≤ k_ → (fun k_ => ((P1_ k_ ∨ P2_ k_) ∨ w.heap.size ≤ k_)) k_ from fun k_ hk => .inr hk) _ (below_size (by repeat (first | exact HB.out | exact Below.refl _ _ | apply below_alloc | apply pw_below_drewN | apply below_drew1)))) (Below.refl _ _) (Nat.le_refl _) (by simp) ?_; (case hd => rfl); (case hg => rfl); (case hr => first | (go_simp; done) | (go_simp; rfl)); (case hp => exact (Reps.one (show Kd.FK (Kd.slice 2 (Kd.int .i64)) _ _ l1 [.slice A1 l1.length c1] from (Kd.FK_slice_mk HC1.out (Kd.V_F (Kd.V_mono (ok' := (fun k_ => ((P1_ k_ ∨ P2_ k_) ∨ w.heap.size ≤ k_))) (by (with_reducible repeat (first | apply Kd.V_alloc | apply Kd.V_drewN | apply Kd.V_drew)); exact HO1.out) (fun k_ hk => hk))))) (Reps.one (show Kd.FK (Kd.slice 2 (Kd.int .i64)) _ _ l2 [.slice A2 l2.length c2] from (Kd.FK_slice_mk HC2.out (Kd.V_F (Kd.V_mono (ok' := (fun k_ => ((P1_ k_ ∨ P2_ k_) ∨ w.heap.size ≤ k_))) (by (with_reducible repeat (first | apply Kd.V_alloc | apply Kd.V_drewN | apply Kd.V_drew)); exact HO2.out) (fun k_ hk => hk))))) (Reps.none _ _)))); intro v245 w10 ho11 hb hg_ hnew_; clear hg_ hnew_; (first | rw [← Ny.out] at ho11 | (simp only [Int.reduceToNat] at ho11; rw [← Ny.out] at ho11)); have HY := Aside0.mk ho11; have ho11x := ho11; have HD1 : Aside0 (Kd.V (Kd.int .i64) 2 w10 w.heap.size (fun k_ => ((P1_ k_ ∨ P2_ k_) ∨ w.heap.size ≤ k_)) (.slice A1 l1.length c1) l1) := ⟨Kd.V_mono (Kd.V_elder' (by (with_reducible repeat (first | apply Kd.V_alloc | apply Kd.V_drewN | apply Kd.V_drew)); exact HO1.out) (Kd.N_base ho11x) hb) (fun _ hk => hk.1)⟩; have HD2 : Aside0 (Kd.V (Kd.int .i64) 2 w10 w.heap.size (fun k_ => ((P1_ k_ ∨ P2_ k_) ∨ w.heap.size ≤ k_)) (.slice A2 l2.length c2) l2) := ⟨Kd.V_mono (Kd.V_elder' (by (with_reducible repeat (first | apply Kd.V_alloc | apply Kd.V_drewN | apply Kd.V_drew)); exact HO2.out) (Kd.N_base ho11x) hb) (fun _ hk => hk.1)⟩; have n3_ : Aside0 (Below w.heap.size w w10) := ⟨below_step (by repeat (first | exact HB.out | exact Below.refl _ _ | apply below_alloc | apply pw_below_drewN | apply below_drew1)) hb⟩; (try clear HB); have HB := n3_; clear n3_; clear hb ho11 ho11x; obtain ⟨Ao12, co12, eo12⟩ := Kd.N_slice HY.out; subst eo12) | (go_at_call 106; (with_reducible refine (impl_areVectors.calls 0 a0 _ _ y false _ ?side1 ?side2 HV.out).mono ?_); (case side1 => repeat (first | exact (Kd.N_reads' HY.out).2.2 | (with_reducible refine Kd.C_alloc ?_ _) | (with_reducible refine Kd.C_drewN ?_ _) | (with_reducible refine Kd.C_drew ?_))); (case side2 => exact (Kd.N_reads' HY.out).2.1); rintro e w13 ⟨rfl, hb⟩; have n1_ := Aside0.mk (Kd.V_below (by (with_reducible repeat (first | apply Kd.V_alloc | apply Kd.V_drewN | apply Kd.V_drew)); exact HD1.out) hb); have n2_ := Aside0.mk (Kd.V_below (by (with_reducible repeat (first | apply Kd.V_alloc | apply Kd.V_drewN | apply Kd.V_drew)); exact HD2.out) hb); clear HD1 HD2; have HD1 := n1_; have HD2 := n2_; clear n1_ n2_; have n3_ : Aside0 (Below w.heap.size w w13) := ⟨below_step (by repeat (first | exact HB.out | exact Below.refl _ _ | apply below_alloc | apply pw_below_drewN | apply below_drew1)) hb⟩; clear HB; have HB := n3_; clear n3_; clear hb))
  go_ret3
  exact ⟨_, _, rfl, Kd.R_nil _ _ _ _ _, Kd.R_nil _ _ _ _ _, by repeat (first | exact HB.out | exact Below.refl _ _ | apply below_alloc | apply pw_below_drewN | apply below_drew1)⟩

 rw [if_pos q] at hv
 obtain ⟨rfl, e2⟩ := Prod.mk.inj hv
 obtain ⟨rfl, rfl⟩ := Prod.mk.inj e2
 clear hv e2
 obtain ⟨he, h2, h16⟩ := impl_DeinterleaveLanes.ok q
 have HV : Aside0 (impl_areVectors.f 0 a0 y = some true) := ⟨by rw [hy]; unfold impl_areVectors.f; rw [q]⟩
 have hfl : y.flatten = l1 ++ l2 := by rw [hy]; simp
 obtain ⟨z, hz⟩ : ∃ z : List Int, z = l1 ++ l2 := ⟨_, rfl⟩
 have hzl : z.length = 2 * l1.length := by rw [hz, List.length_append]; omega
 have HFz : Aside0 (y.flatten = z) := ⟨by rw [hfl, hz]⟩
 have HF1 : Aside0 (0 < y.flatten.length) := ⟨by rw [HFz.out]; omega⟩
 have HF2 : Aside0 (y.flatten.length < 1048576) := ⟨by rw [HFz.out]; omega⟩
 have HF3 : Aside0 (y.length < 1048576) := ⟨by rw [hy]; simp⟩
 have HA := Aside0.mk (fun (W : World) (Av : Option Addr) (cv : Nat) (qa : Addr) (hq : qa.block < W.heap.size) (h1 : W.cell? qa = some (.slice Av z.length cv)) (hC : Kd.C (Kd.int .i64) W Av z.length z) =>
  lanesOf_c 114 #[.pointer (some qa)] (enters_of Try.func114 (by kernel_rfl) rfl) l1.length (fun (j : Nat) => rd z ((2 * j + 0 : Nat) : Int)) W (by omega)
   (fun j hj W' hb' => impl_DeinterleaveLanes.lit0 z Av 0 cv qa W' j (by omega) (by omega) ((hb'.cell (p := qa) hq).trans h1) (Kd.C_below hC hb')))
 have HA1 := Aside0.mk (fun (W : World) (Av : Option Addr) (cv : Nat) (qa : Addr) (hq : qa.block < W.heap.size) (h1 : W.cell? qa = some (.slice Av z.length cv)) (hC : Kd.C (Kd.int .i64) W Av z.length z) =>
  lanesOf_c 115 #[.pointer (some qa)] (enters_of Try.func115 (by kernel_rfl) rfl) l1.length (fun (j : Nat) => rd z ((2 * j + 1 : Nat) : Int)) W (by omega)
   (fun j hj W' hb' => impl_DeinterleaveLanes.lit1 z Av 0 cv qa W' j (by omega) (by omega) ((hb'.cell (p := qa) hq).trans h1) (Kd.C_below hC hb')))
 have HD0 : Aside0 ((List.range l1.length).map (fun (j : Nat) => rd z ((2 * j + 0 : Nat) : Int)) = dei 0 l1 l2) := ⟨by rw [hz]; rfl⟩
 have HD3 : Aside0 ((List.range l1.length).map (fun (j : Nat) => rd z ((2 * j + 1 : Nat) : Int)) = dei 1 l1 l2) := ⟨by rw [hz]; rfl⟩
 clear q hs1 hs2 hy he h2 h16 hfl hz hzl
 go_enter Try.func52, Try.ntmps52
 go_wp2_with (first | ((with_reducible refine gate_dst (N := 13) rfl ?_); (try (refine gate_guard (by rfl) ?_; dsimp only)); refine Kd.N_lit (Kd.slice 2 (Kd.int .i64)) _ 22 ?hg (N' := 13) ?hd (xs := ([l1, l2] : List (List Int))) (inner := [.slice A1 l1.length c1, .slice A2 l2.length c2]) (ok := (fun k_ => ((P1_ k_ ∨ P2_ k_) ∨ w.heap.size ≤ k_))) (okp := (fun k_ => ((P1_ k_ ∨ P2_ k_) ∨ w.heap.size ≤ k_))) ?hr ?hp (fun _ hk => hk) ((show ∀ k_, w.heap.size ≤ k_ → (fun k_ => ((P1_ k_ ∨ P2_ k_) ∨ w.heap.size ≤ k_)) k_ from fun k_ hk => .inr hk) _ (below_size (by repeat (first | exact HB.out | exact Below.refl _ _ | apply below_alloc | apply pw_below_drewN | apply below_drew1)))) (Below.refl _ _) (Nat.le_refl _) (by simp) ?_; (case hd => rfl); (case hg => rfl); (case hr => first | (go_simp; done) | (go_simp; rfl)); (case hp => exact (Reps.one (show Kd.FK (Kd.slice 2 (Kd.int .i64)) _ _ l1 [.slice A1 l1.length c1] from (Kd.FK_slice_mk HC1.out (Kd.V_F (Kd.V_mono (ok' := (fun k_ => ((P1_ k_ ∨ P2_ k_) ∨ w.heap.size ≤ k_))) (by (with_reducible repeat (first | apply Kd.V_alloc | apply Kd.V_drewN | apply Kd.V_drew)); exact HO1.out) (fun k_ hk => hk))))) (Reps.one (show Kd.FK (Kd.slice 2 (Kd.int .i64)) _ _ l2 [.slice A2 l2.length c2] from (Kd.FK_slice_mk HC2.out (Kd.V_F (Kd.V_mono (ok' := (fun k_ => ((P1_ k_ ∨ P2_ k_) ∨ w.heap.size ≤ k_))) (by (with_reducible repeat (first | apply Kd.V_alloc | apply Kd.V_drewN | apply Kd.V_drew)); exact HO2.out) (fun k_ hk => hk))))) (Reps.none _ _)))); intro v245 w10 ho11 hb hg_ hnew_; clear hg_ hnew_; (first | rw [← Ny.out] at ho11 | (simp only [Int.reduceToNat] at ho11; rw [← Ny.out] at ho11)); have HY := Aside0.mk ho11; have ho11x := ho11; have HD1 : Aside0 (Kd.V (Kd.int .i64) 2 w10 w.heap.size (fun k_ => ((P1_ k_ ∨ P2_ k_) ∨ w.heap.size ≤ k_)) (.slice A1 l1.length c1) l1) := ⟨Kd.V_mono (Kd.V_elder' (by (with_reducible repeat (first | apply Kd.V_alloc | apply Kd.V_drewN | apply Kd.V_drew)); exact HO1.out) (Kd.N_base ho11x) hb) (fun _ hk => hk.1)⟩; have HD2 : Aside0 (Kd.V (Kd.int .i64) 2 w10 w.heap.size (fun k_ => ((P1_ k_ ∨ P2_ k_) ∨ w.heap.size ≤ k_)) (.slice A2 l2.length c2) l2) := ⟨Kd.V_mono (Kd.V_elder' (by (with_reducible repeat (first | apply Kd.V_alloc | apply Kd.V_drewN | apply Kd.V_drew)); exact HO2.out) (Kd.N_base ho11x) hb) (fun _ hk => hk.1)⟩; have n3_ : Aside0 (Below w.heap.size w w10) := ⟨below_step (by repeat (first | exact HB.out | exact Below.refl _ _ | apply below_alloc | apply pw_below_drewN | apply below_drew1)) hb⟩; (try clear HB); have HB := n3_; clear n3_; clear hb ho11 ho11x; obtain ⟨Ao12, co12, eo12⟩ := Kd.N_slice HY.out; subst eo12) | (go_at_call 106; (with_reducible refine (impl_areVectors.calls 0 a0 _ _ y true _ ?side1 ?side2 HV.out).mono ?_); (case side1 => repeat (first | exact (Kd.N_reads' HY.out).2.2 | (with_reducible refine Kd.C_alloc ?_ _) | (with_reducible refine Kd.C_drewN ?_ _) | (with_reducible refine Kd.C_drew ?_))); (case side2 => exact (Kd.N_reads' HY.out).2.1); rintro e w13 ⟨rfl, hb⟩; have n1_ := Aside0.mk (Kd.V_below (by (with_reducible repeat (first | apply Kd.V_alloc | apply Kd.V_drewN | apply Kd.V_drew)); exact HD1.out) hb); have n2_ := Aside0.mk (Kd.V_below (by (with_reducible repeat (first | apply Kd.V_alloc | apply Kd.V_drewN | apply Kd.V_drew)); exact HD2.out) hb); clear HD1 HD2; have HD1 := n1_; have HD2 := n2_; clear n1_ n2_; have n3_ : Aside0 (Below w.heap.size w w13) := ⟨below_step (by repeat (first | exact HB.out | exact Below.refl _ _ | apply below_alloc | apply pw_below_drewN | apply below_drew1)) hb⟩; clear HB; have HB := n3_; clear n3_; clear hb) | ((with_reducible refine gate_dst (N := 18) rfl ?_); (try (refine gate_guard (by rfl) ?_; dsimp only)); refine Kd.N_lit (Kd.slice 2 (Kd.int .i64)) _ 22 ?hg (N' := 18) ?hd (xs := ([l1, l2] : List (List Int))) (inner := [.slice A1 l1.length c1, .slice A2 l2.length c2]) (ok := (fun k_ => ((P1_ k_ ∨ P2_ k_) ∨ w.heap.size ≤ k_))) (okp := (fun k_ => ((P1_ k_ ∨ P2_ k_) ∨ w.heap.size ≤ k_))) ?hr ?hp (fun _ hk => hk) ((show ∀ k_, w.heap.size ≤ k_ → (fun k_ => ((P1_ k_ ∨ P2_ k_) ∨ w.heap.size ≤ k_)) k_ from fun k_ hk => .inr hk) _ (below_size (by repeat (first | exact HB.out | exact Below.refl _ _ | apply below_alloc | apply pw_below_drewN | apply below_drew1)))) (Below.refl _ _) (Nat.le_refl _) (by simp) ?_; (case hd => rfl); (case hg => rfl); (case hr => first | (go_simp; done) | (go_simp; rfl)); (case hp => exact (Reps.one (show Kd.FK (Kd.slice 2 (Kd.int .i64)) _ _ l1 [.slice A1 l1.length c1] from (Kd.FK_slice_mk HC1.out (Kd.V_F (Kd.V_mono (ok' := (fun k_ => ((P1_ k_ ∨ P2_ k_) ∨ w.heap.size ≤ k_))) (by (with_reducible repeat (first | apply Kd.V_alloc | apply Kd.V_drewN | apply Kd.V_drew)); exact HD1.out) (fun k_ hk => hk))))) (Reps.one (show Kd.FK (Kd.slice 2 (Kd.int .i64)) _ _ l2 [.slice A2 l2.length c2] from (Kd.FK_slice_mk HC2.out (Kd.V_F (Kd.V_mono (ok' := (fun k_ => ((P1_ k_ ∨ P2_ k_) ∨ w.heap.size ≤ k_))) (by (with_reducible repeat (first | apply Kd.V_alloc | apply Kd.V_drewN | apply Kd.V_drew)); exact HD2.out) (fun k_ hk => hk))))) (Reps.none _ _)))); intro v246 w20 ho11 hb hg_ hnew_; clear hg_ hnew_; (first | rw [← Ny.out] at ho11 | (simp only [Int.reduceToNat] at ho11; rw [← Ny.out] at ho11)); have HZ := Aside0.mk ho11; have n3_ : Aside0 (Below w.heap.size w w20) := ⟨below_step (by repeat (first | exact HB.out | exact Below.refl _ _ | apply below_alloc | apply pw_below_drewN | apply below_drew1)) hb⟩; (try clear HB); have HB := n3_; clear n3_; clear hb ho11; obtain ⟨Ao22, co22, eo12⟩ := Kd.N_slice HZ.out; subst eo12) | (go_at_call 108; refine (concat_c y _ _ _ ?g1 (Kd.N_reads' HZ.out).2.1 HF1.out HF2.out HF3.out).mono ?_; (case g1 => repeat (first | exact (Kd.N_reads' HZ.out).2.2 | (with_reducible refine Kd.C_alloc ?_ _) | (with_reducible refine Kd.C_drewN ?_ _) | (with_reducible refine Kd.C_drew ?_))); rintro e w2 ⟨v, rfl, ho, hb⟩; rw [HFz.out] at ho; obtain ⟨Av, cv, rfl, hcv, hCv⟩ := Kd.R_reads ho; have HCV := Aside0.mk hCv; have HB2 : Aside0 (Below w.heap.size w w2) := ⟨below_step (by repeat (first | exact HB.out | exact Below.refl _ _ | apply below_alloc | apply pw_below_drewN | apply below_drew1)) hb⟩; have HS2 : Aside0 (w.heap.size ≤ w2.heap.size) := ⟨below_size HB2.out⟩; clear HB hb ho hCv; have HB := HB2; clear HB2) | (go_at_call 96; refine (HA1.out _ Av cv ⟨w2.heap.size, 0, none⟩ hs3 hq3 HC3.out).mono ?_; rintro e w4 ⟨v4, rfl, ho4, hb4⟩; rw [HD3.out] at ho4) | (go_at_call 96; refine (HA.out _ Av cv ⟨w2.heap.size, 0, none⟩ ?b1 ?b2 ?b3).mono ?_; (case b1 => simp); (case b2 => first | (go_simp; done) | simp); (case b3 => repeat (first | exact HCV.out | (with_reducible refine Kd.C_alloc ?_ _) | (with_reducible refine Kd.C_drewN ?_ _) | (with_reducible refine Kd.C_drew ?_))); rintro e w3 ⟨v3, rfl, ho, hb⟩; rw [HD0.out] at ho; have hS : w.heap.size ≤ (w2.alloc (Obj.cells #[Value.slice Av z.length cv] 22)).heap.size := (by have := HS2.out; simp; omega); have HO3 : Aside0 (Kd.R (Kd.int .i64) 2 w3 w.heap.size (fun k_ => w.heap.size ≤ k_) v3 _) := ⟨Kd.R_lower (Kd.R_mono (Kd.R_bound ho) (fun k hk => Nat.le_trans hS hk.2.1)) hS⟩; have hq3 : w3.cell? ⟨w2.heap.size, 0, none⟩ = some (.slice Av z.length cv) := (hb.cell (p := ⟨w2.heap.size, 0, none⟩) (by simp)).trans (by first | (go_simp; done) | simp); have hs3 : w2.heap.size < w3.heap.size := (by have := below_size hb; simp at this; omega); have HC3 : Aside0 (Kd.C (Kd.int .i64) w3 Av z.length z) := ⟨Kd.C_below (Kd.C_alloc HCV.out _) hb⟩; have HB3 : Aside0 (Below w.heap.size w w3) := ⟨below_step (by repeat (first | exact HB.out | exact Below.refl _ _ | apply below_alloc | apply pw_below_drewN | apply below_drew1)) hb⟩; clear HB hb ho hS; have HB := HB3; clear HB3))
 go_ret3
 have hS3 : w.heap.size ≤ w3.heap.size := below_size HB.out
 exact ⟨_, _, rfl, Kd.R_elder' HO3.out (Kd.R_base ho4) hb4, Kd.R_lower (Kd.R_mono (Kd.R_newM (M := fun k => w.heap.size ≤ k) (Kd.R_newR ho4 HO3.out) hS3 (fun _ h => h)) (fun k hk => ⟨hk.1, hk.2.2⟩)) hS3, below_step HB.out hb4⟩
end Go.Proofs.Ytpcjjminopdofaa.K
