-- Laid by a program of this session.
import Derived.Test.YtpcjjminopdofaaK0
import Derived.Test.YtpcjjminopdofaaH0
import Derived.Test.YtpcjjminopdofaaK1
import Derived.Test.YtpcjjminopdofaaK2
import Derived.Test.YtpcjjminopdofaaK3
import Derived.Test.YtpcjjminopdofaaK10
import Derived.Test.YtpcjjminopdofaaK12
namespace Go.Proofs.Ytpcjjminopdofaa.K
open Go.RowKit Go.Proofs.YtpcjjminopdofaaW.PrintWords Go.Proofs.YtpcjjminopdofaaW.PrintLast Go.Proofs.YtpcjjminopdofaaW.PrintMore Go.Proofs.Ytpcjjminopdofaa.Bx Go.Shelf
attribute [local go_sem] max2_int min2_int max_two min_two max_three min_three max_four min_four   -- for this text's walks alone
set_option linter.unusedVariables false
set_option linter.unusedSimpArgs false

/-! ### spec_RampLanes: function 33 -/
mutual
def spec_RampLanes.j0 : Nat → Int → Int → Int → Int → Bool → Option (List Int × Bool)
 | 0, _, _, _, _, _ => none
 | k + 1, x0, x1, x2, x3, x26 => if x26 = true then (some (([] : List Int), false)) else (spec_RampLanes.l0 k x0 x1 x2 x3 (([] : List Int)) 0)
def spec_RampLanes.l0 : Nat → Int → Int → Int → Int → List Int → Int → Option (List Int × Bool)
 | 0, _, _, _, _, _, _ => none
 | k + 1, x0, x1, x2, x3, x10, x11 => if x11 < x1 then ((spec_l01Wrap.f x0 (wrap64 (x2 + (wrap64 (x11 * x3))))).bind fun t680 => (if x10.length < 17592186044416 then (spec_RampLanes.l0 k x0 x1 x2 x3 (x10 ++ [t680]) (wrap64 (x11 + 1))) else (none))) else (some (x10, true))
end
def spec_RampLanes.f (k : Nat) (a0 : Int) (a1 : Int) (a2 : Int) (a3 : Int) : Option (List Int × Bool) := (spec_l02Lanes.f a1).bind fun t674 => (if t674 = true then ((spec_l01Word.f a0 a2).bind fun t675 => (if t675 = true then ((spec_l01Word.f a0 a3).bind fun t676 => (spec_RampLanes.j0 k a0 a1 a2 a3 (!t676))) else (spec_RampLanes.j0 k a0 a1 a2 a3 true))) else (spec_RampLanes.j0 k a0 a1 a2 a3 true))
theorem spec_RampLanes.mono_l : ∀ k, (∀ y0 y1 y2 y3 y4, LeO (spec_RampLanes.j0 k y0 y1 y2 y3 y4) (spec_RampLanes.j0 (k + 1) y0 y1 y2 y3 y4)) ∧ (∀ y0 y1 y2 y3 y4 y5, LeO (spec_RampLanes.l0 k y0 y1 y2 y3 y4 y5) (spec_RampLanes.l0 (k + 1) y0 y1 y2 y3 y4 y5))
 | 0 => ⟨fun _ _ _ _ _ r h => by simp [spec_RampLanes.j0] at h, fun _ _ _ _ _ _ r h => by simp [spec_RampLanes.l0] at h⟩
 | k + 1 => by
  obtain ⟨ih0, ih1⟩ := spec_RampLanes.mono_l k
  refine ⟨?_, ?_⟩
  ·intro y0 y1 y2 y3 y4
   unfold spec_RampLanes.j0
   repeat' first
   | (with_reducible exact ih0 _ _ _ _ _)
   | (with_reducible exact ih1 _ _ _ _ _ _)
   | (with_reducible exact LeO.refl _)
   | (with_reducible exact LeO.none _)
   | (with_reducible refine LeO.ite ?_ ?_)
   | (with_reducible refine LeO.bind ?_ (fun _ => ?_))
   | exact ih0 _ _ _ _ _
   | exact ih1 _ _ _ _ _ _
   | exact LeO.none _
   | refine LeO.ite ?_ ?_
   | refine LeO.bind ?_ (fun _ => ?_)
  ·intro y0 y1 y2 y3 y4 y5
   unfold spec_RampLanes.l0
   repeat' first
   | (with_reducible exact ih0 _ _ _ _ _)
   | (with_reducible exact ih1 _ _ _ _ _ _)
   | (with_reducible exact LeO.refl _)
   | (with_reducible exact LeO.none _)
   | (with_reducible refine LeO.ite ?_ ?_)
   | (with_reducible refine LeO.bind ?_ (fun _ => ?_))
   | exact ih0 _ _ _ _ _
   | exact ih1 _ _ _ _ _ _
   | exact LeO.none _
   | refine LeO.ite ?_ ?_
   | refine LeO.bind ?_ (fun _ => ?_)
theorem spec_RampLanes.mono : ∀ a0 a1 a2 a3 k, LeO (spec_RampLanes.f k a0 a1 a2 a3) (spec_RampLanes.f (k + 1) a0 a1 a2 a3) := by
 intro a0 a1 a2 a3 k
 obtain ⟨ih0, ih1⟩ := spec_RampLanes.mono_l k
 unfold spec_RampLanes.f
 repeat' first
   | (with_reducible exact ih0 _ _ _ _ _)
   | (with_reducible exact ih1 _ _ _ _ _ _)
   | (with_reducible exact LeO.refl _)
   | (with_reducible exact LeO.none _)
   | (with_reducible refine LeO.ite ?_ ?_)
   | (with_reducible refine LeO.bind ?_ (fun _ => ?_))
   | exact ih0 _ _ _ _ _
   | exact ih1 _ _ _ _ _ _
   | exact LeO.none _
   | refine LeO.ite ?_ ?_
   | refine LeO.bind ?_ (fun _ => ?_)
set_option maxHeartbeats 8000000 in
set_option maxRecDepth 100000 in
theorem spec_RampLanes.calls (k : Nat) (a0 : Int) (a1 : Int) (a2 : Int) (a3 : Int) (r1 : List Int) (r2 : Bool) (w : World) (h : spec_RampLanes.f k a0 a1 a2 a3 = some (r1, r2)) :
  Calls Try.prog 33 #[.int .i64 a0, .int .i64 a1, .int .i64 a2, .int .i64 a3] w fun e w' => ∃ v0_ : Value, e = .returned (.tuple #[v0_, .bool r2]) ∧ Kd.R (Kd.int .i64) 2 w' w.heap.size (fun _ => True) v0_ r1 ∧ Below w.heap.size w w' := by
 have HB := Aside0.mk (Below.refl w.heap.size w)
 have H : ((spec_l02Lanes.f a1).bind fun t674 => (if t674 = true then ((spec_l01Word.f a0 a2).bind fun t675 => (if t675 = true then ((spec_l01Word.f a0 a3).bind fun t676 => (spec_RampLanes.j0 k a0 a1 a2 a3 (!t676))) else (spec_RampLanes.j0 k a0 a1 a2 a3 true))) else (spec_RampLanes.j0 k a0 a1 a2 a3 true))) = some (r1, r2) := h
 clear h
 have HC5 := Aside0.mk H
 clear H
 go_enter Try.func33, Try.ntmps33
 go_upto_region 1 with (fail)
 go_cut [26] (fun v26 wc => ∃ (kq : Nat) (x26_4 : Bool), v26 = .bool x26_4 ∧ Aside0 (spec_RampLanes.j0 kq a0 a1 a2 a3 x26_4 = some (r1, r2)) ∧ Aside0 (kq ≤ k) ∧ Aside0 (Below w.heap.size w wc))
 case first =>
  have H := HC5.out
  clear HC5
  replace H := Option.bind_eq_some_iff.mp H
  obtain ⟨t674, A60, H⟩ := H
  try dsimp only at H
  have A6 := Aside0.mk A60
  clear A60
  by_cases c7 : t674 = true
  rotate_left
  ·replace c7 := Bool.eq_false_iff.mpr c7
   subst c7
   rw [if_neg (show ¬ (false = true) by decide)] at H
   have H' := Aside0.mk H
   clear H
   go_wp2_with (first | ((with_reducible refine gate_callee (f := 93) rfl ?_); refine goesL_ (some 13) rfl rfl Try.func93 (by kernel_rfl) rfl #[.int .i64 a1] rfl (by (try simp only [List.map_toArray, List.map_cons, List.map_nil]); first | done | rfl | (simp only [List.length_drop, List.length_take]; rfl)) ?_; (with_reducible refine (spec_l02Lanes.calls a1 false _ A6.out).mono ?_); rintro e w' ⟨rfl, ⟨nd, rfl⟩⟩; refine ⟨_, rfl, ?_⟩))
   go_meet
   case rel => exact ⟨_, (true), (by first | rfl | (simp; done) | (simp [*]; done)), H', ⟨by first | omega | exact Nat.le_refl _⟩, ⟨by repeat (first | (with_reducible first | exact HB.out | apply below_alloc | apply pw_below_drewN | apply below_drew1) | exact HB.out)⟩⟩
  subst c7
  rw [if_pos rfl] at H
  replace H := Option.bind_eq_some_iff.mp H
  obtain ⟨t675, A80, H⟩ := H
  try dsimp only at H
  have A8 := Aside0.mk A80
  clear A80
  by_cases c9 : t675 = true
  rotate_left
  ·replace c9 := Bool.eq_false_iff.mpr c9
   subst c9
   rw [if_neg (show ¬ (false = true) by decide)] at H
   have H' := Aside0.mk H
   clear H
   go_wp2_with (first | ((with_reducible refine gate_callee (f := 93) rfl ?_); refine goesL_ (some 13) rfl rfl Try.func93 (by kernel_rfl) rfl #[.int .i64 a1] rfl (by (try simp only [List.map_toArray, List.map_cons, List.map_nil]); first | done | rfl | (simp only [List.length_drop, List.length_take]; rfl)) ?_; (with_reducible refine (spec_l02Lanes.calls a1 true _ A6.out).mono ?_); rintro e w' ⟨rfl, ⟨nd, rfl⟩⟩; refine ⟨_, rfl, ?_⟩) | (go_at_call 94; (with_reducible refine (spec_l01Word.calls a0 a2 false _ A8.out).mono ?_); rintro e w' ⟨rfl, ⟨nd, rfl⟩⟩))
   go_meet
   case rel => exact ⟨_, (true), (by first | rfl | (simp; done) | (simp [*]; done)), H', ⟨by first | omega | exact Nat.le_refl _⟩, ⟨by repeat (first | (with_reducible first | exact HB.out | apply below_alloc | apply pw_below_drewN | apply below_drew1) | exact HB.out)⟩⟩
  subst c9
  rw [if_pos rfl] at H
  replace H := Option.bind_eq_some_iff.mp H
  obtain ⟨t676, A100, H⟩ := H
  try dsimp only at H
  have A10 := Aside0.mk A100
  clear A100
  have H' := Aside0.mk H
  clear H
  go_wp2_with (first | ((with_reducible refine gate_callee (f := 93) rfl ?_); refine goesL_ (some 13) rfl rfl Try.func93 (by kernel_rfl) rfl #[.int .i64 a1] rfl (by (try simp only [List.map_toArray, List.map_cons, List.map_nil]); first | done | rfl | (simp only [List.length_drop, List.length_take]; rfl)) ?_; (with_reducible refine (spec_l02Lanes.calls a1 true _ A6.out).mono ?_); rintro e w' ⟨rfl, ⟨nd, rfl⟩⟩; refine ⟨_, rfl, ?_⟩) | (go_at_call 94; (with_reducible refine (spec_l01Word.calls a0 a2 true _ A8.out).mono ?_); rintro e w' ⟨rfl, ⟨nd, rfl⟩⟩) | (go_at_call 94; (with_reducible refine (spec_l01Word.calls a0 a3 t676 _ A10.out).mono ?_); rintro e w' ⟨rfl, ⟨nd, rfl⟩⟩))
  go_meet
  case rel => exact ⟨_, (!t676), (by first | rfl | (simp; done) | (simp [*]; done)), H', ⟨by first | omega | exact Nat.le_refl _⟩, ⟨by repeat (first | (with_reducible first | exact HB.out | apply below_alloc | apply pw_below_drewN | apply below_drew1) | exact HB.out)⟩⟩
 case rest =>
  clear HC5
  try clear p2
  try clear c3
  try clear c7
  try clear c9
  obtain ⟨kq, x26_4, rfl, HA, HJ4, HB⟩ := hcut
  cases kq with
  | zero => exact absurd HA.out (by simp [spec_RampLanes.j0])
  | succ kj4 =>
   have H := HA.out
   clear HA
   simp only [spec_RampLanes.j0] at H
   by_cases c11 : x26_4 = true
   ·subst c11
    rw [if_pos rfl] at H
    simp only [Option.some.injEq, Prod.mk.injEq] at H
    obtain ⟨rfl, rfl⟩ := H
    go_wp2
    go_ret2
    exact ⟨_, by first | rfl | (simp [errW_none, errW_some] <;> rfl) | (simp [*, errW_none, errW_some] <;> rfl), by first | exact Kd.R_nil _ _ _ _ _ | exact Kd.N_nil _ _ _ _ _ | exact Kd.V_nil _ _ _ _ _ | exact Kd.Q_nil _ _ _ _ _ | exact Kd.S_nil _ _ _ _ _, by repeat (first | (with_reducible first | exact HB.out | apply below_alloc | apply pw_below_drewN | apply below_drew1) | exact HB.out)⟩
   replace c11 := Bool.eq_false_iff.mpr c11
   subst c11
   rw [if_neg (show ¬ (false = true) by decide)] at H
   obtain ⟨y677, hy677⟩ : ∃ y_ : List Int, y_ = (([] : List Int)) := ⟨_, rfl⟩
   replace H : (spec_RampLanes.l0 kj4 a0 a1 a2 a3 y677 0) = some (r1, r2) := by first | (rw [hy677]; with_reducible exact H) | (have H2_ := (Option.bind_some _ _).symm.trans H; rw [hy677]; with_reducible exact H2_) | (have H2_ := (Option.bind_some _ _).symm.trans H; with_reducible exact H2_) | with_reducible exact H | (rw [hy677]; exact H) | exact H
   have Ny677 := Aside0.mk hy677
   clear hy677
   have H' := Aside0.mk H
   clear H
   go_wp2_with (first | ((with_reducible refine gate_dst (N := 27) rfl ?_); refine Kd.R_lit (Kd.int .i64) _ 2 ?hg (N := 27) ?hd (xs := ([] : List Int)) (inner := []) (ok := fun _ => True) (okp := fun _ => True) ?hr ?hp (fun _ hk => hk) trivial (Below.refl _ _) (Nat.le_refl _) (by simp) ?_; (case hd => rfl); (case hg => rfl); (case hr => first | (go_simp; done) | (go_simp; rfl)); (case hp => exact (Reps.none _ _)); intro v678 w12 ho13 hb hg_ hnew_; clear hg_ hnew_; (first | rw [← Ny677.out] at ho13 | (simp only [Int.reduceToNat] at ho13; rw [← Ny677.out] at ho13)); have n0_ := Aside0.mk (Kd.R_lower ho13 (below_size (by repeat (first | (with_reducible first | exact HB.out | apply below_alloc | apply pw_below_drewN | apply below_drew1) | exact HB.out)))); have n1_ := Aside0.mk (below_step (by repeat (first | (with_reducible first | exact HB.out | apply below_alloc | apply pw_below_drewN | apply below_drew1) | exact HB.out)) hb); clear HB; have HO679 := n0_; have HB := n1_; clear n0_ n1_; clear hb ho13))
   go_loopg [10, 11] kj4 (fun kq v10 v11 w' => ∃ (x10_2 : List Int) (x11_2 : Int), v11 = .int .i64 x11_2 ∧ Aside0 (spec_RampLanes.l0 kq a0 a1 a2 a3 x10_2 x11_2 = some (r1, r2)) ∧ Aside0 (kq ≤ kj4) ∧ Aside0 (Kd.R (Kd.int .i64) 2 w' w.heap.size (fun _ => True) v10 x10_2) ∧ Aside0 (Below w.heap.size w w'))
   case atStart => exact ⟨(y677), (0), (by first | rfl | (simp; done) | (simp [*]; done)), H', ⟨Nat.le_refl _⟩, ⟨by (with_reducible repeat (first | apply Kd.R_alloc | apply Kd.R_drewN | apply Kd.R_drew)); exact HO679.out⟩, ⟨by repeat (first | (with_reducible first | exact HB.out | apply below_alloc | apply pw_below_drewN | apply below_drew1) | exact HB.out)⟩⟩
   case round =>
    clear H'
    try clear c1
    try clear p2
    try clear c3
    try clear c7
    try clear c9
    try clear c11
    try clear p2
    obtain ⟨x10_2, x11_2, rfl, HA, HK2, HO_10, HB⟩ := hrel
    cases gk with
    | zero => exact absurd HA.out (by simp [spec_RampLanes.l0])
    | succ k2 =>
     have H := HA.out
     clear HA
     simp only [spec_RampLanes.l0] at H
     by_cases c14 : x11_2 < a1
     rotate_left
     ·rw [if_neg c14] at H
      have c14b0 : decide (x11_2 < a1) = false := decide_eq_false c14
      clear c14
      simp only [Option.some.injEq, Prod.mk.injEq] at H
      obtain ⟨rfl, rfl⟩ := H
      go_wp2
      go_ret2
      exact ⟨_, by first | rfl | (simp [errW_none, errW_some] <;> rfl) | (simp [*, errW_none, errW_some] <;> rfl), by (with_reducible repeat (first | apply Kd.R_alloc | apply Kd.R_drewN | apply Kd.R_drew)); exact HO_10.out, by repeat (first | (with_reducible first | exact HB.out | apply below_alloc | apply pw_below_drewN | apply below_drew1) | exact HB.out)⟩

     rw [if_pos c14] at H
     have c14b0 : decide (x11_2 < a1) = true := decide_eq_true c14
     clear c14
     replace H := Option.bind_eq_some_iff.mp H
     obtain ⟨t680, A150, H⟩ := H
     try dsimp only at H
     have A15 := Aside0.mk A150
     clear A150
     by_cases c16 : x10_2.length < 17592186044416
     rotate_left
     ·rw [if_neg c16] at H
      exact absurd H (by simp)
     rw [if_pos c16] at H
     have LMc16 := Aside0.mk c16
     clear c16
     obtain ⟨y681, hy681⟩ : ∃ y_ : List Int, y_ = (x10_2 ++ [t680]) := ⟨_, rfl⟩
     replace H : (spec_RampLanes.l0 k2 a0 a1 a2 a3 y681 (wrap64 (x11_2 + 1))) = some (r1, r2) := by first | (rw [hy681]; with_reducible exact H) | (have H2_ := (Option.bind_some _ _).symm.trans H; rw [hy681]; with_reducible exact H2_) | (have H2_ := (Option.bind_some _ _).symm.trans H; with_reducible exact H2_) | with_reducible exact H | (rw [hy681]; exact H) | exact H
     have Ny681 := Aside0.mk hy681
     clear hy681
     have H' := Aside0.mk H
     clear H
     go_wp2_with (first | ((with_reducible refine gate_callee (f := 95) rfl ?_); refine goesL_ (some 40) rfl rfl Try.func95 (by kernel_rfl) rfl #[.int .i64 a0, .int .i64 (wrap64 (a2 + (wrap64 (x11_2 * a3))))] rfl (by (try simp only [List.map_toArray, List.map_cons, List.map_nil]); first | done | rfl | (simp only [List.length_drop, List.length_take]; rfl)) ?_; (with_reducible refine (spec_l01Wrap.calls a0 (wrap64 (a2 + (wrap64 (x11_2 * a3)))) t680 _ A15.out).mono ?_); rintro e w' ⟨rfl, ⟨nd, rfl⟩⟩; refine ⟨_, rfl, ?_⟩) | ((with_reducible refine gate_builtin (b := .append) (xs := #[.tmp 33, .tmp 41]) rfl ?_); at_builtin; refine Kd.R_append (Kd.int .i64) (w0 := w) w.heap.size rfl (.tmp 33) (.tmp 41) 22 2 (.int .i64 0) 8 rfl Try.underlying22 info2 rfl (by decide) (by omega) u10 x10_2 t680 [.int .i64 t680] (fun _ => True) (fun _ => False) rfl rfl ?aP (fun _ hk => hk.elim) ?aF ?aO ?aB ?aS ?aL ?_; (case aP => exact rfl); (case aB => exact (by repeat (first | (with_reducible first | exact HB.out | apply below_alloc | apply pw_below_drewN | apply below_drew1) | exact HB.out))); (case aF => exact (fun _ _ => trivial)); (case aO => exact (by (with_reducible repeat (first | apply Kd.R_alloc | apply Kd.R_drewN | apply Kd.R_drew)); exact HO_10.out)); (case aS => exact (below_size (by repeat (first | (with_reducible first | exact HB.out | apply below_alloc | apply pw_below_drewN | apply below_drew1) | exact HB.out)))); (case aL => have := LMc16.out; omega); intro v682 w17 ho hb hg hat; rw [← Ny681.out] at ho; have n0_ := Aside0.mk (hb); have n1_ := Aside0.mk (ho); clear HB; clear HO_10; have HB := n0_; have HO683 := n1_; clear n0_ n1_; clear ho hb hg hat))
     go_roundg k2
     case measure => have := HJ4.out; have := HK2.out; omega
     case rel => exact ⟨(y681), (wrap64 (x11_2 + 1)), (by first | rfl | (simp; done) | (simp [*]; done)), H', ⟨by have := HJ4.out; have := HK2.out; omega⟩, ⟨by (with_reducible repeat (first | apply Kd.R_alloc | apply Kd.R_drewN | apply Kd.R_drew)); exact HO683.out⟩, ⟨by repeat (first | (with_reducible first | exact HB.out | apply below_alloc | apply pw_below_drewN | apply below_drew1) | exact HB.out)⟩⟩
/-! ### impl_RampLanes: function 34 -/
/-- A rising row. -/
def ramp (b n x y : Int) : List Int × Bool := if (Word b x ∧ Word b y) ∧ Lanes n then ((List.range n.toNat).map fun (j : Nat) => (x + (j : Int) * y) % M b, true) else ([], false)
def impl_RampLanes.f (_k : Nat) (a0 : Int) (a1 : Int) (a2 : Int) (a3 : Int) : Option (List Int × Bool) := some (ramp a0 a1 a2 a3)
theorem impl_RampLanes.mono : ∀ a0 a1 a2 a3 k, LeO (impl_RampLanes.f k a0 a1 a2 a3) (impl_RampLanes.f (k + 1) a0 a1 a2 a3) := fun _ _ _ _ _ => LeO.refl _
set_option maxHeartbeats 4000000 in
theorem impl_RampLanes.lit (b x y : Int) (B : Nat) (W : World) (j : Nat) (hj : j < 16) (hx : Word b x) (hy : Word b y)
  (h1 : W.cell? ⟨B, 0, none⟩ = some (.int .i64 b)) (h2 : W.cell? ⟨B + 1, 0, none⟩ = some (.int .i64 x)) (h3 : W.cell? ⟨B + 1 + 1, 0, none⟩ = some (.int .i64 y)) :
  Calls Try.prog 97 #[.int .i64 (j : Int), .pointer (some ⟨B, 0, none⟩), .pointer (some ⟨B + 1, 0, none⟩), .pointer (some ⟨B + 1 + 1, 0, none⟩)] W fun e w' => e = .returned (.int .i64 ((x + (j : Int) * y) % M b)) ∧ Below W.heap.size W w' := by
 have hM := @M_le b
 have hy2 := hy.2
 have hx2 := hx.2
 have hp : (j : Int) * y ≤ 16 * 65536 := Int.mul_le_mul (by omega) (by omega) (by omega) (by omega)
 have hp0 : 0 ≤ (j : Int) * y := Int.mul_nonneg (by omega) (by omega)
 have HB := Aside0.mk hx.1
 have E : Aside0 (wrap64 (x + wrap64 ((j : Int) * y)) = x + (j : Int) * y) := ⟨by rw [w_small (n := (j : Int) * y) (by omega), w_small (by omega)]⟩
 have E2 : Aside0 (IntKind.i64.wrap (x + IntKind.i64.wrap ((j : Int) * y)) = x + (j : Int) * y) := ⟨by rw [IntKind.wrap_i64, IntKind.wrap_i64]; omega⟩
 clear hM hy2 hx2 hp hp0 hx hy hj
 go_enter Try.func97, Try.ntmps97
 go_wp2_with (go_at_call 98; (with_reducible refine (impl_wrapped.calls b _ _ _ (iWrap HB.out _)).mono ?_); rintro e w' ⟨rfl, ⟨nd, rfl⟩⟩)
 go_ret
 exact ⟨by first | rfl | (rw [E2.out]; rfl) | (rw [E.out]; rfl), pw_below_drewN (Below.refl _ _) _⟩
set_option maxHeartbeats 8000000 in
set_option maxRecDepth 100000 in
theorem impl_RampLanes.calls (k : Nat) (a0 : Int) (a1 : Int) (a2 : Int) (a3 : Int) (r1 : List Int) (r2 : Bool) (w : World) (h : impl_RampLanes.f k a0 a1 a2 a3 = some (r1, r2)) :
  Calls Try.prog 34 #[.int .i64 a0, .int .i64 a1, .int .i64 a2, .int .i64 a3] w fun e w' => ∃ v0_ : Value, e = .returned (.tuple #[v0_, .bool r2]) ∧ Kd.R (Kd.int .i64) 2 w' w.heap.size (fun _ => True) v0_ r1 ∧ Below w.heap.size w w' := by
 have hv := Option.some.inj h
 clear h
 by_cases hx : Word a0 a2
 rotate_left
 ·have e : ramp a0 a1 a2 a3 = ([], false) := by unfold ramp; rw [if_neg (by exact fun q => hx q.1.1)]
  rw [e] at hv
  obtain ⟨rfl, rfl⟩ := Prod.mk.inj hv
  clear e hv
  have HX := Aside0.mk hx; clear hx
  go_enter Try.func34, Try.ntmps34
  go_wp2_with (first | (go_at_call 92; (with_reducible refine (impl_IsWord.calls a0 a2 false _ (by rw [iWord, decide_eq_false HX.out])).mono ?_); rintro e w' ⟨rfl, ⟨nd, rfl⟩⟩))
  go_ret2
  refine ⟨_, rfl, Kd.R_nil _ _ _ _ _, ?_⟩
  repeat (first | exact Below.refl _ _ | apply below_alloc | apply pw_below_drewN | apply below_drew1)

 by_cases hy : Word a0 a3
 rotate_left
 ·have e : ramp a0 a1 a2 a3 = ([], false) := by unfold ramp; rw [if_neg (by exact fun q => hy q.1.2)]
  rw [e] at hv
  obtain ⟨rfl, rfl⟩ := Prod.mk.inj hv
  clear e hv
  have HX := Aside0.mk hx; have HY := Aside0.mk hy; clear hx hy
  go_enter Try.func34, Try.ntmps34
  go_wp2_with (first | (go_at_call 92; (with_reducible refine (impl_IsWord.calls a0 a2 true _ (by rw [iWord, decide_eq_true HX.out])).mono ?_); rintro e w' ⟨rfl, ⟨nd, rfl⟩⟩) | (go_at_call 92; (with_reducible refine (impl_IsWord.calls a0 a3 false _ (by rw [iWord, decide_eq_false HY.out])).mono ?_); rintro e w' ⟨rfl, ⟨nd2, rfl⟩⟩))
  go_ret2
  refine ⟨_, rfl, Kd.R_nil _ _ _ _ _, ?_⟩
  repeat (first | exact Below.refl _ _ | apply below_alloc | apply pw_below_drewN | apply below_drew1)
 by_cases hl : Lanes a1
 rotate_left
 ·have e : ramp a0 a1 a2 a3 = ([], false) := by unfold ramp; rw [if_neg (by exact fun q => hl q.2)]
  rw [e] at hv
  obtain ⟨rfl, rfl⟩ := Prod.mk.inj hv
  clear e hv
  have HX := Aside0.mk hx; have HY := Aside0.mk hy; have HL := Aside0.mk hl; clear hx hy hl
  go_enter Try.func34, Try.ntmps34
  go_wp2_with (first | (go_at_call 92; (with_reducible refine (impl_IsWord.calls a0 a2 true _ (by rw [iWord, decide_eq_true HX.out])).mono ?_); rintro e w' ⟨rfl, ⟨nd, rfl⟩⟩) | (go_at_call 92; (with_reducible refine (impl_IsWord.calls a0 a3 true _ (by rw [iWord, decide_eq_true HY.out])).mono ?_); rintro e w' ⟨rfl, ⟨nd2, rfl⟩⟩) | (go_at_call 85; (with_reducible refine (impl_isLanes.calls _ false _ (by rw [iLanes, decide_eq_false HL.out])).mono ?_); rintro e w' ⟨rfl, ⟨nd3, rfl⟩⟩))
  go_ret2
  refine ⟨_, rfl, Kd.R_nil _ _ _ _ _, ?_⟩
  repeat (first | exact Below.refl _ _ | apply below_alloc | apply pw_below_drewN | apply below_drew1)
 have hl2 := lanes_le hl
 obtain ⟨m, rfl⟩ := Int.eq_ofNat_of_zero_le (show 0 ≤ a1 by omega)
 have e : ramp a0 (m : Int) a2 a3 = ((List.range m).map fun (j : Nat) => (a2 + (j : Int) * a3) % M a0, true) := by unfold ramp; rw [if_pos ⟨⟨hx, hy⟩, hl⟩, Int.toNat_natCast]
 rw [e] at hv
 obtain ⟨rfl, rfl⟩ := Prod.mk.inj hv
 clear e hv
 have HX := Aside0.mk hx
 have HY := Aside0.mk hy
 have HL := Aside0.mk hl
 have HA := Aside0.mk (fun (W : World) (hB : Below w.heap.size w W) (hB2 : w.heap.size + 1 + 1 < W.heap.size) (h1 : W.cell? ⟨w.heap.size, 0, none⟩ = some (.int .i64 a0)) (h2 : W.cell? ⟨w.heap.size + 1, 0, none⟩ = some (.int .i64 a2)) (h3 : W.cell? ⟨w.heap.size + 1 + 1, 0, none⟩ = some (.int .i64 a3)) =>
  lanesOf_c 97 #[.pointer (some ⟨w.heap.size, 0, none⟩), .pointer (some ⟨w.heap.size + 1, 0, none⟩), .pointer (some ⟨w.heap.size + 1 + 1, 0, none⟩)] (enters_of Try.func97 (by kernel_rfl) rfl) m (fun (j : Nat) => (a2 + (j : Int) * a3) % M a0) W (by omega)
   (fun j hj W' hb' => impl_RampLanes.lit a0 a2 a3 w.heap.size W' j (by omega) hx hy
    ((hb'.cell (p := ⟨w.heap.size, 0, none⟩) (by show w.heap.size < _; omega)).trans h1) ((hb'.cell (p := ⟨w.heap.size + 1, 0, none⟩) (by show w.heap.size + 1 < _; omega)).trans h2)
    ((hb'.cell (p := ⟨w.heap.size + 1 + 1, 0, none⟩) (by show w.heap.size + 1 + 1 < _; omega)).trans h3)))
 clear hx hy hl hl2
 go_enter Try.func34, Try.ntmps34
 go_wp2_with (first | (go_at_call 92; (with_reducible refine (impl_IsWord.calls a0 a2 true _ (by rw [iWord, decide_eq_true HX.out])).mono ?_); rintro e w' ⟨rfl, ⟨nd, rfl⟩⟩) | (go_at_call 92; (with_reducible refine (impl_IsWord.calls a0 a3 true _ (by rw [iWord, decide_eq_true HY.out])).mono ?_); rintro e w' ⟨rfl, ⟨nd2, rfl⟩⟩) | (go_at_call 85; (with_reducible refine (impl_isLanes.calls _ true _ (by rw [iLanes, decide_eq_true HL.out])).mono ?_); rintro e w' ⟨rfl, ⟨nd3, rfl⟩⟩) | (go_at_call 96; refine (HA.out _ ?a1 ?a2 ?a3 ?a4 ?a5).mono ?_; (case a1 => repeat (first | exact Below.refl _ _ | apply below_alloc | apply pw_below_drewN | apply below_drew1)); (case a2 => simp); (case a3 => (go_simp; done)); (case a4 => (go_simp; done)); (case a5 => (go_simp; done)); rintro e w' ⟨v, rfl, ho, hb⟩))
 go_ret2
 refine ⟨_, rfl, Kd.R_lower ho (by simp; omega), below_step ?_ hb⟩
 repeat (first | exact Below.refl _ _ | apply below_alloc | apply pw_below_drewN | apply below_drew1)
end Go.Proofs.Ytpcjjminopdofaa.K
