-- Laid by a program of this session.
import Derived.Test.YteknfebehafbdaaK0
import Derived.Test.YteknfebehafbdaaH0
import Derived.Test.YteknfebehafbdaaH4
import Derived.Test.YteknfebehafbdaaK1
import Derived.Test.YteknfebehafbdaaK3
namespace Go.Proofs.Yteknfebehafbdaa.K
open Go.RowKit Go.Proofs.YteknfebehafbdaaW.PrintWords Go.Proofs.YteknfebehafbdaaW.PrintLast Go.Proofs.YteknfebehafbdaaW.PrintMore Go.Proofs.Yteknfebehafbdaa.Bx Go.Shelf
attribute [local go_sem] max2_int min2_int max_two min_two max_three min_three max_four min_four   -- for this text's walks alone
set_option linter.unusedVariables false
set_option linter.unusedSimpArgs false

/-! ### spec_l03Outputs: function 78 -/
def spec_l03Outputs.l0 : Nat → List (S58) → List Int → Int → Option (List Int)
 | 0, _, _, _ => none
 | k + 1, x0, x3, x4 => if x4 < (x0.length : Int) then (if 0 ≤ x4 then ((spec_l00Put.f k x3 ((rd_T58 x0 x4).f1)).bind fun t191 => (spec_l03Outputs.l0 k x0 t191 (wrap64 (x4 + 1)))) else (none)) else (some x3)
def spec_l03Outputs.f (k : Nat) (l0 : List (S58)) : Option (List Int) := spec_l03Outputs.l0 k l0 (([] : List Int)) 0
theorem spec_l03Outputs.mono_l : ∀ k, (∀ y0 y1 y2, LeO (spec_l03Outputs.l0 k y0 y1 y2) (spec_l03Outputs.l0 (k + 1) y0 y1 y2))
 | 0 => fun _ _ _ r h => by simp [spec_l03Outputs.l0] at h
 | k + 1 => by
  have ih0 := spec_l03Outputs.mono_l k
  ·intro y0 y1 y2
   unfold spec_l03Outputs.l0
   repeat' first
   | (with_reducible exact ih0 _ _ _)
   | (with_reducible exact spec_l00Put.mono _ _ _)
   | (with_reducible exact LeO.refl _)
   | (with_reducible exact LeO.none _)
   | (with_reducible refine LeO.ite ?_ ?_)
   | (with_reducible refine LeO.bind ?_ (fun _ => ?_))
   | exact ih0 _ _ _
   | exact spec_l00Put.mono _ _ _
   | exact LeO.none _
   | refine LeO.ite ?_ ?_
   | refine LeO.bind ?_ (fun _ => ?_)
theorem spec_l03Outputs.mono : ∀ a0 k, LeO (spec_l03Outputs.f k a0) (spec_l03Outputs.f (k + 1) a0) := by
 intro a0 k
 have ih0 := spec_l03Outputs.mono_l k
 unfold spec_l03Outputs.f
 repeat' first
   | (with_reducible exact ih0 _ _ _)
   | (with_reducible exact spec_l00Put.mono _ _ _)
   | (with_reducible exact LeO.refl _)
   | (with_reducible exact LeO.none _)
   | (with_reducible refine LeO.ite ?_ ?_)
   | (with_reducible refine LeO.bind ?_ (fun _ => ?_))
   | exact ih0 _ _ _
   | exact spec_l00Put.mono _ _ _
   | exact LeO.none _
   | refine LeO.ite ?_ ?_
   | refine LeO.bind ?_ (fun _ => ?_)
set_option maxHeartbeats 8000000 in
set_option maxRecDepth 100000 in
theorem spec_l03Outputs.calls (k : Nat) (A0 : Option Addr) (c0 : Nat) (l0 : List (S58)) (r : List Int) (w : World) (hr0 : Kd.C k58 w A0 l0.length l0) (hc0 : l0.length ≤ c0) (h : spec_l03Outputs.f k l0 = some r) :
  Calls Try.prog 78 #[.slice A0 l0.length c0] w fun e w' => ∃ v0_ : Value, e = .returned (v0_) ∧ Kd.R (Kd.int .i64) 2 w' w.heap.size (fun _ => True) v0_ r ∧ Below w.heap.size w w' := by
 have HR0 := Aside0.mk hr0
 have HC0 := Aside0.mk hc0
 clear hr0 hc0
 have HB := Aside0.mk (Below.refl w.heap.size w)
 have H : (spec_l03Outputs.l0 k l0 (([] : List Int)) 0) = some r := h
 clear h
 obtain ⟨y187, hy187⟩ : ∃ y_ : List Int, y_ = (([] : List Int)) := ⟨_, rfl⟩
 replace H : (spec_l03Outputs.l0 k l0 y187 0) = some r := by first | (rw [hy187]; with_reducible exact H) | (have H2_ := (Option.bind_some _ _).symm.trans H; rw [hy187]; with_reducible exact H2_) | (have H2_ := (Option.bind_some _ _).symm.trans H; with_reducible exact H2_) | with_reducible exact H | (rw [hy187]; exact H) | exact H
 have Ny187 := Aside0.mk hy187
 clear hy187
 have H' := Aside0.mk H
 clear H
 go_enter Try.func78, Try.ntmps78
 go_wp2_with (first | ((with_reducible refine gate_dst (N := 5) rfl ?_); refine Kd.R_lit (Kd.int .i64) _ 2 ?hg (N := 5) ?hd (xs := ([] : List Int)) (inner := []) (ok := fun _ => True) (okp := fun _ => True) ?hr ?hp (fun _ hk => hk) trivial (Below.refl _ _) (Nat.le_refl _) (by simp) ?_; (case hd => rfl); (case hg => rfl); (case hr => first | (go_simp; done) | (go_simp; rfl)); (case hp => exact (Reps.none _ _)); intro v188 w2 ho3 hb hg_ hnew_; clear hg_ hnew_; (first | rw [← Ny187.out] at ho3 | (simp only [Int.reduceToNat] at ho3; rw [← Ny187.out] at ho3)); have n0_ := Aside0.mk (Kd.R_lower ho3 (below_size (by repeat (first | (with_reducible first | exact HB.out | apply below_alloc | apply pw_below_drewN | apply below_drew1) | exact HB.out)))); have n1_ := Aside0.mk (below_step (by repeat (first | (with_reducible first | exact HB.out | apply below_alloc | apply pw_below_drewN | apply below_drew1) | exact HB.out)) hb); clear HB; have HO189 := n0_; have HB := n1_; clear n0_ n1_; clear hb ho3))
 go_loopg [3, 4] k (fun kq v3 v4 w' => ∃ (x3_1 : List Int) (x4_1 : Int), v4 = .int .i64 x4_1 ∧ Aside0 (spec_l03Outputs.l0 kq l0 x3_1 x4_1 = some r) ∧ Aside0 (kq ≤ k) ∧ Aside0 (Kd.R (Kd.int .i64) 2 w' w.heap.size (fun _ => True) v3 x3_1) ∧ Aside0 (Below w.heap.size w w'))
 case atStart => exact ⟨(y187), (0), (by first | rfl | (simp; done) | (simp [*]; done)), H', ⟨Nat.le_refl _⟩, ⟨by (with_reducible repeat (first | apply Kd.R_alloc | apply Kd.R_drewN | apply Kd.R_drew)); exact HO189.out⟩, ⟨by repeat (first | (with_reducible first | exact HB.out | apply below_alloc | apply pw_below_drewN | apply below_drew1) | exact HB.out)⟩⟩
 case round =>
  clear H'
  try clear p2
  obtain ⟨x3_1, x4_1, rfl, HA, HK1, HO_3, HB⟩ := hrel
  cases gk with
  | zero => exact absurd HA.out (by simp [spec_l03Outputs.l0])
  | succ k1 =>
   have H := HA.out
   clear HA
   simp only [spec_l03Outputs.l0] at H
   by_cases c4 : x4_1 < (l0.length : Int)
   rotate_left
   ·rw [if_neg c4] at H
    have c4b0 : decide (x4_1 < (l0.length : Int)) = false := decide_eq_false c4
    clear c4
    obtain rfl := Option.some.inj H
    go_wp2
    go_ret
    exact ⟨_, by first | rfl | (simp [errW_none, errW_some] <;> rfl) | (simp [*, errW_none, errW_some] <;> rfl), by (with_reducible repeat (first | apply Kd.R_alloc | apply Kd.R_drewN | apply Kd.R_drew)); exact HO_3.out, by repeat (first | (with_reducible first | exact HB.out | apply below_alloc | apply pw_below_drewN | apply below_drew1) | exact HB.out)⟩

   rw [if_pos c4] at H
   have c4b0 : decide (x4_1 < (l0.length : Int)) = true := decide_eq_true c4
   clear c4
   by_cases c5 : 0 ≤ x4_1
   rotate_left
   ·rw [if_neg c5] at H
    exact absurd H (by simp)
   rw [if_pos c5] at H
   have c5b0 : decide (0 ≤ x4_1) = true := decide_eq_true c5
   clear c5
   replace H := Option.bind_eq_some_iff.mp H
   obtain ⟨t191, A60, H⟩ := H
   try dsimp only at H
   have A6 := Aside0.mk A60
   clear A60
   have H' := Aside0.mk H
   clear H
   have p190 : 0 ≤ (x4_1 : Int) := of_decide_eq_true (by first | (with_reducible assumption) | assumption)
   have q190 : x4_1 < (l0.length : Int) := of_decide_eq_true (by first | (with_reducible assumption) | assumption)
   obtain ⟨ad190, e190, hx190_0, hx190_1, hx190_2, hx190_3⟩ := at_T58 HR0.out x4_1 p190 q190
   cases e190
   replace hx190_0 := (HB.out.cell (World.block_lt_of_cell? w _ hx190_0)).trans hx190_0
   replace hx190_1 := (HB.out.cell (World.block_lt_of_cell? w _ hx190_1)).trans hx190_1
   replace hx190_2 := (HB.out.cell (World.block_lt_of_cell? w _ hx190_2)).trans hx190_2
   replace hx190_3 := (HB.out.cell (World.block_lt_of_cell? w _ hx190_3)).trans hx190_3
   replace p190 := eq_true p190
   replace q190 := eq_true q190
   obtain ⟨Ao7, co7, eo7⟩ := Kd.R_slice HO_3.out
   subst eo7
   go_wp2_with (first | ((with_reducible refine gate_callee (f := 84) rfl ?_); refine goesL_ (some 18) rfl rfl Try.func84 (by kernel_rfl) rfl #[.slice Ao7 x3_1.length co7, .int .i64 ((rd_T58 l0 x4_1).f1)] rfl (by (try simp only [List.map_toArray, List.map_cons, List.map_nil]); first | done | rfl | (simp only [List.length_drop, List.length_take]; rfl)) ?_; (with_reducible refine (spec_l00Put.calls k1 _ _ x3_1 ((rd_T58 l0 x4_1).f1) t191 _ ?side1 ?side2 A6.out).mono ?_); (case side1 => repeat (first | exact (Kd.R_reads' HO_3.out).2.2 | (with_reducible refine Kd.C_alloc ?_ _) | (with_reducible refine Kd.C_drewN ?_ _) | (with_reducible refine Kd.C_drew ?_))); (case side2 => exact (Kd.R_reads' HO_3.out).2.1); rintro e w8 ⟨v192, rfl, ho0, hb⟩; refine ⟨_, rfl, ?_⟩; have n0_ := Aside0.mk (Kd.R_elder' (by (with_reducible repeat (first | apply Kd.R_alloc | apply Kd.R_drewN | apply Kd.R_drew)); exact HO_3.out) (Kd.R_base ho0) hb); have n1_ := Aside0.mk (Kd.R_lower (Kd.R_new' ho0 (Kd.R_lt (by (with_reducible repeat (first | apply Kd.R_alloc | apply Kd.R_drewN | apply Kd.R_drew)); exact HO_3.out))) (below_size (by repeat (first | (with_reducible first | exact HB.out | apply below_alloc | apply pw_below_drewN | apply below_drew1) | exact HB.out)))); have n2_ := Aside0.mk (below_step (by repeat (first | (with_reducible first | exact HB.out | apply below_alloc | apply pw_below_drewN | apply below_drew1) | exact HB.out)) hb); clear HO_3; clear HB; have HO_3 := n0_; have HO193 := n1_; have HB := n2_; clear n0_ n1_ n2_; (try clear hb); (try clear hb2); (try clear hk); (try clear hi); (try clear ho0)))
   go_roundg k1
   case measure => have := HK1.out; omega
   case rel => exact ⟨(t191), (wrap64 (x4_1 + 1)), (by first | rfl | (simp; done) | (simp [*]; done)), H', ⟨by have := HK1.out; omega⟩, ⟨by (with_reducible repeat (first | apply Kd.R_alloc | apply Kd.R_drewN | apply Kd.R_drew)); exact Kd.R_mono HO193.out (fun _ hk => trivial)⟩, ⟨by repeat (first | (with_reducible first | exact HB.out | apply below_alloc | apply pw_below_drewN | apply below_drew1) | exact HB.out)⟩⟩
/-! ### spec_OutputsOf: function 36 -/
def spec_OutputsOf.f (k : Nat) (l0 : List (S58)) : Option (List Int × Bool) := (spec_l03Is.f k l0).bind fun t194 => (if t194 = true then ((spec_l03Outputs.f k l0).bind fun t195 => (some (t195, true))) else (some (([] : List Int), false)))
theorem spec_OutputsOf.mono : ∀ a0 k, LeO (spec_OutputsOf.f k a0) (spec_OutputsOf.f (k + 1) a0) := by
 intro a0 k
 unfold spec_OutputsOf.f
 repeat' first
   | (with_reducible exact spec_l03Is.mono _ _)
   | (with_reducible exact spec_l03Outputs.mono _ _)
   | (with_reducible exact LeO.refl _)
   | (with_reducible exact LeO.none _)
   | (with_reducible refine LeO.ite ?_ ?_)
   | (with_reducible refine LeO.bind ?_ (fun _ => ?_))
   | exact spec_l03Is.mono _ _
   | exact spec_l03Outputs.mono _ _
   | exact LeO.none _
   | refine LeO.ite ?_ ?_
   | refine LeO.bind ?_ (fun _ => ?_)
set_option maxHeartbeats 8000000 in
set_option maxRecDepth 100000 in
theorem spec_OutputsOf.calls (k : Nat) (A0 : Option Addr) (c0 : Nat) (l0 : List (S58)) (r1 : List Int) (r2 : Bool) (w : World) (hr0 : Kd.C k58 w A0 l0.length l0) (hc0 : l0.length ≤ c0) (h : spec_OutputsOf.f k l0 = some (r1, r2)) :
  Calls Try.prog 36 #[.slice A0 l0.length c0] w fun e w' => ∃ v0_ : Value, e = .returned (.tuple #[v0_, .bool r2]) ∧ Kd.R (Kd.int .i64) 2 w' w.heap.size (fun _ => True) v0_ r1 ∧ Below w.heap.size w w' := by
 have HR0 := Aside0.mk hr0
 have HC0 := Aside0.mk hc0
 clear hr0 hc0
 have HB := Aside0.mk (Below.refl w.heap.size w)
 have H : ((spec_l03Is.f k l0).bind fun t194 => (if t194 = true then ((spec_l03Outputs.f k l0).bind fun t195 => (some (t195, true))) else (some (([] : List Int), false)))) = some (r1, r2) := h
 clear h
 replace H := Option.bind_eq_some_iff.mp H
 obtain ⟨t194, A20, H⟩ := H
 try dsimp only at H
 have A2 := Aside0.mk A20
 clear A20
 by_cases c3 : t194 = true
 rotate_left
 ·replace c3 := Bool.eq_false_iff.mpr c3
  subst c3
  rw [if_neg (show ¬ (false = true) by decide)] at H
  simp only [Option.some.injEq, Prod.mk.injEq] at H
  obtain ⟨rfl, rfl⟩ := H
  go_enter Try.func36, Try.ntmps36
  go_wp2_with (first | ((with_reducible refine gate_callee (f := 60) rfl ?_); refine goesL_ (some 5) rfl rfl Try.func60 (by kernel_rfl) rfl #[.slice A0 l0.length c0] rfl (by (try simp only [List.map_toArray, List.map_cons, List.map_nil]); first | done | rfl | (simp only [List.length_drop, List.length_take]; rfl)) ?_; (with_reducible refine (spec_l03Is.calls k _ _ l0 false _ ?side1 ?side2 A2.out).mono ?_); (case side1 => repeat (first | exact HR0.out | (with_reducible refine Kd.C_alloc ?_ _) | (with_reducible refine Kd.C_drewN ?_ _) | (with_reducible refine Kd.C_drew ?_))); (case side2 => exact HC0.out); rintro e w' ⟨rfl, ⟨nd, rfl⟩⟩; refine ⟨_, rfl, ?_⟩))
  go_ret2
  exact ⟨_, by first | rfl | (simp [errW_none, errW_some] <;> rfl) | (simp [*, errW_none, errW_some] <;> rfl), by first | exact Kd.R_nil _ _ _ _ _ | exact Kd.N_nil _ _ _ _ _ | exact Kd.V_nil _ _ _ _ _ | exact Kd.Q_nil _ _ _ _ _ | exact Kd.S_nil _ _ _ _ _, by repeat (first | (with_reducible first | exact HB.out | apply below_alloc | apply pw_below_drewN | apply below_drew1) | exact HB.out)⟩

 subst c3
 rw [if_pos rfl] at H
 replace H := Option.bind_eq_some_iff.mp H
 obtain ⟨t195, A40, H⟩ := H
 try dsimp only at H
 have A4 := Aside0.mk A40
 clear A40
 simp only [Option.some.injEq, Prod.mk.injEq] at H
 obtain ⟨rfl, rfl⟩ := H
 go_enter Try.func36, Try.ntmps36
 go_wp2_with (first | ((with_reducible refine gate_callee (f := 60) rfl ?_); refine goesL_ (some 5) rfl rfl Try.func60 (by kernel_rfl) rfl #[.slice A0 l0.length c0] rfl (by (try simp only [List.map_toArray, List.map_cons, List.map_nil]); first | done | rfl | (simp only [List.length_drop, List.length_take]; rfl)) ?_; (with_reducible refine (spec_l03Is.calls k _ _ l0 true _ ?side1 ?side2 A2.out).mono ?_); (case side1 => repeat (first | exact HR0.out | (with_reducible refine Kd.C_alloc ?_ _) | (with_reducible refine Kd.C_drewN ?_ _) | (with_reducible refine Kd.C_drew ?_))); (case side2 => exact HC0.out); rintro e w' ⟨rfl, ⟨nd, rfl⟩⟩; refine ⟨_, rfl, ?_⟩) | ((with_reducible refine gate_callee (f := 78) rfl ?_); refine goesL_ (some 8) rfl rfl Try.func78 (by kernel_rfl) rfl #[.slice A0 l0.length c0] rfl (by (try simp only [List.map_toArray, List.map_cons, List.map_nil]); first | done | rfl | (simp only [List.length_drop, List.length_take]; rfl)) ?_; (with_reducible refine (spec_l03Outputs.calls k _ _ l0 t195 _ ?side1 ?side2 A4.out).mono ?_); (case side1 => repeat (first | exact HR0.out | (with_reducible refine Kd.C_alloc ?_ _) | (with_reducible refine Kd.C_drewN ?_ _) | (with_reducible refine Kd.C_drew ?_))); (case side2 => exact HC0.out); rintro e w5 ⟨v196, rfl, ho0, hb⟩; refine ⟨_, rfl, ?_⟩; have n0_ := Aside0.mk (Kd.R_lower ho0 (below_size (by repeat (first | (with_reducible first | exact HB.out | apply below_alloc | apply pw_below_drewN | apply below_drew1) | exact HB.out)))); have n1_ := Aside0.mk (below_step (by repeat (first | (with_reducible first | exact HB.out | apply below_alloc | apply pw_below_drewN | apply below_drew1) | exact HB.out)) hb); clear HB; have HO197 := n0_; have HB := n1_; clear n0_ n1_; (try clear hb); (try clear hb2); (try clear hk); (try clear hi); (try clear ho0)))
 go_ret2
 exact ⟨_, by first | rfl | (simp [errW_none, errW_some] <;> rfl) | (simp [*, errW_none, errW_some] <;> rfl), by (with_reducible repeat (first | apply Kd.R_alloc | apply Kd.R_drewN | apply Kd.R_drew)); exact HO197.out, by repeat (first | (with_reducible first | exact HB.out | apply below_alloc | apply pw_below_drewN | apply below_drew1) | exact HB.out)⟩
/-! ### impl_OutputsOf: function 37 -/
/-- The test of code. -/
def vOk (l : List S58) : Bool := decide (l.length ≤ 16) && (List.range l.length).all fun (j : Nat) => stOk (rd_T58 l (j : Int))
theorem vOk_len {l : List S58} (h : vOk l = true) : l.length ≤ 16 := by
 unfold vOk at h
 rw [Bool.and_eq_true] at h
 exact of_decide_eq_true h.1
theorem cellB_iff {n : Int} : cellB n = true ↔ 0 ≤ n ∧ n ≤ 31 := by unfold cellB; exact decide_eq_true_iff
theorem vOk_at {l : List S58} (h : vOk l = true) {j : Nat} (hj : j < l.length) : OpOk (rd_T58 l (j : Int)).f0 ∧ (0 ≤ (rd_T58 l (j : Int)).f1 ∧ (rd_T58 l (j : Int)).f1 ≤ 31) ∧ (0 ≤ (rd_T58 l (j : Int)).f2 ∧ (rd_T58 l (j : Int)).f2 ≤ 31) ∧ (0 ≤ (rd_T58 l (j : Int)).f3 ∧ (rd_T58 l (j : Int)).f3 ≤ 31) := by
 unfold vOk at h
 rw [Bool.and_eq_true, List.all_eq_true] at h
 have := h.2 j (List.mem_range.mpr hj)
 unfold stOk at this
 simp only [Bool.and_eq_true] at this
 exact ⟨of_decide_eq_true this.1, cellB_iff.mp this.2.1, cellB_iff.mp this.2.2.1, cellB_iff.mp this.2.2.2⟩
/-- The cells that the first x statements write. -/
def wrm (l : List S58) : Nat → Nat → Bool
 | 0 => fun _ => false
 | x + 1 => put (wrm l x) (rd_T58 l (x : Int)).f1 true
def impl_OutputsOf.f (_k : Nat) (l0 : List (S58)) : Option (List Int × Bool) := some (if vOk l0 = true then (setTo (wrm l0 l0.length) 32, true) else ([], false))
theorem impl_OutputsOf.mono : ∀ a0 k, LeO (impl_OutputsOf.f k a0) (impl_OutputsOf.f (k + 1) a0) := fun _ _ => LeO.refl _
set_option maxHeartbeats 8000000 in
set_option maxRecDepth 100000 in
theorem impl_OutputsOf.calls (k : Nat) (A0 : Option Addr) (c0 : Nat) (l0 : List (S58)) (r1 : List Int) (r2 : Bool) (w : World) (hr0 : Kd.C k58 w A0 l0.length l0) (hc0 : l0.length ≤ c0) (h : impl_OutputsOf.f k l0 = some (r1, r2)) :
  Calls Try.prog 37 #[.slice A0 l0.length c0] w fun e w' => ∃ v0_ : Value, e = .returned (.tuple #[v0_, .bool r2]) ∧ Kd.R (Kd.int .i64) 2 w' w.heap.size (fun _ => True) v0_ r1 ∧ Below w.heap.size w w' := by
 have hv := Option.some.inj h
 clear h
 have HR := Aside0.mk hr0
 have HC := Aside0.mk hc0
 by_cases hx : vOk l0 = true
 rotate_left
 ·rw [if_neg hx] at hv
  obtain ⟨rfl, rfl⟩ := Prod.mk.inj hv
  clear hv
  have HV : Aside0 (impl_ValidCode.f 0 l0 = some false) := ⟨by rw [Bool.not_eq_true] at hx; rw [← hx]; rfl⟩
  clear hx hr0 hc0
  go_enter Try.func37, Try.ntmps37
  go_wp2_with (go_at_call 21; (with_reducible refine (impl_ValidCode.calls 0 A0 c0 l0 false _ ?s1 HC.out HV.out).mono ?_); (case s1 => exact Kd.C_below HR.out (by repeat (first | exact Below.refl _ _ | apply below_alloc | apply pw_below_drewN | apply below_drew1))); rintro e w1 ⟨rfl, hb1⟩; have HB1 : Aside0 (Below w.heap.size w w1) := ⟨below_step (by repeat (first | exact Below.refl _ _ | apply below_alloc | apply pw_below_drewN | apply below_drew1)) hb1⟩; clear hb1)
  go_ret2
  refine ⟨_, rfl, Kd.R_nil _ _ _ _ _, HB1.out⟩

 rw [if_pos hx] at hv
 obtain ⟨rfl, rfl⟩ := Prod.mk.inj hv
 clear hv
 have hl16 := vOk_len hx
 have HL := Aside0.mk hl16
 have HX := Aside0.mk hx
 have HV : Aside0 (impl_ValidCode.f 0 l0 = some true) := ⟨by rw [← hx]; rfl⟩
 clear hx hl16 hr0 hc0
 go_enter Try.func37, Try.ntmps37
 go_wp2_with (first | (go_at_call 21; (with_reducible refine (impl_ValidCode.calls 0 A0 c0 l0 true _ ?s1 HC.out HV.out).mono ?_); (case s1 => exact Kd.C_below HR.out (by repeat (first | exact Below.refl _ _ | apply below_alloc | apply pw_below_drewN | apply below_drew1))); rintro e w1 ⟨rfl, hb1⟩; have HB1 : Aside0 (Below w.heap.size w w1) := ⟨below_step (by repeat (first | exact Below.refl _ _ | apply below_alloc | apply pw_below_drewN | apply below_drew1)) hb1⟩; clear hb1)
  )
 have HA : Aside0 (Arr (w1.alloc (.cells (mk32 fun _ => false) 79)) w.heap.size w1.heap.size (wrm l0 0)) := ⟨Arr_new w1 _ (below_size HB1.out) _⟩
 have HB2 : Aside0 (Below w.heap.size w (w1.alloc (.cells (mk32 fun _ => false) 79))) := ⟨below_alloc HB1.out _⟩
 unfold mk32 at HA HB2
 generalize w1.alloc _ = w2 at HA HB2 ⊢
 generalize w1.heap.size = g at HA ⊢
 clear HB1
 go_loopg [6, 12] 16 (fun kq v6 v12 w' => ∃ x : Nat, v12 = .int .i64 (x : Int) ∧ Aside0 (Arr w' w.heap.size g (wrm l0 x)) ∧ Aside0 (x ≤ l0.length) ∧ Aside0 (l0.length - x ≤ kq) ∧ Aside0 (Below w.heap.size w w'))
 case atStart => exact ⟨0, rfl, HA, ⟨Nat.zero_le _⟩, ⟨by have := HL.out; omega⟩, HB2⟩
 case round =>
  clear HA HB2
  obtain ⟨x, rfl, HA, H1, HK, HB⟩ := hrel
  by_cases c3 : (x : Int) < (l0.length : Int)
  rotate_left
  ·have c3b0 : decide ((x : Int) < (l0.length : Int)) = false := decide_eq_false c3
   have HX2 : Aside0 (x = l0.length) := ⟨by have := H1.out; omega⟩
   have c3n : (x < l0.length) = False := eq_false (by omega)
   clear c3
   go_wp2_with (first | ((with_reducible refine gate_dst (N := 20) rfl ?_); refine wpList_load_row rfl 79 (.tmp 4) rfl g rfl 79 _ (0, 0) _ (Arr_heap HA.out) Try.underlying79 rfl info79 ?_) | (go_at_call 79; refine (cellSet_c _ _).mono ?_; rintro e w' ⟨v, rfl, ho, hb⟩))
   go_ret2
   have ho2 := Kd.R_lower ho (below_size HB.out)
   rw [HX2.out] at ho2
   exact ⟨_, rfl, ho2, below_step HB.out hb⟩
  have hxl : x < l0.length := by omega
  obtain ⟨_, ⟨d0, d1⟩, _, _⟩ := vOk_at HX.out hxl
  have c6 : 0 ≤ (x : Int) := Int.natCast_nonneg _
  obtain ⟨ad, e1, hx0, hx1, hx2, hx3⟩ := at_T58 (Kd.C_below HR.out HB.out) (x : Int) c6 (by omega)
  cases e1
  rw [Int.toNat_natCast] at hx0 hx1 hx2 hx3
  have HW : Aside0 (wrap64 ((x : Int) + 1) = ((x + 1 : Nat) : Int)) := ⟨by have := HL.out; unfold wrap64; omega⟩
  have HX2 := Aside0.mk hxl
  have c3b0 : decide ((x : Int) < (l0.length : Int)) = true := decide_eq_true c3
  have D0 := Aside0.mk d0
  have D1 := Aside0.mk d1
  have hgb := Aside0.mk (Arr_base HA.out)
  have hA2 := Aside0.mk (fun o => Arr_below HA.out (below_alloc (Below.refl _ _) o))
  have hc : ∀ o, (wr.alloc o).cell? ⟨g, ((rd_T58 l0 (x : Int)).f1).toNat, none⟩ = some (.bool (wrm l0 x ((rd_T58 l0 (x : Int)).f1).toNat)) := fun o => (Arr_cell (hA2.out o) _ d0 d1).1
  have hf : ∀ o, (wr.alloc o).frozen? ⟨g, ((rd_T58 l0 (x : Int)).f1).toNat, none⟩ = false := fun o => (Arr_cell (hA2.out o) _ d0 d1).2
  have d32 : (rd_T58 l0 (x : Int)).f1 < 32 := by omega
  clear hxl
  go_wp2
  go_roundg (l0.length - (x + 1))
  case measure => have := HK.out; have := HX2.out; omega
  case rel =>
   have := HX2.out
   exact ⟨x + 1, by first | rfl | rw [HW.out], ⟨Arr_put (hA2.out _) _ D0.out D1.out true⟩, ⟨by omega⟩, ⟨by omega⟩, ⟨below_set (below_alloc HB.out _) hgb.out⟩⟩
end Go.Proofs.Yteknfebehafbdaa.K
