-- Laid by a program of this session.
import Derived.Test.YtpcjjminopdofaaK0
import Derived.Test.YtpcjjminopdofaaH0
import Derived.Test.YtpcjjminopdofaaH1
import Derived.Test.YtpcjjminopdofaaQD0
namespace Go.Proofs.Ytpcjjminopdofaa.K
open Go.RowKit Go.Proofs.YtpcjjminopdofaaW.PrintWords Go.Proofs.YtpcjjminopdofaaW.PrintLast Go.Proofs.YtpcjjminopdofaaW.PrintMore Go.Proofs.Ytpcjjminopdofaa.Bx Go.Shelf
attribute [local go_sem] max2_int min2_int max_two min_two max_three min_three max_four min_four   -- for this text's walks alone
set_option linter.unusedVariables false
set_option linter.unusedSimpArgs false

/-! ### spec_R8Lanes: function 73 -/
def spec_R8Lanes.f (l0 : List Int) : Option (Int) := (spec_l00From.f l0).bind fun bt1499 => ((spec_l00Src_among.f bt1499.1 bt1499.2.1 bt1499.2.2 (([2, 4, 8, 16] : List Int))).bind fun bt1506 => (some bt1506.1))
set_option maxHeartbeats 8000000 in
set_option maxRecDepth 100000 in
theorem spec_R8Lanes.calls (A0 : Option Addr) (c0 : Nat) (l0 : List Int) (r : Int) (w : World) (hr0 : Kd.C (Kd.int .u8) w A0 l0.length l0) (hc0 : l0.length ≤ c0) (h : spec_R8Lanes.f l0 = some r) :
  Calls Try.prog 73 #[.slice A0 l0.length c0] w fun e w' => e = .returned (.int .i64 r) ∧ Below w.heap.size w w' := by
 have HR0 := Aside0.mk hr0
 have HC0 := Aside0.mk hc0
 clear hr0 hc0
 have HB := Aside0.mk (Below.refl w.heap.size w)
 have H : ((spec_l00From.f l0).bind fun bt1499 => ((spec_l00Src_among.f bt1499.1 bt1499.2.1 bt1499.2.2 (([2, 4, 8, 16] : List Int))).bind fun bt1506 => (some bt1506.1))) = some r := h
 clear h
 replace H := Option.bind_eq_some_iff.mp H
 obtain ⟨⟨t1499, t1500, t1501⟩, A20, H⟩ := H
 try dsimp only at H
 have A2 := Aside0.mk A20
 clear A20
 obtain ⟨y1503, hy1503⟩ : ∃ y_ : List Int, y_ = (([2, 4, 8, 16] : List Int)) := ⟨_, rfl⟩
 replace H : ((spec_l00Src_among.f t1499 t1500 t1501 y1503).bind fun bt1506 => (some bt1506.1)) = some r := by first | (rw [hy1503]; with_reducible exact H) | (have H2_ := (Option.bind_some _ _).symm.trans H; rw [hy1503]; with_reducible exact H2_) | (have H2_ := (Option.bind_some _ _).symm.trans H; with_reducible exact H2_) | with_reducible exact H | (rw [hy1503]; exact H) | exact H
 have Ny1503 := Aside0.mk hy1503
 clear hy1503
 replace H := Option.bind_eq_some_iff.mp H
 obtain ⟨⟨t1506, t1507, t1508⟩, A30, H⟩ := H
 try dsimp only at H
 have A3 := Aside0.mk A30
 clear A30
 obtain rfl := Option.some.inj H
 go_enter Try.func73, Try.ntmps73
 go_wp2_with (first | ((with_reducible refine gate_callee (f := 140) rfl ?_); refine goesL_ (some 5) rfl rfl Try.func140 (by kernel_rfl) rfl #[.slice A0 l0.length c0] rfl (by (try simp only [List.map_toArray, List.map_cons, List.map_nil]); first | done | rfl | (simp only [List.length_drop, List.length_take]; rfl)) ?_; (with_reducible refine (spec_l00From.calls _ _ l0 t1499 t1500 t1501 w _ ?side1 ?side2 ?side3 A2.out).mono ?_); (case side1 => repeat (first | (with_reducible first | exact HB.out | apply below_alloc | apply pw_below_drewN | apply below_drew1) | exact HB.out)); (case side2 => exact HR0.out); (case side3 => exact HC0.out); rintro e w4 ⟨g1502, rfl, hi, hb, hb2⟩; refine ⟨_, rfl, ?_⟩; have n0_ := Aside0.mk (hb); have n1_ := Aside0.mk (hi); clear HB; have HB := n0_; have HI1502 := n1_; clear n0_ n1_; (try clear hb); (try clear hb2); (try clear hk); (try clear hi)) | ((with_reducible refine gate_dst (N := 7) rfl ?_); refine Kd.R_lit (Kd.int .i64) _ 2 ?hg (N := 7) ?hd (xs := ([2, 4, 8, 16] : List Int)) (inner := [.int .i64 2, .int .i64 4, .int .i64 8, .int .i64 16]) (ok := fun _ => True) (okp := fun _ => True) ?hr ?hp (fun _ hk => hk) trivial (Below.refl _ _) (Nat.le_refl _) (by simp) ?_; (case hd => rfl); (case hg => rfl); (case hr => first | (go_simp; done) | (go_simp; rfl)); (case hp => exact (Reps.one (show Kd.M (Kd.int .i64) _ _ _ 2 [.int .i64 2] from rfl) (Reps.one (show Kd.M (Kd.int .i64) _ _ _ 4 [.int .i64 4] from rfl) (Reps.one (show Kd.M (Kd.int .i64) _ _ _ 8 [.int .i64 8] from rfl) (Reps.one (show Kd.M (Kd.int .i64) _ _ _ 16 [.int .i64 16] from rfl) (Reps.none _ _)))))); intro v1504 w5 ho6 hb hg_ hnew_; clear hg_ hnew_; (first | rw [← Ny1503.out] at ho6 | (simp only [Int.reduceToNat] at ho6; rw [← Ny1503.out] at ho6)); have n0_ := Aside0.mk (Kd.R_lower ho6 (below_size (by repeat (first | (with_reducible first | exact HB.out | apply below_alloc | apply pw_below_drewN | apply below_drew1 | refine below_set ?_ (IsS95.ge HI1502.out)) | exact HB.out)))); have n1_ := Aside0.mk (IsS95.below (by repeat (first | (with_reducible first | exact HI1502.out | apply IsS95.alloc | apply IsS95.drewN | apply IsS95.drew | apply IsS95.set_1 | apply IsS95.set_2) | exact HI1502.out)) hb); have n2_ := Aside0.mk (below_step (by repeat (first | (with_reducible first | exact HB.out | apply below_alloc | apply pw_below_drewN | apply below_drew1 | refine below_set ?_ (IsS95.ge HI1502.out)) | exact HB.out)) hb); clear HI1502; clear HB; have HO1505 := n0_; have HI1502 := n1_; have HB := n2_; clear n0_ n1_ n2_; clear hb ho6; obtain ⟨Ao7, co7, eo7⟩ := Kd.R_slice HO1505.out; subst eo7) | ((with_reducible refine gate_callee (f := 141) rfl ?_); refine goesL_ (some 8) rfl rfl Try.func141 (by kernel_rfl) rfl #[.pointer (some ⟨g1502, 0, none⟩), .slice Ao7 y1503.length co7] rfl (by (try simp only [List.map_toArray, List.map_cons, List.map_nil]); first | done | rfl | (simp only [List.length_drop, List.length_take]; rfl)) ?_; (with_reducible refine (spec_l00Src_among.calls g1502 t1499 t1500 t1501 _ _ y1503 t1506 t1507 t1508 w _ ?side1 ?side2 ?side3 ?side4 ?side5 A3.out).mono ?_); (case side1 => repeat (first | (with_reducible first | exact HI1502.out | apply IsS95.alloc | apply IsS95.drewN | apply IsS95.drew | apply IsS95.set_1 | apply IsS95.set_2) | exact HI1502.out)); (case side2 => repeat (first | (with_reducible first | exact HB.out | apply below_alloc | apply pw_below_drewN | apply below_drew1 | refine below_set ?_ (IsS95.ge HI1502.out)) | exact HB.out)); (case side3 => repeat (first | exact (Kd.R_reads' HO1505.out).2.2 | (with_reducible refine Kd.C_alloc ?_ _) | (with_reducible refine Kd.C_drewN ?_ _) | (with_reducible refine Kd.C_drew ?_))); (case side4 => exact (Kd.R_reads' HO1505.out).2.1); (case side5 => exact far_slice (IsS95.own_ne HI1502.out HO1505.out (by decide))); rintro e w8 ⟨rfl, hi, hb, hk⟩; refine ⟨_, rfl, ?_⟩; have n0_ := Aside0.mk (Kd.R_mono (Kd.R_keep (IsS95.apart (show IsS95 w _ g1502 t1499 t1500 t1501 from by repeat (first | (with_reducible first | exact HI1502.out | apply IsS95.alloc | apply IsS95.drewN | apply IsS95.drew | apply IsS95.set_1 | apply IsS95.set_2) | exact HI1502.out)) (by (with_reducible repeat (first | apply Kd.R_alloc | apply Kd.R_drewN | apply Kd.R_drew)); exact HO1505.out) (by decide)) hk (fun _ h => h.2)) (fun _ h => h.1)); have n1_ := Aside0.mk (hb); have n2_ := Aside0.mk (hi); clear HO1505; clear HB; clear HI1502; have HO1505 := n0_; have HB := n1_; have HI1502 := n2_; clear n0_ n1_ n2_; (try clear hb); (try clear hb2); (try clear hk); (try clear hi)))
 go_ret
 exact ⟨by first | rfl | (simp [errW_none, errW_some] <;> rfl) | (simp [*, errW_none, errW_some] <;> rfl), by repeat (first | (with_reducible first | exact HB.out | apply below_alloc | apply pw_below_drewN | apply below_drew1 | refine below_set ?_ (IsS95.ge HI1502.out)) | exact HB.out)⟩

/-! ### spec_l00Src_one: function 169 -/
def spec_l00Src_one.f (s0_0 : List Int) (s0_1 : Int) (s0_2 : Int) (a1 : Int) : Option (Bool × Int × Int) := (spec_l00Src_pick.f s0_0 s0_1 s0_2 a1).bind fun bt1509 => (some ((bt1509.1 == 0), bt1509.2.1, bt1509.2.2))
set_option maxHeartbeats 8000000 in
set_option maxRecDepth 100000 in
theorem spec_l00Src_one.calls (g : Nat) (s0_0 : List Int) (s0_1 : Int) (s0_2 : Int) (a1 : Int) (r1 : Bool) (r2 : Int) (r3 : Int) (w0 w : World) (hI : IsS95 w0 w g s0_0 s0_1 s0_2) (hB : Below w0.heap.size w0 w) (h : spec_l00Src_one.f s0_0 s0_1 s0_2 a1 = some (r1, r2, r3)) :
  Calls Try.prog 169 #[.pointer (some ⟨g, 0, none⟩), .int .i64 a1] w fun e w' => e = .returned (.bool r1) ∧ IsS95 w0 w' g s0_0 r2 r3 ∧ Below w0.heap.size w0 w' ∧ KeepBut w w' g none := by
 have HI0 := Aside0.mk hI
 have HK := Aside0.mk (KeepBut.refl w g none)
 have HL := Aside0.mk hB.size
 clear hI
 have HW0 := Aside0.mk hB.size
 have HB := Aside0.mk hB
 clear hB
 have H : ((spec_l00Src_pick.f s0_0 s0_1 s0_2 a1).bind fun bt1509 => (some ((bt1509.1 == 0), bt1509.2.1, bt1509.2.2))) = some (r1, r2, r3) := h
 clear h
 replace H := Option.bind_eq_some_iff.mp H
 obtain ⟨⟨t1509, t1510, t1511⟩, A30, H⟩ := H
 try dsimp only at H
 have A3 := Aside0.mk A30
 clear A30
 simp only [Option.some.injEq, Prod.mk.injEq] at H
 obtain ⟨rfl, rfl, rfl⟩ := H
 go_enter Try.func169, Try.ntmps169
 go_wp2_with (first | ((with_reducible refine gate_callee (f := 144) rfl ?_); refine goesL_ (some 7) rfl rfl Try.func144 (by kernel_rfl) rfl #[.pointer (some ⟨g, 0, none⟩), .int .i64 a1] rfl (by (try simp only [List.map_toArray, List.map_cons, List.map_nil]); first | done | rfl | (simp only [List.length_drop, List.length_take]; rfl)) ?_; (with_reducible refine (spec_l00Src_pick.calls g s0_0 s0_1 s0_2 a1 t1509 t1510 t1511 w0 _ ?side1 ?side2 A3.out).mono ?_); (case side1 => repeat (first | (with_reducible first | exact HI0.out | apply IsS95.alloc | apply IsS95.drewN | apply IsS95.drew | apply IsS95.set_1 | apply IsS95.set_2) | exact HI0.out)); (case side2 => repeat (first | (with_reducible first | exact HB.out | apply below_alloc | apply pw_below_drewN | apply below_drew1 | refine below_set ?_ (IsS95.ge HI0.out)) | exact HB.out)); rintro e w4 ⟨rfl, hi, hb, hk⟩; refine ⟨_, rfl, ?_⟩; have n0_ := Aside0.mk (KeepBut.trans (by repeat (first | (with_reducible first | exact HK.out | apply KeepBut.set_ | apply keep_drewN | apply keep_drew | apply keep_alloc) | exact HK.out)) hk (.inl rfl)); have n1_ := Aside0.mk (hb); have n2_ := Aside0.mk (hi); clear HK; clear HB; clear HI0; have HK := n0_; have HB := n1_; have HI0 := n2_; clear n0_ n1_ n2_; (try clear hb); (try clear hb2); (try clear hk); (try clear hi)))
 go_ret
 exact ⟨by first | rfl | (simp [errW_none, errW_some] <;> rfl) | (simp [*, errW_none, errW_some] <;> rfl), by repeat (first | (with_reducible first | exact HI0.out | apply IsS95.alloc | apply IsS95.drewN | apply IsS95.drew | apply IsS95.set_1 | apply IsS95.set_2) | exact HI0.out), by repeat (first | (with_reducible first | exact HB.out | apply below_alloc | apply pw_below_drewN | apply below_drew1 | refine below_set ?_ (IsS95.ge HI0.out)) | exact HB.out), by repeat (first | (with_reducible first | exact HK.out | apply KeepBut.set_ | apply keep_drewN | apply keep_drew | apply keep_alloc) | exact HK.out)⟩

/-! ### spec_l01DrawGood: function 163 -/
def spec_l01DrawGood.f (s0_0 : List Int) (s0_1 : Int) (s0_2 : Int) (a1 : Int) : Option (Int × Int × Int) := (spec_l00Src_one.f s0_0 s0_1 s0_2 4).bind fun bt1512 => (if bt1512.1 = true then (if 0 ≤ (IntKind.u64.wrap (a1)) then (if 0 ≤ (IntKind.u64.wrap ((IntKind.u64.wrap (a1)) - 1)) then ((spec_l00Src_among.f s0_0 bt1512.2.1 bt1512.2.2 (([0, wrap64 ((shl .i64 1 (IntKind.u64.wrap (a1))) - 1), shl .i64 1 (IntKind.u64.wrap ((IntKind.u64.wrap (a1)) - 1)), wrap64 ((shl .i64 1 (IntKind.u64.wrap ((IntKind.u64.wrap (a1)) - 1))) - 1), 1] : List Int))).bind fun bt1518 => (some (bt1518.1, bt1518.2.1, bt1518.2.2))) else (none)) else (none)) else (if 0 ≤ (IntKind.u64.wrap (a1)) then ((spec_l00Src_pick.f s0_0 bt1512.2.1 bt1512.2.2 (shl .i64 1 (IntKind.u64.wrap (a1)))).bind fun bt1521 => (some (bt1521.1, bt1521.2.1, bt1521.2.2))) else (none)))
set_option maxHeartbeats 8000000 in
set_option maxRecDepth 100000 in
theorem spec_l01DrawGood.calls (g : Nat) (s0_0 : List Int) (s0_1 : Int) (s0_2 : Int) (a1 : Int) (r1 : Int) (r2 : Int) (r3 : Int) (w0 w : World) (hI : IsS95 w0 w g s0_0 s0_1 s0_2) (hB : Below w0.heap.size w0 w) (h : spec_l01DrawGood.f s0_0 s0_1 s0_2 a1 = some (r1, r2, r3)) :
  Calls Try.prog 163 #[.pointer (some ⟨g, 0, none⟩), .int .i64 a1] w fun e w' => e = .returned (.int .i64 r1) ∧ IsS95 w0 w' g s0_0 r2 r3 ∧ Below w0.heap.size w0 w' ∧ KeepBut w w' g none := by
 have HI0 := Aside0.mk hI
 have HK := Aside0.mk (KeepBut.refl w g none)
 have HL := Aside0.mk hB.size
 clear hI
 have HW0 := Aside0.mk hB.size
 have HB := Aside0.mk hB
 clear hB
 have H : ((spec_l00Src_one.f s0_0 s0_1 s0_2 4).bind fun bt1512 => (if bt1512.1 = true then (if 0 ≤ (IntKind.u64.wrap (a1)) then (if 0 ≤ (IntKind.u64.wrap ((IntKind.u64.wrap (a1)) - 1)) then ((spec_l00Src_among.f s0_0 bt1512.2.1 bt1512.2.2 (([0, wrap64 ((shl .i64 1 (IntKind.u64.wrap (a1))) - 1), shl .i64 1 (IntKind.u64.wrap ((IntKind.u64.wrap (a1)) - 1)), wrap64 ((shl .i64 1 (IntKind.u64.wrap ((IntKind.u64.wrap (a1)) - 1))) - 1), 1] : List Int))).bind fun bt1518 => (some (bt1518.1, bt1518.2.1, bt1518.2.2))) else (none)) else (none)) else (if 0 ≤ (IntKind.u64.wrap (a1)) then ((spec_l00Src_pick.f s0_0 bt1512.2.1 bt1512.2.2 (shl .i64 1 (IntKind.u64.wrap (a1)))).bind fun bt1521 => (some (bt1521.1, bt1521.2.1, bt1521.2.2))) else (none)))) = some (r1, r2, r3) := h
 clear h
 replace H := Option.bind_eq_some_iff.mp H
 obtain ⟨⟨t1512, t1513, t1514⟩, A30, H⟩ := H
 try dsimp only at H
 have A3 := Aside0.mk A30
 clear A30
 by_cases c4 : t1512 = true
 ·subst c4
  rw [if_pos rfl] at H
  obtain ⟨ji5, hji5⟩ : ∃ j_ : Int, (IntKind.u64.wrap (a1)) = j_ := ⟨_, rfl⟩
  replace H : (if 0 ≤ (ji5) then (if 0 ≤ (IntKind.u64.wrap ((ji5) - 1)) then ((spec_l00Src_among.f s0_0 t1513 t1514 (([0, wrap64 ((shl .i64 1 (ji5)) - 1), shl .i64 1 (IntKind.u64.wrap ((ji5) - 1)), wrap64 ((shl .i64 1 (IntKind.u64.wrap ((ji5) - 1))) - 1), 1] : List Int))).bind fun bt1518 => (some (bt1518.1, bt1518.2.1, bt1518.2.2))) else (none)) else (none)) = some (r1, r2, r3) := by first | (rw [hji5] at H; exact H) | (simp only [hji5] at H ⊢; exact H)
  (try rw [hji5] at A3)
  by_cases c6 : 0 ≤ (ji5)
  rotate_left
  ·rw [if_neg c6] at H
   exact absurd H (by simp)
  rw [if_pos c6] at H
  have c6b0 := eq_true c6
  have c6b1 : decide (0 ≤ (ji5)) = true := decide_eq_true c6
  clear c6
  obtain ⟨ji7, hji7⟩ : ∃ j_ : Int, (shl .i64 1 (ji5)) = j_ := ⟨_, rfl⟩
  replace H : (if 0 ≤ (IntKind.u64.wrap ((ji5) - 1)) then ((spec_l00Src_among.f s0_0 t1513 t1514 (([0, wrap64 ((ji7) - 1), shl .i64 1 (IntKind.u64.wrap ((ji5) - 1)), wrap64 ((shl .i64 1 (IntKind.u64.wrap ((ji5) - 1))) - 1), 1] : List Int))).bind fun bt1518 => (some (bt1518.1, bt1518.2.1, bt1518.2.2))) else (none)) = some (r1, r2, r3) := by first | (rw [hji7] at H; exact H) | (simp only [hji7] at H ⊢; exact H)
  (try rw [hji7] at A3)
  have hji7_ : (IntKind.i64.wrap (1 * 2 ^ min (ji5).toNat 64)) = ji7 := hji7
  have hji7z : (ji5) ≤ 64 → (IntKind.i64.wrap (1 * 2 ^ (ji5).toNat)) = ji7 := shl_small hji7
  have hji7u : (IntKind.i64.wrap (2 ^ min (ji5).toNat 64)) = ji7 := by have h_ := hji7_; rw [Int.one_mul] at h_; exact h_
  have hji7v : (ji5) ≤ 64 → (IntKind.i64.wrap (2 ^ (ji5).toNat)) = ji7 := fun hle_ => by have h_ := hji7z hle_; rw [Int.one_mul] at h_; exact h_
  have hji7y : (wrap64 (1 * 2 ^ min (ji5).toNat 64)) = ji7 := (i64_w _).symm.trans hji7_
  have hji7x : (ji5) ≤ 64 → (wrap64 (1 * 2 ^ (ji5).toNat)) = ji7 := fun h_ => (i64_w _).symm.trans (hji7z h_)
  obtain ⟨ji8, hji8⟩ : ∃ j_ : Int, (IntKind.u64.wrap ((ji5) - 1)) = j_ := ⟨_, rfl⟩
  replace H : (if 0 ≤ (ji8) then ((spec_l00Src_among.f s0_0 t1513 t1514 (([0, wrap64 ((ji7) - 1), shl .i64 1 (ji8), wrap64 ((shl .i64 1 (ji8)) - 1), 1] : List Int))).bind fun bt1518 => (some (bt1518.1, bt1518.2.1, bt1518.2.2))) else (none)) = some (r1, r2, r3) := by first | (rw [hji8] at H; exact H) | (simp only [hji8] at H ⊢; exact H)
  (try rw [hji8] at A3)
  by_cases c9 : 0 ≤ (ji8)
  rotate_left
  ·rw [if_neg c9] at H
   exact absurd H (by simp)
  rw [if_pos c9] at H
  have c9b0 := eq_true c9
  have c9b1 : decide (0 ≤ (ji8)) = true := decide_eq_true c9
  clear c9
  obtain ⟨ji10, hji10⟩ : ∃ j_ : Int, (shl .i64 1 (ji8)) = j_ := ⟨_, rfl⟩
  replace H : ((spec_l00Src_among.f s0_0 t1513 t1514 (([0, wrap64 ((ji7) - 1), ji10, wrap64 ((ji10) - 1), 1] : List Int))).bind fun bt1518 => (some (bt1518.1, bt1518.2.1, bt1518.2.2))) = some (r1, r2, r3) := by first | (rw [hji10] at H; exact H) | (simp only [hji10] at H ⊢; exact H)
  (try rw [hji10] at A3)
  have hji10_ : (IntKind.i64.wrap (1 * 2 ^ min (ji8).toNat 64)) = ji10 := hji10
  have hji10z : (ji8) ≤ 64 → (IntKind.i64.wrap (1 * 2 ^ (ji8).toNat)) = ji10 := shl_small hji10
  have hji10u : (IntKind.i64.wrap (2 ^ min (ji8).toNat 64)) = ji10 := by have h_ := hji10_; rw [Int.one_mul] at h_; exact h_
  have hji10v : (ji8) ≤ 64 → (IntKind.i64.wrap (2 ^ (ji8).toNat)) = ji10 := fun hle_ => by have h_ := hji10z hle_; rw [Int.one_mul] at h_; exact h_
  have hji10y : (wrap64 (1 * 2 ^ min (ji8).toNat 64)) = ji10 := (i64_w _).symm.trans hji10_
  have hji10x : (ji8) ≤ 64 → (wrap64 (1 * 2 ^ (ji8).toNat)) = ji10 := fun h_ => (i64_w _).symm.trans (hji10z h_)
  have c11b0 := eq_true (of_decide_eq_true (by first | (with_reducible assumption) | assumption) : 0 ≤ (ji8))
  obtain ⟨y1515, hy1515⟩ : ∃ y_ : List Int, y_ = (([0, wrap64 ((ji7) - 1), ji10, wrap64 ((ji10) - 1), 1] : List Int)) := ⟨_, rfl⟩
  replace H : ((spec_l00Src_among.f s0_0 t1513 t1514 y1515).bind fun bt1518 => (some (bt1518.1, bt1518.2.1, bt1518.2.2))) = some (r1, r2, r3) := by first | (rw [hy1515]; with_reducible exact H) | (have H2_ := (Option.bind_some _ _).symm.trans H; rw [hy1515]; with_reducible exact H2_) | (have H2_ := (Option.bind_some _ _).symm.trans H; with_reducible exact H2_) | with_reducible exact H | (rw [hy1515]; exact H) | exact H
  have Ny1515 := Aside0.mk hy1515
  clear hy1515
  replace H := Option.bind_eq_some_iff.mp H
  obtain ⟨⟨t1518, t1519, t1520⟩, A130, H⟩ := H
  try dsimp only at H
  have A13 := Aside0.mk A130
  clear A130
  simp only [Option.some.injEq, Prod.mk.injEq] at H
  obtain ⟨rfl, rfl, rfl⟩ := H
  go_enter Try.func163, Try.ntmps163
  go_wp2_with (first | ((with_reducible refine gate_callee (f := 169) rfl ?_); refine goesL_ (some 9) rfl rfl Try.func169 (by kernel_rfl) rfl #[.pointer (some ⟨g, 0, none⟩), .int .i64 4] rfl (by (try simp only [List.map_toArray, List.map_cons, List.map_nil]); first | done | rfl | (simp only [List.length_drop, List.length_take]; rfl)) ?_; (with_reducible refine (spec_l00Src_one.calls g s0_0 s0_1 s0_2 4 true t1513 t1514 w0 _ ?side1 ?side2 A3.out).mono ?_); (case side1 => repeat (first | (with_reducible first | exact HI0.out | apply IsS95.alloc | apply IsS95.drewN | apply IsS95.drew | apply IsS95.set_1 | apply IsS95.set_2) | exact HI0.out)); (case side2 => repeat (first | (with_reducible first | exact HB.out | apply below_alloc | apply pw_below_drewN | apply below_drew1 | refine below_set ?_ (IsS95.ge HI0.out)) | exact HB.out)); rintro e w14 ⟨rfl, hi, hb, hk⟩; refine ⟨_, rfl, ?_⟩; have n0_ := Aside0.mk (KeepBut.trans (by repeat (first | (with_reducible first | exact HK.out | apply KeepBut.set_ | apply keep_drewN | apply keep_drew | apply keep_alloc) | exact HK.out)) hk (.inl rfl)); have n1_ := Aside0.mk (hb); have n2_ := Aside0.mk (hi); clear HK; clear HB; clear HI0; have HK := n0_; have HB := n1_; have HI0 := n2_; clear n0_ n1_ n2_; (try clear hb); (try clear hb2); (try clear hk); (try clear hi)) | ((with_reducible refine gate_dst (N := 21) rfl ?_); refine Kd.R_lit (Kd.int .i64) _ 2 ?hg (N := 21) ?hd (xs := ([0, wrap64 ((ji7) - 1), ji10, wrap64 ((ji10) - 1), 1] : List Int)) (inner := [.int .i64 0, .int .i64 (wrap64 ((ji7) - 1)), .int .i64 ji10, .int .i64 (wrap64 ((ji10) - 1)), .int .i64 1]) (ok := fun _ => True) (okp := fun _ => True) ?hr ?hp (fun _ hk => hk) trivial (Below.refl _ _) (Nat.le_refl _) (by simp) ?_; (case hd => rfl); (case hg => rfl); (case hr => first | (go_simp; done) | (go_simp; rfl)); (case hp => exact (Reps.one (show Kd.M (Kd.int .i64) _ _ _ 0 [.int .i64 0] from rfl) (Reps.one (show Kd.M (Kd.int .i64) _ _ _ (wrap64 ((ji7) - 1)) [.int .i64 (wrap64 ((ji7) - 1))] from rfl) (Reps.one (show Kd.M (Kd.int .i64) _ _ _ ji10 [.int .i64 ji10] from rfl) (Reps.one (show Kd.M (Kd.int .i64) _ _ _ (wrap64 ((ji10) - 1)) [.int .i64 (wrap64 ((ji10) - 1))] from rfl) (Reps.one (show Kd.M (Kd.int .i64) _ _ _ 1 [.int .i64 1] from rfl) (Reps.none _ _))))))); intro v1516 w15 ho16 hb hg_ hnew_; clear hg_ hnew_; (first | rw [← Ny1515.out] at ho16 | (simp only [Int.reduceToNat] at ho16; rw [← Ny1515.out] at ho16)); have n0_ := Aside0.mk (Kd.R_lower ho16 (keep_size (w := w) (g := g) (row := none) (by repeat (first | (with_reducible first | exact HK.out | apply KeepBut.set_ | apply keep_drewN | apply keep_drew | apply keep_alloc) | exact HK.out)))); have n1_ := Aside0.mk (IsS95.below (by repeat (first | (with_reducible first | exact HI0.out | apply IsS95.alloc | apply IsS95.drewN | apply IsS95.drew | apply IsS95.set_1 | apply IsS95.set_2) | exact HI0.out)) hb); have n2_ := Aside0.mk (KeepBut.trans (by repeat (first | (with_reducible first | exact HK.out | apply KeepBut.set_ | apply keep_drewN | apply keep_drew | apply keep_alloc) | exact HK.out)) (KeepBut.of_below hb g none) (.inl rfl)); have n3_ := Aside0.mk (below_step (by repeat (first | (with_reducible first | exact HB.out | apply below_alloc | apply pw_below_drewN | apply below_drew1 | refine below_set ?_ (IsS95.ge HI0.out)) | exact HB.out)) hb); clear HI0; clear HK; clear HB; have HO1517 := n0_; have HI0 := n1_; have HK := n2_; have HB := n3_; clear n0_ n1_ n2_ n3_; clear hb ho16; obtain ⟨Ao17, co17, eo17⟩ := Kd.R_slice HO1517.out; subst eo17) | ((with_reducible refine gate_callee (f := 141) rfl ?_); refine goesL_ (some 22) rfl rfl Try.func141 (by kernel_rfl) rfl #[.pointer (some ⟨g, 0, none⟩), .slice Ao17 y1515.length co17] rfl (by (try simp only [List.map_toArray, List.map_cons, List.map_nil]); first | done | rfl | (simp only [List.length_drop, List.length_take]; rfl)) ?_; (with_reducible refine (spec_l00Src_among.calls g s0_0 t1513 t1514 _ _ y1515 t1518 t1519 t1520 w0 _ ?side1 ?side2 ?side3 ?side4 ?side5 A13.out).mono ?_); (case side1 => repeat (first | (with_reducible first | exact HI0.out | apply IsS95.alloc | apply IsS95.drewN | apply IsS95.drew | apply IsS95.set_1 | apply IsS95.set_2) | exact HI0.out)); (case side2 => repeat (first | (with_reducible first | exact HB.out | apply below_alloc | apply pw_below_drewN | apply below_drew1 | refine below_set ?_ (IsS95.ge HI0.out)) | exact HB.out)); (case side3 => repeat (first | exact (Kd.R_reads' HO1517.out).2.2 | (with_reducible refine Kd.C_alloc ?_ _) | (with_reducible refine Kd.C_drewN ?_ _) | (with_reducible refine Kd.C_drew ?_))); (case side4 => exact (Kd.R_reads' HO1517.out).2.1); (case side5 => exact far_slice (IsS95.own_ne HI0.out HO1517.out (by decide))); rintro e w18 ⟨rfl, hi, hb, hk⟩; refine ⟨_, rfl, ?_⟩; have n0_ := Aside0.mk (Kd.R_mono (Kd.R_keep (IsS95.apart (show IsS95 w0 _ g s0_0 t1513 t1514 from by repeat (first | (with_reducible first | exact HI0.out | apply IsS95.alloc | apply IsS95.drewN | apply IsS95.drew | apply IsS95.set_1 | apply IsS95.set_2) | exact HI0.out)) (by (with_reducible repeat (first | apply Kd.R_alloc | apply Kd.R_drewN | apply Kd.R_drew)); exact HO1517.out) (by decide)) hk (fun _ h => h.2)) (fun _ h => h.1)); have n1_ := Aside0.mk (KeepBut.trans (by repeat (first | (with_reducible first | exact HK.out | apply KeepBut.set_ | apply keep_drewN | apply keep_drew | apply keep_alloc) | exact HK.out)) hk (.inl rfl)); have n2_ := Aside0.mk (hb); have n3_ := Aside0.mk (hi); clear HO1517; clear HK; clear HB; clear HI0; have HO1517 := n0_; have HK := n1_; have HB := n2_; have HI0 := n3_; clear n0_ n1_ n2_ n3_; (try clear hb); (try clear hb2); (try clear hk); (try clear hi)))
  go_ret
  exact ⟨by first | rfl | (simp [errW_none, errW_some] <;> rfl) | (simp only [← hji5, ← hji7, ← hji8, ← hji10]; first | rfl | (simp [errW_none, errW_some] <;> rfl)) | (simp [*, errW_none, errW_some] <;> rfl), by repeat (first | (with_reducible first | exact HI0.out | apply IsS95.alloc | apply IsS95.drewN | apply IsS95.drew | apply IsS95.set_1 | apply IsS95.set_2) | exact HI0.out), by repeat (first | (with_reducible first | exact HB.out | apply below_alloc | apply pw_below_drewN | apply below_drew1 | refine below_set ?_ (IsS95.ge HI0.out)) | exact HB.out), by repeat (first | (with_reducible first | exact HK.out | apply KeepBut.set_ | apply keep_drewN | apply keep_drew | apply keep_alloc) | exact HK.out)⟩
 ·replace c4 := Bool.eq_false_iff.mpr c4
  subst c4
  rw [if_neg (show ¬ (false = true) by decide)] at H
  obtain ⟨ji19, hji19⟩ : ∃ j_ : Int, (IntKind.u64.wrap (a1)) = j_ := ⟨_, rfl⟩
  replace H : (if 0 ≤ (ji19) then ((spec_l00Src_pick.f s0_0 t1513 t1514 (shl .i64 1 (ji19))).bind fun bt1521 => (some (bt1521.1, bt1521.2.1, bt1521.2.2))) else (none)) = some (r1, r2, r3) := by first | (rw [hji19] at H; exact H) | (simp only [hji19] at H ⊢; exact H)
  (try rw [hji19] at A3)
  by_cases c20 : 0 ≤ (ji19)
  rotate_left
  ·rw [if_neg c20] at H
   exact absurd H (by simp)

  rw [if_pos c20] at H
  have c20b0 := eq_true c20
  have c20b1 : decide (0 ≤ (ji19)) = true := decide_eq_true c20
  clear c20
  obtain ⟨ji21, hji21⟩ : ∃ j_ : Int, (shl .i64 1 (ji19)) = j_ := ⟨_, rfl⟩
  replace H : ((spec_l00Src_pick.f s0_0 t1513 t1514 (ji21)).bind fun bt1521 => (some (bt1521.1, bt1521.2.1, bt1521.2.2))) = some (r1, r2, r3) := by first | (rw [hji21] at H; exact H) | (simp only [hji21] at H ⊢; exact H)
  (try rw [hji21] at A3)
  have hji21_ : (IntKind.i64.wrap (1 * 2 ^ min (ji19).toNat 64)) = ji21 := hji21
  have hji21z : (ji19) ≤ 64 → (IntKind.i64.wrap (1 * 2 ^ (ji19).toNat)) = ji21 := shl_small hji21
  have hji21u : (IntKind.i64.wrap (2 ^ min (ji19).toNat 64)) = ji21 := by have h_ := hji21_; rw [Int.one_mul] at h_; exact h_
  have hji21v : (ji19) ≤ 64 → (IntKind.i64.wrap (2 ^ (ji19).toNat)) = ji21 := fun hle_ => by have h_ := hji21z hle_; rw [Int.one_mul] at h_; exact h_
  have hji21y : (wrap64 (1 * 2 ^ min (ji19).toNat 64)) = ji21 := (i64_w _).symm.trans hji21_
  have hji21x : (ji19) ≤ 64 → (wrap64 (1 * 2 ^ (ji19).toNat)) = ji21 := fun h_ => (i64_w _).symm.trans (hji21z h_)
  replace H := Option.bind_eq_some_iff.mp H
  obtain ⟨⟨t1521, t1522, t1523⟩, A220, H⟩ := H
  try dsimp only at H
  have A22 := Aside0.mk A220
  clear A220
  simp only [Option.some.injEq, Prod.mk.injEq] at H
  obtain ⟨rfl, rfl, rfl⟩ := H
  go_enter Try.func163, Try.ntmps163
  go_wp2_with (first | ((with_reducible refine gate_callee (f := 169) rfl ?_); refine goesL_ (some 9) rfl rfl Try.func169 (by kernel_rfl) rfl #[.pointer (some ⟨g, 0, none⟩), .int .i64 4] rfl (by (try simp only [List.map_toArray, List.map_cons, List.map_nil]); first | done | rfl | (simp only [List.length_drop, List.length_take]; rfl)) ?_; (with_reducible refine (spec_l00Src_one.calls g s0_0 s0_1 s0_2 4 false t1513 t1514 w0 _ ?side1 ?side2 A3.out).mono ?_); (case side1 => repeat (first | (with_reducible first | exact HI0.out | apply IsS95.alloc | apply IsS95.drewN | apply IsS95.drew | apply IsS95.set_1 | apply IsS95.set_2) | exact HI0.out)); (case side2 => repeat (first | (with_reducible first | exact HB.out | apply below_alloc | apply pw_below_drewN | apply below_drew1 | refine below_set ?_ (IsS95.ge HI0.out)) | exact HB.out)); rintro e w23 ⟨rfl, hi, hb, hk⟩; refine ⟨_, rfl, ?_⟩; have n0_ := Aside0.mk (KeepBut.trans (by repeat (first | (with_reducible first | exact HK.out | apply KeepBut.set_ | apply keep_drewN | apply keep_drew | apply keep_alloc) | exact HK.out)) hk (.inl rfl)); have n1_ := Aside0.mk (hb); have n2_ := Aside0.mk (hi); clear HK; clear HB; clear HI0; have HK := n0_; have HB := n1_; have HI0 := n2_; clear n0_ n1_ n2_; (try clear hb); (try clear hb2); (try clear hk); (try clear hi)) | ((with_reducible refine gate_callee (f := 144) rfl ?_); refine goesL_ (some 26) rfl rfl Try.func144 (by kernel_rfl) rfl #[.pointer (some ⟨g, 0, none⟩), .int .i64 ji21] rfl (by (try simp only [List.map_toArray, List.map_cons, List.map_nil]); first | done | (simp only [hji21]; rfl) | rfl | (simp only [List.length_drop, List.length_take]; rfl)) ?_; (with_reducible refine (spec_l00Src_pick.calls g s0_0 t1513 t1514 ji21 t1521 t1522 t1523 w0 _ ?side1 ?side2 A22.out).mono ?_); (case side1 => repeat (first | (with_reducible first | exact HI0.out | apply IsS95.alloc | apply IsS95.drewN | apply IsS95.drew | apply IsS95.set_1 | apply IsS95.set_2) | exact HI0.out)); (case side2 => repeat (first | (with_reducible first | exact HB.out | apply below_alloc | apply pw_below_drewN | apply below_drew1 | refine below_set ?_ (IsS95.ge HI0.out)) | exact HB.out)); rintro e w24 ⟨rfl, hi, hb, hk⟩; refine ⟨_, rfl, ?_⟩; have n0_ := Aside0.mk (KeepBut.trans (by repeat (first | (with_reducible first | exact HK.out | apply KeepBut.set_ | apply keep_drewN | apply keep_drew | apply keep_alloc) | exact HK.out)) hk (.inl rfl)); have n1_ := Aside0.mk (hb); have n2_ := Aside0.mk (hi); clear HK; clear HB; clear HI0; have HK := n0_; have HB := n1_; have HI0 := n2_; clear n0_ n1_ n2_; (try clear hb); (try clear hb2); (try clear hk); (try clear hi)))
  go_ret
  exact ⟨by first | rfl | (simp [errW_none, errW_some] <;> rfl) | (simp only [← hji19, ← hji21]; first | rfl | (simp [errW_none, errW_some] <;> rfl)) | (simp [*, errW_none, errW_some] <;> rfl), by repeat (first | (with_reducible first | exact HI0.out | apply IsS95.alloc | apply IsS95.drewN | apply IsS95.drew | apply IsS95.set_1 | apply IsS95.set_2) | exact HI0.out), by repeat (first | (with_reducible first | exact HB.out | apply below_alloc | apply pw_below_drewN | apply below_drew1 | refine below_set ?_ (IsS95.ge HI0.out)) | exact HB.out), by repeat (first | (with_reducible first | exact HK.out | apply KeepBut.set_ | apply keep_drewN | apply keep_drew | apply keep_alloc) | exact HK.out)⟩

/-! ### spec_l01DrawWords: function 142 -/
def spec_l01DrawWords.l0 : Nat → Int → Int → List Int → List Int → Int → Int → Option (List Int × Int × Int)
 | 0, _, _, _, _, _, _ => none
 | k + 1, x1, x2, x7, x1000, x1001, x1002 => if x2 > 0 then ((spec_l01DrawGood.f x1000 x1001 x1002 x1).bind fun bt1527 => (if x7.length < 17592186044416 then (spec_l01DrawWords.l0 k x1 (wrap64 (x2 - 1)) (x7 ++ [bt1527.1]) x1000 bt1527.2.1 bt1527.2.2) else (none))) else (some (x7, x1001, x1002))
def spec_l01DrawWords.f (k : Nat) (s0_0 : List Int) (s0_1 : Int) (s0_2 : Int) (a1 : Int) (a2 : Int) : Option (List Int × Int × Int) := spec_l01DrawWords.l0 k a1 a2 (([] : List Int)) s0_0 s0_1 s0_2
theorem spec_l01DrawWords.mono_l : ∀ k, (∀ y0 y1 y2 y3 y4 y5, LeO (spec_l01DrawWords.l0 k y0 y1 y2 y3 y4 y5) (spec_l01DrawWords.l0 (k + 1) y0 y1 y2 y3 y4 y5))
 | 0 => fun _ _ _ _ _ _ r h => by simp [spec_l01DrawWords.l0] at h
 | k + 1 => by
  have ih0 := spec_l01DrawWords.mono_l k
  ·intro y0 y1 y2 y3 y4 y5
   unfold spec_l01DrawWords.l0
   repeat' first
   | (with_reducible exact ih0 _ _ _ _ _ _)
   | (with_reducible exact LeO.refl _)
   | (with_reducible exact LeO.none _)
   | (with_reducible refine LeO.ite ?_ ?_)
   | (with_reducible refine LeO.bind ?_ (fun _ => ?_))
   | exact ih0 _ _ _ _ _ _
   | exact LeO.none _
   | refine LeO.ite ?_ ?_
   | refine LeO.bind ?_ (fun _ => ?_)
theorem spec_l01DrawWords.mono : ∀ a0 a1 a2 a3 a4 k, LeO (spec_l01DrawWords.f k a0 a1 a2 a3 a4) (spec_l01DrawWords.f (k + 1) a0 a1 a2 a3 a4) := by
 intro a0 a1 a2 a3 a4 k
 have ih0 := spec_l01DrawWords.mono_l k
 unfold spec_l01DrawWords.f
 repeat' first
   | (with_reducible exact ih0 _ _ _ _ _ _)
   | (with_reducible exact LeO.refl _)
   | (with_reducible exact LeO.none _)
   | (with_reducible refine LeO.ite ?_ ?_)
   | (with_reducible refine LeO.bind ?_ (fun _ => ?_))
   | exact ih0 _ _ _ _ _ _
   | exact LeO.none _
   | refine LeO.ite ?_ ?_
   | refine LeO.bind ?_ (fun _ => ?_)
set_option maxHeartbeats 8000000 in
set_option maxRecDepth 100000 in
theorem spec_l01DrawWords.calls (k : Nat) (g : Nat) (s0_0 : List Int) (s0_1 : Int) (s0_2 : Int) (a1 : Int) (a2 : Int) (r1 : List Int) (r2 : Int) (r3 : Int) (w0 w : World) (hI : IsS95 w0 w g s0_0 s0_1 s0_2) (hB : Below w0.heap.size w0 w) (h : spec_l01DrawWords.f k s0_0 s0_1 s0_2 a1 a2 = some (r1, r2, r3)) :
  Calls Try.prog 142 #[.pointer (some ⟨g, 0, none⟩), .int .i64 a1, .int .i64 a2] w fun e w' => ∃ v0_ : Value, e = .returned (v0_) ∧ Kd.R (Kd.int .i64) 2 w' w.heap.size (fun _ => True) v0_ r1 ∧ IsS95 w0 w' g s0_0 r2 r3 ∧ Below w0.heap.size w0 w' ∧ KeepBut w w' g none := by
 have HI0 := Aside0.mk hI
 have HK := Aside0.mk (KeepBut.refl w g none)
 have HL := Aside0.mk hB.size
 clear hI
 have HW0 := Aside0.mk hB.size
 have HB := Aside0.mk hB
 clear hB
 have H : (spec_l01DrawWords.l0 k a1 a2 (([] : List Int)) s0_0 s0_1 s0_2) = some (r1, r2, r3) := h
 clear h
 obtain ⟨y1524, hy1524⟩ : ∃ y_ : List Int, y_ = (([] : List Int)) := ⟨_, rfl⟩
 replace H : (spec_l01DrawWords.l0 k a1 a2 y1524 s0_0 s0_1 s0_2) = some (r1, r2, r3) := by first | (rw [hy1524]; with_reducible exact H) | (have H2_ := (Option.bind_some _ _).symm.trans H; rw [hy1524]; with_reducible exact H2_) | (have H2_ := (Option.bind_some _ _).symm.trans H; with_reducible exact H2_) | with_reducible exact H | (rw [hy1524]; exact H) | exact H
 have Ny1524 := Aside0.mk hy1524
 clear hy1524
 have H' := Aside0.mk H
 clear H
 go_enter Try.func142, Try.ntmps142
 go_wp2_with (first | ((with_reducible refine gate_dst (N := 8) rfl ?_); refine Kd.R_lit (Kd.int .i64) _ 2 ?hg (N := 8) ?hd (xs := ([] : List Int)) (inner := []) (ok := fun _ => True) (okp := fun _ => True) ?hr ?hp (fun _ hk => hk) trivial (Below.refl _ _) (Nat.le_refl _) (by simp) ?_; (case hd => rfl); (case hg => rfl); (case hr => first | (go_simp; done) | (go_simp; rfl)); (case hp => exact (Reps.none _ _)); intro v1525 w4 ho5 hb hg_ hnew_; clear hg_ hnew_; (first | rw [← Ny1524.out] at ho5 | (simp only [Int.reduceToNat] at ho5; rw [← Ny1524.out] at ho5)); have n0_ := Aside0.mk (Kd.R_lower ho5 (keep_size (w := w) (g := g) (row := none) (by repeat (first | (with_reducible first | exact HK.out | apply KeepBut.set_ | apply keep_drewN | apply keep_drew | apply keep_alloc) | exact HK.out)))); have n1_ := Aside0.mk (IsS95.below (by repeat (first | (with_reducible first | exact HI0.out | apply IsS95.alloc | apply IsS95.drewN | apply IsS95.drew | apply IsS95.set_1 | apply IsS95.set_2) | exact HI0.out)) hb); have n2_ := Aside0.mk (KeepBut.trans (by repeat (first | (with_reducible first | exact HK.out | apply KeepBut.set_ | apply keep_drewN | apply keep_drew | apply keep_alloc) | exact HK.out)) (KeepBut.of_below hb g none) (.inl rfl)); have n3_ := Aside0.mk (below_step (by repeat (first | (with_reducible first | exact HB.out | apply below_alloc | apply pw_below_drewN | apply below_drew1 | refine below_set ?_ (IsS95.ge HI0.out)) | exact HB.out)) hb); clear HI0; clear HK; clear HB; have HO1526 := n0_; have HI0 := n1_; have HK := n2_; have HB := n3_; clear n0_ n1_ n2_ n3_; clear hb ho5))
 go_loopg [2, 7] k (fun kq v2 v7 w' => ∃ (x2_1 : Int) (x7_1 : List Int) (x1001_1 : Int) (x1002_1 : Int), v2 = .int .i64 x2_1 ∧ Aside0 (spec_l01DrawWords.l0 kq a1 x2_1 x7_1 s0_0 x1001_1 x1002_1 = some (r1, r2, r3)) ∧ Aside0 (kq ≤ k) ∧ Aside0 (Kd.R (Kd.int .i64) 2 w' w.heap.size (fun _ => True) v7 x7_1) ∧ Aside0 (IsS95 w0 w' g s0_0 x1001_1 x1002_1) ∧ Aside0 (KeepBut w w' g none) ∧ Aside0 (Below w0.heap.size w0 w'))
 case atStart => exact ⟨(a2), (y1524), (s0_1), (s0_2), (by first | rfl | (simp; done) | (simp [*]; done)), H', ⟨Nat.le_refl _⟩, ⟨by (with_reducible repeat (first | apply Kd.R_alloc | apply Kd.R_drewN | apply Kd.R_drew)); exact HO1526.out⟩, ⟨by repeat (first | (with_reducible first | exact HI0.out | apply IsS95.alloc | apply IsS95.drewN | apply IsS95.drew | apply IsS95.set_1 | apply IsS95.set_2) | exact HI0.out)⟩, ⟨by repeat (first | (with_reducible first | exact HK.out | apply KeepBut.set_ | apply keep_drewN | apply keep_drew | apply keep_alloc) | exact HK.out)⟩, ⟨by repeat (first | (with_reducible first | exact HB.out | apply below_alloc | apply pw_below_drewN | apply below_drew1 | refine below_set ?_ (IsS95.ge HI0.out)) | exact HB.out)⟩⟩
 case round =>
  clear H'
  try clear c1
  try clear p2
  obtain ⟨x2_1, x7_1, x1001_1, x1002_1, rfl, HA, HK1, HO_7, HI0, HK, HB⟩ := hrel
  cases gk with
  | zero => exact absurd HA.out (by simp [spec_l01DrawWords.l0])
  | succ k1 =>
   have H := HA.out
   clear HA
   simp only [spec_l01DrawWords.l0] at H
   by_cases c6 : x2_1 > 0
   rotate_left
   ·rw [if_neg c6] at H
    have c6b0 : decide (0 < x2_1) = false := decide_eq_false c6
    clear c6
    simp only [Option.some.injEq, Prod.mk.injEq] at H
    obtain ⟨rfl, rfl, rfl⟩ := H
    go_wp2
    go_ret
    exact ⟨_, by first | rfl | (simp [errW_none, errW_some] <;> rfl) | (simp [*, errW_none, errW_some] <;> rfl), by (with_reducible repeat (first | apply Kd.R_alloc | apply Kd.R_drewN | apply Kd.R_drew)); exact HO_7.out, by repeat (first | (with_reducible first | exact HI0.out | apply IsS95.alloc | apply IsS95.drewN | apply IsS95.drew | apply IsS95.set_1 | apply IsS95.set_2) | exact HI0.out), by repeat (first | (with_reducible first | exact HB.out | apply below_alloc | apply pw_below_drewN | apply below_drew1 | refine below_set ?_ (IsS95.ge HI0.out)) | exact HB.out), by repeat (first | (with_reducible first | exact HK.out | apply KeepBut.set_ | apply keep_drewN | apply keep_drew | apply keep_alloc) | exact HK.out)⟩

   rw [if_pos c6] at H
   have c6b0 : decide (0 < x2_1) = true := decide_eq_true c6
   clear c6
   replace H := Option.bind_eq_some_iff.mp H
   obtain ⟨⟨t1527, t1528, t1529⟩, A70, H⟩ := H
   try dsimp only at H
   have A7 := Aside0.mk A70
   clear A70
   by_cases c8 : x7_1.length < 17592186044416
   rotate_left
   ·rw [if_neg c8] at H
    exact absurd H (by simp)
   rw [if_pos c8] at H
   have LMc8 := Aside0.mk c8
   clear c8
   obtain ⟨y1530, hy1530⟩ : ∃ y_ : List Int, y_ = (x7_1 ++ [t1527]) := ⟨_, rfl⟩
   replace H : (spec_l01DrawWords.l0 k1 a1 (wrap64 (x2_1 - 1)) y1530 s0_0 t1528 t1529) = some (r1, r2, r3) := by first | (rw [hy1530]; with_reducible exact H) | (have H2_ := (Option.bind_some _ _).symm.trans H; rw [hy1530]; with_reducible exact H2_) | (have H2_ := (Option.bind_some _ _).symm.trans H; with_reducible exact H2_) | with_reducible exact H | (rw [hy1530]; exact H) | exact H
   have Ny1530 := Aside0.mk hy1530
   clear hy1530
   have H' := Aside0.mk H
   clear H
   go_wp2_with (first | ((with_reducible refine gate_callee (f := 163) rfl ?_); refine goesL_ (some 16) rfl rfl Try.func163 (by kernel_rfl) rfl #[.pointer (some ⟨g, 0, none⟩), .int .i64 a1] rfl (by (try simp only [List.map_toArray, List.map_cons, List.map_nil]); first | done | rfl | (simp only [List.length_drop, List.length_take]; rfl)) ?_; (with_reducible refine (spec_l01DrawGood.calls g s0_0 x1001_1 x1002_1 a1 t1527 t1528 t1529 w0 _ ?side1 ?side2 A7.out).mono ?_); (case side1 => repeat (first | (with_reducible first | exact HI0.out | apply IsS95.alloc | apply IsS95.drewN | apply IsS95.drew | apply IsS95.set_1 | apply IsS95.set_2) | exact HI0.out)); (case side2 => repeat (first | (with_reducible first | exact HB.out | apply below_alloc | apply pw_below_drewN | apply below_drew1 | refine below_set ?_ (IsS95.ge HI0.out)) | exact HB.out)); rintro e w9 ⟨rfl, hi, hb, hk⟩; refine ⟨_, rfl, ?_⟩; have n0_ := Aside0.mk (Kd.R_mono (Kd.R_keep (IsS95.apart (show IsS95 w0 _ g s0_0 x1001_1 x1002_1 from by repeat (first | (with_reducible first | exact HI0.out | apply IsS95.alloc | apply IsS95.drewN | apply IsS95.drew | apply IsS95.set_1 | apply IsS95.set_2) | exact HI0.out)) (by (with_reducible repeat (first | apply Kd.R_alloc | apply Kd.R_drewN | apply Kd.R_drew)); exact HO_7.out) (by decide)) hk (fun _ h => h.2)) (fun _ h => h.1)); have n1_ := Aside0.mk (KeepBut.trans (by repeat (first | (with_reducible first | exact HK.out | apply KeepBut.set_ | apply keep_drewN | apply keep_drew | apply keep_alloc) | exact HK.out)) hk (.inl rfl)); have n2_ := Aside0.mk (hb); have n3_ := Aside0.mk (hi); clear HO_7; clear HK; clear HB; clear HI0; have HO_7 := n0_; have HK := n1_; have HB := n2_; have HI0 := n3_; clear n0_ n1_ n2_ n3_; (try clear hb); (try clear hb2); (try clear hk); (try clear hi)) | ((with_reducible refine gate_builtin (b := .append) (xs := #[.tmp 13, .tmp 17]) rfl ?_); at_builtin; refine Kd.R_append (Kd.int .i64) w.heap.size rfl (.tmp 13) (.tmp 17) 22 2 (.int .i64 0) 8 rfl Try.underlying22 info2 rfl (by decide) (by omega) u7 x7_1 t1527 [.int .i64 t1527] (fun _ => True) (fun _ => False) rfl rfl ?aP (fun _ hk => hk.elim) ?aF ?aO (Below.refl _ _) ?aS ?aL ?_; (case aP => exact rfl); (case aF => exact (fun _ _ => trivial)); (case aO => exact (by (with_reducible repeat (first | apply Kd.R_alloc | apply Kd.R_drewN | apply Kd.R_drew)); exact HO_7.out)); (case aS => exact (keep_size (w := w) (g := g) (row := none) (by repeat (first | (with_reducible first | exact HK.out | apply KeepBut.set_ | apply keep_drewN | apply keep_drew | apply keep_alloc) | exact HK.out)))); (case aL => have := LMc8.out; omega); intro v1531 w10 ho hb hg hat; rw [← Ny1530.out] at ho; have n0_ := Aside0.mk (IsS95.grown (by repeat (first | (with_reducible first | exact HI0.out | apply IsS95.alloc | apply IsS95.drewN | apply IsS95.drew | apply IsS95.set_1 | apply IsS95.set_2) | exact HI0.out)) hg (IsS95.own_ne HI0.out HO_7.out (by decide))); have n1_ := Aside0.mk (below_weaken (by repeat (first | (with_reducible first | exact HB.out | apply below_alloc | apply pw_below_drewN | apply below_drew1 | refine below_set ?_ (IsS95.ge HI0.out)) | exact HB.out)) HL.out hb); have n2_ := Aside0.mk (KeepBut.trans (by repeat (first | (with_reducible first | exact HK.out | apply KeepBut.set_ | apply keep_drewN | apply keep_drew | apply keep_alloc) | exact HK.out)) (KeepBut.of_grown hg g) (Kd.R_base2 HO_7.out)); have n3_ := Aside0.mk (ho); clear HI0; clear HB; clear HK; clear HO_7; have HI0 := n0_; have HB := n1_; have HK := n2_; have HO1532 := n3_; clear n0_ n1_ n2_ n3_; clear ho hb hg hat))
   go_roundg k1
   case measure => have := HK1.out; omega
   case rel => exact ⟨(wrap64 (x2_1 - 1)), (y1530), (t1528), (t1529), (by first | rfl | (simp; done) | (simp [*]; done)), H', ⟨by have := HK1.out; omega⟩, ⟨by (with_reducible repeat (first | apply Kd.R_alloc | apply Kd.R_drewN | apply Kd.R_drew)); exact HO1532.out⟩, ⟨by repeat (first | (with_reducible first | exact HI0.out | apply IsS95.alloc | apply IsS95.drewN | apply IsS95.drew | apply IsS95.set_1 | apply IsS95.set_2) | exact HI0.out)⟩, ⟨by repeat (first | (with_reducible first | exact HK.out | apply KeepBut.set_ | apply keep_drewN | apply keep_drew | apply keep_alloc) | exact HK.out)⟩, ⟨by repeat (first | (with_reducible first | exact HB.out | apply below_alloc | apply pw_below_drewN | apply below_drew1 | refine below_set ?_ (IsS95.ge HI0.out)) | exact HB.out)⟩⟩

/-! ### spec_R8Vector: function 74 -/
def spec_R8Vector.f (k : Nat) (l0 : List Int) (a1 : Int) (a2 : Int) : Option (List Int) := (spec_l00From.f l0).bind fun bt1533 => ((spec_l01DrawWords.f k bt1533.1 bt1533.2.1 bt1533.2.2 a1 a2).bind fun bt1537 => (some bt1537.1))
theorem spec_R8Vector.mono : ∀ a0 a1 a2 k, LeO (spec_R8Vector.f k a0 a1 a2) (spec_R8Vector.f (k + 1) a0 a1 a2) := by
 intro a0 a1 a2 k
 unfold spec_R8Vector.f
 repeat' first
   | (with_reducible exact spec_l01DrawWords.mono _ _ _ _ _ _)
   | (with_reducible exact LeO.refl _)
   | (with_reducible exact LeO.none _)
   | (with_reducible refine LeO.ite ?_ ?_)
   | (with_reducible refine LeO.bind ?_ (fun _ => ?_))
   | exact spec_l01DrawWords.mono _ _ _ _ _ _
   | exact LeO.none _
   | refine LeO.ite ?_ ?_
   | refine LeO.bind ?_ (fun _ => ?_)
set_option maxHeartbeats 8000000 in
set_option maxRecDepth 100000 in
theorem spec_R8Vector.calls (k : Nat) (A0 : Option Addr) (c0 : Nat) (l0 : List Int) (a1 : Int) (a2 : Int) (r : List Int) (w : World) (hr0 : Kd.C (Kd.int .u8) w A0 l0.length l0) (hc0 : l0.length ≤ c0) (h : spec_R8Vector.f k l0 a1 a2 = some r) :
  Calls Try.prog 74 #[.slice A0 l0.length c0, .int .i64 a1, .int .i64 a2] w fun e w' => ∃ v0_ : Value, e = .returned (v0_) ∧ Kd.R (Kd.int .i64) 2 w' w.heap.size (fun _ => True) v0_ r ∧ Below w.heap.size w w' := by
 have HR0 := Aside0.mk hr0
 have HC0 := Aside0.mk hc0
 clear hr0 hc0
 have HB := Aside0.mk (Below.refl w.heap.size w)
 have H : ((spec_l00From.f l0).bind fun bt1533 => ((spec_l01DrawWords.f k bt1533.1 bt1533.2.1 bt1533.2.2 a1 a2).bind fun bt1537 => (some bt1537.1))) = some r := h
 clear h
 replace H := Option.bind_eq_some_iff.mp H
 obtain ⟨⟨t1533, t1534, t1535⟩, A40, H⟩ := H
 try dsimp only at H
 have A4 := Aside0.mk A40
 clear A40
 replace H := Option.bind_eq_some_iff.mp H
 obtain ⟨⟨t1537, t1540, t1541⟩, A50, H⟩ := H
 try dsimp only at H
 have A5 := Aside0.mk A50
 clear A50
 obtain rfl := Option.some.inj H
 go_enter Try.func74, Try.ntmps74
 go_wp2_with (first | ((with_reducible refine gate_callee (f := 140) rfl ?_); refine goesL_ (some 9) rfl rfl Try.func140 (by kernel_rfl) rfl #[.slice A0 l0.length c0] rfl (by (try simp only [List.map_toArray, List.map_cons, List.map_nil]); first | done | rfl | (simp only [List.length_drop, List.length_take]; rfl)) ?_; (with_reducible refine (spec_l00From.calls _ _ l0 t1533 t1534 t1535 w _ ?side1 ?side2 ?side3 A4.out).mono ?_); (case side1 => repeat (first | (with_reducible first | exact HB.out | apply below_alloc | apply pw_below_drewN | apply below_drew1) | exact HB.out)); (case side2 => exact HR0.out); (case side3 => exact HC0.out); rintro e w6 ⟨g1536, rfl, hi, hb, hb2⟩; refine ⟨_, rfl, ?_⟩; have n0_ := Aside0.mk (hb); have n1_ := Aside0.mk (hi); clear HB; have HB := n0_; have HI1536 := n1_; clear n0_ n1_; (try clear hb); (try clear hb2); (try clear hk); (try clear hi)) | ((with_reducible refine gate_callee (f := 142) rfl ?_); refine goesL_ (some 13) rfl rfl Try.func142 (by kernel_rfl) rfl #[.pointer (some ⟨g1536, 0, none⟩), .int .i64 a1, .int .i64 a2] rfl (by (try simp only [List.map_toArray, List.map_cons, List.map_nil]); first | done | rfl | (simp only [List.length_drop, List.length_take]; rfl)) ?_; (with_reducible refine (spec_l01DrawWords.calls k g1536 t1533 t1534 t1535 a1 a2 t1537 t1540 t1541 w _ ?side1 ?side2 A5.out).mono ?_); (case side1 => repeat (first | (with_reducible first | exact HI1536.out | apply IsS95.alloc | apply IsS95.drewN | apply IsS95.drew | apply IsS95.set_1 | apply IsS95.set_2) | exact HI1536.out)); (case side2 => repeat (first | (with_reducible first | exact HB.out | apply below_alloc | apply pw_below_drewN | apply below_drew1 | refine below_set ?_ (IsS95.ge HI1536.out)) | exact HB.out)); rintro e w7 ⟨v1538, rfl, ho0, hi, hb, hk⟩; refine ⟨_, rfl, ?_⟩; have n0_ := Aside0.mk (Kd.R_lower ho0 (below_size (by repeat (first | (with_reducible first | exact HB.out | apply below_alloc | apply pw_below_drewN | apply below_drew1 | refine below_set ?_ (IsS95.ge HI1536.out)) | exact HB.out)))); have n1_ := Aside0.mk (hb); have n2_ := Aside0.mk (hi); clear HB; clear HI1536; have HO1539 := n0_; have HB := n1_; have HI1536 := n2_; clear n0_ n1_ n2_; (try clear hb); (try clear hb2); (try clear hk); (try clear hi); (try clear ho0)))
 go_ret
 exact ⟨_, by first | rfl | (simp [errW_none, errW_some] <;> rfl) | (simp [*, errW_none, errW_some] <;> rfl), by (with_reducible repeat (first | apply Kd.R_alloc | apply Kd.R_drewN | apply Kd.R_drew)); exact HO1539.out, by repeat (first | (with_reducible first | exact HB.out | apply below_alloc | apply pw_below_drewN | apply below_drew1 | refine below_set ?_ (IsS95.ge HI1536.out)) | exact HB.out)⟩

/-! ### laws_r8At: function 75 -/
def laws_r8At.f (l0 : List Int) (a1 : Int) (a2 : Int) : Option (Int) := if a2 ≤ 1 then (some 0) else (if a1 ≥ (l0.length : Int) then (some 0) else (if 0 ≤ a1 then (if a1 < (l0.length : Int) then (if a2 = 0 then (none) else (some (Int.tmod (wrap64 (rd l0 a1)) a2))) else (none)) else (none)))
set_option maxHeartbeats 8000000 in
set_option maxRecDepth 100000 in
theorem laws_r8At.calls (A0 : Option Addr) (c0 : Nat) (l0 : List Int) (a1 : Int) (a2 : Int) (r : Int) (w : World) (hr0 : Kd.C (Kd.int .u8) w A0 l0.length l0) (hc0 : l0.length ≤ c0) (h : laws_r8At.f l0 a1 a2 = some r) :
  Calls Try.prog 75 #[.slice A0 l0.length c0, .int .i64 a1, .int .i64 a2] w fun e w' => e = .returned (.int .i64 r) ∧ Drawn0 w w' := by
 have HR0 := Aside0.mk hr0
 have HC0 := Aside0.mk hc0
 clear hr0 hc0
 have H : (if a2 ≤ 1 then (some 0) else (if a1 ≥ (l0.length : Int) then (some 0) else (if 0 ≤ a1 then (if a1 < (l0.length : Int) then (if a2 = 0 then (none) else (some (Int.tmod (wrap64 (rd l0 a1)) a2))) else (none)) else (none)))) = some r := h
 clear h
 by_cases c4 : a2 ≤ 1
 ·rw [if_pos c4] at H
  have c4b0 : decide (a2 ≤ 1) = true := decide_eq_true c4
  clear c4
  obtain rfl := Option.some.inj H
  go_enter Try.func75, Try.ntmps75
  go_wp2
  go_ret
  exact ⟨by first | rfl | (simp; done) | (simp [*]; done), by repeat (first | exact Drawn0.refl _ | apply Drawn0.step)⟩
 rw [if_neg c4] at H
 have c4b0 : decide (a2 ≤ 1) = false := decide_eq_false c4
 clear c4
 by_cases c5 : a1 ≥ (l0.length : Int)
 ·rw [if_pos c5] at H
  have c5b0 : decide ((l0.length : Int) ≤ a1) = true := decide_eq_true c5
  clear c5
  obtain rfl := Option.some.inj H
  go_enter Try.func75, Try.ntmps75
  go_wp2
  go_ret
  exact ⟨by first | rfl | (simp; done) | (simp [*]; done), by repeat (first | exact Drawn0.refl _ | apply Drawn0.step)⟩
 rw [if_neg c5] at H
 have c5b0 : decide ((l0.length : Int) ≤ a1) = false := decide_eq_false c5
 clear c5
 by_cases c6 : 0 ≤ a1
 rotate_left
 ·rw [if_neg c6] at H
  exact absurd H (by simp)

 rw [if_pos c6] at H
 have c6b0 : decide (0 ≤ a1) = true := decide_eq_true c6
 clear c6
 by_cases c7 : a1 < (l0.length : Int)
 rotate_left
 ·rw [if_neg c7] at H
  exact absurd H (by simp)
 rw [if_pos c7] at H
 have c7b0 : decide (a1 < (l0.length : Int)) = true := decide_eq_true c7
 clear c7
 by_cases c8 : a2 = 0
 ·rw [if_pos c8] at H
  exact absurd H (by simp)
 rw [if_neg c8] at H
 have c8b0 : (a2 == 0) = false := beq_eq_false_iff_ne.mpr c8
 have c8b1 : (a2 != 0) = true := bne_iff_ne.mpr c8
 obtain rfl := Option.some.inj H
 have p1542 : 0 ≤ (a1 : Int) := of_decide_eq_true (by first | (with_reducible assumption) | assumption)
 have q1542 : a1 < (l0.length : Int) := of_decide_eq_true (by first | (with_reducible assumption) | assumption)
 obtain ⟨ad1542, e1542, hx1542_0⟩ := Kd.at_int HR0.out a1 p1542 q1542
 cases e1542
 replace p1542 := eq_true p1542
 replace q1542 := eq_true q1542
 go_enter Try.func75, Try.ntmps75
 go_wp2
 go_ret
 exact ⟨by first | rfl | (simp; done) | (simp [*]; done), by repeat (first | exact Drawn0.refl _ | apply Drawn0.step)⟩

/-! ### laws_r8Same: function 76 -/
def laws_r8Same.l0 : Nat → List Int → List Int → Int → Option (Bool)
 | 0, _, _, _ => none
 | k + 1, x0, x1, x5 => if x5 < (x0.length : Int) then (if 0 ≤ x5 then (if x5 < (x1.length : Int) then (if (rd x0 x5) = (rd x1 x5) then (laws_r8Same.l0 k x0 x1 (wrap64 (x5 + 1))) else (some false)) else (none)) else (none)) else (some true)
def laws_r8Same.f (k : Nat) (l0 : List Int) (l1 : List Int) : Option (Bool) := if (l0.length : Int) = (l1.length : Int) then (laws_r8Same.l0 k l0 l1 0) else (some false)
theorem laws_r8Same.mono_l : ∀ k, (∀ y0 y1 y2, LeO (laws_r8Same.l0 k y0 y1 y2) (laws_r8Same.l0 (k + 1) y0 y1 y2))
 | 0 => fun _ _ _ r h => by simp [laws_r8Same.l0] at h
 | k + 1 => by
  have ih0 := laws_r8Same.mono_l k
  ·intro y0 y1 y2
   unfold laws_r8Same.l0
   repeat' first
   | (with_reducible exact ih0 _ _ _)
   | (with_reducible exact LeO.refl _)
   | (with_reducible exact LeO.none _)
   | (with_reducible refine LeO.ite ?_ ?_)
   | (with_reducible refine LeO.bind ?_ (fun _ => ?_))
   | exact ih0 _ _ _
   | exact LeO.none _
   | refine LeO.ite ?_ ?_
   | refine LeO.bind ?_ (fun _ => ?_)
theorem laws_r8Same.mono : ∀ a0 a1 k, LeO (laws_r8Same.f k a0 a1) (laws_r8Same.f (k + 1) a0 a1) := by
 intro a0 a1 k
 have ih0 := laws_r8Same.mono_l k
 unfold laws_r8Same.f
 repeat' first
   | (with_reducible exact ih0 _ _ _)
   | (with_reducible exact LeO.refl _)
   | (with_reducible exact LeO.none _)
   | (with_reducible refine LeO.ite ?_ ?_)
   | (with_reducible refine LeO.bind ?_ (fun _ => ?_))
   | exact ih0 _ _ _
   | exact LeO.none _
   | refine LeO.ite ?_ ?_
   | refine LeO.bind ?_ (fun _ => ?_)
set_option maxHeartbeats 8000000 in
set_option maxRecDepth 100000 in
theorem laws_r8Same.calls (k : Nat) (A0 : Option Addr) (c0 : Nat) (l0 : List Int) (A1 : Option Addr) (c1 : Nat) (l1 : List Int) (r : Bool) (w : World) (hr0 : Kd.C (Kd.int .i64) w A0 l0.length l0) (hc0 : l0.length ≤ c0) (hr1 : Kd.C (Kd.int .i64) w A1 l1.length l1) (hc1 : l1.length ≤ c1) (h : laws_r8Same.f k l0 l1 = some r) :
  Calls Try.prog 76 #[.slice A0 l0.length c0, .slice A1 l1.length c1] w fun e w' => e = .returned (.bool r) ∧ Drawn0 w w' := by
 have HR0 := Aside0.mk hr0
 have HC0 := Aside0.mk hc0
 clear hr0 hc0
 have HR1 := Aside0.mk hr1
 have HC1 := Aside0.mk hc1
 clear hr1 hc1
 have H : (if (l0.length : Int) = (l1.length : Int) then (laws_r8Same.l0 k l0 l1 0) else (some false)) = some r := h
 clear h
 by_cases c3 : (l0.length : Int) = (l1.length : Int)
 rotate_left
 ·rw [if_neg c3] at H
  have c3b0 : ((l0.length : Int) == (l1.length : Int)) = false := beq_eq_false_iff_ne.mpr c3
  have c3b1 : ((l0.length : Int) != (l1.length : Int)) = true := bne_iff_ne.mpr c3
  have c3b2 : (l0.length == l1.length) = false := by first | simpa using c3 | (simp at c3 ⊢; omega)
  obtain rfl := Option.some.inj H
  go_enter Try.func76, Try.ntmps76
  go_wp2
  repeat (go_quiet (fail); try go_wp2)
  go_ret
  exact ⟨by first | rfl | (simp; done) | (simp [*]; done), by repeat (first | exact Drawn0.refl _ | apply Drawn0.step)⟩

 rw [if_pos c3] at H
 have c3b0 : ((l0.length : Int) == (l1.length : Int)) = true := beq_iff_eq.mpr c3
 have c3b1 : ((l0.length : Int) != (l1.length : Int)) = false := bne_eq_false_iff_eq.mpr c3
 have c3b2 : (l0.length == l1.length) = true := by first | simpa using c3 | (simp at c3 ⊢; omega)
 clear c3
 have H' := Aside0.mk H
 clear H
 go_enter Try.func76, Try.ntmps76
 go_wp2
 repeat (go_quiet (fail); try go_wp2)
 go_loopg [5] k (fun kq v5 w' => ∃ (x5_1 : Int), v5 = .int .i64 x5_1 ∧ Aside0 (laws_r8Same.l0 kq l0 l1 x5_1 = some r) ∧ Aside0 (kq ≤ k) ∧ Drawn0 w w')
 case atStart => exact ⟨(0), (by first | rfl | (simp; done) | (simp [*]; done)), H', ⟨Nat.le_refl _⟩, by repeat (first | exact Drawn0.refl _ | apply Drawn0.step)⟩
 case round =>
  clear H'
  try clear c1
  try clear p2
  try clear c3
  try clear c3b0
  try clear c3b1
  try clear c3b2
  obtain ⟨x5_1, rfl, HA, HK1, ⟨m1, rfl⟩⟩ := hrel
  cases gk with
  | zero => exact absurd HA.out (by simp [laws_r8Same.l0])
  | succ k1 =>
   have H := HA.out
   clear HA
   simp only [laws_r8Same.l0] at H
   by_cases c4 : x5_1 < (l0.length : Int)
   rotate_left
   ·rw [if_neg c4] at H
    have c4b0 : decide (x5_1 < (l0.length : Int)) = false := decide_eq_false c4
    clear c4
    obtain rfl := Option.some.inj H
    go_wp2
    repeat (go_quiet (fail); try go_wp2)
    go_ret
    exact ⟨by first | rfl | (simp; done) | (simp [*]; done), by repeat (first | exact Drawn0.refl _ | apply Drawn0.step)⟩
   rw [if_pos c4] at H
   have c4b0 : decide (x5_1 < (l0.length : Int)) = true := decide_eq_true c4
   clear c4
   by_cases c5 : 0 ≤ x5_1
   rotate_left
   ·rw [if_neg c5] at H
    exact absurd H (by simp)
   rw [if_pos c5] at H
   have c5b0 : decide (0 ≤ x5_1) = true := decide_eq_true c5
   clear c5
   by_cases c6 : x5_1 < (l1.length : Int)
   rotate_left
   ·rw [if_neg c6] at H
    exact absurd H (by simp)
   rw [if_pos c6] at H
   have c6b0 : decide (x5_1 < (l1.length : Int)) = true := decide_eq_true c6
   clear c6
   by_cases c7 : (rd l0 x5_1) = (rd l1 x5_1)
   ·rw [if_pos c7] at H
    have c7b0 : ((rd l0 x5_1) == (rd l1 x5_1)) = true := beq_iff_eq.mpr c7
    have c7b1 : ((rd l0 x5_1) != (rd l1 x5_1)) = false := bne_eq_false_iff_eq.mpr c7
    clear c7
    have H' := Aside0.mk H
    clear H
    have p1543 : 0 ≤ (x5_1 : Int) := of_decide_eq_true (by first | (with_reducible assumption) | assumption)
    have q1543 : x5_1 < (l0.length : Int) := of_decide_eq_true (by first | (with_reducible assumption) | assumption)
    obtain ⟨ad1543, e1543, hx1543_0⟩ := Kd.at_int HR0.out x5_1 p1543 q1543
    cases e1543
    replace p1543 := eq_true p1543
    replace q1543 := eq_true q1543
    have p1544 : 0 ≤ (x5_1 : Int) := of_decide_eq_true (by first | (with_reducible assumption) | assumption)
    have q1544 : x5_1 < (l1.length : Int) := of_decide_eq_true (by first | (with_reducible assumption) | assumption)
    obtain ⟨ad1544, e1544, hx1544_0⟩ := Kd.at_int HR1.out x5_1 p1544 q1544
    cases e1544
    replace p1544 := eq_true p1544
    replace q1544 := eq_true q1544
    go_wp2
    repeat (go_quiet (fail); try go_wp2)
    go_roundg k1
    case measure => have := HK1.out; omega
    case rel => exact ⟨(wrap64 (x5_1 + 1)), (by first | rfl | (simp; done) | (simp [*]; done)), H', ⟨by have := HK1.out; omega⟩, by repeat (first | exact Drawn0.refl _ | apply Drawn0.step)⟩
   ·rw [if_neg c7] at H
    have c7b0 : ((rd l0 x5_1) == (rd l1 x5_1)) = false := beq_eq_false_iff_ne.mpr c7
    have c7b1 : ((rd l0 x5_1) != (rd l1 x5_1)) = true := bne_iff_ne.mpr c7
    obtain rfl := Option.some.inj H
    have p1543 : 0 ≤ (x5_1 : Int) := of_decide_eq_true (by first | (with_reducible assumption) | assumption)
    have q1543 : x5_1 < (l0.length : Int) := of_decide_eq_true (by first | (with_reducible assumption) | assumption)
    obtain ⟨ad1543, e1543, hx1543_0⟩ := Kd.at_int HR0.out x5_1 p1543 q1543
    cases e1543
    replace p1543 := eq_true p1543
    replace q1543 := eq_true q1543
    have p1544 : 0 ≤ (x5_1 : Int) := of_decide_eq_true (by first | (with_reducible assumption) | assumption)
    have q1544 : x5_1 < (l1.length : Int) := of_decide_eq_true (by first | (with_reducible assumption) | assumption)
    obtain ⟨ad1544, e1544, hx1544_0⟩ := Kd.at_int HR1.out x5_1 p1544 q1544
    cases e1544
    replace p1544 := eq_true p1544
    replace q1544 := eq_true q1544
    go_wp2
    repeat (go_quiet (fail); try go_wp2)
    go_ret
    exact ⟨by first | rfl | (simp; done) | (simp [*]; done), by repeat (first | exact Drawn0.refl _ | apply Drawn0.step)⟩

/-! ### impl_SlideLanes: function 44 -/
/-- A window of memory of the call's own: where it lies, and what it reads. -/
def Wn (w : World) (base : Nat) (v : Value) (xs : List Int) : Prop := (∀ k, v.ownBlock = some k → base ≤ k) ∧ Kd.V (Kd.int .i64) 2 w base (fun k => base ≤ k) v xs
theorem Wn.nil (w : World) (base : Nat) : Wn w base (.slice none 0 0) [] := ⟨fun k hk => by simp [Value.ownBlock] at hk, Kd.V_nil _ _ _ _ _⟩
theorem Wn.below {w w1 : World} {b : Nat} {v : Value} {xs : List Int} (h : Wn w b v xs) (hb : Below w.heap.size w w1) : Wn w1 b v xs := ⟨h.1, Kd.V_below h.2 hb⟩
theorem Wn.alloc {w : World} {b : Nat} {v : Value} {xs : List Int} (h : Wn w b v xs) (o : Obj) : Wn (w.alloc o) b v xs := ⟨h.1, Kd.V_alloc h.2 o⟩
theorem Wn.drewN {w : World} {b : Nat} {v : Value} {xs : List Int} (h : Wn w b v xs) (m : Nat) : Wn (w.drewN m) b v xs := ⟨h.1, Kd.V_drewN h.2 m⟩
theorem Wn.drew {w : World} {b : Nat} {v : Value} {xs : List Int} (h : Wn w b v xs) : Wn w.drew b v xs := ⟨h.1, Kd.V_drew h.2⟩
theorem Wn.lower {w : World} {b b' : Nat} {v : Value} {xs : List Int} (h : Wn w b v xs) (hb : b' ≤ b) : Wn w b' v xs := ⟨fun k hk => Nat.le_trans hb (h.1 k hk), Kd.V_mono (Kd.V_lower h.2 hb) (fun k hk => Nat.le_trans hb hk)⟩
theorem Wn.slice {w : World} {b : Nat} {v : Value} {xs : List Int} (h : Wn w b v xs) : ∃ A c, v = .slice A xs.length c := Kd.V_slice h.2
/-- A window of a row of the call's own: the row lies whole, the value leads to some of it. -/
def Win (u : Value) (all : List Int) (v : Value) (xs : List Int) (o : Nat) : Prop :=
 (o = 0 ∨ 0 < xs.length) ∧ o + xs.length ≤ all.length ∧ xs = (all.drop o).take xs.length ∧ v.ownBlock = u.ownBlock ∧ ∃ (A : Option Addr) (c c' : Nat), u = .slice A all.length c ∧ v = .slice (A.map (·.add o)) xs.length c' ∧ xs.length ≤ c'
def Ow (w : World) (base : Nat) (ok : Nat → Prop) (v : Value) (xs : List Int) : Prop := ∃ (u : Value) (all : List Int) (o : Nat), Kd.R (Kd.int .i64) 2 w base ok u all ∧ Win u all v xs o
section
variable {w W w1 : World} {b base base' : Nat} {ok ok' : Nat → Prop} {u v : Value} {xs : List Int}
theorem map_add0 (A : Option Addr) : A.map (·.add 0) = A := by
 cases A with
 | none => rfl
 | some a => show some (a.add 0) = some a; unfold Addr.add; rw [if_pos rfl]
theorem Ow.of (h : Kd.R (Kd.int .i64) 2 w base ok v xs) : Ow w base ok v xs := by
 obtain ⟨A, c, rfl, hc, _⟩ := Kd.R_reads h
 exact ⟨_, _, 0, h, .inl rfl, by omega, by simp, rfl, A, c, c, rfl, by rw [map_add0], hc⟩
theorem Ow.alloc (h : Ow w base ok v xs) (o : Obj) : Ow (w.alloc o) base ok v xs := by
 obtain ⟨u, all, i, hr, hw⟩ := h; exact ⟨u, all, i, Kd.R_alloc hr o, hw⟩
theorem Ow.drewN (h : Ow w base ok v xs) (m : Nat) : Ow (w.drewN m) base ok v xs := by
 obtain ⟨u, all, i, hr, hw⟩ := h; exact ⟨u, all, i, Kd.R_drewN hr m, hw⟩
theorem Ow.drew (h : Ow w base ok v xs) : Ow w.drew base ok v xs := by
 obtain ⟨u, all, i, hr, hw⟩ := h; exact ⟨u, all, i, Kd.R_drew hr, hw⟩
theorem Ow.mono (h : Ow w base ok v xs) (hok : ∀ k, ok k → ok' k) : Ow w base ok' v xs := by
 obtain ⟨u, all, i, hr, hw⟩ := h; exact ⟨u, all, i, Kd.R_mono hr hok, hw⟩
theorem Ow.lower (h : Ow w base ok v xs) (hb : base' ≤ base) : Ow w base' ok v xs := by
 obtain ⟨u, all, i, hr, hw⟩ := h; exact ⟨u, all, i, Kd.R_lower hr hb, hw⟩
theorem Ow.bas (h : Ow w base ok v xs) : ∀ k, v.ownBlock = some k → base ≤ k := by
 obtain ⟨u, all, i, hr, hw⟩ := h; exact fun k hk => Kd.R_base hr k (hw.2.2.2.1.symm.trans hk)
theorem Ow.lt (h : Ow w base ok v xs) : ∀ k, v.ownBlock = some k → k < w.heap.size := by
 obtain ⟨u, all, i, hr, hw⟩ := h; exact fun k hk => Kd.R_lt hr k (hw.2.2.2.1.symm.trans hk)
theorem Ow.ok1 (h : Ow w base ok v xs) : ∀ k, v.ownBlock = some k → ok k := by
 obtain ⟨u, all, i, hr, hw⟩ := h; exact fun k hk => hr.1 k (hw.2.2.2.1.symm.trans hk)
theorem Ow.elder' (h : Ow W base ok v xs) (hbase : ∀ k, u.ownBlock = some k → W.heap.size ≤ k) (hb : Below W.heap.size W w1) : Ow w1 base (fun k => ok k ∧ some k ≠ u.ownBlock) v xs := by
 obtain ⟨u', all, i, hr, hw⟩ := h; exact ⟨u', all, i, Kd.R_elder' hr hbase hb, hw⟩
theorem Ow.new' (h : Ow w1 W.heap.size ok v xs) (hlt : ∀ k, u.ownBlock = some k → k < W.heap.size) : Ow w1 W.heap.size (fun k => ok k ∧ some k ≠ u.ownBlock) v xs := by
 obtain ⟨u', all, i, hr, hw⟩ := h; exact ⟨u', all, i, Kd.R_new' hr hlt, hw⟩
theorem Ow.keptB {S : Nat → Prop} (h : Ow W base ok v xs) (hk : Kept W w1 S) (hne : ∀ k, ok k → ¬ S k) : Ow w1 base (fun k => ok k ∧ (¬ S k ∧ k < W.heap.size)) v xs := by
 obtain ⟨u', all, i, hr, hw⟩ := h; exact ⟨u', all, i, Kd.R_keptB hr hk hne, hw⟩
theorem Ow.reok (h : Ow w base ok v xs) (hok : ∀ k, v.ownBlock = some k → ok' k) : Ow w base ok' v xs := by
 obtain ⟨u', all, i, hr, hw⟩ := h; exact ⟨u', all, i, Kd.R_reok rfl hr (fun k hk => hok k (hw.2.2.2.1.trans hk)), hw⟩
theorem Ow.tight (h : Ow w base ok v xs) : Ow w base (fun k => some k = v.ownBlock) v xs := Ow.reok h (fun k hk => hk.symm)
theorem Ow.slice (h : Ow w base ok v xs) : ∃ A c, v = .slice A xs.length c := by
 obtain ⟨u', all, i, hr, _, _, _, _, A, c, c', _, hv, _⟩ := h; exact ⟨_, _, hv⟩
theorem Ow.V (h : Ow w base ok v xs) : Kd.V (Kd.int .i64) 2 w base' ok v xs := by
 obtain ⟨u', all, i, hr, h0, hl, hx, _, A, c, c', rfl, rfl, hc'⟩ := h
 have hV := Kd.R_V (base' := base) hr
 obtain ⟨_, hc, hf⟩ := Kd.V_at hV
 have hf2 : Kd.F (Kd.int .i64) w ok (A.map (·.add i)) ((all.drop i).take xs.length).length ((all.drop i).take xs.length) := by
  rcases h0 with rfl | h0
  ·rw [map_add0, List.drop_zero]
   exact Kd.F_take hf (by omega)
  ·have h2 := Kd.F_take (m := xs.length) (Kd.F_cut (m := i) hf (by omega) hc) (by rw [List.length_drop]; omega)
   rw [if_neg (by omega)] at h2
   simp only [show (Kd.int .i64).sz = 1 from rfl, Nat.mul_one] at h2
   exact h2
 rw [← hx] at hf2
 exact Kd.V_mk hc' hf2
theorem Ow.reads' {A : Option Addr} {n c : Nat} (h : Ow w base ok (.slice A n c) xs) : n = xs.length ∧ n ≤ c ∧ Kd.C (Kd.int .i64) w A xs.length xs := Kd.V_reads' (e := 2) (base := base) (Ow.V h)
end
theorem add_o (g o : Nat) : (⟨g, 0, none⟩ : Addr).add o = ⟨g, o, none⟩ := by
 unfold Addr.add
 split
 ·rename_i h; rw [h]
 ·simp
theorem win_set (al : List Int) (o n j : Nat) (x : Int) (hj : j < n) : ((al.drop o).take n).set j x = ((al.set (o + j) x).drop o).take n := by
 rw [List.drop_set, if_neg (by omega), Nat.add_sub_cancel_left, List.take_set]
set_option maxHeartbeats 8000000 in
set_option maxRecDepth 100000 in
theorem mark_ow (k : Nat) (P0_ : Nat → Prop) (u9000_ : Value) (l0 : List Int) (a1 : Int) (r1 : Int) (r2 : List Int) (w0 w : World) (hB : Below w0.heap.size w0 w) (ho0 : Ow w w0.heap.size P0_ u9000_ l0) (h : laws_markInt64S.f k l0 a1 = some (r1, r2)) :
  Calls Try.prog 35 #[u9000_, .int .i64 a1] w fun e w' => e = .returned (.int .i64 r1) ∧ Ow w' w0.heap.size (fun k_ => (P0_ k_ ∨ w.heap.size ≤ k_)) u9000_ r2 ∧ Below w0.heap.size w0 w' ∧ Kept w w' (fun k_ => P0_ k_) := by
 obtain ⟨u, all, o, hr, h0, hl, hx, hob, A, c, c', rfl, rfl, hc'⟩ := ho0
 have H' : Aside0 (laws_markInt64S.l0 k l0 a1 0 = some (r1, r2)) := ⟨h⟩
 have HK := Aside0.mk (Kept.refl w (fun k_ => P0_ k_))
 have HB := Aside0.mk hB
 clear h hB
 by_cases hn : 0 < l0.length
 ·obtain ⟨g, cap, hvv, gb, gl, cl, hg⟩ := Kd.R_form hr (by omega)
  injection hvv with ea _ ec
  subst ea
  have HO : Aside0 (Kd.R (Kd.int .i64) 2 w w0.heap.size (fun k_ => (P0_ k_ ∨ w.heap.size ≤ k_)) (.slice (some ⟨g, 0, none⟩) all.length c) all) := ⟨Kd.R_mono hr (fun k_ hk => .inl hk)⟩
  have HP : Aside0 (P0_ g) := ⟨hr.1 g rfl⟩
  have HL : Aside0 (o + l0.length ≤ all.length ∧ l0.length ≤ c') := ⟨hl, hc'⟩
  have HX := Aside0.mk hx
  have HN := Aside0.mk hn
  obtain ⟨n, hnn⟩ : ∃ n, n = l0.length := ⟨_, rfl⟩
  have HNN := Aside0.mk hnn
  show Calls _ _ #[.slice (some ((⟨g, 0, none⟩ : Addr).add o)) l0.length c', _] _ _
  rw [add_o, ← hnn]
  have GB : Aside0 (w0.heap.size ≤ g) := ⟨gb⟩
  clear hr hl hx hob hc' hn hnn gb gl hg h0 ec
  go_enter Try.func35, Try.ntmps35
  go_wp2
  go_loopg [1, 5] k (fun kq v1 v5 w' => ∃ (x0 al : List Int) (x1 x5 : Int), v1 = .int .i64 x1 ∧ v5 = .int .i64 x5 ∧ Aside0 (laws_markInt64S.l0 kq x0 x1 x5 = some (r1, r2)) ∧ Aside0 (kq ≤ k) ∧ Aside0 (x0.length = n ∧ al.length = all.length ∧ x0 = (al.drop o).take n) ∧ Aside0 (Kd.R (Kd.int .i64) 2 w' w0.heap.size (fun k_ => (P0_ k_ ∨ w.heap.size ≤ k_)) (.slice (some ⟨g, 0, none⟩) al.length c) al) ∧ Aside0 (Kept w w' (fun k_ => P0_ k_)) ∧ Aside0 (Below w0.heap.size w0 w'))
  case atStart => exact ⟨l0, all, a1, 0, rfl, rfl, H', ⟨Nat.le_refl _⟩, ⟨HNN.out.symm, rfl, by rw [HNN.out]; exact HX.out⟩, ⟨by (with_reducible repeat (first | apply Kd.R_alloc | apply Kd.R_drewN | apply Kd.R_drew)); exact HO.out⟩, ⟨by repeat (first | (with_reducible first | exact HK.out | apply Kept.alloc | apply Kept.drewN | apply Kept.drew) | exact HK.out)⟩, ⟨by repeat (first | exact HB.out | apply below_alloc | apply pw_below_drewN | apply below_drew1)⟩⟩
  case round =>
   clear H' HO HK HB
   obtain ⟨x0, al, x1, x5, rfl, rfl, HA, HK1, HQ, HO, HK, HB⟩ := hrel
   cases gk with
   | zero => exact absurd HA.out (by simp [laws_markInt64S.l0])
   | succ k1 =>
    have H := HA.out
    clear HA
    simp only [laws_markInt64S.l0] at H
    have q0 := HQ.out
    by_cases c3 : x5 < (x0.length : Int)
    rotate_left
    ·rw [if_neg c3] at H
     have c3b0 : decide (x5 < (n : Int)) = false := decide_eq_false (by omega)
     simp only [Option.some.injEq, Prod.mk.injEq] at H
     obtain ⟨rfl, rfl⟩ := H
     clear c3 q0
     go_wp2
     go_ret
     refine ⟨rfl, ⟨_, al, o, HO.out, .inr (by have := HQ.out; have := HN.out; have := HNN.out; omega), by have := HQ.out; have := HL.out; have := HNN.out; omega, by have := HQ.out; rw [this.1]; exact this.2.2, by show some ((⟨g, 0, none⟩ : Addr).add o).block = some g; rw [add_o], some ⟨g, 0, none⟩, c, c', rfl, ?_, by have := HQ.out; have := HL.out; have := HNN.out; omega⟩, by repeat (first | exact HB.out | apply below_alloc | apply pw_below_drewN | apply below_drew1), by repeat (first | exact HK.out | apply Kept.alloc | apply Kept.drewN | apply Kept.drew)⟩
     rw [HQ.out.1]
    rw [if_pos c3] at H
    by_cases c4 : 0 ≤ x5
    rotate_left
    ·rw [if_neg c4] at H
     exact absurd H (by simp)
    rw [if_pos c4] at H
    obtain ⟨j, rfl⟩ : ∃ j : Nat, x5 = j := ⟨x5.toNat, by omega⟩
    rw [Int.toNat_natCast] at H
    have hj : j < n := by omega
    have c3b0 : decide ((j : Int) < (n : Int)) = true := decide_eq_true (by omega)
    have c3b1 : decide (j < n) = true := decide_eq_true hj
    have q7 : (j < n) = True := eq_true hj
    have q8 : ((j : Int) < (n : Int)) = True := eq_true (by omega)
    have q9 : (0 ≤ (j : Int)) = True := eq_true c4
    have c4b0 : decide (0 ≤ (j : Int)) = true := decide_eq_true c4
    have hLL := HL.out
    have hNN := HNN.out
    have p5 : 0 ≤ ((o + j : Nat) : Int) := by omega
    have q5 : ((o + j : Nat) : Int) < (al.length : Int) := by omega
    obtain ⟨hx5, hf5⟩ := Kd.R_celln 0 HO.out ((o + j : Nat) : Int) p5 q5
    have HP7 := Kd.R_putg HO.out ((o + j : Nat) : Int) x1
    rw [Int.toNat_natCast] at HP7
    have H2 := Aside0.mk H
    have HJ := Aside0.mk hj
    clear H c3 c4 q0 hj hLL hNN
    rw [Int.toNat_natCast] at hx5 hf5
    go_wp2_with (first | ((with_reducible refine gate_store (t := 2) (p := 15) rfl ?_); refine store_event (t := 2) (p := 15) (v := ?vo_w8) (w1 := (wr.setCell ⟨g, o + j, none⟩ (.int .i64 x1))) ?hg ?ho ?hn ?hr ?_; (case ho => rfl); (case hg => rfl); (case hn => rfl); (case hr => first | (go_simp; done) | (go_simp; rfl)); intro w8 hw; have hg : wr.grownBy w8 (some g) := (by rw [hw]; exact HP7.2); have hp_ : Kd.R (Kd.int .i64) 2 w8 w0.heap.size (fun k_ => (P0_ k_ ∨ w.heap.size ≤ k_)) (.slice (some ⟨g, 0, none⟩) al.length c) (al.set (o + j) x1) := (by rw [hw]; exact HP7.1); clear HP7; have n0_ := Aside0.mk hp_; have n1_ := Aside0.mk ((by rw [hw]; exact below_set HB.out GB.out : Below w0.heap.size w0 w8)); have n2_ := Aside0.mk (Kept.of_grown (S := (fun k_ => P0_ k_)) hg HK.out (fun k_ e_ => (HO.out.1 k_ e_))); clear HO; clear HB; clear HK; have HO := n0_; have HB := n1_; have HK := n2_; clear n0_ n1_ n2_; clear hg hw hp_))
    go_roundg k1
    case measure => have := HK1.out; omega
    case rel => exact ⟨x0.set j x1, al.set (o + j) x1, wrap64 (x1 + 1), wrap64 ((j : Int) + 1), (by first | rfl | (simp; done) | (simp [*]; done)), (by first | rfl | (simp; done) | (simp [*]; done)), H2, ⟨by have := HK1.out; omega⟩, ⟨by rw [List.length_set]; exact HQ.out.1, by rw [List.length_set]; exact HQ.out.2.1, by rw [HQ.out.2.2, win_set _ _ _ _ _ HJ.out]⟩, ⟨by rw [List.length_set]; (with_reducible repeat (first | apply Kd.R_alloc | apply Kd.R_drewN | apply Kd.R_drew)); exact HO.out⟩, ⟨by repeat (first | exact HK.out | apply Kept.alloc | apply Kept.drewN | apply Kept.drew)⟩, ⟨by repeat (first | exact HB.out | apply below_alloc | apply pw_below_drewN | apply below_drew1)⟩⟩
 ·have hl0 : l0 = [] := List.eq_nil_of_length_eq_zero (by omega)
  subst hl0
  have hkk : r1 = a1 ∧ r2 = [] := by
   have h := H'.out
   cases k with
   | zero => exact absurd h (by simp [laws_markInt64S.l0])
   | succ k =>
    simp only [laws_markInt64S.l0] at h
    rw [if_neg (by simp)] at h
    have := Option.some.inj h
    exact ⟨(Prod.mk.inj this).1.symm, (Prod.mk.inj this).2.symm⟩
  obtain ⟨rfl, rfl⟩ := hkk
  have HO : Aside0 (Ow w w0.heap.size (fun k_ => (P0_ k_ ∨ w.heap.size ≤ k_)) (.slice (A.map (·.add o)) ([] : List Int).length c') []) := ⟨Ow.mono ⟨_, all, o, hr, h0, hl, hx, hob, A, c, c', rfl, rfl, hc'⟩ (fun k_ hk => .inl hk)⟩
  clear hr h0 hl hx hob H' hn
  generalize A.map (·.add o) = AA at *
  go_enter Try.func35, Try.ntmps35
  go_wp2
  go_loopg [1, 5] 0 (fun kq v1 v5 w' => v1 = .int .i64 r1 ∧ v5 = .int .i64 0 ∧ Aside0 (Ow w' w0.heap.size (fun k_ => (P0_ k_ ∨ w.heap.size ≤ k_)) (.slice AA ([] : List Int).length c') []) ∧ Aside0 (Kept w w' (fun k_ => P0_ k_)) ∧ Aside0 (Below w0.heap.size w0 w'))
  case atStart => exact ⟨rfl, rfl, ⟨by (with_reducible repeat (first | apply Ow.alloc | apply Ow.drewN | apply Ow.drew)); exact HO.out⟩, ⟨by repeat (first | exact HK.out | apply Kept.alloc | apply Kept.drewN | apply Kept.drew)⟩, ⟨by repeat (first | exact HB.out | apply below_alloc | apply pw_below_drewN | apply below_drew1)⟩⟩
  case round =>
   clear HO HK HB
   obtain ⟨rfl, rfl, HO, HK, HB⟩ := hrel
   go_wp2
   go_ret
   exact ⟨rfl, by (with_reducible repeat (first | apply Ow.alloc | apply Ow.drewN | apply Ow.drew)); exact HO.out, by repeat (first | exact HB.out | apply below_alloc | apply pw_below_drewN | apply below_drew1), by repeat (first | exact HK.out | apply Kept.alloc | apply Kept.drewN | apply Kept.drew)⟩
def SlOk (b : Int) (l m : List Int) (n : Int) : Prop := vecs b [l, m] = true ∧ 0 ≤ n ∧ n ≤ (l.length : Int)
instance (b : Int) (l m : List Int) (n : Int) : Decidable (SlOk b l m n) := inferInstanceAs (Decidable (_ ∧ _ ∧ _))
def impl_SlideLanes.f (_k : Nat) (a0 : Int) (l1 : List Int) (l2 : List Int) (a3 : Int) : Option (List Int × Bool) := some (if SlOk a0 l1 l2 a3 then (((l1 ++ l2).drop a3.toNat).take l1.length, true) else ([], false))
theorem impl_SlideLanes.mono : ∀ a0 a1 a2 a3 k, LeO (impl_SlideLanes.f k a0 a1 a2 a3) (impl_SlideLanes.f (k + 1) a0 a1 a2 a3) := fun _ _ _ _ _ => LeO.refl _
theorem impl_SlideLanes.ok {b : Int} {l m : List Int} (h : vecs b [l, m] = true) : l.length = m.length ∧ 2 ≤ l.length ∧ l.length ≤ 16 := by
 have h : ((vec b l && ((l.length : Int) == (l.length : Int))) && ((vec b m && ((m.length : Int) == (l.length : Int))) && true)) = true := h
 simp only [Bool.and_eq_true, beq_iff_eq, Bool.and_true] at h
 have := lanes_le (vec_iff.mp h.1.1).2.1
 omega
set_option maxHeartbeats 16000000 in
set_option maxRecDepth 100000 in
theorem impl_SlideLanes.win (k : Nat) (a0 : Int) (P1_ : Nat → Prop) (A1 : Option Addr) (c1 : Nat) (l1 : List Int) (P2_ : Nat → Prop) (A2 : Option Addr) (c2 : Nat) (l2 : List Int) (a3 : Int) (r1 : List Int) (r2 : Bool) (w : World) (hs1 : Kd.V (Kd.int .i64) 2 w w.heap.size (fun k_ => P1_ k_) (.slice A1 l1.length c1) l1) (hs2 : Kd.V (Kd.int .i64) 2 w w.heap.size (fun k_ => P2_ k_) (.slice A2 l2.length c2) l2) (h : impl_SlideLanes.f k a0 l1 l2 a3 = some (r1, r2)) :
  Calls Try.prog 44 #[.int .i64 a0, .slice A1 l1.length c1, .slice A2 l2.length c2, .int .i64 a3] w fun e w' => ∃ v0_ : Value, e = .returned (.tuple #[v0_, .bool r2]) ∧ Ow w' w.heap.size (fun k_ => w.heap.size ≤ k_) v0_ r1 ∧ Below w.heap.size w w' := by
 have hv := Option.some.inj h
 clear h
 have HC1 := Aside0.mk (Kd.V_reads' hs1).2.1
 have HC2 := Aside0.mk (Kd.V_reads' hs2).2.1
 have HO1 := Aside0.mk (show Kd.V (Kd.int .i64) 2 w w.heap.size (fun k_ => ((P1_ k_ ∨ P2_ k_) ∨ w.heap.size ≤ k_)) (.slice A1 l1.length c1) l1 from Kd.V_mono hs1 (fun k_ hk => .inl (.inl hk)))
 have HO2 := Aside0.mk (show Kd.V (Kd.int .i64) 2 w w.heap.size (fun k_ => ((P1_ k_ ∨ P2_ k_) ∨ w.heap.size ≤ k_)) (.slice A2 l2.length c2) l2 from Kd.V_mono hs2 (fun k_ hk => .inl (.inr hk)))
 have HB := Aside0.mk (Below.refl w.heap.size w)
 obtain ⟨y, hy⟩ : ∃ y : List (List Int), y = [l1, l2] := ⟨_, rfl⟩
 have Ny := Aside0.mk hy
 have HR1 := Aside0.mk (Kd.V_reads' hs1).2.2
 by_cases q : SlOk a0 l1 l2 a3
 ·rw [if_pos q] at hv
  obtain ⟨rfl, rfl⟩ := Prod.mk.inj hv
  clear hv
  obtain ⟨qv, m0, m2⟩ := q
  obtain ⟨he, h2, h16⟩ := impl_SlideLanes.ok qv
  have HV : Aside0 (impl_areVectors.f 0 a0 y = some true) := ⟨by rw [hy]; unfold impl_areVectors.f; rw [qv]⟩
  have HW : Aside0 (impl_within.f a3 0 (l1.length : Int) = some true) := ⟨by unfold impl_within.f; rw [if_pos m0, decide_eq_true m2]⟩
  have hfl : y.flatten = l1 ++ l2 := by rw [hy]; simp
  obtain ⟨z, hz⟩ : ∃ z : List Int, z = l1 ++ l2 := ⟨_, rfl⟩
  have hzl : z.length = 2 * l1.length := by rw [hz, List.length_append]; omega
  have HFz : Aside0 (y.flatten = z) := ⟨by rw [hfl, hz]⟩
  have HF1 : Aside0 (0 < y.flatten.length) := ⟨by rw [HFz.out]; omega⟩
  have HF2 : Aside0 (y.flatten.length < 1048576) := ⟨by rw [HFz.out]; omega⟩
  have HF3 : Aside0 (y.length < 1048576) := ⟨by rw [hy]; simp⟩
  obtain ⟨n, rfl⟩ : ∃ n : Nat, a3 = n := ⟨a3.toNat, by omega⟩
  rw [Int.toNat_natCast]
  have g1 : decide (0 ≤ (n : Int)) = true := decide_eq_true m0
  have g2 : decide ((n : Int) ≤ (z.length : Int)) = true := decide_eq_true (by omega)
  have g3 : decide (n ≤ z.length) = true := decide_eq_true (by omega)
  have m3 : n ≤ l1.length := by omega
  have HM := Aside0.mk m3
  have H2 := Aside0.mk h2
  have HZL := Aside0.mk hzl
  have HZ2 : Aside0 (z = l1 ++ l2) := ⟨hz⟩
  clear qv hs1 hs2 hy he h2 h16 hfl hz hzl m0 m2 m3
  go_enter Try.func44, Try.ntmps44
  go_wp2_with (first | ((with_reducible refine gate_dst (N := 13) rfl ?_); (try (refine gate_guard (by rfl) ?_; dsimp only)); refine Kd.N_lit (Kd.slice 2 (Kd.int .i64)) _ 22 ?hg (N' := 13) ?hd (xs := ([l1, l2] : List (List Int))) (inner := [.slice A1 l1.length c1, .slice A2 l2.length c2]) (ok := (fun k_ => ((P1_ k_ ∨ P2_ k_) ∨ w.heap.size ≤ k_))) (okp := (fun k_ => ((P1_ k_ ∨ P2_ k_) ∨ w.heap.size ≤ k_))) ?hr ?hp (fun _ hk => hk) ((show ∀ k_, w.heap.size ≤ k_ → (fun k_ => ((P1_ k_ ∨ P2_ k_) ∨ w.heap.size ≤ k_)) k_ from fun k_ hk => .inr hk) _ (below_size (by repeat (first | exact HB.out | exact Below.refl _ _ | apply below_alloc | apply pw_below_drewN | apply below_drew1)))) (Below.refl _ _) (Nat.le_refl _) (by simp) ?_; (case hd => rfl); (case hg => rfl); (case hr => first | (go_simp; done) | (go_simp; rfl)); (case hp => exact (Reps.one (show Kd.FK (Kd.slice 2 (Kd.int .i64)) _ _ l1 [.slice A1 l1.length c1] from (Kd.FK_slice_mk HC1.out (Kd.V_F (Kd.V_mono (ok' := (fun k_ => ((P1_ k_ ∨ P2_ k_) ∨ w.heap.size ≤ k_))) (by (with_reducible repeat (first | apply Kd.V_alloc | apply Kd.V_drewN | apply Kd.V_drew)); exact HO1.out) (fun k_ hk => hk))))) (Reps.one (show Kd.FK (Kd.slice 2 (Kd.int .i64)) _ _ l2 [.slice A2 l2.length c2] from (Kd.FK_slice_mk HC2.out (Kd.V_F (Kd.V_mono (ok' := (fun k_ => ((P1_ k_ ∨ P2_ k_) ∨ w.heap.size ≤ k_))) (by (with_reducible repeat (first | apply Kd.V_alloc | apply Kd.V_drewN | apply Kd.V_drew)); exact HO2.out) (fun k_ hk => hk))))) (Reps.none _ _)))); intro v245 w10 ho11 hb hg_ hnew_; clear hg_ hnew_; (first | rw [← Ny.out] at ho11 | (simp only [Int.reduceToNat] at ho11; rw [← Ny.out] at ho11)); have HY := Aside0.mk ho11; have ho11x := ho11; have HD1 : Aside0 (Kd.V (Kd.int .i64) 2 w10 w.heap.size (fun k_ => ((P1_ k_ ∨ P2_ k_) ∨ w.heap.size ≤ k_)) (.slice A1 l1.length c1) l1) := ⟨Kd.V_mono (Kd.V_elder' (by (with_reducible repeat (first | apply Kd.V_alloc | apply Kd.V_drewN | apply Kd.V_drew)); exact HO1.out) (Kd.N_base ho11x) hb) (fun _ hk => hk.1)⟩; have HD2 : Aside0 (Kd.V (Kd.int .i64) 2 w10 w.heap.size (fun k_ => ((P1_ k_ ∨ P2_ k_) ∨ w.heap.size ≤ k_)) (.slice A2 l2.length c2) l2) := ⟨Kd.V_mono (Kd.V_elder' (by (with_reducible repeat (first | apply Kd.V_alloc | apply Kd.V_drewN | apply Kd.V_drew)); exact HO2.out) (Kd.N_base ho11x) hb) (fun _ hk => hk.1)⟩; have n3_ : Aside0 (Below w.heap.size w w10) := ⟨below_step (by repeat (first | exact HB.out | exact Below.refl _ _ | apply below_alloc | apply pw_below_drewN | apply below_drew1)) hb⟩; (try clear HB); have HB := n3_; clear n3_; clear hb ho11 ho11x; obtain ⟨Ao12, co12, eo12⟩ := Kd.N_slice HY.out; subst eo12) | (go_at_call 106; (with_reducible refine (impl_areVectors.calls 0 a0 _ _ y true _ ?side1 ?side2 HV.out).mono ?_); (case side1 => repeat (first | exact (Kd.N_reads' HY.out).2.2 | (with_reducible refine Kd.C_alloc ?_ _) | (with_reducible refine Kd.C_drewN ?_ _) | (with_reducible refine Kd.C_drew ?_))); (case side2 => exact (Kd.N_reads' HY.out).2.1); rintro e w13 ⟨rfl, hb⟩; have n1_ := Aside0.mk (Kd.V_below (by (with_reducible repeat (first | apply Kd.V_alloc | apply Kd.V_drewN | apply Kd.V_drew)); exact HD1.out) hb); have n2_ := Aside0.mk (Kd.V_below (by (with_reducible repeat (first | apply Kd.V_alloc | apply Kd.V_drewN | apply Kd.V_drew)); exact HD2.out) hb); clear HD1 HD2; have HD1 := n1_; have HD2 := n2_; clear n1_ n2_; have n3_ : Aside0 (Below w.heap.size w w13) := ⟨below_step (by repeat (first | exact HB.out | exact Below.refl _ _ | apply below_alloc | apply pw_below_drewN | apply below_drew1)) hb⟩; clear HB; have HB := n3_; clear n3_; clear hb) | (go_at_call 86; (with_reducible refine (impl_length_int64.calls _ _ l1 _ _ ?l1 HC1.out (show impl_length_int64.f l1 = some (l1.length : Int) from rfl)).mono ?_); (case l1 => exact Kd.C_below HR1.out (by repeat (first | exact HB.out | exact Below.refl _ _ | apply below_alloc | apply pw_below_drewN | apply below_drew1))); rintro e w' ⟨rfl, ⟨nd, rfl⟩⟩) | (go_at_call 107; (with_reducible refine (impl_within.calls _ 0 (l1.length : Int) true _ HW.out).mono ?_); rintro e w' ⟨rfl, ⟨nd, rfl⟩⟩) | ((with_reducible refine gate_dst (N := 25) rfl ?_); (try (refine gate_guard (by rfl) ?_; dsimp only)); refine Kd.N_lit (Kd.slice 2 (Kd.int .i64)) _ 22 ?hg (N' := 25) ?hd (xs := ([l1, l2] : List (List Int))) (inner := [.slice A1 l1.length c1, .slice A2 l2.length c2]) (ok := (fun k_ => ((P1_ k_ ∨ P2_ k_) ∨ w.heap.size ≤ k_))) (okp := (fun k_ => ((P1_ k_ ∨ P2_ k_) ∨ w.heap.size ≤ k_))) ?hr ?hp (fun _ hk => hk) ((show ∀ k_, w.heap.size ≤ k_ → (fun k_ => ((P1_ k_ ∨ P2_ k_) ∨ w.heap.size ≤ k_)) k_ from fun k_ hk => .inr hk) _ (below_size (by repeat (first | exact HB.out | exact Below.refl _ _ | apply below_alloc | apply pw_below_drewN | apply below_drew1)))) (Below.refl _ _) (Nat.le_refl _) (by simp) ?_; (case hd => rfl); (case hg => rfl); (case hr => first | (go_simp; done) | (go_simp; rfl)); (case hp => exact (Reps.one (show Kd.FK (Kd.slice 2 (Kd.int .i64)) _ _ l1 [.slice A1 l1.length c1] from (Kd.FK_slice_mk HC1.out (Kd.V_F (Kd.V_mono (ok' := (fun k_ => ((P1_ k_ ∨ P2_ k_) ∨ w.heap.size ≤ k_))) (by (with_reducible repeat (first | apply Kd.V_alloc | apply Kd.V_drewN | apply Kd.V_drew)); exact HD1.out) (fun k_ hk => hk))))) (Reps.one (show Kd.FK (Kd.slice 2 (Kd.int .i64)) _ _ l2 [.slice A2 l2.length c2] from (Kd.FK_slice_mk HC2.out (Kd.V_F (Kd.V_mono (ok' := (fun k_ => ((P1_ k_ ∨ P2_ k_) ∨ w.heap.size ≤ k_))) (by (with_reducible repeat (first | apply Kd.V_alloc | apply Kd.V_drewN | apply Kd.V_drew)); exact HD2.out) (fun k_ hk => hk))))) (Reps.none _ _)))); intro v246 w20 ho11 hb hg_ hnew_; clear hg_ hnew_; (first | rw [← Ny.out] at ho11 | (simp only [Int.reduceToNat] at ho11; rw [← Ny.out] at ho11)); have HZ := Aside0.mk ho11; have n3_ : Aside0 (Below w.heap.size w w20) := ⟨below_step (by repeat (first | exact HB.out | exact Below.refl _ _ | apply below_alloc | apply pw_below_drewN | apply below_drew1)) hb⟩; (try clear HB); have HB := n3_; clear n3_; clear hb ho11; obtain ⟨Ao22, co22, eo12⟩ := Kd.N_slice HZ.out; subst eo12) | (go_at_call 108; refine (concat_c y _ _ _ ?g1 (Kd.N_reads' HZ.out).2.1 HF1.out HF2.out HF3.out).mono ?_; (case g1 => repeat (first | exact (Kd.N_reads' HZ.out).2.2 | (with_reducible refine Kd.C_alloc ?_ _) | (with_reducible refine Kd.C_drewN ?_ _) | (with_reducible refine Kd.C_drew ?_))); rintro e w2 ⟨v, rfl, ho, hb⟩; rw [HFz.out] at ho; obtain ⟨Av, cv, rfl, hcv, hCv⟩ := Kd.R_reads ho; have hS := below_size (show Below w.heap.size w _ by repeat (first | exact HB.out | exact Below.refl _ _ | apply below_alloc | apply pw_below_drewN | apply below_drew1)); have HRZ : Aside0 (Kd.R (Kd.int .i64) 2 w2 w.heap.size (fun k => w.heap.size ≤ k) (.slice Av z.length cv) z) := ⟨Kd.R_lower (Kd.R_mono (Kd.R_bound ho) (fun k hk => Nat.le_trans hS hk.2.1)) hS⟩; clear hS; have HCV := Aside0.mk hCv; have HB2 : Aside0 (Below w.heap.size w w2) := ⟨below_step (by repeat (first | exact HB.out | exact Below.refl _ _ | apply below_alloc | apply pw_below_drewN | apply below_drew1)) hb⟩; have HS2 : Aside0 (w.heap.size ≤ w2.heap.size) := ⟨below_size HB2.out⟩; clear HB hb ho hCv; have HB := HB2; clear HB2))
  all_goals
   have k1 := HM.out
   have k2 := H2.out
   have k3 := HZL.out
  any_goals (exfalso; omega)
  go_ret2
  have e : ((z.drop n).take l1.length).length = l1.length := by rw [List.length_take, List.length_drop]; omega
  obtain ⟨g, cap, hvv, _⟩ := Kd.R_form HRZ.out (by omega)
  injection hvv with ea _ _
  refine ⟨_, rfl, ⟨_, z, n, HRZ.out, .inr (by rw [← HZ2.out, e]; omega), by rw [← HZ2.out, e]; omega, by rw [← HZ2.out, e], ?_, Av, cv, l1.length, rfl, ?_, by rw [← HZ2.out, e]; omega⟩, by repeat (first | exact HB.out | exact Below.refl _ _ | apply below_alloc | apply pw_below_drewN | apply below_drew1)⟩
  ·subst ea
   show some ((⟨g, 0, none⟩ : Addr).add n).block = some g
   congr 1
   unfold Addr.add
   split <;> rfl
  ·rw [← HZ2.out, e]
   rfl
 ·rw [if_neg q] at hv
  obtain ⟨rfl, rfl⟩ := Prod.mk.inj hv
  clear hv
  by_cases qv : vecs a0 [l1, l2] = true
  rotate_left
  ·have HV : Aside0 (impl_areVectors.f 0 a0 y = some false) := ⟨by rw [hy]; unfold impl_areVectors.f; rw [Bool.eq_false_iff.mpr qv]⟩
   clear q qv hs1 hs2 hy
   go_enter Try.func44, Try.ntmps44
   go_wp2_with (first | ((with_reducible refine gate_dst (N := 13) rfl ?_); (try (refine gate_guard (by rfl) ?_; dsimp only)); refine Kd.N_lit (Kd.slice 2 (Kd.int .i64)) _ 22 ?hg (N' := 13) ?hd (xs := ([l1, l2] : List (List Int))) (inner := [.slice A1 l1.length c1, .slice A2 l2.length c2]) (ok := (fun k_ => ((P1_ k_ ∨ P2_ k_) ∨ w.heap.size ≤ k_))) (okp := (fun k_ => ((P1_ k_ ∨ P2_ k_) ∨ w.heap.size ≤ k_))) ?hr ?hp (fun _ hk => hk) ((show ∀ k_, w.heap.size ≤ k_ → (fun k_ => ((P1_ k_ ∨ P2_ k_) ∨ w.heap.size ≤ k_)) k_ from fun k_ hk => .inr hk) _ (below_size (by repeat (first | exact HB.out | exact Below.refl _ _ | apply below_alloc | apply pw_below_drewN | apply below_drew1)))) (Below.refl _ _) (Nat.le_refl _) (by simp) ?_; (case hd => rfl); (case hg => rfl); (case hr => first | (go_simp; done) | (go_simp; rfl)); (case hp => exact (Reps.one (show Kd.FK (Kd.slice 2 (Kd.int .i64)) _ _ l1 [.slice A1 l1.length c1] from (Kd.FK_slice_mk HC1.out (Kd.V_F (Kd.V_mono (ok' := (fun k_ => ((P1_ k_ ∨ P2_ k_) ∨ w.heap.size ≤ k_))) (by (with_reducible repeat (first | apply Kd.V_alloc | apply Kd.V_drewN | apply Kd.V_drew)); exact HO1.out) (fun k_ hk => hk))))) (Reps.one (show Kd.FK (Kd.slice 2 (Kd.int .i64)) _ _ l2 [.slice A2 l2.length c2] from (Kd.FK_slice_mk HC2.out (Kd.V_F (Kd.V_mono (ok' := (fun k_ => ((P1_ k_ ∨ P2_ k_) ∨ w.heap.size ≤ k_))) (by (with_reducible repeat (first | apply Kd.V_alloc | apply Kd.V_drewN | apply Kd.V_drew)); exact HO2.out) (fun k_ hk => hk))))) (Reps.none _ _)))); intro v245 w10 ho11 hb hg_ hnew_; clear hg_ hnew_; (first | rw [← Ny.out] at ho11 | (simp only [Int.reduceToNat] at ho11; rw [← Ny.out] at ho11)); have HY := Aside0.mk ho11; have ho11x := ho11; have HD1 : Aside0 (Kd.V (Kd.int .i64) 2 w10 w.heap.size (fun k_ => ((P1_ k_ ∨ P2_ k_) ∨ w.heap.size ≤ k_)) (.slice A1 l1.length c1) l1) := ⟨Kd.V_mono (Kd.V_elder' (by (with_reducible repeat (first | apply Kd.V_alloc | apply Kd.V_drewN | apply Kd.V_drew)); exact HO1.out) (Kd.N_base ho11x) hb) (fun _ hk => hk.1)⟩; have HD2 : Aside0 (Kd.V (Kd.int .i64) 2 w10 w.heap.size (fun k_ => ((P1_ k_ ∨ P2_ k_) ∨ w.heap.size ≤ k_)) (.slice A2 l2.length c2) l2) := ⟨Kd.V_mono (Kd.V_elder' (by (with_reducible repeat (first | apply Kd.V_alloc | apply Kd.V_drewN | apply Kd.V_drew)); exact HO2.out) (Kd.N_base ho11x) hb) (fun _ hk => hk.1)⟩; have n3_ : Aside0 (Below w.heap.size w w10) := ⟨below_step (by repeat (first | exact HB.out | exact Below.refl _ _ | apply below_alloc | apply pw_below_drewN | apply below_drew1)) hb⟩; (try clear HB); have HB := n3_; clear n3_; clear hb ho11 ho11x; obtain ⟨Ao12, co12, eo12⟩ := Kd.N_slice HY.out; subst eo12) | (go_at_call 106; (with_reducible refine (impl_areVectors.calls 0 a0 _ _ y false _ ?side1 ?side2 HV.out).mono ?_); (case side1 => repeat (first | exact (Kd.N_reads' HY.out).2.2 | (with_reducible refine Kd.C_alloc ?_ _) | (with_reducible refine Kd.C_drewN ?_ _) | (with_reducible refine Kd.C_drew ?_))); (case side2 => exact (Kd.N_reads' HY.out).2.1); rintro e w13 ⟨rfl, hb⟩; have n1_ := Aside0.mk (Kd.V_below (by (with_reducible repeat (first | apply Kd.V_alloc | apply Kd.V_drewN | apply Kd.V_drew)); exact HD1.out) hb); have n2_ := Aside0.mk (Kd.V_below (by (with_reducible repeat (first | apply Kd.V_alloc | apply Kd.V_drewN | apply Kd.V_drew)); exact HD2.out) hb); clear HD1 HD2; have HD1 := n1_; have HD2 := n2_; clear n1_ n2_; have n3_ : Aside0 (Below w.heap.size w w13) := ⟨below_step (by repeat (first | exact HB.out | exact Below.refl _ _ | apply below_alloc | apply pw_below_drewN | apply below_drew1)) hb⟩; clear HB; have HB := n3_; clear n3_; clear hb))
   go_ret2
   exact ⟨_, rfl, Ow.of (Kd.R_nil _ _ _ _ _), by repeat (first | exact HB.out | exact Below.refl _ _ | apply below_alloc | apply pw_below_drewN | apply below_drew1)⟩
  have HV : Aside0 (impl_areVectors.f 0 a0 y = some true) := ⟨by rw [hy]; unfold impl_areVectors.f; rw [qv]⟩
  have HW : Aside0 (impl_within.f a3 0 (l1.length : Int) = some false) := ⟨by
   unfold impl_within.f
   by_cases m0 : 0 ≤ a3
   ·rw [if_pos m0, decide_eq_false (fun m2 => q ⟨qv, m0, m2⟩)]
   rw [if_neg m0]⟩
  clear q qv hs1 hs2 hy
  go_enter Try.func44, Try.ntmps44
  go_wp2_with (first | ((with_reducible refine gate_dst (N := 13) rfl ?_); (try (refine gate_guard (by rfl) ?_; dsimp only)); refine Kd.N_lit (Kd.slice 2 (Kd.int .i64)) _ 22 ?hg (N' := 13) ?hd (xs := ([l1, l2] : List (List Int))) (inner := [.slice A1 l1.length c1, .slice A2 l2.length c2]) (ok := (fun k_ => ((P1_ k_ ∨ P2_ k_) ∨ w.heap.size ≤ k_))) (okp := (fun k_ => ((P1_ k_ ∨ P2_ k_) ∨ w.heap.size ≤ k_))) ?hr ?hp (fun _ hk => hk) ((show ∀ k_, w.heap.size ≤ k_ → (fun k_ => ((P1_ k_ ∨ P2_ k_) ∨ w.heap.size ≤ k_)) k_ from fun k_ hk => .inr hk) _ (below_size (by repeat (first | exact HB.out | exact Below.refl _ _ | apply below_alloc | apply pw_below_drewN | apply below_drew1)))) (Below.refl _ _) (Nat.le_refl _) (by simp) ?_; (case hd => rfl); (case hg => rfl); (case hr => first | (go_simp; done) | (go_simp; rfl)); (case hp => exact (Reps.one (show Kd.FK (Kd.slice 2 (Kd.int .i64)) _ _ l1 [.slice A1 l1.length c1] from (Kd.FK_slice_mk HC1.out (Kd.V_F (Kd.V_mono (ok' := (fun k_ => ((P1_ k_ ∨ P2_ k_) ∨ w.heap.size ≤ k_))) (by (with_reducible repeat (first | apply Kd.V_alloc | apply Kd.V_drewN | apply Kd.V_drew)); exact HO1.out) (fun k_ hk => hk))))) (Reps.one (show Kd.FK (Kd.slice 2 (Kd.int .i64)) _ _ l2 [.slice A2 l2.length c2] from (Kd.FK_slice_mk HC2.out (Kd.V_F (Kd.V_mono (ok' := (fun k_ => ((P1_ k_ ∨ P2_ k_) ∨ w.heap.size ≤ k_))) (by (with_reducible repeat (first | apply Kd.V_alloc | apply Kd.V_drewN | apply Kd.V_drew)); exact HO2.out) (fun k_ hk => hk))))) (Reps.none _ _)))); intro v245 w10 ho11 hb hg_ hnew_; clear hg_ hnew_; (first | rw [← Ny.out] at ho11 | (simp only [Int.reduceToNat] at ho11; rw [← Ny.out] at ho11)); have HY := Aside0.mk ho11; have ho11x := ho11; have HD1 : Aside0 (Kd.V (Kd.int .i64) 2 w10 w.heap.size (fun k_ => ((P1_ k_ ∨ P2_ k_) ∨ w.heap.size ≤ k_)) (.slice A1 l1.length c1) l1) := ⟨Kd.V_mono (Kd.V_elder' (by (with_reducible repeat (first | apply Kd.V_alloc | apply Kd.V_drewN | apply Kd.V_drew)); exact HO1.out) (Kd.N_base ho11x) hb) (fun _ hk => hk.1)⟩; have HD2 : Aside0 (Kd.V (Kd.int .i64) 2 w10 w.heap.size (fun k_ => ((P1_ k_ ∨ P2_ k_) ∨ w.heap.size ≤ k_)) (.slice A2 l2.length c2) l2) := ⟨Kd.V_mono (Kd.V_elder' (by (with_reducible repeat (first | apply Kd.V_alloc | apply Kd.V_drewN | apply Kd.V_drew)); exact HO2.out) (Kd.N_base ho11x) hb) (fun _ hk => hk.1)⟩; have n3_ : Aside0 (Below w.heap.size w w10) := ⟨below_step (by repeat (first | exact HB.out | exact Below.refl _ _ | apply below_alloc | apply pw_below_drewN | apply below_drew1)) hb⟩; (try clear HB); have HB := n3_; clear n3_; clear hb ho11 ho11x; obtain ⟨Ao12, co12, eo12⟩ := Kd.N_slice HY.out; subst eo12) | (go_at_call 106; (with_reducible refine (impl_areVectors.calls 0 a0 _ _ y true _ ?side1 ?side2 HV.out).mono ?_); (case side1 => repeat (first | exact (Kd.N_reads' HY.out).2.2 | (with_reducible refine Kd.C_alloc ?_ _) | (with_reducible refine Kd.C_drewN ?_ _) | (with_reducible refine Kd.C_drew ?_))); (case side2 => exact (Kd.N_reads' HY.out).2.1); rintro e w13 ⟨rfl, hb⟩; have n1_ := Aside0.mk (Kd.V_below (by (with_reducible repeat (first | apply Kd.V_alloc | apply Kd.V_drewN | apply Kd.V_drew)); exact HD1.out) hb); have n2_ := Aside0.mk (Kd.V_below (by (with_reducible repeat (first | apply Kd.V_alloc | apply Kd.V_drewN | apply Kd.V_drew)); exact HD2.out) hb); clear HD1 HD2; have HD1 := n1_; have HD2 := n2_; clear n1_ n2_; have n3_ : Aside0 (Below w.heap.size w w13) := ⟨below_step (by repeat (first | exact HB.out | exact Below.refl _ _ | apply below_alloc | apply pw_below_drewN | apply below_drew1)) hb⟩; clear HB; have HB := n3_; clear n3_; clear hb) | (go_at_call 86; (with_reducible refine (impl_length_int64.calls _ _ l1 _ _ ?l1 HC1.out (show impl_length_int64.f l1 = some (l1.length : Int) from rfl)).mono ?_); (case l1 => exact Kd.C_below HR1.out (by repeat (first | exact HB.out | exact Below.refl _ _ | apply below_alloc | apply pw_below_drewN | apply below_drew1))); rintro e w' ⟨rfl, ⟨nd, rfl⟩⟩) | (go_at_call 107; (with_reducible refine (impl_within.calls _ 0 (l1.length : Int) false _ HW.out).mono ?_); rintro e w' ⟨rfl, ⟨nd, rfl⟩⟩))
  go_ret2
  exact ⟨_, rfl, Ow.of (Kd.R_nil _ _ _ _ _), by repeat (first | exact HB.out | exact Below.refl _ _ | apply below_alloc | apply pw_below_drewN | apply below_drew1)⟩
theorem impl_SlideLanes.calls (k : Nat) (a0 : Int) (P1_ : Nat → Prop) (A1 : Option Addr) (c1 : Nat) (l1 : List Int) (P2_ : Nat → Prop) (A2 : Option Addr) (c2 : Nat) (l2 : List Int) (a3 : Int) (r1 : List Int) (r2 : Bool) (w : World) (hs1 : Kd.V (Kd.int .i64) 2 w w.heap.size (fun k_ => P1_ k_) (.slice A1 l1.length c1) l1) (hs2 : Kd.V (Kd.int .i64) 2 w w.heap.size (fun k_ => P2_ k_) (.slice A2 l2.length c2) l2) (h : impl_SlideLanes.f k a0 l1 l2 a3 = some (r1, r2)) :
  Calls Try.prog 44 #[.int .i64 a0, .slice A1 l1.length c1, .slice A2 l2.length c2, .int .i64 a3] w fun e w' => ∃ v0_ : Value, e = .returned (.tuple #[v0_, .bool r2]) ∧ Wn w' w.heap.size v0_ r1 ∧ Below w.heap.size w w' := by
 refine (impl_SlideLanes.win k a0 P1_ A1 c1 l1 P2_ A2 c2 l2 a3 r1 r2 w hs1 hs2 h).mono ?_
 rintro e w' ⟨v, rfl, ho, hb⟩
 exact ⟨v, rfl, ⟨Ow.bas ho, Ow.V ho⟩, hb⟩

end Go.Proofs.Ytpcjjminopdofaa.K
