-- Laid by a program of this session.
import Derived.Test.YtgaemhbffdlbaaaDoorK0
import Derived.Test.YtgaemhbffdlbaaaDoorH0
import Derived.Test.YtgaemhbffdlbaaaDoorSF
import Derived.Lib.Hide
namespace Go.Proofs.YtgaemhbffdlbaaaDoor.K
open Go.RowKit Go.Proofs.YtgaemhbffdlbaaaDoorW.PrintWords Go.Proofs.YtgaemhbffdlbaaaDoorW.PrintLast Go.Proofs.YtgaemhbffdlbaaaDoorW.PrintMore Go.Proofs.YtgaemhbffdlbaaaDoor.Bx Go.Shelf Go.Lib
attribute [local go_sem] max2_int min2_int max_two min_two max_three min_three max_four min_four   -- for this text's walks alone
set_option linter.unusedVariables false
set_option linter.unusedSimpArgs false

/-! ### spec_l00In: function 55 -/
def spec_l00In.f (a0 : Int) (a1 : Int) (a2 : Int) : Option (Bool) := if a0 ≥ a1 then (some (decide (a0 ≤ a2))) else (some false)
set_option maxHeartbeats 8000000 in
set_option maxRecDepth 100000 in
theorem spec_l00In.calls (a0 : Int) (a1 : Int) (a2 : Int) (r : Bool) (w : World) (h : spec_l00In.f a0 a1 a2 = some r) :
  Calls Tryd.prog 55 #[.int .i64 a0, .int .i64 a1, .int .i64 a2] w fun e w' => e = .returned (.bool r) ∧ Drawn0 w w' := by
 have H : (if a0 ≥ a1 then (some (decide (a0 ≤ a2))) else (some false)) = some r := h
 clear h
 by_cases c4 : a0 ≥ a1
 ·rw [if_pos c4] at H
  have c4b0 : decide (a1 ≤ a0) = true := decide_eq_true c4
  clear c4
  obtain rfl := Option.some.inj H
  go_enter Tryd.func55, Tryd.ntmps55
  go_wp2
  go_ret
  exact ⟨by first | rfl | (simp; done) | (simp [*]; done), by repeat (first | exact Drawn0.refl _ | apply Drawn0.step)⟩
 rw [if_neg c4] at H
 have c4b0 : decide (a1 ≤ a0) = false := decide_eq_false c4
 clear c4
 obtain rfl := Option.some.inj H
 go_enter Tryd.func55, Tryd.ntmps55
 go_wp2
 go_ret
 exact ⟨by first | rfl | (simp; done) | (simp [*]; done), by repeat (first | exact Drawn0.refl _ | apply Drawn0.step)⟩

/-! ### spec_l01OpIs: function 34 -/
def spec_l01OpIs.f (a0 : Int) : Option (Bool) := (spec_l00In.f a0 0 17).bind fun t101 => (some t101)
set_option maxHeartbeats 8000000 in
set_option maxRecDepth 100000 in
theorem spec_l01OpIs.calls (a0 : Int) (r : Bool) (w : World) (h : spec_l01OpIs.f a0 = some r) :
  Calls Tryd.prog 34 #[.int .i64 a0] w fun e w' => e = .returned (.bool r) ∧ Drawn0 w w' := by
 have H : ((spec_l00In.f a0 0 17).bind fun t101 => (some t101)) = some r := h
 clear h
 replace H := Option.bind_eq_some_iff.mp H
 obtain ⟨t101, A20, H⟩ := H
 try dsimp only at H
 have A2 := Aside0.mk A20
 clear A20
 obtain rfl := Option.some.inj H
 go_enter Tryd.func34, Tryd.ntmps34
 go_wp2_with (first | ((with_reducible refine gate_callee (f := 55) rfl ?_); refine goesL_ (some 4) rfl rfl Tryd.func55 (by kernel_rfl) rfl #[.int .i64 a0, .int .i64 0, .int .i64 17] rfl (by (try simp only [List.map_toArray, List.map_cons, List.map_nil]); first | done | rfl | (simp only [List.length_drop, List.length_take]; rfl)) ?_; (with_reducible refine (spec_l00In.calls a0 0 17 t101 _ A2.out).mono ?_); rintro e w' ⟨rfl, ⟨nd, rfl⟩⟩; refine ⟨_, rfl, ?_⟩))
 go_ret
 exact ⟨by first | rfl | (simp; done) | (simp [*]; done), by repeat (first | exact Drawn0.refl _ | apply Drawn0.step)⟩

/-! ### spec_l01OpTexts: function 35 -/
def spec_l01OpTexts.f  : Option (List ByteArray) := some (([(⟨#[97, 100, 100]⟩ : ByteArray), (⟨#[115, 117, 98]⟩ : ByteArray), (⟨#[109, 117, 108]⟩ : ByteArray), (⟨#[97, 110, 100]⟩ : ByteArray), (⟨#[111, 114]⟩ : ByteArray), (⟨#[120, 111, 114]⟩ : ByteArray), (⟨#[109, 105, 110, 117]⟩ : ByteArray), (⟨#[109, 97, 120, 117]⟩ : ByteArray), (⟨#[109, 105, 110, 115]⟩ : ByteArray), (⟨#[109, 97, 120, 115]⟩ : ByteArray), (⟨#[97, 100, 100, 117]⟩ : ByteArray), (⟨#[97, 100, 100, 115]⟩ : ByteArray), (⟨#[115, 117, 98, 117]⟩ : ByteArray), (⟨#[115, 117, 98, 115]⟩ : ByteArray), (⟨#[97, 118, 103]⟩ : ByteArray), (⟨#[115, 104, 108]⟩ : ByteArray), (⟨#[115, 104, 114, 117]⟩ : ByteArray), (⟨#[115, 104, 114, 115]⟩ : ByteArray)] : List ByteArray))
set_option maxHeartbeats 8000000 in
set_option maxRecDepth 100000 in
theorem spec_l01OpTexts.calls  (r : List ByteArray) (w : World) (h : spec_l01OpTexts.f  = some r) :
  Calls Tryd.prog 35 #[] w fun e w' => ∃ v0_ : Value, e = .returned (v0_) ∧ Kd.R Kd.string 9 w' w.heap.size (fun _ => True) v0_ r ∧ Below w.heap.size w w' := by
 have HB := Aside0.mk (Below.refl w.heap.size w)
 have H : (some (([(⟨#[97, 100, 100]⟩ : ByteArray), (⟨#[115, 117, 98]⟩ : ByteArray), (⟨#[109, 117, 108]⟩ : ByteArray), (⟨#[97, 110, 100]⟩ : ByteArray), (⟨#[111, 114]⟩ : ByteArray), (⟨#[120, 111, 114]⟩ : ByteArray), (⟨#[109, 105, 110, 117]⟩ : ByteArray), (⟨#[109, 97, 120, 117]⟩ : ByteArray), (⟨#[109, 105, 110, 115]⟩ : ByteArray), (⟨#[109, 97, 120, 115]⟩ : ByteArray), (⟨#[97, 100, 100, 117]⟩ : ByteArray), (⟨#[97, 100, 100, 115]⟩ : ByteArray), (⟨#[115, 117, 98, 117]⟩ : ByteArray), (⟨#[115, 117, 98, 115]⟩ : ByteArray), (⟨#[97, 118, 103]⟩ : ByteArray), (⟨#[115, 104, 108]⟩ : ByteArray), (⟨#[115, 104, 114, 117]⟩ : ByteArray), (⟨#[115, 104, 114, 115]⟩ : ByteArray)] : List ByteArray))) = some r := h
 clear h
 obtain ⟨y102, hy102⟩ : ∃ y_ : List ByteArray, y_ = (([(⟨#[97, 100, 100]⟩ : ByteArray), (⟨#[115, 117, 98]⟩ : ByteArray), (⟨#[109, 117, 108]⟩ : ByteArray), (⟨#[97, 110, 100]⟩ : ByteArray), (⟨#[111, 114]⟩ : ByteArray), (⟨#[120, 111, 114]⟩ : ByteArray), (⟨#[109, 105, 110, 117]⟩ : ByteArray), (⟨#[109, 97, 120, 117]⟩ : ByteArray), (⟨#[109, 105, 110, 115]⟩ : ByteArray), (⟨#[109, 97, 120, 115]⟩ : ByteArray), (⟨#[97, 100, 100, 117]⟩ : ByteArray), (⟨#[97, 100, 100, 115]⟩ : ByteArray), (⟨#[115, 117, 98, 117]⟩ : ByteArray), (⟨#[115, 117, 98, 115]⟩ : ByteArray), (⟨#[97, 118, 103]⟩ : ByteArray), (⟨#[115, 104, 108]⟩ : ByteArray), (⟨#[115, 104, 114, 117]⟩ : ByteArray), (⟨#[115, 104, 114, 115]⟩ : ByteArray)] : List ByteArray)) := ⟨_, rfl⟩
 replace H : (some y102) = some r := by first | (rw [hy102]; with_reducible exact H) | (have H2_ := (Option.bind_some _ _).symm.trans H; rw [hy102]; with_reducible exact H2_) | (have H2_ := (Option.bind_some _ _).symm.trans H; with_reducible exact H2_) | with_reducible exact H | (rw [hy102]; exact H) | exact H
 have Ny102 := Aside0.mk hy102
 clear hy102
 obtain rfl := Option.some.inj H
 go_enter Tryd.func35, Tryd.ntmps35
 go_wp2_with (first | ((with_reducible refine gate_dst (N := 1) rfl ?_); refine Kd.R_lit Kd.string _ 9 ?hg (N := 1) ?hd (xs := ([(⟨#[97, 100, 100]⟩ : ByteArray), (⟨#[115, 117, 98]⟩ : ByteArray), (⟨#[109, 117, 108]⟩ : ByteArray), (⟨#[97, 110, 100]⟩ : ByteArray), (⟨#[111, 114]⟩ : ByteArray), (⟨#[120, 111, 114]⟩ : ByteArray), (⟨#[109, 105, 110, 117]⟩ : ByteArray), (⟨#[109, 97, 120, 117]⟩ : ByteArray), (⟨#[109, 105, 110, 115]⟩ : ByteArray), (⟨#[109, 97, 120, 115]⟩ : ByteArray), (⟨#[97, 100, 100, 117]⟩ : ByteArray), (⟨#[97, 100, 100, 115]⟩ : ByteArray), (⟨#[115, 117, 98, 117]⟩ : ByteArray), (⟨#[115, 117, 98, 115]⟩ : ByteArray), (⟨#[97, 118, 103]⟩ : ByteArray), (⟨#[115, 104, 108]⟩ : ByteArray), (⟨#[115, 104, 114, 117]⟩ : ByteArray), (⟨#[115, 104, 114, 115]⟩ : ByteArray)] : List ByteArray)) (inner := [.string (⟨#[97, 100, 100]⟩ : ByteArray), .string (⟨#[115, 117, 98]⟩ : ByteArray), .string (⟨#[109, 117, 108]⟩ : ByteArray), .string (⟨#[97, 110, 100]⟩ : ByteArray), .string (⟨#[111, 114]⟩ : ByteArray), .string (⟨#[120, 111, 114]⟩ : ByteArray), .string (⟨#[109, 105, 110, 117]⟩ : ByteArray), .string (⟨#[109, 97, 120, 117]⟩ : ByteArray), .string (⟨#[109, 105, 110, 115]⟩ : ByteArray), .string (⟨#[109, 97, 120, 115]⟩ : ByteArray), .string (⟨#[97, 100, 100, 117]⟩ : ByteArray), .string (⟨#[97, 100, 100, 115]⟩ : ByteArray), .string (⟨#[115, 117, 98, 117]⟩ : ByteArray), .string (⟨#[115, 117, 98, 115]⟩ : ByteArray), .string (⟨#[97, 118, 103]⟩ : ByteArray), .string (⟨#[115, 104, 108]⟩ : ByteArray), .string (⟨#[115, 104, 114, 117]⟩ : ByteArray), .string (⟨#[115, 104, 114, 115]⟩ : ByteArray)]) (ok := fun _ => True) (okp := fun _ => True) ?hr ?hp (fun _ hk => hk) trivial (Below.refl _ _) (Nat.le_refl _) (by simp) ?_; (case hd => rfl); (case hg => rfl); (case hr => first | (go_simp; done) | (go_simp; rfl)); (case hp => exact (Reps.one (show Kd.M Kd.string _ _ _ (⟨#[97, 100, 100]⟩ : ByteArray) [.string (⟨#[97, 100, 100]⟩ : ByteArray)] from rfl) (Reps.one (show Kd.M Kd.string _ _ _ (⟨#[115, 117, 98]⟩ : ByteArray) [.string (⟨#[115, 117, 98]⟩ : ByteArray)] from rfl) (Reps.one (show Kd.M Kd.string _ _ _ (⟨#[109, 117, 108]⟩ : ByteArray) [.string (⟨#[109, 117, 108]⟩ : ByteArray)] from rfl) (Reps.one (show Kd.M Kd.string _ _ _ (⟨#[97, 110, 100]⟩ : ByteArray) [.string (⟨#[97, 110, 100]⟩ : ByteArray)] from rfl) (Reps.one (show Kd.M Kd.string _ _ _ (⟨#[111, 114]⟩ : ByteArray) [.string (⟨#[111, 114]⟩ : ByteArray)] from rfl) (Reps.one (show Kd.M Kd.string _ _ _ (⟨#[120, 111, 114]⟩ : ByteArray) [.string (⟨#[120, 111, 114]⟩ : ByteArray)] from rfl) (Reps.one (show Kd.M Kd.string _ _ _ (⟨#[109, 105, 110, 117]⟩ : ByteArray) [.string (⟨#[109, 105, 110, 117]⟩ : ByteArray)] from rfl) (Reps.one (show Kd.M Kd.string _ _ _ (⟨#[109, 97, 120, 117]⟩ : ByteArray) [.string (⟨#[109, 97, 120, 117]⟩ : ByteArray)] from rfl) (Reps.one (show Kd.M Kd.string _ _ _ (⟨#[109, 105, 110, 115]⟩ : ByteArray) [.string (⟨#[109, 105, 110, 115]⟩ : ByteArray)] from rfl) (Reps.one (show Kd.M Kd.string _ _ _ (⟨#[109, 97, 120, 115]⟩ : ByteArray) [.string (⟨#[109, 97, 120, 115]⟩ : ByteArray)] from rfl) (Reps.one (show Kd.M Kd.string _ _ _ (⟨#[97, 100, 100, 117]⟩ : ByteArray) [.string (⟨#[97, 100, 100, 117]⟩ : ByteArray)] from rfl) (Reps.one (show Kd.M Kd.string _ _ _ (⟨#[97, 100, 100, 115]⟩ : ByteArray) [.string (⟨#[97, 100, 100, 115]⟩ : ByteArray)] from rfl) (Reps.one (show Kd.M Kd.string _ _ _ (⟨#[115, 117, 98, 117]⟩ : ByteArray) [.string (⟨#[115, 117, 98, 117]⟩ : ByteArray)] from rfl) (Reps.one (show Kd.M Kd.string _ _ _ (⟨#[115, 117, 98, 115]⟩ : ByteArray) [.string (⟨#[115, 117, 98, 115]⟩ : ByteArray)] from rfl) (Reps.one (show Kd.M Kd.string _ _ _ (⟨#[97, 118, 103]⟩ : ByteArray) [.string (⟨#[97, 118, 103]⟩ : ByteArray)] from rfl) (Reps.one (show Kd.M Kd.string _ _ _ (⟨#[115, 104, 108]⟩ : ByteArray) [.string (⟨#[115, 104, 108]⟩ : ByteArray)] from rfl) (Reps.one (show Kd.M Kd.string _ _ _ (⟨#[115, 104, 114, 117]⟩ : ByteArray) [.string (⟨#[115, 104, 114, 117]⟩ : ByteArray)] from rfl) (Reps.one (show Kd.M Kd.string _ _ _ (⟨#[115, 104, 114, 115]⟩ : ByteArray) [.string (⟨#[115, 104, 114, 115]⟩ : ByteArray)] from rfl) (Reps.none _ _)))))))))))))))))))); intro v103 w1 ho2 hb hg_ hnew_; clear hg_ hnew_; (first | rw [← Ny102.out] at ho2 | (simp only [Int.reduceToNat] at ho2; rw [← Ny102.out] at ho2)); have n0_ := Aside0.mk (Kd.R_lower ho2 (below_size (by repeat (first | (with_reducible first | exact HB.out | apply below_alloc | apply pw_below_drewN | apply below_drew1) | exact HB.out)))); have n1_ := Aside0.mk (below_step (by repeat (first | (with_reducible first | exact HB.out | apply below_alloc | apply pw_below_drewN | apply below_drew1) | exact HB.out)) hb); clear HB; have HO104 := n0_; have HB := n1_; clear n0_ n1_; clear hb ho2))
 go_ret
 exact ⟨_, by first | rfl | (simp [errW_none, errW_some] <;> rfl) | (simp [*, errW_none, errW_some] <;> rfl), by (with_reducible repeat (first | apply Kd.R_alloc | apply Kd.R_drewN | apply Kd.R_drew)); exact HO104.out, by repeat (first | (with_reducible first | exact HB.out | apply below_alloc | apply pw_below_drewN | apply below_drew1) | exact HB.out)⟩

/-! ### spec_OpText: function 11 -/
def spec_OpText.f (a0 : Int) : Option (ByteArray × Bool) := (spec_l01OpIs.f a0).bind fun t105 => (if t105 = true then ((spec_l01OpTexts.f).bind fun t106 => (if 0 ≤ a0 then (if a0 < (t106.length : Int) then (some (rdOf ByteArray.empty t106 a0, true)) else (none)) else (none))) else (some ((⟨#[]⟩ : ByteArray), false)))
set_option maxHeartbeats 8000000 in
set_option maxRecDepth 100000 in
theorem spec_OpText.calls (a0 : Int) (r1 : ByteArray) (r2 : Bool) (w : World) (h : spec_OpText.f a0 = some (r1, r2)) :
  Calls Tryd.prog 11 #[.int .i64 a0] w fun e w' => e = .returned (.tuple #[.string r1, .bool r2]) ∧ Below w.heap.size w w' := by
 have HB := Aside0.mk (Below.refl w.heap.size w)
 have H : ((spec_l01OpIs.f a0).bind fun t105 => (if t105 = true then ((spec_l01OpTexts.f).bind fun t106 => (if 0 ≤ a0 then (if a0 < (t106.length : Int) then (some (rdOf ByteArray.empty t106 a0, true)) else (none)) else (none))) else (some ((⟨#[]⟩ : ByteArray), false)))) = some (r1, r2) := h
 clear h
 replace H := Option.bind_eq_some_iff.mp H
 obtain ⟨t105, A20, H⟩ := H
 try dsimp only at H
 have A2 := Aside0.mk A20
 clear A20
 by_cases c3 : t105 = true
 rotate_left
 ·replace c3 := Bool.eq_false_iff.mpr c3
  subst c3
  rw [if_neg (show ¬ (false = true) by decide)] at H
  simp only [Option.some.injEq, Prod.mk.injEq] at H
  obtain ⟨rfl, rfl⟩ := H
  go_enter Tryd.func11, Tryd.ntmps11
  go_wp2_with (first | ((with_reducible refine gate_callee (f := 34) rfl ?_); refine goesL_ (some 5) rfl rfl Tryd.func34 (by kernel_rfl) rfl #[.int .i64 a0] rfl (by (try simp only [List.map_toArray, List.map_cons, List.map_nil]); first | done | rfl | (simp only [List.length_drop, List.length_take]; rfl)) ?_; (with_reducible refine (spec_l01OpIs.calls a0 false _ A2.out).mono ?_); rintro e w' ⟨rfl, ⟨nd, rfl⟩⟩; refine ⟨_, rfl, ?_⟩))
  go_ret2
  exact ⟨by first | rfl | (simp [errW_none, errW_some] <;> rfl) | (simp [*, errW_none, errW_some] <;> rfl), by repeat (first | (with_reducible first | exact HB.out | apply below_alloc | apply pw_below_drewN | apply below_drew1) | exact HB.out)⟩

 subst c3
 rw [if_pos rfl] at H
 replace H := Option.bind_eq_some_iff.mp H
 obtain ⟨t106, A40, H⟩ := H
 try dsimp only at H
 have A4 := Aside0.mk A40
 clear A40
 by_cases c5 : 0 ≤ a0
 rotate_left
 ·rw [if_neg c5] at H
  exact absurd H (by simp)
 rw [if_pos c5] at H
 have c5b0 : decide (0 ≤ a0) = true := decide_eq_true c5
 clear c5
 by_cases c6 : a0 < (t106.length : Int)
 rotate_left
 ·rw [if_neg c6] at H
  exact absurd H (by simp)
 rw [if_pos c6] at H
 have c6b0 : decide (a0 < (t106.length : Int)) = true := decide_eq_true c6
 clear c6
 simp only [Option.some.injEq, Prod.mk.injEq] at H
 obtain ⟨rfl, rfl⟩ := H
 go_enter Tryd.func11, Tryd.ntmps11
 go_wp2_with (first | ((with_reducible refine gate_callee (f := 34) rfl ?_); refine goesL_ (some 5) rfl rfl Tryd.func34 (by kernel_rfl) rfl #[.int .i64 a0] rfl (by (try simp only [List.map_toArray, List.map_cons, List.map_nil]); first | done | rfl | (simp only [List.length_drop, List.length_take]; rfl)) ?_; (with_reducible refine (spec_l01OpIs.calls a0 true _ A2.out).mono ?_); rintro e w' ⟨rfl, ⟨nd, rfl⟩⟩; refine ⟨_, rfl, ?_⟩) | ((with_reducible refine gate_callee (f := 35) rfl ?_); refine goesL_ (some 7) rfl rfl Tryd.func35 (by kernel_rfl) rfl #[] rfl (by (try simp only [List.map_toArray, List.map_cons, List.map_nil]); first | done | rfl | (simp only [List.length_drop, List.length_take]; rfl)) ?_; (with_reducible refine (spec_l01OpTexts.calls  t106 _ A4.out).mono ?_); rintro e w7 ⟨v107, rfl, ho0, hb⟩; refine ⟨_, rfl, ?_⟩; have n0_ := Aside0.mk (Kd.R_lower ho0 (below_size (by repeat (first | (with_reducible first | exact HB.out | apply below_alloc | apply pw_below_drewN | apply below_drew1) | exact HB.out)))); have n1_ := Aside0.mk (below_step (by repeat (first | (with_reducible first | exact HB.out | apply below_alloc | apply pw_below_drewN | apply below_drew1) | exact HB.out)) hb); clear HB; have HO108 := n0_; have HB := n1_; clear n0_ n1_; (try clear hb); (try clear hb2); (try clear hk); (try clear hi); (try clear ho0); obtain ⟨Ao8, co8, eo8⟩ := Kd.R_slice HO108.out; subst eo8; have p109 : 0 ≤ (a0 : Int) := of_decide_eq_true (by first | (with_reducible assumption) | assumption); have q109 : a0 < (t106.length : Int) := of_decide_eq_true (by first | (with_reducible assumption) | assumption); obtain ⟨ad109, e109, hx109_0⟩ := Kd.at_string (Kd.R_reads' HO108.out).2.2 a0 p109 q109; cases e109; replace p109 := eq_true p109; replace q109 := eq_true q109))
 go_ret2
 exact ⟨by first | rfl | (simp [errW_none, errW_some] <;> rfl) | (simp [*, errW_none, errW_some] <;> rfl), by repeat (first | (with_reducible first | exact HB.out | apply below_alloc | apply pw_below_drewN | apply below_drew1) | exact HB.out)⟩
/-! ### impl_OpText: function 12 -/
/-- The operations' texts. -/
def opS : List ByteArray := [⟨#[97, 100, 100]⟩, ⟨#[115, 117, 98]⟩, ⟨#[109, 117, 108]⟩, ⟨#[97, 110, 100]⟩, ⟨#[111, 114]⟩, ⟨#[120, 111, 114]⟩, ⟨#[109, 105, 110, 117]⟩, ⟨#[109, 97, 120, 117]⟩, ⟨#[109, 105, 110, 115]⟩, ⟨#[109, 97, 120, 115]⟩, ⟨#[97, 100, 100, 117]⟩, ⟨#[97, 100, 100, 115]⟩, ⟨#[115, 117, 98, 117]⟩, ⟨#[115, 117, 98, 115]⟩, ⟨#[97, 118, 103]⟩, ⟨#[115, 104, 108]⟩, ⟨#[115, 104, 114, 117]⟩, ⟨#[115, 104, 114, 115]⟩]
def opLine : List UInt8 := [97, 100, 100, 32, 115, 117, 98, 32, 109, 117, 108, 32, 97, 110, 100, 32, 111, 114, 32, 120, 111, 114, 32, 109, 105, 110, 117, 32, 109, 97, 120, 117, 32, 109, 105, 110, 115, 32, 109, 97, 120, 115, 32, 97, 100, 100, 117, 32, 97, 100, 100, 115, 32, 115, 117, 98, 117, 32, 115, 117, 98, 115, 32, 97, 118, 103, 32, 115, 104, 108, 32, 115, 104, 114, 117, 32, 115, 104, 114, 115]
theorem opFields : Lib.fields opLine = opS.map (·.data.toList) := by decide +kernel
theorem opTexts_c (w : World) (hT : TabF w) :
  Calls Tryd.prog 37 #[] w fun e w' => e = .returned (.slice (some ⟨w.heap.size, 0, none⟩) 18 18) ∧ w' = w.alloc (.cells (opS.map Value.string).toArray 9) := by
 have hcon := Tryd.strings_Fields_laid ⟨opLine.toArray⟩ w (by decide +kernel) (fun j b h => by
  have : ∀ b ∈ opLine, b.toNat < 128 := by decide +kernel
  exact this b (List.mem_of_getElem? (by simpa using h))) hT
 have e1 : (⟨opLine.toArray⟩ : ByteArray).data.toList = opLine := by simp
 rw [e1, opFields] at hcon
 have e2 : (opS.map (·.data.toList)).length = 18 := rfl
 have e3 : (opS.map (·.data.toList)).map (fun l => Value.string ⟨l.toArray⟩) = opS.map Value.string := by simp [Function.comp_def]
 rw [e2, e3] at hcon
 clear e1 e2 e3 hT
 generalize hL : (opS.map Value.string).toArray = L at hcon ⊢
 clear hL
 go_enter Tryd.func37, Tryd.ntmps37
 go_wp2_with (go_at_call 56; refine hcon.mono ?_; rintro e w' ⟨rfl, rfl⟩)
 go_ret
 exact ⟨rfl, rfl⟩
theorem op_cell (w : World) (j : Nat) (hj : j < 18) : (w.alloc (.cells (opS.map Value.string).toArray 9)).cell? ⟨w.heap.size, j, none⟩ = some (.string (opS.getD j ByteArray.empty)) := by
 rw [World.cell?_alloc_at _ _ _ _ rfl]
 have : opS.length = 18 := rfl
 simp [List.getD_eq_getElem?_getD, List.getElem?_eq_getElem (show j < opS.length by omega)]
def impl_OpText.f (a0 : Int) : Option (ByteArray × Bool) := if 0 ≤ a0 ∧ a0 ≤ 17 then some (opS.getD a0.toNat ByteArray.empty, true) else some (⟨#[]⟩, false)
theorem impl_OpText.calls (a0 : Int) (r1 : ByteArray) (r2 : Bool) (w : World) (h : impl_OpText.f a0 = some (r1, r2)) (hT : TabF w) :
  Calls Tryd.prog 12 #[.int .i64 a0] w fun e w' => e = .returned (.tuple #[.string r1, .bool r2]) ∧ Below w.heap.size w w' := by
 have ho := isOp_b a0 w
 unfold impl_OpText.f at h
 by_cases hb : 0 ≤ a0 ∧ a0 ≤ 17
 rotate_left
 ·rw [decide_eq_false hb] at ho
  rw [if_neg hb] at h
  obtain ⟨rfl, rfl⟩ := Prod.mk.inj (Option.some.inj h)
  clear h hT hb
  go_enter Tryd.func12, Tryd.ntmps12
  go_wp2_with (go_at_call 36; refine ho.mono ?_; rintro e w' ⟨rfl, rfl⟩)
  go_ret2
  exact ⟨rfl, Below.refl _ _⟩

 rw [decide_eq_true hb] at ho
 rw [if_pos hb] at h
 obtain ⟨rfl, rfl⟩ := Prod.mk.inj (Option.some.inj h)
 obtain ⟨j, rfl⟩ := Int.eq_ofNat_of_zero_le hb.1
 have hcon := opTexts_c w hT
 have hc := op_cell w j (by omega)
 have hlt : (j : Int) < 18 := by omega
 rw [Int.toNat_natCast]
 clear h hT hb
 generalize (opS.map Value.string).toArray = L at hcon hc
 generalize opS.getD j ByteArray.empty = t at hc ⊢
 go_enter Tryd.func12, Tryd.ntmps12
 go_wp2_with (first | (go_at_call 36; refine ho.mono ?_; rintro e w' ⟨rfl, rfl⟩) | (go_at_call 37; refine hcon.mono ?_; rintro e w' ⟨rfl, rfl⟩))
 go_ret2
 exact ⟨rfl, (Below.refl _ _).alloc (Nat.le_refl _) _⟩
/-! ### laws_FnExactOpText: function 3 -/
def laws_FnExactOpText.f (a0 : Int) : Option (Bool) := (spec_OpText.f a0).bind fun bt115 => ((impl_OpText.f a0).bind fun bt117 => (if bt117.1.toList = bt115.1.toList then (if (bt117.2 != bt115.2) = true then (some false) else (some true)) else (some false)))
set_option maxHeartbeats 8000000 in
set_option maxRecDepth 100000 in
theorem laws_FnExactOpText.calls (a0 : Int) (r : Bool) (w : World) (h : laws_FnExactOpText.f a0 = some r) (hrtrue : r = true) (hT : TabF w) :
  Calls Tryd.prog 3 #[.int .i64 a0] w fun e w' => e = .returned (.bool r) ∧ Below w.heap.size w w' := by
 have HT := Aside0.mk hT
 clear hT
 have HB := Aside0.mk (Below.refl w.heap.size w)
 have H : ((spec_OpText.f a0).bind fun bt115 => ((impl_OpText.f a0).bind fun bt117 => (if bt117.1.toList = bt115.1.toList then (if (bt117.2 != bt115.2) = true then (some false) else (some true)) else (some false)))) = some r := h
 clear h
 have HRT := Aside0.mk hrtrue
 clear hrtrue
 replace H := Option.bind_eq_some_iff.mp H
 obtain ⟨⟨t115, t116⟩, A20, H⟩ := H
 try dsimp only at H
 have A2 := Aside0.mk A20
 clear A20
 replace H := Option.bind_eq_some_iff.mp H
 obtain ⟨⟨t117, t118⟩, A30, H⟩ := H
 try dsimp only at H
 have A3 := Aside0.mk A30
 clear A30
 by_cases c4 : t117.toList = t115.toList
 rotate_left
 ·rw [if_neg c4] at H
  have c4b0 : (t117.toList == t115.toList) = false := beq_eq_false_iff_ne.mpr c4
  have c4b1 : (t117.toList != t115.toList) = true := bne_iff_ne.mpr c4
  obtain rfl := Option.some.inj H
  exact absurd HRT.out (by decide)

 rw [if_pos c4] at H
 have c4b0 : (t117.toList == t115.toList) = true := beq_iff_eq.mpr c4
 have c4b1 : (t117.toList != t115.toList) = false := bne_eq_false_iff_eq.mpr c4
 clear c4
 by_cases c5 : (t118 != t116) = true
 ·rw [if_pos c5] at H
  have c5b0 : (t118 != t116) = true := c5
  (try (have c5b1 : decide (t118 = t116) = false := by simpa using c5))
  (try (have c5b2 : (t118 == t116) = false := by simpa using c5))
  (try (have c5b3 : ¬ (t118 = t116) := by simpa using c5))
  clear c5
  obtain rfl := Option.some.inj H
  exact absurd HRT.out (by decide)
 rw [if_neg c5] at H
 have c5b0 : (t118 != t116) = false := by simpa using c5
 (try (have c5b1 : decide (t118 = t116) = true := by simpa using c5))
 (try (have c5b2 : (t118 == t116) = true := by simpa using c5))
 clear c5
 obtain rfl := Option.some.inj H
 go_enter Tryd.func3, Tryd.ntmps3
 go_wp2_with (first | ((with_reducible refine gate_callee (f := 11) rfl ?_); refine goesL_ (some 9) rfl rfl Tryd.func11 (by kernel_rfl) rfl #[.int .i64 a0] rfl (by (try simp only [List.map_toArray, List.map_cons, List.map_nil]); first | done | rfl | (simp only [List.length_drop, List.length_take]; rfl)) ?_; (with_reducible refine (spec_OpText.calls a0 t115 t116 _ A2.out).mono ?_); rintro e w6 ⟨rfl, hb⟩; refine ⟨_, rfl, ?_⟩; have n0_ := Aside0.mk (below_step (by repeat (first | (with_reducible first | exact HB.out | apply below_alloc | apply pw_below_drewN | apply below_drew1) | exact HB.out)) hb); clear HB; have HB := n0_; clear n0_; (try clear hb); (try clear hb2); (try clear hk); (try clear hi)) | ((with_reducible refine gate_callee (f := 12) rfl ?_); refine goesL_ (some 14) rfl rfl Tryd.func12 (by kernel_rfl) rfl #[.int .i64 a0] rfl (by (try simp only [List.map_toArray, List.map_cons, List.map_nil]); first | done | rfl | (simp only [List.length_drop, List.length_take]; rfl)) ?_; (with_reducible refine (impl_OpText.calls a0 t117 t118 _ A3.out (HT.out.below (by repeat (first | (with_reducible first | exact HB.out | apply below_alloc | apply pw_below_drewN | apply below_drew1) | exact HB.out)))).mono ?_); rintro e w7 ⟨rfl, hb⟩; refine ⟨_, rfl, ?_⟩; have n0_ := Aside0.mk (below_step (by repeat (first | (with_reducible first | exact HB.out | apply below_alloc | apply pw_below_drewN | apply below_drew1) | exact HB.out)) hb); clear HB; have HB := n0_; clear n0_; (try clear hb); (try clear hb2); (try clear hk); (try clear hi)))
 go_ret
 exact ⟨by first | rfl | (simp [errW_none, errW_some] <;> rfl) | (simp [*, errW_none, errW_some] <;> rfl), by repeat (first | (with_reducible first | exact HB.out | apply below_alloc | apply pw_below_drewN | apply below_drew1) | exact HB.out)⟩
/-- THE ONE PURE STATEMENT of laws_FnExactOpText: yours. -/
def laws_FnExactOpText.Pure : Prop := ∀ (a0 : Int), (Lit.int .i64 a0).wf = true → laws_FnExactOpText.f a0 = some true
theorem laws_FnExactOpText.walk (P : laws_FnExactOpText.Pure) (a0 : Int) (w : World) (w0 : (Lit.int .i64 a0).wf = true) (hT : TabF w) :
  Calls Tryd.prog 3 #[.int .i64 a0] w fun e w' => e = .returned (.bool true) ∧ Below w.heap.size w w' := by
 have h := P a0 w0
 refine (laws_FnExactOpText.calls a0 true w h rfl hT).mono ?_
 rintro e w' ⟨rfl, hd⟩
 exact ⟨rfl, hd⟩

/-! ### spec_l01ReadOp: function 38 -/
def spec_l01ReadOp.l0 : Nat → ByteArray → List ByteArray → Int → Option (Int × Bool)
 | 0, _, _, _ => none
 | k + 1, x0, x4, x5 => if x5 < (x4.length : Int) then (if 0 ≤ x5 then (if (rdOf ByteArray.empty x4 x5).toList = x0.toList then (some (x5, true)) else (spec_l01ReadOp.l0 k x0 x4 (wrap64 (x5 + 1)))) else (none)) else (some (0, false))
def spec_l01ReadOp.f (k : Nat) (a0 : ByteArray) : Option (Int × Bool) := (spec_l01OpTexts.f).bind fun t119 => (spec_l01ReadOp.l0 k a0 t119 0)
theorem spec_l01ReadOp.mono_l : ∀ k, (∀ y0 y1 y2, LeO (spec_l01ReadOp.l0 k y0 y1 y2) (spec_l01ReadOp.l0 (k + 1) y0 y1 y2))
 | 0 => fun _ _ _ r h => by simp [spec_l01ReadOp.l0] at h
 | k + 1 => by
  have ih0 := spec_l01ReadOp.mono_l k
  ·intro y0 y1 y2
   unfold spec_l01ReadOp.l0
   repeat' first
   | (with_reducible exact ih0 _ _ _)
   | (with_reducible exact LeO.refl _)
   | (with_reducible exact LeO.none _)
   | (with_reducible refine LeO.ite ?_ ?_)
   | (with_reducible refine LeO.bind ?_ (fun _ => ?_))
   | exact ih0 _ _ _
   | exact LeO.none _
   | refine LeO.ite ?_ ?_
   | refine LeO.bind ?_ (fun _ => ?_)
theorem spec_l01ReadOp.mono : ∀ a0 k, LeO (spec_l01ReadOp.f k a0) (spec_l01ReadOp.f (k + 1) a0) := by
 intro a0 k
 have ih0 := spec_l01ReadOp.mono_l k
 unfold spec_l01ReadOp.f
 repeat' first
   | (with_reducible exact ih0 _ _ _)
   | (with_reducible exact LeO.refl _)
   | (with_reducible exact LeO.none _)
   | (with_reducible refine LeO.ite ?_ ?_)
   | (with_reducible refine LeO.bind ?_ (fun _ => ?_))
   | exact ih0 _ _ _
   | exact LeO.none _
   | refine LeO.ite ?_ ?_
   | refine LeO.bind ?_ (fun _ => ?_)
set_option maxHeartbeats 8000000 in
set_option maxRecDepth 100000 in
theorem spec_l01ReadOp.calls (k : Nat) (a0 : ByteArray) (r1 : Int) (r2 : Bool) (w : World) (h : spec_l01ReadOp.f k a0 = some (r1, r2)) :
  Calls Tryd.prog 38 #[.string a0] w fun e w' => e = .returned (.tuple #[.int .i64 r1, .bool r2]) ∧ Below w.heap.size w w' := by
 have HB := Aside0.mk (Below.refl w.heap.size w)
 have H : ((spec_l01OpTexts.f).bind fun t119 => (spec_l01ReadOp.l0 k a0 t119 0)) = some (r1, r2) := h
 clear h
 replace H := Option.bind_eq_some_iff.mp H
 obtain ⟨t119, A20, H⟩ := H
 try dsimp only at H
 have A2 := Aside0.mk A20
 clear A20
 have H' := Aside0.mk H
 clear H
 go_enter Tryd.func38, Tryd.ntmps38
 go_wp2_with (first | ((with_reducible refine gate_callee (f := 35) rfl ?_); refine goesL_ (some 6) rfl rfl Tryd.func35 (by kernel_rfl) rfl #[] rfl (by (try simp only [List.map_toArray, List.map_cons, List.map_nil]); first | done | rfl | (simp only [List.length_drop, List.length_take]; rfl)) ?_; (with_reducible refine (spec_l01OpTexts.calls  t119 _ A2.out).mono ?_); rintro e w3 ⟨v120, rfl, ho0, hb⟩; refine ⟨_, rfl, ?_⟩; have n0_ := Aside0.mk (Kd.R_lower ho0 (below_size (by repeat (first | (with_reducible first | exact HB.out | apply below_alloc | apply pw_below_drewN | apply below_drew1) | exact HB.out)))); have n1_ := Aside0.mk (below_step (by repeat (first | (with_reducible first | exact HB.out | apply below_alloc | apply pw_below_drewN | apply below_drew1) | exact HB.out)) hb); clear HB; have HO121 := n0_; have HB := n1_; clear n0_ n1_; (try clear hb); (try clear hb2); (try clear hk); (try clear hi); (try clear ho0)))
 go_loopg [5] k (fun kq v5 w' => ∃ (x5_1 : Int), v5 = .int .i64 x5_1 ∧ Aside0 (spec_l01ReadOp.l0 kq a0 t119 x5_1 = some (r1, r2)) ∧ Aside0 (kq ≤ k) ∧ Aside0 (Kd.R Kd.string 9 w' w.heap.size (fun _ => True) v120 t119) ∧ Aside0 (Below w.heap.size w w'))
 case atStart => exact ⟨(0), (by first | rfl | (simp; done) | (simp [*]; done)), H', ⟨Nat.le_refl _⟩, ⟨by (with_reducible repeat (first | apply Kd.R_alloc | apply Kd.R_drewN | apply Kd.R_drew)); exact HO121.out⟩, ⟨by repeat (first | (with_reducible first | exact HB.out | apply below_alloc | apply pw_below_drewN | apply below_drew1) | exact HB.out)⟩⟩
 case round =>
  clear H'
  try clear p2
  try clear c3
  obtain ⟨x5_1, rfl, HA, HK1, HO_4, HB⟩ := hrel
  cases gk with
  | zero => exact absurd HA.out (by simp [spec_l01ReadOp.l0])
  | succ k1 =>
   have H := HA.out
   clear HA
   simp only [spec_l01ReadOp.l0] at H
   by_cases c4 : x5_1 < (t119.length : Int)
   rotate_left
   ·rw [if_neg c4] at H
    have c4b0 : decide (x5_1 < (t119.length : Int)) = false := decide_eq_false c4
    clear c4
    simp only [Option.some.injEq, Prod.mk.injEq] at H
    obtain ⟨rfl, rfl⟩ := H
    obtain ⟨Ao9, co9, eo9⟩ := Kd.R_slice HO_4.out
    subst eo9
    go_wp2
    go_ret2
    exact ⟨by first | rfl | (simp [errW_none, errW_some] <;> rfl) | (simp [*, errW_none, errW_some] <;> rfl), by repeat (first | (with_reducible first | exact HB.out | apply below_alloc | apply pw_below_drewN | apply below_drew1) | exact HB.out)⟩

   rw [if_pos c4] at H
   have c4b0 : decide (x5_1 < (t119.length : Int)) = true := decide_eq_true c4
   clear c4
   by_cases c5 : 0 ≤ x5_1
   rotate_left
   ·rw [if_neg c5] at H
    exact absurd H (by simp)
   rw [if_pos c5] at H
   have c5b0 : decide (0 ≤ x5_1) = true := decide_eq_true c5
   clear c5
   by_cases c6 : (rdOf ByteArray.empty t119 x5_1).toList = a0.toList
   ·rw [if_pos c6] at H
    have c6b0 : ((rdOf ByteArray.empty t119 x5_1).toList == a0.toList) = true := beq_iff_eq.mpr c6
    have c6b1 : ((rdOf ByteArray.empty t119 x5_1).toList != a0.toList) = false := bne_eq_false_iff_eq.mpr c6
    clear c6
    simp only [Option.some.injEq, Prod.mk.injEq] at H
    obtain ⟨rfl, rfl⟩ := H
    obtain ⟨Ao7, co7, eo7⟩ := Kd.R_slice HO_4.out
    subst eo7
    have p122 : 0 ≤ (x5_1 : Int) := of_decide_eq_true (by first | (with_reducible assumption) | assumption)
    have q122 : x5_1 < (t119.length : Int) := of_decide_eq_true (by first | (with_reducible assumption) | assumption)
    obtain ⟨ad122, e122, hx122_0⟩ := Kd.at_string (Kd.R_reads' HO_4.out).2.2 x5_1 p122 q122
    cases e122
    replace p122 := eq_true p122
    replace q122 := eq_true q122
    go_wp2
    go_ret2
    exact ⟨by first | rfl | (simp [errW_none, errW_some] <;> rfl) | (simp [*, errW_none, errW_some] <;> rfl), by repeat (first | (with_reducible first | exact HB.out | apply below_alloc | apply pw_below_drewN | apply below_drew1) | exact HB.out)⟩
   ·rw [if_neg c6] at H
    have c6b0 : ((rdOf ByteArray.empty t119 x5_1).toList == a0.toList) = false := beq_eq_false_iff_ne.mpr c6
    have c6b1 : ((rdOf ByteArray.empty t119 x5_1).toList != a0.toList) = true := bne_iff_ne.mpr c6
    have H' := Aside0.mk H
    clear H
    obtain ⟨Ao8, co8, eo8⟩ := Kd.R_slice HO_4.out
    subst eo8
    have p122 : 0 ≤ (x5_1 : Int) := of_decide_eq_true (by first | (with_reducible assumption) | assumption)
    have q122 : x5_1 < (t119.length : Int) := of_decide_eq_true (by first | (with_reducible assumption) | assumption)
    obtain ⟨ad122, e122, hx122_0⟩ := Kd.at_string (Kd.R_reads' HO_4.out).2.2 x5_1 p122 q122
    cases e122
    replace p122 := eq_true p122
    replace q122 := eq_true q122
    go_wp2
    go_roundg k1
    case measure => have := HK1.out; omega
    case rel => exact ⟨(wrap64 (x5_1 + 1)), (by first | rfl | (simp; done) | (simp [*]; done)), H', ⟨by have := HK1.out; omega⟩, ⟨by (with_reducible repeat (first | apply Kd.R_alloc | apply Kd.R_drewN | apply Kd.R_drew)); exact HO_4.out⟩, ⟨by repeat (first | (with_reducible first | exact HB.out | apply below_alloc | apply pw_below_drewN | apply below_drew1) | exact HB.out)⟩⟩
/-! ### spec_ReadOp: function 13 -/
def spec_ReadOp.f (k : Nat) (a0 : ByteArray) : Option (Int × Bool) := (spec_l01ReadOp.f k a0).bind fun bt123 => (some (bt123.1, bt123.2))
theorem spec_ReadOp.mono : ∀ a0 k, LeO (spec_ReadOp.f k a0) (spec_ReadOp.f (k + 1) a0) := by
 intro a0 k
 unfold spec_ReadOp.f
 repeat' first
   | (with_reducible exact spec_l01ReadOp.mono _ _)
   | (with_reducible exact LeO.refl _)
   | (with_reducible exact LeO.none _)
   | (with_reducible refine LeO.ite ?_ ?_)
   | (with_reducible refine LeO.bind ?_ (fun _ => ?_))
   | exact spec_l01ReadOp.mono _ _
   | exact LeO.none _
   | refine LeO.ite ?_ ?_
   | refine LeO.bind ?_ (fun _ => ?_)
set_option maxHeartbeats 8000000 in
set_option maxRecDepth 100000 in
theorem spec_ReadOp.calls (k : Nat) (a0 : ByteArray) (r1 : Int) (r2 : Bool) (w : World) (h : spec_ReadOp.f k a0 = some (r1, r2)) :
  Calls Tryd.prog 13 #[.string a0] w fun e w' => e = .returned (.tuple #[.int .i64 r1, .bool r2]) ∧ Below w.heap.size w w' := by
 have HB := Aside0.mk (Below.refl w.heap.size w)
 have H : ((spec_l01ReadOp.f k a0).bind fun bt123 => (some (bt123.1, bt123.2))) = some (r1, r2) := h
 clear h
 replace H := Option.bind_eq_some_iff.mp H
 obtain ⟨⟨t123, t124⟩, A20, H⟩ := H
 try dsimp only at H
 have A2 := Aside0.mk A20
 clear A20
 simp only [Option.some.injEq, Prod.mk.injEq] at H
 obtain ⟨rfl, rfl⟩ := H
 go_enter Tryd.func13, Tryd.ntmps13
 go_wp2_with (first | ((with_reducible refine gate_callee (f := 38) rfl ?_); refine goesL_ (some 5) rfl rfl Tryd.func38 (by kernel_rfl) rfl #[.string a0] rfl (by (try simp only [List.map_toArray, List.map_cons, List.map_nil]); first | done | rfl | (simp only [List.length_drop, List.length_take]; rfl)) ?_; (with_reducible refine (spec_l01ReadOp.calls k a0 t123 t124 _ A2.out).mono ?_); rintro e w3 ⟨rfl, hb⟩; refine ⟨_, rfl, ?_⟩; have n0_ := Aside0.mk (below_step (by repeat (first | (with_reducible first | exact HB.out | apply below_alloc | apply pw_below_drewN | apply below_drew1) | exact HB.out)) hb); clear HB; have HB := n0_; clear n0_; (try clear hb); (try clear hb2); (try clear hk); (try clear hi)))
 go_ret2
 exact ⟨by first | rfl | (simp [errW_none, errW_some] <;> rfl) | (simp [*, errW_none, errW_some] <;> rfl), by repeat (first | (with_reducible first | exact HB.out | apply below_alloc | apply pw_below_drewN | apply below_drew1) | exact HB.out)⟩

/-! ### impl_ReadOp: function 14 -/
def impl_ReadOp.f (k : Nat) (a0 : ByteArray) : Option (Int × Bool) := some (if Lib.idxOfS opS a0 < 0 then (0, false) else (Lib.idxOfS opS a0, true))
theorem impl_ReadOp.mono : ∀ a0 k, LeO (impl_ReadOp.f k a0) (impl_ReadOp.f (k + 1) a0) := fun _ _ => LeO.refl _
theorem impl_ReadOp.calls (k : Nat) (a0 : ByteArray) (r1 : Int) (r2 : Bool) (w : World) (h : impl_ReadOp.f k a0 = some (r1, r2)) (hT : TabF w) :
  Calls Tryd.prog 14 #[.string a0] w fun e w' => e = .returned (.tuple #[.int .i64 r1, .bool r2]) ∧ Below w.heap.size w w' := by
 unfold impl_ReadOp.f at h
 replace h := Option.some.inj h
 have hcon := opTexts_c w hT
 have hix := Tryd.slices_Index_string w.heap.size 0 18 18 opS a0 (w.alloc (.cells (opS.map Value.string).toArray 9)) (by decide) (by decide) (fun j hj => by rw [Nat.zero_add]; exact op_cell w j hj)
 rw [show opS.take 18 = opS from rfl] at hix
 clear hT
 generalize (opS.map Value.string).toArray = L at hcon hix
 generalize Lib.idxOfS opS a0 = n at h hix
 by_cases hn : n < 0
 ·rw [if_pos hn] at h
  obtain ⟨rfl, rfl⟩ := Prod.mk.inj h
  clear h
  go_enter Tryd.func14, Tryd.ntmps14
  go_wp2_with (first | (go_at_call 37; refine hcon.mono ?_; rintro e w' ⟨rfl, rfl⟩) | (go_at_call 39; refine hix.mono ?_; rintro e w' ⟨rfl, rfl⟩))
  go_ret2
  exact ⟨rfl, (Below.refl _ _).alloc (Nat.le_refl _) _⟩
 rw [if_neg hn] at h
 obtain ⟨rfl, rfl⟩ := Prod.mk.inj h
 clear h
 go_enter Tryd.func14, Tryd.ntmps14
 go_wp2_with (first | (go_at_call 37; refine hcon.mono ?_; rintro e w' ⟨rfl, rfl⟩) | (go_at_call 39; refine hix.mono ?_; rintro e w' ⟨rfl, rfl⟩))
 go_ret2
 exact ⟨rfl, (Below.refl _ _).alloc (Nat.le_refl _) _⟩

/-! ### laws_FnExactReadOp: function 4 -/
def laws_FnExactReadOp.f (k : Nat) (a0 : ByteArray) : Option (Bool) := if (a0.size : Int) > 1048576 then (some true) else ((spec_ReadOp.f k a0).bind fun bt127 => ((impl_ReadOp.f k a0).bind fun bt129 => (if bt129.1 = bt127.1 then (if (bt129.2 != bt127.2) = true then (some false) else (some true)) else (some false))))
theorem laws_FnExactReadOp.mono : ∀ a0 k, LeO (laws_FnExactReadOp.f k a0) (laws_FnExactReadOp.f (k + 1) a0) := by
 intro a0 k
 unfold laws_FnExactReadOp.f
 repeat' first
   | (with_reducible exact impl_ReadOp.mono _ _)
   | (with_reducible exact spec_ReadOp.mono _ _)
   | (with_reducible exact LeO.refl _)
   | (with_reducible exact LeO.none _)
   | (with_reducible refine LeO.ite ?_ ?_)
   | (with_reducible refine LeO.bind ?_ (fun _ => ?_))
   | exact impl_ReadOp.mono _ _
   | exact spec_ReadOp.mono _ _
   | exact LeO.none _
   | refine LeO.ite ?_ ?_
   | refine LeO.bind ?_ (fun _ => ?_)
set_option maxHeartbeats 8000000 in
set_option maxRecDepth 100000 in
theorem laws_FnExactReadOp.calls (k : Nat) (a0 : ByteArray) (r : Bool) (w : World) (h : laws_FnExactReadOp.f k a0 = some r) (hrtrue : r = true) (hT : TabF w) :
  Calls Tryd.prog 4 #[.string a0] w fun e w' => e = .returned (.bool r) ∧ Below w.heap.size w w' := by
 have HT := Aside0.mk hT
 clear hT
 have HB := Aside0.mk (Below.refl w.heap.size w)
 have H : (if (a0.size : Int) > 1048576 then (some true) else ((spec_ReadOp.f k a0).bind fun bt127 => ((impl_ReadOp.f k a0).bind fun bt129 => (if bt129.1 = bt127.1 then (if (bt129.2 != bt127.2) = true then (some false) else (some true)) else (some false))))) = some r := h
 clear h
 have HRT := Aside0.mk hrtrue
 clear hrtrue
 by_cases c2 : (a0.size : Int) > 1048576
 ·rw [if_pos c2] at H
  have c2b0 : decide (1048576 < (a0.size : Int)) = true := decide_eq_true c2
  have c2b1 : decide (1048576 < a0.size) = true := decide_eq_true (by omega)
  clear c2
  obtain rfl := Option.some.inj H
  go_enter Tryd.func4, Tryd.ntmps4
  go_wp2
  go_ret
  exact ⟨by first | rfl | (simp [errW_none, errW_some] <;> rfl) | (simp [*, errW_none, errW_some] <;> rfl), by repeat (first | (with_reducible first | exact HB.out | apply below_alloc | apply pw_below_drewN | apply below_drew1) | exact HB.out)⟩
 rw [if_neg c2] at H
 have c2b0 : decide (1048576 < (a0.size : Int)) = false := decide_eq_false c2
 have c2b1 : decide (1048576 < a0.size) = false := decide_eq_false (by omega)
 clear c2
 replace H := Option.bind_eq_some_iff.mp H
 obtain ⟨⟨t127, t128⟩, A30, H⟩ := H
 try dsimp only at H
 have A3 := Aside0.mk A30
 clear A30
 replace H := Option.bind_eq_some_iff.mp H
 obtain ⟨⟨t129, t130⟩, A40, H⟩ := H
 try dsimp only at H
 have A4 := Aside0.mk A40
 clear A40
 by_cases c5 : t129 = t127
 rotate_left
 ·rw [if_neg c5] at H
  have c5b0 : (t129 == t127) = false := beq_eq_false_iff_ne.mpr c5
  have c5b1 : (t129 != t127) = true := bne_iff_ne.mpr c5
  obtain rfl := Option.some.inj H
  exact absurd HRT.out (by decide)

 rw [if_pos c5] at H
 have c5b0 : (t129 == t127) = true := beq_iff_eq.mpr c5
 have c5b1 : (t129 != t127) = false := bne_eq_false_iff_eq.mpr c5
 clear c5
 by_cases c6 : (t130 != t128) = true
 ·rw [if_pos c6] at H
  have c6b0 : (t130 != t128) = true := c6
  (try (have c6b1 : decide (t130 = t128) = false := by simpa using c6))
  (try (have c6b2 : (t130 == t128) = false := by simpa using c6))
  (try (have c6b3 : ¬ (t130 = t128) := by simpa using c6))
  clear c6
  obtain rfl := Option.some.inj H
  exact absurd HRT.out (by decide)
 rw [if_neg c6] at H
 have c6b0 : (t130 != t128) = false := by simpa using c6
 (try (have c6b1 : decide (t130 = t128) = true := by simpa using c6))
 (try (have c6b2 : (t130 == t128) = true := by simpa using c6))
 clear c6
 obtain rfl := Option.some.inj H
 go_enter Tryd.func4, Tryd.ntmps4
 go_wp2_with (first | ((with_reducible refine gate_callee (f := 13) rfl ?_); refine goesL_ (some 12) rfl rfl Tryd.func13 (by kernel_rfl) rfl #[.string a0] rfl (by (try simp only [List.map_toArray, List.map_cons, List.map_nil]); first | done | rfl | (simp only [List.length_drop, List.length_take]; rfl)) ?_; (with_reducible refine (spec_ReadOp.calls k a0 t127 t128 _ A3.out).mono ?_); rintro e w7 ⟨rfl, hb⟩; refine ⟨_, rfl, ?_⟩; have n0_ := Aside0.mk (below_step (by repeat (first | (with_reducible first | exact HB.out | apply below_alloc | apply pw_below_drewN | apply below_drew1) | exact HB.out)) hb); clear HB; have HB := n0_; clear n0_; (try clear hb); (try clear hb2); (try clear hk); (try clear hi)) | ((with_reducible refine gate_callee (f := 14) rfl ?_); refine goesL_ (some 17) rfl rfl Tryd.func14 (by kernel_rfl) rfl #[.string a0] rfl (by (try simp only [List.map_toArray, List.map_cons, List.map_nil]); first | done | rfl | (simp only [List.length_drop, List.length_take]; rfl)) ?_; (with_reducible refine (impl_ReadOp.calls k a0 t129 t130 _ A4.out (HT.out.below (by repeat (first | (with_reducible first | exact HB.out | apply below_alloc | apply pw_below_drewN | apply below_drew1) | exact HB.out)))).mono ?_); rintro e w8 ⟨rfl, hb⟩; refine ⟨_, rfl, ?_⟩; have n0_ := Aside0.mk (below_step (by repeat (first | (with_reducible first | exact HB.out | apply below_alloc | apply pw_below_drewN | apply below_drew1) | exact HB.out)) hb); clear HB; have HB := n0_; clear n0_; (try clear hb); (try clear hb2); (try clear hk); (try clear hi)))
 go_ret
 exact ⟨by first | rfl | (simp [errW_none, errW_some] <;> rfl) | (simp [*, errW_none, errW_some] <;> rfl), by repeat (first | (with_reducible first | exact HB.out | apply below_alloc | apply pw_below_drewN | apply below_drew1) | exact HB.out)⟩
/-- THE ONE PURE STATEMENT of laws_FnExactReadOp: yours. -/
def laws_FnExactReadOp.Pure : Prop := ∀ (a0 : ByteArray), a0.size ≤ 140737488351232 → ∃ k, laws_FnExactReadOp.f k a0 = some true
theorem laws_FnExactReadOp.walk (P : laws_FnExactReadOp.Pure) (a0 : ByteArray) (w : World) (w0 : a0.size ≤ 140737488351232) (hT : TabF w) :
  Calls Tryd.prog 4 #[.string a0] w fun e w' => e = .returned (.bool true) ∧ Below w.heap.size w w' := by
 obtain ⟨k, h⟩ := P a0 w0
 refine (laws_FnExactReadOp.calls k a0 true w h rfl hT).mono ?_
 rintro e w' ⟨rfl, hd⟩
 exact ⟨rfl, hd⟩

end Go.Proofs.YtgaemhbffdlbaaaDoor.K
