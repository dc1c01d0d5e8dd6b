-- Laid by a program of this session.
import Derived.Test.YteknfebehafbdaaK0
import Derived.Test.YteknfebehafbdaaK4
import Derived.Test.YteknfebehafbdaaH0
import Derived.Test.YteknfebehafbdaaH7
import Derived.Test.YteknfebehafbdaaH6
import Derived.Test.YteknfebehafbdaaH4
import Derived.Test.YteknfebehafbdaaK1
import Derived.Test.YteknfebehafbdaaK22
namespace Go.Proofs.Yteknfebehafbdaa.K
open Go.RowKit Go.Proofs.YteknfebehafbdaaW.PrintWords Go.Proofs.YteknfebehafbdaaW.PrintLast Go.Proofs.YteknfebehafbdaaW.PrintMore Go.Proofs.Yteknfebehafbdaa.Bx Go.Shelf
attribute [local go_sem] max2_int min2_int max_two min_two max_three min_three max_four min_four   -- for this text's walks alone
set_option linter.unusedVariables false
set_option linter.unusedSimpArgs false

/-! ### impl_NeededFor: function 48 -/
/-- The marks of the first i cells of a list. -/
def lvm (c : List Int) : Nat → Nat → Bool
 | 0 => fun _ => false
 | i + 1 => put (lvm c i) (rd c (i : Int)) true
/-- The marks and the list of statements, behind x statements from the end. -/
def ndd (l : List S58) (m : Nat → Bool) : Nat → (Nat → Bool) × List Int
 | 0 => (m, [])
 | x + 1 => if (ndd l m x).1 (rd_T58 l ((l.length : Int) - 1 - (x : Int))).f1.toNat = true then (put (put (put (ndd l m x).1 (rd_T58 l ((l.length : Int) - 1 - (x : Int))).f1 false) (rd_T58 l ((l.length : Int) - 1 - (x : Int))).f2 true) (rd_T58 l ((l.length : Int) - 1 - (x : Int))).f3 true, (ndd l m x).2 ++ [(l.length : Int) - 1 - (x : Int)]) else ndd l m x
theorem ndd_len (l : List S58) (m : Nat → Bool) (x : Nat) : (ndd l m x).2.length ≤ x := by
 induction x with
 | zero => simp [ndd]
 | succ x ih =>
  unfold ndd
  split
  ·simp; omega
  ·omega
theorem ndd_t {l : List S58} {m : Nat → Bool} {x i : Nat} (hi : (l.length : Int) - 1 - (x : Int) = (i : Int)) (h : (ndd l m x).1 (rd_T58 l (i : Int)).f1.toNat = true) : ndd l m (x + 1) = (put (put (put (ndd l m x).1 (rd_T58 l (i : Int)).f1 false) (rd_T58 l (i : Int)).f2 true) (rd_T58 l (i : Int)).f3 true, (ndd l m x).2 ++ [(i : Int)]) := by
 conv => lhs; unfold ndd
 rw [hi, if_pos h]
theorem ndd_f {l : List S58} {m : Nat → Bool} {x i : Nat} (hi : (l.length : Int) - 1 - (x : Int) = (i : Int)) (h : (ndd l m x).1 (rd_T58 l (i : Int)).f1.toNat = false) : ndd l m (x + 1) = ndd l m x := by
 conv => lhs; unfold ndd
 rw [hi, if_neg (by rw [h]; decide)]
def celAll (c : List Int) : Bool := (List.range c.length).all fun j => cellB (rd c (j : Int))
theorem celAll_at {c : List Int} (h : celAll c = true) {j : Nat} (hj : j < c.length) : 0 ≤ rd c (j : Int) ∧ rd c (j : Int) ≤ 31 := by
 unfold celAll at h
 rw [List.all_eq_true] at h
 exact cellB_iff.mp (h j (List.mem_range.mpr hj))
def impl_NeededFor.f (k : Nat) (l0 : List (S58)) (l1 : List Int) : Option (List Int × Bool) := if vOk l0 = true then ((impl_isSet.f k l1).bind fun t => if t = true then (if celAll l1 = true then ((slices_Reverse_int64_int64.f k (ndd l0 (lvm l1 l1.length) l0.length).2).bind fun r => some (r, true)) else some ([], false)) else some ([], false)) else some ([], false)
theorem impl_NeededFor.mono : ∀ a0 a1 k, LeO (impl_NeededFor.f k a0 a1) (impl_NeededFor.f (k + 1) a0 a1) := by
 intro a0 a1 k
 unfold impl_NeededFor.f
 refine LeO.ite ?_ (LeO.refl _)
 refine LeO.bind (impl_isSet.mono _ _) (fun _ => ?_)
 refine LeO.ite (LeO.ite ?_ (LeO.refl _)) (LeO.refl _)
 exact LeO.bind (slices_Reverse_int64_int64.mono _ _) (fun _ => LeO.refl _)
theorem Arr_far' {w : World} {base g : Nat} {m : Nat → Bool} (h : Arr w base g m) {p : Addr} (hp : g ≠ p.block) (u : Value) : Arr (w.setCell p u) base g m :=
 Kd.R_mono (Kd.R_far (Kd.R_tight rfl h) (p := p) (fun k hk => by injection hk with hk; rw [hk]; exact hp) u) (fun _ _ => trivial)
theorem Arr_lt' {w : World} {base g : Nat} {m : Nat → Bool} (h : Arr w base g m) : g < w.heap.size := by
 have := Arr_heap h
 exact (Array.getElem?_eq_some_iff.mp this).1
theorem isCell_any (x : Int) (W : World) : Calls Try.prog 65 (#[.int .i64 x] ++ #[]) W fun e w' => e = .returned (.bool (cellB x)) ∧ Below W.heap.size W w' := by
 refine (impl_isCell.calls x (cellB x) W ?_).mono ?_
 ·exact iCell x
 ·rintro e w' ⟨rfl, ⟨nd, rfl⟩⟩
  exact ⟨rfl, pw_below_drewN (Below.refl _ _) _⟩
set_option maxHeartbeats 16000000 in
set_option maxRecDepth 100000 in
theorem impl_NeededFor.calls (k : Nat) (A0 : Option Addr) (c0 : Nat) (l0 : List (S58)) (A1 : Option Addr) (c1 : Nat) (l1 : List Int) (r1 : List Int) (r2 : Bool) (w : World) (hr0 : Kd.C k58 w A0 l0.length l0) (hc0 : l0.length ≤ c0) (hr1 : Kd.C (Kd.int .i64) w A1 l1.length l1) (hc1 : l1.length ≤ c1) (h : impl_NeededFor.f k l0 l1 = some (r1, r2)) :
  Calls Try.prog 48 #[.slice A0 l0.length c0, .slice A1 l1.length c1] w fun e w' => ∃ v0_ : Value, e = .returned (.tuple #[v0_, .bool r2]) ∧ Kd.R (Kd.int .i64) 2 w' w.heap.size (fun _ => True) v0_ r1 ∧ Below w.heap.size w w' := by
 unfold impl_NeededFor.f at h
 have HR := Aside0.mk hr0
 have HC := Aside0.mk hc0
 have HR1 := Aside0.mk hr1
 have HC1 := Aside0.mk hc1
 have HBZ := Aside0.mk (Below.refl w.heap.size w)
 have hA := fun (W : World) (hB : Below w.heap.size w W) =>
  areAll_i 65 #[] (enters_of Try.func65 (by kernel_rfl) rfl) A1 l1.length c1 _ (fun j => cellB (rd l1 (j : Int))) W
   (ElemsI.of_ints (Kd.C_below hr1 hB)) (fun j hj W' hb' => isCell_any (rd l1 (j : Int)) W')
 have HA := Aside0.mk hA
 clear hr0 hc0 hr1 hc1 hA
 by_cases hx : vOk l0 = true
 rotate_left
 ·rw [if_neg hx] at h
  obtain ⟨rfl, rfl⟩ := Prod.mk.inj (Option.some.inj h)
  have HV : Aside0 (impl_ValidCode.f 0 l0 = some false) := ⟨by rw [Bool.not_eq_true] at hx; rw [← hx]; rfl⟩
  clear hx h
  go_enter Try.func48, Try.ntmps48
  go_wp2_with (first | (go_at_call 21; (with_reducible refine (impl_ValidCode.calls 0 A0 c0 l0 false _ ?s1 HC.out HV.out).mono ?_); (case s1 => exact Kd.C_below HR.out (by repeat (first | exact HBZ.out | apply below_alloc | apply pw_below_drewN | apply below_drew1))); rintro e w1 ⟨rfl, hb1⟩; have n0_ : Aside0 (Below w.heap.size w w1) := ⟨below_step (by repeat (first | exact HBZ.out | apply below_alloc | apply pw_below_drewN | apply below_drew1)) hb1⟩; clear hb1 HBZ; have HBZ := n0_; clear n0_))
  go_ret2
  exact ⟨_, rfl, Kd.R_nil _ _ _ _ _, (by repeat (first | exact HBZ.out | apply below_alloc | apply pw_below_drewN | apply below_drew1))⟩
 rw [if_pos hx] at h
 have HL := Aside0.mk (vOk_len hx)
 have HX := Aside0.mk hx
 have HV : Aside0 (impl_ValidCode.f 0 l0 = some true) := ⟨by rw [← hx]; rfl⟩
 clear hx
 obtain ⟨t, ht, h2⟩ := Option.bind_eq_some_iff.mp h
 clear h
 try dsimp only at h2
 by_cases hs : t = true
 rotate_left
 ·rw [if_neg hs] at h2
  rw [Bool.not_eq_true] at hs
  subst hs
  obtain ⟨rfl, rfl⟩ := Prod.mk.inj (Option.some.inj h2)
  have HT := Aside0.mk ht
  clear ht h2
  go_enter Try.func48, Try.ntmps48
  go_wp2_with (first | (go_at_call 21; (with_reducible refine (impl_ValidCode.calls 0 A0 c0 l0 true _ ?s1 HC.out HV.out).mono ?_); (case s1 => exact Kd.C_below HR.out (by repeat (first | exact HBZ.out | apply below_alloc | apply pw_below_drewN | apply below_drew1))); rintro e w1 ⟨rfl, hb1⟩; have n0_ : Aside0 (Below w.heap.size w w1) := ⟨below_step (by repeat (first | exact HBZ.out | apply below_alloc | apply pw_below_drewN | apply below_drew1)) hb1⟩; clear hb1 HBZ; have HBZ := n0_; clear n0_) | (go_at_call 85; (with_reducible refine (impl_isSet.calls k _ c1 l1 false _ ?s2 HC1.out HT.out).mono ?_); (case s2 => exact Kd.C_below HR1.out (by repeat (first | exact HBZ.out | apply below_alloc | apply pw_below_drewN | apply below_drew1))); rintro e w' ⟨rfl, ⟨nd, rfl⟩⟩))
  go_ret2
  exact ⟨_, rfl, Kd.R_nil _ _ _ _ _, (by repeat (first | exact HBZ.out | apply below_alloc | apply pw_below_drewN | apply below_drew1))⟩
 rw [if_pos hs] at h2
 subst hs
 have HT := Aside0.mk ht
 clear ht
 by_cases hq : celAll l1 = true
 rotate_left
 ·rw [if_neg hq] at h2
  rw [Bool.not_eq_true] at hq
  unfold celAll at hq
  rw [hq] at HA
  obtain ⟨rfl, rfl⟩ := Prod.mk.inj (Option.some.inj h2)
  clear h2 hq
  go_enter Try.func48, Try.ntmps48
  go_wp2_with (first | (go_at_call 21; (with_reducible refine (impl_ValidCode.calls 0 A0 c0 l0 true _ ?s1 HC.out HV.out).mono ?_); (case s1 => exact Kd.C_below HR.out (by repeat (first | exact HBZ.out | apply below_alloc | apply pw_below_drewN | apply below_drew1))); rintro e w1 ⟨rfl, hb1⟩; have n0_ : Aside0 (Below w.heap.size w w1) := ⟨below_step (by repeat (first | exact HBZ.out | apply below_alloc | apply pw_below_drewN | apply below_drew1)) hb1⟩; clear hb1 HBZ; have HBZ := n0_; clear n0_) | (go_at_call 85; (with_reducible refine (impl_isSet.calls k _ c1 l1 true _ ?s2 HC1.out HT.out).mono ?_); (case s2 => exact Kd.C_below HR1.out (by repeat (first | exact HBZ.out | apply below_alloc | apply pw_below_drewN | apply below_drew1))); rintro e w' ⟨rfl, ⟨nd, rfl⟩⟩) | (go_at_call 86; refine (HA.out _ (by repeat (first | exact HBZ.out | apply below_alloc | apply pw_below_drewN | apply below_drew1))).mono ?_; rintro e w3 ⟨rfl, hb3⟩; have n0_ : Aside0 (Below w.heap.size w w3) := ⟨below_step (by repeat (first | exact HBZ.out | apply below_alloc | apply pw_below_drewN | apply below_drew1)) hb3⟩; clear hb3 HBZ; have HBZ := n0_; clear n0_))
  go_ret2
  exact ⟨_, rfl, Kd.R_nil _ _ _ _ _, (by repeat (first | exact HBZ.out | apply below_alloc | apply pw_below_drewN | apply below_drew1))⟩
 rw [if_pos hq] at h2
 obtain ⟨rr, hrv, h3⟩ := Option.bind_eq_some_iff.mp h2
 clear h2
 try dsimp only at h3
 obtain ⟨rfl, rfl⟩ := Prod.mk.inj (Option.some.inj h3)
 have HQ := Aside0.mk hq
 have HRV := Aside0.mk hrv
 unfold celAll at hq
 rw [hq] at HA
 clear h3 hq hrv
 go_enter Try.func48, Try.ntmps48
 go_wp2_with (first | (go_at_call 21; (with_reducible refine (impl_ValidCode.calls 0 A0 c0 l0 true _ ?s1 HC.out HV.out).mono ?_); (case s1 => exact Kd.C_below HR.out (by repeat (first | exact HBZ.out | apply below_alloc | apply pw_below_drewN | apply below_drew1))); rintro e w1 ⟨rfl, hb1⟩; have n0_ : Aside0 (Below w.heap.size w w1) := ⟨below_step (by repeat (first | exact HBZ.out | apply below_alloc | apply pw_below_drewN | apply below_drew1)) hb1⟩; clear hb1 HBZ; have HBZ := n0_; clear n0_) | (go_at_call 85; (with_reducible refine (impl_isSet.calls k _ c1 l1 true _ ?s2 HC1.out HT.out).mono ?_); (case s2 => exact Kd.C_below HR1.out (by repeat (first | exact HBZ.out | apply below_alloc | apply pw_below_drewN | apply below_drew1))); rintro e w' ⟨rfl, ⟨nd, rfl⟩⟩) | (go_at_call 86; refine (HA.out _ (by repeat (first | exact HBZ.out | apply below_alloc | apply pw_below_drewN | apply below_drew1))).mono ?_; rintro e w3 ⟨rfl, hb3⟩; have n0_ : Aside0 (Below w.heap.size w w3) := ⟨below_step (by repeat (first | exact HBZ.out | apply below_alloc | apply pw_below_drewN | apply below_drew1)) hb3⟩; clear hb3 HBZ; have HBZ := n0_; clear n0_))
 have HAr : Aside0 (Arr (w3.alloc (.cells (mk32 fun _ => false) 79)) w.heap.size w3.heap.size (lvm l1 0)) := ⟨Arr_new w3 _ (below_size HBZ.out) _⟩
 have HB2 : Aside0 (Below w.heap.size w (w3.alloc (.cells (mk32 fun _ => false) 79))) := ⟨below_alloc HBZ.out _⟩
 unfold mk32 at HAr HB2
 generalize w3.alloc _ = w4 at HAr HB2 ⊢
 generalize w3.heap.size = g at HAr ⊢
 clear HBZ HA
 have HN1 : Aside0 (l1.length ≤ 9223372036854775807) := ⟨HR1.out.2.1⟩
 go_loopg [8, 27] l1.length (fun kq v8 v27 w' => ∃ x : Nat, v27 = .int .i64 (x : Int) ∧ Aside0 (Arr w' w.heap.size g (lvm l1 x)) ∧ Aside0 (x ≤ l1.length) ∧ Aside0 (l1.length - x ≤ kq) ∧ Aside0 (Below w.heap.size w w'))
 case atStart => exact ⟨0, rfl, HAr, ⟨Nat.zero_le _⟩, ⟨by simp⟩, HB2⟩
 case round =>
  clear HAr HB2
  obtain ⟨x, rfl, HAr, H1, HK, HB⟩ := hrel
  by_cases c3 : (x : Int) < (l1.length : Int)
  ·have hxl : x < l1.length := by omega
   obtain ⟨d0, d1⟩ := celAll_at HQ.out hxl
   have c6 : 0 ≤ (x : Int) := Int.natCast_nonneg _
   obtain ⟨ad, e1, hx0⟩ := Kd.at_int (Kd.C_below HR1.out HB.out) (x : Int) c6 c3
   cases e1
   rw [Int.toNat_natCast] at hx0
   have HW : Aside0 (wrap64 ((x : Int) + 1) = ((x + 1 : Nat) : Int)) := ⟨by have := HN1.out; unfold wrap64; omega⟩
   have HX2 := Aside0.mk hxl
   have c3b0 : decide ((x : Int) < (l1.length : Int)) = true := decide_eq_true c3
   have D0 := Aside0.mk d0
   have D1 := Aside0.mk d1
   obtain ⟨hc, hf⟩ := Arr_cell HAr.out _ d0 d1
   have d32 : rd l1 (x : Int) < 32 := by omega
   clear hxl
   go_wp2
   go_roundg (l1.length - (x + 1))
   case measure => have := HK.out; have := HX2.out; omega
   case rel =>
    have := HX2.out
    exact ⟨x + 1, by first | rfl | rw [HW.out], ⟨Arr_put HAr.out _ D0.out D1.out true⟩, ⟨by omega⟩, ⟨by omega⟩, ⟨below_set HB.out (Arr_base HAr.out)⟩⟩
  ·have c3b0 : decide ((x : Int) < (l1.length : Int)) = false := decide_eq_false c3
   have HX2 : Aside0 (x = l1.length) := ⟨by have := H1.out; omega⟩
   have c3n : (x < l1.length) = False := eq_false (by omega)
   clear c3
   have hAr2 := HAr.out
   rw [HX2.out] at hAr2
   have HAr2 := Aside0.mk hAr2
   clear HAr hAr2
   have HW0 : Aside0 (wrap64 ((l0.length : Int) - 1) = (l0.length : Int) - 1 - ((0 : Nat) : Int)) := ⟨by have := HL.out; unfold wrap64; omega⟩
   go_wp2
   go_loopg [9, 10, 11] l0.length (fun kq v9 v10 v11 w' => ∃ y : Nat, v10 = .int .i64 ((l0.length : Int) - 1 - (y : Int)) ∧ Aside0 (Arr w' w.heap.size g (ndd l0 (lvm l1 l1.length) y).1) ∧ Aside0 (Kd.R (Kd.int .i64) 2 w' w.heap.size (fun k_ => k_ ≠ g) v9 (ndd l0 (lvm l1 l1.length) y).2) ∧ Aside0 (y ≤ l0.length) ∧ Aside0 (l0.length - y ≤ kq) ∧ Aside0 (Below w.heap.size w w'))
   case atStart => exact ⟨0, by first | rfl | rw [HW0.out], HAr2, ⟨Kd.R_nil _ _ _ _ _⟩, ⟨Nat.zero_le _⟩, ⟨by simp⟩, HB⟩
   case round =>
    clear HAr2 HB
    obtain ⟨y, rfl, HAr, HO, HY, HKY, HB⟩ := hrel
    by_cases c4 : (l0.length : Int) - 1 - (y : Int) ≥ 0
    rotate_left
    ·have HYX : Aside0 (y = l0.length) := ⟨by have := HY.out; omega⟩
     have hm1 : (l0.length : Int) - 1 - (y : Int) = -1 := by have := HYX.out; omega
     rw [hm1]
     clear c4 hm1
     go_wp2_with (first | (go_at_call 87; refine (slices_Reverse_int64_int64.calls k (fun k_ => k_ ≠ g) _ (ndd l0 (lvm l1 l1.length) l0.length).2 rr w _ HB.out ?s1 HRV.out).mono ?_; (case s1 => have := HO.out; rw [HYX.out] at this; exact this); rintro e w' ⟨rfl, ho, hb, _⟩))
     go_ret2
     exact ⟨_, rfl, Kd.R_mono ho (fun _ _ => trivial), hb⟩

    have hyl : y < l0.length := by omega
    have HYL := Aside0.mk hyl
    obtain ⟨i, hi⟩ : ∃ i : Nat, (l0.length : Int) - 1 - (y : Int) = (i : Int) := ⟨l0.length - 1 - y, by omega⟩
    have hil : i < l0.length := by omega
    obtain ⟨_, ⟨d0, d1⟩, ⟨a0, a1⟩, b0, b1⟩ := vOk_at HX.out hil
    have HI := Aside0.mk hi
    rw [hi] at c4 ⊢
    have c6 : 0 ≤ (i : Int) := Int.natCast_nonneg _
    obtain ⟨ad, e1, hx0, hx1, hx2, hx3⟩ := at_T58 (Kd.C_below HR.out HB.out) (i : Int) c6 (by omega)
    cases e1
    rw [Int.toNat_natCast] at hx0 hx1 hx2 hx3
    have hil2 : (i : Int) < (l0.length : Int) := by omega
    have D0 := Aside0.mk d0
    have D1 := Aside0.mk d1
    have E0 := Aside0.mk a0
    have E1 := Aside0.mk a1
    have F0 := Aside0.mk b0
    have F1 := Aside0.mk b1
    have hwd : (rd_T58 l0 (i : Int)).f1 < 32 := by omega
    have hwa : (rd_T58 l0 (i : Int)).f2 < 32 := by omega
    have hwb : (rd_T58 l0 (i : Int)).f3 < 32 := by omega
    have HW : Aside0 (wrap64 ((i : Int) - 1) = (l0.length : Int) - 1 - ((y + 1 : Nat) : Int)) := ⟨by have := HL.out; unfold wrap64; omega⟩
    have hA2 := Aside0.mk (fun o => Arr_below HAr.out (below_alloc (Below.refl _ _) o))
    have hc : ∀ o, (wr.alloc o).cell? ⟨g, ((rd_T58 l0 (i : Int)).f1).toNat, none⟩ = some (.bool ((ndd l0 (lvm l1 l1.length) y).1 ((rd_T58 l0 (i : Int)).f1).toNat)) := fun o => (Arr_cell (hA2.out o) _ d0 d1).1
    have hf : ∀ o, (wr.alloc o).frozen? ⟨g, ((rd_T58 l0 (i : Int)).f1).toNat, none⟩ = false := fun o => (Arr_cell (hA2.out o) _ d0 d1).2
    clear hi hyl
    cases hm : (ndd l0 (lvm l1 l1.length) y).1 ((rd_T58 l0 (i : Int)).f1).toNat with
    | true =>
     rw [hm] at hc
     have HM := Aside0.mk hm
     clear hm
     go_wp2
     have hgs := Arr_lt' HAr.out
     have HGS := Aside0.mk hgs
     have HA5 : Aside0 (Arr ((wr.alloc (.cells #[.int .i64 (rd_T58 l0 (i : Int)).f0, .int .i64 (rd_T58 l0 (i : Int)).f1, .int .i64 (rd_T58 l0 (i : Int)).f2, .int .i64 (rd_T58 l0 (i : Int)).f3] 58)).setCell ⟨g, ((rd_T58 l0 (i : Int)).f1).toNat, none⟩ (.bool false)) w.heap.size g (put (ndd l0 (lvm l1 l1.length) y).1 (rd_T58 l0 (i : Int)).f1 false)) := ⟨Arr_put (hA2.out _) _ D0.out D1.out false⟩
     have HC5 : Aside0 (C2k ((wr.alloc (.cells #[.int .i64 (rd_T58 l0 (i : Int)).f0, .int .i64 (rd_T58 l0 (i : Int)).f1, .int .i64 (rd_T58 l0 (i : Int)).f2, .int .i64 (rd_T58 l0 (i : Int)).f3] 58)).setCell ⟨g, ((rd_T58 l0 (i : Int)).f1).toNat, none⟩ (.bool false)) wr.heap.size (rd_T58 l0 (i : Int)).f2 (rd_T58 l0 (i : Int)).f3) := ⟨C2k_far (C2k_new wr _ _ _ _) hgs _⟩
     have HO5 : Aside0 (Kd.R (Kd.int .i64) 2 ((wr.alloc (.cells #[.int .i64 (rd_T58 l0 (i : Int)).f0, .int .i64 (rd_T58 l0 (i : Int)).f1, .int .i64 (rd_T58 l0 (i : Int)).f2, .int .i64 (rd_T58 l0 (i : Int)).f3] 58)).setCell ⟨g, ((rd_T58 l0 (i : Int)).f1).toNat, none⟩ (.bool false)) w.heap.size (fun k_ => k_ ≠ g) u9 (ndd l0 (lvm l1 l1.length) y).2) := ⟨Kd.R_far (Kd.R_alloc HO.out _) (fun k_ hk => hk) _⟩
     have HB5 : Aside0 (Below w.heap.size w ((wr.alloc (.cells #[.int .i64 (rd_T58 l0 (i : Int)).f0, .int .i64 (rd_T58 l0 (i : Int)).f1, .int .i64 (rd_T58 l0 (i : Int)).f2, .int .i64 (rd_T58 l0 (i : Int)).f3] 58)).setCell ⟨g, ((rd_T58 l0 (i : Int)).f1).toNat, none⟩ (.bool false))) := ⟨below_set (below_alloc HB.out _) (Arr_base HAr.out)⟩
     clear hx0 hx1 hx2 hx3 hc hf hgs HO HAr HB hA2
     generalize ((wr.alloc (.cells #[.int .i64 (rd_T58 l0 (i : Int)).f0, .int .i64 (rd_T58 l0 (i : Int)).f1, .int .i64 (rd_T58 l0 (i : Int)).f2, .int .i64 (rd_T58 l0 (i : Int)).f3] 58)).setCell ⟨g, ((rd_T58 l0 (i : Int)).f1).toNat, none⟩ (.bool false)) = w5 at HA5 HC5 HO5 HB5 ⊢
     generalize wr.heap.size = hs at HC5 HGS ⊢
     obtain ⟨s2, s3⟩ := HC5.out
     obtain ⟨s3', _⟩ := C2k_far HC5.out (p := ⟨g, ((rd_T58 l0 (i : Int)).f2).toNat, none⟩) HGS.out (.bool true)
     obtain ⟨_, s4⟩ := C2k_far HC5.out (p := ⟨g, ((rd_T58 l0 (i : Int)).f2).toNat, none⟩) HGS.out (.bool true)
     obtain ⟨p2, q2⟩ := Arr_cell HA5.out _ E0.out E1.out
     obtain ⟨p3, q3⟩ := Arr_cell (Arr_put HA5.out _ E0.out E1.out true) _ F0.out F1.out
     have g0 := E0.out
     have g1 := F0.out
     go_region
     have HA6 : Aside0 (Arr ((w5.setCell ⟨g, ((rd_T58 l0 (i : Int)).f2).toNat, none⟩ (.bool true)).setCell ⟨g, ((rd_T58 l0 (i : Int)).f3).toNat, none⟩ (.bool true)).drew w.heap.size g (put (put (put (ndd l0 (lvm l1 l1.length) y).1 (rd_T58 l0 (i : Int)).f1 false) (rd_T58 l0 (i : Int)).f2 true) (rd_T58 l0 (i : Int)).f3 true)) := ⟨Kd.R_drew (Arr_put (Arr_put HA5.out _ E0.out E1.out true) _ F0.out F1.out true)⟩
     have HO6 : Aside0 (Kd.R (Kd.int .i64) 2 ((w5.setCell ⟨g, ((rd_T58 l0 (i : Int)).f2).toNat, none⟩ (.bool true)).setCell ⟨g, ((rd_T58 l0 (i : Int)).f3).toNat, none⟩ (.bool true)).drew w.heap.size (fun k_ => k_ ≠ g) u9 (ndd l0 (lvm l1 l1.length) y).2) := ⟨Kd.R_drew (Kd.R_far (Kd.R_far HO5.out (fun k_ hk => hk) _) (fun k_ hk => hk) _)⟩
     have HB6 : Aside0 (Below w.heap.size w ((w5.setCell ⟨g, ((rd_T58 l0 (i : Int)).f2).toNat, none⟩ (.bool true)).setCell ⟨g, ((rd_T58 l0 (i : Int)).f3).toNat, none⟩ (.bool true)).drew) := ⟨below_drew1 (below_set (below_set HB5.out (Arr_base HA5.out)) (Arr_base HA5.out))⟩
     clear HA5 HC5 HO5 HB5 s2 s3 s3' s4 p2 q2 p3 q3
     generalize ((w5.setCell ⟨g, ((rd_T58 l0 (i : Int)).f2).toNat, none⟩ (.bool true)).setCell ⟨g, ((rd_T58 l0 (i : Int)).f3).toNat, none⟩ (.bool true)).drew = w6 at HA6 HO6 HB6 ⊢
     have hg6 := Aside0.mk (Arr_lt' HA6.out)
     have hnl := Aside0.mk (ndd_len l0 (lvm l1 l1.length) y)
     go_wp2_with (first | ((with_reducible refine gate_builtin (b := .append) (xs := #[.tmp 59, .tmp 61]) rfl ?_); at_builtin; refine Kd.R_append (Kd.int .i64) (w0 := w) w.heap.size rfl (.tmp 59) (.tmp 61) 33 2 (.int .i64 0) 8 rfl Try.underlying33 info2 rfl (by decide) (by omega) u9 (ndd l0 (lvm l1 l1.length) y).2 (i : Int) [.int .i64 (i : Int)] (fun k_ => k_ ≠ g) (fun _ => False) rfl rfl ?aP (fun _ hk => hk.elim) ?aF ?aO ?aB ?aS ?aL ?_; (case aP => exact rfl); (case aB => exact HB6.out); (case aF => exact (fun k_ hk => by have := hg6.out; omega)); (case aO => exact HO6.out); (case aS => exact (below_size HB6.out)); (case aL => have := hnl.out; have := HY.out; have := HL.out; omega); intro v173 w15 ho hb hg hat; have HA7 : Aside0 (Arr w15 w.heap.size g (put (put (put (ndd l0 (lvm l1 l1.length) y).1 (rd_T58 l0 (i : Int)).f1 false) (rd_T58 l0 (i : Int)).f2 true) (rd_T58 l0 (i : Int)).f3 true)) := ⟨Kd.R_grown1 HA6.out rfl hg (fun e => HO6.out.1 g (e.trans rfl) rfl)⟩; have HO2 := Aside0.mk ho; have HB7 := Aside0.mk hb; clear ho hb hg hat))
     go_roundg (l0.length - (y + 1))
     case measure => have := HKY.out; have := HYL.out; omega
     case rel =>
      have := HYL.out
      have e := ndd_t HI.out HM.out
      exact ⟨y + 1, by first | rfl | rw [HW.out], ⟨by rw [e]; exact HA7.out⟩, ⟨by rw [e]; exact HO2.out⟩, ⟨by omega⟩, ⟨by omega⟩, HB7⟩
    | false =>
     rw [hm] at hc
     have HM := Aside0.mk hm
     clear hm
     go_wp2
     go_roundg (l0.length - (y + 1))
     case measure => have := HKY.out; have := HYL.out; omega
     case rel =>
      have := HYL.out
      have e := ndd_f HI.out HM.out
      exact ⟨y + 1, by first | rfl | rw [HW.out], ⟨by rw [e]; exact hA2.out _⟩, ⟨by rw [e]; (with_reducible repeat (first | apply Kd.R_alloc | apply Kd.R_drewN | apply Kd.R_drew)); exact HO.out⟩, ⟨by omega⟩, ⟨by omega⟩, ⟨below_alloc HB.out _⟩⟩
end Go.Proofs.Yteknfebehafbdaa.K
