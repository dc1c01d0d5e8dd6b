-- Laid by a program of this session.
import Derived.Test.YteknfebehafbdaaK0
import Derived.Test.YteknfebehafbdaaH0
import Derived.Test.YteknfebehafbdaaH9
import Derived.Test.YteknfebehafbdaaH5
import Derived.Test.YteknfebehafbdaaK2
namespace Go.Proofs.Yteknfebehafbdaa.K
open Go.RowKit Go.Proofs.YteknfebehafbdaaW.PrintWords Go.Proofs.YteknfebehafbdaaW.PrintLast Go.Proofs.YteknfebehafbdaaW.PrintMore Go.Proofs.Yteknfebehafbdaa.Bx Go.Shelf
attribute [local go_sem] max2_int min2_int max_two min_two max_three min_three max_four min_four   -- for this text's walks alone
set_option linter.unusedVariables false
set_option linter.unusedSimpArgs false

/-! ### spec_DependencesOf: function 38 -/
def spec_DependencesOf.f (k : Nat) (l0 : List (S58)) : Option ((List (List Int)) × Bool) := (spec_l03Is.f k l0).bind fun t => if t = true then (if l0.length ≤ 1000 then some (depK l0 l0.length, true) else none) else some ([], false)
theorem spec_DependencesOf.mono : ∀ a0 k, LeO (spec_DependencesOf.f k a0) (spec_DependencesOf.f (k + 1) a0) := by
 intro a0 k
 unfold spec_DependencesOf.f
 exact LeO.bind (spec_l03Is.mono _ _) (fun _ => LeO.refl _)
set_option maxHeartbeats 8000000 in
set_option maxRecDepth 100000 in
theorem spec_DependencesOf.calls (k : Nat) (A0 : Option Addr) (c0 : Nat) (l0 : List (S58)) (r1 : List (List Int)) (r2 : Bool) (w : World) (hr0 : Kd.C k58 w A0 l0.length l0) (hc0 : l0.length ≤ c0) (h : spec_DependencesOf.f k l0 = some (r1, r2)) :
  Calls Try.prog 38 #[.slice A0 l0.length c0] w fun e w' => ∃ v0_ : Value, e = .returned (.tuple #[v0_, .bool r2]) ∧ Kd.S (Kd.slice 2 (Kd.int .i64)) 33 w' w.heap.size (fun _ => True) v0_ r1 ∧ Below w.heap.size w w' := by
 unfold spec_DependencesOf.f at h
 have HR := Aside0.mk hr0
 have HC := Aside0.mk hc0
 have HB := Aside0.mk (Below.refl w.heap.size w)
 clear hr0 hc0
 obtain ⟨t, ht, h1⟩ := Option.bind_eq_some_iff.mp h
 clear h
 try dsimp only at h1
 have HT := Aside0.mk ht
 clear ht
 by_cases h0 : t = true
 rotate_left
 ·rw [if_neg h0] at h1
  obtain ⟨rfl, rfl⟩ := Prod.mk.inj (Option.some.inj h1)
  rw [Bool.not_eq_true] at h0
  subst h0
  clear h1
  go_enter Try.func38, Try.ntmps38
  go_wp2_with (first | (go_at_call 60; (with_reducible refine (spec_l03Is.calls k _ c0 l0 false _ ?s1 HC.out HT.out).mono ?_); (case s1 => exact Kd.C_below HR.out (by repeat (first | exact HB.out | apply below_alloc | apply pw_below_drewN | apply below_drew1))); rintro e w' ⟨rfl, ⟨nd, rfl⟩⟩))
  go_ret2
  exact ⟨_, rfl, Kd.S_nil _ _ _ _ _, (by repeat (first | exact HB.out | apply below_alloc | apply pw_below_drewN | apply below_drew1))⟩
 rw [if_pos h0] at h1
 subst h0
 by_cases hb : l0.length ≤ 1000
 rotate_left
 ·rw [if_neg hb] at h1
  cases h1
 rw [if_pos hb] at h1
 obtain ⟨rfl, rfl⟩ := Prod.mk.inj (Option.some.inj h1)
 have HL := Aside0.mk hb
 clear h1 hb
 go_enter Try.func38, Try.ntmps38
 go_wp2_with (first | (go_at_call 60; (with_reducible refine (spec_l03Is.calls k _ c0 l0 true _ ?s1 HC.out HT.out).mono ?_); (case s1 => exact Kd.C_below HR.out (by repeat (first | exact HB.out | apply below_alloc | apply pw_below_drewN | apply below_drew1))); rintro e w' ⟨rfl, ⟨nd, rfl⟩⟩) | ((with_reducible refine gate_dst (N := 10) rfl ?_); refine Kd.S_lit (Kd.slice 2 (Kd.int .i64)) _ 33 ?hg (N := 10) ?hd (xs := ([] : List (List Int))) (inner := []) (ok := fun _ => True) (okp := fun _ => True) ?hr ?hp (fun _ hk => hk) trivial (Below.refl _ _) (Nat.le_refl _) (by simp) ?_; (case hd => rfl); (case hg => rfl); (case hr => first | (go_simp; done) | (go_simp; rfl)); (case hp => exact (Reps.none _ _)); intro v165 w3 ho4 hb hg_ hnew_; clear hg_ hnew_; have HO1 := Aside0.mk (Kd.S_lower ho4 (below_size (by repeat (first | exact HB.out | apply below_alloc | apply pw_below_drewN | apply below_drew1)))); have HB1 := Aside0.mk (below_step (by repeat (first | exact HB.out | apply below_alloc | apply pw_below_drewN | apply below_drew1)) hb); clear hb ho4))
 go_loopg [4, 5] l0.length (fun kq v4 v5 w' => ∃ x : Nat, v5 = .int .i64 (x : Int) ∧ Aside0 (Kd.S (Kd.slice 2 (Kd.int .i64)) 33 w' w.heap.size (fun _ => True) v4 (depK l0 x)) ∧ Aside0 (x ≤ l0.length) ∧ Aside0 (l0.length - x ≤ kq) ∧ Aside0 (Below w.heap.size w w'))
 case atStart => exact ⟨0, rfl, HO1, ⟨Nat.zero_le _⟩, ⟨by simp⟩, HB1⟩
 case round =>
  clear HB HO1 HB1
  obtain ⟨x, rfl, HO, H1, HK, HB⟩ := hrel
  by_cases c3 : (x : Int) < (l0.length : Int)
  rotate_left
  ·have c3b0 : decide ((x : Int) < (l0.length : Int)) = false := decide_eq_false c3
   have HX : Aside0 (x = l0.length) := ⟨by have := H1.out; omega⟩
   have c3n : (x < l0.length) = False := eq_false (by omega)
   clear c3
   go_wp2
   go_ret2
   exact ⟨u4, by first | rfl | (simp; done), by have := HO.out; rw [HX.out] at this; exact this, HB.out⟩

  have hxl : x < l0.length := by omega
  have c3b0 : decide ((x : Int) < (l0.length : Int)) = true := decide_eq_true c3
  have HW : Aside0 (wrap64 ((x : Int) + 1) = ((x + 1 : Nat) : Int)) := ⟨by have := HL.out; unfold wrap64; omega⟩
  have HX2 := Aside0.mk hxl
  clear hxl
  go_wp2
  go_loopg [4, 6] l0.length (fun kq v4 v6 w' => ∃ c : Nat, v6 = .int .i64 ((x + 1 + c : Nat) : Int) ∧ Aside0 (Kd.S (Kd.slice 2 (Kd.int .i64)) 33 w' w.heap.size (fun _ => True) v4 (depK l0 x ++ rowK l0 x c)) ∧ Aside0 (x + 1 + c ≤ l0.length) ∧ Aside0 (l0.length - (x + 1 + c) ≤ kq) ∧ Aside0 (Below w.heap.size w w'))
  case atStart => exact ⟨0, by first | rfl | rw [HW.out] | (rw [HW.out]; rfl), ⟨by simp only [rowK, List.append_nil]; exact HO.out⟩, ⟨by have := HX2.out; omega⟩, ⟨by omega⟩, HB⟩
  case round =>
   clear HO HB
   obtain ⟨c, rfl, HO, HY, HKY, HB⟩ := hrel
   obtain ⟨y, hy⟩ : ∃ y : Nat, x + 1 + c = y := ⟨_, rfl⟩
   have HYE := Aside0.mk hy
   rw [hy] at HY HKY ⊢
   clear hy
   by_cases c4 : (y : Int) < (l0.length : Int)
   rotate_left
   ·have c4b0 : decide ((y : Int) < (l0.length : Int)) = false := decide_eq_false c4
    have HYX : Aside0 (y = l0.length) := ⟨by have := HY.out; omega⟩
    have c4n : (y < l0.length) = False := eq_false (by omega)
    have HE : Aside0 (depK l0 x ++ rowK l0 x c = depK l0 (x + 1)) := ⟨by rw [show depK l0 (x + 1) = depK l0 x ++ rowK l0 x (l0.length - 1 - x) from rfl, show l0.length - 1 - x = c by have := HYX.out; have := HYE.out; omega]⟩
    clear c4
    go_wp2
    go_roundg (l0.length - (x + 1))
    case measure => have := HK.out; have := HX2.out; omega
    case rel =>
     have := HX2.out
     exact ⟨x + 1, by first | rfl | rw [HW.out], ⟨by rw [← HE.out]; exact (by (with_reducible repeat (first | apply Kd.S_alloc | apply Kd.S_drewN | apply Kd.S_drew)); exact HO.out)⟩, ⟨by omega⟩, ⟨by omega⟩, ⟨(by repeat (first | exact HB.out | apply below_alloc | apply pw_below_drewN | apply below_drew1))⟩⟩
   have c4b0 : decide ((y : Int) < (l0.length : Int)) = true := decide_eq_true c4
   have HYX : Aside0 (y < l0.length) := ⟨by omega⟩
   have c6 : 0 ≤ (x : Int) := Int.natCast_nonneg _
   have c7 : 0 ≤ (y : Int) := Int.natCast_nonneg _
   obtain ⟨ad, e1, hx⟩ := at_T58 (Kd.C_below HR.out HB.out) (x : Int) c6 c3
   cases e1
   obtain ⟨ad2, e2, hy⟩ := at_T58 (Kd.C_below HR.out HB.out) (y : Int) c7 c4
   cases e2
   have HXA : Aside0 (At4 _ _ (rd_T58 l0 (x : Int))) := ⟨hx⟩
   have HYA : Aside0 (At4 _ _ (rd_T58 l0 (y : Int))) := ⟨hy⟩
   clear hx hy
   have HW2 : Aside0 (wrap64 ((y : Int) + 1) = ((x + 1 + (c + 1) : Nat) : Int)) := ⟨by have := HL.out; have := HYX.out; have := HYE.out; unfold wrap64; omega⟩
   go_wp2
   go_quiet (first | (go_at_call 68; (with_reducible refine (l03Must_c _ _ _ (rd_T58 l0 (x : Int)) (rd_T58 l0 (y : Int)) ?s1 ?s2).mono ?_); (case s1 => exact At4_drewN HXA.out _); (case s2 => exact At4_drewN HYA.out _); rintro e w' ⟨rfl, ⟨nd, rfl⟩⟩; (try first | exact ⟨rfl, _, World.drewN_drewN _ _ _⟩ | exact ⟨rfl, _, Eq.trans (World.drewN_drewN _ _ _) (congrArg (World.drewN _) (Nat.add_assoc _ _ _))⟩)))
   cases hm : mst (rd_T58 l0 (x : Int)) (rd_T58 l0 (y : Int)) with
   | true =>
    have HM : Aside0 (depK l0 x ++ rowK l0 x c ++ [[(x : Int), (y : Int)]] = depK l0 x ++ rowK l0 x (c + 1)) := ⟨by rw [List.append_assoc, rowK_t (by rw [HYE.out]; exact hm), HYE.out]⟩
    have hlt : Aside0 ((depK l0 x ++ rowK l0 x c).length < 5864062014805) := ⟨by
     have h1 := depK_len l0 x
     have h2 := rowK_len l0 x c
     have h3 := HL.out
     have h4 : x * l0.length ≤ 1000 * 1000 := Nat.mul_le_mul (by omega) (by omega)
     have h5 := HYE.out
     have h6 := HYX.out
     rw [List.length_append]; omega⟩
    clear hm
    generalize hz : depK l0 x ++ rowK l0 x c = z at HO HM hlt
    clear hz
    obtain ⟨q, hq⟩ : ∃ q : List Int, q = [(x : Int), (y : Int)] := ⟨_, rfl⟩
    have HQ := Aside0.mk hq
    rw [← hq] at HM
    clear hq
    have HO := Aside0.mk (Kd.S_drewN HO.out nq)
    have HB := Aside0.mk (pw_below_drewN HB.out nq)
    go_wp2_with (first | ((with_reducible refine gate_dst (N := 35) rfl ?_); refine Kd.R_lit (Kd.int .i64) _ 2 ?hg (N := 35) ?hd (xs := ([(x : Int), (y : Int)] : List Int)) (inner := [.int .i64 (x : Int), .int .i64 (y : Int)]) (ok := fun _ => True) (okp := fun _ => True) ?hr ?hp (fun _ hk => hk) trivial (Below.refl _ _) (Nat.le_refl _) (by simp) ?_; (case hd => rfl); (case hg => rfl); (case hr => first | (go_simp; done) | (go_simp; rfl)); (case hp => exact (Reps.one (show Kd.M (Kd.int .i64) _ _ _ (x : Int) [.int .i64 (x : Int)] from rfl) (Reps.one (show Kd.M (Kd.int .i64) _ _ _ (y : Int) [.int .i64 (y : Int)] from rfl) (Reps.none _ _)))); intro v638 w15 ho16 hb hg_ hnew_; clear hg_ hnew_; rw [← HQ.out] at ho16; have n0_ := Aside0.mk (Kd.S_elder' (by (with_reducible repeat (first | apply Kd.S_alloc | apply Kd.S_drewN | apply Kd.S_drew)); exact HO.out) (Kd.R_base ho16) hb); have n1_ := Aside0.mk (Kd.R_lower ho16 (below_size (by repeat (first | exact HB.out | apply below_alloc | apply pw_below_drewN | apply below_drew1)))); have n2_ := Aside0.mk (below_step (by repeat (first | exact HB.out | apply below_alloc | apply pw_below_drewN | apply below_drew1)) hb); clear HO; clear HB; have HO := n0_; have HO639 := n1_; have HB := n2_; clear n0_ n1_ n2_; clear hb ho16; obtain ⟨Ao18, co18, eo18⟩ := Kd.R_slice HO639.out; subst eo18) | ((with_reducible refine gate_builtin (b := .append) (xs := #[.tmp 32, .tmp 36]) rfl ?_); at_builtin; refine Kd.S_append (Kd.slice 2 (Kd.int .i64)) (w0 := w) w.heap.size rfl (.tmp 32) (.tmp 36) 42 33 (.slice none 0 0) 24 rfl Try.underlying42 info33 rfl (by decide) (by omega) u4 z q [.slice Ao18 q.length co18] (fun _ => True) (fun k_ => some k_ = (.slice Ao18 q.length co18 : Value).ownBlock) rfl rfl ?aP (fun k_ hk_ => ((Kd.R_mono (ok' := fun k_ => ((fun _ => True)) k_ ∧ some k_ ≠ (u4 : Value).ownBlock) (Kd.R_apart' (HO639.out) (Kd.S_typed HO.out) (by decide)) (fun k_ hk => ⟨trivial, hk.2⟩))).1 k_ hk_.symm) ?aF ?aO ?aB ?aS ?aL ?_; (case aP => exact Kd.M_row (Kd.R_mono (Kd.R_tight rfl (Kd.R_mono (ok' := fun k_ => ((fun _ => True)) k_ ∧ some k_ ≠ (u4 : Value).ownBlock) (Kd.R_apart' (HO639.out) (Kd.S_typed HO.out) (by decide)) (fun k_ hk => ⟨trivial, hk.2⟩))) (fun _ h_ => h_))); (case aB => exact (by repeat (first | exact HB.out | apply below_alloc | apply pw_below_drewN | apply below_drew1))); (case aF => exact (fun _ _ => trivial)); (case aO => exact (by (with_reducible repeat (first | apply Kd.S_alloc | apply Kd.S_drewN | apply Kd.S_drew)); exact Kd.S_mono HO.out (fun k_ hk => ⟨trivial, fun e_ => hk.2 e_⟩))); (case aS => exact (below_size (by repeat (first | exact HB.out | apply below_alloc | apply pw_below_drewN | apply below_drew1)))); (case aL => have := hlt.out; omega); intro v641 w17 ho hb hg hat; rw [HM.out] at ho; have HO2 := Aside0.mk ho; have HB2 := Aside0.mk hb; clear ho hb hg hat))
    go_roundg (l0.length - (x + 1 + (c + 1)))
    case measure => have := HKY.out; have := HYX.out; have := HYE.out; omega
    case rel =>
     have := HYX.out
     have := HYE.out
     exact ⟨c + 1, by first | rfl | rw [HW2.out], HO2, ⟨by omega⟩, ⟨by omega⟩, HB2⟩
   | false =>
    have HM : Aside0 (depK l0 x ++ rowK l0 x c = depK l0 x ++ rowK l0 x (c + 1)) := ⟨by rw [rowK_f (by rw [HYE.out]; exact hm)]⟩
    clear hm
    go_wp2
    go_roundg (l0.length - (x + 1 + (c + 1)))
    case measure => have := HKY.out; have := HYX.out; have := HYE.out; omega
    case rel =>
     have := HYX.out
     have := HYE.out
     exact ⟨c + 1, by first | rfl | rw [HW2.out], ⟨by rw [← HM.out]; exact (by (with_reducible repeat (first | apply Kd.S_alloc | apply Kd.S_drewN | apply Kd.S_drew)); exact HO.out)⟩, ⟨by omega⟩, ⟨by omega⟩, ⟨(by repeat (first | exact HB.out | apply below_alloc | apply pw_below_drewN | apply below_drew1))⟩⟩
end Go.Proofs.Yteknfebehafbdaa.K
