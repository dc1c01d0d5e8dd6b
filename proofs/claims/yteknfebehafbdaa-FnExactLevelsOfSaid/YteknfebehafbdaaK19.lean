-- Laid by a program of this session.
import Derived.Test.YteknfebehafbdaaK0
import Derived.Test.YteknfebehafbdaaH0
import Derived.Test.YteknfebehafbdaaH5
import Derived.Test.YteknfebehafbdaaK16
namespace Go.Proofs.Yteknfebehafbdaa.K
open Go.RowKit Go.Proofs.YteknfebehafbdaaW.PrintWords Go.Proofs.YteknfebehafbdaaW.PrintLast Go.Proofs.YteknfebehafbdaaW.PrintMore Go.Proofs.Yteknfebehafbdaa.Bx Go.Shelf
attribute [local go_sem] max2_int min2_int max_two min_two max_three min_three max_four min_four   -- for this text's walks alone
set_option linter.unusedVariables false
set_option linter.unusedSimpArgs false

/-! ### spec_l03Levels: function 76 -/
/-- The level of the statement j, seen from the first i ones. -/
def lev (l : List S58) (out : List Int) (j : Nat) : Nat → Int
 | 0 => 0
 | i + 1 => if mst (rd_T58 l (i : Int)) (rd_T58 l (j : Int)) = true then lmx (lev l out j i) (wrap64 (rd out (i : Int) + 1)) else lev l out j i
theorem lev_t {l : List S58} {out : List Int} {j i : Nat} (h : mst (rd_T58 l (i : Int)) (rd_T58 l (j : Int)) = true) : lev l out j (i + 1) = lmx (lev l out j i) (wrap64 (rd out (i : Int) + 1)) := if_pos h
theorem lev_f {l : List S58} {out : List Int} {j i : Nat} (h : mst (rd_T58 l (i : Int)) (rd_T58 l (j : Int)) = false) : lev l out j (i + 1) = lev l out j i := if_neg (by rw [h]; decide)
/-- The levels of the first j statements. -/
def lvs (l : List S58) : Nat → List Int
 | 0 => []
 | j + 1 => lvs l j ++ [lev l (lvs l j) j j]
theorem lvs_len (l : List S58) (j : Nat) : (lvs l j).length = j := by
 induction j with
 | zero => rfl
 | succ j ih => simp [lvs, ih]
def spec_l03Levels.f (_k : Nat) (l0 : List (S58)) : Option (List Int) := if l0.length ≤ 1048576 then some (lvs l0 l0.length) else none
theorem spec_l03Levels.mono : ∀ a0 k, LeO (spec_l03Levels.f k a0) (spec_l03Levels.f (k + 1) a0) := fun _ _ => LeO.refl _
set_option maxHeartbeats 8000000 in
set_option maxRecDepth 100000 in
theorem spec_l03Levels.calls (k : Nat) (A0 : Option Addr) (c0 : Nat) (l0 : List (S58)) (r : List Int) (w : World) (hr0 : Kd.C k58 w A0 l0.length l0) (hc0 : l0.length ≤ c0) (h : spec_l03Levels.f k l0 = some r) :
  Calls Try.prog 76 #[.slice A0 l0.length c0] w fun e w' => ∃ v0_ : Value, e = .returned v0_ ∧ Kd.R (Kd.int .i64) 2 w' w.heap.size (fun _ => True) v0_ r ∧ Below w.heap.size w w' := by
 unfold spec_l03Levels.f at h
 by_cases hb : l0.length ≤ 1048576
 rotate_left
 ·rw [if_neg hb] at h
  cases h
 rw [if_pos hb] at h
 obtain rfl := Option.some.inj h
 clear h
 have HR := Aside0.mk hr0
 have HC := Aside0.mk hc0
 have HL := Aside0.mk hb
 have HB := Aside0.mk (Below.refl w.heap.size w)
 clear hr0 hc0 hb
 go_enter Try.func76, Try.ntmps76
 go_wp2_with (first | ((with_reducible refine gate_dst (N := 7) rfl ?_); refine Kd.R_lit (Kd.int .i64) _ 2 ?hg (N := 7) ?hd (xs := ([] : List Int)) (inner := []) (ok := fun _ => True) (okp := fun _ => True) ?hr ?hp (fun _ hk => hk) trivial (Below.refl _ _) (Nat.le_refl _) (by simp) ?_; (case hd => rfl); (case hg => rfl); (case hr => first | (go_simp; done) | (go_simp; rfl)); (case hp => exact (Reps.none _ _)); intro v165 w3 ho4 hb hg_ hnew_; clear hg_ hnew_; have HO1 := Aside0.mk (Kd.R_lower ho4 (below_size (by repeat (first | exact HB.out | apply below_alloc | apply pw_below_drewN | apply below_drew1)))); have HB1 := Aside0.mk (below_step (by repeat (first | exact HB.out | apply below_alloc | apply pw_below_drewN | apply below_drew1)) hb); clear hb ho4))
 go_loopg [3, 4] l0.length (fun kq v3 v4 w' => ∃ x : Nat, v4 = .int .i64 (x : Int) ∧ Aside0 (Kd.R (Kd.int .i64) 2 w' w.heap.size (fun _ => True) v3 (lvs l0 x)) ∧ Aside0 (x ≤ l0.length) ∧ Aside0 (l0.length - x ≤ kq) ∧ Aside0 (Below w.heap.size w w'))
 case atStart => exact ⟨0, rfl, HO1, ⟨Nat.zero_le _⟩, ⟨by simp⟩, HB1⟩
 case round =>
  clear HB HO1 HB1
  obtain ⟨x, rfl, HO, H1, HK, HB⟩ := hrel
  by_cases c3 : (x : Int) < (l0.length : Int)
  rotate_left
  ·have c3b0 : decide ((x : Int) < (l0.length : Int)) = false := decide_eq_false c3
   have HX : Aside0 (x = l0.length) := ⟨by have := H1.out; omega⟩
   have c3n : (x < l0.length) = False := eq_false (by omega)
   clear c3
   go_wp2
   go_ret
   exact ⟨u3, by first | rfl | (simp; done), by have := HO.out; rw [HX.out] at this; exact this, HB.out⟩

  have hxl : x < l0.length := by omega
  have c3b0 : decide ((x : Int) < (l0.length : Int)) = true := decide_eq_true c3
  have HW : Aside0 (wrap64 ((x : Int) + 1) = ((x + 1 : Nat) : Int)) := ⟨by have := HL.out; unfold wrap64; omega⟩
  have HX2 := Aside0.mk hxl
  clear hxl
  go_wp2
  go_loopg [5, 6] x (fun kq v5 v6 w' => ∃ y : Nat, v5 = .int .i64 (lev l0 (lvs l0 x) x y) ∧ v6 = .int .i64 (y : Int) ∧ Aside0 (Kd.R (Kd.int .i64) 2 w' w.heap.size (fun _ => True) u3 (lvs l0 x)) ∧ Aside0 (y ≤ x) ∧ Aside0 (x - y ≤ kq) ∧ Aside0 (Below w.heap.size w w'))
  case atStart => exact ⟨0, rfl, rfl, HO, ⟨Nat.zero_le _⟩, ⟨by simp⟩, HB⟩
  case round =>
   clear HO HB
   obtain ⟨y, rfl, rfl, HO, HY, HKY, HB⟩ := hrel
   by_cases c4 : (y : Int) < (x : Int)
   rotate_left
   ·have c4b0 : decide ((y : Int) < (x : Int)) = false := decide_eq_false c4
    have HYX : Aside0 (y = x) := ⟨by have := HY.out; omega⟩
    have c4n : (y < x) = False := eq_false (by omega)
    have hlt := Aside0.mk (lvs_len l0 x)
    clear c4
    go_wp2_with (first | ((with_reducible refine gate_builtin (b := .append) (xs := #[.tmp 33, .tmp 35]) rfl ?_); at_builtin; refine Kd.R_append (Kd.int .i64) (w0 := w) w.heap.size rfl (.tmp 33) (.tmp 35) 33 2 (.int .i64 0) 8 rfl Try.underlying33 info2 rfl (by decide) (by omega) u3 (lvs l0 x) (lev l0 (lvs l0 x) x y) [.int .i64 (lev l0 (lvs l0 x) x y)] (fun _ => True) (fun _ => False) rfl rfl ?aP (fun _ hk => hk.elim) ?aF ?aO ?aB ?aS ?aL ?_; (case aP => exact rfl); (case aB => exact (by repeat (first | exact HB.out | apply below_alloc | apply pw_below_drewN | apply below_drew1))); (case aF => exact (fun _ _ => trivial)); (case aO => exact (by (with_reducible repeat (first | apply Kd.R_alloc | apply Kd.R_drewN | apply Kd.R_drew)); exact HO.out)); (case aS => exact (below_size (by repeat (first | exact HB.out | apply below_alloc | apply pw_below_drewN | apply below_drew1)))); (case aL => have := hlt.out; have := HX2.out; have := HL.out; omega); intro v173 w15 ho hb hg hat; rw [HYX.out] at ho; have HO2 := Aside0.mk ho; have HB2 := Aside0.mk hb; clear ho hb hg hat))
    go_roundg (l0.length - (x + 1))
    case measure => have := HK.out; have := HX2.out; omega
    case rel =>
     have := HX2.out
     exact ⟨x + 1, by first | rfl | rw [HW.out], HO2, ⟨by omega⟩, ⟨by omega⟩, HB2⟩
   have c4b0 : decide ((y : Int) < (x : Int)) = true := decide_eq_true c4
   have hyx : y < x := by omega
   have HYX := Aside0.mk hyx
   have c6 : 0 ≤ (x : Int) := Int.natCast_nonneg _
   have c7 : 0 ≤ (y : Int) := Int.natCast_nonneg _
   have c8 : (y : Int) < (l0.length : Int) := by omega
   obtain ⟨ad, e1, hx⟩ := at_T58 (Kd.C_below HR.out HB.out) (x : Int) c6 c3
   cases e1
   obtain ⟨ad2, e2, hy⟩ := at_T58 (Kd.C_below HR.out HB.out) (y : Int) c7 c8
   cases e2
   have HXA : Aside0 (At4 _ _ (rd_T58 l0 (x : Int))) := ⟨hx⟩
   have HYA : Aside0 (At4 _ _ (rd_T58 l0 (y : Int))) := ⟨hy⟩
   clear hx hy hyx
   have HW2 : Aside0 (wrap64 ((y : Int) + 1) = ((y + 1 : Nat) : Int)) := ⟨by have := HL.out; have := HX2.out; unfold wrap64; omega⟩
   go_wp2
   go_quiet (first | (go_at_call 68; (with_reducible refine (l03Must_c _ _ _ (rd_T58 l0 (y : Int)) (rd_T58 l0 (x : Int)) ?s1 ?s2).mono ?_); (case s1 => exact At4_drewN HYA.out _); (case s2 => exact At4_drewN HXA.out _); rintro e w' ⟨rfl, ⟨nd, rfl⟩⟩; (try first | exact ⟨rfl, _, World.drewN_drewN _ _ _⟩)))
   cases hm : mst (rd_T58 l0 (y : Int)) (rd_T58 l0 (x : Int)) with
   | true =>
    have HM := Aside0.mk hm
    clear hm
    obtain ⟨go5, co5, eo5, gb5, gl5, cl5, HG5⟩ := Kd.R_form HO.out (by rw [lvs_len]; have := HYX.out; omega)
    rw [lvs_len] at eo5
    subst eo5
    obtain ⟨q1, _⟩ := Kd.R_celln (0 : Int) HO.out (y : Int) c7 c4
    rw [Int.toNat_natCast] at q1
    clear gb5 gl5 HG5
    go_wp2_with (first | (go_at_call 105; (with_reducible refine (l00Max_c _ _ _).mono ?_); rintro e w' ⟨rfl, ⟨nd, rfl⟩⟩))
    go_roundg (x - (y + 1))
    case measure => have := HKY.out; have := HYX.out; omega
    case rel =>
     have := HYX.out
     exact ⟨y + 1, by rw [lev_t HM.out]; rfl, by first | rfl | rw [HW2.out], ⟨by (with_reducible repeat (first | apply Kd.R_alloc | apply Kd.R_drewN | apply Kd.R_drew)); exact HO.out⟩, ⟨by omega⟩, ⟨by omega⟩, ⟨by repeat (first | exact HB.out | apply below_alloc | apply pw_below_drewN | apply below_drew1)⟩⟩
   | false =>
    have HM := Aside0.mk hm
    clear hm
    go_wp2
    go_roundg (x - (y + 1))
    case measure => have := HKY.out; have := HYX.out; omega
    case rel =>
     have := HYX.out
     exact ⟨y + 1, by rw [lev_f HM.out], by first | rfl | rw [HW2.out], ⟨by (with_reducible repeat (first | apply Kd.R_alloc | apply Kd.R_drewN | apply Kd.R_drew)); exact HO.out⟩, ⟨by omega⟩, ⟨by omega⟩, ⟨by repeat (first | exact HB.out | apply below_alloc | apply pw_below_drewN | apply below_drew1)⟩⟩
end Go.Proofs.Yteknfebehafbdaa.K
