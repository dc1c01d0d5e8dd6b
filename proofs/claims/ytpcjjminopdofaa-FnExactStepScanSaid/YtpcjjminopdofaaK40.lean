-- Laid by a program of this session.
import Derived.Test.YtpcjjminopdofaaK0
import Derived.Test.YtpcjjminopdofaaK29
import Derived.Test.YtpcjjminopdofaaH0
import Derived.Test.YtpcjjminopdofaaK3
import Derived.Test.YtpcjjminopdofaaK12
import Derived.Test.YtpcjjminopdofaaK13
namespace Go.Proofs.Ytpcjjminopdofaa.K
open Go.RowKit Go.Proofs.YtpcjjminopdofaaW.PrintWords Go.Proofs.YtpcjjminopdofaaW.PrintLast Go.Proofs.YtpcjjminopdofaaW.PrintMore Go.Proofs.Ytpcjjminopdofaa.Bx Go.Shelf
attribute [local go_sem] max2_int min2_int max_two min_two max_three min_three max_four min_four   -- for this text's walks alone
set_option linter.unusedVariables false
set_option linter.unusedSimpArgs false

/-! ### impl_stepScanned: function 139 -/
/-- One step of a scan in steps; the first i steps. -/
def stp (op b : Int) (far : Nat) (l : List Int) : List Int := (List.range l.length).map fun (j : Nat) => if j < far then rd l (j : Int) else res op b (rd l ((j - far : Nat) : Int)) (rd l (j : Int))
def stps (op b : Int) (l : List Int) : Nat → List Int
 | 0 => l
 | i + 1 => stp op b (2 ^ i) (stps op b l i)
def lg (n : Nat) : Nat := if n = 2 then 1 else if n = 4 then 2 else if n = 8 then 3 else 4
def StpOk (op b : Int) (l : List Int) : Prop := OpOk op ∧ vec b l = true
instance (op b : Int) (l : List Int) : Decidable (StpOk op b l) := inferInstanceAs (Decidable (_ ∧ _))
def impl_stepScanned.f (_k : Nat) (a0 : Int) (a1 : Int) (l2 : List Int) : Option (List Int) := if StpOk a0 a1 l2 then some (stps a0 a1 l2 (lg l2.length)) else none
theorem impl_stepScanned.mono : ∀ a0 a1 a2 k, LeO (impl_stepScanned.f k a0 a1 a2) (impl_stepScanned.f (k + 1) a0 a1 a2) := fun _ _ _ _ => LeO.refl _
theorem stp_len (op b : Int) (far : Nat) (l : List Int) : (stp op b far l).length = l.length := by unfold stp; simp
theorem stps_len (op b : Int) (l : List Int) : ∀ i, (stps op b l i).length = l.length
 | 0 => rfl
 | i + 1 => by unfold stps; rw [stp_len, stps_len op b l i]
theorem stp_words {op b : Int} {far : Nat} {l : List Int} (h : Words b l) : Words b (stp op b far l) := by
 intro x hx
 unfold stp at hx
 rw [List.mem_map] at hx
 obtain ⟨j, hj, rfl⟩ := hx
 rw [List.mem_range] at hj
 have h1 := words_rd h (i := (j : Int)) (by omega) (by omega)
 split
 ·exact h1
 ·exact res_word (words_rd h (by omega) (by omega)) h1
theorem stps_words {op b : Int} {l : List Int} (h : Words b l) : ∀ i, Words b (stps op b l i)
 | 0 => h
 | i + 1 => by unfold stps; exact stp_words (stps_words h i)
theorem lg_lt {n i : Nat} (hn : Lanes (n : Int)) (h : i < lg n) : 2 ^ i < n := by
 rcases hn with hn | hn | hn | hn
 ·obtain rfl : n = 2 := by omega
  have h : i < 1 := h
  obtain rfl : i = 0 := by omega
  decide
 ·obtain rfl : n = 4 := by omega
  have h : i < 2 := h
  have e : i = 0 ∨ i = 1 := by omega
  rcases e with rfl | rfl <;> decide
 ·obtain rfl : n = 8 := by omega
  have h : i < 3 := h
  have e : i = 0 ∨ i = 1 ∨ i = 2 := by omega
  rcases e with rfl | rfl | rfl <;> decide
 ·obtain rfl : n = 16 := by omega
  have h : i < 4 := h
  have e : i = 0 ∨ i = 1 ∨ i = 2 ∨ i = 3 := by omega
  rcases e with rfl | rfl | rfl | rfl <;> decide
theorem lg_ge {n : Nat} (hn : Lanes (n : Int)) : ¬ 2 ^ lg n < n := by
 rcases hn with hn | hn | hn | hn
 ·obtain rfl : n = 2 := by omega
  decide
 ·obtain rfl : n = 4 := by omega
  decide
 ·obtain rfl : n = 8 := by omega
  decide
 ·obtain rfl : n = 16 := by omega
  decide
theorem lg_le (n : Nat) : lg n ≤ 4 := by unfold lg; split <;> (try split) <;> (try split) <;> omega
set_option maxHeartbeats 4000000 in
theorem impl_stepScanned.lit (op b : Int) (F : Nat) (z : List Int) (A : Option Addr) (c : Nat) (p q : Addr) (B : Nat) (W : World) (j : Nat) (hj : j < z.length) (hz : z.length ≤ 16) (ho : OpOk op) (hw : Words b z)
  (h1 : W.cell? p = some (.int .i64 (F : Int))) (h2 : W.cell? q = some (.slice A z.length c)) (h3 : W.cell? ⟨B, 0, none⟩ = some (.int .i64 op)) (h4 : W.cell? ⟨B + 1, 0, none⟩ = some (.int .i64 b)) (hr : Kd.C (Kd.int .i64) W A z.length z) :
  Calls Try.prog 162 #[.int .i64 (j : Int), .pointer (some p), .pointer (some q), .pointer (some ⟨B, 0, none⟩), .pointer (some ⟨B + 1, 0, none⟩)] W fun e w' => e = .returned (.int .i64 (if j < F then rd z (j : Int) else res op b (rd z ((j - F : Nat) : Int)) (rd z (j : Int)))) ∧ Below W.heap.size W w' := by
 have hk : (j : Int) < (z.length : Int) := by omega
 have hj0 : 0 ≤ (j : Int) := Int.natCast_nonneg j
 obtain ⟨ad, e, hy⟩ := Kd.at_int hr (j : Int) hj0 hk
 cases e
 rw [Int.toNat_natCast] at hy
 by_cases hF : j < F
 ·rw [if_pos hF]
  have g1 : decide ((j : Int) < (F : Int)) = true := decide_eq_true (by omega)
  have g2 : decide (j < F) = true := decide_eq_true hF
  clear hr hw hF ho hz hj
  generalize rd z (j : Int) = x at hy ⊢
  go_enter Try.func162, Try.ntmps162
  go_wp2
  go_ret
  exact ⟨rfl, Below.refl _ _⟩
 rw [if_neg hF]
 have hx := words_rd hw hj0 hk
 have hx2 := words_rd hw (i := ((j - F : Nat) : Int)) (by omega) (by omega)
 have HQ : Aside0 (impl_result.f op b (rd z ((j - F : Nat) : Int)) (rd z (j : Int)) = some (res op b (rd z ((j - F : Nat) : Int)) (rd z (j : Int)))) := ⟨iResult ho hx2 hx⟩
 have k0 : 0 ≤ ((j - F : Nat) : Int) := Int.natCast_nonneg _
 have k1 : ((j - F : Nat) : Int) < (z.length : Int) := by omega
 obtain ⟨ad2, e2, hy2⟩ := Kd.at_int hr ((j - F : Nat) : Int) k0 k1
 cases e2
 rw [Int.toNat_natCast] at hy2
 have es : wrap64 ((j : Int) - (F : Int)) = ((j - F : Nat) : Int) := by rw [w_small (by omega)]; omega
 have g1 : decide ((j : Int) < (F : Int)) = false := decide_eq_false (by omega)
 have g2 : decide (j < F) = false := decide_eq_false hF
 clear hr hw hF ho hx hx2 hz hj
 generalize j - F = i at HQ k0 k1 es hy2 ⊢
 obtain ⟨r, hr⟩ : ∃ r, r = res op b (rd z (i : Int)) (rd z (j : Int)) := ⟨_, rfl⟩
 rw [← hr] at HQ ⊢
 clear hr
 generalize rd z (j : Int) = x at hy HQ
 generalize rd z (i : Int) = x2 at hy2 HQ
 go_enter Try.func162, Try.ntmps162
 go_wp2
 go_quiet ((go_at_call 143; exact quiet0 (impl_result.calls _ _ _ _ _ _ HQ.out)))
 go_wp2
 go_ret
 exact ⟨rfl, pw_below_drewN (Below.refl _ _) _⟩
set_option maxHeartbeats 16000000 in
set_option maxRecDepth 100000 in
theorem impl_stepScanned.calls (k : Nat) (a0 : Int) (a1 : Int) (A2 : Option Addr) (c2 : Nat) (l2 : List Int) (r : List Int) (w : World) (hr2 : Kd.C (Kd.int .i64) w A2 l2.length l2) (hc2 : l2.length ≤ c2) (h : impl_stepScanned.f k a0 a1 l2 = some r) :
  Calls Try.prog 139 #[.int .i64 a0, .int .i64 a1, .slice A2 l2.length c2] w fun e w' => ∃ v0_ : Value, e = .returned (v0_) ∧ Kd.R (Kd.int .i64) 2 w' w.heap.size (fun _ => True) v0_ r ∧ Below w.heap.size w w' := by
 unfold impl_stepScanned.f at h
 by_cases q : StpOk a0 a1 l2
 rotate_left
 ·rw [if_neg q] at h
  cases h

 rw [if_pos q] at h
 obtain rfl := Option.some.inj h
 clear h
 obtain ⟨ho, hv⟩ := q
 have hL := (vec_iff.mp hv).2.1
 have hw := (vec_iff.mp hv).2.2
 have h16 := (lanes_le hL).2
 have HR := Aside0.mk hr2
 have HC := Aside0.mk hc2
 have HB := Aside0.mk (Below.refl w.heap.size w)
 have HLT := Aside0.mk (fun i (h : i < lg l2.length) => lg_lt hL h)
 have HGE := Aside0.mk (lg_ge hL)
 have H16 : Aside0 (l2.length ≤ 16) := ⟨by omega⟩
 have HW := Aside0.mk (fun i => stps_words (op := a0) hw i)
 have HOP := Aside0.mk ho
 clear hv hL hw h16 ho hr2 hc2
 go_enter Try.func139, Try.ntmps139
 go_wp2
 go_loopg [2, 7] 4 (fun kq v2 v7 w' => ∃ (i : Nat) (Bf : Nat) (Av : Option Addr) (cv : Nat), v2 = .slice Av l2.length cv ∧ v7 = .pointer (some ⟨Bf, 0, none⟩) ∧ Aside0 (i ≤ lg l2.length) ∧ Aside0 (lg l2.length - i ≤ kq) ∧ Aside0 (l2.length ≤ cv) ∧ Aside0 (Kd.C (Kd.int .i64) w' Av l2.length (stps a0 a1 l2 i)) ∧ Aside0 (w.heap.size + 2 ≤ Bf ∧ Bf < w'.heap.size) ∧ w'.cell? ⟨Bf, 0, none⟩ = some (.int .i64 ((2 ^ i : Nat) : Int)) ∧ w'.cell? ⟨w.heap.size, 0, none⟩ = some (.int .i64 a0) ∧ w'.cell? ⟨w.heap.size + 1, 0, none⟩ = some (.int .i64 a1) ∧ Aside0 (Below w.heap.size w w'))
 case atStart => exact ⟨0, w.heap.size + 1 + 1, A2, c2, rfl, rfl, ⟨Nat.zero_le _⟩, ⟨by have := lg_le l2.length; omega⟩, HC, ⟨by repeat (first | exact HR.out | (with_reducible refine Kd.C_alloc ?_ _) | (with_reducible refine Kd.C_drewN ?_ _) | (with_reducible refine Kd.C_drew ?_))⟩, ⟨by simp⟩, by go_simp; done, by go_simp; done, by go_simp; done, ⟨by repeat (first | exact HB.out | exact Below.refl _ _ | apply below_alloc | apply pw_below_drewN | apply below_drew1)⟩⟩
 case round =>
  clear HB HR HC
  obtain ⟨i, Bf, Av, cv, rfl, rfl, HI, HK, HC, HR, HBf, hf, hc0, hc1, HB⟩ := hrel
  have hlen := stps_len a0 a1 l2 i
  obtain ⟨z, hz⟩ : ∃ z, z = stps a0 a1 l2 i := ⟨_, rfl⟩
  have hzl : z.length = l2.length := by rw [hz]; exact hlen
  have HZ := Aside0.mk hz
  have HZL := Aside0.mk hzl
  by_cases hi : i < lg l2.length
  ·have hF := HLT.out i hi
   obtain ⟨F, hFe⟩ : ∃ F : Nat, F = 2 ^ i := ⟨_, rfl⟩
   have HFe := Aside0.mk hFe
   rw [← hFe] at hf hF
   have g1 : decide ((F : Int) < (l2.length : Int)) = true := decide_eq_true (by omega)
   have g2 : decide (F < l2.length) = true := decide_eq_true hF
   have eF : wrap64 ((F : Int) * 2) = ((2 ^ (i + 1) : Nat) : Int) := by
    have := H16.out
    rw [w_small (by omega), Nat.pow_succ, ← hFe]; omega
   obtain ⟨F2, hF2⟩ : ∃ F2 : Nat, F2 = 2 ^ (i + 1) := ⟨_, rfl⟩
   rw [← hF2] at eF
   have HF2 := Aside0.mk hF2
   have HII := Aside0.mk hi
   have HD : Aside0 ((List.range l2.length).map (fun (j : Nat) => if j < F then rd z (j : Int) else res a0 a1 (rd z ((j - F : Nat) : Int)) (rd z (j : Int))) = stps a0 a1 l2 (i + 1)) := ⟨by
    show _ = stp a0 a1 (2 ^ i) (stps a0 a1 l2 i)
    rw [← hFe, ← hz]
    unfold stp
    rw [hzl]⟩
   have HA := Aside0.mk (fun (W : World) (qa : Addr) (hq : qa.block < W.heap.size) (hsz : w.heap.size + 2 ≤ W.heap.size) (hb : Bf < W.heap.size) (h1 : W.cell? ⟨Bf, 0, none⟩ = some (.int .i64 (F : Int))) (h2 : W.cell? qa = some (.slice Av l2.length cv)) (h3 : W.cell? ⟨w.heap.size, 0, none⟩ = some (.int .i64 a0)) (h4 : W.cell? ⟨w.heap.size + 1, 0, none⟩ = some (.int .i64 a1)) (hC : Kd.C (Kd.int .i64) W Av l2.length z) =>
    lanesOf_c 162 #[.pointer (some ⟨Bf, 0, none⟩), .pointer (some qa), .pointer (some ⟨w.heap.size, 0, none⟩), .pointer (some ⟨w.heap.size + 1, 0, none⟩)] (enters_of Try.func162 (by kernel_rfl) rfl) l2.length (fun (j : Nat) => if j < F then rd z (j : Int) else res a0 a1 (rd z ((j - F : Nat) : Int)) (rd z (j : Int))) W (by have := H16.out; omega)
     (fun j hj W' hb' => impl_stepScanned.lit a0 a1 F z Av cv ⟨Bf, 0, none⟩ qa w.heap.size W' j (by omega) (by have := H16.out; omega) HOP.out (by rw [hz]; exact HW.out i)
      ((hb'.cell (p := ⟨Bf, 0, none⟩) hb).trans h1) (by rw [hzl]; exact (hb'.cell (p := qa) hq).trans h2) ((hb'.cell (p := ⟨w.heap.size, 0, none⟩) (by show w.heap.size < _; omega)).trans h3) ((hb'.cell (p := ⟨w.heap.size + 1, 0, none⟩) (by show w.heap.size + 1 < _; omega)).trans h4) (by rw [hzl]; exact Kd.C_below hC hb')))
   have HR1 : Aside0 (Kd.C (Kd.int .i64) wr Av l2.length z) := ⟨by rw [hz]; exact HR.out⟩
   clear hlen hz hzl hi hFe hF hF2 HR
   go_wp2_with (first | (go_at_call 96; refine (HA.out _ ⟨wr.heap.size, 0, none⟩ ?b1 ?b2 ?b3 ?b4 ?b5 ?b6 ?b7 ?b8).mono ?_; (case b1 => simp); (case b2 => have := HBf.out; simp; omega); (case b3 => have := HBf.out; simp; omega); (case b4 => exact (Below.cell (by repeat (first | exact Below.refl _ _ | apply below_alloc) : Below wr.heap.size wr (wr.alloc (Obj.cells #[Value.slice Av l2.length cv] 22))) (p := ⟨Bf, 0, none⟩) (by have := HBf.out; show Bf < wr.heap.size; omega)).trans hf); (case b5 => first | (go_simp; done) | simp); (case b6 => exact (Below.cell (by repeat (first | exact Below.refl _ _ | apply below_alloc) : Below wr.heap.size wr (wr.alloc (Obj.cells #[Value.slice Av l2.length cv] 22))) (p := ⟨w.heap.size, 0, none⟩) (by have := HBf.out; show w.heap.size < wr.heap.size; omega)).trans hc0); (case b7 => exact (Below.cell (by repeat (first | exact Below.refl _ _ | apply below_alloc) : Below wr.heap.size wr (wr.alloc (Obj.cells #[Value.slice Av l2.length cv] 22))) (p := ⟨w.heap.size + 1, 0, none⟩) (by have := HBf.out; show w.heap.size + 1 < wr.heap.size; omega)).trans hc1); (case b8 => repeat (first | exact HR1.out | (with_reducible refine Kd.C_alloc ?_ _))); rintro e w3 ⟨v3, rfl, ho, hb⟩; rw [HD.out] at ho; have hv3 : ∃ A3 c3, v3 = .slice A3 l2.length c3 ∧ l2.length ≤ c3 ∧ Kd.C (Kd.int .i64) w3 A3 l2.length (stps a0 a1 l2 (i + 1)) := (by obtain ⟨A3, c3, e3, h1, h2⟩ := Kd.R_reads ho; rw [stps_len] at e3 h1 h2; exact ⟨A3, c3, e3, h1, h2⟩); obtain ⟨A3, c3, rfl, hc3, hC3⟩ := hv3; have hf3 : w3.cell? ⟨Bf, 0, none⟩ = some (.int .i64 (F : Int)) := (hb.cell (p := ⟨Bf, 0, none⟩) (by have := HBf.out; simp; omega)).trans ((Below.cell (by repeat (first | exact Below.refl _ _ | apply below_alloc) : Below wr.heap.size wr (wr.alloc (Obj.cells #[Value.slice Av l2.length cv] 22))) (p := ⟨Bf, 0, none⟩) (by have := HBf.out; show Bf < wr.heap.size; omega)).trans hf); have hd0 : w3.cell? ⟨w.heap.size, 0, none⟩ = some (.int .i64 a0) := (hb.cell (p := ⟨w.heap.size, 0, none⟩) (by have := HBf.out; simp; omega)).trans ((Below.cell (by repeat (first | exact Below.refl _ _ | apply below_alloc) : Below wr.heap.size wr (wr.alloc (Obj.cells #[Value.slice Av l2.length cv] 22))) (p := ⟨w.heap.size, 0, none⟩) (by have := HBf.out; show w.heap.size < wr.heap.size; omega)).trans hc0); have hd1 : w3.cell? ⟨w.heap.size + 1, 0, none⟩ = some (.int .i64 a1) := (hb.cell (p := ⟨w.heap.size + 1, 0, none⟩) (by have := HBf.out; simp; omega)).trans ((Below.cell (by repeat (first | exact Below.refl _ _ | apply below_alloc) : Below wr.heap.size wr (wr.alloc (Obj.cells #[Value.slice Av l2.length cv] 22))) (p := ⟨w.heap.size + 1, 0, none⟩) (by have := HBf.out; show w.heap.size + 1 < wr.heap.size; omega)).trans hc1); have hsz3 : wr.heap.size < w3.heap.size := (by have := below_size hb; simp at this; omega); have HC3 := Aside0.mk hC3; have HB3 : Aside0 (Below w.heap.size w w3) := ⟨below_step (by repeat (first | exact HB.out | apply below_alloc | apply pw_below_drewN | apply below_drew1)) hb⟩; clear HB hb ho hC3; have HB := HB3; clear HB3))
   have hII := HII.out
   have hBf := HBf.out
   go_roundg (lg l2.length - (i + 1))
   case measure => have := HK.out; have := HII.out; omega
   case rel => exact ⟨i + 1, w3.heap.size, A3, c3, rfl, rfl, ⟨by omega⟩, ⟨Nat.le_refl _⟩, ⟨hc3⟩, ⟨by repeat (first | exact HC3.out | (with_reducible refine Kd.C_alloc ?_ _))⟩, ⟨by simp; omega⟩, by rw [← HF2.out]; first | (go_simp; done) | simp, (Below.cell (by repeat (first | exact Below.refl _ _ | apply below_alloc) : Below w3.heap.size w3 (w3.alloc (Obj.cells #[Value.int .i64 (F2 : Int)] 3))) (p := ⟨w.heap.size, 0, none⟩) (by show w.heap.size < w3.heap.size; omega)).trans hd0, (Below.cell (by repeat (first | exact Below.refl _ _ | apply below_alloc) : Below w3.heap.size w3 (w3.alloc (Obj.cells #[Value.int .i64 (F2 : Int)] 3))) (p := ⟨w.heap.size + 1, 0, none⟩) (by show w.heap.size + 1 < w3.heap.size; omega)).trans hd1, ⟨by repeat (first | exact HB.out | exact Below.refl _ _ | apply below_alloc | apply pw_below_drewN | apply below_drew1)⟩⟩
  ·have hie : i = lg l2.length := by have := HI.out; omega
   have hF : ¬ (2 ^ i < l2.length) := by rw [hie]; exact HGE.out
   obtain ⟨F, hFe⟩ : ∃ F : Nat, F = 2 ^ i := ⟨_, rfl⟩
   rw [← hFe] at hf hF
   have g1 : decide ((F : Int) < (l2.length : Int)) = false := decide_eq_false (by omega)
   have g2 : decide (F < l2.length) = false := decide_eq_false hF
   have g3 : decide ((F : Int) < (z.length : Int)) = false := decide_eq_false (by omega)
   have g4 : decide (F < z.length) = false := decide_eq_false (by omega)
   have HE : Aside0 (stps a0 a1 l2 (lg l2.length) = z) := ⟨by rw [hz, hie]⟩
   have HR1 : Aside0 (Kd.C (Kd.int .i64) wr Av z.length z) := ⟨by rw [hzl, hz]; exact HR.out⟩
   have HC1 : Aside0 (z.length ≤ cv) := ⟨by rw [hzl]; exact HC.out⟩
   have HCL : Aside0 (slices_Clone_int64_int64.f 0 z = some z) := ⟨by unfold slices_Clone_int64_int64.f; rw [if_pos (by have := H16.out; omega)]⟩
   clear hlen hz hie hF hFe hi HR
   rw [← hzl]
   clear hzl
   go_wp2_with (first | (go_at_call 155; (with_reducible refine (slices_Clone_int64_int64.calls 0 Av cv z _ _ ?h1 HC1.out HCL.out).mono ?_); (case h1 => repeat (first | exact HR1.out | (with_reducible refine Kd.C_drewN ?_ _))); rintro e w3 ⟨v0, rfl, hr0, hb3⟩))
   go_ret
   exact ⟨_, rfl, by rw [HE.out]; exact Kd.R_lower hr0 (below_size (by repeat (first | exact HB.out | exact Below.refl _ _ | apply below_alloc | apply pw_below_drewN | apply below_drew1))), below_step (by repeat (first | exact HB.out | exact Below.refl _ _ | apply below_alloc | apply pw_below_drewN | apply below_drew1)) hb3⟩
/-! ### impl_StepScan: function 68 -/
def impl_StepScan.f (k : Nat) (a0 : Int) (a1 : Int) (l2 : List Int) : Option (List Int × Bool) := (impl_isOp.f a0).bind fun t1230 => (if t1230 = true then ((impl_IsVector.f k a1 l2).bind fun t1231 => (if t1231 = true then ((impl_stepScanned.f k a0 a1 l2).bind fun t1232 => (some (t1232, true))) else (some (([] : List Int), false)))) else (some (([] : List Int), false)))
theorem impl_StepScan.mono : ∀ a0 a1 a2 k, LeO (impl_StepScan.f k a0 a1 a2) (impl_StepScan.f (k + 1) a0 a1 a2) := by
 intro a0 a1 a2 k
 unfold impl_StepScan.f
 repeat' first
   | (with_reducible exact impl_IsVector.mono _ _ _)
   | (with_reducible exact impl_stepScanned.mono _ _ _ _)
   | (with_reducible exact LeO.refl _)
   | (with_reducible exact LeO.none _)
   | (with_reducible refine LeO.ite ?_ ?_)
   | (with_reducible refine LeO.bind ?_ (fun _ => ?_))
   | exact impl_IsVector.mono _ _ _
   | exact impl_stepScanned.mono _ _ _ _
   | exact LeO.none _
   | refine LeO.ite ?_ ?_
   | refine LeO.bind ?_ (fun _ => ?_)
set_option maxHeartbeats 8000000 in
set_option maxRecDepth 100000 in
theorem impl_StepScan.calls (k : Nat) (a0 : Int) (a1 : Int) (A2 : Option Addr) (c2 : Nat) (l2 : List Int) (r1 : List Int) (r2 : Bool) (w : World) (hr2 : Kd.C (Kd.int .i64) w A2 l2.length l2) (hc2 : l2.length ≤ c2) (h : impl_StepScan.f k a0 a1 l2 = some (r1, r2)) :
  Calls Try.prog 68 #[.int .i64 a0, .int .i64 a1, .slice A2 l2.length c2] w fun e w' => ∃ v0_ : Value, e = .returned (.tuple #[v0_, .bool r2]) ∧ Kd.R (Kd.int .i64) 2 w' w.heap.size (fun _ => True) v0_ r1 ∧ Below w.heap.size w w' := by
 have HR2 := Aside0.mk hr2
 have HC2 := Aside0.mk hc2
 clear hr2 hc2
 have HB := Aside0.mk (Below.refl w.heap.size w)
 have H : ((impl_isOp.f a0).bind fun t1230 => (if t1230 = true then ((impl_IsVector.f k a1 l2).bind fun t1231 => (if t1231 = true then ((impl_stepScanned.f k a0 a1 l2).bind fun t1232 => (some (t1232, true))) else (some (([] : List Int), false)))) else (some (([] : List Int), false)))) = some (r1, r2) := h
 clear h
 replace H := Option.bind_eq_some_iff.mp H
 obtain ⟨t1230, A40, H⟩ := H
 try dsimp only at H
 have A4 := Aside0.mk A40
 clear A40
 by_cases c5 : t1230 = true
 rotate_left
 ·replace c5 := Bool.eq_false_iff.mpr c5
  subst c5
  rw [if_neg (show ¬ (false = true) by decide)] at H
  simp only [Option.some.injEq, Prod.mk.injEq] at H
  obtain ⟨rfl, rfl⟩ := H
  go_enter Try.func68, Try.ntmps68
  go_wp2_with (first | ((with_reducible refine gate_callee (f := 132) rfl ?_); refine goesL_ (some 9) rfl rfl Try.func132 (by kernel_rfl) rfl #[.int .i64 a0] rfl (by (try simp only [List.map_toArray, List.map_cons, List.map_nil]); first | done | rfl | (simp only [List.length_drop, List.length_take]; rfl)) ?_; (with_reducible refine (impl_isOp.calls a0 false _ A4.out).mono ?_); rintro e w' ⟨rfl, ⟨nd, rfl⟩⟩; refine ⟨_, rfl, ?_⟩))
  go_ret2
  exact ⟨_, by first | rfl | (simp [errW_none, errW_some] <;> rfl) | (simp [*, errW_none, errW_some] <;> rfl), by first | exact Kd.R_nil _ _ _ _ _ | exact Kd.N_nil _ _ _ _ _ | exact Kd.V_nil _ _ _ _ _ | exact Kd.Q_nil _ _ _ _ _ | exact Kd.S_nil _ _ _ _ _, by repeat (first | (with_reducible first | exact HB.out | apply below_alloc | apply pw_below_drewN | apply below_drew1) | exact HB.out)⟩

 subst c5
 rw [if_pos rfl] at H
 replace H := Option.bind_eq_some_iff.mp H
 obtain ⟨t1231, A60, H⟩ := H
 try dsimp only at H
 have A6 := Aside0.mk A60
 clear A60
 by_cases c7 : t1231 = true
 rotate_left
 ·replace c7 := Bool.eq_false_iff.mpr c7
  subst c7
  rw [if_neg (show ¬ (false = true) by decide)] at H
  simp only [Option.some.injEq, Prod.mk.injEq] at H
  obtain ⟨rfl, rfl⟩ := H
  go_enter Try.func68, Try.ntmps68
  go_wp2_with (first | ((with_reducible refine gate_callee (f := 132) rfl ?_); refine goesL_ (some 9) rfl rfl Try.func132 (by kernel_rfl) rfl #[.int .i64 a0] rfl (by (try simp only [List.map_toArray, List.map_cons, List.map_nil]); first | done | rfl | (simp only [List.length_drop, List.length_take]; rfl)) ?_; (with_reducible refine (impl_isOp.calls a0 true _ A4.out).mono ?_); rintro e w' ⟨rfl, ⟨nd, rfl⟩⟩; refine ⟨_, rfl, ?_⟩) | (go_at_call 32; (with_reducible refine (impl_IsVector.calls k a1 _ _ l2 false _ ?side1 ?side2 A6.out).mono ?_); (case side1 => repeat (first | exact HR2.out | (with_reducible refine Kd.C_alloc ?_ _) | (with_reducible refine Kd.C_drewN ?_ _) | (with_reducible refine Kd.C_drew ?_))); (case side2 => exact HC2.out); rintro e w11 ⟨rfl, hb⟩; have n0_ := Aside0.mk (below_step (by repeat (first | (with_reducible first | exact HB.out | apply below_alloc | apply pw_below_drewN | apply below_drew1) | exact HB.out)) hb); clear HB; have HB := n0_; clear n0_; (try clear hb); (try clear hb2); (try clear hk); (try clear hi)))
  go_ret2
  exact ⟨_, by first | rfl | (simp [errW_none, errW_some] <;> rfl) | (simp [*, errW_none, errW_some] <;> rfl), by first | exact Kd.R_nil _ _ _ _ _ | exact Kd.N_nil _ _ _ _ _ | exact Kd.V_nil _ _ _ _ _ | exact Kd.Q_nil _ _ _ _ _ | exact Kd.S_nil _ _ _ _ _, by repeat (first | (with_reducible first | exact HB.out | apply below_alloc | apply pw_below_drewN | apply below_drew1) | exact HB.out)⟩
 subst c7
 rw [if_pos rfl] at H
 replace H := Option.bind_eq_some_iff.mp H
 obtain ⟨t1232, A80, H⟩ := H
 try dsimp only at H
 have A8 := Aside0.mk A80
 clear A80
 simp only [Option.some.injEq, Prod.mk.injEq] at H
 obtain ⟨rfl, rfl⟩ := H
 go_enter Try.func68, Try.ntmps68
 go_wp2_with (first | ((with_reducible refine gate_callee (f := 132) rfl ?_); refine goesL_ (some 9) rfl rfl Try.func132 (by kernel_rfl) rfl #[.int .i64 a0] rfl (by (try simp only [List.map_toArray, List.map_cons, List.map_nil]); first | done | rfl | (simp only [List.length_drop, List.length_take]; rfl)) ?_; (with_reducible refine (impl_isOp.calls a0 true _ A4.out).mono ?_); rintro e w' ⟨rfl, ⟨nd, rfl⟩⟩; refine ⟨_, rfl, ?_⟩) | (go_at_call 32; (with_reducible refine (impl_IsVector.calls k a1 _ _ l2 true _ ?side1 ?side2 A6.out).mono ?_); (case side1 => repeat (first | exact HR2.out | (with_reducible refine Kd.C_alloc ?_ _) | (with_reducible refine Kd.C_drewN ?_ _) | (with_reducible refine Kd.C_drew ?_))); (case side2 => exact HC2.out); rintro e w9 ⟨rfl, hb⟩; have n0_ := Aside0.mk (below_step (by repeat (first | (with_reducible first | exact HB.out | apply below_alloc | apply pw_below_drewN | apply below_drew1) | exact HB.out)) hb); clear HB; have HB := n0_; clear n0_; (try clear hb); (try clear hb2); (try clear hk); (try clear hi)) | ((with_reducible refine gate_callee (f := 139) rfl ?_); refine goesL_ (some 20) rfl rfl Try.func139 (by kernel_rfl) rfl #[.int .i64 a0, .int .i64 a1, .slice A2 l2.length c2] rfl (by (try simp only [List.map_toArray, List.map_cons, List.map_nil]); first | done | rfl | (simp only [List.length_drop, List.length_take]; rfl)) ?_; (with_reducible refine (impl_stepScanned.calls k a0 a1 _ _ l2 t1232 _ ?side1 ?side2 A8.out).mono ?_); (case side1 => repeat (first | exact (Kd.C_below HR2.out HB.out) | (with_reducible refine Kd.C_alloc ?_ _) | (with_reducible refine Kd.C_drewN ?_ _) | (with_reducible refine Kd.C_drew ?_))); (case side2 => exact HC2.out); rintro e w10 ⟨v1233, rfl, ho0, hb⟩; refine ⟨_, rfl, ?_⟩; have n0_ := Aside0.mk (Kd.R_lower ho0 (below_size (by repeat (first | (with_reducible first | exact HB.out | apply below_alloc | apply pw_below_drewN | apply below_drew1) | exact HB.out)))); have n1_ := Aside0.mk (below_step (by repeat (first | (with_reducible first | exact HB.out | apply below_alloc | apply pw_below_drewN | apply below_drew1) | exact HB.out)) hb); clear HB; have HO1234 := n0_; have HB := n1_; clear n0_ n1_; (try clear hb); (try clear hb2); (try clear hk); (try clear hi); (try clear ho0)))
 go_ret2
 exact ⟨_, by first | rfl | (simp [errW_none, errW_some] <;> rfl) | (simp [*, errW_none, errW_some] <;> rfl), by (with_reducible repeat (first | apply Kd.R_alloc | apply Kd.R_drewN | apply Kd.R_drew)); exact HO1234.out, by repeat (first | (with_reducible first | exact HB.out | apply below_alloc | apply pw_below_drewN | apply below_drew1) | exact HB.out)⟩
end Go.Proofs.Ytpcjjminopdofaa.K
