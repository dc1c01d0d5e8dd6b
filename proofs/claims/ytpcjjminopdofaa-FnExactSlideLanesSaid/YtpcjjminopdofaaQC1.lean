-- Laid by a program of this session.
import Derived.Test.YtpcjjminopdofaaK0
import Derived.Test.YtpcjjminopdofaaH0
import Derived.Test.YtpcjjminopdofaaH1
import Derived.Test.YtpcjjminopdofaaQC0
namespace Go.Proofs.Ytpcjjminopdofaa.K
open Go.RowKit Go.Proofs.YtpcjjminopdofaaW.PrintWords Go.Proofs.YtpcjjminopdofaaW.PrintLast Go.Proofs.YtpcjjminopdofaaW.PrintMore Go.Proofs.Ytpcjjminopdofaa.Bx Go.Shelf
attribute [local go_sem] max2_int min2_int max_two min_two max_three min_three max_four min_four   -- for this text's walks alone
set_option linter.unusedVariables false
set_option linter.unusedSimpArgs false

/-! ### impl_SlideLanes: function 44 -/
/-- A window of memory of the call's own: where it lies, and what it reads. -/
def Wn (w : World) (base : Nat) (v : Value) (xs : List Int) : Prop := (∀ k, v.ownBlock = some k → base ≤ k) ∧ Kd.V (Kd.int .i64) 2 w base (fun k => base ≤ k) v xs
theorem Wn.nil (w : World) (base : Nat) : Wn w base (.slice none 0 0) [] := ⟨fun k hk => by simp [Value.ownBlock] at hk, Kd.V_nil _ _ _ _ _⟩
theorem Wn.below {w w1 : World} {b : Nat} {v : Value} {xs : List Int} (h : Wn w b v xs) (hb : Below w.heap.size w w1) : Wn w1 b v xs := ⟨h.1, Kd.V_below h.2 hb⟩
theorem Wn.alloc {w : World} {b : Nat} {v : Value} {xs : List Int} (h : Wn w b v xs) (o : Obj) : Wn (w.alloc o) b v xs := ⟨h.1, Kd.V_alloc h.2 o⟩
theorem Wn.drewN {w : World} {b : Nat} {v : Value} {xs : List Int} (h : Wn w b v xs) (m : Nat) : Wn (w.drewN m) b v xs := ⟨h.1, Kd.V_drewN h.2 m⟩
theorem Wn.drew {w : World} {b : Nat} {v : Value} {xs : List Int} (h : Wn w b v xs) : Wn w.drew b v xs := ⟨h.1, Kd.V_drew h.2⟩
theorem Wn.lower {w : World} {b b' : Nat} {v : Value} {xs : List Int} (h : Wn w b v xs) (hb : b' ≤ b) : Wn w b' v xs := ⟨fun k hk => Nat.le_trans hb (h.1 k hk), Kd.V_mono (Kd.V_lower h.2 hb) (fun k hk => Nat.le_trans hb hk)⟩
theorem Wn.slice {w : World} {b : Nat} {v : Value} {xs : List Int} (h : Wn w b v xs) : ∃ A c, v = .slice A xs.length c := Kd.V_slice h.2
/-- A window of a row of the call's own: the row lies whole, the value leads to some of it. -/
def Win (u : Value) (all : List Int) (v : Value) (xs : List Int) (o : Nat) : Prop :=
 (o = 0 ∨ 0 < xs.length) ∧ o + xs.length ≤ all.length ∧ xs = (all.drop o).take xs.length ∧ v.ownBlock = u.ownBlock ∧ ∃ (A : Option Addr) (c c' : Nat), u = .slice A all.length c ∧ v = .slice (A.map (·.add o)) xs.length c' ∧ xs.length ≤ c'
def Ow (w : World) (base : Nat) (ok : Nat → Prop) (v : Value) (xs : List Int) : Prop := ∃ (u : Value) (all : List Int) (o : Nat), Kd.R (Kd.int .i64) 2 w base ok u all ∧ Win u all v xs o
section
variable {w W w1 : World} {b base base' : Nat} {ok ok' : Nat → Prop} {u v : Value} {xs : List Int}
theorem map_add0 (A : Option Addr) : A.map (·.add 0) = A := by
 cases A with
 | none => rfl
 | some a => show some (a.add 0) = some a; unfold Addr.add; rw [if_pos rfl]
theorem Ow.of (h : Kd.R (Kd.int .i64) 2 w base ok v xs) : Ow w base ok v xs := by
 obtain ⟨A, c, rfl, hc, _⟩ := Kd.R_reads h
 exact ⟨_, _, 0, h, .inl rfl, by omega, by simp, rfl, A, c, c, rfl, by rw [map_add0], hc⟩
theorem Ow.alloc (h : Ow w base ok v xs) (o : Obj) : Ow (w.alloc o) base ok v xs := by
 obtain ⟨u, all, i, hr, hw⟩ := h; exact ⟨u, all, i, Kd.R_alloc hr o, hw⟩
theorem Ow.drewN (h : Ow w base ok v xs) (m : Nat) : Ow (w.drewN m) base ok v xs := by
 obtain ⟨u, all, i, hr, hw⟩ := h; exact ⟨u, all, i, Kd.R_drewN hr m, hw⟩
theorem Ow.drew (h : Ow w base ok v xs) : Ow w.drew base ok v xs := by
 obtain ⟨u, all, i, hr, hw⟩ := h; exact ⟨u, all, i, Kd.R_drew hr, hw⟩
theorem Ow.mono (h : Ow w base ok v xs) (hok : ∀ k, ok k → ok' k) : Ow w base ok' v xs := by
 obtain ⟨u, all, i, hr, hw⟩ := h; exact ⟨u, all, i, Kd.R_mono hr hok, hw⟩
theorem Ow.lower (h : Ow w base ok v xs) (hb : base' ≤ base) : Ow w base' ok v xs := by
 obtain ⟨u, all, i, hr, hw⟩ := h; exact ⟨u, all, i, Kd.R_lower hr hb, hw⟩
theorem Ow.bas (h : Ow w base ok v xs) : ∀ k, v.ownBlock = some k → base ≤ k := by
 obtain ⟨u, all, i, hr, hw⟩ := h; exact fun k hk => Kd.R_base hr k (hw.2.2.2.1.symm.trans hk)
theorem Ow.lt (h : Ow w base ok v xs) : ∀ k, v.ownBlock = some k → k < w.heap.size := by
 obtain ⟨u, all, i, hr, hw⟩ := h; exact fun k hk => Kd.R_lt hr k (hw.2.2.2.1.symm.trans hk)
theorem Ow.ok1 (h : Ow w base ok v xs) : ∀ k, v.ownBlock = some k → ok k := by
 obtain ⟨u, all, i, hr, hw⟩ := h; exact fun k hk => hr.1 k (hw.2.2.2.1.symm.trans hk)
theorem Ow.elder' (h : Ow W base ok v xs) (hbase : ∀ k, u.ownBlock = some k → W.heap.size ≤ k) (hb : Below W.heap.size W w1) : Ow w1 base (fun k => ok k ∧ some k ≠ u.ownBlock) v xs := by
 obtain ⟨u', all, i, hr, hw⟩ := h; exact ⟨u', all, i, Kd.R_elder' hr hbase hb, hw⟩
theorem Ow.new' (h : Ow w1 W.heap.size ok v xs) (hlt : ∀ k, u.ownBlock = some k → k < W.heap.size) : Ow w1 W.heap.size (fun k => ok k ∧ some k ≠ u.ownBlock) v xs := by
 obtain ⟨u', all, i, hr, hw⟩ := h; exact ⟨u', all, i, Kd.R_new' hr hlt, hw⟩
theorem Ow.keptB {S : Nat → Prop} (h : Ow W base ok v xs) (hk : Kept W w1 S) (hne : ∀ k, ok k → ¬ S k) : Ow w1 base (fun k => ok k ∧ (¬ S k ∧ k < W.heap.size)) v xs := by
 obtain ⟨u', all, i, hr, hw⟩ := h; exact ⟨u', all, i, Kd.R_keptB hr hk hne, hw⟩
theorem Ow.reok (h : Ow w base ok v xs) (hok : ∀ k, v.ownBlock = some k → ok' k) : Ow w base ok' v xs := by
 obtain ⟨u', all, i, hr, hw⟩ := h; exact ⟨u', all, i, Kd.R_reok rfl hr (fun k hk => hok k (hw.2.2.2.1.trans hk)), hw⟩
theorem Ow.tight (h : Ow w base ok v xs) : Ow w base (fun k => some k = v.ownBlock) v xs := Ow.reok h (fun k hk => hk.symm)
theorem Ow.slice (h : Ow w base ok v xs) : ∃ A c, v = .slice A xs.length c := by
 obtain ⟨u', all, i, hr, _, _, _, _, A, c, c', _, hv, _⟩ := h; exact ⟨_, _, hv⟩
theorem Ow.V (h : Ow w base ok v xs) : Kd.V (Kd.int .i64) 2 w base' ok v xs := by
 obtain ⟨u', all, i, hr, h0, hl, hx, _, A, c, c', rfl, rfl, hc'⟩ := h
 have hV := Kd.R_V (base' := base) hr
 obtain ⟨_, hc, hf⟩ := Kd.V_at hV
 have hf2 : Kd.F (Kd.int .i64) w ok (A.map (·.add i)) ((all.drop i).take xs.length).length ((all.drop i).take xs.length) := by
  rcases h0 with rfl | h0
  ·rw [map_add0, List.drop_zero]
   exact Kd.F_take hf (by omega)
  ·have h2 := Kd.F_take (m := xs.length) (Kd.F_cut (m := i) hf (by omega) hc) (by rw [List.length_drop]; omega)
   rw [if_neg (by omega)] at h2
   simp only [show (Kd.int .i64).sz = 1 from rfl, Nat.mul_one] at h2
   exact h2
 rw [← hx] at hf2
 exact Kd.V_mk hc' hf2
theorem Ow.reads' {A : Option Addr} {n c : Nat} (h : Ow w base ok (.slice A n c) xs) : n = xs.length ∧ n ≤ c ∧ Kd.C (Kd.int .i64) w A xs.length xs := Kd.V_reads' (e := 2) (base := base) (Ow.V h)
end
theorem add_o (g o : Nat) : (⟨g, 0, none⟩ : Addr).add o = ⟨g, o, none⟩ := by
 unfold Addr.add
 split
 ·rename_i h; rw [h]
 ·simp
theorem win_set (al : List Int) (o n j : Nat) (x : Int) (hj : j < n) : ((al.drop o).take n).set j x = ((al.set (o + j) x).drop o).take n := by
 rw [List.drop_set, if_neg (by omega), Nat.add_sub_cancel_left, List.take_set]
set_option maxHeartbeats 8000000 in
set_option maxRecDepth 100000 in
theorem mark_ow (k : Nat) (P0_ : Nat → Prop) (u9000_ : Value) (l0 : List Int) (a1 : Int) (r1 : Int) (r2 : List Int) (w0 w : World) (hB : Below w0.heap.size w0 w) (ho0 : Ow w w0.heap.size P0_ u9000_ l0) (h : laws_markInt64S.f k l0 a1 = some (r1, r2)) :
  Calls Try.prog 35 #[u9000_, .int .i64 a1] w fun e w' => e = .returned (.int .i64 r1) ∧ Ow w' w0.heap.size (fun k_ => (P0_ k_ ∨ w.heap.size ≤ k_)) u9000_ r2 ∧ Below w0.heap.size w0 w' ∧ Kept w w' (fun k_ => P0_ k_) := by
 obtain ⟨u, all, o, hr, h0, hl, hx, hob, A, c, c', rfl, rfl, hc'⟩ := ho0
 have H' : Aside0 (laws_markInt64S.l0 k l0 a1 0 = some (r1, r2)) := ⟨h⟩
 have HK := Aside0.mk (Kept.refl w (fun k_ => P0_ k_))
 have HB := Aside0.mk hB
 clear h hB
 by_cases hn : 0 < l0.length
 ·obtain ⟨g, cap, hvv, gb, gl, cl, hg⟩ := Kd.R_form hr (by omega)
  injection hvv with ea _ ec
  subst ea
  have HO : Aside0 (Kd.R (Kd.int .i64) 2 w w0.heap.size (fun k_ => (P0_ k_ ∨ w.heap.size ≤ k_)) (.slice (some ⟨g, 0, none⟩) all.length c) all) := ⟨Kd.R_mono hr (fun k_ hk => .inl hk)⟩
  have HP : Aside0 (P0_ g) := ⟨hr.1 g rfl⟩
  have HL : Aside0 (o + l0.length ≤ all.length ∧ l0.length ≤ c') := ⟨hl, hc'⟩
  have HX := Aside0.mk hx
  have HN := Aside0.mk hn
  obtain ⟨n, hnn⟩ : ∃ n, n = l0.length := ⟨_, rfl⟩
  have HNN := Aside0.mk hnn
  show Calls _ _ #[.slice (some ((⟨g, 0, none⟩ : Addr).add o)) l0.length c', _] _ _
  rw [add_o, ← hnn]
  have GB : Aside0 (w0.heap.size ≤ g) := ⟨gb⟩
  clear hr hl hx hob hc' hn hnn gb gl hg h0 ec
  go_enter Try.func35, Try.ntmps35
  go_wp2
  go_loopg [1, 5] k (fun kq v1 v5 w' => ∃ (x0 al : List Int) (x1 x5 : Int), v1 = .int .i64 x1 ∧ v5 = .int .i64 x5 ∧ Aside0 (laws_markInt64S.l0 kq x0 x1 x5 = some (r1, r2)) ∧ Aside0 (kq ≤ k) ∧ Aside0 (x0.length = n ∧ al.length = all.length ∧ x0 = (al.drop o).take n) ∧ Aside0 (Kd.R (Kd.int .i64) 2 w' w0.heap.size (fun k_ => (P0_ k_ ∨ w.heap.size ≤ k_)) (.slice (some ⟨g, 0, none⟩) al.length c) al) ∧ Aside0 (Kept w w' (fun k_ => P0_ k_)) ∧ Aside0 (Below w0.heap.size w0 w'))
  case atStart => exact ⟨l0, all, a1, 0, rfl, rfl, H', ⟨Nat.le_refl _⟩, ⟨HNN.out.symm, rfl, by rw [HNN.out]; exact HX.out⟩, ⟨by (with_reducible repeat (first | apply Kd.R_alloc | apply Kd.R_drewN | apply Kd.R_drew)); exact HO.out⟩, ⟨by repeat (first | (with_reducible first | exact HK.out | apply Kept.alloc | apply Kept.drewN | apply Kept.drew) | exact HK.out)⟩, ⟨by repeat (first | exact HB.out | apply below_alloc | apply pw_below_drewN | apply below_drew1)⟩⟩
  case round =>
   clear H' HO HK HB
   obtain ⟨x0, al, x1, x5, rfl, rfl, HA, HK1, HQ, HO, HK, HB⟩ := hrel
   cases gk with
   | zero => exact absurd HA.out (by simp [laws_markInt64S.l0])
   | succ k1 =>
    have H := HA.out
    clear HA
    simp only [laws_markInt64S.l0] at H
    have q0 := HQ.out
    by_cases c3 : x5 < (x0.length : Int)
    rotate_left
    ·rw [if_neg c3] at H
     have c3b0 : decide (x5 < (n : Int)) = false := decide_eq_false (by omega)
     simp only [Option.some.injEq, Prod.mk.injEq] at H
     obtain ⟨rfl, rfl⟩ := H
     clear c3 q0
     go_wp2
     go_ret
     refine ⟨rfl, ⟨_, al, o, HO.out, .inr (by have := HQ.out; have := HN.out; have := HNN.out; omega), by have := HQ.out; have := HL.out; have := HNN.out; omega, by have := HQ.out; rw [this.1]; exact this.2.2, by show some ((⟨g, 0, none⟩ : Addr).add o).block = some g; rw [add_o], some ⟨g, 0, none⟩, c, c', rfl, ?_, by have := HQ.out; have := HL.out; have := HNN.out; omega⟩, by repeat (first | exact HB.out | apply below_alloc | apply pw_below_drewN | apply below_drew1), by repeat (first | exact HK.out | apply Kept.alloc | apply Kept.drewN | apply Kept.drew)⟩
     rw [HQ.out.1]
    rw [if_pos c3] at H
    by_cases c4 : 0 ≤ x5
    rotate_left
    ·rw [if_neg c4] at H
     exact absurd H (by simp)
    rw [if_pos c4] at H
    obtain ⟨j, rfl⟩ : ∃ j : Nat, x5 = j := ⟨x5.toNat, by omega⟩
    rw [Int.toNat_natCast] at H
    have hj : j < n := by omega
    have c3b0 : decide ((j : Int) < (n : Int)) = true := decide_eq_true (by omega)
    have c3b1 : decide (j < n) = true := decide_eq_true hj
    have q7 : (j < n) = True := eq_true hj
    have q8 : ((j : Int) < (n : Int)) = True := eq_true (by omega)
    have q9 : (0 ≤ (j : Int)) = True := eq_true c4
    have c4b0 : decide (0 ≤ (j : Int)) = true := decide_eq_true c4
    have hLL := HL.out
    have hNN := HNN.out
    have p5 : 0 ≤ ((o + j : Nat) : Int) := by omega
    have q5 : ((o + j : Nat) : Int) < (al.length : Int) := by omega
    obtain ⟨hx5, hf5⟩ := Kd.R_celln 0 HO.out ((o + j : Nat) : Int) p5 q5
    have HP7 := Kd.R_putg HO.out ((o + j : Nat) : Int) x1
    rw [Int.toNat_natCast] at HP7
    have H2 := Aside0.mk H
    have HJ := Aside0.mk hj
    clear H c3 c4 q0 hj hLL hNN
    rw [Int.toNat_natCast] at hx5 hf5
    go_wp2_with (first | ((with_reducible refine gate_store (t := 2) (p := 15) rfl ?_); refine store_event (t := 2) (p := 15) (v := ?vo_w8) (w1 := (wr.setCell ⟨g, o + j, none⟩ (.int .i64 x1))) ?hg ?ho ?hn ?hr ?_; (case ho => rfl); (case hg => rfl); (case hn => rfl); (case hr => first | (go_simp; done) | (go_simp; rfl)); intro w8 hw; have hg : wr.grownBy w8 (some g) := (by rw [hw]; exact HP7.2); have hp_ : Kd.R (Kd.int .i64) 2 w8 w0.heap.size (fun k_ => (P0_ k_ ∨ w.heap.size ≤ k_)) (.slice (some ⟨g, 0, none⟩) al.length c) (al.set (o + j) x1) := (by rw [hw]; exact HP7.1); clear HP7; have n0_ := Aside0.mk hp_; have n1_ := Aside0.mk ((by rw [hw]; exact below_set HB.out GB.out : Below w0.heap.size w0 w8)); have n2_ := Aside0.mk (Kept.of_grown (S := (fun k_ => P0_ k_)) hg HK.out (fun k_ e_ => (HO.out.1 k_ e_))); clear HO; clear HB; clear HK; have HO := n0_; have HB := n1_; have HK := n2_; clear n0_ n1_ n2_; clear hg hw hp_))
    go_roundg k1
    case measure => have := HK1.out; omega
    case rel => exact ⟨x0.set j x1, al.set (o + j) x1, wrap64 (x1 + 1), wrap64 ((j : Int) + 1), (by first | rfl | (simp; done) | (simp [*]; done)), (by first | rfl | (simp; done) | (simp [*]; done)), H2, ⟨by have := HK1.out; omega⟩, ⟨by rw [List.length_set]; exact HQ.out.1, by rw [List.length_set]; exact HQ.out.2.1, by rw [HQ.out.2.2, win_set _ _ _ _ _ HJ.out]⟩, ⟨by rw [List.length_set]; (with_reducible repeat (first | apply Kd.R_alloc | apply Kd.R_drewN | apply Kd.R_drew)); exact HO.out⟩, ⟨by repeat (first | exact HK.out | apply Kept.alloc | apply Kept.drewN | apply Kept.drew)⟩, ⟨by repeat (first | exact HB.out | apply below_alloc | apply pw_below_drewN | apply below_drew1)⟩⟩
 ·have hl0 : l0 = [] := List.eq_nil_of_length_eq_zero (by omega)
  subst hl0
  have hkk : r1 = a1 ∧ r2 = [] := by
   have h := H'.out
   cases k with
   | zero => exact absurd h (by simp [laws_markInt64S.l0])
   | succ k =>
    simp only [laws_markInt64S.l0] at h
    rw [if_neg (by simp)] at h
    have := Option.some.inj h
    exact ⟨(Prod.mk.inj this).1.symm, (Prod.mk.inj this).2.symm⟩
  obtain ⟨rfl, rfl⟩ := hkk
  have HO : Aside0 (Ow w w0.heap.size (fun k_ => (P0_ k_ ∨ w.heap.size ≤ k_)) (.slice (A.map (·.add o)) ([] : List Int).length c') []) := ⟨Ow.mono ⟨_, all, o, hr, h0, hl, hx, hob, A, c, c', rfl, rfl, hc'⟩ (fun k_ hk => .inl hk)⟩
  clear hr h0 hl hx hob H' hn
  generalize A.map (·.add o) = AA at *
  go_enter Try.func35, Try.ntmps35
  go_wp2
  go_loopg [1, 5] 0 (fun kq v1 v5 w' => v1 = .int .i64 r1 ∧ v5 = .int .i64 0 ∧ Aside0 (Ow w' w0.heap.size (fun k_ => (P0_ k_ ∨ w.heap.size ≤ k_)) (.slice AA ([] : List Int).length c') []) ∧ Aside0 (Kept w w' (fun k_ => P0_ k_)) ∧ Aside0 (Below w0.heap.size w0 w'))
  case atStart => exact ⟨rfl, rfl, ⟨by (with_reducible repeat (first | apply Ow.alloc | apply Ow.drewN | apply Ow.drew)); exact HO.out⟩, ⟨by repeat (first | exact HK.out | apply Kept.alloc | apply Kept.drewN | apply Kept.drew)⟩, ⟨by repeat (first | exact HB.out | apply below_alloc | apply pw_below_drewN | apply below_drew1)⟩⟩
  case round =>
   clear HO HK HB
   obtain ⟨rfl, rfl, HO, HK, HB⟩ := hrel
   go_wp2
   go_ret
   exact ⟨rfl, by (with_reducible repeat (first | apply Ow.alloc | apply Ow.drewN | apply Ow.drew)); exact HO.out, by repeat (first | exact HB.out | apply below_alloc | apply pw_below_drewN | apply below_drew1), by repeat (first | exact HK.out | apply Kept.alloc | apply Kept.drewN | apply Kept.drew)⟩
def SlOk (b : Int) (l m : List Int) (n : Int) : Prop := vecs b [l, m] = true ∧ 0 ≤ n ∧ n ≤ (l.length : Int)
instance (b : Int) (l m : List Int) (n : Int) : Decidable (SlOk b l m n) := inferInstanceAs (Decidable (_ ∧ _ ∧ _))
def impl_SlideLanes.f (_k : Nat) (a0 : Int) (l1 : List Int) (l2 : List Int) (a3 : Int) : Option (List Int × Bool) := some (if SlOk a0 l1 l2 a3 then (((l1 ++ l2).drop a3.toNat).take l1.length, true) else ([], false))
theorem impl_SlideLanes.mono : ∀ a0 a1 a2 a3 k, LeO (impl_SlideLanes.f k a0 a1 a2 a3) (impl_SlideLanes.f (k + 1) a0 a1 a2 a3) := fun _ _ _ _ _ => LeO.refl _
theorem impl_SlideLanes.ok {b : Int} {l m : List Int} (h : vecs b [l, m] = true) : l.length = m.length ∧ 2 ≤ l.length ∧ l.length ≤ 16 := by
 have h : ((vec b l && ((l.length : Int) == (l.length : Int))) && ((vec b m && ((m.length : Int) == (l.length : Int))) && true)) = true := h
 simp only [Bool.and_eq_true, beq_iff_eq, Bool.and_true] at h
 have := lanes_le (vec_iff.mp h.1.1).2.1
 omega
set_option maxHeartbeats 16000000 in
set_option maxRecDepth 100000 in
theorem impl_SlideLanes.win (k : Nat) (a0 : Int) (P1_ : Nat → Prop) (A1 : Option Addr) (c1 : Nat) (l1 : List Int) (P2_ : Nat → Prop) (A2 : Option Addr) (c2 : Nat) (l2 : List Int) (a3 : Int) (r1 : List Int) (r2 : Bool) (w : World) (hs1 : Kd.V (Kd.int .i64) 2 w w.heap.size (fun k_ => P1_ k_) (.slice A1 l1.length c1) l1) (hs2 : Kd.V (Kd.int .i64) 2 w w.heap.size (fun k_ => P2_ k_) (.slice A2 l2.length c2) l2) (h : impl_SlideLanes.f k a0 l1 l2 a3 = some (r1, r2)) :
  Calls Try.prog 44 #[.int .i64 a0, .slice A1 l1.length c1, .slice A2 l2.length c2, .int .i64 a3] w fun e w' => ∃ v0_ : Value, e = .returned (.tuple #[v0_, .bool r2]) ∧ Ow w' w.heap.size (fun k_ => w.heap.size ≤ k_) v0_ r1 ∧ Below w.heap.size w w' := by
 have hv := Option.some.inj h
 clear h
 have HC1 := Aside0.mk (Kd.V_reads' hs1).2.1
 have HC2 := Aside0.mk (Kd.V_reads' hs2).2.1
 have HO1 := Aside0.mk (show Kd.V (Kd.int .i64) 2 w w.heap.size (fun k_ => ((P1_ k_ ∨ P2_ k_) ∨ w.heap.size ≤ k_)) (.slice A1 l1.length c1) l1 from Kd.V_mono hs1 (fun k_ hk => .inl (.inl hk)))
 have HO2 := Aside0.mk (show Kd.V (Kd.int .i64) 2 w w.heap.size (fun k_ => ((P1_ k_ ∨ P2_ k_) ∨ w.heap.size ≤ k_)) (.slice A2 l2.length c2) l2 from Kd.V_mono hs2 (fun k_ hk => .inl (.inr hk)))
 have HB := Aside0.mk (Below.refl w.heap.size w)
 obtain ⟨y, hy⟩ : ∃ y : List (List Int), y = [l1, l2] := ⟨_, rfl⟩
 have Ny := Aside0.mk hy
 have HR1 := Aside0.mk (Kd.V_reads' hs1).2.2
 by_cases q : SlOk a0 l1 l2 a3
 ·rw [if_pos q] at hv
  obtain ⟨rfl, rfl⟩ := Prod.mk.inj hv
  clear hv
  obtain ⟨qv, m0, m2⟩ := q
  obtain ⟨he, h2, h16⟩ := impl_SlideLanes.ok qv
  have HV : Aside0 (impl_areVectors.f 0 a0 y = some true) := ⟨by rw [hy]; unfold impl_areVectors.f; rw [qv]⟩
  have HW : Aside0 (impl_within.f a3 0 (l1.length : Int) = some true) := ⟨by unfold impl_within.f; rw [if_pos m0, decide_eq_true m2]⟩
  have hfl : y.flatten = l1 ++ l2 := by rw [hy]; simp
  obtain ⟨z, hz⟩ : ∃ z : List Int, z = l1 ++ l2 := ⟨_, rfl⟩
  have hzl : z.length = 2 * l1.length := by rw [hz, List.length_append]; omega
  have HFz : Aside0 (y.flatten = z) := ⟨by rw [hfl, hz]⟩
  have HF1 : Aside0 (0 < y.flatten.length) := ⟨by rw [HFz.out]; omega⟩
  have HF2 : Aside0 (y.flatten.length < 1048576) := ⟨by rw [HFz.out]; omega⟩
  have HF3 : Aside0 (y.length < 1048576) := ⟨by rw [hy]; simp⟩
  obtain ⟨n, rfl⟩ : ∃ n : Nat, a3 = n := ⟨a3.toNat, by omega⟩
  rw [Int.toNat_natCast]
  have g1 : decide (0 ≤ (n : Int)) = true := decide_eq_true m0
  have g2 : decide ((n : Int) ≤ (z.length : Int)) = true := decide_eq_true (by omega)
  have g3 : decide (n ≤ z.length) = true := decide_eq_true (by omega)
  have m3 : n ≤ l1.length := by omega
  have HM := Aside0.mk m3
  have H2 := Aside0.mk h2
  have HZL := Aside0.mk hzl
  have HZ2 : Aside0 (z = l1 ++ l2) := ⟨hz⟩
  clear qv hs1 hs2 hy he h2 h16 hfl hz hzl m0 m2 m3
  go_enter Try.func44, Try.ntmps44
  go_wp2_with (first | ((with_reducible refine gate_dst (N := 13) rfl ?_); (try (refine gate_guard (by rfl) ?_; dsimp only)); refine Kd.N_lit (Kd.slice 2 (Kd.int .i64)) _ 22 ?hg (N' := 13) ?hd (xs := ([l1, l2] : List (List Int))) (inner := [.slice A1 l1.length c1, .slice A2 l2.length c2]) (ok := (fun k_ => ((P1_ k_ ∨ P2_ k_) ∨ w.heap.size ≤ k_))) (okp := (fun k_ => ((P1_ k_ ∨ P2_ k_) ∨ w.heap.size ≤ k_))) ?hr ?hp (fun _ hk => hk) ((show ∀ k_, w.heap.size ≤ k_ → (fun k_ => ((P1_ k_ ∨ P2_ k_) ∨ w.heap.size ≤ k_)) k_ from fun k_ hk => .inr hk) _ (below_size (by repeat (first | exact HB.out | exact Below.refl _ _ | apply below_alloc | apply pw_below_drewN | apply below_drew1)))) (Below.refl _ _) (Nat.le_refl _) (by simp) ?_; (case hd => rfl); (case hg => rfl); (case hr => first | (go_simp; done) | (go_simp; rfl)); (case hp => exact (Reps.one (show Kd.FK (Kd.slice 2 (Kd.int .i64)) _ _ l1 [.slice A1 l1.length c1] from (Kd.FK_slice_mk HC1.out (Kd.V_F (Kd.V_mono (ok' := (fun k_ => ((P1_ k_ ∨ P2_ k_) ∨ w.heap.size ≤ k_))) (by (with_reducible repeat (first | apply Kd.V_alloc | apply Kd.V_drewN | apply Kd.V_drew)); exact HO1.out) (fun k_ hk => hk))))) (Reps.one (show Kd.FK (Kd.slice 2 (Kd.int .i64)) _ _ l2 [.slice A2 l2.length c2] from (Kd.FK_slice_mk HC2.out (Kd.V_F (Kd.V_mono (ok' := (fun k_ => ((P1_ k_ ∨ P2_ k_) ∨ w.heap.size ≤ k_))) (by (with_reducible repeat (first | apply Kd.V_alloc | apply Kd.V_drewN | apply Kd.V_drew)); exact HO2.out) (fun k_ hk => hk))))) (Reps.none _ _)))); intro v245 w10 ho11 hb hg_ hnew_; clear hg_ hnew_; (first | rw [← Ny.out] at ho11 | (simp only [Int.reduceToNat] at ho11; rw [← Ny.out] at ho11)); have HY := Aside0.mk ho11; have ho11x := ho11; have HD1 : Aside0 (Kd.V (Kd.int .i64) 2 w10 w.heap.size (fun k_ => ((P1_ k_ ∨ P2_ k_) ∨ w.heap.size ≤ k_)) (.slice A1 l1.length c1) l1) := ⟨Kd.V_mono (Kd.V_elder' (by (with_reducible repeat (first | apply Kd.V_alloc | apply Kd.V_drewN | apply Kd.V_drew)); exact HO1.out) (Kd.N_base ho11x) hb) (fun _ hk => hk.1)⟩; have HD2 : Aside0 (Kd.V (Kd.int .i64) 2 w10 w.heap.size (fun k_ => ((P1_ k_ ∨ P2_ k_) ∨ w.heap.size ≤ k_)) (.slice A2 l2.length c2) l2) := ⟨Kd.V_mono (Kd.V_elder' (by (with_reducible repeat (first | apply Kd.V_alloc | apply Kd.V_drewN | apply Kd.V_drew)); exact HO2.out) (Kd.N_base ho11x) hb) (fun _ hk => hk.1)⟩; have n3_ : Aside0 (Below w.heap.size w w10) := ⟨below_step (by repeat (first | exact HB.out | exact Below.refl _ _ | apply below_alloc | apply pw_below_drewN | apply below_drew1)) hb⟩; (try clear HB); have HB := n3_; clear n3_; clear hb ho11 ho11x; obtain ⟨Ao12, co12, eo12⟩ := Kd.N_slice HY.out; subst eo12) | (go_at_call 106; (with_reducible refine (impl_areVectors.calls 0 a0 _ _ y true _ ?side1 ?side2 HV.out).mono ?_); (case side1 => repeat (first | exact (Kd.N_reads' HY.out).2.2 | (with_reducible refine Kd.C_alloc ?_ _) | (with_reducible refine Kd.C_drewN ?_ _) | (with_reducible refine Kd.C_drew ?_))); (case side2 => exact (Kd.N_reads' HY.out).2.1); rintro e w13 ⟨rfl, hb⟩; have n1_ := Aside0.mk (Kd.V_below (by (with_reducible repeat (first | apply Kd.V_alloc | apply Kd.V_drewN | apply Kd.V_drew)); exact HD1.out) hb); have n2_ := Aside0.mk (Kd.V_below (by (with_reducible repeat (first | apply Kd.V_alloc | apply Kd.V_drewN | apply Kd.V_drew)); exact HD2.out) hb); clear HD1 HD2; have HD1 := n1_; have HD2 := n2_; clear n1_ n2_; have n3_ : Aside0 (Below w.heap.size w w13) := ⟨below_step (by repeat (first | exact HB.out | exact Below.refl _ _ | apply below_alloc | apply pw_below_drewN | apply below_drew1)) hb⟩; clear HB; have HB := n3_; clear n3_; clear hb) | (go_at_call 86; (with_reducible refine (impl_length_int64.calls _ _ l1 _ _ ?l1 HC1.out (show impl_length_int64.f l1 = some (l1.length : Int) from rfl)).mono ?_); (case l1 => exact Kd.C_below HR1.out (by repeat (first | exact HB.out | exact Below.refl _ _ | apply below_alloc | apply pw_below_drewN | apply below_drew1))); rintro e w' ⟨rfl, ⟨nd, rfl⟩⟩) | (go_at_call 107; (with_reducible refine (impl_within.calls _ 0 (l1.length : Int) true _ HW.out).mono ?_); rintro e w' ⟨rfl, ⟨nd, rfl⟩⟩) | ((with_reducible refine gate_dst (N := 25) rfl ?_); (try (refine gate_guard (by rfl) ?_; dsimp only)); refine Kd.N_lit (Kd.slice 2 (Kd.int .i64)) _ 22 ?hg (N' := 25) ?hd (xs := ([l1, l2] : List (List Int))) (inner := [.slice A1 l1.length c1, .slice A2 l2.length c2]) (ok := (fun k_ => ((P1_ k_ ∨ P2_ k_) ∨ w.heap.size ≤ k_))) (okp := (fun k_ => ((P1_ k_ ∨ P2_ k_) ∨ w.heap.size ≤ k_))) ?hr ?hp (fun _ hk => hk) ((show ∀ k_, w.heap.size ≤ k_ → (fun k_ => ((P1_ k_ ∨ P2_ k_) ∨ w.heap.size ≤ k_)) k_ from fun k_ hk => .inr hk) _ (below_size (by repeat (first | exact HB.out | exact Below.refl _ _ | apply below_alloc | apply pw_below_drewN | apply below_drew1)))) (Below.refl _ _) (Nat.le_refl _) (by simp) ?_; (case hd => rfl); (case hg => rfl); (case hr => first | (go_simp; done) | (go_simp; rfl)); (case hp => exact (Reps.one (show Kd.FK (Kd.slice 2 (Kd.int .i64)) _ _ l1 [.slice A1 l1.length c1] from (Kd.FK_slice_mk HC1.out (Kd.V_F (Kd.V_mono (ok' := (fun k_ => ((P1_ k_ ∨ P2_ k_) ∨ w.heap.size ≤ k_))) (by (with_reducible repeat (first | apply Kd.V_alloc | apply Kd.V_drewN | apply Kd.V_drew)); exact HD1.out) (fun k_ hk => hk))))) (Reps.one (show Kd.FK (Kd.slice 2 (Kd.int .i64)) _ _ l2 [.slice A2 l2.length c2] from (Kd.FK_slice_mk HC2.out (Kd.V_F (Kd.V_mono (ok' := (fun k_ => ((P1_ k_ ∨ P2_ k_) ∨ w.heap.size ≤ k_))) (by (with_reducible repeat (first | apply Kd.V_alloc | apply Kd.V_drewN | apply Kd.V_drew)); exact HD2.out) (fun k_ hk => hk))))) (Reps.none _ _)))); intro v246 w20 ho11 hb hg_ hnew_; clear hg_ hnew_; (first | rw [← Ny.out] at ho11 | (simp only [Int.reduceToNat] at ho11; rw [← Ny.out] at ho11)); have HZ := Aside0.mk ho11; have n3_ : Aside0 (Below w.heap.size w w20) := ⟨below_step (by repeat (first | exact HB.out | exact Below.refl _ _ | apply below_alloc | apply pw_below_drewN | apply below_drew1)) hb⟩; (try clear HB); have HB := n3_; clear n3_; clear hb ho11; obtain ⟨Ao22, co22, eo12⟩ := Kd.N_slice HZ.out; subst eo12) | (go_at_call 108; refine (concat_c y _ _ _ ?g1 (Kd.N_reads' HZ.out).2.1 HF1.out HF2.out HF3.out).mono ?_; (case g1 => repeat (first | exact (Kd.N_reads' HZ.out).2.2 | (with_reducible refine Kd.C_alloc ?_ _) | (with_reducible refine Kd.C_drewN ?_ _) | (with_reducible refine Kd.C_drew ?_))); rintro e w2 ⟨v, rfl, ho, hb⟩; rw [HFz.out] at ho; obtain ⟨Av, cv, rfl, hcv, hCv⟩ := Kd.R_reads ho; have hS := below_size (show Below w.heap.size w _ by repeat (first | exact HB.out | exact Below.refl _ _ | apply below_alloc | apply pw_below_drewN | apply below_drew1)); have HRZ : Aside0 (Kd.R (Kd.int .i64) 2 w2 w.heap.size (fun k => w.heap.size ≤ k) (.slice Av z.length cv) z) := ⟨Kd.R_lower (Kd.R_mono (Kd.R_bound ho) (fun k hk => Nat.le_trans hS hk.2.1)) hS⟩; clear hS; have HCV := Aside0.mk hCv; have HB2 : Aside0 (Below w.heap.size w w2) := ⟨below_step (by repeat (first | exact HB.out | exact Below.refl _ _ | apply below_alloc | apply pw_below_drewN | apply below_drew1)) hb⟩; have HS2 : Aside0 (w.heap.size ≤ w2.heap.size) := ⟨below_size HB2.out⟩; clear HB hb ho hCv; have HB := HB2; clear HB2))
  all_goals
   have k1 := HM.out
   have k2 := H2.out
   have k3 := HZL.out
  any_goals (exfalso; omega)
  go_ret2
  have e : ((z.drop n).take l1.length).length = l1.length := by rw [List.length_take, List.length_drop]; omega
  obtain ⟨g, cap, hvv, _⟩ := Kd.R_form HRZ.out (by omega)
  injection hvv with ea _ _
  refine ⟨_, rfl, ⟨_, z, n, HRZ.out, .inr (by rw [← HZ2.out, e]; omega), by rw [← HZ2.out, e]; omega, by rw [← HZ2.out, e], ?_, Av, cv, l1.length, rfl, ?_, by rw [← HZ2.out, e]; omega⟩, by repeat (first | exact HB.out | exact Below.refl _ _ | apply below_alloc | apply pw_below_drewN | apply below_drew1)⟩
  ·subst ea
   show some ((⟨g, 0, none⟩ : Addr).add n).block = some g
   congr 1
   unfold Addr.add
   split <;> rfl
  ·rw [← HZ2.out, e]
   rfl
 ·rw [if_neg q] at hv
  obtain ⟨rfl, rfl⟩ := Prod.mk.inj hv
  clear hv
  by_cases qv : vecs a0 [l1, l2] = true
  rotate_left
  ·have HV : Aside0 (impl_areVectors.f 0 a0 y = some false) := ⟨by rw [hy]; unfold impl_areVectors.f; rw [Bool.eq_false_iff.mpr qv]⟩
   clear q qv hs1 hs2 hy
   go_enter Try.func44, Try.ntmps44
   go_wp2_with (first | ((with_reducible refine gate_dst (N := 13) rfl ?_); (try (refine gate_guard (by rfl) ?_; dsimp only)); refine Kd.N_lit (Kd.slice 2 (Kd.int .i64)) _ 22 ?hg (N' := 13) ?hd (xs := ([l1, l2] : List (List Int))) (inner := [.slice A1 l1.length c1, .slice A2 l2.length c2]) (ok := (fun k_ => ((P1_ k_ ∨ P2_ k_) ∨ w.heap.size ≤ k_))) (okp := (fun k_ => ((P1_ k_ ∨ P2_ k_) ∨ w.heap.size ≤ k_))) ?hr ?hp (fun _ hk => hk) ((show ∀ k_, w.heap.size ≤ k_ → (fun k_ => ((P1_ k_ ∨ P2_ k_) ∨ w.heap.size ≤ k_)) k_ from fun k_ hk => .inr hk) _ (below_size (by repeat (first | exact HB.out | exact Below.refl _ _ | apply below_alloc | apply pw_below_drewN | apply below_drew1)))) (Below.refl _ _) (Nat.le_refl _) (by simp) ?_; (case hd => rfl); (case hg => rfl); (case hr => first | (go_simp; done) | (go_simp; rfl)); (case hp => exact (Reps.one (show Kd.FK (Kd.slice 2 (Kd.int .i64)) _ _ l1 [.slice A1 l1.length c1] from (Kd.FK_slice_mk HC1.out (Kd.V_F (Kd.V_mono (ok' := (fun k_ => ((P1_ k_ ∨ P2_ k_) ∨ w.heap.size ≤ k_))) (by (with_reducible repeat (first | apply Kd.V_alloc | apply Kd.V_drewN | apply Kd.V_drew)); exact HO1.out) (fun k_ hk => hk))))) (Reps.one (show Kd.FK (Kd.slice 2 (Kd.int .i64)) _ _ l2 [.slice A2 l2.length c2] from (Kd.FK_slice_mk HC2.out (Kd.V_F (Kd.V_mono (ok' := (fun k_ => ((P1_ k_ ∨ P2_ k_) ∨ w.heap.size ≤ k_))) (by (with_reducible repeat (first | apply Kd.V_alloc | apply Kd.V_drewN | apply Kd.V_drew)); exact HO2.out) (fun k_ hk => hk))))) (Reps.none _ _)))); intro v245 w10 ho11 hb hg_ hnew_; clear hg_ hnew_; (first | rw [← Ny.out] at ho11 | (simp only [Int.reduceToNat] at ho11; rw [← Ny.out] at ho11)); have HY := Aside0.mk ho11; have ho11x := ho11; have HD1 : Aside0 (Kd.V (Kd.int .i64) 2 w10 w.heap.size (fun k_ => ((P1_ k_ ∨ P2_ k_) ∨ w.heap.size ≤ k_)) (.slice A1 l1.length c1) l1) := ⟨Kd.V_mono (Kd.V_elder' (by (with_reducible repeat (first | apply Kd.V_alloc | apply Kd.V_drewN | apply Kd.V_drew)); exact HO1.out) (Kd.N_base ho11x) hb) (fun _ hk => hk.1)⟩; have HD2 : Aside0 (Kd.V (Kd.int .i64) 2 w10 w.heap.size (fun k_ => ((P1_ k_ ∨ P2_ k_) ∨ w.heap.size ≤ k_)) (.slice A2 l2.length c2) l2) := ⟨Kd.V_mono (Kd.V_elder' (by (with_reducible repeat (first | apply Kd.V_alloc | apply Kd.V_drewN | apply Kd.V_drew)); exact HO2.out) (Kd.N_base ho11x) hb) (fun _ hk => hk.1)⟩; have n3_ : Aside0 (Below w.heap.size w w10) := ⟨below_step (by repeat (first | exact HB.out | exact Below.refl _ _ | apply below_alloc | apply pw_below_drewN | apply below_drew1)) hb⟩; (try clear HB); have HB := n3_; clear n3_; clear hb ho11 ho11x; obtain ⟨Ao12, co12, eo12⟩ := Kd.N_slice HY.out; subst eo12) | (go_at_call 106; (with_reducible refine (impl_areVectors.calls 0 a0 _ _ y false _ ?side1 ?side2 HV.out).mono ?_); (case side1 => repeat (first | exact (Kd.N_reads' HY.out).2.2 | (with_reducible refine Kd.C_alloc ?_ _) | (with_reducible refine Kd.C_drewN ?_ _) | (with_reducible refine Kd.C_drew ?_))); (case side2 => exact (Kd.N_reads' HY.out).2.1); rintro e w13 ⟨rfl, hb⟩; have n1_ := Aside0.mk (Kd.V_below (by (with_reducible repeat (first | apply Kd.V_alloc | apply Kd.V_drewN | apply Kd.V_drew)); exact HD1.out) hb); have n2_ := Aside0.mk (Kd.V_below (by (with_reducible repeat (first | apply Kd.V_alloc | apply Kd.V_drewN | apply Kd.V_drew)); exact HD2.out) hb); clear HD1 HD2; have HD1 := n1_; have HD2 := n2_; clear n1_ n2_; have n3_ : Aside0 (Below w.heap.size w w13) := ⟨below_step (by repeat (first | exact HB.out | exact Below.refl _ _ | apply below_alloc | apply pw_below_drewN | apply below_drew1)) hb⟩; clear HB; have HB := n3_; clear n3_; clear hb))
   go_ret2
   exact ⟨_, rfl, Ow.of (Kd.R_nil _ _ _ _ _), by repeat (first | exact HB.out | exact Below.refl _ _ | apply below_alloc | apply pw_below_drewN | apply below_drew1)⟩
  have HV : Aside0 (impl_areVectors.f 0 a0 y = some true) := ⟨by rw [hy]; unfold impl_areVectors.f; rw [qv]⟩
  have HW : Aside0 (impl_within.f a3 0 (l1.length : Int) = some false) := ⟨by
   unfold impl_within.f
   by_cases m0 : 0 ≤ a3
   ·rw [if_pos m0, decide_eq_false (fun m2 => q ⟨qv, m0, m2⟩)]
   rw [if_neg m0]⟩
  clear q qv hs1 hs2 hy
  go_enter Try.func44, Try.ntmps44
  go_wp2_with (first | ((with_reducible refine gate_dst (N := 13) rfl ?_); (try (refine gate_guard (by rfl) ?_; dsimp only)); refine Kd.N_lit (Kd.slice 2 (Kd.int .i64)) _ 22 ?hg (N' := 13) ?hd (xs := ([l1, l2] : List (List Int))) (inner := [.slice A1 l1.length c1, .slice A2 l2.length c2]) (ok := (fun k_ => ((P1_ k_ ∨ P2_ k_) ∨ w.heap.size ≤ k_))) (okp := (fun k_ => ((P1_ k_ ∨ P2_ k_) ∨ w.heap.size ≤ k_))) ?hr ?hp (fun _ hk => hk) ((show ∀ k_, w.heap.size ≤ k_ → (fun k_ => ((P1_ k_ ∨ P2_ k_) ∨ w.heap.size ≤ k_)) k_ from fun k_ hk => .inr hk) _ (below_size (by repeat (first | exact HB.out | exact Below.refl _ _ | apply below_alloc | apply pw_below_drewN | apply below_drew1)))) (Below.refl _ _) (Nat.le_refl _) (by simp) ?_; (case hd => rfl); (case hg => rfl); (case hr => first | (go_simp; done) | (go_simp; rfl)); (case hp => exact (Reps.one (show Kd.FK (Kd.slice 2 (Kd.int .i64)) _ _ l1 [.slice A1 l1.length c1] from (Kd.FK_slice_mk HC1.out (Kd.V_F (Kd.V_mono (ok' := (fun k_ => ((P1_ k_ ∨ P2_ k_) ∨ w.heap.size ≤ k_))) (by (with_reducible repeat (first | apply Kd.V_alloc | apply Kd.V_drewN | apply Kd.V_drew)); exact HO1.out) (fun k_ hk => hk))))) (Reps.one (show Kd.FK (Kd.slice 2 (Kd.int .i64)) _ _ l2 [.slice A2 l2.length c2] from (Kd.FK_slice_mk HC2.out (Kd.V_F (Kd.V_mono (ok' := (fun k_ => ((P1_ k_ ∨ P2_ k_) ∨ w.heap.size ≤ k_))) (by (with_reducible repeat (first | apply Kd.V_alloc | apply Kd.V_drewN | apply Kd.V_drew)); exact HO2.out) (fun k_ hk => hk))))) (Reps.none _ _)))); intro v245 w10 ho11 hb hg_ hnew_; clear hg_ hnew_; (first | rw [← Ny.out] at ho11 | (simp only [Int.reduceToNat] at ho11; rw [← Ny.out] at ho11)); have HY := Aside0.mk ho11; have ho11x := ho11; have HD1 : Aside0 (Kd.V (Kd.int .i64) 2 w10 w.heap.size (fun k_ => ((P1_ k_ ∨ P2_ k_) ∨ w.heap.size ≤ k_)) (.slice A1 l1.length c1) l1) := ⟨Kd.V_mono (Kd.V_elder' (by (with_reducible repeat (first | apply Kd.V_alloc | apply Kd.V_drewN | apply Kd.V_drew)); exact HO1.out) (Kd.N_base ho11x) hb) (fun _ hk => hk.1)⟩; have HD2 : Aside0 (Kd.V (Kd.int .i64) 2 w10 w.heap.size (fun k_ => ((P1_ k_ ∨ P2_ k_) ∨ w.heap.size ≤ k_)) (.slice A2 l2.length c2) l2) := ⟨Kd.V_mono (Kd.V_elder' (by (with_reducible repeat (first | apply Kd.V_alloc | apply Kd.V_drewN | apply Kd.V_drew)); exact HO2.out) (Kd.N_base ho11x) hb) (fun _ hk => hk.1)⟩; have n3_ : Aside0 (Below w.heap.size w w10) := ⟨below_step (by repeat (first | exact HB.out | exact Below.refl _ _ | apply below_alloc | apply pw_below_drewN | apply below_drew1)) hb⟩; (try clear HB); have HB := n3_; clear n3_; clear hb ho11 ho11x; obtain ⟨Ao12, co12, eo12⟩ := Kd.N_slice HY.out; subst eo12) | (go_at_call 106; (with_reducible refine (impl_areVectors.calls 0 a0 _ _ y true _ ?side1 ?side2 HV.out).mono ?_); (case side1 => repeat (first | exact (Kd.N_reads' HY.out).2.2 | (with_reducible refine Kd.C_alloc ?_ _) | (with_reducible refine Kd.C_drewN ?_ _) | (with_reducible refine Kd.C_drew ?_))); (case side2 => exact (Kd.N_reads' HY.out).2.1); rintro e w13 ⟨rfl, hb⟩; have n1_ := Aside0.mk (Kd.V_below (by (with_reducible repeat (first | apply Kd.V_alloc | apply Kd.V_drewN | apply Kd.V_drew)); exact HD1.out) hb); have n2_ := Aside0.mk (Kd.V_below (by (with_reducible repeat (first | apply Kd.V_alloc | apply Kd.V_drewN | apply Kd.V_drew)); exact HD2.out) hb); clear HD1 HD2; have HD1 := n1_; have HD2 := n2_; clear n1_ n2_; have n3_ : Aside0 (Below w.heap.size w w13) := ⟨below_step (by repeat (first | exact HB.out | exact Below.refl _ _ | apply below_alloc | apply pw_below_drewN | apply below_drew1)) hb⟩; clear HB; have HB := n3_; clear n3_; clear hb) | (go_at_call 86; (with_reducible refine (impl_length_int64.calls _ _ l1 _ _ ?l1 HC1.out (show impl_length_int64.f l1 = some (l1.length : Int) from rfl)).mono ?_); (case l1 => exact Kd.C_below HR1.out (by repeat (first | exact HB.out | exact Below.refl _ _ | apply below_alloc | apply pw_below_drewN | apply below_drew1))); rintro e w' ⟨rfl, ⟨nd, rfl⟩⟩) | (go_at_call 107; (with_reducible refine (impl_within.calls _ 0 (l1.length : Int) false _ HW.out).mono ?_); rintro e w' ⟨rfl, ⟨nd, rfl⟩⟩))
  go_ret2
  exact ⟨_, rfl, Ow.of (Kd.R_nil _ _ _ _ _), by repeat (first | exact HB.out | exact Below.refl _ _ | apply below_alloc | apply pw_below_drewN | apply below_drew1)⟩
theorem impl_SlideLanes.calls (k : Nat) (a0 : Int) (P1_ : Nat → Prop) (A1 : Option Addr) (c1 : Nat) (l1 : List Int) (P2_ : Nat → Prop) (A2 : Option Addr) (c2 : Nat) (l2 : List Int) (a3 : Int) (r1 : List Int) (r2 : Bool) (w : World) (hs1 : Kd.V (Kd.int .i64) 2 w w.heap.size (fun k_ => P1_ k_) (.slice A1 l1.length c1) l1) (hs2 : Kd.V (Kd.int .i64) 2 w w.heap.size (fun k_ => P2_ k_) (.slice A2 l2.length c2) l2) (h : impl_SlideLanes.f k a0 l1 l2 a3 = some (r1, r2)) :
  Calls Try.prog 44 #[.int .i64 a0, .slice A1 l1.length c1, .slice A2 l2.length c2, .int .i64 a3] w fun e w' => ∃ v0_ : Value, e = .returned (.tuple #[v0_, .bool r2]) ∧ Wn w' w.heap.size v0_ r1 ∧ Below w.heap.size w w' := by
 refine (impl_SlideLanes.win k a0 P1_ A1 c1 l1 P2_ A2 c2 l2 a3 r1 r2 w hs1 hs2 h).mono ?_
 rintro e w' ⟨v, rfl, ho, hb⟩
 exact ⟨v, rfl, ⟨Ow.bas ho, Ow.V ho⟩, hb⟩

/-! ### laws_FnExactSlideLanes: function 9 -/
mutual
def laws_FnExactSlideLanes.j0 : Nat → Int → List Int → List Int → Int → List Int → Bool → List Int → List Int → List Int → Bool → Bool → Option (Bool)
 | 0, _, _, _, _, _, _, _, _, _, _, _ => none
 | k + 1, x0, x1, x2, x3, x9, x10, x11, x12, x13, x14, x56 => if x56 = true then (some false) else ((laws_toInt64S.f k x1).bind fun t1784 => ((laws_eqInt64S.f k x11 t1784).bind fun t1787 => (if t1787 = true then ((laws_toInt64S.f k x2).bind fun t1788 => ((laws_eqInt64S.f k x12 t1788).bind fun t1791 => (if t1791 = true then ((laws_markInt64S.f k x11 1).bind fun bt1792 => ((laws_markInt64S.f k x12 bt1792.1).bind fun bt1794 => (if bt1794.1 < 0 then (laws_FnExactSlideLanes.j1 k x0 x1 x2 x3 x9 x10 x13 true) else ((laws_eqInt64S.f k x13 x9).bind fun t1796 => (if t1796 = true then (laws_FnExactSlideLanes.j1 k x0 x1 x2 x3 x9 x10 x13 (x14 != x10)) else (laws_FnExactSlideLanes.j1 k x0 x1 x2 x3 x9 x10 x13 true)))))) else (some false)))) else (some false))))
def laws_FnExactSlideLanes.j1 : Nat → Int → List Int → List Int → Int → List Int → Bool → List Int → Bool → Option (Bool)
 | 0, _, _, _, _, _, _, _, _ => none
 | k + 1, x0, x1, x2, x3, x9, x10, x13, x85 => if x85 = true then (some false) else ((laws_markInt64S.f k x13 1).bind fun bt1797 => ((laws_heldInt64S.f k bt1797.2 1).bind fun t1799 => (if t1799 < 0 then (some false) else (if t1799 = bt1797.1 then ((laws_toInt64S.f k x1).bind fun t1800 => ((laws_toInt64S.f k x2).bind fun t1803 => ((impl_SlideLanes.f k x0 t1800 t1803 x3).bind fun bt1806 => ((laws_eqInt64S.f k bt1806.1 x9).bind fun t1810 => (if t1810 = true then (laws_FnExactSlideLanes.j2 k bt1797.2 bt1797.1 (bt1806.2 != x10)) else (laws_FnExactSlideLanes.j2 k bt1797.2 bt1797.1 true)))))) else (some false)))))
def laws_FnExactSlideLanes.j2 : Nat → List Int → Int → Bool → Option (Bool)
 | 0, _, _, _ => none
 | k + 1, x13, x16, x115 => if x115 = true then (some false) else ((laws_heldInt64S.f k x13 1).bind fun t1811 => (if t1811 < 0 then (some false) else (if t1811 = x16 then (some true) else (some false))))
end
def laws_FnExactSlideLanes.f (k : Nat) (a0 : Int) (l1 : List Int) (l2 : List Int) (a3 : Int) : Option (Bool) := if (l1.length : Int) > 1048576 then (some true) else (if (l2.length : Int) > 1048576 then (some true) else ((laws_toInt64S.f k l1).bind fun t1763 => ((laws_toInt64S.f k l2).bind fun t1766 => ((spec_SlideLanes.f k a0 t1763 t1766 a3).bind fun bt1769 => ((laws_toInt64S.f k l1).bind fun t1773 => ((laws_toInt64S.f k l2).bind fun t1776 => ((impl_SlideLanes.f k a0 t1773 t1776 a3).bind fun bt1779 => ((laws_eqInt64S.f k bt1779.1 bt1769.1).bind fun t1783 => (if t1783 = true then (laws_FnExactSlideLanes.j0 k a0 l1 l2 a3 bt1769.1 bt1769.2 t1773 t1776 bt1779.1 bt1779.2 (bt1779.2 != bt1769.2)) else (laws_FnExactSlideLanes.j0 k a0 l1 l2 a3 bt1769.1 bt1769.2 t1773 t1776 bt1779.1 bt1779.2 true))))))))))
theorem laws_FnExactSlideLanes.mono_l : ∀ k, (∀ y0 y1 y2 y3 y4 y5 y6 y7 y8 y9 y10, LeO (laws_FnExactSlideLanes.j0 k y0 y1 y2 y3 y4 y5 y6 y7 y8 y9 y10) (laws_FnExactSlideLanes.j0 (k + 1) y0 y1 y2 y3 y4 y5 y6 y7 y8 y9 y10)) ∧ (∀ y0 y1 y2 y3 y4 y5 y6 y7, LeO (laws_FnExactSlideLanes.j1 k y0 y1 y2 y3 y4 y5 y6 y7) (laws_FnExactSlideLanes.j1 (k + 1) y0 y1 y2 y3 y4 y5 y6 y7)) ∧ (∀ y0 y1 y2, LeO (laws_FnExactSlideLanes.j2 k y0 y1 y2) (laws_FnExactSlideLanes.j2 (k + 1) y0 y1 y2))
 | 0 => ⟨fun _ _ _ _ _ _ _ _ _ _ _ r h => by simp [laws_FnExactSlideLanes.j0] at h, fun _ _ _ _ _ _ _ _ r h => by simp [laws_FnExactSlideLanes.j1] at h, fun _ _ _ r h => by simp [laws_FnExactSlideLanes.j2] at h⟩
 | k + 1 => by
  obtain ⟨ih0, ih1, ih2⟩ := laws_FnExactSlideLanes.mono_l k
  refine ⟨?_, ?_, ?_⟩
  ·intro y0 y1 y2 y3 y4 y5 y6 y7 y8 y9 y10
   unfold laws_FnExactSlideLanes.j0
   repeat' first
   | (with_reducible exact ih0 _ _ _ _ _ _ _ _ _ _ _)
   | (with_reducible exact ih1 _ _ _ _ _ _ _ _)
   | (with_reducible exact ih2 _ _ _)
   | (with_reducible exact impl_SlideLanes.mono _ _ _ _ _)
   | (with_reducible exact laws_eqInt64S.mono _ _ _)
   | (with_reducible exact laws_heldInt64S.mono _ _ _)
   | (with_reducible exact laws_markInt64S.mono _ _ _)
   | (with_reducible exact laws_toInt64S.mono _ _)
   | (with_reducible exact spec_SlideLanes.mono _ _ _ _ _)
   | (with_reducible exact LeO.refl _)
   | (with_reducible exact LeO.none _)
   | (with_reducible refine LeO.ite ?_ ?_)
   | (with_reducible refine LeO.bind ?_ (fun _ => ?_))
   | exact ih0 _ _ _ _ _ _ _ _ _ _ _
   | exact ih1 _ _ _ _ _ _ _ _
   | exact ih2 _ _ _
   | exact impl_SlideLanes.mono _ _ _ _ _
   | exact laws_eqInt64S.mono _ _ _
   | exact laws_heldInt64S.mono _ _ _
   | exact laws_markInt64S.mono _ _ _
   | exact laws_toInt64S.mono _ _
   | exact spec_SlideLanes.mono _ _ _ _ _
   | exact LeO.none _
   | refine LeO.ite ?_ ?_
   | refine LeO.bind ?_ (fun _ => ?_)
  ·intro y0 y1 y2 y3 y4 y5 y6 y7
   unfold laws_FnExactSlideLanes.j1
   repeat' first
   | (with_reducible exact ih0 _ _ _ _ _ _ _ _ _ _ _)
   | (with_reducible exact ih1 _ _ _ _ _ _ _ _)
   | (with_reducible exact ih2 _ _ _)
   | (with_reducible exact impl_SlideLanes.mono _ _ _ _ _)
   | (with_reducible exact laws_eqInt64S.mono _ _ _)
   | (with_reducible exact laws_heldInt64S.mono _ _ _)
   | (with_reducible exact laws_markInt64S.mono _ _ _)
   | (with_reducible exact laws_toInt64S.mono _ _)
   | (with_reducible exact spec_SlideLanes.mono _ _ _ _ _)
   | (with_reducible exact LeO.refl _)
   | (with_reducible exact LeO.none _)
   | (with_reducible refine LeO.ite ?_ ?_)
   | (with_reducible refine LeO.bind ?_ (fun _ => ?_))
   | exact ih0 _ _ _ _ _ _ _ _ _ _ _
   | exact ih1 _ _ _ _ _ _ _ _
   | exact ih2 _ _ _
   | exact impl_SlideLanes.mono _ _ _ _ _
   | exact laws_eqInt64S.mono _ _ _
   | exact laws_heldInt64S.mono _ _ _
   | exact laws_markInt64S.mono _ _ _
   | exact laws_toInt64S.mono _ _
   | exact spec_SlideLanes.mono _ _ _ _ _
   | exact LeO.none _
   | refine LeO.ite ?_ ?_
   | refine LeO.bind ?_ (fun _ => ?_)
  ·intro y0 y1 y2
   unfold laws_FnExactSlideLanes.j2
   repeat' first
   | (with_reducible exact ih0 _ _ _ _ _ _ _ _ _ _ _)
   | (with_reducible exact ih1 _ _ _ _ _ _ _ _)
   | (with_reducible exact ih2 _ _ _)
   | (with_reducible exact impl_SlideLanes.mono _ _ _ _ _)
   | (with_reducible exact laws_eqInt64S.mono _ _ _)
   | (with_reducible exact laws_heldInt64S.mono _ _ _)
   | (with_reducible exact laws_markInt64S.mono _ _ _)
   | (with_reducible exact laws_toInt64S.mono _ _)
   | (with_reducible exact spec_SlideLanes.mono _ _ _ _ _)
   | (with_reducible exact LeO.refl _)
   | (with_reducible exact LeO.none _)
   | (with_reducible refine LeO.ite ?_ ?_)
   | (with_reducible refine LeO.bind ?_ (fun _ => ?_))
   | exact ih0 _ _ _ _ _ _ _ _ _ _ _
   | exact ih1 _ _ _ _ _ _ _ _
   | exact ih2 _ _ _
   | exact impl_SlideLanes.mono _ _ _ _ _
   | exact laws_eqInt64S.mono _ _ _
   | exact laws_heldInt64S.mono _ _ _
   | exact laws_markInt64S.mono _ _ _
   | exact laws_toInt64S.mono _ _
   | exact spec_SlideLanes.mono _ _ _ _ _
   | exact LeO.none _
   | refine LeO.ite ?_ ?_
   | refine LeO.bind ?_ (fun _ => ?_)
theorem laws_FnExactSlideLanes.mono : ∀ a0 a1 a2 a3 k, LeO (laws_FnExactSlideLanes.f k a0 a1 a2 a3) (laws_FnExactSlideLanes.f (k + 1) a0 a1 a2 a3) := by
 intro a0 a1 a2 a3 k
 obtain ⟨ih0, ih1, ih2⟩ := laws_FnExactSlideLanes.mono_l k
 unfold laws_FnExactSlideLanes.f
 repeat' first
   | (with_reducible exact ih0 _ _ _ _ _ _ _ _ _ _ _)
   | (with_reducible exact ih1 _ _ _ _ _ _ _ _)
   | (with_reducible exact ih2 _ _ _)
   | (with_reducible exact impl_SlideLanes.mono _ _ _ _ _)
   | (with_reducible exact laws_eqInt64S.mono _ _ _)
   | (with_reducible exact laws_heldInt64S.mono _ _ _)
   | (with_reducible exact laws_markInt64S.mono _ _ _)
   | (with_reducible exact laws_toInt64S.mono _ _)
   | (with_reducible exact spec_SlideLanes.mono _ _ _ _ _)
   | (with_reducible exact LeO.refl _)
   | (with_reducible exact LeO.none _)
   | (with_reducible refine LeO.ite ?_ ?_)
   | (with_reducible refine LeO.bind ?_ (fun _ => ?_))
   | exact ih0 _ _ _ _ _ _ _ _ _ _ _
   | exact ih1 _ _ _ _ _ _ _ _
   | exact ih2 _ _ _
   | exact impl_SlideLanes.mono _ _ _ _ _
   | exact laws_eqInt64S.mono _ _ _
   | exact laws_heldInt64S.mono _ _ _
   | exact laws_markInt64S.mono _ _ _
   | exact laws_toInt64S.mono _ _
   | exact spec_SlideLanes.mono _ _ _ _ _
   | exact LeO.none _
   | refine LeO.ite ?_ ?_
   | refine LeO.bind ?_ (fun _ => ?_)
theorem laws_FnExactSlideLanes.j0_no {k : Nat} {y0 : Int} {y1 : List Int} {y2 : List Int} {y3 : Int} {y4 : List Int} {y5 : Bool} {y6 : List Int} {y7 : List Int} {y8 : List Int} {y9 : Bool} {r : Bool} (h : laws_FnExactSlideLanes.j0 k y0 y1 y2 y3 y4 y5 y6 y7 y8 y9 true = some r) (hr : r = true) : False := by
  cases k with
  | zero => exact nomatch (show (none : Option Bool) = some r from h)
  | succ k => exact absurd (Option.some.inj (show (some false : Option Bool) = some r from h)) (by rw [hr]; decide)
theorem laws_FnExactSlideLanes.j1_no {k : Nat} {y0 : Int} {y1 : List Int} {y2 : List Int} {y3 : Int} {y4 : List Int} {y5 : Bool} {y6 : List Int} {r : Bool} (h : laws_FnExactSlideLanes.j1 k y0 y1 y2 y3 y4 y5 y6 true = some r) (hr : r = true) : False := by
  cases k with
  | zero => exact nomatch (show (none : Option Bool) = some r from h)
  | succ k => exact absurd (Option.some.inj (show (some false : Option Bool) = some r from h)) (by rw [hr]; decide)
theorem laws_FnExactSlideLanes.j2_no {k : Nat} {y0 : List Int} {y1 : Int} {r : Bool} (h : laws_FnExactSlideLanes.j2 k y0 y1 true = some r) (hr : r = true) : False := by
  cases k with
  | zero => exact nomatch (show (none : Option Bool) = some r from h)
  | succ k => exact absurd (Option.some.inj (show (some false : Option Bool) = some r from h)) (by rw [hr]; decide)
theorem ways_FnExactSlideLanes.z1 {a b : Int} (h : decide (a < b) = true) (q : b ≤ a) : False := by
  have := of_decide_eq_true h
  omega
theorem ways_FnExactSlideLanes.z2 {a b : Int} (h : decide (a < b) = false) (q : ¬ b ≤ a) : False := by
  have := of_decide_eq_false h
  omega
theorem ways_FnExactSlideLanes.z3 {a b : Int} (h : decide (b ≤ a) = true) (q : a < b) : False := by
  have := of_decide_eq_true h
  omega
theorem ways_FnExactSlideLanes.z4 {a b : Int} (h : decide (b ≤ a) = false) (q : ¬ a < b) : False := by
  have := of_decide_eq_false h
  omega
theorem ways_FnExactSlideLanes.z5 {a b : Int} (h : decide (a < b) = true) (q : ¬ a < b) : False := by
  have := of_decide_eq_true h
  omega
theorem ways_FnExactSlideLanes.z6 {a b : Int} (h : decide (a < b) = false) (q : a < b) : False := by
  have := of_decide_eq_false h
  omega
theorem ways_FnExactSlideLanes.z7 {a b : Int} (h : decide (b ≤ a) = true) (q : ¬ b ≤ a) : False := by
  have := of_decide_eq_true h
  omega
theorem ways_FnExactSlideLanes.z8 {a b : Int} (h : decide (b ≤ a) = false) (q : b ≤ a) : False := by
  have := of_decide_eq_false h
  omega
set_option maxHeartbeats 8000000 in
set_option maxRecDepth 100000 in
theorem laws_FnExactSlideLanes.calls (k : Nat) (a0 : Int) (A1 : Option Addr) (c1 : Nat) (l1 : List Int) (A2 : Option Addr) (c2 : Nat) (l2 : List Int) (a3 : Int) (r : Bool) (w : World) (hr1 : Kd.C (Kd.int .i64) w A1 l1.length l1) (hc1 : l1.length ≤ c1) (hr2 : Kd.C (Kd.int .i64) w A2 l2.length l2) (hc2 : l2.length ≤ c2) (h : laws_FnExactSlideLanes.f k a0 l1 l2 a3 = some r) (hrtrue : r = true) :
  Calls Try.prog 9 #[.int .i64 a0, .slice A1 l1.length c1, .slice A2 l2.length c2, .int .i64 a3] w fun e w' => e = .returned (.bool r) ∧ Below w.heap.size w w' := by
 have HR1 := Aside0.mk hr1
 have HC1 := Aside0.mk hc1
 clear hr1 hc1
 have HR2 := Aside0.mk hr2
 have HC2 := Aside0.mk hc2
 clear hr2 hc2
 have HB := Aside0.mk (Below.refl w.heap.size w)
 have H : (if (l1.length : Int) > 1048576 then (some true) else (if (l2.length : Int) > 1048576 then (some true) else ((laws_toInt64S.f k l1).bind fun t1763 => ((laws_toInt64S.f k l2).bind fun t1766 => ((spec_SlideLanes.f k a0 t1763 t1766 a3).bind fun bt1769 => ((laws_toInt64S.f k l1).bind fun t1773 => ((laws_toInt64S.f k l2).bind fun t1776 => ((impl_SlideLanes.f k a0 t1773 t1776 a3).bind fun bt1779 => ((laws_eqInt64S.f k bt1779.1 bt1769.1).bind fun t1783 => (if t1783 = true then (laws_FnExactSlideLanes.j0 k a0 l1 l2 a3 bt1769.1 bt1769.2 t1773 t1776 bt1779.1 bt1779.2 (bt1779.2 != bt1769.2)) else (laws_FnExactSlideLanes.j0 k a0 l1 l2 a3 bt1769.1 bt1769.2 t1773 t1776 bt1779.1 bt1779.2 true))))))))))) = some r := h
 clear h
 have HRT := Aside0.mk hrtrue
 clear hrtrue
 by_cases c5 : (l1.length : Int) > 1048576
 ·rw [if_pos c5] at H
  have c5b0 : decide (1048576 < (l1.length : Int)) = true := decide_eq_true c5
  have c5b1 : decide (1048576 < l1.length) = true := decide_eq_true (by omega)
  clear c5
  obtain rfl := Option.some.inj H
  go_enter Try.func9, Try.ntmps9
  go_wp2
  go_ret
  exact ⟨by first | rfl | (simp [errW_none, errW_some] <;> rfl) | (simp [*, errW_none, errW_some] <;> rfl), by repeat (first | (with_reducible first | exact HB.out | apply below_alloc | apply pw_below_drewN | apply below_drew1) | exact HB.out)⟩
 rw [if_neg c5] at H
 have c5b0 : decide (1048576 < (l1.length : Int)) = false := decide_eq_false c5
 have c5b1 : decide (1048576 < l1.length) = false := decide_eq_false (by omega)
 clear c5
 by_cases c6 : (l2.length : Int) > 1048576
 ·rw [if_pos c6] at H
  have c6b0 : decide (1048576 < (l2.length : Int)) = true := decide_eq_true c6
  have c6b1 : decide (1048576 < l2.length) = true := decide_eq_true (by omega)
  clear c6
  obtain rfl := Option.some.inj H
  go_enter Try.func9, Try.ntmps9
  go_wp2
  go_ret
  exact ⟨by first | rfl | (simp [errW_none, errW_some] <;> rfl) | (simp [*, errW_none, errW_some] <;> rfl), by repeat (first | (with_reducible first | exact HB.out | apply below_alloc | apply pw_below_drewN | apply below_drew1) | exact HB.out)⟩
 rw [if_neg c6] at H
 have c6b0 : decide (1048576 < (l2.length : Int)) = false := decide_eq_false c6
 have c6b1 : decide (1048576 < l2.length) = false := decide_eq_false (by omega)
 clear c6
 replace H := Option.bind_eq_some_iff.mp H
 obtain ⟨t1763, A70, H⟩ := H
 try dsimp only at H
 have A7 := Aside0.mk A70
 clear A70
 replace H := Option.bind_eq_some_iff.mp H
 obtain ⟨t1766, A80, H⟩ := H
 try dsimp only at H
 have A8 := Aside0.mk A80
 clear A80
 replace H := Option.bind_eq_some_iff.mp H
 obtain ⟨⟨t1769, t1770⟩, A90, H⟩ := H
 try dsimp only at H
 have A9 := Aside0.mk A90
 clear A90
 replace H := Option.bind_eq_some_iff.mp H
 obtain ⟨t1773, A100, H⟩ := H
 try dsimp only at H
 have A10 := Aside0.mk A100
 clear A100
 replace H := Option.bind_eq_some_iff.mp H
 obtain ⟨t1776, A110, H⟩ := H
 try dsimp only at H
 have A11 := Aside0.mk A110
 clear A110
 replace H := Option.bind_eq_some_iff.mp H
 obtain ⟨⟨t1779, t1782⟩, A120, H⟩ := H
 try dsimp only at H
 have A12 := Aside0.mk A120
 clear A120
 have HC13 := Aside0.mk H
 clear H
 go_enter Try.func9, Try.ntmps9
 go_upto_region 9 with (first | ((with_reducible refine gate_callee (f := 28) rfl ?_); refine goesL_ (some 29) rfl rfl Try.func28 (by kernel_rfl) rfl #[.slice A1 l1.length c1] rfl (by (try simp only [List.map_toArray, List.map_cons, List.map_nil]); first | done | rfl | (simp only [List.length_drop, List.length_take]; rfl)) ?_; (with_reducible refine (laws_toInt64S.calls k _ _ l1 t1763 _ ?side1 ?side2 A7.out).mono ?_); (case side1 => repeat (first | exact HR1.out | (with_reducible refine Kd.C_alloc ?_ _) | (with_reducible refine Kd.C_drewN ?_ _) | (with_reducible refine Kd.C_drew ?_))); (case side2 => exact HC1.out); rintro e w14 ⟨v1764, rfl, ho0, hb⟩; replace ho0 := Ow.of ho0; refine ⟨_, rfl, ?_⟩; have n0_ := Aside0.mk (Ow.lower ho0 (below_size (by repeat (first | (with_reducible first | exact HB.out | apply below_alloc | apply pw_below_drewN | apply below_drew1) | exact HB.out)))); have n1_ := Aside0.mk (below_step (by repeat (first | (with_reducible first | exact HB.out | apply below_alloc | apply pw_below_drewN | apply below_drew1) | exact HB.out)) hb); clear HB; have HO1765 := n0_; have HB := n1_; clear n0_ n1_; (try clear hb); (try clear hb2); (try clear hk); (try clear hi); (try clear ho0)) | ((with_reducible refine gate_callee (f := 28) rfl ?_); refine goesL_ (some 31) rfl rfl Try.func28 (by kernel_rfl) rfl #[.slice A2 l2.length c2] rfl (by (try simp only [List.map_toArray, List.map_cons, List.map_nil]); first | done | rfl | (simp only [List.length_drop, List.length_take]; rfl)) ?_; (with_reducible refine (laws_toInt64S.calls k _ _ l2 t1766 _ ?side1 ?side2 A8.out).mono ?_); (case side1 => repeat (first | exact (Kd.C_below HR2.out HB.out) | (with_reducible refine Kd.C_alloc ?_ _) | (with_reducible refine Kd.C_drewN ?_ _) | (with_reducible refine Kd.C_drew ?_))); (case side2 => exact HC2.out); rintro e w15 ⟨v1767, rfl, ho0, hb⟩; replace ho0 := Ow.of ho0; refine ⟨_, rfl, ?_⟩; have n0_ := Aside0.mk (Ow.elder' (by (with_reducible repeat (first | apply Ow.alloc | apply Ow.drewN | apply Ow.drew)); exact HO1765.out) (Ow.bas ho0) hb); have n1_ := Aside0.mk (Ow.lower (Ow.new' ho0 (Ow.lt (by (with_reducible repeat (first | apply Ow.alloc | apply Ow.drewN | apply Ow.drew)); exact HO1765.out))) (below_size (by repeat (first | (with_reducible first | exact HB.out | apply below_alloc | apply pw_below_drewN | apply below_drew1) | exact HB.out)))); have n2_ := Aside0.mk (below_step (by repeat (first | (with_reducible first | exact HB.out | apply below_alloc | apply pw_below_drewN | apply below_drew1) | exact HB.out)) hb); clear HO1765; clear HB; have HO1765 := n0_; have HO1768 := n1_; have HB := n2_; clear n0_ n1_ n2_; (try clear hb); (try clear hb2); (try clear hk); (try clear hi); (try clear ho0); obtain ⟨Ao16, co16, eo16⟩ := Ow.slice HO1765.out; subst eo16; obtain ⟨Ao17, co17, eo17⟩ := Ow.slice HO1768.out; subst eo17) | ((with_reducible refine gate_callee (f := 43) rfl ?_); refine goesL_ (some 33) rfl rfl Try.func43 (by kernel_rfl) rfl #[.int .i64 a0, .slice Ao16 t1763.length co16, .slice Ao17 t1766.length co17, .int .i64 a3] rfl (by (try simp only [List.map_toArray, List.map_cons, List.map_nil]); first | done | rfl | (simp only [List.length_drop, List.length_take]; rfl)) ?_; (with_reducible refine (spec_SlideLanes.calls k a0 _ _ t1763 _ _ t1766 a3 t1769 t1770 _ ?side1 ?side2 ?side3 ?side4 A9.out).mono ?_); (case side1 => repeat (first | exact (Ow.reads' HO1765.out).2.2 | (with_reducible refine Kd.C_alloc ?_ _) | (with_reducible refine Kd.C_drewN ?_ _) | (with_reducible refine Kd.C_drew ?_))); (case side2 => exact (Ow.reads' HO1765.out).2.1); (case side3 => repeat (first | exact (Ow.reads' HO1768.out).2.2 | (with_reducible refine Kd.C_alloc ?_ _) | (with_reducible refine Kd.C_drewN ?_ _) | (with_reducible refine Kd.C_drew ?_))); (case side4 => exact (Ow.reads' HO1768.out).2.1); rintro e w18 ⟨v1771, rfl, ho0, hb⟩; replace ho0 := Ow.of ho0; refine ⟨_, rfl, ?_⟩; have n0_ := Aside0.mk (Ow.elder' (by (with_reducible repeat (first | apply Ow.alloc | apply Ow.drewN | apply Ow.drew)); exact HO1765.out) (Ow.bas ho0) hb); have n1_ := Aside0.mk (Ow.elder' (by (with_reducible repeat (first | apply Ow.alloc | apply Ow.drewN | apply Ow.drew)); exact HO1768.out) (Ow.bas ho0) hb); have n2_ := Aside0.mk (Ow.lower (Ow.new' (Ow.new' ho0 (Ow.lt (by (with_reducible repeat (first | apply Ow.alloc | apply Ow.drewN | apply Ow.drew)); exact HO1765.out))) (Ow.lt (by (with_reducible repeat (first | apply Ow.alloc | apply Ow.drewN | apply Ow.drew)); exact HO1768.out))) (below_size (by repeat (first | (with_reducible first | exact HB.out | apply below_alloc | apply pw_below_drewN | apply below_drew1) | exact HB.out)))); have n3_ := Aside0.mk (below_step (by repeat (first | (with_reducible first | exact HB.out | apply below_alloc | apply pw_below_drewN | apply below_drew1) | exact HB.out)) hb); clear HO1765; clear HO1768; clear HB; have HO1765 := n0_; have HO1768 := n1_; have HO1772 := n2_; have HB := n3_; clear n0_ n1_ n2_ n3_; (try clear hb); (try clear hb2); (try clear hk); (try clear hi); (try clear ho0)) | ((with_reducible refine gate_callee (f := 28) rfl ?_); refine goesL_ (some 37) rfl rfl Try.func28 (by kernel_rfl) rfl #[.slice A1 l1.length c1] rfl (by (try simp only [List.map_toArray, List.map_cons, List.map_nil]); first | done | rfl | (simp only [List.length_drop, List.length_take]; rfl)) ?_; (with_reducible refine (laws_toInt64S.calls k _ _ l1 t1773 _ ?side1 ?side2 A10.out).mono ?_); (case side1 => repeat (first | exact (Kd.C_below HR1.out HB.out) | (with_reducible refine Kd.C_alloc ?_ _) | (with_reducible refine Kd.C_drewN ?_ _) | (with_reducible refine Kd.C_drew ?_))); (case side2 => exact HC1.out); rintro e w19 ⟨v1774, rfl, ho0, hb⟩; replace ho0 := Ow.of ho0; refine ⟨_, rfl, ?_⟩; have n0_ := Aside0.mk (Ow.elder' (by (with_reducible repeat (first | apply Ow.alloc | apply Ow.drewN | apply Ow.drew)); exact HO1765.out) (Ow.bas ho0) hb); have n1_ := Aside0.mk (Ow.elder' (by (with_reducible repeat (first | apply Ow.alloc | apply Ow.drewN | apply Ow.drew)); exact HO1768.out) (Ow.bas ho0) hb); have n2_ := Aside0.mk (Ow.elder' (by (with_reducible repeat (first | apply Ow.alloc | apply Ow.drewN | apply Ow.drew)); exact HO1772.out) (Ow.bas ho0) hb); have n3_ := Aside0.mk (Ow.lower (Ow.new' (Ow.new' (Ow.new' ho0 (Ow.lt (by (with_reducible repeat (first | apply Ow.alloc | apply Ow.drewN | apply Ow.drew)); exact HO1765.out))) (Ow.lt (by (with_reducible repeat (first | apply Ow.alloc | apply Ow.drewN | apply Ow.drew)); exact HO1768.out))) (Ow.lt (by (with_reducible repeat (first | apply Ow.alloc | apply Ow.drewN | apply Ow.drew)); exact HO1772.out))) (below_size (by repeat (first | (with_reducible first | exact HB.out | apply below_alloc | apply pw_below_drewN | apply below_drew1) | exact HB.out)))); have n4_ := Aside0.mk (below_step (by repeat (first | (with_reducible first | exact HB.out | apply below_alloc | apply pw_below_drewN | apply below_drew1) | exact HB.out)) hb); clear HO1765; clear HO1768; clear HO1772; clear HB; have HO1765 := n0_; have HO1768 := n1_; have HO1772 := n2_; have HO1775 := n3_; have HB := n4_; clear n0_ n1_ n2_ n3_ n4_; (try clear hb); (try clear hb2); (try clear hk); (try clear hi); (try clear ho0)) | ((with_reducible refine gate_callee (f := 28) rfl ?_); refine goesL_ (some 39) rfl rfl Try.func28 (by kernel_rfl) rfl #[.slice A2 l2.length c2] rfl (by (try simp only [List.map_toArray, List.map_cons, List.map_nil]); first | done | rfl | (simp only [List.length_drop, List.length_take]; rfl)) ?_; (with_reducible refine (laws_toInt64S.calls k _ _ l2 t1776 _ ?side1 ?side2 A11.out).mono ?_); (case side1 => repeat (first | exact (Kd.C_below HR2.out HB.out) | (with_reducible refine Kd.C_alloc ?_ _) | (with_reducible refine Kd.C_drewN ?_ _) | (with_reducible refine Kd.C_drew ?_))); (case side2 => exact HC2.out); rintro e w20 ⟨v1777, rfl, ho0, hb⟩; replace ho0 := Ow.of ho0; refine ⟨_, rfl, ?_⟩; have n0_ := Aside0.mk (Ow.elder' (by (with_reducible repeat (first | apply Ow.alloc | apply Ow.drewN | apply Ow.drew)); exact HO1765.out) (Ow.bas ho0) hb); have n1_ := Aside0.mk (Ow.elder' (by (with_reducible repeat (first | apply Ow.alloc | apply Ow.drewN | apply Ow.drew)); exact HO1768.out) (Ow.bas ho0) hb); have n2_ := Aside0.mk (Ow.elder' (by (with_reducible repeat (first | apply Ow.alloc | apply Ow.drewN | apply Ow.drew)); exact HO1772.out) (Ow.bas ho0) hb); have n3_ := Aside0.mk (Ow.elder' (by (with_reducible repeat (first | apply Ow.alloc | apply Ow.drewN | apply Ow.drew)); exact HO1775.out) (Ow.bas ho0) hb); have n4_ := Aside0.mk (Ow.lower (Ow.new' (Ow.new' (Ow.new' (Ow.new' ho0 (Ow.lt (by (with_reducible repeat (first | apply Ow.alloc | apply Ow.drewN | apply Ow.drew)); exact HO1765.out))) (Ow.lt (by (with_reducible repeat (first | apply Ow.alloc | apply Ow.drewN | apply Ow.drew)); exact HO1768.out))) (Ow.lt (by (with_reducible repeat (first | apply Ow.alloc | apply Ow.drewN | apply Ow.drew)); exact HO1772.out))) (Ow.lt (by (with_reducible repeat (first | apply Ow.alloc | apply Ow.drewN | apply Ow.drew)); exact HO1775.out))) (below_size (by repeat (first | (with_reducible first | exact HB.out | apply below_alloc | apply pw_below_drewN | apply below_drew1) | exact HB.out)))); have n5_ := Aside0.mk (below_step (by repeat (first | (with_reducible first | exact HB.out | apply below_alloc | apply pw_below_drewN | apply below_drew1) | exact HB.out)) hb); clear HO1765; clear HO1768; clear HO1772; clear HO1775; clear HB; have HO1765 := n0_; have HO1768 := n1_; have HO1772 := n2_; have HO1775 := n3_; have HO1778 := n4_; have HB := n5_; clear n0_ n1_ n2_ n3_ n4_ n5_; (try clear hb); (try clear hb2); (try clear hk); (try clear hi); (try clear ho0); obtain ⟨Ao21, co21, eo21⟩ := Ow.slice HO1775.out; subst eo21; obtain ⟨Ao22, co22, eo22⟩ := Ow.slice HO1778.out; subst eo22) | ((with_reducible refine gate_callee (f := 44) rfl ?_); refine goesL_ (some 45) rfl rfl Try.func44 (by kernel_rfl) rfl #[.int .i64 a0, .slice Ao21 t1773.length co21, .slice Ao22 t1776.length co22, .int .i64 a3] rfl (by (try simp only [List.map_toArray, List.map_cons, List.map_nil]); first | done | rfl | (simp only [List.length_drop, List.length_take]; rfl)) ?_; (with_reducible refine (impl_SlideLanes.win k a0 (fun k_ => some k_ = (.slice Ao21 t1773.length co21 : Value).ownBlock) _ _ t1773 (fun k_ => some k_ = (.slice Ao22 t1776.length co22 : Value).ownBlock) _ _ t1776 a3 t1779 t1782 _ ?side1 ?side2 A12.out).mono ?_); (case side1 => exact Ow.V (Ow.tight (HO1775.out))); (case side2 => exact Ow.V (Ow.tight (HO1778.out))); rintro e w23 ⟨v1780, rfl, ho0, hb⟩; refine ⟨_, rfl, ?_⟩; have n0_ := Aside0.mk (Ow.elder' (by (with_reducible repeat (first | apply Ow.alloc | apply Ow.drewN | apply Ow.drew)); exact HO1765.out) (Ow.bas ho0) hb); have n1_ := Aside0.mk (Ow.elder' (by (with_reducible repeat (first | apply Ow.alloc | apply Ow.drewN | apply Ow.drew)); exact HO1768.out) (Ow.bas ho0) hb); have n2_ := Aside0.mk (Ow.elder' (by (with_reducible repeat (first | apply Ow.alloc | apply Ow.drewN | apply Ow.drew)); exact HO1772.out) (Ow.bas ho0) hb); have n3_ := Aside0.mk (Ow.elder' (by (with_reducible repeat (first | apply Ow.alloc | apply Ow.drewN | apply Ow.drew)); exact HO1775.out) (Ow.bas ho0) hb); have n4_ := Aside0.mk (Ow.elder' (by (with_reducible repeat (first | apply Ow.alloc | apply Ow.drewN | apply Ow.drew)); exact HO1778.out) (Ow.bas ho0) hb); have n5_ := Aside0.mk (Ow.lower (Ow.new' (Ow.new' (Ow.new' (Ow.new' (Ow.new' (Ow.mono (ok' := fun k_ => True) ho0 (fun _ hk_ => trivial)) (Ow.lt (by (with_reducible repeat (first | apply Ow.alloc | apply Ow.drewN | apply Ow.drew)); exact HO1765.out))) (Ow.lt (by (with_reducible repeat (first | apply Ow.alloc | apply Ow.drewN | apply Ow.drew)); exact HO1768.out))) (Ow.lt (by (with_reducible repeat (first | apply Ow.alloc | apply Ow.drewN | apply Ow.drew)); exact HO1772.out))) (Ow.lt (by (with_reducible repeat (first | apply Ow.alloc | apply Ow.drewN | apply Ow.drew)); exact HO1775.out))) (Ow.lt (by (with_reducible repeat (first | apply Ow.alloc | apply Ow.drewN | apply Ow.drew)); exact HO1778.out))) (below_size (by repeat (first | (with_reducible first | exact HB.out | apply below_alloc | apply pw_below_drewN | apply below_drew1) | exact HB.out)))); have n6_ := Aside0.mk (below_step (by repeat (first | (with_reducible first | exact HB.out | apply below_alloc | apply pw_below_drewN | apply below_drew1) | exact HB.out)) hb); clear HO1765; clear HO1768; clear HO1772; clear HO1775; clear HO1778; clear HB; have HO1765 := n0_; have HO1768 := n1_; have HO1772 := n2_; have HO1775 := n3_; have HO1778 := n4_; have HO1781 := n5_; have HB := n6_; clear n0_ n1_ n2_ n3_ n4_ n5_ n6_; (try clear hb); (try clear hb2); (try clear hk); (try clear hi); (try clear ho0)))
 (try simp only [Act.put, List.setIfInBounds_toArray, List.set_cons_zero, List.set_cons_succ])
 go_cut [56] (fun v56 wc => ∃ (kq : Nat) (x56_12 : Bool), v56 = .bool x56_12 ∧ Aside0 (laws_FnExactSlideLanes.j0 kq a0 l1 l2 a3 t1769 t1770 t1773 t1776 t1779 t1782 x56_12 = some r) ∧ Aside0 (kq ≤ k) ∧ Aside0 (Ow wc w.heap.size (fun k_ => some k_ ≠ ((.slice Ao21 t1773.length co21) : Value).ownBlock ∧ some k_ ≠ ((.slice Ao22 t1776.length co22) : Value).ownBlock ∧ some k_ ≠ (v1780 : Value).ownBlock) v1771 t1769) ∧ Aside0 (Ow wc w.heap.size (fun k_ => some k_ ≠ (v1771 : Value).ownBlock ∧ some k_ ≠ ((.slice Ao22 t1776.length co22) : Value).ownBlock ∧ some k_ ≠ (v1780 : Value).ownBlock) (.slice Ao21 t1773.length co21) t1773) ∧ Aside0 (Ow wc w.heap.size (fun k_ => some k_ ≠ (v1771 : Value).ownBlock ∧ some k_ ≠ ((.slice Ao21 t1773.length co21) : Value).ownBlock ∧ some k_ ≠ (v1780 : Value).ownBlock) (.slice Ao22 t1776.length co22) t1776) ∧ Aside0 (Ow wc w.heap.size (fun k_ => some k_ ≠ (v1771 : Value).ownBlock ∧ some k_ ≠ ((.slice Ao21 t1773.length co21) : Value).ownBlock ∧ some k_ ≠ ((.slice Ao22 t1776.length co22) : Value).ownBlock) v1780 t1779) ∧ Aside0 (Below w.heap.size w wc))
 case first =>
  have H := HC13.out
  clear HC13
  replace H := Option.bind_eq_some_iff.mp H
  obtain ⟨t1783, A240, H⟩ := H
  try dsimp only at H
  have A24 := Aside0.mk A240
  clear A240
  by_cases c25 : t1783 = true
  ·subst c25
   rw [if_pos rfl] at H
   have H' := Aside0.mk H
   clear H
   obtain ⟨Ao26, co26, eo26⟩ := Ow.slice HO1781.out
   subst eo26
   obtain ⟨Ao27, co27, eo27⟩ := Ow.slice HO1772.out
   subst eo27
   go_wp2_with (first | ((with_reducible refine gate_callee (f := 30) rfl ?_); refine goesL_ (some 50) rfl rfl Try.func30 (by kernel_rfl) rfl #[.slice Ao26 t1779.length co26, .slice Ao27 t1769.length co27] rfl (by (try simp only [List.map_toArray, List.map_cons, List.map_nil]); first | done | rfl | (simp only [List.length_drop, List.length_take]; rfl)) ?_; (with_reducible refine (laws_eqInt64S.calls k _ _ t1779 _ _ t1769 true _ ?side1 ?side2 ?side3 ?side4 A24.out).mono ?_); (case side1 => repeat (first | exact (Ow.reads' HO1781.out).2.2 | (with_reducible refine Kd.C_alloc ?_ _) | (with_reducible refine Kd.C_drewN ?_ _) | (with_reducible refine Kd.C_drew ?_))); (case side2 => exact (Ow.reads' HO1781.out).2.1); (case side3 => repeat (first | exact (Ow.reads' HO1772.out).2.2 | (with_reducible refine Kd.C_alloc ?_ _) | (with_reducible refine Kd.C_drewN ?_ _) | (with_reducible refine Kd.C_drew ?_))); (case side4 => exact (Ow.reads' HO1772.out).2.1); rintro e w' ⟨rfl, ⟨nd, rfl⟩⟩; refine ⟨_, rfl, ?_⟩))
   go_meet
   case rel => exact ⟨_, ((t1782 != t1770)), (by first | rfl | (simp; done) | (simp [*]; done)), H', ⟨by first | omega | exact Nat.le_refl _⟩, ⟨by (with_reducible repeat (first | apply Ow.alloc | apply Ow.drewN | apply Ow.drew)); exact Ow.mono HO1772.out (fun _ hk => ⟨hk.1.1.2, ⟨hk.1.2, hk.2⟩⟩)⟩, ⟨by (with_reducible repeat (first | apply Ow.alloc | apply Ow.drewN | apply Ow.drew)); exact Ow.mono HO1775.out (fun _ hk => ⟨hk.1.1.2, ⟨hk.1.2, hk.2⟩⟩)⟩, ⟨by (with_reducible repeat (first | apply Ow.alloc | apply Ow.drewN | apply Ow.drew)); exact Ow.mono HO1778.out (fun _ hk => ⟨hk.1.1.2, ⟨hk.1.2, hk.2⟩⟩)⟩, ⟨by (with_reducible repeat (first | apply Ow.alloc | apply Ow.drewN | apply Ow.drew)); exact Ow.mono HO1781.out (fun _ hk => ⟨hk.1.1.2, ⟨hk.1.2, hk.2⟩⟩)⟩, ⟨by repeat (first | (with_reducible first | exact HB.out | apply below_alloc | apply pw_below_drewN | apply below_drew1) | exact HB.out)⟩⟩
  replace c25 := Bool.eq_false_iff.mpr c25
  subst c25
  rw [if_neg (show ¬ (false = true) by decide)] at H
  exact (laws_FnExactSlideLanes.j0_no H HRT.out).elim
 case rest =>
  clear HC13
  try clear c1
  try clear c2
  try clear p2
  try clear c3
  try clear c4
  try clear c5
  try clear c5b0
  try clear c5b1
  try clear c6
  try clear c6b0
  try clear c6b1
  try clear c9
  try clear c25
  try clear c28
  obtain ⟨kq, x56_12, rfl, HA, HJ12, HO_9, HO_11, HO_12, HO_13, HB⟩ := hcut
  cases kq with
  | zero => exact absurd HA.out (by simp [laws_FnExactSlideLanes.j0])
  | succ kj12 =>
   have H := HA.out
   clear HA
   simp only [laws_FnExactSlideLanes.j0] at H
   by_cases c30 : x56_12 = true
   ·subst c30
    rw [if_pos rfl] at H
    obtain rfl := Option.some.inj H
    exact absurd HRT.out (by decide)
   replace c30 := Bool.eq_false_iff.mpr c30
   subst c30
   rw [if_neg (show ¬ (false = true) by decide)] at H
   replace H := Option.bind_eq_some_iff.mp H
   obtain ⟨t1784, A310, H⟩ := H
   try dsimp only at H
   have A31 := Aside0.mk A310
   clear A310
   replace H := Option.bind_eq_some_iff.mp H
   obtain ⟨t1787, A320, H⟩ := H
   try dsimp only at H
   have A32 := Aside0.mk A320
   clear A320
   by_cases c33 : t1787 = true
   rotate_left
   ·replace c33 := Bool.eq_false_iff.mpr c33
    subst c33
    rw [if_neg (show ¬ (false = true) by decide)] at H
    obtain rfl := Option.some.inj H
    exact absurd HRT.out (by decide)

   subst c33
   rw [if_pos rfl] at H
   replace H := Option.bind_eq_some_iff.mp H
   obtain ⟨t1788, A340, H⟩ := H
   try dsimp only at H
   have A34 := Aside0.mk A340
   clear A340
   replace H := Option.bind_eq_some_iff.mp H
   obtain ⟨t1791, A350, H⟩ := H
   try dsimp only at H
   have A35 := Aside0.mk A350
   clear A350
   by_cases c36 : t1791 = true
   rotate_left
   ·replace c36 := Bool.eq_false_iff.mpr c36
    subst c36
    rw [if_neg (show ¬ (false = true) by decide)] at H
    obtain rfl := Option.some.inj H
    exact absurd HRT.out (by decide)
   subst c36
   rw [if_pos rfl] at H
   replace H := Option.bind_eq_some_iff.mp H
   obtain ⟨⟨t1792, t1793⟩, A370, H⟩ := H
   try dsimp only at H
   have A37 := Aside0.mk A370
   clear A370
   replace H := Option.bind_eq_some_iff.mp H
   obtain ⟨⟨t1794, t1795⟩, A380, H⟩ := H
   try dsimp only at H
   have A38 := Aside0.mk A380
   clear A380
   have HC39 := Aside0.mk H
   clear H
   go_upto_region 18 with (first | ((with_reducible refine gate_callee (f := 28) rfl ?_); refine goesL_ (some 59) rfl rfl Try.func28 (by kernel_rfl) rfl #[.slice A1 l1.length c1] rfl (by (try simp only [List.map_toArray, List.map_cons, List.map_nil]); first | done | rfl | (simp only [List.length_drop, List.length_take]; rfl)) ?_; (with_reducible refine (laws_toInt64S.calls kj12 _ _ l1 t1784 _ ?side1 ?side2 A31.out).mono ?_); (case side1 => repeat (first | exact (Kd.C_below HR1.out HB.out) | (with_reducible refine Kd.C_alloc ?_ _) | (with_reducible refine Kd.C_drewN ?_ _) | (with_reducible refine Kd.C_drew ?_))); (case side2 => exact HC1.out); rintro e w40 ⟨v1785, rfl, ho0, hb⟩; replace ho0 := Ow.of ho0; refine ⟨_, rfl, ?_⟩; have n0_ := Aside0.mk (Ow.elder' (by (with_reducible repeat (first | apply Ow.alloc | apply Ow.drewN | apply Ow.drew)); exact HO_9.out) (Ow.bas ho0) hb); have n1_ := Aside0.mk (Ow.elder' (by (with_reducible repeat (first | apply Ow.alloc | apply Ow.drewN | apply Ow.drew)); exact HO_11.out) (Ow.bas ho0) hb); have n2_ := Aside0.mk (Ow.elder' (by (with_reducible repeat (first | apply Ow.alloc | apply Ow.drewN | apply Ow.drew)); exact HO_12.out) (Ow.bas ho0) hb); have n3_ := Aside0.mk (Ow.elder' (by (with_reducible repeat (first | apply Ow.alloc | apply Ow.drewN | apply Ow.drew)); exact HO_13.out) (Ow.bas ho0) hb); have n4_ := Aside0.mk (Ow.lower (Ow.new' (Ow.new' (Ow.new' (Ow.new' ho0 (Ow.lt (by (with_reducible repeat (first | apply Ow.alloc | apply Ow.drewN | apply Ow.drew)); exact HO_9.out))) (Ow.lt (by (with_reducible repeat (first | apply Ow.alloc | apply Ow.drewN | apply Ow.drew)); exact HO_11.out))) (Ow.lt (by (with_reducible repeat (first | apply Ow.alloc | apply Ow.drewN | apply Ow.drew)); exact HO_12.out))) (Ow.lt (by (with_reducible repeat (first | apply Ow.alloc | apply Ow.drewN | apply Ow.drew)); exact HO_13.out))) (below_size (by repeat (first | (with_reducible first | exact HB.out | apply below_alloc | apply pw_below_drewN | apply below_drew1) | exact HB.out)))); have n5_ := Aside0.mk (below_step (by repeat (first | (with_reducible first | exact HB.out | apply below_alloc | apply pw_below_drewN | apply below_drew1) | exact HB.out)) hb); clear HO_9; clear HO_11; clear HO_12; clear HO_13; clear HB; have HO_9 := n0_; have HO_11 := n1_; have HO_12 := n2_; have HO_13 := n3_; have HO1786 := n4_; have HB := n5_; clear n0_ n1_ n2_ n3_ n4_ n5_; (try clear hb); (try clear hb2); (try clear hk); (try clear hi); (try clear ho0); obtain ⟨Ao41, co41, eo41⟩ := Ow.slice HO1786.out; subst eo41) | ((with_reducible refine gate_callee (f := 30) rfl ?_); refine goesL_ (some 60) rfl rfl Try.func30 (by kernel_rfl) rfl #[.slice Ao21 t1773.length co21, .slice Ao41 t1784.length co41] rfl (by (try simp only [List.map_toArray, List.map_cons, List.map_nil]); first | done | rfl | (simp only [List.length_drop, List.length_take]; rfl)) ?_; (with_reducible refine (laws_eqInt64S.calls kj12 _ _ t1773 _ _ t1784 true _ ?side1 ?side2 ?side3 ?side4 A32.out).mono ?_); (case side1 => repeat (first | exact (Ow.reads' HO_11.out).2.2 | (with_reducible refine Kd.C_alloc ?_ _) | (with_reducible refine Kd.C_drewN ?_ _) | (with_reducible refine Kd.C_drew ?_))); (case side2 => exact (Ow.reads' HO_11.out).2.1); (case side3 => repeat (first | exact (Ow.reads' HO1786.out).2.2 | (with_reducible refine Kd.C_alloc ?_ _) | (with_reducible refine Kd.C_drewN ?_ _) | (with_reducible refine Kd.C_drew ?_))); (case side4 => exact (Ow.reads' HO1786.out).2.1); rintro e w' ⟨rfl, ⟨nd, rfl⟩⟩; refine ⟨_, rfl, ?_⟩) | ((with_reducible refine gate_callee (f := 28) rfl ?_); refine goesL_ (some 64) rfl rfl Try.func28 (by kernel_rfl) rfl #[.slice A2 l2.length c2] rfl (by (try simp only [List.map_toArray, List.map_cons, List.map_nil]); first | done | rfl | (simp only [List.length_drop, List.length_take]; rfl)) ?_; (with_reducible refine (laws_toInt64S.calls kj12 _ _ l2 t1788 _ ?side1 ?side2 A34.out).mono ?_); (case side1 => repeat (first | exact (Kd.C_below HR2.out (by repeat (first | (with_reducible first | exact HB.out | apply below_alloc | apply pw_below_drewN | apply below_drew1) | exact HB.out))) | (with_reducible refine Kd.C_alloc ?_ _) | (with_reducible refine Kd.C_drewN ?_ _) | (with_reducible refine Kd.C_drew ?_))); (case side2 => exact HC2.out); rintro e w42 ⟨v1789, rfl, ho0, hb⟩; replace ho0 := Ow.of ho0; refine ⟨_, rfl, ?_⟩; have n0_ := Aside0.mk (Ow.elder' (by (with_reducible repeat (first | apply Ow.alloc | apply Ow.drewN | apply Ow.drew)); exact HO_9.out) (Ow.bas ho0) hb); have n1_ := Aside0.mk (Ow.elder' (by (with_reducible repeat (first | apply Ow.alloc | apply Ow.drewN | apply Ow.drew)); exact HO_11.out) (Ow.bas ho0) hb); have n2_ := Aside0.mk (Ow.elder' (by (with_reducible repeat (first | apply Ow.alloc | apply Ow.drewN | apply Ow.drew)); exact HO_12.out) (Ow.bas ho0) hb); have n3_ := Aside0.mk (Ow.elder' (by (with_reducible repeat (first | apply Ow.alloc | apply Ow.drewN | apply Ow.drew)); exact HO_13.out) (Ow.bas ho0) hb); have n4_ := Aside0.mk (Ow.elder' (by (with_reducible repeat (first | apply Ow.alloc | apply Ow.drewN | apply Ow.drew)); exact HO1786.out) (Ow.bas ho0) hb); have n5_ := Aside0.mk (Ow.lower (Ow.new' (Ow.new' (Ow.new' (Ow.new' (Ow.new' ho0 (Ow.lt (by (with_reducible repeat (first | apply Ow.alloc | apply Ow.drewN | apply Ow.drew)); exact HO_9.out))) (Ow.lt (by (with_reducible repeat (first | apply Ow.alloc | apply Ow.drewN | apply Ow.drew)); exact HO_11.out))) (Ow.lt (by (with_reducible repeat (first | apply Ow.alloc | apply Ow.drewN | apply Ow.drew)); exact HO_12.out))) (Ow.lt (by (with_reducible repeat (first | apply Ow.alloc | apply Ow.drewN | apply Ow.drew)); exact HO_13.out))) (Ow.lt (by (with_reducible repeat (first | apply Ow.alloc | apply Ow.drewN | apply Ow.drew)); exact HO1786.out))) (below_size (by repeat (first | (with_reducible first | exact HB.out | apply below_alloc | apply pw_below_drewN | apply below_drew1) | exact HB.out)))); have n6_ := Aside0.mk (below_step (by repeat (first | (with_reducible first | exact HB.out | apply below_alloc | apply pw_below_drewN | apply below_drew1) | exact HB.out)) hb); clear HO_9; clear HO_11; clear HO_12; clear HO_13; clear HO1786; clear HB; have HO_9 := n0_; have HO_11 := n1_; have HO_12 := n2_; have HO_13 := n3_; have HO1786 := n4_; have HO1790 := n5_; have HB := n6_; clear n0_ n1_ n2_ n3_ n4_ n5_ n6_; (try clear hb); (try clear hb2); (try clear hk); (try clear hi); (try clear ho0); obtain ⟨Ao43, co43, eo43⟩ := Ow.slice HO1790.out; subst eo43) | ((with_reducible refine gate_callee (f := 30) rfl ?_); refine goesL_ (some 65) rfl rfl Try.func30 (by kernel_rfl) rfl #[.slice Ao22 t1776.length co22, .slice Ao43 t1788.length co43] rfl (by (try simp only [List.map_toArray, List.map_cons, List.map_nil]); first | done | rfl | (simp only [List.length_drop, List.length_take]; rfl)) ?_; (with_reducible refine (laws_eqInt64S.calls kj12 _ _ t1776 _ _ t1788 true _ ?side1 ?side2 ?side3 ?side4 A35.out).mono ?_); (case side1 => repeat (first | exact (Ow.reads' HO_12.out).2.2 | (with_reducible refine Kd.C_alloc ?_ _) | (with_reducible refine Kd.C_drewN ?_ _) | (with_reducible refine Kd.C_drew ?_))); (case side2 => exact (Ow.reads' HO_12.out).2.1); (case side3 => repeat (first | exact (Ow.reads' HO1790.out).2.2 | (with_reducible refine Kd.C_alloc ?_ _) | (with_reducible refine Kd.C_drewN ?_ _) | (with_reducible refine Kd.C_drew ?_))); (case side4 => exact (Ow.reads' HO1790.out).2.1); rintro e w' ⟨rfl, ⟨nd, rfl⟩⟩; refine ⟨_, rfl, ?_⟩) | ((with_reducible refine gate_callee (f := 35) rfl ?_); refine goesL_ (some 69) rfl rfl Try.func35 (by kernel_rfl) rfl #[.slice Ao21 t1773.length co21, .int .i64 1] rfl (by (try simp only [List.map_toArray, List.map_cons, List.map_nil]); first | done | rfl | (simp only [List.length_drop, List.length_take]; rfl)) ?_; (with_reducible refine (mark_ow kj12 (fun k_ => some k_ = (.slice Ao21 t1773.length co21 : Value).ownBlock) (.slice Ao21 t1773.length co21) t1773 1 t1792 t1793 w _ ?side1 ?side2 A37.out).mono ?_); (case side1 => repeat (first | (with_reducible first | exact HB.out | apply below_alloc | apply pw_below_drewN | apply below_drew1) | exact HB.out)); (case side2 => exact Ow.tight HO_11.out); rintro e w44 ⟨rfl, hy0, hb, hkp⟩; refine ⟨_, rfl, ?_⟩; have n0_ := Aside0.mk (Ow.mono (ok' := fun k_ => some k_ ≠ (.slice Ao21 t1773.length co21 : Value).ownBlock ∧ some k_ ≠ (.slice Ao22 t1776.length co22 : Value).ownBlock ∧ some k_ ≠ (v1780 : Value).ownBlock ∧ some k_ ≠ (.slice Ao41 t1784.length co41 : Value).ownBlock ∧ some k_ ≠ (.slice Ao43 t1788.length co43 : Value).ownBlock) (Ow.keptB (HO_9.out) hkp (fun k_ hk_ hs_ => (hk_.1.1.1) hs_)) (fun k_ hk_ => ⟨hk_.1.1.1.1, hk_.1.1.1.2.1, hk_.1.1.1.2.2, hk_.1.1.2, hk_.1.2⟩)); have n1_ := Aside0.mk (Ow.reok hy0 (fun k_ e_ => (Ow.ok1 HO_11.out) k_ e_)); have n2_ := Aside0.mk (Ow.mono (ok' := fun k_ => some k_ ≠ (v1771 : Value).ownBlock ∧ some k_ ≠ (.slice Ao21 t1773.length co21 : Value).ownBlock ∧ some k_ ≠ (v1780 : Value).ownBlock ∧ some k_ ≠ (.slice Ao41 t1784.length co41 : Value).ownBlock ∧ some k_ ≠ (.slice Ao43 t1788.length co43 : Value).ownBlock) (Ow.keptB (HO_12.out) hkp (fun k_ hk_ hs_ => (hk_.1.1.2.1) hs_)) (fun k_ hk_ => ⟨hk_.1.1.1.1, hk_.1.1.1.2.1, hk_.1.1.1.2.2, hk_.1.1.2, hk_.1.2⟩)); have n3_ := Aside0.mk (Ow.mono (ok' := fun k_ => some k_ ≠ (v1771 : Value).ownBlock ∧ some k_ ≠ (.slice Ao21 t1773.length co21 : Value).ownBlock ∧ some k_ ≠ (.slice Ao22 t1776.length co22 : Value).ownBlock ∧ some k_ ≠ (.slice Ao41 t1784.length co41 : Value).ownBlock ∧ some k_ ≠ (.slice Ao43 t1788.length co43 : Value).ownBlock) (Ow.keptB (HO_13.out) hkp (fun k_ hk_ hs_ => (hk_.1.1.2.1) hs_)) (fun k_ hk_ => ⟨hk_.1.1.1.1, hk_.1.1.1.2.1, hk_.1.1.1.2.2, hk_.1.1.2, hk_.1.2⟩)); have n4_ := Aside0.mk (Ow.mono (ok' := fun k_ => some k_ ≠ (v1771 : Value).ownBlock ∧ some k_ ≠ (.slice Ao21 t1773.length co21 : Value).ownBlock ∧ some k_ ≠ (.slice Ao22 t1776.length co22 : Value).ownBlock ∧ some k_ ≠ (v1780 : Value).ownBlock ∧ some k_ ≠ (.slice Ao43 t1788.length co43 : Value).ownBlock) (Ow.keptB (HO1786.out) hkp (fun k_ hk_ hs_ => (hk_.1.1.1.2) hs_)) (fun k_ hk_ => ⟨hk_.1.1.1.1.1.2, hk_.1.1.1.1.2, hk_.1.1.1.2, hk_.1.1.2, hk_.1.2⟩)); have n5_ := Aside0.mk (Ow.mono (ok' := fun k_ => some k_ ≠ (v1771 : Value).ownBlock ∧ some k_ ≠ (.slice Ao21 t1773.length co21 : Value).ownBlock ∧ some k_ ≠ (.slice Ao22 t1776.length co22 : Value).ownBlock ∧ some k_ ≠ (v1780 : Value).ownBlock ∧ some k_ ≠ (.slice Ao41 t1784.length co41 : Value).ownBlock) (Ow.keptB (HO1790.out) hkp (fun k_ hk_ hs_ => (hk_.1.1.1.2) hs_)) (fun k_ hk_ => ⟨hk_.1.1.1.1.1.2, hk_.1.1.1.1.2, hk_.1.1.1.2, hk_.1.1.2, hk_.1.2⟩)); have n6_ := Aside0.mk (hb); clear HO_9; clear HO_11; clear HO_12; clear HO_13; clear HO1786; clear HO1790; clear HB; have HO_9 := n0_; have HO_11 := n1_; have HO_12 := n2_; have HO_13 := n3_; have HO1786 := n4_; have HO1790 := n5_; have HB := n6_; clear n0_ n1_ n2_ n3_ n4_ n5_ n6_; (try clear hb); (try clear hkp); (try clear hy0)) | ((with_reducible refine gate_callee (f := 35) rfl ?_); refine goesL_ (some 72) rfl rfl Try.func35 (by kernel_rfl) rfl #[.slice Ao22 t1776.length co22, .int .i64 t1792] rfl (by (try simp only [List.map_toArray, List.map_cons, List.map_nil]); first | done | rfl | (simp only [List.length_drop, List.length_take]; rfl)) ?_; (with_reducible refine (mark_ow kj12 (fun k_ => some k_ = (.slice Ao22 t1776.length co22 : Value).ownBlock) (.slice Ao22 t1776.length co22) t1776 t1792 t1794 t1795 w _ ?side1 ?side2 A38.out).mono ?_); (case side1 => repeat (first | (with_reducible first | exact HB.out | apply below_alloc | apply pw_below_drewN | apply below_drew1) | exact HB.out)); (case side2 => exact Ow.tight HO_12.out); rintro e w45 ⟨rfl, hy0, hb, hkp⟩; refine ⟨_, rfl, ?_⟩; have n0_ := Aside0.mk (Ow.mono (ok' := fun k_ => some k_ ≠ (.slice Ao21 t1773.length co21 : Value).ownBlock ∧ some k_ ≠ (.slice Ao22 t1776.length co22 : Value).ownBlock ∧ some k_ ≠ (v1780 : Value).ownBlock ∧ some k_ ≠ (.slice Ao41 t1784.length co41 : Value).ownBlock ∧ some k_ ≠ (.slice Ao43 t1788.length co43 : Value).ownBlock) (Ow.keptB (HO_9.out) hkp (fun k_ hk_ hs_ => (hk_.2.1) hs_)) (fun k_ hk_ => ⟨hk_.1.1, hk_.1.2.1, hk_.1.2.2.1, hk_.1.2.2.2.1, hk_.1.2.2.2.2⟩)); have n1_ := Aside0.mk (Ow.mono (ok' := fun k_ => some k_ ≠ (v1771 : Value).ownBlock ∧ some k_ ≠ (.slice Ao22 t1776.length co22 : Value).ownBlock ∧ some k_ ≠ (v1780 : Value).ownBlock ∧ some k_ ≠ (.slice Ao41 t1784.length co41 : Value).ownBlock ∧ some k_ ≠ (.slice Ao43 t1788.length co43 : Value).ownBlock) (Ow.keptB (HO_11.out) hkp (fun k_ hk_ hs_ => (hk_.1.1.2.1) hs_)) (fun k_ hk_ => ⟨hk_.1.1.1.1, hk_.1.1.1.2.1, hk_.1.1.1.2.2, hk_.1.1.2, hk_.1.2⟩)); have n2_ := Aside0.mk (Ow.reok hy0 (fun k_ e_ => (Ow.ok1 HO_12.out) k_ e_)); have n3_ := Aside0.mk (Ow.mono (ok' := fun k_ => some k_ ≠ (v1771 : Value).ownBlock ∧ some k_ ≠ (.slice Ao21 t1773.length co21 : Value).ownBlock ∧ some k_ ≠ (.slice Ao22 t1776.length co22 : Value).ownBlock ∧ some k_ ≠ (.slice Ao41 t1784.length co41 : Value).ownBlock ∧ some k_ ≠ (.slice Ao43 t1788.length co43 : Value).ownBlock) (Ow.keptB (HO_13.out) hkp (fun k_ hk_ hs_ => (hk_.2.2.1) hs_)) (fun k_ hk_ => ⟨hk_.1.1, hk_.1.2.1, hk_.1.2.2.1, hk_.1.2.2.2.1, hk_.1.2.2.2.2⟩)); have n4_ := Aside0.mk (Ow.mono (ok' := fun k_ => some k_ ≠ (v1771 : Value).ownBlock ∧ some k_ ≠ (.slice Ao21 t1773.length co21 : Value).ownBlock ∧ some k_ ≠ (.slice Ao22 t1776.length co22 : Value).ownBlock ∧ some k_ ≠ (v1780 : Value).ownBlock ∧ some k_ ≠ (.slice Ao43 t1788.length co43 : Value).ownBlock) (Ow.keptB (HO1786.out) hkp (fun k_ hk_ hs_ => (hk_.2.2.1) hs_)) (fun k_ hk_ => ⟨hk_.1.1, hk_.1.2.1, hk_.1.2.2.1, hk_.1.2.2.2.1, hk_.1.2.2.2.2⟩)); have n5_ := Aside0.mk (Ow.mono (ok' := fun k_ => some k_ ≠ (v1771 : Value).ownBlock ∧ some k_ ≠ (.slice Ao21 t1773.length co21 : Value).ownBlock ∧ some k_ ≠ (.slice Ao22 t1776.length co22 : Value).ownBlock ∧ some k_ ≠ (v1780 : Value).ownBlock ∧ some k_ ≠ (.slice Ao41 t1784.length co41 : Value).ownBlock) (Ow.keptB (HO1790.out) hkp (fun k_ hk_ hs_ => (hk_.2.2.1) hs_)) (fun k_ hk_ => ⟨hk_.1.1, hk_.1.2.1, hk_.1.2.2.1, hk_.1.2.2.2.1, hk_.1.2.2.2.2⟩)); have n6_ := Aside0.mk (hb); clear HO_9; clear HO_11; clear HO_12; clear HO_13; clear HO1786; clear HO1790; clear HB; have HO_9 := n0_; have HO_11 := n1_; have HO_12 := n2_; have HO_13 := n3_; have HO1786 := n4_; have HO1790 := n5_; have HB := n6_; clear n0_ n1_ n2_ n3_ n4_ n5_ n6_; (try clear hb); (try clear hkp); (try clear hy0)))
   (try simp only [Act.put, List.setIfInBounds_toArray, List.set_cons_zero, List.set_cons_succ])
   go_cut [85] (fun v85 wc => ∃ (kq : Nat) (x85_38 : Bool), v85 = .bool x85_38 ∧ Aside0 (laws_FnExactSlideLanes.j1 kq a0 l1 l2 a3 t1769 t1770 t1779 x85_38 = some r) ∧ Aside0 (kq ≤ kj12) ∧ Aside0 (Ow wc w.heap.size (fun k_ => some k_ ≠ (v1780 : Value).ownBlock) v1771 t1769) ∧ Aside0 (Ow wc w.heap.size (fun k_ => some k_ ≠ (v1771 : Value).ownBlock) v1780 t1779) ∧ Aside0 (Below w.heap.size w wc))
   case first =>
    have H := HC39.out
    clear HC39
    by_cases c46 : t1794 < 0
    ·rw [if_pos c46] at H
     have c46b0 : decide (t1794 < 0) = true := decide_eq_true c46
     clear c46
     (first | rw [c46b0] | (simp only [i64_w, i32_w]; rw [c46b0]) | skip)
     exact (laws_FnExactSlideLanes.j1_no H HRT.out).elim
    rw [if_neg c46] at H
    have c46b0 : decide (t1794 < 0) = false := decide_eq_false c46
    clear c46
    (first | rw [c46b0] | (simp only [i64_w, i32_w]; rw [c46b0]) | skip)
    replace H := Option.bind_eq_some_iff.mp H
    obtain ⟨t1796, A470, H⟩ := H
    try dsimp only at H
    have A47 := Aside0.mk A470
    clear A470
    by_cases c48 : t1796 = true
    ·subst c48
     rw [if_pos rfl] at H
     have H' := Aside0.mk H
     clear H
     obtain ⟨Ao49, co49, eo49⟩ := Ow.slice HO_13.out
     subst eo49
     obtain ⟨Ao50, co50, eo50⟩ := Ow.slice HO_9.out
     subst eo50
     go_wp2_with (first | (go_at_call 30; (with_reducible refine (laws_eqInt64S.calls kj12 _ _ t1779 _ _ t1769 true _ ?side1 ?side2 ?side3 ?side4 A47.out).mono ?_); (case side1 => repeat (first | exact (Ow.reads' HO_13.out).2.2 | (with_reducible refine Kd.C_alloc ?_ _) | (with_reducible refine Kd.C_drewN ?_ _) | (with_reducible refine Kd.C_drew ?_))); (case side2 => exact (Ow.reads' HO_13.out).2.1); (case side3 => repeat (first | exact (Ow.reads' HO_9.out).2.2 | (with_reducible refine Kd.C_alloc ?_ _) | (with_reducible refine Kd.C_drewN ?_ _) | (with_reducible refine Kd.C_drew ?_))); (case side4 => exact (Ow.reads' HO_9.out).2.1); rintro e w' ⟨rfl, ⟨nd, rfl⟩⟩))
     go_meet
     case rel => exact ⟨_, ((t1782 != t1770)), (by first | rfl | (simp; done) | (simp [*]; done)), H', ⟨by have := HJ12.out; first | omega | exact Nat.le_refl _⟩, ⟨by (with_reducible repeat (first | apply Ow.alloc | apply Ow.drewN | apply Ow.drew)); exact Ow.mono HO_9.out (fun _ hk => hk.2.2.1)⟩, ⟨by (with_reducible repeat (first | apply Ow.alloc | apply Ow.drewN | apply Ow.drew)); exact Ow.mono HO_13.out (fun _ hk => hk.1)⟩, ⟨by repeat (first | (with_reducible first | exact HB.out | apply below_alloc | apply pw_below_drewN | apply below_drew1) | exact HB.out)⟩⟩
    replace c48 := Bool.eq_false_iff.mpr c48
    subst c48
    rw [if_neg (show ¬ (false = true) by decide)] at H
    exact (laws_FnExactSlideLanes.j1_no H HRT.out).elim
   case rest =>
    clear HC39
    try clear c1
    try clear c2
    try clear p2
    try clear c3
    try clear c4
    try clear c5
    try clear c5b0
    try clear c5b1
    try clear c6
    try clear c6b0
    try clear c6b1
    try clear c9
    try clear c25
    try clear c28
    try clear c30
    try clear c33
    try clear c35
    try clear c36
    try clear c43
    try clear c44
    try clear c46
    try clear c46b0
    try clear c48
    try clear p2
    obtain ⟨kq, x85_38, rfl, HA, HJ38, HO_9, HO_13, HB⟩ := hcut
    cases kq with
    | zero => exact absurd HA.out (by simp [laws_FnExactSlideLanes.j1])
    | succ kj38 =>
     have H := HA.out
     clear HA
     simp only [laws_FnExactSlideLanes.j1] at H
     by_cases c53 : x85_38 = true
     ·subst c53
      rw [if_pos rfl] at H
      obtain rfl := Option.some.inj H
      exact absurd HRT.out (by decide)
     replace c53 := Bool.eq_false_iff.mpr c53
     subst c53
     rw [if_neg (show ¬ (false = true) by decide)] at H
     replace H := Option.bind_eq_some_iff.mp H
     obtain ⟨⟨t1797, t1798⟩, A540, H⟩ := H
     try dsimp only at H
     have A54 := Aside0.mk A540
     clear A540
     replace H := Option.bind_eq_some_iff.mp H
     obtain ⟨t1799, A550, H⟩ := H
     try dsimp only at H
     have A55 := Aside0.mk A550
     clear A550
     by_cases c56 : t1799 < 0
     ·rw [if_pos c56] at H
      have c56b0 : decide (t1799 < 0) = true := decide_eq_true c56
      clear c56
      obtain rfl := Option.some.inj H
      exact absurd HRT.out (by decide)
     rw [if_neg c56] at H
     have c56b0 : decide (t1799 < 0) = false := decide_eq_false c56
     clear c56
     by_cases c57 : t1799 = t1797
     rotate_left
     ·rw [if_neg c57] at H
      have c57b0 : (t1799 == t1797) = false := beq_eq_false_iff_ne.mpr c57
      have c57b1 : (t1799 != t1797) = true := bne_iff_ne.mpr c57
      obtain rfl := Option.some.inj H
      exact absurd HRT.out (by decide)
     rw [if_pos c57] at H
     have c57b0 : (t1799 == t1797) = true := beq_iff_eq.mpr c57
     have c57b1 : (t1799 != t1797) = false := bne_eq_false_iff_eq.mpr c57
     clear c57
     replace H := Option.bind_eq_some_iff.mp H
     obtain ⟨t1800, A580, H⟩ := H
     try dsimp only at H
     have A58 := Aside0.mk A580
     clear A580
     replace H := Option.bind_eq_some_iff.mp H
     obtain ⟨t1803, A590, H⟩ := H
     try dsimp only at H
     have A59 := Aside0.mk A590
     clear A590
     replace H := Option.bind_eq_some_iff.mp H
     obtain ⟨⟨t1806, t1809⟩, A600, H⟩ := H
     try dsimp only at H
     have A60 := Aside0.mk A600
     clear A600
     have HC61 := Aside0.mk H
     clear H
     obtain ⟨Ao62, co62, eo62⟩ := Ow.slice HO_13.out
     subst eo62
     go_upto_region 29 with (first | ((with_reducible refine gate_callee (f := 35) rfl ?_); refine goesL_ (some 88) rfl rfl Try.func35 (by kernel_rfl) rfl #[.slice Ao62 t1779.length co62, .int .i64 1] rfl (by (try simp only [List.map_toArray, List.map_cons, List.map_nil]); first | done | rfl | (simp only [List.length_drop, List.length_take]; rfl)) ?_; (with_reducible refine (mark_ow kj38 (fun k_ => some k_ = (.slice Ao62 t1779.length co62 : Value).ownBlock) (.slice Ao62 t1779.length co62) t1779 1 t1797 t1798 w _ ?side1 ?side2 A54.out).mono ?_); (case side1 => repeat (first | (with_reducible first | exact HB.out | apply below_alloc | apply pw_below_drewN | apply below_drew1) | exact HB.out)); (case side2 => exact Ow.tight HO_13.out); rintro e w63 ⟨rfl, hy0, hb, hkp⟩; refine ⟨_, rfl, ?_⟩; have n0_ := Aside0.mk (Ow.mono (ok' := fun k_ => some k_ ≠ (.slice Ao62 t1779.length co62 : Value).ownBlock) (Ow.keptB (HO_9.out) hkp (fun k_ hk_ hs_ => (hk_) hs_)) (fun k_ hk_ => hk_.1)); have n1_ := Aside0.mk (Ow.reok hy0 (fun k_ e_ => (Ow.ok1 HO_13.out) k_ e_)); have n2_ := Aside0.mk (hb); clear HO_9; clear HO_13; clear HB; have HO_9 := n0_; have HO_13 := n1_; have HB := n2_; clear n0_ n1_ n2_; (try clear hb); (try clear hkp); (try clear hy0)) | ((with_reducible refine gate_callee (f := 36) rfl ?_); refine goesL_ (some 91) rfl rfl Try.func36 (by kernel_rfl) rfl #[.slice Ao62 t1798.length co62, .int .i64 1] rfl (by (try simp only [List.map_toArray, List.map_cons, List.map_nil]); first | done | (rw [show t1798.length = t1779.length from (Ow.reads' HO_13.out).1.symm] <;> rfl) | rfl | (simp only [List.length_drop, List.length_take]; rfl)) ?_; (with_reducible refine (laws_heldInt64S.calls kj38 _ _ t1798 1 t1799 _ ?side1 ?side2 A55.out).mono ?_); (case side1 => repeat (first | exact (Ow.reads' HO_13.out).2.2 | (with_reducible refine Kd.C_alloc ?_ _) | (with_reducible refine Kd.C_drewN ?_ _) | (with_reducible refine Kd.C_drew ?_))); (case side2 => rw [show t1798.length = t1779.length from (Ow.reads' HO_13.out).1.symm]; exact (Ow.reads' HO_13.out).2.1); rintro e w' ⟨rfl, ⟨nd, rfl⟩⟩; refine ⟨_, rfl, ?_⟩) | ((with_reducible refine gate_callee (f := 28) rfl ?_); refine goesL_ (some 100) rfl rfl Try.func28 (by kernel_rfl) rfl #[.slice A1 l1.length c1] rfl (by (try simp only [List.map_toArray, List.map_cons, List.map_nil]); first | done | rfl | (simp only [List.length_drop, List.length_take]; rfl)) ?_; (with_reducible refine (laws_toInt64S.calls kj38 _ _ l1 t1800 _ ?side1 ?side2 A58.out).mono ?_); (case side1 => repeat (first | exact (Kd.C_below HR1.out (by repeat (first | (with_reducible first | exact HB.out | apply below_alloc | apply pw_below_drewN | apply below_drew1) | exact HB.out))) | (with_reducible refine Kd.C_alloc ?_ _) | (with_reducible refine Kd.C_drewN ?_ _) | (with_reducible refine Kd.C_drew ?_))); (case side2 => exact HC1.out); rintro e w64 ⟨v1801, rfl, ho0, hb⟩; replace ho0 := Ow.of ho0; refine ⟨_, rfl, ?_⟩; have n0_ := Aside0.mk (Ow.elder' (by (with_reducible repeat (first | apply Ow.alloc | apply Ow.drewN | apply Ow.drew)); exact HO_9.out) (Ow.bas ho0) hb); have n1_ := Aside0.mk (Ow.elder' (by (with_reducible repeat (first | apply Ow.alloc | apply Ow.drewN | apply Ow.drew)); exact HO_13.out) (Ow.bas ho0) hb); have n2_ := Aside0.mk (Ow.lower (Ow.new' (Ow.new' ho0 (Ow.lt (by (with_reducible repeat (first | apply Ow.alloc | apply Ow.drewN | apply Ow.drew)); exact HO_9.out))) (Ow.lt (by (with_reducible repeat (first | apply Ow.alloc | apply Ow.drewN | apply Ow.drew)); exact HO_13.out))) (below_size (by repeat (first | (with_reducible first | exact HB.out | apply below_alloc | apply pw_below_drewN | apply below_drew1) | exact HB.out)))); have n3_ := Aside0.mk (below_step (by repeat (first | (with_reducible first | exact HB.out | apply below_alloc | apply pw_below_drewN | apply below_drew1) | exact HB.out)) hb); clear HO_9; clear HO_13; clear HB; have HO_9 := n0_; have HO_13 := n1_; have HO1802 := n2_; have HB := n3_; clear n0_ n1_ n2_ n3_; (try clear hb); (try clear hb2); (try clear hk); (try clear hi); (try clear ho0)) | ((with_reducible refine gate_callee (f := 28) rfl ?_); refine goesL_ (some 102) rfl rfl Try.func28 (by kernel_rfl) rfl #[.slice A2 l2.length c2] rfl (by (try simp only [List.map_toArray, List.map_cons, List.map_nil]); first | done | rfl | (simp only [List.length_drop, List.length_take]; rfl)) ?_; (with_reducible refine (laws_toInt64S.calls kj38 _ _ l2 t1803 _ ?side1 ?side2 A59.out).mono ?_); (case side1 => repeat (first | exact (Kd.C_below HR2.out HB.out) | (with_reducible refine Kd.C_alloc ?_ _) | (with_reducible refine Kd.C_drewN ?_ _) | (with_reducible refine Kd.C_drew ?_))); (case side2 => exact HC2.out); rintro e w65 ⟨v1804, rfl, ho0, hb⟩; replace ho0 := Ow.of ho0; refine ⟨_, rfl, ?_⟩; have n0_ := Aside0.mk (Ow.elder' (by (with_reducible repeat (first | apply Ow.alloc | apply Ow.drewN | apply Ow.drew)); exact HO_9.out) (Ow.bas ho0) hb); have n1_ := Aside0.mk (Ow.elder' (by (with_reducible repeat (first | apply Ow.alloc | apply Ow.drewN | apply Ow.drew)); exact HO_13.out) (Ow.bas ho0) hb); have n2_ := Aside0.mk (Ow.elder' (by (with_reducible repeat (first | apply Ow.alloc | apply Ow.drewN | apply Ow.drew)); exact HO1802.out) (Ow.bas ho0) hb); have n3_ := Aside0.mk (Ow.lower (Ow.new' (Ow.new' (Ow.new' ho0 (Ow.lt (by (with_reducible repeat (first | apply Ow.alloc | apply Ow.drewN | apply Ow.drew)); exact HO_9.out))) (Ow.lt (by (with_reducible repeat (first | apply Ow.alloc | apply Ow.drewN | apply Ow.drew)); exact HO_13.out))) (Ow.lt (by (with_reducible repeat (first | apply Ow.alloc | apply Ow.drewN | apply Ow.drew)); exact HO1802.out))) (below_size (by repeat (first | (with_reducible first | exact HB.out | apply below_alloc | apply pw_below_drewN | apply below_drew1) | exact HB.out)))); have n4_ := Aside0.mk (below_step (by repeat (first | (with_reducible first | exact HB.out | apply below_alloc | apply pw_below_drewN | apply below_drew1) | exact HB.out)) hb); clear HO_9; clear HO_13; clear HO1802; clear HB; have HO_9 := n0_; have HO_13 := n1_; have HO1802 := n2_; have HO1805 := n3_; have HB := n4_; clear n0_ n1_ n2_ n3_ n4_; (try clear hb); (try clear hb2); (try clear hk); (try clear hi); (try clear ho0); obtain ⟨Ao66, co66, eo66⟩ := Ow.slice HO1802.out; subst eo66; obtain ⟨Ao67, co67, eo67⟩ := Ow.slice HO1805.out; subst eo67) | ((with_reducible refine gate_callee (f := 44) rfl ?_); refine goesL_ (some 104) rfl rfl Try.func44 (by kernel_rfl) rfl #[.int .i64 a0, .slice Ao66 t1800.length co66, .slice Ao67 t1803.length co67, .int .i64 a3] rfl (by (try simp only [List.map_toArray, List.map_cons, List.map_nil]); first | done | rfl | (simp only [List.length_drop, List.length_take]; rfl)) ?_; (with_reducible refine (impl_SlideLanes.win kj38 a0 (fun k_ => some k_ = (.slice Ao66 t1800.length co66 : Value).ownBlock) _ _ t1800 (fun k_ => some k_ = (.slice Ao67 t1803.length co67 : Value).ownBlock) _ _ t1803 a3 t1806 t1809 _ ?side1 ?side2 A60.out).mono ?_); (case side1 => exact Ow.V (Ow.tight (HO1802.out))); (case side2 => exact Ow.V (Ow.tight (HO1805.out))); rintro e w68 ⟨v1807, rfl, ho0, hb⟩; refine ⟨_, rfl, ?_⟩; have n0_ := Aside0.mk (Ow.elder' (by (with_reducible repeat (first | apply Ow.alloc | apply Ow.drewN | apply Ow.drew)); exact HO_9.out) (Ow.bas ho0) hb); have n1_ := Aside0.mk (Ow.elder' (by (with_reducible repeat (first | apply Ow.alloc | apply Ow.drewN | apply Ow.drew)); exact HO_13.out) (Ow.bas ho0) hb); have n2_ := Aside0.mk (Ow.elder' (by (with_reducible repeat (first | apply Ow.alloc | apply Ow.drewN | apply Ow.drew)); exact HO1802.out) (Ow.bas ho0) hb); have n3_ := Aside0.mk (Ow.elder' (by (with_reducible repeat (first | apply Ow.alloc | apply Ow.drewN | apply Ow.drew)); exact HO1805.out) (Ow.bas ho0) hb); have n4_ := Aside0.mk (Ow.lower (Ow.new' (Ow.new' (Ow.new' (Ow.new' (Ow.mono (ok' := fun k_ => True) ho0 (fun _ hk_ => trivial)) (Ow.lt (by (with_reducible repeat (first | apply Ow.alloc | apply Ow.drewN | apply Ow.drew)); exact HO_9.out))) (Ow.lt (by (with_reducible repeat (first | apply Ow.alloc | apply Ow.drewN | apply Ow.drew)); exact HO_13.out))) (Ow.lt (by (with_reducible repeat (first | apply Ow.alloc | apply Ow.drewN | apply Ow.drew)); exact HO1802.out))) (Ow.lt (by (with_reducible repeat (first | apply Ow.alloc | apply Ow.drewN | apply Ow.drew)); exact HO1805.out))) (below_size (by repeat (first | (with_reducible first | exact HB.out | apply below_alloc | apply pw_below_drewN | apply below_drew1) | exact HB.out)))); have n5_ := Aside0.mk (below_step (by repeat (first | (with_reducible first | exact HB.out | apply below_alloc | apply pw_below_drewN | apply below_drew1) | exact HB.out)) hb); clear HO_9; clear HO_13; clear HO1802; clear HO1805; clear HB; have HO_9 := n0_; have HO_13 := n1_; have HO1802 := n2_; have HO1805 := n3_; have HO1808 := n4_; have HB := n5_; clear n0_ n1_ n2_ n3_ n4_ n5_; (try clear hb); (try clear hb2); (try clear hk); (try clear hi); (try clear ho0)))
     (try simp only [Act.put, List.setIfInBounds_toArray, List.set_cons_zero, List.set_cons_succ])
     go_cut [115] (fun v115 wc => ∃ (kq : Nat) (x115_60 : Bool), v115 = .bool x115_60 ∧ Aside0 (laws_FnExactSlideLanes.j2 kq t1798 t1797 x115_60 = some r) ∧ Aside0 (kq ≤ kj38) ∧ Aside0 (Ow wc w.heap.size (fun _ => True) (.slice Ao62 t1779.length co62) t1798) ∧ Aside0 (Below w.heap.size w wc))
     case first =>
      have H := HC61.out
      clear HC61
      replace H := Option.bind_eq_some_iff.mp H
      obtain ⟨t1810, A690, H⟩ := H
      try dsimp only at H
      have A69 := Aside0.mk A690
      clear A690
      by_cases c70 : t1810 = true
      ·subst c70
       rw [if_pos rfl] at H
       have H' := Aside0.mk H
       clear H
       obtain ⟨Ao71, co71, eo71⟩ := Ow.slice HO1808.out
       subst eo71
       obtain ⟨Ao72, co72, eo72⟩ := Ow.slice HO_9.out
       subst eo72
       go_wp2_with (first | ((with_reducible refine gate_callee (f := 30) rfl ?_); refine goesL_ (some 109) rfl rfl Try.func30 (by kernel_rfl) rfl #[.slice Ao71 t1806.length co71, .slice Ao72 t1769.length co72] rfl (by (try simp only [List.map_toArray, List.map_cons, List.map_nil]); first | done | rfl | (simp only [List.length_drop, List.length_take]; rfl)) ?_; (with_reducible refine (laws_eqInt64S.calls kj38 _ _ t1806 _ _ t1769 true _ ?side1 ?side2 ?side3 ?side4 A69.out).mono ?_); (case side1 => repeat (first | exact (Ow.reads' HO1808.out).2.2 | (with_reducible refine Kd.C_alloc ?_ _) | (with_reducible refine Kd.C_drewN ?_ _) | (with_reducible refine Kd.C_drew ?_))); (case side2 => exact (Ow.reads' HO1808.out).2.1); (case side3 => repeat (first | exact (Ow.reads' HO_9.out).2.2 | (with_reducible refine Kd.C_alloc ?_ _) | (with_reducible refine Kd.C_drewN ?_ _) | (with_reducible refine Kd.C_drew ?_))); (case side4 => exact (Ow.reads' HO_9.out).2.1); rintro e w' ⟨rfl, ⟨nd, rfl⟩⟩; refine ⟨_, rfl, ?_⟩))
       go_meet
       case rel => exact ⟨_, ((t1809 != t1770)), (by first | rfl | (simp; done) | (simp [*]; done)), H', ⟨by have := HJ12.out; have := HJ38.out; first | omega | exact Nat.le_refl _⟩, ⟨by (with_reducible repeat (first | apply Ow.alloc | apply Ow.drewN | apply Ow.drew)); exact Ow.mono HO_13.out (fun _ hk => trivial)⟩, ⟨by repeat (first | (with_reducible first | exact HB.out | apply below_alloc | apply pw_below_drewN | apply below_drew1) | exact HB.out)⟩⟩
      replace c70 := Bool.eq_false_iff.mpr c70
      subst c70
      rw [if_neg (show ¬ (false = true) by decide)] at H
      exact (laws_FnExactSlideLanes.j2_no H HRT.out).elim
     case rest =>
      clear HC61
      try clear c1
      try clear c2
      try clear p2
      try clear c3
      try clear c4
      try clear c5
      try clear c5b0
      try clear c5b1
      try clear c6
      try clear c6b0
      try clear c6b1
      try clear c7
      try clear c9
      try clear c25
      try clear c28
      try clear c30
      try clear c33
      try clear c35
      try clear c36
      try clear c43
      try clear c44
      try clear c46
      try clear c46b0
      try clear c48
      try clear c53
      try clear c56
      try clear c56b0
      try clear c57
      try clear c57b0
      try clear c57b1
      try clear c70
      try clear p2
      obtain ⟨kq, x115_60, rfl, HA, HJ60, HO_13, HB⟩ := hcut
      have hl13_60 := (Ow.reads' HO_13.out).1
      rw [hl13_60] at HO_13
      (try simp only [hl13_60])
      cases kq with
      | zero => exact absurd HA.out (by simp [laws_FnExactSlideLanes.j2])
      | succ kj60 =>
       have H := HA.out
       clear HA
       simp only [laws_FnExactSlideLanes.j2] at H
       by_cases c75 : x115_60 = true
       ·subst c75
        rw [if_pos rfl] at H
        obtain rfl := Option.some.inj H
        exact absurd HRT.out (by decide)
       replace c75 := Bool.eq_false_iff.mpr c75
       subst c75
       rw [if_neg (show ¬ (false = true) by decide)] at H
       replace H := Option.bind_eq_some_iff.mp H
       obtain ⟨t1811, A760, H⟩ := H
       try dsimp only at H
       have A76 := Aside0.mk A760
       clear A760
       by_cases c77 : t1811 < 0
       ·rw [if_pos c77] at H
        have c77b0 : decide (t1811 < 0) = true := decide_eq_true c77
        clear c77
        obtain rfl := Option.some.inj H
        exact absurd HRT.out (by decide)
       rw [if_neg c77] at H
       have c77b0 : decide (t1811 < 0) = false := decide_eq_false c77
       clear c77
       by_cases c78 : t1811 = t1797
       rotate_left
       ·rw [if_neg c78] at H
        have c78b0 : (t1811 == t1797) = false := beq_eq_false_iff_ne.mpr c78
        have c78b1 : (t1811 != t1797) = true := bne_iff_ne.mpr c78
        obtain rfl := Option.some.inj H
        exact absurd HRT.out (by decide)
       rw [if_pos c78] at H
       have c78b0 : (t1811 == t1797) = true := beq_iff_eq.mpr c78
       have c78b1 : (t1811 != t1797) = false := bne_eq_false_iff_eq.mpr c78
       clear c78
       obtain rfl := Option.some.inj H
       go_wp2_with (first | ((with_reducible refine gate_callee (f := 36) rfl ?_); refine goesL_ (some 118) rfl rfl Try.func36 (by kernel_rfl) rfl #[.slice Ao62 t1798.length co62, .int .i64 1] rfl (by (try simp only [List.map_toArray, List.map_cons, List.map_nil]); first | done | rfl | (simp only [List.length_drop, List.length_take]; rfl)) ?_; (with_reducible refine (laws_heldInt64S.calls kj60 _ _ t1798 1 t1811 _ ?side1 ?side2 A76.out).mono ?_); (case side1 => repeat (first | exact (Ow.reads' HO_13.out).2.2 | (with_reducible refine Kd.C_alloc ?_ _) | (with_reducible refine Kd.C_drewN ?_ _) | (with_reducible refine Kd.C_drew ?_))); (case side2 => exact (Ow.reads' HO_13.out).2.1); rintro e w' ⟨rfl, ⟨nd, rfl⟩⟩; refine ⟨_, rfl, ?_⟩))
       go_ret
       exact ⟨by first | rfl | (simp [errW_none, errW_some] <;> rfl) | (simp [*, errW_none, errW_some] <;> rfl), by repeat (first | (with_reducible first | exact HB.out | apply below_alloc | apply pw_below_drewN | apply below_drew1) | exact HB.out)⟩
/-- THE ONE PURE STATEMENT of laws_FnExactSlideLanes: yours. -/
def laws_FnExactSlideLanes.Pure : Prop := ∀ (a0 : Int) (l1 : List Int) (l2 : List Int) (a3 : Int), (Lit.int .i64 a0).wf = true → l1.length ≤ maxLen → l1.length * 8 ≤ 140737488351232 → (∀ x ∈ l1, (Lit.int .i64 x).wf = true) → l2.length ≤ maxLen → l2.length * 8 ≤ 140737488351232 → (∀ x ∈ l2, (Lit.int .i64 x).wf = true) → (Lit.int .i64 a3).wf = true → ∃ k, laws_FnExactSlideLanes.f k a0 l1 l2 a3 = some true
theorem laws_FnExactSlideLanes.walk (P : laws_FnExactSlideLanes.Pure) (a0 : Int) (a1 : Option Addr) (len1 cap1 : Nat) (z1 : List Int) (a2 : Option Addr) (len2 cap2 : Nat) (z2 : List Int) (a3 : Int) (w : World) (w0 : (Lit.int .i64 a0).wf = true) (w1 : (a1 = none ∧ len1 = 0 ∧ cap1 = 0 ∧ z1 = []) ∨ ∃ x, a1 = some x ∧ len1 ≤ cap1 ∧ cap1 ≤ maxLen ∧ z1.length = cap1 ∧ (∀ i, i < z1.length → w.cell? (x.add i) = some (.int .i64 (z1.getD i 0))) ∧ ∀ n ∈ z1, (Lit.int .i64 n).wf = true) (y1 : len1 * 8 ≤ 140737488351232) (w2 : (a2 = none ∧ len2 = 0 ∧ cap2 = 0 ∧ z2 = []) ∨ ∃ x, a2 = some x ∧ len2 ≤ cap2 ∧ cap2 ≤ maxLen ∧ z2.length = cap2 ∧ (∀ i, i < z2.length → w.cell? (x.add i) = some (.int .i64 (z2.getD i 0))) ∧ ∀ n ∈ z2, (Lit.int .i64 n).wf = true) (y2 : len2 * 8 ≤ 140737488351232) (w3 : (Lit.int .i64 a3).wf = true) :
  Calls Try.prog 9 #[.int .i64 a0, .slice a1 len1 cap1, .slice a2 len2 cap2, .int .i64 a3] w fun e w' => e = .returned (.bool true) ∧ Below w.heap.size w w' := by
 obtain ⟨l1, rfl, hr1, hm1, hw1, hc1⟩ := ReadsInt.ofRowC w1
 obtain ⟨l2, rfl, hr2, hm2, hw2, hc2⟩ := ReadsInt.ofRowC w2
 obtain ⟨k, h⟩ := P a0 l1 l2 a3 w0 hm1 y1 hw1 hm2 y2 hw2 w3
 refine (laws_FnExactSlideLanes.calls k a0 _ _ l1 _ _ l2 a3 true w (Kd.C_of_reads (d := (0 : Int)) (h1 := fun _ => rfl) hr1) hc1 (Kd.C_of_reads (d := (0 : Int)) (h1 := fun _ => rfl) hr2) hc2 h rfl).mono ?_
 rintro e w' ⟨rfl, hd⟩
 exact ⟨rfl, hd⟩

end Go.Proofs.Ytpcjjminopdofaa.K
