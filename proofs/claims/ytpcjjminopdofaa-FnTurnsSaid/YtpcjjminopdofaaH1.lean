/- The library's Grow and Concat over lists of int64. Conditions: some elements, fewer than 1048576. -/
import Derived.Test.YtpcjjminopdofaaH0
namespace Go.Proofs.Ytpcjjminopdofaa.K
open Go.RowKit Go.Proofs.YtpcjjminopdofaaW.PrintWords Go.Proofs.YtpcjjminopdofaaW.PrintLast Go.Proofs.YtpcjjminopdofaaW.PrintMore Go.Proofs.Ytpcjjminopdofaa.Bx Go.Shelf
set_option linter.unusedVariables false
set_option linter.unusedSimpArgs false

set_option maxHeartbeats 4000000 in
set_option maxRecDepth 100000 in
theorem growNil (n : Nat) (h0 : 0 < n) (h1 : n < 1048576) (w : World) :
    Calls Try.prog 154 #[.slice none 0 0, .int .i64 (n : Int)] w fun e w' => ∃ v0_ : Value, e = .returned v0_ ∧ Kd.R (Kd.int .i64) 2 w' w.heap.size (fun _ => True) v0_ ([] : List Int) ∧ Below w.heap.size w w' := by
  have HB := Aside0.mk (Below.refl w.heap.size w)
  have HN := Aside0.mk h1
  have g1 : decide ((n : Int) < 0) = false := decide_eq_false (by omega)
  have g2 : decide (0 < (n : Int)) = true := decide_eq_true (by omega)
  have g3 : decide (0 < n) = true := decide_eq_true h0
  have e1 : wrap64 (n : Int) = (n : Int) := w_small (by omega)
  clear h0 h1
  go_enter Try.func154, Try.ntmps154
  go_wp2_with (first | (at_builtin; go_loud ( refine Kd.R_append_zeros (Kd.int .i64) (w0 := w) w.heap.size rfl (.tmp 20) (.tmp 21) 22 3 2 (.int .i64 0) 8 rfl Try.underlying22 Try.underlying3 info2 rfl (by decide) (by omega) (.slice none 0 0) ([] : List Int) 0 _ (fun _ => True) rfl rfl rfl ?aF ?aO (by rw [e1]; exact Int.natCast_nonneg _) ?aB ?aS ?aL ?_; (case aF => exact fun _ _ => trivial); (case aO => exact Kd.R_nil _ _ _ _ _); (case aB => repeat (first | exact HB.out | apply below_alloc | apply pw_below_drewN | apply below_drew1)); (case aS => exact below_size (by repeat (first | exact HB.out | apply below_alloc | apply pw_below_drewN | apply below_drew1))); (case aL => have := HN.out; rw [e1]; simp; omega); intro v w1 ho hb hg hat; clear hg hat; obtain ⟨Av, cv, rfl⟩ := Kd.R_slice ho; have HO := Aside0.mk ho; have HB2 := Aside0.mk hb; clear ho hb)))
  go_ret
  exact ⟨_, rfl, Kd.R_take (m := 0) HO.out (Nat.zero_le _), HB2.out⟩
theorem rd_flat (ls : List (List Int)) (j : Nat) (h : j < ls.length) : (ls.take (j + 1)).flatten = (ls.take j).flatten ++ rd_L1 ls (j : Int) := by
  rw [List.take_succ_eq_append_getElem h, List.flatten_append]
  unfold rd_L1
  rw [Int.toNat_natCast, List.getD_eq_getElem?_getD, List.getElem?_eq_getElem h]
  simp
theorem flat_le (ls : List (List Int)) (j : Nat) : (ls.take j).flatten.length ≤ ls.flatten.length := by
  have e := congrArg (fun x : List (List Int) => x.flatten.length) (List.take_append_drop j ls)
  simp only [List.flatten_append, List.length_append] at e
  omega
set_option maxHeartbeats 8000000 in
set_option maxRecDepth 100000 in
theorem concat_c (ls : List (List Int)) (A : Option Addr) (c : Nat) (w : World) (hr : Kd.C (Kd.slice 2 (Kd.int .i64)) w A ls.length ls) (hc : ls.length ≤ c) (h1 : 0 < ls.flatten.length) (h2 : ls.flatten.length < 1048576) (h3 : ls.length < 1048576) :
    Calls Try.prog 108 #[.slice A ls.length c] w fun e w' => ∃ v0_ : Value, e = .returned v0_ ∧ Kd.R (Kd.int .i64) 2 w' w.heap.size (fun _ => True) v0_ ls.flatten ∧ Below w.heap.size w w' := by
  have HR := Aside0.mk hr
  have HF := Aside0.mk h2
  have HP := Aside0.mk h1
  have HN := Aside0.mk h3
  clear hr h1 h2 h3
  go_enter Try.func108, Try.ntmps108
  go_wp2
  go_loopg [3, 11] ls.length (fun kq v3 v11 w' => ∃ (x : Int) (s : Int), v3 = .int .i64 s ∧ v11 = .int .i64 x ∧ Aside0 (0 ≤ x ∧ x ≤ ls.length) ∧ Aside0 (s = ((ls.take x.toNat).flatten.length : Int)) ∧ Aside0 (ls.length - x.toNat ≤ kq) ∧ Drawn0 w w')
  case atStart => exact ⟨0, 0, rfl, rfl, ⟨by omega⟩, ⟨by simp⟩, ⟨by simp⟩, by repeat (first | exact Drawn0.refl _ | apply Drawn0.step)⟩
  case round =>
    obtain ⟨x, s, rfl, rfl, H0, HS, HK, ⟨m1, rfl⟩⟩ := hrel
    by_cases c8 : x < (ls.length : Int)
    · have c8b0 : decide (x < (ls.length : Int)) = true := decide_eq_true c8
      have hx0 := H0.out.1
      obtain ⟨j, rfl⟩ : ∃ j : Nat, x = j := ⟨x.toNat, by omega⟩
      have hj : j < ls.length := by omega
      have hf := rd_flat ls j hj
      have hle := flat_le ls (j + 1)
      obtain ⟨ad, A0, c0, e, hx, hl0, hC0⟩ := at_L1 HR.out (j : Int) hx0 c8
      cases e
      rw [Int.toNat_natCast] at hx
      have hz := congrArg List.length hf
      rw [List.length_append] at hz
      have hs := HS.out
      rw [Int.toNat_natCast] at hs
      have hF := HF.out
      have es : wrap64 (s + ((rd_L1 ls (j : Int)).length : Int)) = (((ls.take (j + 1)).flatten.length : Nat) : Int) := by rw [w_small (by omega)]; omega
      have g1 : decide ((((ls.take (j + 1)).flatten.length : Nat) : Int) < 0) = false := decide_eq_false (by omega)
      have g1b : decide (wrap64 (s + ((rd_L1 ls (j : Int)).length : Int)) < 0) = false := by rw [es]; exact g1
      have g2 : decide (0 ≤ (j : Int)) = true := decide_eq_true hx0
      have ew : wrap64 ((j : Int) + 1) = ((j + 1 : Nat) : Int) := by have := HN.out; unfold wrap64; omega
      have HJ := Aside0.mk hj
      have ES := Aside0.mk es
      have EW := Aside0.mk ew
      clear hj hf hle hz hs hF es ew
      go_wp2
      go_roundg (ls.length - (j + 1))
      case measure => have := HK.out; have := HJ.out; omega
      case rel => exact ⟨((j + 1 : Nat) : Int), (((ls.take (j + 1)).flatten.length : Nat) : Int), by first | rfl | rw [ES.out], by first | rfl | rw [EW.out], ⟨by have := HJ.out; omega⟩, ⟨by simp⟩, ⟨by have := HJ.out; omega⟩, by repeat (first | exact Drawn0.refl _ | apply Drawn0.step)⟩
    · have c8b0 : decide (x < (ls.length : Int)) = false := decide_eq_false c8
      obtain ⟨N, hN⟩ : ∃ N : Nat, N = ls.flatten.length := ⟨_, rfl⟩
      have hs : s = (N : Int) := by rw [HS.out, List.take_of_length_le (by omega), hN]
      have HP2 : Aside0 (0 < N) := ⟨by rw [hN]; exact HP.out⟩
      have HF3 : Aside0 (N < 1048576) := ⟨by rw [hN]; exact HF.out⟩
      subst hs
      clear hN
      clear HS c8
      have HB : Aside0 (Below w.heap.size w (w.drewN m1)) := ⟨pw_below_drewN (Below.refl _ _) _⟩
      go_wp2_with (first | (go_at_call 154; refine (growNil N HP2.out HF3.out _).mono ?_; rintro e w2 ⟨v, rfl, ho, hb⟩; have HO : Aside0 (Kd.R (Kd.int .i64) 2 w2 w.heap.size (fun _ => True) v ([] : List Int)) := ⟨Kd.R_lower ho (below_size (by repeat (first | exact HB.out | apply below_alloc | apply pw_below_drewN | apply below_drew1)))⟩; have HB2 : Aside0 (Below w.heap.size w w2) := ⟨below_step (by repeat (first | exact HB.out | apply below_alloc | apply pw_below_drewN | apply below_drew1)) hb⟩; clear ho hb HB; have HB := HB2; clear HB2))
      go_loopg [6, 27] ls.length (fun kq v6 v27 w' => ∃ (y : Int) (acc : List Int), v27 = .int .i64 y ∧ Aside0 (0 ≤ y ∧ y ≤ ls.length) ∧ Aside0 (acc = (ls.take y.toNat).flatten) ∧ Aside0 (ls.length - y.toNat ≤ kq) ∧ Aside0 (Kd.R (Kd.int .i64) 2 w' w.heap.size (fun _ => True) v6 acc) ∧ Aside0 (Below w.heap.size w w'))
      case atStart => exact ⟨0, [], rfl, ⟨by omega⟩, ⟨by simp⟩, ⟨by simp⟩, ⟨by (with_reducible repeat (first | apply Kd.R_alloc | apply Kd.R_drewN | apply Kd.R_drew)); exact HO.out⟩, ⟨by repeat (first | exact HB.out | apply below_alloc | apply pw_below_drewN | apply below_drew1)⟩⟩
      case round =>
        clear HB HO
        obtain ⟨y, acc, rfl, H1, HA, HK2, HO, HB⟩ := hrel
        obtain ⟨Ao, co, eo⟩ := Kd.R_slice HO.out
        subst eo
        by_cases d8 : y < (ls.length : Int)
        · have d8b0 : decide (y < (ls.length : Int)) = true := decide_eq_true d8
          have hx0 := H1.out.1
          obtain ⟨j, rfl⟩ : ∃ j : Nat, y = j := ⟨y.toNat, by omega⟩
          have hj : j < ls.length := by omega
          have hf := rd_flat ls j hj
          have hle := flat_le ls (j + 1)
          obtain ⟨ad, A0, c0, e, hx, hl0, hC0⟩ := at_L1 (Kd.C_below HR.out HB.out) (j : Int) hx0 d8
          cases e
          rw [Int.toNat_natCast] at hx
          have ha := HA.out
          rw [Int.toNat_natCast] at ha
          have hz := congrArg List.length hf
          rw [List.length_append] at hz
          obtain ⟨nx, hnx⟩ : ∃ nx : List Int, nx = (ls.take (j + 1)).flatten := ⟨_, rfl⟩
          have HF2 : Aside0 (acc ++ rd_L1 ls (j : Int) = nx) := ⟨by rw [hnx, hf, ha]⟩
          have NX := Aside0.mk hnx
          have HL : Aside0 (acc.length + (rd_L1 ls (j : Int)).length < 1048576) := ⟨by have := HF.out; rw [ha]; omega⟩
          have g2 : decide (0 ≤ (j : Int)) = true := decide_eq_true hx0
          have ew : wrap64 ((j : Int) + 1) = ((j + 1 : Nat) : Int) := by have := HN.out; unfold wrap64; omega
          have HJ := Aside0.mk hj
          have EW := Aside0.mk ew
          have HC0 := Aside0.mk hC0
          clear hj hf hle hz ew ha hC0 hnx HA
          go_wp2_with (first | (at_builtin; refine Kd.R_append_rows (Kd.int .i64) (w0 := w) w.heap.size rfl (.tmp 31) (.tmp 32) 22 2 (.int .i64 0) 8 rfl Try.underlying22 info2 rfl (by decide) (by omega) (.slice Ao acc.length co) acc (rd_L1 ls (j : Int)) _ _ _ (fun _ => True) (fun _ => False) rfl rfl ?aO ?aR (fun _ _ h => h) (fun _ h => h.elim) ?aF ?aB ?aS ?aL ?_; (case aR => repeat (first | exact HC0.out | (with_reducible refine Kd.C_alloc ?_ _) | (with_reducible refine Kd.C_drewN ?_ _) | (with_reducible refine Kd.C_drew ?_))); (case aB => repeat (first | exact HB.out | apply below_alloc | apply pw_below_drewN | apply below_drew1)); (case aF => exact (fun _ _ => trivial)); (case aO => (with_reducible repeat (first | apply Kd.R_alloc | apply Kd.R_drewN | apply Kd.R_drew)); exact HO.out); (case aS => exact (below_size (by repeat (first | exact HB.out | apply below_alloc | apply pw_below_drewN | apply below_drew1)))); (case aL => have := HL.out; omega); intro v623 w5 ho hb hg hat; rw [HF2.out] at ho; have n0_ := Aside0.mk hb; have n1_ := Aside0.mk ho; clear HB HO; have HB := n0_; have HO := n1_; clear n0_ n1_; clear ho hb hg hat))
          go_roundg (ls.length - (j + 1))
          case measure => have := HK2.out; have := HJ.out; omega
          case rel => exact ⟨((j + 1 : Nat) : Int), nx, by first | rfl | rw [EW.out], ⟨by have := HJ.out; omega⟩, ⟨by rw [NX.out, Int.toNat_natCast]⟩, ⟨by have := HJ.out; omega⟩, ⟨by (with_reducible repeat (first | apply Kd.R_alloc | apply Kd.R_drewN | apply Kd.R_drew)); exact HO.out⟩, ⟨by repeat (first | exact HB.out | apply below_alloc | apply pw_below_drewN | apply below_drew1)⟩⟩
        · have d8b0 : decide (y < (ls.length : Int)) = false := decide_eq_false d8
          have ha : acc = ls.flatten := by rw [HA.out, List.take_of_length_le (by omega)]
          have HAA := Aside0.mk ha
          clear HA d8 ha
          go_wp2
          go_ret
          exact ⟨_, rfl, by rw [← HAA.out]; (with_reducible repeat (first | apply Kd.R_alloc | apply Kd.R_drewN | apply Kd.R_drew)); exact HO.out, by repeat (first | exact HB.out | apply below_alloc | apply pw_below_drewN | apply below_drew1)⟩
end Go.Proofs.Ytpcjjminopdofaa.K
