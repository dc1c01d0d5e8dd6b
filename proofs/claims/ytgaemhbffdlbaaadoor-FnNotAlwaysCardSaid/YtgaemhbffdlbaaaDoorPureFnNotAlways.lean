/- For all arguments the law FnNotAlways answers true. No condition. -/
import Derived.Test.YtgaemhbffdlbaaaDoorK1
import Derived.Test.YtgaemhbffdlbaaaDoorK10
import Derived.Test.YtgaemhbffdlbaaaDoorK7
import Derived.Test.YtgaemhbffdlbaaaDoorK8
import Derived.Test.YtgaemhbffdlbaaaDoorK9
import Derived.Test.YtgaemhbffdlbaaaDoorV0
import Derived.Test.YtgaemhbffdlbaaaDoorVA
import Derived.Test.YtgaemhbffdlbaaaDoorV0
import Derived.Test.YtgaemhbffdlbaaaDoorVA
namespace Go.Proofs.YtgaemhbffdlbaaaDoor.Pure
open Go.RowKit Go.Proofs.YtgaemhbffdlbaaaDoor.K Go.Proofs.YtgaemhbffdlbaaaDoor.V Go.Proofs.YtgaemhbffdlbaaaDoor.Bx Go.Proofs.YtgaemhbffdlbaaaDoorW.PrintWords Go.Proofs.YtgaemhbffdlbaaaDoorW.PrintLast
set_option linter.unusedVariables false
set_option linter.unusedSimpArgs false

/-- The order of two words does not matter; brackets do not matter. -/
def ordF (op : Int) (a b : Nat) : Bool := res op 4 (a : Int) (b : Int) == res op 4 (b : Int) (a : Int)
def brkF (op : Int) (a b c : Nat) : Bool := res op 4 (res op 4 (a : Int) (b : Int)) (c : Int) == res op 4 (a : Int) (res op 4 (b : Int) (c : Int))
def ordTo (op : Int) (N : Nat) : Bool := (List.range N).all fun i => ordF op (i / 16) (i % 16)
def brkTo (op : Int) (N : Nat) : Bool := (List.range N).all fun i => brkF op (i / 256) (i / 16 % 16) (i % 16)
theorem ordTo_succ (op : Int) (N : Nat) : ordTo op (N + 1) = (ordTo op N && ordF op (N / 16) (N % 16)) := by unfold ordTo; rw [List.range_succ, List.all_append]; simp
theorem brkTo_succ (op : Int) (N : Nat) : brkTo op (N + 1) = (brkTo op N && brkF op (N / 256) (N / 16 % 16) (N % 16)) := by unfold brkTo; rw [List.range_succ, List.all_append]; simp
theorem wd {n : Nat} (h : n < 16) : Word 4 (n : Int) := ⟨Or.inl rfl, by omega, by rw [M4]; omega⟩
theorem do4 {op x y : Int} (ho : OpOk op) (hx : Word 4 x) (hy : Word 4 y) : impl_DoOp.f op 4 x y = some (res op 4 x y, true) := by
  rw [iDoOp]
  unfold doOp
  rw [if_pos ⟨ho, hx, hy⟩]
theorem ord_comm {op : Int} (h : Comm op) : ordTo op 256 = true := by
  unfold ordTo
  rw [List.all_eq_true]
  intro i hi
  have := List.mem_range.mp hi
  unfold ordF
  rw [res_comm h (wd (by omega)) (wd (by omega))]
  exact beq_self_eq_true _
theorem brk_assoc {op : Int} (h : Assoc op) : brkTo op 4096 = true := by
  unfold brkTo
  rw [List.all_eq_true]
  intro i hi
  have := List.mem_range.mp hi
  unfold brkF
  rw [res_assoc h (wd (by omega)) (wd (by omega)) (wd (by omega))]
  exact beq_self_eq_true _
theorem ord_no {op : Int} (N : Nat) (hN : N < 256) (h : ordF op (N / 16) (N % 16) = false) : ordTo op 256 = false := by
  unfold ordTo
  rw [List.all_eq_false]
  exact ⟨N, List.mem_range.mpr hN, by rw [h]; decide⟩
theorem brk_no {op : Int} (N : Nat) (hN : N < 4096) (h : brkF op (N / 256) (N / 16 % 16) (N % 16) = false) : brkTo op 4096 = false := by
  unfold brkTo
  rw [List.all_eq_false]
  exact ⟨N, List.mem_range.mpr hN, by rw [h]; decide⟩
/-- What is told of an operation is so. -/
theorem good {op : Int} (ho : OpOk op) : ordTo op 256 = decide (op = 0 ∨ op = 14 ∨ (2 ≤ op ∧ op ≤ 11)) ∧ ((op = 0 ∨ (2 ≤ op ∧ op ≤ 10)) → brkTo op 4096 = true) ∧ (¬ (op = 0 ∨ (2 ≤ op ∧ op ≤ 10)) → brkTo op 4096 = true → ordTo op 256 = false) := by
  obtain ⟨h0, h1⟩ := ho
  refine ⟨?_, fun h => brk_assoc h, fun hn hb => ?_⟩
  · by_cases hc : op = 0 ∨ op = 14 ∨ (2 ≤ op ∧ op ≤ 11)
    · rw [decide_eq_true hc]; exact ord_comm hc
    · rw [decide_eq_false hc]
      have : op = 1 ∨ op = 12 ∨ op = 13 ∨ op = 15 ∨ op = 16 ∨ op = 17 := by omega
      rcases this with rfl | rfl | rfl | rfl | rfl | rfl
      · exact ord_no 1 (by decide) (by decide)
      · exact ord_no 1 (by decide) (by decide)
      · exact ord_no 1 (by decide) (by decide)
      · exact ord_no 1 (by decide) (by decide)
      · exact ord_no 1 (by decide) (by decide)
      · exact ord_no 1 (by decide) (by decide)
  · have : op = 11 ∨ op = 14 ∨ op = 1 ∨ op = 12 ∨ op = 13 ∨ op = 15 ∨ op = 16 ∨ op = 17 := by omega
    rcases this with rfl | rfl | rfl | rfl | rfl | rfl | rfl | rfl
    · rw [brk_no (7 * 256 + 1 * 16 + 15) (by decide) (by decide)] at hb; cases hb
    · rw [brk_no 15 (by decide) (by decide)] at hb; cases hb
    · exact ord_no 1 (by decide) (by decide)
    · exact ord_no 1 (by decide) (by decide)
    · exact ord_no 1 (by decide) (by decide)
    · exact ord_no 1 (by decide) (by decide)
    · exact ord_no 1 (by decide) (by decide)
    · exact ord_no 1 (by decide) (by decide)
theorem opIdx : ∀ j : Nat, j < 18 → Lib.idxOfS opS (opS.getD j ByteArray.empty) = (j : Int) := by decide +kernel
theorem endOk {op : Int} (ho : OpOk op) : Ev (fun k => laws_FnNotAlways.l0 k op (ordTo op 256) (brkTo op 4096) 16) true := by
  obtain ⟨g1, g2, g3⟩ := good ho
  obtain ⟨j, rfl⟩ := Int.eq_ofNat_of_zero_le ho.1
  have hj : j < 18 := by have := ho.2; omega
  have e1 : impl_OpText.f (j : Int) = some (opS.getD j ByteArray.empty, true) := by
    unfold impl_OpText.f
    rw [if_pos (show 0 ≤ (j : Int) ∧ (j : Int) ≤ 17 from ho), Int.toNat_natCast]
  have e2 : ∀ k, impl_ReadOp.f k (opS.getD j ByteArray.empty) = some ((j : Int), true) := fun k => by
    unfold impl_ReadOp.f
    rw [opIdx j hj, if_neg (by omega)]
  refine Ev.step (f := fun _ => some true) (fun k => ?_) (Ev.now _)
  simp only [laws_FnNotAlways.l0]
  rw [if_neg (by omega), e1, Option.bind_some, e2, Option.bind_some, if_pos rfl, if_pos rfl, if_pos rfl, iComm, Option.bind_some, if_pos (by rw [g1]; exact beq_self_eq_true _), iAssoc, Option.bind_some]
  by_cases ha : (j : Int) = 0 ∨ (2 ≤ (j : Int) ∧ (j : Int) ≤ 10)
  · rw [g2 ha, if_pos rfl, if_pos (decide_eq_true ha)]
  · have hf : ¬ decide ((j : Int) = 0 ∨ (2 ≤ (j : Int) ∧ (j : Int) ≤ 10)) = true := by rw [decide_eq_false ha]; decide
    cases hb : brkTo (j : Int) 4096 with
    | true =>
      rw [if_pos rfl, if_neg hf, g3 ha hb]; rfl
    | false =>
      rw [if_neg (by decide), Option.bind_some, if_neg hf, Option.bind_some, if_neg hf]
theorem l2_ok {op : Int} (ho : OpOk op) {a b : Nat} (ha : a < 16) (hb : b < 16) (x6 : Bool)
    (hE : Ev (fun k => laws_FnNotAlways.l1 k op x6 (brkTo op (256 * a + 16 * (b + 1))) (a : Int) ((b + 1 : Nat) : Int)) true) :
    ∀ d c : Nat, c + d = 16 → Ev (fun k => laws_FnNotAlways.l2 k op x6 (brkTo op (256 * a + 16 * b + c)) (a : Int) (b : Int) (res op 4 (a : Int) (b : Int)) (c : Int)) true := by
  intro d
  induction d with
  | zero =>
    intro c hc
    obtain rfl : c = 16 := by omega
    refine Ev.step (fun k => ?_) hE
    simp only [laws_FnNotAlways.l2]
    rw [if_neg (by omega), w1 (by omega), show 256 * a + 16 * b + 16 = 256 * a + 16 * (b + 1) by omega]
  | succ d ih =>
    intro c hc
    have hc16 : c < 16 := by omega
    have hab := res_word (op := op) (wd ha) (wd hb)
    have hbc := res_word (op := op) (wd hb) (wd hc16)
    refine Ev.step (f := fun k => laws_FnNotAlways.l2 k op x6 (brkTo op (256 * a + 16 * b + (c + 1))) (a : Int) (b : Int) (res op 4 (a : Int) (b : Int)) ((c + 1 : Nat) : Int)) (fun k => ?_) (ih (c + 1) (by omega))
    simp only [laws_FnNotAlways.l2]
    rw [if_pos (by omega), do4 ho hab (wd hc16), Option.bind_some, do4 ho (wd hb) (wd hc16), Option.bind_some, do4 ho (wd ha) hbc, Option.bind_some, if_pos rfl, if_pos rfl, if_pos rfl, w1 (by omega)]
    have e : brkTo op (256 * a + 16 * b + (c + 1)) = (brkTo op (256 * a + 16 * b + c) && brkF op a b c) := by
      rw [← Nat.add_assoc, brkTo_succ, show (256 * a + 16 * b + c) / 256 = a by omega, show (256 * a + 16 * b + c) / 16 % 16 = b by omega, show (256 * a + 16 * b + c) % 16 = c by omega]
    cases hx : brkTo op (256 * a + 16 * b + c) with
    | true => rw [if_pos rfl, e, hx, Bool.true_and]; rfl
    | false => rw [if_neg (by decide), e, hx, Bool.false_and]
theorem l1_ok {op : Int} (ho : OpOk op) {a : Nat} (ha : a < 16)
    (hE : Ev (fun k => laws_FnNotAlways.l0 k op (ordTo op (16 * (a + 1))) (brkTo op (256 * (a + 1))) ((a + 1 : Nat) : Int)) true) :
    ∀ d b : Nat, b + d = 16 → Ev (fun k => laws_FnNotAlways.l1 k op (ordTo op (16 * a + b)) (brkTo op (256 * a + 16 * b)) (a : Int) (b : Int)) true := by
  intro d
  induction d with
  | zero =>
    intro b hb
    obtain rfl : b = 16 := by omega
    refine Ev.step (fun k => ?_) hE
    simp only [laws_FnNotAlways.l1]
    rw [if_neg (by omega), w1 (by omega), show 16 * a + 16 = 16 * (a + 1) by omega, show 256 * a + 16 * 16 = 256 * (a + 1) by omega]
  | succ d ih =>
    intro b hb
    have hb16 : b < 16 := by omega
    have e : ordTo op (16 * a + (b + 1)) = (ordTo op (16 * a + b) && ordF op a b) := by
      rw [← Nat.add_assoc, ordTo_succ, show (16 * a + b) / 16 = a by omega, show (16 * a + b) % 16 = b by omega]
    have h2 := l2_ok ho ha hb16 (ordTo op (16 * a + (b + 1))) (ih (b + 1) (by omega)) 16 0 (by omega)
    rw [Nat.add_zero] at h2
    refine Ev.step (f := fun k => laws_FnNotAlways.j2 k op (ordTo op (16 * a + b)) (brkTo op (256 * a + 16 * b)) (a : Int) (b : Int) (res op 4 (a : Int) (b : Int)) (res op 4 (b : Int) (a : Int)) false) (fun k => ?_) ?_
    · simp only [laws_FnNotAlways.l1]
      rw [if_pos (by omega), do4 ho (wd ha) (wd hb16), Option.bind_some, do4 ho (wd hb16) (wd ha), Option.bind_some, if_pos rfl]; rfl
    · refine Ev.step (f := fun k => laws_FnNotAlways.j3 k op (ordTo op (16 * a + (b + 1))) (brkTo op (256 * a + 16 * b)) (a : Int) (b : Int) (res op 4 (a : Int) (b : Int))) (fun k => ?_) ?_
      · simp only [laws_FnNotAlways.j2]
        rw [if_neg (fun h => nomatch h), e]
        cases hx : ordTo op (16 * a + b) with
        | true => rw [if_pos rfl, Bool.true_and]; rfl
        | false => rw [if_neg (by decide), Bool.false_and]
      · exact Ev.step (fun k => by simp only [laws_FnNotAlways.j3]; rfl) h2
theorem l0_ok {op : Int} (ho : OpOk op) : ∀ d a : Nat, a + d = 16 → Ev (fun k => laws_FnNotAlways.l0 k op (ordTo op (16 * a)) (brkTo op (256 * a)) (a : Int)) true := by
  intro d
  induction d with
  | zero =>
    intro a ha
    obtain rfl : a = 16 := by omega
    exact endOk ho
  | succ d ih =>
    intro a ha
    have h1 := l1_ok ho (a := a) (by omega) (ih (a + 1) (by omega)) 16 0 (by omega)
    rw [Nat.add_zero, Nat.mul_zero, Nat.add_zero] at h1
    refine Ev.step (fun k => ?_) h1
    simp only [laws_FnNotAlways.l0]
    rw [if_pos (by omega)]; rfl
theorem FnNotAlways : laws_FnNotAlways.Pure := by
  intro c0 c1 _ _ h0 _ _ h1
  refine Ev.rounds (g := fun k => laws_FnNotAlways.f k c0 c1) ?_
  have hs0 := bytes_of h0
  unfold laws_FnNotAlways.f laws_b10Long.f
  by_cases hl0 : (c0.length : Int) > 1048576
  · rw [if_pos hl0]
    exact ev_some (ev_if rfl (Ev.now _))
  rw [if_neg hl0]
  by_cases hl1 : (c1.length : Int) > 1048576
  · rw [decide_eq_true hl1]
    exact ev_some (ev_if rfl (Ev.now _))
  rw [decide_eq_false hl1]
  obtain ⟨op, e, h0, h1⟩ := V.b10At hs0 0 18 (by omega) (by omega)
  refine ev_some (ev_else (by decide) (ev_eq e ?_))
  have := l0_ok (op := op) ⟨h0, by omega⟩ 16 0 (by omega)
  exact this
end Go.Proofs.YtgaemhbffdlbaaaDoor.Pure
