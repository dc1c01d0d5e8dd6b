/- Sets of cells in plain Lean: a number put among rising ones. No condition. -/
import Derived.Test.YteknfebehafbdaaK0
import Derived.Test.YteknfebehafbdaaH4
import Derived.Test.YteknfebehafbdaaV0

namespace Go.Proofs.Yteknfebehafbdaa.V
open Go.RowKit Go.Proofs.Yteknfebehafbdaa.K Go.Proofs.Yteknfebehafbdaa.Bx Go.Proofs.YteknfebehafbdaaW.PrintWords Go.Proofs.YteknfebehafbdaaW.PrintLast
set_option linter.unusedVariables false
set_option linter.unusedSimpArgs false

/-- A number put to its place among rising ones, once. -/
def ins (n : Int) : List Int → List Int
  | [] => [n]
  | x :: l => if x < n then x :: ins n l else if x = n then x :: l else n :: x :: l
theorem ins_front {n : Int} {l : List Int} (h : ∀ x ∈ l, n < x) : ins n l = n :: l := by
  cases l with
  | nil => rfl
  | cons x l =>
    have := h x List.mem_cons_self
    unfold ins
    rw [if_neg (by omega), if_neg (by omega)]
/-- The marked cells from a on. -/
def setFrom (m : Nat → Bool) (a c : Nat) : List Int := ((List.range' a c).filter m).map fun (i : Nat) => (i : Int)
theorem setFrom_ge {m : Nat → Bool} {a c : Nat} : ∀ x ∈ setFrom m a c, (a : Int) ≤ x := by
  intro x hx
  unfold setFrom at hx
  obtain ⟨i, hi, rfl⟩ := List.mem_map.mp hx
  have := List.mem_range'.mp (List.mem_filter.mp hi).1
  obtain ⟨j, _, rfl⟩ := this
  omega
theorem setFrom_t {m : Nat → Bool} {a : Nat} (c : Nat) (h : m a = true) : setFrom m a (c + 1) = (a : Int) :: setFrom m (a + 1) c := by
  unfold setFrom
  rw [List.range'_succ, List.filter_cons_of_pos h]; rfl
theorem setFrom_f {m : Nat → Bool} {a : Nat} (c : Nat) (h : m a = false) : setFrom m a (c + 1) = setFrom m (a + 1) c := by
  unfold setFrom
  rw [List.range'_succ, List.filter_cons_of_neg (by rw [h]; decide)]
theorem setFrom_put {m : Nat → Bool} {n : Int} (b : Bool) (c a : Nat) (h : n < (a : Int)) : setFrom (put m n b) a c = setFrom m a c := by
  unfold setFrom
  congr 1
  refine List.filter_congr fun x hx => ?_
  obtain ⟨j, _, rfl⟩ := List.mem_range'.mp hx
  unfold put
  rw [if_neg (by omega)]
theorem ins_from (m : Nat → Bool) (n : Int) : ∀ c a : Nat, (a : Int) ≤ n → n < (a : Int) + (c : Int) → ins n (setFrom m a c) = setFrom (put m n true) a c := by
  intro c
  induction c with
  | zero => intro a h0 h1; omega
  | succ c ih =>
    intro a h0 h1
    by_cases ha : (a : Int) = n
    · have hp : put m n true a = true := by unfold put; rw [if_pos ha]
      rw [setFrom_t c hp, setFrom_put true c (a + 1) (by omega)]
      cases hm : m a with
      | true =>
        rw [setFrom_t c hm]
        unfold ins
        rw [if_neg (by omega), if_pos ha]
      | false =>
        rw [setFrom_f c hm, ins_front, ha]
        intro x hx
        have := setFrom_ge x hx
        omega
    · have hp : put m n true a = m a := by unfold put; rw [if_neg ha]
      cases hm : m a with
      | true =>
        rw [setFrom_t c hm, setFrom_t c (by rw [hp, hm]), ← ih (a + 1) (by omega) (by omega)]
        conv => lhs; unfold ins
        rw [if_pos (by omega)]
      | false =>
        rw [setFrom_f c hm, setFrom_f c (by rw [hp, hm])]
        exact ih (a + 1) (by omega) (by omega)
theorem setTo_from (m : Nat → Bool) (x : Nat) : setTo m x = setFrom m 0 x := by
  unfold setTo setFrom
  rw [List.range_eq_range']
theorem ins_set (m : Nat → Bool) {n : Int} (h0 : 0 ≤ n) (h1 : n ≤ 31) : ins n (setTo m 32) = setTo (put m n true) 32 := by
  rw [setTo_from, setTo_from]
  exact ins_from m n 32 0 (by omega) (by omega)
theorem set_has (m : Nat → Bool) {n : Int} (h0 : 0 ≤ n) (h1 : n ≤ 31) : (setTo m 32).any (fun x => decide (x = n)) = m n.toNat := by
  rw [Bool.eq_iff_iff, List.any_eq_true]
  unfold setTo
  constructor
  · rintro ⟨x, hx, he⟩
    obtain ⟨i, hi, rfl⟩ := List.mem_map.mp hx
    have := of_decide_eq_true he
    rw [← this, Int.toNat_natCast]
    exact (List.mem_filter.mp hi).2
  · intro h
    refine ⟨n, List.mem_map.mpr ⟨n.toNat, List.mem_filter.mpr ⟨List.mem_range.mpr (by omega), h⟩, by omega⟩, by simp⟩
end Go.Proofs.Yteknfebehafbdaa.V
