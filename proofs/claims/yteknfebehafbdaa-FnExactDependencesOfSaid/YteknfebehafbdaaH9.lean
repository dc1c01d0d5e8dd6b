/- All pairs of statements of which one must follow the other one. No condition. -/
import Derived.Test.YteknfebehafbdaaK0
import Derived.Test.YteknfebehafbdaaH0
import Derived.Test.YteknfebehafbdaaH5
namespace Go.Proofs.Yteknfebehafbdaa.K
open Go.RowKit Go.Shelf Go.Proofs.YteknfebehafbdaaW.PrintWords Go.Proofs.YteknfebehafbdaaW.PrintLast Go.Proofs.YteknfebehafbdaaW.PrintMore
set_option linter.unusedVariables false
set_option linter.unusedSimpArgs false

/-- The pairs of i with the first c statements behind it. -/
def rowK (l : List S58) (i : Nat) : Nat → List (List Int)
  | 0 => []
  | c + 1 => rowK l i c ++ (if mst (rd_T58 l (i : Int)) (rd_T58 l ((i + 1 + c : Nat) : Int)) = true then [[(i : Int), ((i + 1 + c : Nat) : Int)]] else [])
def depK (l : List S58) : Nat → List (List Int)
  | 0 => []
  | i + 1 => depK l i ++ rowK l i (l.length - 1 - i)
theorem rowK_t {l : List S58} {i c : Nat} (h : mst (rd_T58 l (i : Int)) (rd_T58 l ((i + 1 + c : Nat) : Int)) = true) : rowK l i (c + 1) = rowK l i c ++ [[(i : Int), ((i + 1 + c : Nat) : Int)]] := by
  conv => lhs; unfold rowK
  rw [if_pos h]
theorem rowK_f {l : List S58} {i c : Nat} (h : mst (rd_T58 l (i : Int)) (rd_T58 l ((i + 1 + c : Nat) : Int)) = false) : rowK l i (c + 1) = rowK l i c := by
  conv => lhs; unfold rowK
  rw [if_neg (by rw [h]; decide), List.append_nil]
theorem rowK_len (l : List S58) (i c : Nat) : (rowK l i c).length ≤ c := by
  induction c with
  | zero => simp [rowK]
  | succ c ih =>
    unfold rowK
    rw [List.length_append]
    split
    · simp only [List.length_cons, List.length_nil]; omega
    · simp only [List.length_nil]; omega
theorem depK_len (l : List S58) (i : Nat) : (depK l i).length ≤ i * l.length := by
  induction i with
  | zero => simp [depK]
  | succ i ih =>
    unfold depK
    have := rowK_len l i (l.length - 1 - i)
    rw [List.length_append, Nat.succ_mul]
    omega
end Go.Proofs.Yteknfebehafbdaa.K
