/- The laws' own marks. No condition but small lengths. -/
import Derived.Test.YtgaemhbffdlbaaaDoorV0
import Derived.Test.YtgaemhbffdlbaaaDoorVL
import Derived.Test.YtgaemhbffdlbaaaDoorK6
import Derived.Test.YtgaemhbffdlbaaaDoorK7
import Derived.Test.YtgaemhbffdlbaaaDoorV0
import Derived.Test.YtgaemhbffdlbaaaDoorVL
namespace Go.Proofs.YtgaemhbffdlbaaaDoor.V
open Go.RowKit Go.Proofs.YtgaemhbffdlbaaaDoor.K Go.Proofs.YtgaemhbffdlbaaaDoorW.PrintWords Go.Proofs.YtgaemhbffdlbaaaDoorW.PrintLast
set_option linter.unusedVariables false
set_option linter.unusedSimpArgs false

/-- m, m + 1, .. -/
def marks (n : Nat) (m : Int) : List Int := (List.range n).map fun (j : Nat) => m + (j : Int)
theorem mark (l : List Int) (m : Int) (h : l.length ≤ 1048576) (hm : 0 ≤ m ∧ m ≤ 10000000) : Ev (fun k => laws_markInt64S.f k l m) (m + l.length, marks l.length m) := by
  unfold laws_markInt64S.f
  have key : ∀ d i : Nat, i + d = l.length → ∀ t : List Int, t = (List.range i).map (fun (j : Nat) => m + (j : Int)) ++ l.drop i → Ev (fun k => laws_markInt64S.l0 k t (m + i) (i : Int)) (m + l.length, marks l.length m) := by
    intro d
    induction d with
    | zero =>
      intro i hi t ht
      obtain rfl : i = l.length := by omega
      have hl : t.length = l.length := by rw [ht]; simp
      refine ⟨1, fun k hk => ?_⟩
      obtain ⟨k, rfl⟩ : ∃ m, k = m + 1 := ⟨k - 1, by omega⟩
      simp only [laws_markInt64S.l0]
      rw [if_neg (by omega), ht]; simp [marks]
    | succ d ih =>
      intro i hi t ht
      have hl : t.length = l.length := by rw [ht]; simp; omega
      refine Ev.step (f := fun k => laws_markInt64S.l0 k (t.set i (m + i)) (m + ((i + 1 : Nat) : Int)) ((i + 1 : Nat) : Int)) (fun k => ?_) (ih (i + 1) (by omega) _ ?_)
      · simp only [laws_markInt64S.l0]
        rw [if_pos (by omega), if_pos (by omega), w1 (by omega), Int.toNat_natCast, show wrap64 (m + (i : Int) + 1) = m + ((i + 1 : Nat) : Int) by unfold wrap64; omega]
      · rw [ht, List.set_append, if_neg (by simp)]
        have e1 : i - ((List.range i).map (fun (j : Nat) => m + (j : Int))).length = 0 := by simp
        rw [e1, List.range_succ, List.map_append, List.append_assoc]
        congr 1
        rw [List.drop_eq_getElem_cons (by omega : i < l.length)]
        rfl
  have := key l.length 0 (by omega) l (by simp)
  simpa using this
theorem marks_len (n : Nat) (m : Int) : (marks n m).length = n := by unfold marks; simp
theorem held (n : Nat) (m : Int) (h : n ≤ 1048576) (hm : 0 ≤ m ∧ m ≤ 10000000) : Ev (fun k => laws_heldInt64S.f k (marks n m) m) (m + n) := by
  unfold laws_heldInt64S.f
  have hl := marks_len n m
  have key : ∀ d i : Nat, i + d = n → Ev (fun k => laws_heldInt64S.l0 k (marks n m) (m + i) (i : Int)) (m + n) := by
    intro d
    induction d with
    | zero =>
      intro i hi
      obtain rfl : i = n := by omega
      refine ⟨1, fun k hk => ?_⟩
      obtain ⟨k, rfl⟩ : ∃ m, k = m + 1 := ⟨k - 1, by omega⟩
      simp only [laws_heldInt64S.l0]
      rw [if_neg (by omega)]
    | succ d ih =>
      intro i hi
      refine Ev.step (f := fun k => laws_heldInt64S.l0 k (marks n m) (m + ((i + 1 : Nat) : Int)) ((i + 1 : Nat) : Int)) (fun k => ?_) (ih (i + 1) (by omega))
      simp only [laws_heldInt64S.l0]
      rw [if_pos (by omega), if_pos (by omega), if_pos (by unfold marks; rw [rd_map (by omega)]), w1 (by omega), show wrap64 (m + (i : Int) + 1) = m + ((i + 1 : Nat) : Int) by unfold wrap64; omega]
  have := key n 0 (by omega)
  simpa using this
end Go.Proofs.YtgaemhbffdlbaaaDoor.V
