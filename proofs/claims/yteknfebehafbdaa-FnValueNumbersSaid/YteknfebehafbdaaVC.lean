/- Code in plain Lean: what the laws' own helpers on code come to, and the tests of code. No condition but small lengths. -/
import Derived.Test.YteknfebehafbdaaK0
import Derived.Test.YteknfebehafbdaaB0
import Derived.Test.YteknfebehafbdaaV0
import Derived.Test.YteknfebehafbdaaK0
import Derived.Test.YteknfebehafbdaaK2
namespace Go.Proofs.Yteknfebehafbdaa.V
open Go.RowKit Go.Proofs.Yteknfebehafbdaa.K Go.Proofs.Yteknfebehafbdaa.Bx Go.Proofs.YteknfebehafbdaaW.PrintWords Go.Proofs.YteknfebehafbdaaW.PrintLast
set_option linter.unusedVariables false
set_option linter.unusedSimpArgs false

/-- The program's statement of the law's own one. -/
theorem rd58 (l : List S58) (i : Nat) : rd_T58 l (i : Int) = l.getD i z58 := by unfold rd_T58; rw [Int.toNat_natCast]
theorem sIn (n lo hi : Int) : spec_l00In.f n lo hi = some (decide (lo ≤ n ∧ n ≤ hi)) := by
  unfold spec_l00In.f
  by_cases h : n ≥ lo
  · rw [if_pos h]; congr 1; simp; omega
  · rw [if_neg h]; congr 1; simp; omega
theorem sCell (n : Int) : spec_l03Cell.f n = some (cellB n) := by
  unfold spec_l03Cell.f
  rw [sIn]; rfl
theorem sOpIs (n : Int) : spec_l01OpIs.f n = some (decide (OpOk n)) := by
  unfold spec_l01OpIs.f
  rw [sIn, Option.bind_some]; rfl
/-- The test of code, for both. -/
def cOk (l : List S58) : Bool := decide (l.length ≤ 16) && (List.range l.length).all fun (j : Nat) => stOk (rd_T58 l (j : Int))
theorem sIs (l : List S58) (h : l.length ≤ 1048576) : Ev (fun k => spec_l03Is.f k l) (cOk l) := by
  unfold spec_l03Is.f
  have := loop_all (L := fun k i => spec_l03Is.l0 k l i) l.length (fun (j : Nat) => stOk (rd_T58 l (j : Int))) (decide (l.length ≤ 16)) ?_ ?_ ?_
  · rw [Bool.and_comm] at this; exact this
  · intro i hi hp r he
    refine Ev.step (fun k => ?_) he
    simp only [spec_l03Is.l0]
    rw [if_pos (by omega), if_pos (by omega), sOpIs, sCell, sCell, sCell, w1 (by omega)]
    unfold stOk at hp
    simp only [Bool.and_eq_true] at hp
    rw [hp.1, hp.2.1, hp.2.2.1, hp.2.2.2]
    rfl
  · intro i hi hp
    refine ⟨1, fun k hk => ?_⟩
    obtain ⟨k, rfl⟩ : ∃ m, k = m + 1 := ⟨k - 1, by omega⟩
    simp only [spec_l03Is.l0]
    rw [if_pos (by omega), if_pos (by omega), sOpIs, sCell, sCell, sCell]
    unfold stOk at hp
    simp only [Option.bind_some]
    cases h0 : decide (OpOk (rd_T58 l (i : Int)).f0) with
    | false => rw [if_neg (by decide)]
    | true =>
      rw [if_pos rfl]
      cases h1 : cellB (rd_T58 l (i : Int)).f1 with
      | false => rw [if_neg (by decide)]
      | true =>
        rw [if_pos rfl]
        cases h2 : cellB (rd_T58 l (i : Int)).f2 with
        | false => rw [if_neg (by decide)]
        | true =>
          rw [if_pos rfl]
          cases h3 : cellB (rd_T58 l (i : Int)).f3 with
          | false => rw [if_neg (by decide)]
          | true => rw [h0, h1, h2, h3] at hp; cases hp
  · refine ⟨1, fun k hk => ?_⟩
    obtain ⟨k, rfl⟩ : ∃ m, k = m + 1 := ⟨k - 1, by omega⟩
    simp only [spec_l03Is.l0]
    rw [if_neg (by omega)]
    congr 1
    exact decide_eq_decide.mpr (by omega)
theorem iValid (k : Nat) (l : List S58) : impl_ValidCode.f k l = some (cOk l) := rfl
end Go.Proofs.Yteknfebehafbdaa.V
