/- What spec.l00Put and spec.l00Has come to. No condition but small lengths. -/
import Derived.Test.YteknfebehafbdaaVS
import Derived.Test.YteknfebehafbdaaK3
namespace Go.Proofs.Yteknfebehafbdaa.V
open Go.RowKit Go.Proofs.Yteknfebehafbdaa.K Go.Proofs.Yteknfebehafbdaa.Bx Go.Proofs.YteknfebehafbdaaW.PrintWords Go.Proofs.YteknfebehafbdaaW.PrintLast
set_option linter.unusedVariables false
set_option linter.unusedSimpArgs false

theorem drop_rd (l : List Int) {i : Nat} (h : i < l.length) : l.drop i = rd l (i : Int) :: l.drop (i + 1) := by
  rw [List.drop_eq_getElem_cons h, rd_nat, List.getD_eq_getElem?_getD, List.getElem?_eq_getElem h]; rfl
theorem put_done (l : List Int) (n : Int) (hl : l.length ≤ 1048576) : ∀ d i : Nat, i + d = l.length → ∀ out : List Int, out.length ≤ i + 1 → Ev (fun k => spec_l00Put.l0 k l n out true (i : Int)) (out ++ l.drop i) := by
  intro d
  induction d with
  | zero =>
    intro i hi out ho
    refine ⟨1, fun k hk => ?_⟩
    obtain ⟨k, rfl⟩ : ∃ m, k = m + 1 := ⟨k - 1, by omega⟩
    simp only [spec_l00Put.l0]
    rw [if_neg (by omega), if_pos trivial, List.drop_of_length_le (by omega), List.append_nil]
  | succ d ih =>
    intro i hi out ho
    refine Ev.step (f := fun k => spec_l00Put.j1 k l n out true (i : Int) false) (fun k => ?_) (Ev.step (f := fun k => spec_l00Put.l0 k l n (out ++ [rd l (i : Int)]) true ((i + 1 : Nat) : Int)) (fun k => ?_) ?_)
    · simp only [spec_l00Put.l0]; rw [if_pos (by omega), if_pos trivial]
    · simp only [spec_l00Put.j1]; rw [if_neg (by decide), if_pos (by omega), if_pos (by omega), if_pos (by omega), w1 (by omega)]
    · have := ih (i + 1) (by omega) (out ++ [rd l (i : Int)]) (by simp; omega)
      rw [drop_rd l (by omega : i < l.length)]
      simpa using this
theorem sPut (l : List Int) (n : Int) (hl : l.length ≤ 1048576) : Ev (fun k => spec_l00Put.f k l n) (ins n l) := by
  unfold spec_l00Put.f
  have key : ∀ d i : Nat, i + d = l.length → ∀ out : List Int, out.length ≤ i → Ev (fun k => spec_l00Put.l0 k l n out false (i : Int)) (out ++ ins n (l.drop i)) := by
    intro d
    induction d with
    | zero =>
      intro i hi out ho
      refine ⟨1, fun k hk => ?_⟩
      obtain ⟨k, rfl⟩ : ∃ m, k = m + 1 := ⟨k - 1, by omega⟩
      simp only [spec_l00Put.l0]
      rw [if_neg (by omega), if_neg (by decide), if_pos (by omega), List.drop_of_length_le (by omega)]; rfl
    | succ d ih =>
      intro i hi out ho
      refine Ev.step (f := fun k => spec_l00Put.j1 k l n out false (i : Int) (decide (rd l (i : Int) ≥ n))) (fun k => ?_) ?_
      · simp only [spec_l00Put.l0]; rw [if_pos (by omega), if_neg (by decide), if_pos (by omega)]
      rw [drop_rd l (by omega : i < l.length)]
      by_cases h1 : rd l (i : Int) < n
      · refine Ev.step (f := fun k => spec_l00Put.l0 k l n (out ++ [rd l (i : Int)]) false ((i + 1 : Nat) : Int)) (fun k => ?_) ?_
        · simp only [spec_l00Put.j1]; rw [if_neg (by simpa using h1), if_pos (by omega), if_pos (by omega), if_pos (by omega), w1 (by omega)]
        · have := ih (i + 1) (by omega) (out ++ [rd l (i : Int)]) (by simp; omega)
          unfold ins
          rw [if_pos h1]
          simpa using this
      · unfold ins
        rw [if_neg h1]
        by_cases h2 : rd l (i : Int) = n
        · rw [if_pos h2]
          refine Ev.step (f := fun k => spec_l00Put.l0 k l n (out ++ [rd l (i : Int)]) true ((i + 1 : Nat) : Int)) (fun k => ?_) ?_
          · simp only [spec_l00Put.j1]; rw [if_pos (by simp; omega), if_pos (by omega), if_pos (by omega), if_neg (by omega), if_pos (by omega), w1 (by omega)]
          · have := put_done l n hl d (i + 1) (by omega) (out ++ [rd l (i : Int)]) (by simp; omega)
            simpa using this
        · rw [if_neg h2]
          refine Ev.step (f := fun k => spec_l00Put.l0 k l n ((out ++ [n]) ++ [rd l (i : Int)]) true ((i + 1 : Nat) : Int)) (fun k => ?_) ?_
          · simp only [spec_l00Put.j1]; rw [if_pos (by simp; omega), if_pos (by omega), if_pos (by omega), if_pos (by omega), if_pos (by omega)]
            show (if (out ++ [n]).length < 17592186044416 then _ else _) = _
            rw [if_pos (by simp; omega), w1 (by omega)]
          · have := put_done l n hl d (i + 1) (by omega) ((out ++ [n]) ++ [rd l (i : Int)]) (by simp; omega)
            simpa using this
  have := key l.length 0 (by omega) [] (by simp)
  simpa using this
/-- A cell put into a set of cells. -/
theorem sPutSet (m : Nat → Bool) {n : Int} (h0 : 0 ≤ n) (h1 : n ≤ 31) : Ev (fun k => spec_l00Put.f k (setTo m 32) n) (setTo (put m n true) 32) := by
  rw [← ins_set m h0 h1]
  exact sPut _ n (by have := setTo_len m 32; omega)
end Go.Proofs.Yteknfebehafbdaa.V
