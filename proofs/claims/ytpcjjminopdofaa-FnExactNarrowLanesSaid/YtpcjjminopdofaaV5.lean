/- Lane by lane: the reference's loops and the program's closed forms. No condition but small lengths. -/
import Derived.Test.YtpcjjminopdofaaV3
import Derived.Test.YtpcjjminopdofaaVM
import Derived.Test.YtpcjjminopdofaaSD
import Derived.Test.YtpcjjminopdofaaSC
import Derived.Test.YtpcjjminopdofaaK12
import Derived.Test.YtpcjjminopdofaaK13
import Derived.Test.YtpcjjminopdofaaK6
import Derived.Test.YtpcjjminopdofaaK8
import Derived.Test.YtpcjjminopdofaaK9
namespace Go.Proofs.Ytpcjjminopdofaa.V
open Go.RowKit Go.Proofs.Ytpcjjminopdofaa.K Go.Proofs.Ytpcjjminopdofaa.Bx Go.Proofs.YtpcjjminopdofaaW.PrintWords Go.Proofs.YtpcjjminopdofaaW.PrintLast
set_option linter.unusedVariables false
set_option linter.unusedSimpArgs false

theorem vecs_two (b : Int) (l m : List Int) : vecs b [l, m] = both b l m := by
  show ((vec b l && ((l.length : Int) == (l.length : Int))) && ((vec b m && ((m.length : Int) == (l.length : Int))) && true)) = (vec b l && vec b m && decide (l.length = m.length))
  by_cases h : l.length = m.length
  · simp [h]
  · have h1 : ¬ ((m.length : Int) = (l.length : Int)) := by omega
    simp [h, h1]
theorem both_iff {b : Int} {l m : List Int} (h : both b l m = true) : Bits b ∧ Lanes (l.length : Int) ∧ Words b l ∧ Words b m ∧ l.length = m.length := by
  unfold both at h
  rw [Bool.and_eq_true, Bool.and_eq_true, decide_eq_true_eq, vec_iff, vec_iff] at h
  exact ⟨h.1.1.1, h.1.1.2.1, h.1.1.2.2, h.1.2.2.2, h.2⟩
theorem sWise {op b : Int} {l m : List Int} (ho : OpOk op) (hl : Words b l) (hm : Words b m) (he : l.length = m.length) (h : l.length ≤ 1048576) : Ev (fun k => spec_l02Wise.f k op b l m) ((List.range l.length).map fun (j : Nat) => res op b (rd l (j : Int)) (rd m (j : Int))) := by
  unfold spec_l02Wise.f
  refine loop_app (L := fun k acc i => spec_l02Wise.l0 k op b l m acc i) l.length (fun (j : Nat) => res op b (rd l (j : Int)) (rd m (j : Int))) ?_ ?_
  · intro i acc hi ha hk
    refine Ev.step (fun k => ?_) hk
    simp only [spec_l02Wise.l0]
    rw [if_pos (by omega), if_pos (by omega), if_pos (by omega), sResult ho (words_rd hl (by omega) (by omega)) (words_rd hm (by omega) (by omega)), w1 (by omega)]
    exact if_pos (by omega)
  · refine ⟨1, fun k hk => ?_⟩
    obtain ⟨k, rfl⟩ : ∃ m, k = m + 1 := ⟨k - 1, by omega⟩
    simp only [spec_l02Wise.l0]
    rw [if_neg (by omega)]
theorem sCompare {c b : Int} {l m : List Int} (hl : Words b l) (hm : Words b m) (he : l.length = m.length) (h : l.length ≤ 1048576) : Ev (fun k => spec_l02Compare.f k c b l m) ((List.range l.length).map fun (j : Nat) => toI (cmpB c b (rd l (j : Int)) (rd m (j : Int)))) := by
  unfold spec_l02Compare.f
  refine loop_app (L := fun k acc i => spec_l02Compare.l0 k c b l m acc i) l.length (fun (j : Nat) => toI (cmpB c b (rd l (j : Int)) (rd m (j : Int)))) ?_ ?_
  · intro i acc hi ha hk
    refine Ev.step (fun k => ?_) hk
    simp only [spec_l02Compare.l0]
    rw [if_pos (by omega), if_pos (by omega), if_pos (by omega), sHolds (words_rd hl (by omega) (by omega)) (words_rd hm (by omega) (by omega)), w1 (by omega)]
    cases cmpB c b (rd l (i : Int)) (rd m (i : Int)) with
    | true =>
      simp only [Option.bind_some]
      rw [if_pos trivial, if_pos (by omega)]
      rfl
    | false =>
      simp only [Option.bind_some]
      rw [if_neg (by simp), if_pos (by omega)]
      rfl
  · refine ⟨1, fun k hk => ?_⟩
    obtain ⟨k, rfl⟩ : ∃ m, k = m + 1 := ⟨k - 1, by omega⟩
    simp only [spec_l02Compare.l0]
    rw [if_neg (by omega)]
theorem iWise {op b : Int} {l m : List Int} (ho : OpOk op) (hl : Words b l) (hm : Words b m) (he : l.length = m.length) (h : l.length ≤ 100000) : Ev (fun k => impl_laneWise.f k op b l m) ((List.range l.length).map fun (j : Nat) => res op b (rd l (j : Int)) (rd m (j : Int))) :=
  ⟨0, fun k _ => by unfold impl_laneWise.f; rw [if_pos ⟨ho, hl, hm, by omega, h⟩]⟩
theorem iCompared {c b : Int} {l m : List Int} (hl : Words b l) (hm : Words b m) (he : l.length = m.length) (h : l.length ≤ 100000) : Ev (fun k => impl_compared.f k c b l m) ((List.range l.length).map fun (j : Nat) => toI (cmpB c b (rd l (j : Int)) (rd m (j : Int)))) :=
  ⟨0, fun k _ => by unfold impl_compared.f; rw [if_pos ⟨hl, hm, by omega, h⟩]⟩
theorem ne_self (b : Bool) : ¬ (b != b) = true := by cases b <;> simp
end Go.Proofs.Ytpcjjminopdofaa.V
