/- What the laws' own helpers on lists come to. No condition but small lengths. -/
import Derived.Test.YteknfebehafbdaaK0
import Derived.Test.YteknfebehafbdaaB0
import Derived.Test.YteknfebehafbdaaV0
import Derived.Test.YteknfebehafbdaaK15
import Derived.Test.YteknfebehafbdaaK2
namespace Go.Proofs.Yteknfebehafbdaa.V
open Go.RowKit Go.Proofs.Yteknfebehafbdaa.K Go.Proofs.Yteknfebehafbdaa.Bx Go.Proofs.YteknfebehafbdaaW.PrintWords Go.Proofs.YteknfebehafbdaaW.PrintLast
set_option linter.unusedVariables false
set_option linter.unusedSimpArgs false

theorem toInt (l : List Int) (h : l.length ≤ 1048576) : Ev (fun k => laws_toInt64S.f k l) l := by
  unfold laws_toInt64S.f
  refine ev_if (by omega) (ev_if (by omega) ?_)
  have key : ∀ d i : Nat, i + d = l.length → ∀ t : List Int, t = l.take i ++ List.replicate d 0 → Ev (fun k => laws_toInt64S.l0 k l t (i : Int)) l := by
    intro d
    induction d with
    | zero =>
      intro i hi t ht
      refine ⟨1, fun k hk => ?_⟩
      obtain ⟨k, rfl⟩ : ∃ m, k = m + 1 := ⟨k - 1, by omega⟩
      simp only [laws_toInt64S.l0]
      rw [if_neg (by omega), ht, List.take_of_length_le (by omega)]; simp
    | succ d ih =>
      intro i hi t ht
      have hl : t.length = l.length := by rw [ht]; simp; omega
      refine Ev.step (f := fun k => laws_toInt64S.l0 k l (t.set i (rd l (i : Int))) ((i + 1 : Nat) : Int)) (fun k => ?_) (ih (i + 1) (by omega) _ ?_)
      · simp only [laws_toInt64S.l0]
        rw [if_pos (by omega), if_pos (by omega), if_pos (by omega), w1 (by omega), Int.toNat_natCast]
      · rw [ht, List.set_append, if_neg (by simp; omega)]
        have e1 : i - (l.take i).length = 0 := by simp; omega
        rw [e1, List.replicate_succ, List.set_cons_zero, rd_nat, List.take_add_one, List.append_assoc]
        rw [List.getElem?_eq_getElem (by omega), List.getD_eq_getElem?_getD, List.getElem?_eq_getElem (by omega)]
        rfl
  have := key l.length 0 (by omega) (List.replicate l.length 0) (by simp)
  simpa using this
theorem eqSame (l : List Int) (h : l.length ≤ 1048576) : Ev (fun k => laws_eqInt64S.f k l l) true := by
  unfold laws_eqInt64S.f
  refine ev_if rfl ?_
  have := loop_all (L := fun k i => laws_eqInt64S.l0 k l l i) l.length (fun _ => true) true
    (fun i hi _ r he => Ev.step (fun k => by simp only [laws_eqInt64S.l0]; rw [if_pos (by omega), if_pos (by omega), if_pos (by omega), if_pos trivial, w1 (by omega)]) he)
    (fun i hi hp => by cases hp)
    ⟨1, fun k hk => by
      obtain ⟨k, rfl⟩ : ∃ m, k = m + 1 := ⟨k - 1, by omega⟩
      simp only [laws_eqInt64S.l0]; rw [if_neg (by omega)]⟩
  have e : ((List.range l.length).all fun _ => true) = true := List.all_eq_true.mpr fun _ _ => rfl
  rw [e] at this
  exact this
end Go.Proofs.Yteknfebehafbdaa.V
