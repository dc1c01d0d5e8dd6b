/- For all arguments the law FnExactStepScan answers true. No condition. -/
import Derived.Test.YtpcjjminopdofaaK41
import Derived.Test.YtpcjjminopdofaaV5
namespace Go.Proofs.Ytpcjjminopdofaa.Pure
open Go.RowKit Go.Proofs.Ytpcjjminopdofaa.K Go.Proofs.Ytpcjjminopdofaa.V Go.Proofs.Ytpcjjminopdofaa.Bx Go.Proofs.YtpcjjminopdofaaW.PrintWords Go.Proofs.YtpcjjminopdofaaW.PrintLast
set_option linter.unusedVariables false

theorem own1 (l : List Int) (h : l.length ≤ 1048576) : spec_l00Own.f l = some l := by
  unfold spec_l00Own.f
  show (if ([] : List Int).length + l.length < 17592186044416 then some ([] ++ l) else none) = _
  rw [if_pos (by simp; omega)]
  rfl
theorem stepRound {c b : Int} {l z : List Int} {F : Nat} {r : List Int × Bool} (hF : F < 2000) (hz : z.length ≤ 16) (hw : Words b z) (ho : OpOk c) (hk : Ev (fun k => spec_StepScan.l0 k c b l (stp c b F z) ((2 * F : Nat) : Int)) r) : Ev (fun k => spec_StepScan.l1 k c b l z (F : Int) [] 0) r := by
  refine loop_app (L := fun k acc i => spec_StepScan.l1 k c b l z (F : Int) acc i) z.length (fun (j : Nat) => if j < F then rd z (j : Int) else res c b (rd z ((j - F : Nat) : Int)) (rd z (j : Int))) ?_ ?_
  · intro i acc hi ha hk
    refine Ev.step (fun k => ?_) hk
    simp only [spec_StepScan.l1]
    rw [if_pos (by omega)]
    by_cases hF : i < F
    · rw [if_neg (by omega), if_pos (by omega), if_pos (by omega), w1 (by omega), if_pos hF]
    · have e : wrap64 ((i : Int) - (F : Int)) = ((i - F : Nat) : Int) := by rw [w_small (by omega)]; omega
      rw [if_pos (by omega), e, if_pos (by omega), if_pos (by omega), if_pos (by omega), sResult ho (words_rd hw (by omega) (by omega)) (words_rd hw (by omega) (by omega)), Option.bind_some, if_pos (by omega), w1 (by omega), if_neg hF]
  · refine Ev.step (fun k => ?_) hk
    simp only [spec_StepScan.l1]
    have e : wrap64 ((F : Int) * 2) = ((2 * F : Nat) : Int) := by rw [w_small (by omega)]; omega
    rw [if_neg (by omega), e]
    rfl
theorem sSteps {c b : Int} {l : List Int} (ho : OpOk c) (hw : Words b l) (hn : Lanes (l.length : Int)) : Ev (fun k => spec_StepScan.l0 k c b l l 1) (stps c b l (lg l.length), true) := by
  have h16 := lanes_le hn
  have key : ∀ d i : Nat, i + d = lg l.length → Ev (fun k => spec_StepScan.l0 k c b l (stps c b l i) ((2 ^ i : Nat) : Int)) (stps c b l (lg l.length), true) := by
    intro d
    induction d with
    | zero =>
      intro i hi
      obtain rfl : i = lg l.length := by omega
      have hg := lg_ge hn
      refine ⟨1, fun k hk => ?_⟩
      obtain ⟨k, rfl⟩ : ∃ m, k = m + 1 := ⟨k - 1, by omega⟩
      simp only [spec_StepScan.l0]
      rw [if_neg (by omega)]
    | succ d ih =>
      intro i hi
      have hl := lg_lt hn (i := i) (by omega)
      refine Ev.step (fun k => by simp only [spec_StepScan.l0]; rw [if_pos (by omega)]) ?_
      refine stepRound (by omega) (by rw [stps_len]; omega) (stps_words hw i) ho ?_
      have e : 2 * 2 ^ i = 2 ^ (i + 1) := by rw [Nat.pow_succ, Nat.mul_comm]
      rw [e]
      exact ih (i + 1) (by omega)
  exact key (lg l.length) 0 (by omega)
theorem FnExactStepScan : laws_FnExactStepScan.Pure := by
  intro c b l _ _ _ _ _
  refine Ev.rounds (g := fun k => laws_FnExactStepScan.f k c b l) ?_
  unfold laws_FnExactStepScan.f
  by_cases hl : (l.length : Int) > 1048576
  · exact ev_if hl (Ev.now _)
  refine ev_else hl ?_
  have bl : l.length ≤ 1048576 := by omega
  obtain ⟨o, ok, ho, hs, hi⟩ : ∃ (o : List Int) (ok : Bool), o.length ≤ 1048576 ∧ Ev (fun k => spec_StepScan.f k c b l) (o, ok) ∧ Ev (fun k => impl_StepScan.f k c b l) (o, ok) := by
    by_cases hc : OpOk c
    · by_cases hv : vec b l = true
      · have hv2 := vec_iff.mp hv
        have h16 := lanes_le hv2.2.1
        refine ⟨stps c b l (lg l.length), true, by rw [stps_len]; exact bl, ?_, ?_⟩
        · unfold spec_StepScan.f
          refine ev_eq (sOp c) (ev_if (decide_eq_true hc) (Ev.bind (sIs b l bl) ?_))
          rw [hv]
          refine Ev.step (fun k => by rw [spec_StepScan.j0]) ?_
          exact ev_else (by decide) (ev_eq (own1 l bl) (sSteps hc hv2.2.2 hv2.2.1))
        · unfold impl_StepScan.f
          exact ev_eq (iOp c) (ev_if (decide_eq_true hc) (Ev.bind (Ev.now (vec b l)) (ev_if hv (Ev.bind ⟨0, fun k _ => if_pos ⟨hc, hv⟩⟩ (Ev.now _)))))
      · refine ⟨[], false, by simp, ?_, ?_⟩
        · unfold spec_StepScan.f
          refine ev_eq (sOp c) (ev_if (decide_eq_true hc) (Ev.bind (sIs b l bl) ?_))
          rw [Bool.eq_false_iff.mpr hv]
          refine Ev.step (fun k => by rw [spec_StepScan.j0]) ?_
          exact ev_if rfl (Ev.now _)
        · unfold impl_StepScan.f
          exact ev_eq (iOp c) (ev_if (decide_eq_true hc) (Ev.bind (Ev.now (vec b l)) (ev_else hv (Ev.now _))))
    · refine ⟨[], false, by simp, ?_, ?_⟩
      · unfold spec_StepScan.f
        refine ev_eq (sOp c) (ev_else (by rw [decide_eq_true_eq]; exact hc) ?_)
        refine Ev.step (fun k => by rw [spec_StepScan.j0]) ?_
        exact ev_if rfl (Ev.now _)
      · unfold impl_StepScan.f
        exact ev_eq (iOp c) (ev_else (by rw [decide_eq_true_eq]; exact hc) (Ev.now _))
  refine Ev.bind (toInt l bl) (Ev.bind hs (Ev.bind (toInt l bl) (Ev.bind hi (Ev.bind (eqSame o ho) (ev_if rfl ?_)))))
  refine Ev.step (fun k => by rw [laws_FnExactStepScan.j0]) ?_
  refine ev_else (ne_self ok) (Ev.bind (toInt l bl) (Ev.bind (eqSame l bl) (ev_if rfl (Ev.bind (V.mark l (1) bl (by omega)) (ev_else (by show ¬ (1 + (l.length : Int) < 0); omega) (Ev.bind (eqSame o ho) (ev_if rfl ?_)))))))
  refine Ev.step (fun k => by rw [laws_FnExactStepScan.j1]) ?_
  refine ev_else (ne_self ok) (Ev.bind (V.mark o 1 ho (by omega)) (Ev.bind (V.held o.length 1 ho (by omega)) (ev_else (by show ¬ (1 + (o.length : Int) < 0); omega) (ev_if rfl (Ev.bind (toInt l bl) (Ev.bind hi (Ev.bind (eqSame o ho) (ev_if rfl ?_))))))))
  refine Ev.step (fun k => by rw [laws_FnExactStepScan.j2]) ?_
  exact ev_else (ne_self ok) (Ev.bind (V.held o.length 1 ho (by omega)) (ev_else (by show ¬ (1 + (o.length : Int) < 0); omega) (ev_if rfl (Ev.now _))))

end Go.Proofs.Ytpcjjminopdofaa.Pure
