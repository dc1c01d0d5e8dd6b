/- For all arguments the law FnExactRampLanes answers true. No condition. -/
import Derived.Test.YtpcjjminopdofaaK24
import Derived.Test.YtpcjjminopdofaaV5
namespace Go.Proofs.Ytpcjjminopdofaa.Pure
open Go.RowKit Go.Proofs.Ytpcjjminopdofaa.K Go.Proofs.Ytpcjjminopdofaa.V Go.Proofs.Ytpcjjminopdofaa.Bx Go.Proofs.YtpcjjminopdofaaW.PrintWords Go.Proofs.YtpcjjminopdofaaW.PrintLast
set_option linter.unusedVariables false

theorem sRamp (b x y : Int) (m : Nat) (hx : Word b x) (hy : Word b y) (hm : m ≤ 16) : Ev (fun k => spec_RampLanes.l0 k b (m : Int) x y [] 0) ((List.range m).map (fun (j : Nat) => (x + (j : Int) * y) % M b), true) := by
  refine loop_app (L := fun k acc i => spec_RampLanes.l0 k b (m : Int) x y acc i) m (fun (j : Nat) => (x + (j : Int) * y) % M b) ?_ ?_
  · intro i acc hi ha hk
    refine Ev.step (fun k => ?_) hk
    have hM := @M_le b
    have hx2 := hx.2
    have hy2 := hy.2
    have hp : (i : Int) * y ≤ 16 * 65536 := Int.mul_le_mul (by omega) (by omega) (by omega) (by omega)
    have hp0 : 0 ≤ (i : Int) * y := Int.mul_nonneg (by omega) (by omega)
    simp only [spec_RampLanes.l0]
    rw [if_pos (by omega), w_small (n := (i : Int) * y) (by omega), w_small (n := x + (i : Int) * y) (by omega), sWrap hx.1, w1 (by omega)]
    exact if_pos (by omega)
  · refine ⟨1, fun k hk => ?_⟩
    obtain ⟨k, rfl⟩ : ∃ m, k = m + 1 := ⟨k - 1, by omega⟩
    simp only [spec_RampLanes.l0]
    rw [if_neg (by omega)]
theorem FnExactRampLanes : laws_FnExactRampLanes.Pure := by
  intro b n x y _ _ _ _
  refine Ev.rounds (g := fun k => laws_FnExactRampLanes.f k b n x y) ?_
  unfold laws_FnExactRampLanes.f
  have hs : Ev (fun k => spec_RampLanes.f k b n x y) (ramp b n x y) := by
    unfold spec_RampLanes.f
    refine ev_eq (sLanes n) ?_
    by_cases hl : Lanes n
    · refine ev_if (decide_eq_true hl) (ev_eq (sWord b x) ?_)
      by_cases hx : Word b x
      · refine ev_if (decide_eq_true hx) (ev_eq (sWord b y) ?_)
        refine Ev.step (fun k => by rw [spec_RampLanes.j0]) ?_
        by_cases hy : Word b y
        · have hl2 := lanes_le hl
          obtain ⟨m, rfl⟩ := Int.eq_ofNat_of_zero_le (show 0 ≤ n by omega)
          refine ev_else (by rw [decide_eq_true hy]; simp) ?_
          unfold ramp
          rw [if_pos ⟨⟨hx, hy⟩, hl⟩, Int.toNat_natCast]
          exact sRamp b x y m hx hy (by omega)
        · refine ev_if (by rw [decide_eq_false hy]; rfl) ?_
          unfold ramp
          rw [if_neg (fun q => hy q.1.2)]
          exact Ev.now _
      · refine ev_else (by rw [decide_eq_true_eq]; exact hx) ?_
        refine Ev.step (fun k => by rw [spec_RampLanes.j0]) ?_
        unfold ramp
        rw [if_neg (fun q => hx q.1.1)]
        exact ev_if rfl (Ev.now _)
    · refine ev_else (by rw [decide_eq_true_eq]; exact hl) ?_
      refine Ev.step (fun k => by rw [spec_RampLanes.j0]) ?_
      unfold ramp
      rw [if_neg (fun q => hl q.2)]
      exact ev_if rfl (Ev.now _)
  have hi : Ev (fun k => impl_RampLanes.f k b n x y) (ramp b n x y) := Ev.now _
  obtain ⟨o, ok, e, ho⟩ : ∃ (o : List Int) (ok : Bool), ramp b n x y = (o, ok) ∧ o.length ≤ 1048576 := by
    unfold ramp
    by_cases q : (Word b x ∧ Word b y) ∧ Lanes n
    · rw [if_pos q]
      have := lanes_le q.2
      exact ⟨_, _, rfl, by simp; omega⟩
    · rw [if_neg q]
      exact ⟨_, _, rfl, by simp⟩
  rw [e] at hs hi
  refine Ev.bind hs (Ev.bind hi (Ev.bind (eqSame o ho) (ev_if rfl ?_)))
  refine Ev.step (fun k => by rw [laws_FnExactRampLanes.j0]) ?_
  refine ev_else (ne_self ok) (Ev.bind (V.mark o 1 ho (by omega)) (Ev.bind (V.held o.length 1 ho (by omega)) (ev_else (by show ¬ (1 + (o.length : Int) < 0); omega) (ev_if rfl (Ev.bind hi (Ev.bind (eqSame o ho) (ev_if rfl ?_)))))))
  refine Ev.step (fun k => by rw [laws_FnExactRampLanes.j1]) ?_
  exact ev_else (ne_self ok) (Ev.bind (V.held o.length 1 ho (by omega)) (ev_else (by show ¬ (1 + (o.length : Int) < 0); omega) (ev_if rfl (Ev.now _))))

end Go.Proofs.Ytpcjjminopdofaa.Pure
