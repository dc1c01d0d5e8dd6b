/- For all arguments the law FnExactWidenLanes answers true. No condition. -/
import Derived.Test.YtpcjjminopdofaaK36
import Derived.Test.YtpcjjminopdofaaV5
namespace Go.Proofs.Ytpcjjminopdofaa.Pure
open Go.RowKit Go.Proofs.Ytpcjjminopdofaa.K Go.Proofs.Ytpcjjminopdofaa.V Go.Proofs.Ytpcjjminopdofaa.Bx Go.Proofs.YtpcjjminopdofaaW.PrintWords Go.Proofs.YtpcjjminopdofaaW.PrintLast
set_option linter.unusedVariables false

theorem widen_map (b : Int) (l : List Int) (s : Bool) : widen b l s = l.map (wid b s) := by
  unfold widen
  have e : ((List.range l.length).map fun (j : Nat) => wid b s (rd l (j : Int))) = ((List.range l.length).map fun (j : Nat) => rd l (j : Int)).map (wid b s) := by
    rw [List.map_map]; rfl
  rw [e, map_rd]
theorem sWiden {b : Int} {l : List Int} (s : Bool) (hb : b ≤ 8) (hb0 : Bits b) (hw : Words b l) (h : l.length ≤ 1048576) : Ev (fun k => spec_l02Widen.f k b l s) (widen b l s) := by
  have hbb := b_bounds hb0
  have hb2 : Bits (2 * b) := by
    rcases hb0 with rfl | rfl | rfl
    · exact .inr (.inl rfl)
    · exact .inr (.inr rfl)
    · omega
  have e2 : wrap64 (2 * b) = 2 * b := w_small (by omega)
  unfold spec_l02Widen.f widen
  refine loop_app (L := fun k acc i => spec_l02Widen.l0 k b l s acc i) l.length (fun (j : Nat) => wid b s (rd l (j : Int))) ?_ ?_
  · intro i acc hi ha hk
    refine Ev.step (fun k => ?_) hk
    simp only [spec_l02Widen.l0]
    rw [if_pos (by omega), if_pos (by omega), w1 (by omega), sSg (words_rd hw (by omega) (by omega)), e2]
    cases s with
    | true =>
      rw [if_pos rfl]
      simp only [Option.bind_some]
      rw [sWrap hb2]
      exact if_pos (by omega)
    | false =>
      rw [if_neg (by simp)]
      exact if_pos (by omega)
  · refine ⟨1, fun k hk => ?_⟩
    obtain ⟨k, rfl⟩ : ∃ m, k = m + 1 := ⟨k - 1, by omega⟩
    simp only [spec_l02Widen.l0]
    rw [if_neg (by omega)]
theorem FnExactWidenLanes : laws_FnExactWidenLanes.Pure := by
  intro b l s _ _ _ _
  refine Ev.rounds (g := fun k => laws_FnExactWidenLanes.f k b l s) ?_
  unfold laws_FnExactWidenLanes.f
  by_cases hh : (l.length : Int) > 1048576
  · exact ev_if hh (Ev.now _)
  refine ev_else hh ?_
  have bl : l.length ≤ 1048576 := by omega
  obtain ⟨o, p, ok, ho, hp, hs, hi⟩ : ∃ (o p : List Int) (ok : Bool), o.length ≤ 1048576 ∧ p.length ≤ 1048576 ∧ Ev (fun k => spec_WidenLanes.f k b l s) (o, p, ok) ∧ Ev (fun k => impl_WidenLanes.f k b l s) (o, p, ok) := by
    have hlen : (widen b l s).length = l.length := by unfold widen; simp
    by_cases q : WidOk b l
    · refine ⟨(widen b l s).take (l.length / 2), (widen b l s).drop (l.length / 2), true, by rw [List.length_take]; omega, by rw [List.length_drop]; omega, ?_, ⟨0, fun k _ => by unfold impl_WidenLanes.f; rw [if_pos q]⟩⟩
      obtain ⟨hb, hx, h4⟩ := q
      have hv := vec_iff.mp hx
      have h16 := lanes_le hv.2.1
      unfold spec_WidenLanes.f
      refine Ev.bind (sIs b l bl) (ev_if hx (ev_else (by omega) ?_))
      refine Ev.step (fun k => by rw [spec_WidenLanes.j0]) ?_
      have e : wrap64 ((l.length : Int) / 2) = ((l.length / 2 : Nat) : Int) := by rw [w_small (by omega)]; omega
      rw [e, Int.toNat_natCast]
      refine ev_else (by rw [decide_eq_true_eq]; omega) (ev_if (by omega) (ev_if (by omega) ?_))
      rw [widen_map, ← List.map_take, ← List.map_drop, ← widen_map, ← widen_map]
      exact Ev.bind (sWiden s hb hv.1 (fun x hx => hv.2.2 x (List.mem_of_mem_take hx)) (by rw [List.length_take]; omega)) (Ev.bind (sWiden s hb hv.1 (fun x hx => hv.2.2 x (List.mem_of_mem_drop hx)) (by rw [List.length_drop]; omega)) (Ev.now _))
    · refine ⟨[], [], false, by simp, by simp, ?_, ⟨0, fun k _ => by unfold impl_WidenLanes.f; rw [if_neg q]⟩⟩
      unfold spec_WidenLanes.f
      refine Ev.bind (sIs b l bl) ?_
      by_cases hx : vec b l = true
      · refine ev_if hx ?_
        have hv := vec_iff.mp hx
        by_cases h16 : b = 16
        · refine ev_if h16 ?_
          refine Ev.step (fun k => by rw [spec_WidenLanes.j0]) ?_
          exact ev_if rfl (Ev.now _)
        · refine ev_else h16 ?_
          refine Ev.step (fun k => by rw [spec_WidenLanes.j0]) ?_
          have hb : b ≤ 8 := by rcases hv.1 with rfl | rfl | rfl <;> omega
          have h4 : ¬ 4 ≤ l.length := fun h => q ⟨hb, hx, h⟩
          exact ev_if (by rw [decide_eq_true_eq]; omega) (Ev.now _)
      · refine ev_else hx ?_
        refine Ev.step (fun k => by rw [spec_WidenLanes.j0]) ?_
        exact ev_if rfl (Ev.now _)
  refine Ev.bind (toInt l bl) (Ev.bind hs (Ev.bind (toInt l bl) (Ev.bind hi (Ev.bind (eqSame o ho) (ev_if rfl (Ev.bind (eqSame p hp) (ev_if rfl ?_)))))))
  refine Ev.step (fun k => by rw [laws_FnExactWidenLanes.j0]) ?_
  refine ev_else (ne_self ok) (Ev.bind (toInt l bl) (Ev.bind (eqSame l bl) (ev_if rfl (Ev.bind (V.mark l (1) bl (by omega)) (ev_else (by show ¬ (1 + (l.length : Int) < 0); omega) (Ev.bind (eqSame o ho) (ev_if rfl (Ev.bind (eqSame p hp) (ev_if rfl ?_)))))))))
  refine Ev.step (fun k => by rw [laws_FnExactWidenLanes.j1]) ?_
  refine ev_else (ne_self ok) (Ev.bind (V.mark o 1 ho (by omega)) (Ev.bind (V.mark p (1 + (o.length : Int)) hp (by omega)) (Ev.bind (V.held o.length 1 ho (by omega)) (ev_else (by show ¬ (1 + (o.length : Int) < 0); omega) (Ev.bind (V.held p.length (1 + (o.length : Int)) hp (by omega)) (ev_else (by show ¬ (1 + (o.length : Int) + (p.length : Int) < 0); omega) (ev_if rfl (Ev.bind (toInt l bl) (Ev.bind hi (Ev.bind (eqSame o ho) (ev_if rfl (Ev.bind (eqSame p hp) (ev_if rfl ?_)))))))))))))
  refine Ev.step (fun k => by rw [laws_FnExactWidenLanes.j2]) ?_
  exact ev_else (ne_self ok) (Ev.bind (V.held o.length 1 ho (by omega)) (ev_else (by show ¬ (1 + (o.length : Int) < 0); omega) (Ev.bind (V.held p.length (1 + (o.length : Int)) hp (by omega)) (ev_else (by show ¬ (1 + (o.length : Int) + (p.length : Int) < 0); omega) (ev_if rfl (Ev.now _))))))

end Go.Proofs.Ytpcjjminopdofaa.Pure
