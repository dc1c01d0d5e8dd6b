/- For all arguments the law FnExactSlideLanes answers true. No condition. -/
import Derived.Test.YtpcjjminopdofaaQC1
import Derived.Test.YtpcjjminopdofaaQCV
namespace Go.Proofs.Ytpcjjminopdofaa.Pure
open Go.RowKit Go.Proofs.Ytpcjjminopdofaa.K Go.Proofs.Ytpcjjminopdofaa.V Go.Proofs.Ytpcjjminopdofaa.Bx Go.Proofs.YtpcjjminopdofaaW.PrintWords Go.Proofs.YtpcjjminopdofaaW.PrintLast
set_option linter.unusedVariables false

theorem own1 (l : List Int) (h : l.length ≤ 1048576) : spec_l00Own.f l = some l := by
  unfold spec_l00Own.f
  show (if ([] : List Int).length + l.length < 17592186044416 then some ([] ++ l) else none) = _
  rw [if_pos (by simp; omega)]
  rfl
theorem FnExactSlideLanes : laws_FnExactSlideLanes.Pure := by
  intro b l m n _ _ _ _ _ _ _ _
  refine Ev.rounds (g := fun k => laws_FnExactSlideLanes.f k b l m n) ?_
  unfold laws_FnExactSlideLanes.f
  by_cases hl : (l.length : Int) > 1048576
  · exact ev_if hl (Ev.now _)
  refine ev_else hl ?_
  by_cases hm : (m.length : Int) > 1048576
  · exact ev_if hm (Ev.now _)
  refine ev_else hm ?_
  have bl : l.length ≤ 1048576 := by omega
  have bm : m.length ≤ 1048576 := by omega
  obtain ⟨o, ok, ho, hs, hi⟩ : ∃ (o : List Int) (ok : Bool), o.length ≤ 1048576 ∧ Ev (fun k => spec_SlideLanes.f k b l m n) (o, ok) ∧ Ev (fun k => impl_SlideLanes.f k b l m n) (o, ok) := by
    by_cases hq : both b l m = true
    · have hB := both_iff hq
      have h16 := lanes_le hB.2.1
      have hv : vecs b [l, m] = true := (vecs_two b l m).trans hq
      by_cases hn : 0 ≤ n ∧ n ≤ (l.length : Int)
      · have q : SlOk b l m n := ⟨hv, hn.1, hn.2⟩
        refine ⟨((l ++ m).drop n.toNat).take l.length, true, by rw [List.length_take]; omega, ?_, ⟨0, fun k _ => by unfold impl_SlideLanes.f; rw [if_pos q]⟩⟩
        unfold spec_SlideLanes.f
        refine Ev.bind (sBoth b l m bl bm) (ev_if hq (ev_eq (sIn n 0 (l.length : Int)) ?_))
        rw [decide_eq_true hn]
        refine Ev.step (fun k => by rw [spec_SlideLanes.j0]) ?_
        refine ev_else (by decide) (ev_eq (own1 l bl) (ev_if (by omega) ?_))
        obtain ⟨j, rfl⟩ : ∃ j : Nat, n = j := ⟨n.toNat, by omega⟩
        have e : wrap64 ((j : Int) + (l.length : Int)) = ((j + l.length : Nat) : Int) := by rw [w_small (by omega)]; omega
        have hle : (l ++ m).length = l.length + m.length := List.length_append
        refine ev_eq rfl ?_
        rw [e]
        refine ev_if hn.1 (ev_if (by omega) (ev_if (by omega) ?_))
        rw [Int.toNat_natCast, Int.toNat_natCast]
        have e2 : ((l ++ m).take (j + l.length)).drop j = ((l ++ m).drop j).take l.length := by rw [List.drop_take, Nat.add_sub_cancel_left]
        rw [e2]
        exact ev_eq (own1 _ (by rw [List.length_take]; omega)) (Ev.now _)
      · have q : ¬ SlOk b l m n := fun h => hn ⟨h.2.1, h.2.2⟩
        refine ⟨[], false, by simp, ?_, ⟨0, fun k _ => by unfold impl_SlideLanes.f; rw [if_neg q]⟩⟩
        unfold spec_SlideLanes.f
        refine Ev.bind (sBoth b l m bl bm) (ev_if hq (ev_eq (sIn n 0 (l.length : Int)) ?_))
        rw [decide_eq_false hn]
        refine Ev.step (fun k => by rw [spec_SlideLanes.j0]) ?_
        exact ev_if rfl (Ev.now _)
    · have q : ¬ SlOk b l m n := fun h => hq ((vecs_two b l m).symm.trans h.1)
      refine ⟨[], false, by simp, ?_, ⟨0, fun k _ => by unfold impl_SlideLanes.f; rw [if_neg q]⟩⟩
      unfold spec_SlideLanes.f
      refine Ev.bind (sBoth b l m bl bm) (ev_else hq ?_)
      refine Ev.step (fun k => by rw [spec_SlideLanes.j0]) ?_
      exact ev_if rfl (Ev.now _)
  refine Ev.bind (toInt l bl) (Ev.bind (toInt m bm) (Ev.bind hs (Ev.bind (toInt l bl) (Ev.bind (toInt m bm) (Ev.bind hi (Ev.bind (eqSame o ho) (ev_if rfl ?_)))))))
  refine Ev.step (fun k => by rw [laws_FnExactSlideLanes.j0]) ?_
  refine ev_else (ne_self ok) (Ev.bind (toInt l bl) (Ev.bind (eqSame l bl) (ev_if rfl (Ev.bind (toInt m bm) (Ev.bind (eqSame m bm) (ev_if rfl (Ev.bind (V.mark l (1) bl (by omega)) (Ev.bind (V.mark m (1 + (l.length : Int)) bm (by omega)) (ev_else (by show ¬ (1 + (l.length : Int) + (m.length : Int) < 0); omega) (Ev.bind (eqSame o ho) (ev_if rfl ?_)))))))))))
  refine Ev.step (fun k => by rw [laws_FnExactSlideLanes.j1]) ?_
  refine ev_else (ne_self ok) (Ev.bind (V.mark o 1 ho (by omega)) (Ev.bind (V.held o.length 1 ho (by omega)) (ev_else (by show ¬ (1 + (o.length : Int) < 0); omega) (ev_if rfl (Ev.bind (toInt l bl) (Ev.bind (toInt m bm) (Ev.bind hi (Ev.bind (eqSame o ho) (ev_if rfl ?_)))))))))
  refine Ev.step (fun k => by rw [laws_FnExactSlideLanes.j2]) ?_
  exact ev_else (ne_self ok) (Ev.bind (V.held o.length 1 ho (by omega)) (ev_else (by show ¬ (1 + (o.length : Int) < 0); omega) (ev_if rfl (Ev.now _))))

end Go.Proofs.Ytpcjjminopdofaa.Pure
