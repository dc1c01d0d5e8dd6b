/- For all arguments the law FnExactDeinterleaveLanes answers true. No condition. -/
import Derived.Test.YtpcjjminopdofaaK43
import Derived.Test.YtpcjjminopdofaaV5
namespace Go.Proofs.Ytpcjjminopdofaa.Pure
open Go.RowKit Go.Proofs.Ytpcjjminopdofaa.K Go.Proofs.Ytpcjjminopdofaa.V Go.Proofs.Ytpcjjminopdofaa.Bx Go.Proofs.YtpcjjminopdofaaW.PrintWords Go.Proofs.YtpcjjminopdofaaW.PrintLast
set_option linter.unusedVariables false

theorem own1 (l : List Int) (h : l.length ≤ 1048576) : spec_l00Own.f l = some l := by
  unfold spec_l00Own.f
  show (if ([] : List Int).length + l.length < 17592186044416 then some ([] ++ l) else none) = _
  rw [if_pos (by simp; omega)]
  rfl
theorem loop_dei {β : Type} {L : Nat → List Int → List Int → Int → Option β} {r : β} (n : Nat) (F G : Nat → Int)
    (hs : ∀ (i : Nat) (e o : List Int), i < n → e.length = i → o.length = i → Ev (fun k => L k (e ++ [F i]) (o ++ [G i]) ((2 * (i + 1) : Nat) : Int)) r → Ev (fun k => L k e o ((2 * i : Nat) : Int)) r)
    (he : Ev (fun k => L k ((List.range n).map F) ((List.range n).map G) ((2 * n : Nat) : Int)) r) : Ev (fun k => L k [] [] 0) r := by
  have key : ∀ d i : Nat, i + d = n → Ev (fun k => L k ((List.range i).map F) ((List.range i).map G) ((2 * i : Nat) : Int)) r := by
    intro d
    induction d with
    | zero => intro i hi; obtain rfl : i = n := by omega
              exact he
    | succ d ih =>
      intro i hi
      refine hs i _ _ (by omega) (by simp) (by simp) ?_
      rw [range_end, range_end]
      exact ih (i + 1) (by omega)
  exact key n 0 (by omega)
theorem FnExactDeinterleaveLanes : laws_FnExactDeinterleaveLanes.Pure := by
  intro b l m _ _ _ _ _ _ _
  refine Ev.rounds (g := fun k => laws_FnExactDeinterleaveLanes.f k b l m) ?_
  unfold laws_FnExactDeinterleaveLanes.f
  by_cases hh : (l.length : Int) > 1048576
  · exact ev_if hh (Ev.now _)
  refine ev_else hh ?_
  by_cases hh2 : (m.length : Int) > 1048576
  · exact ev_if hh2 (Ev.now _)
  refine ev_else hh2 ?_
  have bl : l.length ≤ 1048576 := by omega
  have bm : m.length ≤ 1048576 := by omega
  obtain ⟨o, p, ok, ho, hp, hs, hi⟩ : ∃ (o p : List Int) (ok : Bool), o.length ≤ 1048576 ∧ p.length ≤ 1048576 ∧ Ev (fun k => spec_DeinterleaveLanes.f k b l m) (o, p, ok) ∧ Ev (fun k => impl_DeinterleaveLanes.f k b l m) (o, p, ok) := by
    by_cases q : vecs b [l, m] = true
    · have hq := (vecs_two b l m).symm.trans q
      obtain ⟨_, hL, hl, hm, he⟩ := both_iff hq
      have h16 := lanes_le hL
      refine ⟨dei 0 l m, dei 1 l m, true, by unfold dei; simpa using bl, by unfold dei; simpa using bl, ?_, ⟨0, fun k _ => by unfold impl_DeinterleaveLanes.f; rw [if_pos q]⟩⟩
      unfold spec_DeinterleaveLanes.f
      refine Ev.bind (sBoth b l m bl bm) (ev_if hq (ev_eq (own1 l bl) (ev_if (by omega) ?_)))
      unfold dei
      have hzl : (l ++ m).length = 2 * l.length := by rw [List.length_append]; omega
      generalize l ++ m = z at hzl ⊢
      refine loop_dei (L := fun k e o i => spec_DeinterleaveLanes.l0 k z e o i) l.length (fun (j : Nat) => rd z ((2 * j + 0 : Nat) : Int)) (fun (j : Nat) => rd z ((2 * j + 1 : Nat) : Int)) ?_ ?_
      · intro i e o hi he ho hk
        refine Ev.step (fun k => ?_) hk
        simp only [spec_DeinterleaveLanes.l0]
        have e1 : wrap64 (((2 * i : Nat) : Int) + 1) = ((2 * i + 1 : Nat) : Int) := by rw [w_small (by omega)]; omega
        have e2 : wrap64 (((2 * i : Nat) : Int) + 2) = ((2 * (i + 1) : Nat) : Int) := by rw [w_small (by omega)]; omega
        rw [if_pos (by omega), if_pos (by omega), if_pos (by omega), e1, if_pos (by omega), if_pos (by omega), if_pos (by omega), e2]
        rfl
      · refine ⟨1, fun k hk => ?_⟩
        obtain ⟨k, rfl⟩ : ∃ m, k = m + 1 := ⟨k - 1, by omega⟩
        simp only [spec_DeinterleaveLanes.l0]
        rw [if_neg (by omega)]
    · refine ⟨[], [], false, by simp, by simp, ?_, ⟨0, fun k _ => by unfold impl_DeinterleaveLanes.f; rw [if_neg q]⟩⟩
      unfold spec_DeinterleaveLanes.f
      refine Ev.bind (sBoth b l m bl bm) ?_
      exact ev_else (by rw [← vecs_two]; exact q) (Ev.now _)
  refine Ev.bind (toInt l bl) (Ev.bind (toInt m bm) (Ev.bind hs (Ev.bind (toInt l bl) (Ev.bind (toInt m bm) (Ev.bind hi (Ev.bind (eqSame o ho) (ev_if rfl (Ev.bind (eqSame p hp) (ev_if rfl ?_)))))))))
  refine Ev.step (fun k => by rw [laws_FnExactDeinterleaveLanes.j0]) ?_
  refine ev_else (ne_self ok) (Ev.bind (toInt l bl) (Ev.bind (eqSame l bl) (ev_if rfl (Ev.bind (toInt m bm) (Ev.bind (eqSame m bm) (ev_if rfl (Ev.bind (V.mark l (1) bl (by omega)) (Ev.bind (V.mark m (1 + (l.length : Int)) bm (by omega)) (ev_else (by show ¬ (1 + (l.length : Int) + (m.length : Int) < 0); omega) (Ev.bind (eqSame o ho) (ev_if rfl (Ev.bind (eqSame p hp) (ev_if rfl ?_)))))))))))))
  refine Ev.step (fun k => by rw [laws_FnExactDeinterleaveLanes.j1]) ?_
  refine ev_else (ne_self ok) (Ev.bind (V.mark o 1 ho (by omega)) (Ev.bind (V.mark p (1 + (o.length : Int)) hp (by omega)) (Ev.bind (V.held o.length 1 ho (by omega)) (ev_else (by show ¬ (1 + (o.length : Int) < 0); omega) (Ev.bind (V.held p.length (1 + (o.length : Int)) hp (by omega)) (ev_else (by show ¬ (1 + (o.length : Int) + (p.length : Int) < 0); omega) (ev_if rfl (Ev.bind (toInt l bl) (Ev.bind (toInt m bm) (Ev.bind hi (Ev.bind (eqSame o ho) (ev_if rfl (Ev.bind (eqSame p hp) (ev_if rfl ?_))))))))))))))
  refine Ev.step (fun k => by rw [laws_FnExactDeinterleaveLanes.j2]) ?_
  exact ev_else (ne_self ok) (Ev.bind (V.held o.length 1 ho (by omega)) (ev_else (by show ¬ (1 + (o.length : Int) < 0); omega) (Ev.bind (V.held p.length (1 + (o.length : Int)) hp (by omega)) (ev_else (by show ¬ (1 + (o.length : Int) + (p.length : Int) < 0); omega) (ev_if rfl (Ev.now _))))))

end Go.Proofs.Ytpcjjminopdofaa.Pure
