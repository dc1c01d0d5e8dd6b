/- For all arguments the law FnExactInterleaveLanes answers true. No condition. -/
import Derived.Test.YtpcjjminopdofaaK38
import Derived.Test.YtpcjjminopdofaaV5
namespace Go.Proofs.Ytpcjjminopdofaa.Pure
open Go.RowKit Go.Proofs.Ytpcjjminopdofaa.K Go.Proofs.Ytpcjjminopdofaa.V Go.Proofs.Ytpcjjminopdofaa.Bx Go.Proofs.YtpcjjminopdofaaW.PrintWords Go.Proofs.YtpcjjminopdofaaW.PrintLast
set_option linter.unusedVariables false

theorem own1 (l : List Int) (h : l.length ≤ 1048576) : spec_l00Own.f l = some l := by
  unfold spec_l00Own.f
  show (if ([] : List Int).length + l.length < 17592186044416 then some ([] ++ l) else none) = _
  rw [if_pos (by simp; omega)]
  rfl
theorem pair_end (F : Nat → Int) (i : Nat) : (List.range (2 * i)).map F ++ [F (2 * i)] ++ [F (2 * i + 1)] = (List.range (2 * (i + 1))).map F := by
  rw [range_end, range_end]; rfl
theorem loop_app2 {β : Type} {L : Nat → List Int → Int → Option β} {r : β} (n : Nat) (F : Nat → Int)
    (hs : ∀ (i : Nat) (acc : List Int), i < n → acc.length = 2 * i → Ev (fun k => L k (acc ++ [F (2 * i)] ++ [F (2 * i + 1)]) ((i + 1 : Nat) : Int)) r → Ev (fun k => L k acc (i : Int)) r)
    (he : Ev (fun k => L k ((List.range (2 * n)).map F) (n : Int)) r) : Ev (fun k => L k [] 0) r := by
  have key : ∀ d i : Nat, i + d = n → Ev (fun k => L k ((List.range (2 * i)).map F) (i : Int)) r := by
    intro d
    induction d with
    | zero => intro i hi; obtain rfl : i = n := by omega
              exact he
    | succ d ih =>
      intro i hi
      refine hs i _ (by omega) (by simp) ?_
      rw [pair_end]
      exact ih (i + 1) (by omega)
  exact key n 0 (by omega)
theorem FnExactInterleaveLanes : laws_FnExactInterleaveLanes.Pure := by
  intro b l m _ _ _ _ _ _ _
  refine Ev.rounds (g := fun k => laws_FnExactInterleaveLanes.f k b l m) ?_
  unfold laws_FnExactInterleaveLanes.f
  by_cases hh : (l.length : Int) > 1048576
  · exact ev_if hh (Ev.now _)
  refine ev_else hh ?_
  by_cases hh2 : (m.length : Int) > 1048576
  · exact ev_if hh2 (Ev.now _)
  refine ev_else hh2 ?_
  have bl : l.length ≤ 1048576 := by omega
  have bm : m.length ≤ 1048576 := by omega
  obtain ⟨o, p, ok, ho, hp, hs, hi⟩ : ∃ (o p : List Int) (ok : Bool), o.length ≤ 1048576 ∧ p.length ≤ 1048576 ∧ Ev (fun k => spec_InterleaveLanes.f k b l m) (o, p, ok) ∧ Ev (fun k => impl_InterleaveLanes.f k b l m) (o, p, ok) := by
    by_cases q : vecs b [l, m] = true
    · have hq := (vecs_two b l m).symm.trans q
      obtain ⟨_, hL, hl, hm, he⟩ := both_iff hq
      have h16 := lanes_le hL
      have hlen : (ilw l m).length = 2 * l.length := by unfold ilw; simp
      refine ⟨(ilw l m).take l.length, (ilw l m).drop l.length, true, by rw [List.length_take]; omega, by rw [List.length_drop]; omega, ?_, ⟨0, fun k _ => by unfold impl_InterleaveLanes.f; rw [if_pos q]⟩⟩
      unfold spec_InterleaveLanes.f
      refine Ev.bind (sBoth b l m bl bm) (ev_if hq ?_)
      refine loop_app2 (L := fun k acc i => spec_InterleaveLanes.l0 k l m acc i) l.length (ilv l m) ?_ ?_
      · intro i acc hi ha hk
        refine Ev.step (fun k => ?_) hk
        simp only [spec_InterleaveLanes.l0]
        have e1 : ilv l m (2 * i) = rd l (i : Int) := by
          unfold ilv
          rw [if_pos (by omega), show 2 * i / 2 = i by omega]
        have e2 : ilv l m (2 * i + 1) = rd m (i : Int) := by
          unfold ilv
          rw [if_neg (by omega), show (2 * i + 1) / 2 = i by omega]
        rw [if_pos (by omega), if_pos (by omega), if_pos (by omega), Option.bind_some, if_pos (by omega), if_pos (by rw [List.length_append]; simp; omega), w1 (by omega), e1, e2]
      · show Ev (fun k => spec_InterleaveLanes.l0 k l m (ilw l m) (l.length : Int)) _
        generalize ilw l m = z at hlen ⊢
        refine ⟨1, fun k hk => ?_⟩
        obtain ⟨k, rfl⟩ : ∃ m, k = m + 1 := ⟨k - 1, by omega⟩
        simp only [spec_InterleaveLanes.l0]
        rw [if_neg (by omega), if_pos (by omega), if_pos (by omega), Int.toNat_natCast, own1 _ (by rw [List.length_take]; omega), own1 _ (by rw [List.length_drop]; omega)]
        rfl
    · refine ⟨[], [], false, by simp, by simp, ?_, ⟨0, fun k _ => by unfold impl_InterleaveLanes.f; rw [if_neg q]⟩⟩
      unfold spec_InterleaveLanes.f
      refine Ev.bind (sBoth b l m bl bm) ?_
      exact ev_else (by rw [← vecs_two]; exact q) (Ev.now _)
  refine Ev.bind (toInt l bl) (Ev.bind (toInt m bm) (Ev.bind hs (Ev.bind (toInt l bl) (Ev.bind (toInt m bm) (Ev.bind hi (Ev.bind (eqSame o ho) (ev_if rfl (Ev.bind (eqSame p hp) (ev_if rfl ?_)))))))))
  refine Ev.step (fun k => by rw [laws_FnExactInterleaveLanes.j0]) ?_
  refine ev_else (ne_self ok) (Ev.bind (toInt l bl) (Ev.bind (eqSame l bl) (ev_if rfl (Ev.bind (toInt m bm) (Ev.bind (eqSame m bm) (ev_if rfl (Ev.bind (V.mark l (1) bl (by omega)) (Ev.bind (V.mark m (1 + (l.length : Int)) bm (by omega)) (ev_else (by show ¬ (1 + (l.length : Int) + (m.length : Int) < 0); omega) (Ev.bind (eqSame o ho) (ev_if rfl (Ev.bind (eqSame p hp) (ev_if rfl ?_)))))))))))))
  refine Ev.step (fun k => by rw [laws_FnExactInterleaveLanes.j1]) ?_
  refine ev_else (ne_self ok) (Ev.bind (V.mark o 1 ho (by omega)) (Ev.bind (V.mark p (1 + (o.length : Int)) hp (by omega)) (Ev.bind (V.held o.length 1 ho (by omega)) (ev_else (by show ¬ (1 + (o.length : Int) < 0); omega) (Ev.bind (V.held p.length (1 + (o.length : Int)) hp (by omega)) (ev_else (by show ¬ (1 + (o.length : Int) + (p.length : Int) < 0); omega) (ev_if rfl (Ev.bind (toInt l bl) (Ev.bind (toInt m bm) (Ev.bind hi (Ev.bind (eqSame o ho) (ev_if rfl (Ev.bind (eqSame p hp) (ev_if rfl ?_))))))))))))))
  refine Ev.step (fun k => by rw [laws_FnExactInterleaveLanes.j2]) ?_
  exact ev_else (ne_self ok) (Ev.bind (V.held o.length 1 ho (by omega)) (ev_else (by show ¬ (1 + (o.length : Int) < 0); omega) (Ev.bind (V.held p.length (1 + (o.length : Int)) hp (by omega)) (ev_else (by show ¬ (1 + (o.length : Int) + (p.length : Int) < 0); omega) (ev_if rfl (Ev.now _))))))

end Go.Proofs.Ytpcjjminopdofaa.Pure
