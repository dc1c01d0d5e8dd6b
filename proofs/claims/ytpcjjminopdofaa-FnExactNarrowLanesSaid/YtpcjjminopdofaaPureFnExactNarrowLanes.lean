/- For all arguments the law FnExactNarrowLanes answers true. No condition. -/
import Derived.Test.YtpcjjminopdofaaK46
import Derived.Test.YtpcjjminopdofaaV5
namespace Go.Proofs.Ytpcjjminopdofaa.Pure
open Go.RowKit Go.Proofs.Ytpcjjminopdofaa.K Go.Proofs.Ytpcjjminopdofaa.V Go.Proofs.Ytpcjjminopdofaa.Bx Go.Proofs.YtpcjjminopdofaaW.PrintWords Go.Proofs.YtpcjjminopdofaaW.PrintLast
set_option linter.unusedVariables false

theorem own1 (l : List Int) (h : l.length ≤ 1048576) : spec_l00Own.f l = some l := by
  unfold spec_l00Own.f
  show (if ([] : List Int).length + l.length < 17592186044416 then some ([] ++ l) else none) = _
  rw [if_pos (by simp; omega)]
  rfl
theorem sNarL {b md : Int} {z : List Int} (hb : 8 ≤ b) (h0 : 0 ≤ md) (h2 : md ≤ 2) (hz : z.length ≤ 64) (hbb : Bits b) (hw : Words b z) : Ev (fun k => spec_NarrowLanes.l0 k b md (wrap64 (Int.tdiv b 2)) z [] 0) (narL b md z, true) := by
  have hB : Bits (b / 2) := by
    rcases hbb with rfl | rfl | rfl
    · omega
    · exact .inl rfl
    · exact .inr (.inl rfl)
  have e : wrap64 (Int.tdiv b 2) = b / 2 := by
    have := b_bounds hbb
    rw [tdiv2 (by omega), w_small (by omega)]
  have hM := @M_pos (b / 2)
  have hL := @M_le (b / 2)
  have h4 := b_bounds hB
  have h2M : 2 ≤ M (b / 2) := by rcases hB with h | h | h <;> rw [h] <;> decide
  have u1 : IntKind.u64.wrap (b / 2) = b / 2 := u_small (by omega)
  have u2 : IntKind.u64.wrap (wrap64 (b / 2 - 1)) = b / 2 - 1 := by rw [w_small (by omega), u_small (by omega)]
  rw [e]
  unfold narL
  refine loop_app (L := fun k acc i => spec_NarrowLanes.l0 k b md (b / 2) z acc i) z.length (fun (j : Nat) => nar b md (rd z (j : Int))) ?_ ?_
  · intro i acc hi ha hk
    have hx := words_rd hw (i := (i : Int)) (by omega) (by omega)
    refine Ev.step (f := fun k => if md = 1 then (if 0 ≤ IntKind.u64.wrap (b / 2) then ((spec_l00Min.f (rd z (i : Int)) (wrap64 ((shl .i64 1 (IntKind.u64.wrap (b / 2))) - 1))).bind fun t => spec_NarrowLanes.j2 k b md (b / 2) z acc (i : Int) t) else none) else spec_NarrowLanes.j2 k b md (b / 2) z acc (i : Int) (rd z (i : Int))) (fun k => by simp only [spec_NarrowLanes.l0]; rw [if_pos (by omega), if_pos (by omega)]) ?_
    have hwr : ∀ y, Ev (fun k => spec_NarrowLanes.l0 k b md (b / 2) z (acc ++ [y]) ((i + 1 : Nat) : Int)) ((List.range z.length).map (fun (j : Nat) => nar b md (rd z (j : Int))), true) → ∀ x, md ≠ 2 → x % M (b / 2) = y → Ev (fun k => spec_NarrowLanes.j2 k b md (b / 2) z acc (i : Int) x) ((List.range z.length).map (fun (j : Nat) => nar b md (rd z (j : Int))), true) := by
      intro y hy x hm hxy
      refine Ev.step (fun k => by rw [spec_NarrowLanes.j2]) ?_
      refine ev_else hm (ev_eq (sWrap hB x) (ev_if (by omega) ?_))
      rw [hxy, w1 (by omega)]
      exact hy
    by_cases m1 : md = 1
    · refine ev_if m1 (ev_if (by rw [u1]; omega) (ev_eq (sMin _ _) ?_))
      refine hwr _ hk _ (by omega) ?_
      have e1 : wrap64 (shl .i64 1 (IntKind.u64.wrap (b / 2)) - 1) = M (b / 2) - 1 := by rw [u1, shlB hB, w_small (by omega)]
      have e2 : nar b md (rd z (i : Int)) = mn (rd z (i : Int)) (M (b / 2) - 1) := by unfold nar; rw [if_neg (by omega), if_pos m1]
      have hx0 := hx.2.1
      rw [e1, e2]
      unfold mn
      by_cases h : rd z (i : Int) < M (b / 2) - 1
      · rw [if_pos h, if_neg (by omega), Int.emod_eq_of_lt hx0 (by omega)]
      · rw [if_neg h, Int.emod_eq_of_lt (by omega) (by omega)]
        split <;> omega
    · refine ev_else m1 ?_
      by_cases m0 : md = 0
      · refine hwr _ hk _ (by omega) ?_
        unfold nar
        rw [if_pos m0]
      · have m2 : md = 2 := by omega
        refine Ev.step (fun k => by rw [spec_NarrowLanes.j2]) ?_
        refine ev_if m2 (ev_if (by rw [u2]; omega) (ev_eq (sSg hx) (ev_eq (by rw [u2, shlB1 hB, w_small (by omega), w_small (by omega)]; exact sBetween _ _ _ (by omega)) (ev_eq (sWrap hB _) (ev_if (by omega) ?_)))))
        rw [w1 (by omega)]
        have e3 : nar b md (rd z (i : Int)) = clamp (sg b (rd z (i : Int))) (-(M (b / 2) / 2)) (M (b / 2) / 2 - 1) % M (b / 2) := by unfold nar; rw [if_neg m0, if_neg m1]
        simp only [e3] at hk
        exact hk
  · refine ⟨1, fun k hk => ?_⟩
    obtain ⟨k, rfl⟩ : ∃ m, k = m + 1 := ⟨k - 1, by omega⟩
    simp only [spec_NarrowLanes.l0]
    rw [if_neg (by omega)]
theorem FnExactNarrowLanes : laws_FnExactNarrowLanes.Pure := by
  intro b l m md _ _ _ _ _ _ _ _
  refine Ev.rounds (g := fun k => laws_FnExactNarrowLanes.f k b l m md) ?_
  unfold laws_FnExactNarrowLanes.f
  by_cases hl : (l.length : Int) > 1048576
  · exact ev_if hl (Ev.now _)
  refine ev_else hl ?_
  by_cases hm : (m.length : Int) > 1048576
  · exact ev_if hm (Ev.now _)
  refine ev_else hm ?_
  have bl : l.length ≤ 1048576 := by omega
  have bm : m.length ≤ 1048576 := by omega
  obtain ⟨o, ok, ho, hs, hi⟩ : ∃ (o : List Int) (ok : Bool), o.length ≤ 1048576 ∧ Ev (fun k => spec_NarrowLanes.f k b l m md) (o, ok) ∧ Ev (fun k => impl_NarrowLanes.f k b l m md) (o, ok) := by
    by_cases hq : both b l m = true
    · have hB := both_iff hq
      have h16 := lanes_le hB.2.1
      have hv : vecs b [l, m] = true := (vecs_two b l m).trans hq
      by_cases h4 : b = 4
      · have q : ¬ NarOk b md l m := fun h => by have := h.1; omega
        refine ⟨[], false, by simp, ?_, ⟨0, fun k _ => by unfold impl_NarrowLanes.f; rw [if_neg q]⟩⟩
        unfold spec_NarrowLanes.f
        refine Ev.bind (sBoth b l m bl bm) (ev_if hq (ev_if h4 ?_))
        refine Ev.step (fun k => by rw [spec_NarrowLanes.j0]) ?_
        exact ev_if rfl (Ev.now _)
      · have hb8 : 8 ≤ b := by rcases hB.1 with rfl | rfl | rfl <;> omega
        by_cases h8 : l.length ≤ 8
        · by_cases hm : 0 ≤ md ∧ md ≤ 2
          · have q : NarOk b md l m := ⟨hb8, hv, h8, hm.1, hm.2⟩
            refine ⟨narL b md (l ++ m), true, by unfold narL; simp; omega, ?_, ⟨0, fun k _ => by unfold impl_NarrowLanes.f; rw [if_pos q]⟩⟩
            unfold spec_NarrowLanes.f
            refine Ev.bind (sBoth b l m bl bm) (ev_if hq (ev_else h4 (ev_else (by omega) (ev_eq (sIn md 0 2) ?_))))
            rw [decide_eq_true hm]
            refine Ev.step (fun k => by rw [spec_NarrowLanes.j0]) ?_
            refine ev_else (by decide) (ev_eq (own1 l bl) (ev_if (by omega) ?_))
            exact sNarL hb8 hm.1 hm.2 (by rw [List.length_append]; omega) hB.1 (fun x hx => (List.mem_append.mp hx).elim (hB.2.2.1 x) (hB.2.2.2.1 x))
          · have q : ¬ NarOk b md l m := fun h => hm ⟨h.2.2.2.1, h.2.2.2.2⟩
            refine ⟨[], false, by simp, ?_, ⟨0, fun k _ => by unfold impl_NarrowLanes.f; rw [if_neg q]⟩⟩
            unfold spec_NarrowLanes.f
            refine Ev.bind (sBoth b l m bl bm) (ev_if hq (ev_else h4 (ev_else (by omega) (ev_eq (sIn md 0 2) ?_))))
            rw [decide_eq_false hm]
            refine Ev.step (fun k => by rw [spec_NarrowLanes.j0]) ?_
            exact ev_if rfl (Ev.now _)
        · have q : ¬ NarOk b md l m := fun h => h8 h.2.2.1
          refine ⟨[], false, by simp, ?_, ⟨0, fun k _ => by unfold impl_NarrowLanes.f; rw [if_neg q]⟩⟩
          unfold spec_NarrowLanes.f
          refine Ev.bind (sBoth b l m bl bm) (ev_if hq (ev_else h4 (ev_if (by omega) ?_)))
          refine Ev.step (fun k => by rw [spec_NarrowLanes.j0]) ?_
          exact ev_if rfl (Ev.now _)
    · have q : ¬ NarOk b md l m := fun h => hq ((vecs_two b l m).symm.trans h.2.1)
      refine ⟨[], false, by simp, ?_, ⟨0, fun k _ => by unfold impl_NarrowLanes.f; rw [if_neg q]⟩⟩
      unfold spec_NarrowLanes.f
      refine Ev.bind (sBoth b l m bl bm) (ev_else hq ?_)
      refine Ev.step (fun k => by rw [spec_NarrowLanes.j0]) ?_
      exact ev_if rfl (Ev.now _)
  refine Ev.bind (toInt l bl) (Ev.bind (toInt m bm) (Ev.bind hs (Ev.bind (toInt l bl) (Ev.bind (toInt m bm) (Ev.bind hi (Ev.bind (eqSame o ho) (ev_if rfl ?_)))))))
  refine Ev.step (fun k => by rw [laws_FnExactNarrowLanes.j0]) ?_
  refine ev_else (ne_self ok) (Ev.bind (toInt l bl) (Ev.bind (eqSame l bl) (ev_if rfl (Ev.bind (toInt m bm) (Ev.bind (eqSame m bm) (ev_if rfl (Ev.bind (V.mark l (1) bl (by omega)) (Ev.bind (V.mark m (1 + (l.length : Int)) bm (by omega)) (ev_else (by show ¬ (1 + (l.length : Int) + (m.length : Int) < 0); omega) (Ev.bind (eqSame o ho) (ev_if rfl ?_)))))))))))
  refine Ev.step (fun k => by rw [laws_FnExactNarrowLanes.j1]) ?_
  refine ev_else (ne_self ok) (Ev.bind (V.mark o 1 ho (by omega)) (Ev.bind (V.held o.length 1 ho (by omega)) (ev_else (by show ¬ (1 + (o.length : Int) < 0); omega) (ev_if rfl (Ev.bind (toInt l bl) (Ev.bind (toInt m bm) (Ev.bind hi (Ev.bind (eqSame o ho) (ev_if rfl ?_)))))))))
  refine Ev.step (fun k => by rw [laws_FnExactNarrowLanes.j2]) ?_
  exact ev_else (ne_self ok) (Ev.bind (V.held o.length 1 ho (by omega)) (ev_else (by show ¬ (1 + (o.length : Int) < 0); omega) (ev_if rfl (Ev.now _))))

end Go.Proofs.Ytpcjjminopdofaa.Pure
