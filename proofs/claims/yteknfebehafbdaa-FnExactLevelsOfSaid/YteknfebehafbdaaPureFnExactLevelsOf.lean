/- For all arguments the law FnExactLevelsOf answers true. No condition. -/
import Derived.Test.YteknfebehafbdaaK22
import Derived.Test.YteknfebehafbdaaV0
import Derived.Test.YteknfebehafbdaaVC
import Derived.Test.YteknfebehafbdaaVE
import Derived.Test.YteknfebehafbdaaVM
import Derived.Test.YteknfebehafbdaaVT
import Derived.Test.YteknfebehafbdaaVN
namespace Go.Proofs.Yteknfebehafbdaa.Pure
open Go.RowKit Go.Proofs.Yteknfebehafbdaa.K Go.Proofs.Yteknfebehafbdaa.V Go.Proofs.Yteknfebehafbdaa.Bx Go.Proofs.YteknfebehafbdaaW.PrintWords Go.Proofs.YteknfebehafbdaaW.PrintLast
set_option linter.unusedVariables false

theorem mx_lmx (a b : Int) : mx a b = lmx a b := by
  unfold mx lmx
  by_cases h : a < b
  · rw [if_pos h, if_neg (by omega)]
  · rw [if_neg h]
    by_cases h2 : a > b
    · rw [if_pos h2]
    · rw [if_neg h2]; omega
theorem rd_mid {A Z : List Int} {e : Int} {j : Nat} (h : A.length = j) : rd (A ++ e :: Z) (j : Int) = e := by
  rw [rd_nat, List.getD_eq_getElem?_getD, List.getElem?_append_right (by omega), h, Nat.sub_self]; rfl
theorem rd_left {A B : List Int} {i : Nat} (h : i < A.length) : rd (A ++ B) (i : Int) = rd A (i : Int) := by
  rw [rd_nat, rd_nat, List.getD_eq_getElem?_getD, List.getD_eq_getElem?_getD, List.getElem?_append_left h]
theorem set_mid {A Z : List Int} {e u : Int} {j : Nat} (h : A.length = j) : (A ++ e :: Z).set j u = A ++ u :: Z := by
  rw [List.set_append_right _ _ (by omega), h, Nat.sub_self]; rfl
theorem lv_in (l : List S58) (hl : l.length ≤ 1048576) {j : Nat} (hj : j < l.length) {r : List Int} (he : Ev (fun k => impl_levels.l0 k l (lvs l (j + 1) ++ List.replicate (l.length - 1 - j) 0) (l.length : Int) ((j + 1 : Nat) : Int)) r) : ∀ d i : Nat, i + d = j → Ev (fun k => impl_levels.l1 k l (lvs l j ++ lev l (lvs l j) j i :: List.replicate (l.length - 1 - j) 0) (j : Int) (l.length : Int) (j : Int) (j : Int) (i : Int)) r := by
  have hn := lvs_len l j
  intro d
  induction d with
  | zero =>
    intro i hi
    obtain rfl : i = j := by omega
    refine Ev.step (fun k => ?_) he
    simp only [impl_levels.l1]
    rw [if_neg (by omega), w1 (by omega)]
    simp [lvs]
  | succ d ih =>
    intro i hi
    have hn2 : (lvs l j ++ lev l (lvs l j) j i :: List.replicate (l.length - 1 - j) 0).length = l.length := by simp [hn]; omega
    cases hm : mst (rd_T58 l (i : Int)) (rd_T58 l (j : Int)) with
    | true =>
      refine Ev.step (fun k => ?_) (ih (i + 1) (by omega))
      simp only [impl_levels.l1]
      rw [if_pos (by omega), if_pos (by omega), if_pos (by omega), if_pos (by omega), if_pos (by omega), iFollows, Option.bind_some, hm, if_pos rfl, if_pos (by omega), if_pos (by omega), Int.toNat_natCast, rd_mid hn, rd_left (A := lvs l j) (i := i) (by omega), set_mid hn, w1 (by omega), lev_t hm, mx_lmx]
    | false =>
      refine Ev.step (fun k => ?_) (ih (i + 1) (by omega))
      simp only [impl_levels.l1]
      rw [if_pos (by omega), if_pos (by omega), if_pos (by omega), if_pos (by omega), if_pos (by omega), iFollows, Option.bind_some, hm, if_neg (by decide), w1 (by omega), lev_f hm]
theorem iLevels (l : List S58) (hl : l.length ≤ 1048576) : Ev (fun k => impl_levels.f k l) (lvs l l.length) := by
  unfold impl_levels.f
  refine ev_if (by omega) (ev_if (by omega) ?_)
  have key : ∀ d j : Nat, j + d = l.length → Ev (fun k => impl_levels.l0 k l (lvs l j ++ List.replicate (l.length - j) 0) (l.length : Int) (j : Int)) (lvs l l.length) := by
    intro d
    induction d with
    | zero =>
      intro j hj
      obtain rfl : j = l.length := by omega
      refine ⟨1, fun k hk => ?_⟩
      obtain ⟨k, rfl⟩ : ∃ m, k = m + 1 := ⟨k - 1, by omega⟩
      simp only [impl_levels.l0]
      rw [if_neg (by omega)]; simp
    | succ d ih =>
      intro j hj
      have hn := ih (j + 1) (by omega)
      rw [show l.length - (j + 1) = l.length - 1 - j by omega] at hn
      refine Ev.step (fun k => ?_) (lv_in l hl (by omega : j < l.length) hn j 0 (by omega))
      simp only [impl_levels.l0]
      rw [if_pos (by omega)]
      have e : List.replicate (l.length - j) (0 : Int) = lev l (lvs l j) j 0 :: List.replicate (l.length - 1 - j) 0 := by
        rw [show l.length - j = (l.length - 1 - j) + 1 by omega, List.replicate_succ]; rfl
      rw [e]; rfl
  have := key l.length 0 (by omega)
  simpa [lvs] using this
theorem FnExactLevelsOf : ∀ l0 : List S62, l0.length ≤ 4398046511104 → ∃ k, laws_FnExactLevelsOf.f k l0 = some true := by
  intro l hm
  refine Ev.rounds (g := fun k => laws_FnExactLevelsOf.f k l) ?_
  unfold laws_FnExactLevelsOf.f
  refine ev_eq (sz l hm) ?_
  by_cases h : 1048576 < l.length
  · rw [if_pos h]
    exact ev_if (by decide) (Ev.now _)
  rw [if_neg h]
  refine ev_else (by omega) ?_
  have hl : l.length ≤ 1048576 := by omega
  have hc : (l.map cv).length ≤ 1048576 := by rw [List.length_map]; exact hl
  obtain ⟨o, ok, ho, hs, hi⟩ : ∃ (o : List Int) (ok : Bool), o.length ≤ 1048576 ∧ Ev (fun k => spec_LevelsOf.f k (l.map cv)) (o, ok) ∧ Ev (fun k => impl_LevelsOf.f k (l.map cv)) (o, ok) := by
    cases hv : cOk (l.map cv) with
    | true =>
      refine ⟨lvs (l.map cv) (l.map cv).length, true, by rw [lvs_len]; exact hc, ?_, ?_⟩
      · unfold spec_LevelsOf.f
        refine Ev.bind (sIs _ hc) (ev_if hv (Ev.bind ?_ (Ev.now _)))
        unfold spec_l03Levels.f
        rw [if_pos hc]
        exact Ev.now _
      · unfold impl_LevelsOf.f
        simp only [iValid]
        exact ev_some (ev_if hv (Ev.bind (iLevels _ hc) (Ev.now _)))
    | false =>
      refine ⟨[], false, by simp, ?_, ?_⟩
      · unfold spec_LevelsOf.f
        exact Ev.bind (sIs _ hc) (ev_else (by rw [hv]; decide) (Ev.now _))
      · unfold impl_LevelsOf.f
        simp only [iValid]
        exact ev_some (ev_else (by rw [hv]; decide) (Ev.now _))
  obtain ⟨t, ht⟩ := V.markS (l.map cv) 1 hc (by omega)
  refine Ev.bind (toStmt l hl) (Ev.bind hs (Ev.bind (toStmt l hl) (Ev.bind hi (Ev.bind (eqSame o ho) (ev_if rfl ?_)))))
  refine Ev.step (fun k => by rw [laws_FnExactLevelsOf.j0]) ?_
  refine ev_else (ne_self ok) (Ev.bind (toStmt l hl) (Ev.bind (eqStmtSame _ hc) (ev_if rfl (Ev.bind ht (ev_else (by show ¬ (1 + 4 * ((l.map cv).length : Int) < 0); omega) (Ev.bind (eqSame o ho) (ev_if rfl ?_)))))))
  refine Ev.step (fun k => by rw [laws_FnExactLevelsOf.j1]) ?_
  refine ev_else (ne_self ok) (Ev.bind (V.mark o 1 ho (by omega)) (Ev.bind (V.held o.length 1 ho (by omega)) (ev_else (by show ¬ (1 + (o.length : Int) < 0); omega) (ev_if rfl (Ev.bind (toStmt l hl) (Ev.bind hi (Ev.bind (eqSame o ho) (ev_if rfl ?_))))))))
  refine Ev.step (fun k => by rw [laws_FnExactLevelsOf.j2]) ?_
  exact ev_else (ne_self ok) (Ev.bind (V.held o.length 1 ho (by omega)) (ev_else (by show ¬ (1 + (o.length : Int) < 0); omega) (ev_if rfl (Ev.now _))))

end Go.Proofs.Yteknfebehafbdaa.Pure
