/- For all arguments the law FnExactInputsOf answers true. No condition. -/
import Derived.Test.YteknfebehafbdaaK7
import Derived.Test.YteknfebehafbdaaV0
import Derived.Test.YteknfebehafbdaaVC
import Derived.Test.YteknfebehafbdaaVE
import Derived.Test.YteknfebehafbdaaVM
import Derived.Test.YteknfebehafbdaaVS
import Derived.Test.YteknfebehafbdaaVP
import Derived.Test.YteknfebehafbdaaVJ
import Derived.Test.YteknfebehafbdaaVT
namespace Go.Proofs.Yteknfebehafbdaa.Pure
open Go.RowKit Go.Proofs.Yteknfebehafbdaa.K Go.Proofs.Yteknfebehafbdaa.V Go.Proofs.Yteknfebehafbdaa.Bx Go.Proofs.YteknfebehafbdaaW.PrintWords Go.Proofs.YteknfebehafbdaaW.PrintLast
set_option linter.unusedVariables false

theorem put_same (R : Nat → Bool) {a : Int} (h : 0 ≤ a) : put R a (R a.toNat) = R := by
  funext c
  unfold put
  by_cases e : (c : Int) = a
  · rw [if_pos e, ← e, Int.toNat_natCast]
  · rw [if_neg e]
/-- One cell read. -/
def rd1 (R W : Nat → Bool) (a : Int) : Nat → Bool := put R a (R a.toNat || !W a.toNat)
theorem rd1_t {R W : Nat → Bool} {a : Int} (h0 : 0 ≤ a) (h : W a.toNat = true) : rd1 R W a = R := by
  unfold rd1
  rw [h]
  simpa using put_same R h0
theorem rd1_f {R W : Nat → Bool} {a : Int} (h : W a.toNat = false) : rd1 R W a = put R a true := by
  unfold rd1
  rw [h]
  simp
theorem rdm_succ (l : List S58) (x : Nat) : rdm l (x + 1) = rd1 (rd1 (rdm l x) (wrm l x) (rd_T58 l (x : Int)).f2) (wrm l x) (rd_T58 l (x : Int)).f3 := rfl
theorem rdm_ok {l : List S58} (h : vOk l = true) : ∀ d i : Nat, i + d = l.length → Ev (fun k => spec_l03Inputs.l0 k l (setTo (rdm l i) 32) (setTo (wrm l i) 32) (i : Int)) (setTo (rdm l l.length) 32) := by
  have hl := vOk_len h
  intro d
  induction d with
  | zero =>
    intro i hi
    obtain rfl : i = l.length := by omega
    refine ⟨1, fun k hk => ?_⟩
    obtain ⟨k, rfl⟩ : ∃ m, k = m + 1 := ⟨k - 1, by omega⟩
    simp only [spec_l03Inputs.l0]
    rw [if_neg (by omega)]
  | succ d ih =>
    intro i hi
    obtain ⟨_, ⟨d0, d1⟩, ⟨a0, a1⟩, b0, b1⟩ := vOk_at h (by omega : i < l.length)
    have step2 : ∀ R : Nat → Bool, R = rd1 (rdm l i) (wrm l i) (rd_T58 l (i : Int)).f2 → Ev (fun k => spec_l03Inputs.j1 k l (setTo R 32) (setTo (wrm l i) 32) (i : Int)) (setTo (rdm l l.length) 32) := by
      intro R hR
      have hn := ih (i + 1) (by omega)
      rw [rdm_succ, ← hR] at hn
      refine Ev.step (f := fun k => (spec_l00Has.f k (setTo (wrm l i) 32) ((rd_T58 l (i : Int)).f3)).bind fun t => if t = true then ((spec_l00Put.f k (setTo (wrm l i) 32) ((rd_T58 l (i : Int)).f1)).bind fun u => spec_l03Inputs.l0 k l (setTo R 32) u ((i + 1 : Nat) : Int)) else ((spec_l00Put.f k (setTo R 32) ((rd_T58 l (i : Int)).f3)).bind fun v => ((spec_l00Put.f k (setTo (wrm l i) 32) ((rd_T58 l (i : Int)).f1)).bind fun u => spec_l03Inputs.l0 k l v u ((i + 1 : Nat) : Int)))) (fun k => ?_) (Ev.bind (sHasSet _ b0 b1) ?_)
      · simp only [spec_l03Inputs.j1]
        rw [if_pos (by omega), if_pos (by omega), w1 (by omega)]
      · cases hw : wrm l i (rd_T58 l (i : Int)).f3.toNat with
        | true =>
          rw [rd1_t b0 hw] at hn
          exact ev_if rfl (Ev.bind (sPutSet _ d0 d1) hn)
        | false =>
          rw [rd1_f hw] at hn
          exact ev_else (by decide) (Ev.bind (sPutSet _ b0 b1) (Ev.bind (sPutSet _ d0 d1) hn))
    refine Ev.step (f := fun k => (spec_l00Has.f k (setTo (wrm l i) 32) ((rd_T58 l (i : Int)).f2)).bind fun t => if t = true then (spec_l03Inputs.j1 k l (setTo (rdm l i) 32) (setTo (wrm l i) 32) (i : Int)) else ((spec_l00Put.f k (setTo (rdm l i) 32) ((rd_T58 l (i : Int)).f2)).bind fun u => spec_l03Inputs.j1 k l u (setTo (wrm l i) 32) (i : Int))) (fun k => ?_) (Ev.bind (sHasSet _ a0 a1) ?_)
    · simp only [spec_l03Inputs.l0]
      rw [if_pos (by omega), if_pos (by omega)]
    · cases hw : wrm l i (rd_T58 l (i : Int)).f2.toNat with
      | true => exact ev_if rfl (step2 _ (rd1_t a0 hw).symm)
      | false => exact ev_else (by decide) (Ev.bind (sPutSet _ a0 a1) (step2 _ (rd1_f hw).symm))
theorem FnExactInputsOf : ∀ l0 : List S62, l0.length ≤ 4398046511104 → ∃ k, laws_FnExactInputsOf.f k l0 = some true := by
  intro l hm
  refine Ev.rounds (g := fun k => laws_FnExactInputsOf.f k l) ?_
  unfold laws_FnExactInputsOf.f
  refine ev_eq (sz l hm) ?_
  by_cases h : 1048576 < l.length
  · rw [if_pos h]
    exact ev_if (by decide) (Ev.now _)
  rw [if_neg h]
  refine ev_else (by omega) ?_
  have hl : l.length ≤ 1048576 := by omega
  have hc : (l.map cv).length ≤ 1048576 := by rw [List.length_map]; exact hl
  obtain ⟨o, ok, ho, hs, hi⟩ : ∃ (o : List Int) (ok : Bool), o.length ≤ 1048576 ∧ Ev (fun k => spec_InputsOf.f k (l.map cv)) (o, ok) ∧ Ev (fun k => impl_InputsOf.f k (l.map cv)) (o, ok) := by
    by_cases hv : vOk (l.map cv) = true
    · refine ⟨setTo (rdm (l.map cv) (l.map cv).length) 32, true, by have := setTo_len (rdm (l.map cv) (l.map cv).length) 32; omega, ?_, ?_⟩
      · unfold spec_InputsOf.f
        refine Ev.bind (sIs _ hc) (ev_if hv (Ev.bind ?_ (Ev.now _)))
        unfold spec_l03Inputs.f
        exact rdm_ok hv (l.map cv).length 0 (by omega)
      · unfold impl_InputsOf.f
        rw [if_pos hv]
        exact Ev.now _
    · refine ⟨[], false, by simp, ?_, ?_⟩
      · unfold spec_InputsOf.f
        exact Ev.bind (sIs _ hc) (ev_else hv (Ev.now _))
      · unfold impl_InputsOf.f
        rw [if_neg hv]
        exact Ev.now _
  obtain ⟨t, ht⟩ := V.markS (l.map cv) 1 hc (by omega)
  refine Ev.bind (toStmt l hl) (Ev.bind hs (Ev.bind (toStmt l hl) (Ev.bind hi (Ev.bind (eqSame o ho) (ev_if rfl ?_)))))
  refine Ev.step (fun k => by rw [laws_FnExactInputsOf.j0]) ?_
  refine ev_else (ne_self ok) (Ev.bind (toStmt l hl) (Ev.bind (eqStmtSame _ hc) (ev_if rfl (Ev.bind ht (ev_else (by show ¬ (1 + 4 * ((l.map cv).length : Int) < 0); omega) (Ev.bind (eqSame o ho) (ev_if rfl ?_)))))))
  refine Ev.step (fun k => by rw [laws_FnExactInputsOf.j1]) ?_
  refine ev_else (ne_self ok) (Ev.bind (V.mark o 1 ho (by omega)) (Ev.bind (V.held o.length 1 ho (by omega)) (ev_else (by show ¬ (1 + (o.length : Int) < 0); omega) (ev_if rfl (Ev.bind (toStmt l hl) (Ev.bind hi (Ev.bind (eqSame o ho) (ev_if rfl ?_))))))))
  refine Ev.step (fun k => by rw [laws_FnExactInputsOf.j2]) ?_
  exact ev_else (ne_self ok) (Ev.bind (V.held o.length 1 ho (by omega)) (ev_else (by show ¬ (1 + (o.length : Int) < 0); omega) (ev_if rfl (Ev.now _))))

end Go.Proofs.Yteknfebehafbdaa.Pure
