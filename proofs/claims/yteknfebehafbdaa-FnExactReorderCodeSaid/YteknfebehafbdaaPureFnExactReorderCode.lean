/- For all arguments the law FnExactReorderCode answers true. No condition. -/
import Derived.Test.YteknfebehafbdaaK29
import Derived.Test.YteknfebehafbdaaV0
import Derived.Test.YteknfebehafbdaaVC
import Derived.Test.YteknfebehafbdaaVO
import Derived.Test.YteknfebehafbdaaVE
import Derived.Test.YteknfebehafbdaaVM
import Derived.Test.YteknfebehafbdaaVT
import Derived.Test.YteknfebehafbdaaVN
import Derived.Test.YteknfebehafbdaaVQ
import Derived.Test.YteknfebehafbdaaVR
import Derived.Test.YteknfebehafbdaaVY
namespace Go.Proofs.Yteknfebehafbdaa.Pure
open Go.RowKit Go.Proofs.Yteknfebehafbdaa.K Go.Proofs.Yteknfebehafbdaa.V Go.Proofs.Yteknfebehafbdaa.Bx Go.Proofs.YteknfebehafbdaaW.PrintWords Go.Proofs.YteknfebehafbdaaW.PrintLast
set_option linter.unusedVariables false

/-- The statements in an order. -/
def reo (l : List S58) (o : List Int) (n : Nat) : List S58 := (List.range n).map fun (i : Nat) => rd_T58 l (rd o (i : Int))
theorem reo_len (l : List S58) (o : List Int) (n : Nat) : (reo l o n).length = n := by unfold reo; simp
theorem reo_succ (l : List S58) (o : List Int) (n : Nat) : reo l o (n + 1) = reo l o n ++ [(⟨(rd_T58 l (rd o (n : Int))).f0, (rd_T58 l (rd o (n : Int))).f1, (rd_T58 l (rd o (n : Int))).f2, (rd_T58 l (rd o (n : Int))).f3⟩ : S58)] := by
  unfold reo
  rw [List.range_succ, List.map_append]; rfl
theorem ord_range {l : List S58} {o : List Int} (h : ordB l o = true) {k : Nat} (hk : k < o.length) : 0 ≤ rd o (k : Int) ∧ rd o (k : Int) < (l.length : Int) := by
  have := ((okAt_iff (by omega)).mp ((ordB_iff.mp h).2 k hk)).1
  omega
theorem sReo {l : List S58} {o : List Int} (h : ordB l o = true) (ho : o.length ≤ 1048576) : Ev (fun k => spec_ReorderCode.l0 k l o [] 0) (reo l o o.length, true) := by
  have key : ∀ d i : Nat, i + d = o.length → Ev (fun k => spec_ReorderCode.l0 k l o (reo l o i) (i : Int)) (reo l o o.length, true) := by
    intro d
    induction d with
    | zero =>
      intro i hi
      obtain rfl : i = o.length := by omega
      refine ⟨1, fun k hk => ?_⟩
      obtain ⟨k, rfl⟩ : ∃ m, k = m + 1 := ⟨k - 1, by omega⟩
      simp only [spec_ReorderCode.l0]
      rw [if_neg (by omega)]
    | succ d ih =>
      intro i hi
      obtain ⟨h0, h1⟩ := ord_range h (by omega : i < o.length)
      have hn := reo_len l o i
      refine Ev.step (fun k => ?_) (ih (i + 1) (by omega))
      simp only [spec_ReorderCode.l0]
      rw [if_pos (by omega), if_pos (by omega), if_pos h0, if_pos h1, if_pos (by omega), w1 (by omega), reo_succ]
  exact key o.length 0 (by omega)
theorem iReo {l : List S58} {o : List Int} (h : ordB l o = true) (ho : o.length ≤ 1048576) : Ev (fun k => impl_ReorderCode.l0 k l [] o (o.length : Int) 0) (reo l o o.length, true) := by
  have key : ∀ d i : Nat, i + d = o.length → Ev (fun k => impl_ReorderCode.l0 k l (reo l o i) o (o.length : Int) (i : Int)) (reo l o o.length, true) := by
    intro d
    induction d with
    | zero =>
      intro i hi
      obtain rfl : i = o.length := by omega
      refine ⟨1, fun k hk => ?_⟩
      obtain ⟨k, rfl⟩ : ∃ m, k = m + 1 := ⟨k - 1, by omega⟩
      simp only [impl_ReorderCode.l0]
      rw [if_neg (by omega)]
    | succ d ih =>
      intro i hi
      obtain ⟨h0, h1⟩ := ord_range h (by omega : i < o.length)
      have hn := reo_len l o i
      refine Ev.step (fun k => ?_) (ih (i + 1) (by omega))
      simp only [impl_ReorderCode.l0]
      rw [if_pos (by omega), if_pos (by omega), if_pos (by omega), if_pos h0, if_pos h1, if_pos (by omega), w1 (by omega), reo_succ]
  exact key o.length 0 (by omega)
theorem FnExactReorderCode : ∀ (l : List S62) (c : List Int), l.length ≤ 4398046511104 → c.length ≤ 17592186044415 → ∃ k, laws_FnExactReorderCode.f k l c = some true := by
  intro l c hm hm2
  refine Ev.rounds (g := fun k => laws_FnExactReorderCode.f k l c) ?_
  unfold laws_FnExactReorderCode.f
  by_cases hcc : (c.length : Int) > 1048576
  · exact ev_if hcc (Ev.now _)
  refine ev_else hcc (ev_eq (sz l hm) ?_)
  by_cases h : 1048576 < l.length
  · rw [if_pos h]
    exact ev_if (by decide) (Ev.now _)
  rw [if_neg h]
  refine ev_else (by omega) ?_
  have hl : l.length ≤ 1048576 := by omega
  have hc : (l.map cv).length ≤ 1048576 := by rw [List.length_map]; exact hl
  have bc : c.length ≤ 1048576 := by omega
  obtain ⟨o, ok, ho, hs, hi⟩ : ∃ (o : List S58) (ok : Bool), o.length ≤ 1048576 ∧ Ev (fun k => spec_ReorderCode.f k (l.map cv) c) (o, ok) ∧ Ev (fun k => impl_ReorderCode.f k (l.map cv) c) (o, ok) := by
    have badE : Ev (fun k => spec_ReorderCode.j0 k (l.map cv) c true) ([], false) := ⟨1, fun k hk => by
      obtain ⟨k, rfl⟩ : ∃ m, k = m + 1 := ⟨k - 1, by omega⟩
      simp only [spec_ReorderCode.j0]; rw [if_pos trivial]⟩
    have hii := iIsOrder (l.map cv) c hc bc
    cases hv : cOk (l.map cv) with
    | false =>
      refine ⟨[], false, by simp, ?_, ?_⟩
      · unfold spec_ReorderCode.f
        exact Ev.bind (sIs _ hc) (ev_else (by rw [hv]; decide) badE)
      · unfold impl_ReorderCode.f
        exact Ev.bind hii (ev_else (by rw [hv, Bool.false_and]; decide) (Ev.now _))
    | true =>
      cases hb : ordB (l.map cv) c with
      | false =>
        refine ⟨[], false, by simp, ?_, ?_⟩
        · unfold spec_ReorderCode.f spec_l03Order.f
          rw [if_pos hc]
          refine Ev.bind (sIs _ hc) (ev_if hv (ev_some ?_))
          rw [hb]
          exact badE
        · unfold impl_ReorderCode.f
          exact Ev.bind hii (ev_else (by rw [hv, hb]; decide) (Ev.now _))
      | true =>
        refine ⟨reo (l.map cv) c c.length, true, by rw [reo_len]; exact bc, ?_, ?_⟩
        · unfold spec_ReorderCode.f spec_l03Order.f
          rw [if_pos hc]
          refine Ev.bind (sIs _ hc) (ev_if hv (ev_some ?_))
          rw [hb]
          refine Ev.step (fun k => by simp only [spec_ReorderCode.j0]; rw [if_neg (by decide)]) (sReo hb bc)
        · unfold impl_ReorderCode.f
          exact Ev.bind hii (ev_if (by rw [hv, hb]; rfl) (iReo hb bc))
  have ht := V.markW (l.map cv) 1 hc (by omega)
  have e4 : ((l.map cv).length : Int) ≤ 1048576 := by omega
  refine Ev.bind (toStmt l hl) (Ev.bind (toInt c bc) (Ev.bind hs (Ev.bind (toStmt l hl) (Ev.bind (toInt c bc) (Ev.bind hi (Ev.bind (eqStmtSame o ho) (ev_if rfl ?_)))))))
  refine Ev.step (fun k => by rw [laws_FnExactReorderCode.j0]) ?_
  refine ev_else (ne_self ok) (Ev.bind (toStmt l hl) (Ev.bind (eqStmtSame _ hc) (ev_if rfl (Ev.bind (toInt c bc) (Ev.bind (eqSame c bc) (ev_if rfl (Ev.bind ht (Ev.bind (V.mark c (1 + 4 * ((l.map cv).length : Int)) bc (by omega)) (ev_else (by show ¬ (1 + 4 * ((l.map cv).length : Int) + (c.length : Int) < 0); omega) (Ev.bind (eqStmtSame o ho) (ev_if rfl ?_)))))))))))
  refine Ev.step (fun k => by rw [laws_FnExactReorderCode.j1]) ?_
  refine ev_else (ne_self ok) (Ev.bind (V.markW o 1 ho (by omega)) (Ev.bind (V.heldW o.length 1 ho (by omega)) (ev_else (by show ¬ (1 + 4 * (o.length : Int) < 0); omega) (ev_if rfl (Ev.bind (toStmt l hl) (Ev.bind (toInt c bc) (Ev.bind hi (Ev.bind (eqStmtSame o ho) (ev_if rfl ?_)))))))))
  refine Ev.step (fun k => by rw [laws_FnExactReorderCode.j2]) ?_
  exact ev_else (ne_self ok) (Ev.bind (V.heldW o.length 1 ho (by omega)) (ev_else (by show ¬ (1 + 4 * (o.length : Int) < 0); omega) (ev_if rfl (Ev.now _))))

end Go.Proofs.Yteknfebehafbdaa.Pure
