/- For all arguments the law FnExactRunCode answers true. No condition. -/
import Derived.Test.YteknfebehafbdaaK20
import Derived.Test.YteknfebehafbdaaV0
import Derived.Test.YteknfebehafbdaaVC
import Derived.Test.YteknfebehafbdaaVO
import Derived.Test.YteknfebehafbdaaVE
import Derived.Test.YteknfebehafbdaaVM
import Derived.Test.YteknfebehafbdaaVT
import Derived.Test.YteknfebehafbdaaSA
import Derived.Test.YteknfebehafbdaaSC
import Derived.Test.YteknfebehafbdaaVW
namespace Go.Proofs.Yteknfebehafbdaa.Pure
open Go.RowKit Go.Proofs.Yteknfebehafbdaa.K Go.Proofs.Yteknfebehafbdaa.V Go.Proofs.Yteknfebehafbdaa.Bx Go.Proofs.YteknfebehafbdaaW.PrintWords Go.Proofs.YteknfebehafbdaaW.PrintLast
set_option linter.unusedVariables false

theorem sOwn (l : List Int) (h : l.length ≤ 1048576) : spec_l00Own.f l = some l := by
  unfold spec_l00Own.f
  show (if ([] : List Int).length + l.length < 17592186044416 then some ([] ++ l) else none) = _
  rw [if_pos (by simp; omega)]
  rfl
/-- The cells behind the first i statements. -/
def runOf (b : Int) (l : List S58) (c : List Int) : Nat → List Int
  | 0 => c
  | i + 1 => (runOf b l c i).set (rd_T58 l (i : Int)).f1.toNat (res (rd_T58 l (i : Int)).f0 b (rd (runOf b l c i) (rd_T58 l (i : Int)).f2) (rd (runOf b l c i) (rd_T58 l (i : Int)).f3))
theorem runOf_len (b : Int) (l : List S58) (c : List Int) (i : Nat) : (runOf b l c i).length = c.length := by
  induction i with
  | zero => rfl
  | succ i ih => simp [runOf, ih]
theorem runOf_words {b : Int} {l : List S58} {c : List Int} (hv : cOk l = true) (hc : Words b c) (h32 : c.length = 32) : ∀ i, i ≤ l.length → Words b (runOf b l c i) := by
  intro i
  induction i with
  | zero => intro _; exact hc
  | succ i ih =>
    intro hi x hx
    have h := ih (by omega)
    obtain ⟨_, ⟨d0, d1⟩, ⟨a0, a1⟩, b0, b1⟩ := cOk_at hv (by omega : i < l.length)
    have hn := runOf_len b l c i
    rcases List.mem_or_eq_of_mem_set hx with h1 | h1
    · exact h x h1
    · rw [h1]
      exact res_word (h _ (rd_mem a0 (by omega))) (h _ (rd_mem b0 (by omega)))
theorem sRun {b : Int} {l : List S58} {c : List Int} (hv : cOk l = true) (hc : Words b c) (h32 : c.length = 32) (hl : l.length ≤ 1048576) : Ev (fun k => spec_l03Run.l0 k b l c 0) (runOf b l c l.length) := by
  have key : ∀ d i : Nat, i + d = l.length → Ev (fun k => spec_l03Run.l0 k b l (runOf b l c i) (i : Int)) (runOf b l c l.length) := by
    intro d
    induction d with
    | zero =>
      intro i hi
      obtain rfl : i = l.length := by omega
      refine ⟨1, fun k hk => ?_⟩
      obtain ⟨k, rfl⟩ : ∃ m, k = m + 1 := ⟨k - 1, by omega⟩
      simp only [spec_l03Run.l0]
      rw [if_neg (by omega)]
    | succ d ih =>
      intro i hi
      obtain ⟨ho, ⟨d0, d1⟩, ⟨a0, a1⟩, b0, b1⟩ := cOk_at hv (by omega : i < l.length)
      have hn := runOf_len b l c i
      have hw := runOf_words hv hc h32 i (by omega)
      refine Ev.step (fun k => ?_) (ih (i + 1) (by omega))
      simp only [spec_l03Run.l0]
      rw [if_pos (by omega), if_pos (by omega), if_pos a0, if_pos (by omega), if_pos b0, if_pos (by omega), sResult ho (hw _ (rd_mem a0 (by omega))) (hw _ (rd_mem b0 (by omega))), Option.bind_some, if_pos d0, if_pos (by omega), w1 (by omega)]
      rfl
  have := key l.length 0 (by omega)
  simpa [runOf] using this
theorem iRun {b : Int} {l : List S58} {c : List Int} (hv : cOk l = true) (hc : Words b c) (h32 : c.length = 32) (hl : l.length ≤ 1048576) : Ev (fun k => impl_run.l0 k b c l (l.length : Int) 0) (runOf b l c l.length) := by
  have key : ∀ d i : Nat, i + d = l.length → Ev (fun k => impl_run.l0 k b (runOf b l c i) l (l.length : Int) (i : Int)) (runOf b l c l.length) := by
    intro d
    induction d with
    | zero =>
      intro i hi
      obtain rfl : i = l.length := by omega
      refine ⟨1, fun k hk => ?_⟩
      obtain ⟨k, rfl⟩ : ∃ m, k = m + 1 := ⟨k - 1, by omega⟩
      simp only [impl_run.l0]
      rw [if_neg (by omega)]
    | succ d ih =>
      intro i hi
      obtain ⟨ho, ⟨d0, d1⟩, ⟨a0, a1⟩, b0, b1⟩ := cOk_at hv (by omega : i < l.length)
      have hn := runOf_len b l c i
      have hw := runOf_words hv hc h32 i (by omega)
      refine Ev.step (fun k => ?_) (ih (i + 1) (by omega))
      simp only [impl_run.l0]
      rw [if_pos (by omega), if_pos (by omega), if_pos (by omega), if_pos a0, if_pos (by omega), if_pos b0, if_pos (by omega), iResult ho (hw _ (rd_mem a0 (by omega))) (hw _ (rd_mem b0 (by omega))), Option.bind_some, if_pos d0, if_pos (by omega), w1 (by omega)]
      rfl
  have := key l.length 0 (by omega)
  simpa [runOf] using this
theorem celB_words {b : Int} {l : List Int} (h : celB b l = true) : Words b l ∧ l.length = 32 := by
  unfold celB at h
  rw [Bool.and_eq_true, Bool.and_eq_true, List.all_eq_true] at h
  refine ⟨fun x hx => ?_, of_decide_eq_true h.2.1⟩
  obtain ⟨i, hi, rfl⟩ := List.getElem_of_mem hx
  have := of_decide_eq_true (h.2.2 i (List.mem_range.mpr hi))
  rw [rd_nat, List.getD_eq_getElem?_getD, List.getElem?_eq_getElem hi] at this
  exact this
theorem FnExactRunCode : ∀ (b : Int) (l : List S62) (c : List Int), (Lit.int .i64 b).wf = true → l.length ≤ 4398046511104 → c.length ≤ 17592186044415 → ∃ k, laws_FnExactRunCode.f k b l c = some true := by
  intro b l c _ hm hm2
  refine Ev.rounds (g := fun k => laws_FnExactRunCode.f k b l c) ?_
  unfold laws_FnExactRunCode.f
  by_cases hcc : (c.length : Int) > 1048576
  · exact ev_if hcc (Ev.now _)
  refine ev_else hcc (ev_eq (sz l hm) ?_)
  by_cases h : 1048576 < l.length
  · rw [if_pos h]
    exact ev_if (by decide) (Ev.now _)
  rw [if_neg h]
  refine ev_else (by omega) ?_
  have hl : l.length ≤ 1048576 := by omega
  have hc : (l.map cv).length ≤ 1048576 := by rw [List.length_map]; exact hl
  have bc : c.length ≤ 1048576 := by omega
  obtain ⟨o, ok, ho, hs, hi⟩ : ∃ (o : List Int) (ok : Bool), o.length ≤ 1048576 ∧ Ev (fun k => spec_RunCode.f k b (l.map cv) c) (o, ok) ∧ Ev (fun k => impl_RunCode.f k b (l.map cv) c) (o, ok) := by
    cases hv : cOk (l.map cv) with
    | false =>
      refine ⟨[], false, by simp, ?_, ?_⟩
      · unfold spec_RunCode.f
        exact Ev.bind (sIs _ hc) (ev_else (by rw [hv]; decide) (Ev.now _))
      · unfold impl_RunCode.f
        simp only [iValid]
        exact ev_some (ev_else (by rw [hv]; decide) (Ev.now _))
    | true =>
      cases hb : celB b c with
      | true =>
        obtain ⟨hw, h32⟩ := celB_words hb
        refine ⟨runOf b (l.map cv) c (l.map cv).length, true, by rw [runOf_len]; exact bc, ?_, ?_⟩
        · unfold spec_RunCode.f
          refine Ev.bind (sIs _ hc) (ev_if hv (ev_if (by omega) (Ev.bind (sWords b c bc) (ev_if ?_ (Ev.bind ?_ (Ev.now _))))))
          · unfold celB at hb
            rw [Bool.and_eq_true, Bool.and_eq_true] at hb
            rw [hb.1, hb.2.2]; rfl
          · unfold spec_l03Run.f
            rw [sOwn c bc]
            exact ev_some (sRun hv hw h32 hc)
        · unfold impl_RunCode.f
          simp only [iValid]
          refine ev_some (ev_if hv ?_)
          unfold impl_areCells.f
          refine ev_some (ev_if hb (Ev.bind ?_ (Ev.now _)))
          unfold impl_run.f slices_Clone_int64_int64.f
          rw [if_pos (by omega)]
          exact ev_some (iRun hv hw h32 hc)
      | false =>
        refine ⟨[], false, by simp, ?_, ?_⟩
        · unfold spec_RunCode.f
          refine Ev.bind (sIs _ hc) (ev_if hv ?_)
          by_cases h32 : (c.length : Int) = 32
          · refine ev_if h32 (Ev.bind (sWords b c bc) (ev_else ?_ (Ev.now _)))
            intro he
            rw [Bool.and_eq_true] at he
            unfold celB at hb
            rw [he.2, he.1, decide_eq_true (by omega : c.length = 32)] at hb
            cases hb
          · exact ev_else h32 (Ev.now _)
        · unfold impl_RunCode.f
          simp only [iValid]
          refine ev_some (ev_if hv ?_)
          unfold impl_areCells.f
          exact ev_some (ev_else (by rw [hb]; decide) (Ev.now _))
  obtain ⟨t, ht⟩ := V.markS (l.map cv) 1 hc (by omega)
  have e4 : ((l.map cv).length : Int) ≤ 1048576 := by omega
  refine Ev.bind (toStmt l hl) (Ev.bind (toInt c bc) (Ev.bind hs (Ev.bind (toStmt l hl) (Ev.bind (toInt c bc) (Ev.bind hi (Ev.bind (eqSame o ho) (ev_if rfl ?_)))))))
  refine Ev.step (fun k => by rw [laws_FnExactRunCode.j0]) ?_
  refine ev_else (ne_self ok) (Ev.bind (toStmt l hl) (Ev.bind (eqStmtSame _ hc) (ev_if rfl (Ev.bind (toInt c bc) (Ev.bind (eqSame c bc) (ev_if rfl (Ev.bind ht (Ev.bind (V.mark c (1 + 4 * ((l.map cv).length : Int)) bc (by omega)) (ev_else (by show ¬ (1 + 4 * ((l.map cv).length : Int) + (c.length : Int) < 0); omega) (Ev.bind (eqSame o ho) (ev_if rfl ?_)))))))))))
  refine Ev.step (fun k => by rw [laws_FnExactRunCode.j1]) ?_
  refine ev_else (ne_self ok) (Ev.bind (V.mark o 1 ho (by omega)) (Ev.bind (V.held o.length 1 ho (by omega)) (ev_else (by show ¬ (1 + (o.length : Int) < 0); omega) (ev_if rfl (Ev.bind (toStmt l hl) (Ev.bind (toInt c bc) (Ev.bind hi (Ev.bind (eqSame o ho) (ev_if rfl ?_)))))))))
  refine Ev.step (fun k => by rw [laws_FnExactRunCode.j2]) ?_
  exact ev_else (ne_self ok) (Ev.bind (V.held o.length 1 ho (by omega)) (ev_else (by show ¬ (1 + (o.length : Int) < 0); omega) (ev_if rfl (Ev.now _))))

end Go.Proofs.Yteknfebehafbdaa.Pure
