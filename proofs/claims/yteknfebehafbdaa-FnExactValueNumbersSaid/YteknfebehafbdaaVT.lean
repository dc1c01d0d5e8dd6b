/- The laws' own marks on statements. No condition but small lengths. -/
import Derived.Test.YteknfebehafbdaaV0
import Derived.Test.YteknfebehafbdaaK0
import Derived.Test.YteknfebehafbdaaK3
namespace Go.Proofs.Yteknfebehafbdaa.V
open Go.RowKit Go.Proofs.Yteknfebehafbdaa.K Go.Proofs.Yteknfebehafbdaa.Bx Go.Proofs.YteknfebehafbdaaW.PrintWords Go.Proofs.YteknfebehafbdaaW.PrintLast
set_option linter.unusedVariables false
set_option linter.unusedSimpArgs false

theorem markS (l : List S58) (m : Int) (h : l.length ≤ 1048576) (hm : 0 ≤ m ∧ m ≤ 10000000) : ∃ t : List S58, Ev (fun k => laws_markStmtS.f k l m) (m + 4 * (l.length : Int), t) := by
  unfold laws_markStmtS.f
  have key : ∀ d i : Nat, i + d = l.length → ∀ t : List S58, t.length = l.length → ∃ u : List S58, Ev (fun k => laws_markStmtS.l0 k t (m + 4 * (i : Int)) (i : Int)) (m + 4 * (l.length : Int), u) := by
    intro d
    induction d with
    | zero =>
      intro i hi t ht
      refine ⟨t, 1, fun k hk => ?_⟩
      obtain ⟨k, rfl⟩ : ∃ m, k = m + 1 := ⟨k - 1, by omega⟩
      simp only [laws_markStmtS.l0]
      rw [if_neg (by omega), show i = l.length by omega]
    | succ d ih =>
      intro i hi t ht
      have e1 : wrap64 (m + 4 * (i : Int) + 1) = m + 4 * (i : Int) + 1 := w_small (by omega)
      have e2 : wrap64 (m + 4 * (i : Int) + 1 + 1) = m + 4 * (i : Int) + 2 := by rw [w_small (by omega)]; omega
      have e3 : wrap64 (m + 4 * (i : Int) + 2 + 1) = m + 4 * (i : Int) + 3 := by rw [w_small (by omega)]; omega
      have e4 : wrap64 (m + 4 * (i : Int) + 3 + 1) = m + 4 * ((i + 1 : Nat) : Int) := by rw [w_small (by omega)]; omega
      obtain ⟨t2, ht2, hs⟩ : ∃ t2 : List S58, t2.length = l.length ∧ ∀ k, laws_markStmtS.l0 (k + 1) t (m + 4 * (i : Int)) (i : Int) = laws_markStmtS.l0 k t2 (m + 4 * ((i + 1 : Nat) : Int)) ((i + 1 : Nat) : Int) := by
        let y1 : List S58 := t.set (i : Int).toNat ⟨m + 4 * (i : Int), (rd_T58 t (i : Int)).f1, (rd_T58 t (i : Int)).f2, (rd_T58 t (i : Int)).f3⟩
        let y2 : List S58 := y1.set (i : Int).toNat ⟨(rd_T58 y1 (i : Int)).f0, m + 4 * (i : Int) + 1, (rd_T58 y1 (i : Int)).f2, (rd_T58 y1 (i : Int)).f3⟩
        let y3 : List S58 := y2.set (i : Int).toNat ⟨(rd_T58 y2 (i : Int)).f0, (rd_T58 y2 (i : Int)).f1, m + 4 * (i : Int) + 2, (rd_T58 y2 (i : Int)).f3⟩
        let y4 : List S58 := y3.set (i : Int).toNat ⟨(rd_T58 y3 (i : Int)).f0, (rd_T58 y3 (i : Int)).f1, (rd_T58 y3 (i : Int)).f2, m + 4 * (i : Int) + 3⟩
        refine ⟨y4, ?_, fun k => ?_⟩
        rotate_left
        · simp only [laws_markStmtS.l0]
          rw [if_pos (by omega), if_pos (by omega)]
          simp only [Option.bind_some]
          rw [e1, e2, e3, e4, w1 (by omega)]
        · simp only [y4, y3, y2, y1, List.length_set]; exact ht
      obtain ⟨u, hu⟩ := ih (i + 1) (by omega) t2 ht2
      exact ⟨u, Ev.step (fun k => hs k) hu⟩
  have := key l.length 0 (by omega) l rfl
  simpa using this
theorem ne_self (b : Bool) : ¬ ((b != b) = true) := by cases b <;> decide
end Go.Proofs.Yteknfebehafbdaa.V
