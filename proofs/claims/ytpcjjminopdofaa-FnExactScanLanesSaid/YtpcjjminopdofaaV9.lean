/- Results up to each lane. No condition but small lengths. -/
import Derived.Test.YtpcjjminopdofaaV5
import Derived.Test.YtpcjjminopdofaaK13
import Derived.Test.YtpcjjminopdofaaK29
import Derived.Test.YtpcjjminopdofaaK30
namespace Go.Proofs.Ytpcjjminopdofaa.V
open Go.RowKit Go.Proofs.Ytpcjjminopdofaa.K Go.Proofs.Ytpcjjminopdofaa.Bx Go.Proofs.YtpcjjminopdofaaW.PrintWords Go.Proofs.YtpcjjminopdofaaW.PrintLast
set_option linter.unusedVariables false
set_option linter.unusedSimpArgs false

/-- The result of the first lanes up to one. -/
def scn (op b : Int) (l : List Int) : Nat → Int
  | 0 => rd l 0
  | i + 1 => res op b (scn op b l i) (rd l ((i + 1 : Nat) : Int))
theorem scn_word {op b : Int} {l : List Int} (hl : Words b l) : ∀ i : Nat, i < l.length → Word b (scn op b l i) := by
  intro i
  induction i with
  | zero => intro h; exact words_rd hl (by omega) (by omega)
  | succ i ih => intro h; exact res_word (ih (by omega)) (words_rd hl (by omega) (by omega))
theorem sScan {op b : Int} {l : List Int} (ho : OpOk op) (hl : Words b l) (h1 : 1 ≤ l.length) (h : l.length ≤ 1048576) : Ev (fun k => spec_l02Scan.f k op b l) ((List.range l.length).map (scn op b l)) := by
  unfold spec_l02Scan.f
  refine ev_if (by omega) ?_
  have key : ∀ d j : Nat, j + 1 + d = l.length → Ev (fun k => spec_l02Scan.l0 k op b l ((List.range (j + 1)).map (scn op b l)) ((j + 1 : Nat) : Int)) ((List.range l.length).map (scn op b l)) := by
    intro d
    induction d with
    | zero =>
      intro j hj
      have e : j + 1 = l.length := by omega
      refine ⟨1, fun k hk => ?_⟩
      obtain ⟨k, rfl⟩ : ∃ m, k = m + 1 := ⟨k - 1, by omega⟩
      simp only [spec_l02Scan.l0]
      rw [if_neg (by omega), e]
    | succ d ih =>
      intro j hj
      have e1 : wrap64 (((j + 1 : Nat) : Int) - 1) = (j : Int) := by rw [w_small (by omega)]; omega
      have hlen : ((List.range (j + 1)).map (scn op b l)).length = j + 1 := by simp
      refine Ev.step (f := fun k => spec_l02Scan.l0 k op b l ((List.range (j + 1 + 1)).map (scn op b l)) ((j + 1 + 1 : Nat) : Int)) (fun k => ?_) (ih (j + 1) (by omega))
      simp only [spec_l02Scan.l0]
      rw [if_pos (by omega), e1, if_pos (by omega), if_pos (by omega), if_pos (by omega), rd_map (by omega), sResult ho (scn_word hl j (by omega)) (words_rd hl (by omega) (by omega)), w1 (i := j + 1) (by omega), ← range_end (j + 1)]
      exact if_pos (by omega)
  exact key (l.length - 1) 0 (by omega)
theorem iScan {op b : Int} {l : List Int} (ho : OpOk op) (hl : Words b l) (h1 : 1 ≤ l.length) (h : l.length ≤ 1048576) : Ev (fun k => impl_scanned.f k op b l) ((List.range l.length).map (scn op b l)) := by
  unfold impl_scanned.f
  have hcl : Ev (fun k => slices_Clone_int64_int64.f k l) l := ⟨0, fun k _ => by unfold slices_Clone_int64_int64.f; rw [if_pos (by omega)]⟩
  refine Ev.bind hcl ?_
  have key : ∀ d j : Nat, j + 1 + d = l.length → ∀ t : List Int, t = (List.range (j + 1)).map (scn op b l) ++ l.drop (j + 1) → Ev (fun k => impl_scanned.l0 k op b l t ((j + 1 : Nat) : Int)) ((List.range l.length).map (scn op b l)) := by
    intro d
    induction d with
    | zero =>
      intro j hj t ht
      have e : j + 1 = l.length := by omega
      have htl : t.length = l.length := by rw [ht]; simp; omega
      refine ⟨1, fun k hk => ?_⟩
      obtain ⟨k, rfl⟩ : ∃ m, k = m + 1 := ⟨k - 1, by omega⟩
      simp only [impl_scanned.l0]
      rw [if_neg (by omega), ht, e, List.drop_length, List.append_nil]
    | succ d ih =>
      intro j hj t ht
      have e1 : wrap64 (((j + 1 : Nat) : Int) - 1) = (j : Int) := by rw [w_small (by omega)]; omega
      have htl : t.length = l.length := by rw [ht]; simp; omega
      have hrd : rd t (j : Int) = scn op b l j := by
        rw [ht, rd_nat, List.getD_eq_getElem?_getD, List.getElem?_append_left (by simp), List.getElem?_map, List.getElem?_range (by omega)]
        rfl
      refine Ev.step (f := fun k => impl_scanned.l0 k op b l (t.set (j + 1) (scn op b l (j + 1))) ((j + 1 + 1 : Nat) : Int)) (fun k => ?_) (ih (j + 1) (by omega) _ ?_)
      · simp only [impl_scanned.l0]
        rw [if_pos (by omega), e1, if_pos (by omega), if_pos (by omega), if_pos (by omega), if_pos (by omega), hrd, iResult ho (scn_word hl j (by omega)) (words_rd hl (by omega) (by omega)), w1 (i := j + 1) (by omega), Int.toNat_natCast]
        rfl
      · rw [ht, List.set_append, if_neg (by simp)]
        have e2 : j + 1 - ((List.range (j + 1)).map (scn op b l)).length = 0 := by simp
        rw [e2, List.drop_eq_getElem_cons (by omega : j + 1 < l.length), List.set_cons_zero, ← range_end (j + 1), List.append_assoc]
        rfl
  refine key (l.length - 1) 0 (by omega) l ?_
  cases l with
  | nil => simp at h1
  | cons x xs => rfl
end Go.Proofs.Ytpcjjminopdofaa.V
