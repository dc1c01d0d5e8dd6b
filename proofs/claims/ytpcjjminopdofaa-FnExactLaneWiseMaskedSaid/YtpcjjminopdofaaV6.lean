/- Lane by lane under a mask; lanes chosen; lanes folded. No condition but small lengths. -/
import Derived.Test.YtpcjjminopdofaaV5
import Derived.Test.YtpcjjminopdofaaV2
import Derived.Test.YtpcjjminopdofaaK0
import Derived.Test.YtpcjjminopdofaaK12
import Derived.Test.YtpcjjminopdofaaK13
import Derived.Test.YtpcjjminopdofaaK16
import Derived.Test.YtpcjjminopdofaaK17
import Derived.Test.YtpcjjminopdofaaK21
import Derived.Test.YtpcjjminopdofaaK22
import Derived.Test.YtpcjjminopdofaaK8
namespace Go.Proofs.Ytpcjjminopdofaa.V
open Go.RowKit Go.Proofs.Ytpcjjminopdofaa.K Go.Proofs.Ytpcjjminopdofaa.Bx Go.Proofs.YtpcjjminopdofaaW.PrintWords Go.Proofs.YtpcjjminopdofaaW.PrintLast
set_option linter.unusedVariables false
set_option linter.unusedSimpArgs false

theorem vecs_three (b : Int) (l m n : List Int) : vecs b [l, m, n] = (vec b l && (vec b m && decide (l.length = m.length)) && (vec b n && decide (l.length = n.length))) := by
  show ((vec b l && ((l.length : Int) == (l.length : Int))) && ((vec b m && ((m.length : Int) == (l.length : Int))) && ((vec b n && ((n.length : Int) == (l.length : Int))) && true))) = _
  have e : ∀ x : List Int, ((x.length : Int) == (l.length : Int)) = decide (l.length = x.length) := fun x => by rw [Bool.eq_iff_iff]; simp; omega
  rw [e m, e n]
  simp [Bool.and_assoc]
theorem sSelect {s l m : List Int} (h1 : s.length = l.length) (h2 : l.length = m.length) (h : l.length ≤ 1048576) : Ev (fun k => spec_l02Select.f k s l m) ((List.range l.length).map fun (j : Nat) => sel (rd s (j : Int)) (rd l (j : Int)) (rd m (j : Int))) := by
  unfold spec_l02Select.f
  refine loop_app (L := fun k acc i => spec_l02Select.l0 k s l m acc i) l.length (fun (j : Nat) => sel (rd s (j : Int)) (rd l (j : Int)) (rd m (j : Int))) ?_ ?_
  · intro i acc hi ha hk
    refine Ev.step (fun k => ?_) hk
    simp only [spec_l02Select.l0]
    rw [if_pos (by omega), if_pos (by omega), w1 (by omega)]
    unfold sel
    by_cases hx : rd s (i : Int) = 1
    · rw [if_pos hx, if_pos hx, if_pos (by omega), if_pos (by omega)]
    · rw [if_neg hx, if_neg hx, if_pos (by omega), if_pos (by omega)]
  · refine ⟨1, fun k hk => ?_⟩
    obtain ⟨k, rfl⟩ : ∃ m, k = m + 1 := ⟨k - 1, by omega⟩
    simp only [spec_l02Select.l0]
    rw [if_neg (by omega)]
theorem iSelected {s l m : List Int} (h1 : s.length = l.length) (h2 : l.length = m.length) (h : l.length ≤ 100000) : Ev (fun k => impl_selected.f k s l m) ((List.range l.length).map fun (j : Nat) => sel (rd s (j : Int)) (rd l (j : Int)) (rd m (j : Int))) :=
  ⟨0, fun k _ => by unfold impl_selected.f; rw [if_pos ⟨by omega, by omega, h⟩]⟩
/-- A mask for a vector, and vectors with as many lanes. -/
def masked (b : Int) (s : List Int) (ls : List (List Int)) : Bool := msk s && vecs b ls && decide ((rd_L1 ls 0).length = s.length)
theorem iMasked (b : Int) (s l : List Int) (ls : List (List Int)) : Ev (fun k => impl_areMasked.f k b s (l :: ls)) (masked b s (l :: ls)) := by
  unfold impl_areMasked.f masked
  refine Ev.bind (Ev.now (msk s)) ?_
  cases msk s with
  | false => exact ev_else (by simp) (Ev.now _)
  | true =>
    refine ev_if rfl (Ev.bind (Ev.now (vecs b (l :: ls))) ?_)
    cases vecs b (l :: ls) with
    | false => exact ev_else (by simp) (Ev.now _)
    | true =>
      refine ev_if rfl (ev_if (by simp) ?_)
      have e : (((rd_L1 (l :: ls) 0).length : Int) == (s.length : Int)) = (true && true && decide ((rd_L1 (l :: ls) 0).length = s.length)) := by
        rw [Bool.eq_iff_iff]; simp; omega
      rw [e]
      exact Ev.now _
theorem rd_zero (l : List Int) (ls : List (List Int)) : rd_L1 (l :: ls) 0 = l := rfl
theorem take_words {b : Int} {l : List Int} (h : Words b l) (n : Nat) : Words b (l.take n) := fun x hx => h x (List.mem_of_mem_take hx)
theorem drop_words {b : Int} {l : List Int} (h : Words b l) (n : Nat) : Words b (l.drop n) := fun x hx => h x (List.mem_of_mem_drop hx)
theorem res_words {op b : Int} {l m : List Int} (hl : Words b l) (hm : Words b m) (he : l.length = m.length) : Words b ((List.range l.length).map fun (j : Nat) => res op b (rd l (j : Int)) (rd m (j : Int))) := by
  intro x hx
  obtain ⟨j, hj, rfl⟩ := List.mem_map.mp hx
  rw [List.mem_range] at hj
  exact res_word (words_rd hl (by omega) (by omega)) (words_rd hm (by omega) (by omega))
/-- Halves over halves: both fold to the same. -/
theorem folds (op b : Int) (ho : OpOk op) : ∀ (e : Nat) (l : List Int), e ≤ 10 → l.length = 2 ^ e → Words b l → ∃ v : Int, Ev (fun k => spec_l02Reduce.l0 k op b l) v ∧ Ev (fun k => impl_reduced.l0 k op b l) v := by
  intro e
  induction e with
  | zero =>
    intro l _ hl _
    have hl1 : l.length = 1 := hl
    refine ⟨rd l 0, ⟨1, fun k hk => ?_⟩, ⟨1, fun k hk => ?_⟩⟩
    · obtain ⟨k, rfl⟩ : ∃ m, k = m + 1 := ⟨k - 1, by omega⟩
      simp only [spec_l02Reduce.l0]
      rw [if_neg (by omega), if_pos (by omega)]
    · obtain ⟨k, rfl⟩ : ∃ m, k = m + 1 := ⟨k - 1, by omega⟩
      simp only [impl_reduced.l0]
      rw [if_neg (by omega), if_pos (by omega)]
  | succ e ih =>
    intro l hee hl hw
    have hp : 2 ^ (e + 1) = 2 * 2 ^ e := by rw [Nat.pow_succ, Nat.mul_comm]
    have hq : 2 ^ e ≤ 2 ^ 10 := Nat.pow_le_pow_right (by decide) (by omega)
    have hq0 : 0 < 2 ^ e := Nat.pow_pos (by decide)
    have hh : wrap64 ((l.length : Int) / 2) = ((2 ^ e : Nat) : Int) := by rw [w_small (by omega)]; omega
    have hlt : (l.take (2 ^ e)).length = 2 ^ e := by simp; omega
    have hld : (l.drop (2 ^ e)).length = 2 ^ e := by simp; omega
    have hwt := take_words hw (2 ^ e)
    have hwd := drop_words hw (2 ^ e)
    obtain ⟨v, hs, hi⟩ := ih ((List.range (l.take (2 ^ e)).length).map fun (j : Nat) => res op b (rd (l.take (2 ^ e)) (j : Int)) (rd (l.drop (2 ^ e)) (j : Int))) (by omega) (by rw [List.length_map, List.length_range, hlt]) (res_words hwt hwd (by omega))
    refine ⟨v, ?_, ?_⟩
    · refine Ev.step (f := fun k => (spec_l02Wise.f k op b (l.take (2 ^ e)) (l.drop (2 ^ e))).bind fun t636 => (spec_l02Reduce.l0 k op b t636)) (fun k => ?_) (Ev.bind (sWise ho hwt hwd (by omega) (by omega)) hs)
      simp only [spec_l02Reduce.l0]
      rw [hh, if_pos (by omega), if_pos (by omega), if_pos (by omega), Int.toNat_natCast]
    · refine Ev.step (f := fun k => (impl_laneWise.f k op b (l.take (2 ^ e)) (l.drop (2 ^ e))).bind fun t653 => (impl_reduced.l0 k op b t653)) (fun k => ?_) (Ev.bind (iWise ho hwt hwd (by omega) (by omega)) hi)
      simp only [impl_reduced.l0]
      rw [hh, if_pos (by omega), if_pos (by omega), if_pos (by omega), Int.toNat_natCast]
theorem lanes_pow {n : Nat} (h : Lanes (n : Int)) : ∃ e : Nat, e ≤ 10 ∧ n = 2 ^ e := by
  rcases h with h | h | h | h
  · exact ⟨1, by omega, by omega⟩
  · exact ⟨2, by omega, by omega⟩
  · exact ⟨3, by omega, by omega⟩
  · exact ⟨4, by omega, by omega⟩
theorem masked_two (b : Int) (s l m : List Int) : masked b s [l, m] = (both b l m && (decide ((s.length : Int) = (l.length : Int)) && msk s)) := by
  unfold masked
  rw [vecs_two, rd_zero, Bool.eq_iff_iff]
  simp only [Bool.and_eq_true, decide_eq_true_eq]
  exact ⟨fun ⟨⟨hs, hb⟩, e⟩ => ⟨hb, by omega, hs⟩, fun ⟨hb, e, hs⟩ => ⟨⟨hs, hb⟩, by omega⟩⟩
theorem masked_three (b : Int) (s d l m : List Int) : masked b s [d, l, m] = (both b l m && both b l d && (decide ((s.length : Int) = (l.length : Int)) && msk s)) := by
  unfold masked
  rw [vecs_three, rd_zero]
  unfold both
  rw [Bool.eq_iff_iff]
  simp only [Bool.and_eq_true, decide_eq_true_eq]
  exact ⟨fun ⟨⟨hs, ⟨⟨hd, hl, e1⟩, hm, e2⟩⟩, e3⟩ => ⟨⟨⟨⟨hl, hm⟩, by omega⟩, ⟨⟨hl, hd⟩, by omega⟩⟩, by omega, hs⟩,
    fun ⟨⟨⟨⟨hl, hm⟩, e1⟩, ⟨⟨_, hd⟩, e2⟩⟩, e3, hs⟩ => ⟨⟨hs, ⟨⟨hd, hl, by omega⟩, hm, by omega⟩⟩, by omega⟩⟩
theorem sOwn (l : List Int) (h : l.length ≤ 1048576) : spec_l00Own.f l = some l := by
  unfold spec_l00Own.f
  show (if ([] : List Int).length + l.length < 17592186044416 then some ([] ++ l) else none) = _
  rw [if_pos (by simp; omega)]
  rfl
end Go.Proofs.Ytpcjjminopdofaa.V
