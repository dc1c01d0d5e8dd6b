/- Lanes spread. No condition but small lengths. -/
import Derived.Test.YtpcjjminopdofaaV7
import Derived.Test.YtpcjjminopdofaaK27
namespace Go.Proofs.Ytpcjjminopdofaa.V
open Go.RowKit Go.Proofs.Ytpcjjminopdofaa.K Go.Proofs.Ytpcjjminopdofaa.Bx Go.Proofs.YtpcjjminopdofaaW.PrintWords Go.Proofs.YtpcjjminopdofaaW.PrintLast
set_option linter.unusedVariables false
set_option linter.unusedSimpArgs false

/-- How many lanes are on among the first i. -/
def cn (s : List Int) : Nat → Nat
  | 0 => 0
  | i + 1 => if rd s (i : Int) = 1 then cn s i + 1 else cn s i
theorem cn_le (s : List Int) : ∀ i, cn s i ≤ i := by
  intro i
  induction i with
  | zero => exact Nat.le_refl _
  | succ i ih => unfold cn; split <;> omega
def exd (s l : List Int) (j : Nat) : Int := if rd s (j : Int) = 1 then rd l (cn s j : Int) else 0
theorem sExpand {s l : List Int} (he : s.length = l.length) (h : l.length ≤ 1048576) : Ev (fun k => spec_ExpandLanes.l0 k s l [] 0 0) ((List.range l.length).map (exd s l), true) := by
  have key : ∀ d i : Nat, i + d = l.length → Ev (fun k => spec_ExpandLanes.l0 k s l ((List.range i).map (exd s l)) (cn s i : Int) (i : Int)) ((List.range l.length).map (exd s l), true) := by
    intro d
    induction d with
    | zero =>
      intro i hi
      obtain rfl : i = l.length := by omega
      refine ⟨1, fun k hk => ?_⟩
      obtain ⟨k, rfl⟩ : ∃ m, k = m + 1 := ⟨k - 1, by omega⟩
      simp only [spec_ExpandLanes.l0]
      rw [if_neg (by omega)]
    | succ d ih =>
      intro i hi
      have hc := cn_le s i
      have hlen : ((List.range i).map (exd s l)).length = i := by simp
      refine Ev.step (f := fun k => spec_ExpandLanes.l0 k s l ((List.range (i + 1)).map (exd s l)) (cn s (i + 1) : Int) ((i + 1 : Nat) : Int)) (fun k => ?_) (ih (i + 1) (by omega))
      simp only [spec_ExpandLanes.l0]
      rw [if_pos (by omega), if_pos (by omega), if_pos (by omega), w1 (i := i) (by omega), w1 (i := cn s i) (by omega), ← range_end]
      by_cases hx : rd s (i : Int) = 1
      · rw [if_pos hx, if_pos (by omega), if_pos (by omega), if_pos (by omega), show cn s (i + 1) = cn s i + 1 from if_pos hx, show exd s l i = rd l (cn s i : Int) from if_pos hx]
      · rw [if_neg hx, if_pos (by omega), show cn s (i + 1) = cn s i from if_neg hx, show exd s l i = 0 from if_neg hx]
  exact key l.length 0 (by omega)
theorem iExpand {s l : List Int} (he : s.length = l.length) (h : l.length ≤ 1048576) : Ev (fun k => impl_ExpandLanes.l0 k l (List.replicate l.length 0) 0 s (s.length : Int) 0) ((List.range l.length).map (exd s l), true) := by
  have key : ∀ d i : Nat, i + d = l.length → ∀ t : List Int, t = (List.range i).map (exd s l) ++ List.replicate d 0 → Ev (fun k => impl_ExpandLanes.l0 k l t (cn s i : Int) s (s.length : Int) (i : Int)) ((List.range l.length).map (exd s l), true) := by
    intro d
    induction d with
    | zero =>
      intro i hi t ht
      obtain rfl : i = l.length := by omega
      refine ⟨1, fun k hk => ?_⟩
      obtain ⟨k, rfl⟩ : ∃ m, k = m + 1 := ⟨k - 1, by omega⟩
      simp only [impl_ExpandLanes.l0]
      rw [if_neg (by omega), ht]
      simp
    | succ d ih =>
      intro i hi t ht
      have hc := cn_le s i
      have htl : t.length = l.length := by rw [ht]; simp; omega
      have hset : ∀ v : Int, t.set i v = (List.range i).map (exd s l) ++ v :: List.replicate d 0 := by
        intro v
        rw [ht, List.set_append, if_neg (by simp)]
        have e1 : i - ((List.range i).map (exd s l)).length = 0 := by simp
        rw [e1, List.replicate_succ, List.set_cons_zero]
      by_cases hx : rd s (i : Int) = 1
      · refine Ev.step (f := fun k => impl_ExpandLanes.l0 k l (t.set i (rd l (cn s i : Int))) (cn s (i + 1) : Int) s (s.length : Int) ((i + 1 : Nat) : Int)) (fun k => ?_) (ih (i + 1) (by omega) _ ?_)
        · simp only [impl_ExpandLanes.l0]
          rw [if_pos (by omega), if_pos (by omega), if_pos (by omega), if_pos hx, if_pos (by omega), if_pos (by omega), if_pos (by omega), w1 (i := i) (by omega), w1 (i := cn s i) (by omega), Int.toNat_natCast, show cn s (i + 1) = cn s i + 1 from if_pos hx]
        · rw [hset, ← range_end, show exd s l i = rd l (cn s i : Int) from if_pos hx, List.append_assoc]
          rfl
      · refine Ev.step (f := fun k => impl_ExpandLanes.l0 k l t (cn s (i + 1) : Int) s (s.length : Int) ((i + 1 : Nat) : Int)) (fun k => ?_) (ih (i + 1) (by omega) _ ?_)
        · simp only [impl_ExpandLanes.l0]
          rw [if_pos (by omega), if_pos (by omega), if_pos (by omega), if_neg hx, w1 (i := i) (by omega), show cn s (i + 1) = cn s i from if_neg hx]
        · rw [ht, ← range_end, show exd s l i = 0 from if_neg hx, List.append_assoc, List.replicate_succ]
          rfl
  have := key l.length 0 (by omega) (List.replicate l.length 0) (by simp)
  exact this
end Go.Proofs.Ytpcjjminopdofaa.V
