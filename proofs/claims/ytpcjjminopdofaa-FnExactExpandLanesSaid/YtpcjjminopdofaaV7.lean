/- Lanes pushed together, lanes spread. No condition but small lengths. -/
import Derived.Test.YtpcjjminopdofaaVK
import Derived.Test.YtpcjjminopdofaaK24
import Derived.Test.YtpcjjminopdofaaK25
namespace Go.Proofs.Ytpcjjminopdofaa.V
open Go.RowKit Go.Proofs.Ytpcjjminopdofaa.K Go.Proofs.Ytpcjjminopdofaa.Bx Go.Proofs.YtpcjjminopdofaaW.PrintWords Go.Proofs.YtpcjjminopdofaaW.PrintLast
set_option linter.unusedVariables false
set_option linter.unusedSimpArgs false

theorem masked_one (b : Int) (s l : List Int) : masked b s [l] = (vec b l && (decide ((s.length : Int) = (l.length : Int)) && msk s)) := by
  unfold masked
  rw [rd_zero]
  show (msk s && ((vec b l && ((l.length : Int) == (l.length : Int))) && true) && decide (l.length = s.length)) = _
  rw [Bool.eq_iff_iff]
  simp only [Bool.and_eq_true, decide_eq_true_eq, beq_iff_eq, and_true]
  exact ⟨fun ⟨⟨hs, hb⟩, e⟩ => ⟨hb, by omega, hs⟩, fun ⟨hb, e, hs⟩ => ⟨⟨hs, hb⟩, by omega⟩⟩
/-- The lanes that are on among the first i. -/
def comp (s l : List Int) : Nat → List Int
  | 0 => []
  | i + 1 => if rd s (i : Int) = 1 then comp s l i ++ [rd l (i : Int)] else comp s l i
theorem comp_len (s l : List Int) : ∀ i, (comp s l i).length ≤ i := by
  intro i
  induction i with
  | zero => exact Nat.le_refl _
  | succ i ih =>
    unfold comp
    split
    · rw [List.length_append]; simpa using ih
    · omega
def compd (s l : List Int) : List Int := comp s l l.length ++ List.replicate (l.length - (comp s l l.length).length) 0
theorem compd_len (s l : List Int) : (compd s l).length = l.length := by
  have := comp_len s l l.length
  unfold compd
  rw [List.length_append, List.length_replicate]
  omega
theorem sFill (l : List Int) (h : l.length ≤ 1048576) : ∀ (d : Nat) (x : List Int), x.length + d = l.length → Ev (fun k => spec_CompressLanes.l1 k l x) (x ++ List.replicate d 0, true) := by
  intro d
  induction d with
  | zero =>
    intro x hx
    refine ⟨1, fun k hk => ?_⟩
    obtain ⟨k, rfl⟩ : ∃ m, k = m + 1 := ⟨k - 1, by omega⟩
    simp only [spec_CompressLanes.l1]
    rw [if_neg (by omega)]
    simp
  | succ d ih =>
    intro x hx
    have := ih (x ++ [0]) (by simp; omega)
    rw [List.append_assoc] at this
    refine Ev.step (f := fun k => spec_CompressLanes.l1 k l (x ++ [0])) (fun k => ?_) this
    simp only [spec_CompressLanes.l1]
    rw [if_pos (by omega), if_pos (by omega)]
theorem sCompress {s l : List Int} (he : s.length = l.length) (h : l.length ≤ 1048576) : Ev (fun k => spec_CompressLanes.l0 k s l [] 0) (compd s l, true) := by
  have key : ∀ d i : Nat, i + d = l.length → Ev (fun k => spec_CompressLanes.l0 k s l (comp s l i) (i : Int)) (compd s l, true) := by
    intro d
    induction d with
    | zero =>
      intro i hi
      obtain rfl : i = l.length := by omega
      have hc := comp_len s l l.length
      refine Ev.step (f := fun k => spec_CompressLanes.l1 k l (comp s l l.length)) (fun k => ?_) (sFill l h _ _ (by omega))
      simp only [spec_CompressLanes.l0]
      rw [if_neg (by omega)]
    | succ d ih =>
      intro i hi
      have hc := comp_len s l i
      refine Ev.step (f := fun k => spec_CompressLanes.l0 k s l (comp s l (i + 1)) ((i + 1 : Nat) : Int)) (fun k => ?_) (ih (i + 1) (by omega))
      simp only [spec_CompressLanes.l0]
      rw [if_pos (by omega), if_pos (by omega), if_pos (by omega), w1 (by omega)]
      by_cases hx : rd s (i : Int) = 1
      · rw [if_pos hx, if_pos (by omega), show comp s l (i + 1) = comp s l i ++ [rd l (i : Int)] from if_pos hx]
      · rw [if_neg hx, show comp s l (i + 1) = comp s l i from if_neg hx]
  exact key l.length 0 (by omega)
theorem iCompress {s l : List Int} (he : s.length = l.length) (h : l.length ≤ 1048576) : Ev (fun k => impl_compressed.f k s l) (compd s l) := by
  unfold impl_compressed.f
  have key : ∀ d i : Nat, i + d = l.length → Ev (fun k => impl_compressed.l0 k s l (comp s l i) l (l.length : Int) (i : Int)) (compd s l) := by
    intro d
    induction d with
    | zero =>
      intro i hi
      obtain rfl : i = l.length := by omega
      have hc := comp_len s l l.length
      refine ⟨1, fun k hk => ?_⟩
      obtain ⟨k, rfl⟩ : ∃ m, k = m + 1 := ⟨k - 1, by omega⟩
      simp only [impl_compressed.l0]
      have e : wrap64 ((l.length : Int) - ((comp s l l.length).length : Int)) = ((l.length - (comp s l l.length).length : Nat) : Int) := by rw [w_small (by omega)]; omega
      rw [if_neg (by omega), e, if_pos (by omega), Int.toNat_natCast, if_pos (by omega)]
      rfl
    | succ d ih =>
      intro i hi
      have hc := comp_len s l i
      refine Ev.step (f := fun k => impl_compressed.l0 k s l (comp s l (i + 1)) l (l.length : Int) ((i + 1 : Nat) : Int)) (fun k => ?_) (ih (i + 1) (by omega))
      simp only [impl_compressed.l0]
      rw [if_pos (by omega), if_pos (by omega), if_pos (by omega), if_pos (by omega), w1 (by omega)]
      by_cases hx : rd s (i : Int) = 1
      · rw [if_pos hx, if_pos (by omega), show comp s l (i + 1) = comp s l i ++ [rd l (i : Int)] from if_pos hx]
      · rw [if_neg hx, show comp s l (i + 1) = comp s l i from if_neg hx]
  exact key l.length 0 (by omega)
end Go.Proofs.Ytpcjjminopdofaa.V
