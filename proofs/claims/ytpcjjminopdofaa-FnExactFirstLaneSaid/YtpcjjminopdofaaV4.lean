/- Counts and first places of masks. No condition but small lengths. -/
import Derived.Test.YtpcjjminopdofaaV2
import Derived.Test.YtpcjjminopdofaaK4
import Derived.Test.YtpcjjminopdofaaK5
namespace Go.Proofs.Ytpcjjminopdofaa.V
open Go.RowKit Go.Proofs.Ytpcjjminopdofaa.K Go.Proofs.Ytpcjjminopdofaa.Bx Go.Proofs.YtpcjjminopdofaaW.PrintWords Go.Proofs.YtpcjjminopdofaaW.PrintLast
set_option linter.unusedVariables false
set_option linter.unusedSimpArgs false

/-- The sum of the first i, with wrap-around. -/
def sw (l : List Int) : Nat → Int
  | 0 => 0
  | i + 1 => wrap64 (sw l i + rd l (i : Int))
theorem sCount (l : List Int) (h : l.length ≤ 1048576) : Ev (fun k => spec_l02Count.f k l) (sw l l.length) := by
  unfold spec_l02Count.f
  have key : ∀ d i : Nat, i + d = l.length → Ev (fun k => spec_l02Count.l0 k l (sw l i) (i : Int)) (sw l l.length) := by
    intro d
    induction d with
    | zero =>
      intro i hi
      obtain rfl : i = l.length := by omega
      refine ⟨1, fun k hk => ?_⟩
      obtain ⟨k, rfl⟩ : ∃ m, k = m + 1 := ⟨k - 1, by omega⟩
      simp only [spec_l02Count.l0]
      rw [if_neg (by omega)]
    | succ d ih =>
      intro i hi
      refine Ev.step (f := fun k => spec_l02Count.l0 k l (sw l (i + 1)) ((i + 1 : Nat) : Int)) (fun k => ?_) (ih (i + 1) (by omega))
      simp only [spec_l02Count.l0]
      rw [if_pos (by omega), if_pos (by omega), w1 (by omega)]
      rfl
  exact key l.length 0 (by omega)
theorem iSum (l : List Int) (h : l.length ≤ 1048576) : Ev (fun k => impl_sumOf.f k l) (sw l l.length) := by
  unfold impl_sumOf.f
  have key : ∀ d i : Nat, i + d = l.length → Ev (fun k => impl_sumOf.l0 k (sw l i) l (l.length : Int) (i : Int)) (sw l l.length) := by
    intro d
    induction d with
    | zero =>
      intro i hi
      obtain rfl : i = l.length := by omega
      refine ⟨1, fun k hk => ?_⟩
      obtain ⟨k, rfl⟩ : ∃ m, k = m + 1 := ⟨k - 1, by omega⟩
      simp only [impl_sumOf.l0]
      rw [if_neg (by omega)]
    | succ d ih =>
      intro i hi
      refine Ev.step (f := fun k => impl_sumOf.l0 k (sw l (i + 1)) l (l.length : Int) ((i + 1 : Nat) : Int)) (fun k => ?_) (ih (i + 1) (by omega))
      simp only [impl_sumOf.l0]
      rw [if_pos (by omega), if_pos (by omega), if_pos (by omega), w1 (by omega)]
      rfl
  exact key l.length 0 (by omega)
theorem iIndex (l : List Int) (h : l.length ≤ 1048576) : ∃ v : Int, Ev (fun k => slices_Index_int64_int64.f k l 1) v ∧ ((v = -1 ∧ ∀ j : Nat, j < l.length → rd l (j : Int) ≠ 1) ∨ (∃ i : Nat, i < l.length ∧ v = (i : Int) ∧ rd l (i : Int) = 1 ∧ ∀ j : Nat, j < i → rd l (j : Int) ≠ 1)) := by
  have key : ∀ d i : Nat, i + d = l.length → (∀ j : Nat, j < i → rd l (j : Int) ≠ 1) → ∃ v : Int, Ev (fun k => slices_Index_int64_int64.l0 k l 1 (l.length : Int) (i : Int)) v ∧ ((v = -1 ∧ ∀ j : Nat, j < l.length → rd l (j : Int) ≠ 1) ∨ (∃ i : Nat, i < l.length ∧ v = (i : Int) ∧ rd l (i : Int) = 1 ∧ ∀ j : Nat, j < i → rd l (j : Int) ≠ 1)) := by
    intro d
    induction d with
    | zero =>
      intro i hi hj
      obtain rfl : i = l.length := by omega
      refine ⟨-1, ⟨1, fun k hk => ?_⟩, .inl ⟨rfl, hj⟩⟩
      obtain ⟨k, rfl⟩ : ∃ m, k = m + 1 := ⟨k - 1, by omega⟩
      simp only [slices_Index_int64_int64.l0]
      rw [if_neg (by omega)]
    | succ d ih =>
      intro i hi hj
      by_cases h1 : rd l (i : Int) = 1
      · refine ⟨(i : Int), ⟨1, fun k hk => ?_⟩, .inr ⟨i, by omega, rfl, h1, hj⟩⟩
        obtain ⟨k, rfl⟩ : ∃ m, k = m + 1 := ⟨k - 1, by omega⟩
        simp only [slices_Index_int64_int64.l0]
        rw [if_pos (by omega), if_pos (by omega), if_pos (by omega), if_pos h1.symm]
      · obtain ⟨v, hv, hc⟩ := ih (i + 1) (by omega) (fun j hj2 => by
          by_cases e : j = i
          · rw [e]; exact h1
          · exact hj j (by omega))
        refine ⟨v, Ev.step (f := fun k => slices_Index_int64_int64.l0 k l 1 (l.length : Int) ((i + 1 : Nat) : Int)) (fun k => ?_) hv, hc⟩
        simp only [slices_Index_int64_int64.l0]
        rw [if_pos (by omega), if_pos (by omega), if_pos (by omega), if_neg (fun e => h1 e.symm), w1 (by omega)]
  unfold slices_Index_int64_int64.f
  exact key l.length 0 (by omega) (fun j hj => by omega)
theorem mask_at (l : List Int) (h : msk l = true) : l.length ≤ 16 ∧ ∀ j : Nat, j < l.length → rd l (j : Int) = 0 ∨ rd l (j : Int) = 1 := by
  unfold msk at h
  rw [Bool.and_eq_true, decide_eq_true_eq, List.all_eq_true] at h
  obtain ⟨h1, h2⟩ := h
  refine ⟨by unfold Lanes at h1; omega, fun j hj => ?_⟩
  have := h2 j (by simpa using hj)
  unfold b01 at this
  rw [decide_eq_true_eq] at this
  exact this
/-- Of noughts and ones: the sum of the first i is small, and nought just where they all are. -/
theorem sw_mask (l : List Int) (h : msk l = true) : ∀ i : Nat, i ≤ l.length → 0 ≤ sw l i ∧ sw l i ≤ (i : Int) ∧ (sw l i = 0 ↔ ∀ j : Nat, j < i → rd l (j : Int) = 0) := by
  obtain ⟨h16, hb⟩ := mask_at l h
  intro i
  induction i with
  | zero => intro _; exact ⟨Int.le_refl _, Int.le_refl _, ⟨fun _ j hj => by omega, fun _ => rfl⟩⟩
  | succ i ih =>
    intro hi
    obtain ⟨a, b, c⟩ := ih (by omega)
    have e : sw l (i + 1) = sw l i + rd l (i : Int) := by
      show wrap64 (sw l i + rd l (i : Int)) = _
      rcases hb i (by omega) with h0 | h0 <;> rw [h0] <;> unfold wrap64 <;> omega
    rw [e]
    have hx := hb i (by omega)
    refine ⟨by omega, by omega, ⟨fun hz j hj => ?_, fun hz => ?_⟩⟩
    · by_cases ej : j = i
      · rw [ej]; omega
      · exact (c.mp (by omega)) j (by omega)
    · have := hz i (by omega)
      have := c.mpr (fun j hj => hz j (by omega))
      omega
theorem sFirst (l : List Int) (hm : msk l = true) (i : Nat) (hi : i < l.length) (h1 : rd l (i : Int) = 1) (h0 : ∀ j : Nat, j < i → rd l (j : Int) = 0) : Ev (fun k => spec_FirstLane.l0 k l 0) ((i : Int), true) := by
  obtain ⟨h16, hb⟩ := mask_at l hm
  have key : ∀ d j : Nat, j + d = i → Ev (fun k => spec_FirstLane.l0 k l (j : Int)) ((i : Int), true) := by
    intro d
    induction d with
    | zero =>
      intro j hj
      obtain rfl : j = i := by omega
      refine ⟨1, fun k hk => ?_⟩
      obtain ⟨k, rfl⟩ : ∃ m, k = m + 1 := ⟨k - 1, by omega⟩
      simp only [spec_FirstLane.l0]
      rw [if_pos (by omega), if_pos (by omega), if_neg (by omega)]
    | succ d ih =>
      intro j hj
      refine Ev.step (f := fun k => spec_FirstLane.l0 k l ((j + 1 : Nat) : Int)) (fun k => ?_) (ih (j + 1) (by omega))
      simp only [spec_FirstLane.l0]
      rw [if_pos (by omega), if_pos (by omega), if_pos (h0 j (by omega)), w1 (by omega)]
  exact key i 0 (by omega)
end Go.Proofs.Ytpcjjminopdofaa.V
