/- Lists with each number below n: in whatever order. No condition. -/
import Derived.Test.YteknfebehafbdaaV0

namespace Go.Proofs.Yteknfebehafbdaa.V
open Go.RowKit Go.Proofs.Yteknfebehafbdaa.K Go.Proofs.Yteknfebehafbdaa.Bx Go.Proofs.YteknfebehafbdaaW.PrintWords Go.Proofs.YteknfebehafbdaaW.PrintLast
set_option linter.unusedVariables false
set_option linter.unusedSimpArgs false

theorem sub_len {α : Type} [DecidableEq α] : ∀ (ys xs : List α), xs.Nodup → (∀ x ∈ xs, x ∈ ys) → xs.length ≤ ys.length := by
  intro ys
  induction ys with
  | nil =>
    intro xs _ h
    cases xs with
    | nil => simp
    | cons x xs => exact absurd (h x List.mem_cons_self) (by simp)
  | cons y ys ih =>
    intro xs hn h
    by_cases hy : y ∈ xs
    · have h1 := ih (xs.erase y) (hn.erase y) (fun x hx => by
        have h2 := (List.Nodup.mem_erase_iff hn).mp hx
        rcases List.mem_cons.mp (h x h2.2) with h3 | h3
        · exact absurd h3 h2.1
        · exact h3)
      rw [List.length_erase_of_mem hy] at h1
      simp only [List.length_cons]
      omega
    · have h1 := ih xs hn (fun x hx => by
        rcases List.mem_cons.mp (h x hx) with h3 | h3
        · exact absurd (h3 ▸ hx) hy
        · exact h3)
      simp only [List.length_cons]
      omega
/-- The numbers 0 to n - 1. -/
def nums (n : Nat) : List Int := (List.range n).map fun (i : Nat) => (i : Int)
theorem nums_len (n : Nat) : (nums n).length = n := by unfold nums; simp
theorem nums_mem {n : Nat} {x : Int} : x ∈ nums n ↔ 0 ≤ x ∧ x < (n : Int) := by
  unfold nums
  rw [List.mem_map]
  constructor
  · rintro ⟨i, hi, rfl⟩
    have := List.mem_range.mp hi
    omega
  · intro ⟨h0, h1⟩
    exact ⟨x.toNat, List.mem_range.mpr (by omega), by omega⟩
theorem nums_nodup (n : Nat) : (nums n).Nodup := by
  unfold nums
  rw [List.nodup_iff_pairwise_ne, List.pairwise_map]
  refine List.Pairwise.imp ?_ (List.nodup_iff_pairwise_ne.mp List.nodup_range)
  intro a b h1 h2
  exact h1 (by omega)
theorem rd_get {o : List Int} {k : Nat} (h : k < o.length) : rd o (k : Int) = o[k] := by
  rw [rd_nat, List.getD_eq_getElem?_getD, List.getElem?_eq_getElem h]; rfl
/-- Where a list has each number below its length once. -/
theorem inj_surj {o : List Int} (hr : ∀ k, k < o.length → 0 ≤ rd o (k : Int) ∧ rd o (k : Int) < (o.length : Int)) (hi : ∀ j k, j < k → k < o.length → rd o (j : Int) ≠ rd o (k : Int)) : ∀ i : Nat, i < o.length → ∃ k, k < o.length ∧ rd o (k : Int) = (i : Int) := by
  intro i hlt
  have hn : o.Nodup := by
    rw [List.nodup_iff_pairwise_ne, List.pairwise_iff_getElem]
    intro a b ha hb hab
    have := hi a b hab hb
    rwa [rd_get ha, rd_get hb] at this
  by_cases hm : (i : Int) ∈ o
  · obtain ⟨k, hk, e⟩ := List.getElem_of_mem hm
    exact ⟨k, hk, by rw [rd_get hk]; exact e⟩
  · have h1 := sub_len (nums o.length) ((i : Int) :: o) (List.nodup_cons.mpr ⟨hm, hn⟩) (fun x hx => by
      rw [nums_mem]
      rcases List.mem_cons.mp hx with h | h
      · subst h; omega
      · obtain ⟨k, hk, e⟩ := List.getElem_of_mem h
        have := hr k hk
        rwa [rd_get hk, e] at this)
    rw [nums_len, List.length_cons] at h1
    omega
theorem surj_inj {o : List Int} (hs : ∀ i : Nat, i < o.length → ∃ k, k < o.length ∧ rd o (k : Int) = (i : Int)) : (∀ k, k < o.length → 0 ≤ rd o (k : Int) ∧ rd o (k : Int) < (o.length : Int)) ∧ (∀ j k, j < k → k < o.length → rd o (j : Int) ≠ rd o (k : Int)) := by
  have key : ∀ k, k < o.length → (∀ i : Nat, i < o.length → ∃ j, j < o.length ∧ j ≠ k ∧ rd o (j : Int) = (i : Int)) → False := by
    intro k hk h
    have h1 := sub_len (o.eraseIdx k) (nums o.length) (nums_nodup _) (fun x hx => by
      obtain ⟨h0, h1⟩ := nums_mem.mp hx
      obtain ⟨j, hj, hne, e⟩ := h x.toNat (by omega)
      rw [List.mem_eraseIdx_iff_getElem]
      refine ⟨j, hj, hne, ?_⟩
      rw [← rd_get hj, e]; omega)
    rw [nums_len, List.length_eraseIdx_of_lt hk] at h1
    omega
  refine ⟨fun k hk => ?_, fun j k hjk hk he => ?_⟩
  · by_cases h : 0 ≤ rd o (k : Int) ∧ rd o (k : Int) < (o.length : Int)
    · exact h
    · refine absurd (fun i hi => ?_) (key k hk)
      obtain ⟨j, hj, e⟩ := hs i hi
      exact ⟨j, hj, fun hjk => by subst hjk; rw [e] at h; omega, e⟩
  · refine key k hk (fun i hi => ?_)
    obtain ⟨m, hm, e⟩ := hs i hi
    by_cases hmk : m = k
    · subst hmk
      exact ⟨j, by omega, by omega, by rw [he]; exact e⟩
    · exact ⟨m, hm, hmk, e⟩
end Go.Proofs.Yteknfebehafbdaa.V
