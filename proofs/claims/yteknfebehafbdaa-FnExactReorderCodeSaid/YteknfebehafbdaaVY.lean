/- The laws' own marks on statements, told whole. No condition but small lengths. -/
import Derived.Test.YteknfebehafbdaaV0
import Derived.Test.YteknfebehafbdaaK0
import Derived.Test.YteknfebehafbdaaK28
import Derived.Test.YteknfebehafbdaaK3
namespace Go.Proofs.Yteknfebehafbdaa.V
open Go.RowKit Go.Proofs.Yteknfebehafbdaa.K Go.Proofs.Yteknfebehafbdaa.Bx Go.Proofs.YteknfebehafbdaaW.PrintWords Go.Proofs.YteknfebehafbdaaW.PrintLast
set_option linter.unusedVariables false
set_option linter.unusedSimpArgs false

/-- m, m + 1, .., four in a statement. -/
def smark (m : Int) (i : Nat) : S58 := ⟨m + 4 * (i : Int), m + 4 * (i : Int) + 1, m + 4 * (i : Int) + 2, m + 4 * (i : Int) + 3⟩
def smarks (n : Nat) (m : Int) : List S58 := (List.range n).map (smark m)
theorem smarks_len (n : Nat) (m : Int) : (smarks n m).length = n := by unfold smarks; simp
theorem rdS_get {l : List S58} {k : Nat} (h : k < l.length) : rd_T58 l (k : Int) = l[k] := by
  unfold rd_T58
  rw [Int.toNat_natCast, List.getD_eq_getElem?_getD, List.getElem?_eq_getElem h]; rfl
theorem rdS_smarks {n i : Nat} (m : Int) (h : i < n) : rd_T58 (smarks n m) (i : Int) = smark m i := by
  rw [rdS_get (by rw [smarks_len]; exact h)]
  unfold smarks
  rw [List.getElem_map, List.getElem_range]
theorem rdS_set {t : List S58} {i : Nat} {v : S58} (h : i < t.length) : rd_T58 (t.set i v) (i : Int) = v := by
  rw [rdS_get (by rw [List.length_set]; exact h), List.getElem_set_self]
theorem markW (l : List S58) (m : Int) (h : l.length ≤ 1048576) (hm : 0 ≤ m ∧ m ≤ 10000000) : Ev (fun k => laws_markStmtS.f k l m) (m + 4 * (l.length : Int), smarks l.length m) := by
  unfold laws_markStmtS.f
  have key : ∀ d i : Nat, i + d = l.length → ∀ t : List S58, t.length = l.length → (∀ j, j < i → t[j]? = some (smark m j)) → Ev (fun k => laws_markStmtS.l0 k t (m + 4 * (i : Int)) (i : Int)) (m + 4 * (l.length : Int), smarks l.length m) := by
    intro d
    induction d with
    | zero =>
      intro i hi t ht hp
      have e : t = smarks l.length m := by
        apply List.ext_getElem?
        intro j
        by_cases hj : j < l.length
        · rw [hp j (by omega)]
          unfold smarks
          rw [List.getElem?_map, List.getElem?_range hj]; rfl
        · rw [List.getElem?_eq_none (by omega), List.getElem?_eq_none (by rw [smarks_len]; omega)]
      refine ⟨1, fun k hk => ?_⟩
      obtain ⟨k, rfl⟩ : ∃ m, k = m + 1 := ⟨k - 1, by omega⟩
      simp only [laws_markStmtS.l0]
      rw [if_neg (by omega), show i = l.length by omega, e]
    | succ d ih =>
      intro i hi t ht hp
      have e1 : wrap64 (m + 4 * (i : Int) + 1) = m + 4 * (i : Int) + 1 := w_small (by omega)
      have e2 : wrap64 (m + 4 * (i : Int) + 1 + 1) = m + 4 * (i : Int) + 2 := by rw [w_small (by omega)]; omega
      have e3 : wrap64 (m + 4 * (i : Int) + 2 + 1) = m + 4 * (i : Int) + 3 := by rw [w_small (by omega)]; omega
      have e4 : wrap64 (m + 4 * (i : Int) + 3 + 1) = m + 4 * ((i + 1 : Nat) : Int) := by rw [w_small (by omega)]; omega
      refine Ev.step (fun k => ?_) (ih (i + 1) (by omega) (t.set i (smark m i)) (by simp; exact ht) (fun j hj => ?_))
      · simp only [laws_markStmtS.l0]
        rw [if_pos (by omega), if_pos (by omega)]
        simp only [Option.bind_some, Int.toNat_natCast]
        rw [e1, e2, e3, e4, w1 (by omega), rdS_set (by omega), rdS_set (by simp; omega), rdS_set (by simp; omega)]
        simp only [List.set_set]
        rfl
      · rw [List.getElem?_set]
        by_cases hji : i = j
        · subst hji
          rw [if_pos rfl, if_pos (by omega)]
        · rw [if_neg hji]
          exact hp j (by omega)
  have := key l.length 0 (by omega) l rfl (fun j hj => absurd hj (Nat.not_lt_zero _))
  simpa using this
theorem heldW (n : Nat) (m : Int) (h : n ≤ 1048576) (hm : 0 ≤ m ∧ m ≤ 10000000) : Ev (fun k => laws_heldStmtS.f k (smarks n m) m) (m + 4 * (n : Int)) := by
  unfold laws_heldStmtS.f
  have hl := smarks_len n m
  have key : ∀ d i : Nat, i + d = n → Ev (fun k => laws_heldStmtS.l0 k (smarks n m) (m + 4 * (i : Int)) (i : Int)) (m + 4 * (n : Int)) := by
    intro d
    induction d with
    | zero =>
      intro i hi
      obtain rfl : i = n := by omega
      refine ⟨1, fun k hk => ?_⟩
      obtain ⟨k, rfl⟩ : ∃ m, k = m + 1 := ⟨k - 1, by omega⟩
      simp only [laws_heldStmtS.l0]
      rw [if_neg (by omega)]
    | succ d ih =>
      intro i hi
      have e1 : wrap64 (m + 4 * (i : Int) + 1) = m + 4 * (i : Int) + 1 := w_small (by omega)
      have e2 : wrap64 (m + 4 * (i : Int) + 1 + 1) = m + 4 * (i : Int) + 2 := by rw [w_small (by omega)]; omega
      have e3 : wrap64 (m + 4 * (i : Int) + 2 + 1) = m + 4 * (i : Int) + 3 := by rw [w_small (by omega)]; omega
      have e4 : wrap64 (m + 4 * (i : Int) + 3 + 1) = m + 4 * ((i + 1 : Nat) : Int) := by rw [w_small (by omega)]; omega
      refine Ev.step (fun k => ?_) (ih (i + 1) (by omega))
      simp only [laws_heldStmtS.l0]
      rw [rdS_smarks m (by omega), e1, e2, e3, e4, if_pos (by omega), if_pos (by omega), if_pos (show (smark m i).f0 = m + 4 * (i : Int) from rfl), if_pos (show (smark m i).f1 = m + 4 * (i : Int) + 1 from rfl), if_pos (show (smark m i).f2 = m + 4 * (i : Int) + 2 from rfl), if_pos (show (smark m i).f3 = m + 4 * (i : Int) + 3 from rfl), w1 (by omega)]
  have := key n 0 (by omega)
  simpa using this
end Go.Proofs.Yteknfebehafbdaa.V
