/- Rows of whole numbers: loops that test, copies, equality. No condition but short rows. -/
import Derived.Test.YtgaemhbffdlbaaaDoorV0
import Derived.Test.YtgaemhbffdlbaaaDoorK4
import Derived.Test.YtgaemhbffdlbaaaDoorK5
import Derived.Test.YtgaemhbffdlbaaaDoorV0
namespace Go.Proofs.YtgaemhbffdlbaaaDoor.V
open Go.RowKit Go.Proofs.YtgaemhbffdlbaaaDoor.K Go.Proofs.YtgaemhbffdlbaaaDoorW.PrintWords Go.Proofs.YtgaemhbffdlbaaaDoorW.PrintLast
set_option linter.unusedVariables false
set_option linter.unusedSimpArgs false

/-- Rounds that test one place each. -/
theorem loop_all {L : Nat → Int → Option Bool} (n : Nat) (p : Nat → Bool) (b : Bool)
    (hs : ∀ i : Nat, i < n → p i = true → ∀ r, Ev (fun k => L k ((i + 1 : Nat) : Int)) r → Ev (fun k => L k (i : Int)) r)
    (hf : ∀ i : Nat, i < n → p i = false → Ev (fun k => L k (i : Int)) false)
    (he : Ev (fun k => L k (n : Int)) b) : Ev (fun k => L k 0) ((List.range n).all p && b) := by
  have key : ∀ d i : Nat, i + d = n → Ev (fun k => L k (i : Int)) (((List.range d).all fun j => p (i + j)) && b) := by
    intro d
    induction d with
    | zero => intro i hi; obtain rfl : i = n := by omega
              simpa using he
    | succ d ih =>
      intro i hi
      cases h : p i with
      | false =>
        have : ((List.range (d + 1)).all fun j => p (i + j)) = false := by
          rw [List.all_eq_false]
          exact ⟨0, by simp, by simp [h]⟩
        rw [this]
        exact hf i (by omega) h
      | true =>
        refine hs i (by omega) h _ ?_
        have e : ((List.range (d + 1)).all fun j => p (i + j)) = ((List.range d).all fun j => p (i + 1 + j)) := by
          rw [Bool.eq_iff_iff]
          simp only [List.all_eq_true, List.mem_range]
          refine ⟨fun hh j hj => ?_, fun hh j hj => ?_⟩
          · have := hh (j + 1) (by omega)
            rwa [show i + (j + 1) = i + 1 + j by omega] at this
          · cases j with
            | zero => exact h
            | succ j =>
              have := hh j (by omega)
              rwa [show i + (j + 1) = i + 1 + j by omega]
        rw [e]
        exact ih (i + 1) (by omega)
  have := key n 0 (by omega)
  simpa using this
theorem rd_nat (l : List Int) (i : Nat) : rd l (i : Int) = l.getD i 0 := by unfold rd; rw [Int.toNat_natCast]
theorem rd_map {F : Nat → Int} {n i : Nat} (h : i < n) : rd ((List.range n).map F) (i : Int) = F i := by
  rw [rd_nat, List.getD_eq_getElem?_getD, List.getElem?_map, List.getElem?_range h]; rfl
theorem map_rd (l : List Int) : ((List.range l.length).map fun (j : Nat) => rd l (j : Int)) = l := by
  apply List.ext_getElem
  · simp
  · intro i h1 h2
    rw [List.getElem_map, List.getElem_range, rd_nat, List.getD_eq_getElem?_getD, List.getElem?_eq_getElem h2]; rfl
theorem toInt (l : List Int) (h : l.length ≤ 1048576) : Ev (fun k => laws_toInt64S.f k l) l := by
  unfold laws_toInt64S.f
  refine ev_if (by omega) (ev_if (by omega) ?_)
  have key : ∀ d i : Nat, i + d = l.length → ∀ t : List Int, t = l.take i ++ List.replicate d 0 → Ev (fun k => laws_toInt64S.l0 k l t (i : Int)) l := by
    intro d
    induction d with
    | zero =>
      intro i hi t ht
      refine ⟨1, fun k hk => ?_⟩
      obtain ⟨k, rfl⟩ : ∃ m, k = m + 1 := ⟨k - 1, by omega⟩
      simp only [laws_toInt64S.l0]
      rw [if_neg (by omega), ht, List.take_of_length_le (by omega)]; simp
    | succ d ih =>
      intro i hi t ht
      have hl : t.length = l.length := by rw [ht]; simp; omega
      refine Ev.step (f := fun k => laws_toInt64S.l0 k l (t.set i (rd l (i : Int))) ((i + 1 : Nat) : Int)) (fun k => ?_) (ih (i + 1) (by omega) _ ?_)
      · simp only [laws_toInt64S.l0]
        rw [if_pos (by omega), if_pos (by omega), if_pos (by omega), w1 (by omega), Int.toNat_natCast]
      · rw [ht, List.set_append, if_neg (by simp; omega)]
        have e1 : i - (l.take i).length = 0 := by simp; omega
        rw [e1, List.replicate_succ, List.set_cons_zero, rd_nat, List.take_add_one, List.append_assoc]
        rw [List.getElem?_eq_getElem (by omega), List.getD_eq_getElem?_getD, List.getElem?_eq_getElem (by omega)]
        rfl
  have := key l.length 0 (by omega) (List.replicate l.length 0) (by simp)
  simpa using this
theorem eqSame (l : List Int) (h : l.length ≤ 1048576) : Ev (fun k => laws_eqInt64S.f k l l) true := by
  unfold laws_eqInt64S.f
  refine ev_if rfl ?_
  have := loop_all (L := fun k i => laws_eqInt64S.l0 k l l i) l.length (fun _ => true) true
    (fun i hi _ r he => Ev.step (fun k => by simp only [laws_eqInt64S.l0]; rw [if_pos (by omega), if_pos (by omega), if_pos (by omega), if_pos trivial, w1 (by omega)]) he)
    (fun i hi hp => by cases hp)
    ⟨1, fun k hk => by
      obtain ⟨k, rfl⟩ : ∃ m, k = m + 1 := ⟨k - 1, by omega⟩
      simp only [laws_eqInt64S.l0]; rw [if_neg (by omega)]⟩
  have e : ((List.range l.length).all fun _ => true) = true := List.all_eq_true.mpr fun _ _ => rfl
  rw [e] at this
  exact this
end Go.Proofs.YtgaemhbffdlbaaaDoor.V
