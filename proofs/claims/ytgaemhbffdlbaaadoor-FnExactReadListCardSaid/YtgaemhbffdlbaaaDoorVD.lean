/- The reference's decimal text is the library's. No condition but whole numbers of 64 bits. -/
import Derived.Test.YtgaemhbffdlbaaaDoorK2
import Derived.Lib.ItoaNum
import Derived.Lib.ItoaMem
import Derived.Lib.ItoaLen
namespace Go.Proofs.YtgaemhbffdlbaaaDoor.V
open Go.RowKit Go.Proofs.YtgaemhbffdlbaaaDoor.K Go.Proofs.YtgaemhbffdlbaaaDoorW.PrintWords Go.Proofs.YtgaemhbffdlbaaaDoorW.PrintLast
set_option linter.unusedVariables false
set_option linter.unusedSimpArgs false

/-- The digits as numbers. -/
def ds (u : Nat) : List Int := (Lib.decDigits u).map fun b => (b.toNat : Int)
theorem ds_small {u : Nat} (h : u < 10) : ds u = [48 + (u : Int)] := by
  unfold ds
  rw [Lib.decDigits_one h]
  have : (UInt8.ofNat (48 + u)).toNat = 48 + u := by simp; omega
  rw [List.map_singleton, this]
  congr 1
theorem ds_big {u : Nat} (h : ¬ u < 10) : ds u = ds (u / 10) ++ [48 + ((u % 10 : Nat) : Int)] := by
  unfold ds
  rw [Lib.decDigits, dif_neg h, List.map_append]
  have : (UInt8.ofNat (48 + u % 10)).toNat = 48 + u % 10 := by simp; omega
  rw [List.map_singleton, this]
  congr 1
theorem str_digits (l : List UInt8) : strOfNums (l.map fun b => (b.toNat : Int)) = ⟨l.toArray⟩ := by
  unfold strOfNums
  rw [List.map_map]
  have : ((fun n : Int => UInt8.ofNat n.toNat) ∘ fun b : UInt8 => (b.toNat : Int)) = id := by funext b; simp
  rw [this, List.map_id]
/-- The next digit, and what is left. -/
theorem dec_dig {u : Nat} {x : Int} (h : x = u ∨ x = -(u : Int)) (hu : u ≤ 9223372036854775808) :
    (Int.tmod x 10 < 0 → (wrap64 (48 + (wrap64 (-(Int.tmod x 10))))) % 256 = 48 + ((u % 10 : Nat) : Int)) ∧ (¬ Int.tmod x 10 < 0 → (wrap64 (48 + (Int.tmod x 10))) % 256 = 48 + ((u % 10 : Nat) : Int)) ∧
    (wrap64 (Int.tdiv x 10) = ((u / 10 : Nat) : Int) ∨ wrap64 (Int.tdiv x 10) = -((u / 10 : Nat) : Int)) := by
  rcases h with rfl | rfl
  · have e1 : Int.tmod (u : Int) 10 = ((u % 10 : Nat) : Int) := rfl
    have e2 : Int.tdiv (u : Int) 10 = ((u / 10 : Nat) : Int) := rfl
    rw [e1, e2]
    unfold wrap64
    refine ⟨fun h => by omega, fun h => by omega, Or.inl (by omega)⟩
  · have e1 : Int.tmod (-(u : Int)) 10 = -((u % 10 : Nat) : Int) := by rw [Int.neg_tmod]; rfl
    have e2 : Int.tdiv (-(u : Int)) 10 = -((u / 10 : Nat) : Int) := by rw [Int.neg_tdiv]; rfl
    rw [e1, e2]
    unfold wrap64
    refine ⟨fun h => by omega, fun h => by omega, Or.inr (by omega)⟩
theorem dec_step {n : Int} {x3 : List Int} {u : Nat} {x4 : Int} (hx : x4 = u ∨ x4 = -(u : Int)) (hu : u ≤ 9223372036854775808) (hl : x3.length < 1000) {r : ByteArray}
    (h : ∀ x : Int, (x = ((u / 10 : Nat) : Int) ∨ x = -((u / 10 : Nat) : Int)) → Ev (fun k => spec_l01Dec.l0 k n ((48 + ((u % 10 : Nat) : Int)) :: x3) x) r) : Ev (fun k => spec_l01Dec.j1 k n x3 x4 true) r := by
  obtain ⟨h1, h2, h3⟩ := dec_dig hx hu
  refine Ev.step (fun k => ?_) (h _ h3)
  simp only [spec_l01Dec.j1]
  rw [if_pos trivial]
  by_cases hs : Int.tmod x4 10 < 0
  · rw [if_pos hs, Option.bind_some, h1 hs, if_pos (by simp; omega)]; rfl
  · rw [if_neg hs, Option.bind_some, h2 hs, if_pos (by simp; omega)]; rfl
theorem dec_loop (n : Int) : ∀ (u : Nat) (x3 : List Int) (x4 : Int), (x4 = u ∨ x4 = -(u : Int)) → u ≤ 9223372036854775808 → (x3 = [] ∨ u ≠ 0) → x3.length + (ds u).length < 1000 →
    Ev (fun k => spec_l01Dec.l0 k n x3 x4) (strOfNums (if n < 0 then 45 :: (ds u ++ x3) else ds u ++ x3)) := by
  intro u
  induction u using Nat.strongRecOn with
  | _ u ih =>
    intro x3 x4 hx hu h0 hl
    have hstep : Ev (fun k => spec_l01Dec.j1 k n x3 x4 true) (strOfNums (if n < 0 then 45 :: (ds u ++ x3) else ds u ++ x3)) := by
      refine dec_step hx hu (by omega) (fun x hx' => ?_)
      by_cases h10 : u < 10
      · have e0 : u / 10 = 0 := by omega
        have em : u % 10 = u := by omega
        obtain rfl : x = 0 := by rw [e0] at hx'; omega
        rw [em, ds_small h10]
        rw [ds_small h10] at hl
        have hl2 : x3.length < 999 := by simp at hl; omega
        refine Ev.step (f := fun k => spec_l01Dec.j1 k n ((48 + (u : Int)) :: x3) 0 false) (fun k => ?_) ?_
        · simp only [spec_l01Dec.l0]
          rw [if_neg (by simp; omega)]; rfl
        · by_cases hn : n < 0
          · refine Ev.step (f := fun _ => some (strOfNums (45 :: ([48 + (u : Int)] ++ x3)))) (fun k => ?_) (by rw [if_pos hn]; exact Ev.now _)
            simp only [spec_l01Dec.j1]
            rw [if_neg (fun h => nomatch h), if_pos hn, Option.bind_some, if_pos (by simp; omega)]; rfl
          · refine Ev.step (f := fun _ => some (strOfNums ([48 + (u : Int)] ++ x3))) (fun k => ?_) (by rw [if_neg hn]; exact Ev.now _)
            simp only [spec_l01Dec.j1]
            rw [if_neg (fun h => nomatch h), if_neg hn]; rfl
      · rw [ds_big h10] at hl ⊢
        rw [List.length_append] at hl
        have := ih (u / 10) (by omega) ((48 + ((u % 10 : Nat) : Int)) :: x3) x hx' (by omega) (Or.inr (by omega)) (by simp at hl ⊢; omega)
        rw [List.append_assoc]
        exact this
    rcases h0 with rfl | h0
    · exact Ev.step (fun k => by simp only [spec_l01Dec.l0]; rw [if_pos (by simp)]) hstep
    · refine Ev.step (fun k => ?_) hstep
      simp only [spec_l01Dec.l0]
      by_cases hz : (x3.length : Int) = 0
      · rw [if_pos hz]
      · rw [if_neg hz]
        have : (x4 != 0) = true := by simp; omega
        rw [this]
theorem ds_len {u : Nat} (hu : u ≤ 9223372036854775808) : (ds u).length ≤ 20 := by
  rcases Nat.eq_zero_or_pos u with rfl | h0
  · rw [ds_small (by decide)]; decide
  · have := Lib.itoa_length_le (-(u : Int)) (by omega) (by omega)
    rw [Lib.itoa_neg u h0, List.length_cons] at this
    unfold ds
    rw [List.length_map]; omega
theorem dec (n : Int) (h0 : -9223372036854775808 ≤ n) (h1 : n ≤ 9223372036854775807) : Ev (fun k => spec_l01Dec.f k n) ⟨(Lib.itoa n).toArray⟩ := by
  unfold spec_l01Dec.f
  have hu : n.natAbs ≤ 9223372036854775808 := by omega
  have := dec_loop n n.natAbs [] n (by omega) hu (Or.inl rfl) (by have := ds_len hu; simp; omega)
  rw [List.append_nil] at this
  have e : strOfNums (if n < 0 then 45 :: ds n.natAbs else ds n.natAbs) = ⟨(Lib.itoa n).toArray⟩ := by
    rw [← str_digits]
    unfold Lib.itoa ds
    by_cases hn : n < 0
    · rw [if_pos hn, if_pos hn]; rfl
    · rw [if_neg hn, if_neg hn, show n.natAbs = n.toNat by omega]
  rw [← e]
  exact this
end Go.Proofs.YtgaemhbffdlbaaaDoor.V
