/- For all arguments the law answers true: program and reference return the same. No condition. -/
import Derived.Test.YtigffehcchhlkaaPFnExactCheckOfx1
namespace Go.Proofs.Ytigffehcchhlkaa.Pure
open Go.RowKit Go.Proofs.Ytigffehcchhlkaa.PFnExactCheckOf Go.Proofs.YtigffehcchhlkaaW.PrintWords Go.Proofs.YtigffehcchhlkaaW.PrintLast

theorem loops (s : ByteArray) (hs : s.size ≤ 1048576) (d : Nat) : ∀ (k : Nat) (x i : Int), 0 ≤ i → (s.size : Int) - i = d → d < k →
    ∃ r, spec_l01Check.l0 k x s i = some r ∧ impl_CheckOf.l0 k x s (s.size : Int) i = some (r, true) := by
  induction d with
  | zero =>
    intro k x i h0 hd hk
    obtain ⟨k, rfl⟩ : ∃ m, k = m + 1 := ⟨k - 1, by omega⟩
    refine ⟨x, ?_, ?_⟩
    · simp only [spec_l01Check.l0]; rw [if_neg (by omega)]
    · simp only [impl_CheckOf.l0]; rw [if_neg (by omega)]
  | succ d ih =>
    intro k x i h0 hd hk
    obtain ⟨k, rfl⟩ : ∃ m, k = m + 1 := ⟨k - 1, by omega⟩
    have e : wrap64 (i + 1) = i + 1 := by unfold wrap64; omega
    obtain ⟨r, h1, h2⟩ := ih k (Int.tmod (wrap64 ((wrap64 ((wrap64 (173 * x)) + (wrap64 (bt s i)))) + 3)) 64007) (i + 1) (by omega) (by omega) (by omega)
    refine ⟨r, ?_, ?_⟩
    · simp only [spec_l01Check.l0]; rw [if_pos (by omega), if_pos h0, e]; exact h1
    · simp only [impl_CheckOf.l0]; rw [if_pos (by omega), if_pos h0, if_pos (by omega), e]; exact h2
theorem ins (n lo hi : Int) : spec_l00In.f n lo hi = impl_within.f n lo hi := rfl

theorem FnExactCheckOf : laws_FnExactCheckOf.Pure := by
  intro a0 s _ _
  refine ⟨s.size + 1, ?_⟩
  unfold laws_FnExactCheckOf.f
  by_cases hs : (s.size : Int) > 1048576
  · rw [if_pos hs]
  rw [if_neg hs]
  obtain ⟨r, h1, h2⟩ := loops s (by omega) s.size (s.size + 1) a0 0 (by omega) (by omega) (by omega)
  unfold spec_CheckOf.f impl_CheckOf.f spec_l01Check.f
  rw [ins, h1, h2]
  cases h : impl_within.f a0 0 64006 with
  | none => unfold impl_within.f at h; split at h <;> cases h
  | some b => cases b <;> simp

end Go.Proofs.Ytigffehcchhlkaa.Pure
