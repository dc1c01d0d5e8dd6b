/- Operations on words: which are associative, which commutative; folds of associative operations. No condition but words. -/
import Derived.Test.YteknfebehafbdaaB0
namespace Go.Proofs.Yteknfebehafbdaa.V
open Go.RowKit Go.Proofs.Yteknfebehafbdaa.Bx Go.Proofs.YteknfebehafbdaaW.PrintWords Go.Proofs.YteknfebehafbdaaW.PrintLast Go.Proofs.YteknfebehafbdaaW.PrintMore
set_option linter.unusedVariables false
set_option linter.unusedSimpArgs false

theorem bits_and {a b : Nat} (ha : a < 2 ^ 62) (hb : b < 2 ^ 62) : Go.bits .and .i64 (a : Int) (b : Int) = ((a &&& b : Nat) : Int) := by
  have h : a &&& b < 2 ^ 62 := Nat.and_lt_two_pow _ hb
  show IntKind.i64.wrap (((BitVec.ofInt 64 (a : Int) &&& BitVec.ofInt 64 (b : Int)).toNat : Nat) : Int) = _
  rw [BitVec.toNat_and, BitVec.ofInt_natCast, BitVec.ofInt_natCast, BitVec.toNat_ofNat, BitVec.toNat_ofNat, Nat.mod_eq_of_lt (by omega), Nat.mod_eq_of_lt (by omega), IntKind.wrap_i64]
  omega
theorem bits_or {a b : Nat} (ha : a < 2 ^ 62) (hb : b < 2 ^ 62) : Go.bits .or .i64 (a : Int) (b : Int) = ((a ||| b : Nat) : Int) := by
  have h : a ||| b < 2 ^ 62 := Nat.or_lt_two_pow ha hb
  show IntKind.i64.wrap (((BitVec.ofInt 64 (a : Int) ||| BitVec.ofInt 64 (b : Int)).toNat : Nat) : Int) = _
  rw [BitVec.toNat_or, BitVec.ofInt_natCast, BitVec.ofInt_natCast, BitVec.toNat_ofNat, BitVec.toNat_ofNat, Nat.mod_eq_of_lt (by omega), Nat.mod_eq_of_lt (by omega), IntKind.wrap_i64]
  omega
theorem bits_xor {a b : Nat} (ha : a < 2 ^ 62) (hb : b < 2 ^ 62) : Go.bits .xor .i64 (a : Int) (b : Int) = ((a ^^^ b : Nat) : Int) := by
  have h : a ^^^ b < 2 ^ 62 := Nat.xor_lt_two_pow ha hb
  show IntKind.i64.wrap (((BitVec.ofInt 64 (a : Int) ^^^ BitVec.ofInt 64 (b : Int)).toNat : Nat) : Int) = _
  rw [BitVec.toNat_xor, BitVec.ofInt_natCast, BitVec.ofInt_natCast, BitVec.toNat_ofNat, BitVec.toNat_ofNat, Nat.mod_eq_of_lt (by omega), Nat.mod_eq_of_lt (by omega), IntKind.wrap_i64]
  omega
theorem word_nat {b x : Int} (h : Word b x) : ∃ a : Nat, x = a ∧ a < 2 ^ 62 := by
  have := @M_le b
  obtain ⟨_, h0, h1⟩ := h
  exact ⟨x.toNat, by omega, by omega⟩
def Comm (op : Int) : Prop := op = 0 ∨ op = 14 ∨ (2 ≤ op ∧ op ≤ 11)
def Assoc (op : Int) : Prop := op = 0 ∨ (2 ≤ op ∧ op ≤ 10)
instance (op : Int) : Decidable (Comm op) := inferInstanceAs (Decidable (_ ∨ _ ∨ _))
instance (op : Int) : Decidable (Assoc op) := inferInstanceAs (Decidable (_ ∨ _))
theorem sg_inj {b x y : Int} (hx : Word b x) (hy : Word b y) (h : sg b x = sg b y) : x = y := by rw [← sg_mod hx, ← sg_mod hy, h]
theorem res_comm {op b x y : Int} (ho : Comm op) (hx : Word b x) (hy : Word b y) : res op b x y = res op b y x := by
  have hop : op = 0 ∨ op = 2 ∨ op = 3 ∨ op = 4 ∨ op = 5 ∨ op = 6 ∨ op = 7 ∨ op = 8 ∨ op = 9 ∨ op = 10 ∨ op = 11 ∨ op = 14 := by unfold Comm at ho; omega
  obtain ⟨a, rfl, ha⟩ := word_nat hx
  obtain ⟨c, rfl, hc⟩ := word_nat hy
  rcases hop with rfl | rfl | rfl | rfl | rfl | rfl | rfl | rfl | rfl | rfl | rfl | rfl
  · show ((a : Int) + c) % M b = (c + a) % M b
    rw [Int.add_comm]
  · show ((a : Int) * c) % M b = (c * a) % M b
    rw [Int.mul_comm]
  · show Go.bits .and .i64 _ _ = Go.bits .and .i64 _ _
    rw [bits_and ha hc, bits_and hc ha, Nat.and_comm]
  · show Go.bits .or .i64 _ _ = Go.bits .or .i64 _ _
    rw [bits_or ha hc, bits_or hc ha, Nat.or_comm]
  · show Go.bits .xor .i64 _ _ = Go.bits .xor .i64 _ _
    rw [bits_xor ha hc, bits_xor hc ha, Nat.xor_comm]
  · show (if (a : Int) < c then (a : Int) else c) = if (c : Int) < a then (c : Int) else a
    split <;> split <;> omega
  · show (if (a : Int) > c then (a : Int) else c) = if (c : Int) > a then (c : Int) else a
    split <;> split <;> omega
  · show (if sg b a ≤ sg b c then (a : Int) else c) = if sg b c ≤ sg b a then (c : Int) else a
    split <;> split
    · exact sg_inj hx hy (by omega)
    · rfl
    · rfl
    · omega
  · show (if sg b a ≥ sg b c then (a : Int) else c) = if sg b c ≥ sg b a then (c : Int) else a
    split <;> split
    · exact sg_inj hx hy (by omega)
    · rfl
    · rfl
    · omega
  · show clamp ((a : Int) + c) 0 (M b - 1) = clamp (c + a) 0 (M b - 1)
    rw [Int.add_comm]
  · show clamp (sg b a + sg b c) _ _ % M b = clamp (sg b c + sg b a) _ _ % M b
    rw [Int.add_comm]
  · show ((a : Int) + c + 1) / 2 = (c + a + 1) / 2
    rw [Int.add_comm (a : Int)]
theorem mul_mod3 (x y z m : Int) : (x * y % m * z) % m = (x * (y * z % m)) % m := by
  rw [Int.mul_emod (x * y % m) z m, Int.emod_emod_of_dvd _ (Int.dvd_refl m), ← Int.mul_emod, Int.mul_emod x (y * z % m) m, Int.emod_emod_of_dvd _ (Int.dvd_refl m), ← Int.mul_emod, Int.mul_assoc]
theorem res_assoc {op b x y z : Int} (ho : Assoc op) (hx : Word b x) (hy : Word b y) (hz : Word b z) : res op b (res op b x y) z = res op b x (res op b y z) := by
  have hop : op = 0 ∨ op = 2 ∨ op = 3 ∨ op = 4 ∨ op = 5 ∨ op = 6 ∨ op = 7 ∨ op = 8 ∨ op = 9 ∨ op = 10 := by unfold Assoc at ho; omega
  have hb := hx.1
  have hx2 := hx.2
  have hy2 := hy.2
  have hz2 := hz.2
  obtain ⟨a, rfl, ha⟩ := word_nat hx
  obtain ⟨c, rfl, hc⟩ := word_nat hy
  obtain ⟨d, rfl, hd⟩ := word_nat hz
  rcases hop with rfl | rfl | rfl | rfl | rfl | rfl | rfl | rfl | rfl | rfl
  · show (((a : Int) + c) % M b + d) % M b = (a + (c + d) % M b) % M b
    rw [Int.emod_add_emod, Int.add_emod_emod, Int.add_assoc]
  · show (((a : Int) * c) % M b * d) % M b = (a * ((c * d) % M b)) % M b
    exact mul_mod3 _ _ _ _
  · show Go.bits .and .i64 (Go.bits .and .i64 _ _) _ = Go.bits .and .i64 _ (Go.bits .and .i64 _ _)
    rw [bits_and ha hc, bits_and hc hd, bits_and (Nat.and_lt_two_pow _ hc) hd, bits_and ha (Nat.and_lt_two_pow _ hd), Nat.and_assoc]
  · show Go.bits .or .i64 (Go.bits .or .i64 _ _) _ = Go.bits .or .i64 _ (Go.bits .or .i64 _ _)
    rw [bits_or ha hc, bits_or hc hd, bits_or (Nat.or_lt_two_pow ha hc) hd, bits_or ha (Nat.or_lt_two_pow hc hd), Nat.or_assoc]
  · show Go.bits .xor .i64 (Go.bits .xor .i64 _ _) _ = Go.bits .xor .i64 _ (Go.bits .xor .i64 _ _)
    rw [bits_xor ha hc, bits_xor hc hd, bits_xor (Nat.xor_lt_two_pow ha hc) hd, bits_xor ha (Nat.xor_lt_two_pow hc hd), Nat.xor_assoc]
  · show (if (if (a : Int) < c then (a : Int) else c) < d then (if (a : Int) < c then (a : Int) else c) else d) = if (a : Int) < (if (c : Int) < d then (c : Int) else d) then (a : Int) else (if (c : Int) < d then (c : Int) else d)
    repeat' split
    all_goals omega
  · show (if (if (a : Int) > c then (a : Int) else c) > d then (if (a : Int) > c then (a : Int) else c) else d) = if (a : Int) > (if (c : Int) > d then (c : Int) else d) then (a : Int) else (if (c : Int) > d then (c : Int) else d)
    repeat' split
    all_goals omega
  · show (if sg b (if sg b a ≤ sg b c then (a : Int) else c) ≤ sg b d then (if sg b a ≤ sg b c then (a : Int) else c) else d) = if sg b a ≤ sg b (if sg b c ≤ sg b d then (c : Int) else d) then (a : Int) else (if sg b c ≤ sg b d then (c : Int) else d)
    by_cases h1 : sg b a ≤ sg b c <;> by_cases h2 : sg b c ≤ sg b d <;> by_cases h3 : sg b a ≤ sg b d <;> simp only [h1, h2, h3, if_true, if_false] <;> omega
  · show (if sg b (if sg b a ≥ sg b c then (a : Int) else c) ≥ sg b d then (if sg b a ≥ sg b c then (a : Int) else c) else d) = if sg b a ≥ sg b (if sg b c ≥ sg b d then (c : Int) else d) then (a : Int) else (if sg b c ≥ sg b d then (c : Int) else d)
    by_cases h1 : sg b a ≥ sg b c <;> by_cases h2 : sg b c ≥ sg b d <;> by_cases h3 : sg b a ≥ sg b d <;> simp only [h1, h2, h3, if_true, if_false] <;> omega
  · show clamp (clamp ((a : Int) + c) 0 (M b - 1) + d) 0 (M b - 1) = clamp (a + clamp (c + d) 0 (M b - 1)) 0 (M b - 1)
    unfold clamp
    repeat' split
    all_goals omega

section Folds
variable {o : Int → Int → Int} {W : Int → Prop} (hcl : ∀ x y, W x → W y → W (o x y)) (has : ∀ x y z, W x → W y → W z → o (o x y) z = o x (o y z)) (hco : ∀ x y, W x → W y → o x y = o y x)
/-- The fold of f from s on, of n + 1 places. -/
def fo (o : Int → Int → Int) (f : Nat → Int) (s : Nat) : Nat → Int
  | 0 => f s
  | n + 1 => o (fo o f s n) (f (s + n + 1))
include hcl in
theorem fo_in {f : Nat → Int} (hf : ∀ j, W (f j)) (s : Nat) : ∀ n, W (fo o f s n)
  | 0 => hf s
  | n + 1 => hcl _ _ (fo_in hf s n) (hf _)
include hcl has in
theorem fo_split {f : Nat → Int} (hf : ∀ j, W (f j)) (s m : Nat) : ∀ n, fo o f s (m + 1 + n) = o (fo o f s m) (fo o f (s + m + 1) n)
  | 0 => rfl
  | n + 1 => by
    show o (fo o f s (m + 1 + n)) (f (s + (m + 1 + n) + 1)) = o (fo o f s m) (o (fo o f (s + m + 1) n) (f (s + m + 1 + n + 1)))
    rw [fo_split hf s m n, has _ _ _ (fo_in hcl hf s m) (fo_in hcl hf _ n) (hf _), show s + (m + 1 + n) + 1 = s + m + 1 + n + 1 by omega]
include hcl has hco in
theorem fo_pair {f g : Nat → Int} (hf : ∀ j, W (f j)) (hg : ∀ j, W (g j)) (s : Nat) : ∀ n, fo o (fun j => o (f j) (g j)) s n = o (fo o f s n) (fo o g s n)
  | 0 => rfl
  | n + 1 => by
    show o (fo o (fun j => o (f j) (g j)) s n) (o (f (s + n + 1)) (g (s + n + 1))) = o (o (fo o f s n) (f (s + n + 1))) (o (fo o g s n) (g (s + n + 1)))
    have a := fo_in hcl hf s n
    have b := fo_in hcl hg s n
    have c := hf (s + n + 1)
    have d := hg (s + n + 1)
    rw [fo_pair hf hg s n, has _ _ _ a b (hcl _ _ c d), has _ _ _ a c (hcl _ _ b d), ← has _ _ _ b c d, hco _ _ b c, has _ _ _ c b d]
theorem fo_ext {f g : Nat → Int} (s t : Nat) : ∀ n, (∀ j, j ≤ n → f (s + j) = g (t + j)) → fo o f s n = fo o g t n
  | 0, h => h 0 (Nat.le_refl _)
  | n + 1, h => by
    show o (fo o f s n) (f (s + n + 1)) = o (fo o g t n) (g (t + n + 1))
    rw [fo_ext s t n (fun j hj => h j (by omega)), show s + n + 1 = s + (n + 1) by omega, show t + n + 1 = t + (n + 1) by omega, h (n + 1) (Nat.le_refl _)]
end Folds
end Go.Proofs.Yteknfebehafbdaa.V
