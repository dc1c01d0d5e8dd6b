/- Operations on words: which are associative, which commutative; a drawn number. No condition but words, and that bytes are bytes. -/
import Derived.OpenShut
import Derived.Test.YtgaemhbffdlbaaaDoorB0
import Derived.Test.YtgaemhbffdlbaaaDoorK7
namespace Go.Proofs.YtgaemhbffdlbaaaDoor.V
open Go.RowKit Go.Proofs.YtgaemhbffdlbaaaDoor.K Go.Proofs.YtgaemhbffdlbaaaDoor.Bx Go.Proofs.YtgaemhbffdlbaaaDoorW.PrintWords Go.Proofs.YtgaemhbffdlbaaaDoorW.PrintLast Go.Proofs.YtgaemhbffdlbaaaDoorW.PrintMore
set_option linter.unusedVariables false
set_option linter.unusedSimpArgs false

theorem bits_and {a b : Nat} (ha : a < 2 ^ 62) (hb : b < 2 ^ 62) : Go.bits .and .i64 (a : Int) (b : Int) = ((a &&& b : Nat) : Int) := by
  have h : a &&& b < 2 ^ 62 := Nat.and_lt_two_pow _ hb
  show IntKind.i64.wrap (((BitVec.ofInt 64 (a : Int) &&& BitVec.ofInt 64 (b : Int)).toNat : Nat) : Int) = _
  rw [BitVec.toNat_and, BitVec.ofInt_natCast, BitVec.ofInt_natCast, BitVec.toNat_ofNat, BitVec.toNat_ofNat, Nat.mod_eq_of_lt (by omega), Nat.mod_eq_of_lt (by omega), IntKind.wrap_i64]
  omega
theorem bits_or {a b : Nat} (ha : a < 2 ^ 62) (hb : b < 2 ^ 62) : Go.bits .or .i64 (a : Int) (b : Int) = ((a ||| b : Nat) : Int) := by
  have h : a ||| b < 2 ^ 62 := Nat.or_lt_two_pow ha hb
  show IntKind.i64.wrap (((BitVec.ofInt 64 (a : Int) ||| BitVec.ofInt 64 (b : Int)).toNat : Nat) : Int) = _
  rw [BitVec.toNat_or, BitVec.ofInt_natCast, BitVec.ofInt_natCast, BitVec.toNat_ofNat, BitVec.toNat_ofNat, Nat.mod_eq_of_lt (by omega), Nat.mod_eq_of_lt (by omega), IntKind.wrap_i64]
  omega
theorem bits_xor {a b : Nat} (ha : a < 2 ^ 62) (hb : b < 2 ^ 62) : Go.bits .xor .i64 (a : Int) (b : Int) = ((a ^^^ b : Nat) : Int) := by
  have h : a ^^^ b < 2 ^ 62 := Nat.xor_lt_two_pow ha hb
  show IntKind.i64.wrap (((BitVec.ofInt 64 (a : Int) ^^^ BitVec.ofInt 64 (b : Int)).toNat : Nat) : Int) = _
  rw [BitVec.toNat_xor, BitVec.ofInt_natCast, BitVec.ofInt_natCast, BitVec.toNat_ofNat, BitVec.toNat_ofNat, Nat.mod_eq_of_lt (by omega), Nat.mod_eq_of_lt (by omega), IntKind.wrap_i64]
  omega
theorem word_nat {b x : Int} (h : Word b x) : ∃ a : Nat, x = a ∧ a < 2 ^ 62 := by
  have := @M_le b
  obtain ⟨_, h0, h1⟩ := h
  exact ⟨x.toNat, by omega, by omega⟩
def Comm (op : Int) : Prop := op = 0 ∨ op = 14 ∨ (2 ≤ op ∧ op ≤ 11)
def Assoc (op : Int) : Prop := op = 0 ∨ (2 ≤ op ∧ op ≤ 10)
instance (op : Int) : Decidable (Comm op) := inferInstanceAs (Decidable (_ ∨ _ ∨ _))
instance (op : Int) : Decidable (Assoc op) := inferInstanceAs (Decidable (_ ∨ _))
theorem sg_inj {b x y : Int} (hx : Word b x) (hy : Word b y) (h : sg b x = sg b y) : x = y := by rw [← sg_mod hx, ← sg_mod hy, h]
theorem res_comm {op b x y : Int} (ho : Comm op) (hx : Word b x) (hy : Word b y) : res op b x y = res op b y x := by
  have hop : op = 0 ∨ op = 2 ∨ op = 3 ∨ op = 4 ∨ op = 5 ∨ op = 6 ∨ op = 7 ∨ op = 8 ∨ op = 9 ∨ op = 10 ∨ op = 11 ∨ op = 14 := by unfold Comm at ho; omega
  obtain ⟨a, rfl, ha⟩ := word_nat hx
  obtain ⟨c, rfl, hc⟩ := word_nat hy
  rcases hop with rfl | rfl | rfl | rfl | rfl | rfl | rfl | rfl | rfl | rfl | rfl | rfl
  · show ((a : Int) + c) % M b = (c + a) % M b
    rw [Int.add_comm]
  · show ((a : Int) * c) % M b = (c * a) % M b
    rw [Int.mul_comm]
  · show Go.bits .and .i64 _ _ = Go.bits .and .i64 _ _
    rw [bits_and ha hc, bits_and hc ha, Nat.and_comm]
  · show Go.bits .or .i64 _ _ = Go.bits .or .i64 _ _
    rw [bits_or ha hc, bits_or hc ha, Nat.or_comm]
  · show Go.bits .xor .i64 _ _ = Go.bits .xor .i64 _ _
    rw [bits_xor ha hc, bits_xor hc ha, Nat.xor_comm]
  · show (if (a : Int) < c then (a : Int) else c) = if (c : Int) < a then (c : Int) else a
    split <;> split <;> omega
  · show (if (a : Int) > c then (a : Int) else c) = if (c : Int) > a then (c : Int) else a
    split <;> split <;> omega
  · show (if sg b a ≤ sg b c then (a : Int) else c) = if sg b c ≤ sg b a then (c : Int) else a
    split <;> split
    · exact sg_inj hx hy (by omega)
    · rfl
    · rfl
    · omega
  · show (if sg b a ≥ sg b c then (a : Int) else c) = if sg b c ≥ sg b a then (c : Int) else a
    split <;> split
    · exact sg_inj hx hy (by omega)
    · rfl
    · rfl
    · omega
  · show clamp ((a : Int) + c) 0 (M b - 1) = clamp (c + a) 0 (M b - 1)
    rw [Int.add_comm]
  · show clamp (sg b a + sg b c) _ _ % M b = clamp (sg b c + sg b a) _ _ % M b
    rw [Int.add_comm]
  · show ((a : Int) + c + 1) / 2 = (c + a + 1) / 2
    rw [Int.add_comm (a : Int)]
theorem mul_mod3 (x y z m : Int) : (x * y % m * z) % m = (x * (y * z % m)) % m := by
  rw [Int.mul_emod (x * y % m) z m, Int.emod_emod_of_dvd _ (Int.dvd_refl m), ← Int.mul_emod, Int.mul_emod x (y * z % m) m, Int.emod_emod_of_dvd _ (Int.dvd_refl m), ← Int.mul_emod, Int.mul_assoc]
theorem res_assoc {op b x y z : Int} (ho : Assoc op) (hx : Word b x) (hy : Word b y) (hz : Word b z) : res op b (res op b x y) z = res op b x (res op b y z) := by
  have hop : op = 0 ∨ op = 2 ∨ op = 3 ∨ op = 4 ∨ op = 5 ∨ op = 6 ∨ op = 7 ∨ op = 8 ∨ op = 9 ∨ op = 10 := by unfold Assoc at ho; omega
  have hb := hx.1
  have hx2 := hx.2
  have hy2 := hy.2
  have hz2 := hz.2
  obtain ⟨a, rfl, ha⟩ := word_nat hx
  obtain ⟨c, rfl, hc⟩ := word_nat hy
  obtain ⟨d, rfl, hd⟩ := word_nat hz
  rcases hop with rfl | rfl | rfl | rfl | rfl | rfl | rfl | rfl | rfl | rfl
  · show (((a : Int) + c) % M b + d) % M b = (a + (c + d) % M b) % M b
    rw [Int.emod_add_emod, Int.add_emod_emod, Int.add_assoc]
  · show (((a : Int) * c) % M b * d) % M b = (a * ((c * d) % M b)) % M b
    exact mul_mod3 _ _ _ _
  · show Go.bits .and .i64 (Go.bits .and .i64 _ _) _ = Go.bits .and .i64 _ (Go.bits .and .i64 _ _)
    rw [bits_and ha hc, bits_and hc hd, bits_and (Nat.and_lt_two_pow _ hc) hd, bits_and ha (Nat.and_lt_two_pow _ hd), Nat.and_assoc]
  · show Go.bits .or .i64 (Go.bits .or .i64 _ _) _ = Go.bits .or .i64 _ (Go.bits .or .i64 _ _)
    rw [bits_or ha hc, bits_or hc hd, bits_or (Nat.or_lt_two_pow ha hc) hd, bits_or ha (Nat.or_lt_two_pow hc hd), Nat.or_assoc]
  · show Go.bits .xor .i64 (Go.bits .xor .i64 _ _) _ = Go.bits .xor .i64 _ (Go.bits .xor .i64 _ _)
    rw [bits_xor ha hc, bits_xor hc hd, bits_xor (Nat.xor_lt_two_pow ha hc) hd, bits_xor ha (Nat.xor_lt_two_pow hc hd), Nat.xor_assoc]
  · show (if (if (a : Int) < c then (a : Int) else c) < d then (if (a : Int) < c then (a : Int) else c) else d) = if (a : Int) < (if (c : Int) < d then (c : Int) else d) then (a : Int) else (if (c : Int) < d then (c : Int) else d)
    repeat' split
    all_goals omega
  · show (if (if (a : Int) > c then (a : Int) else c) > d then (if (a : Int) > c then (a : Int) else c) else d) = if (a : Int) > (if (c : Int) > d then (c : Int) else d) then (a : Int) else (if (c : Int) > d then (c : Int) else d)
    repeat' split
    all_goals omega
  · show (if sg b (if sg b a ≤ sg b c then (a : Int) else c) ≤ sg b d then (if sg b a ≤ sg b c then (a : Int) else c) else d) = if sg b a ≤ sg b (if sg b c ≤ sg b d then (c : Int) else d) then (a : Int) else (if sg b c ≤ sg b d then (c : Int) else d)
    by_cases h1 : sg b a ≤ sg b c <;> by_cases h2 : sg b c ≤ sg b d <;> by_cases h3 : sg b a ≤ sg b d <;> simp only [h1, h2, h3, if_true, if_false] <;> omega
  · show (if sg b (if sg b a ≥ sg b c then (a : Int) else c) ≥ sg b d then (if sg b a ≥ sg b c then (a : Int) else c) else d) = if sg b a ≥ sg b (if sg b c ≥ sg b d then (c : Int) else d) then (a : Int) else (if sg b c ≥ sg b d then (c : Int) else d)
    by_cases h1 : sg b a ≥ sg b c <;> by_cases h2 : sg b c ≥ sg b d <;> by_cases h3 : sg b a ≥ sg b d <;> simp only [h1, h2, h3, if_true, if_false] <;> omega
  · show clamp (clamp ((a : Int) + c) 0 (M b - 1) + d) 0 (M b - 1) = clamp (a + clamp (c + d) 0 (M b - 1)) 0 (M b - 1)
    unfold clamp
    repeat' split
    all_goals omega

def Bytes (l : List Int) : Prop := ∀ x ∈ l, 0 ≤ x ∧ x ≤ 255
theorem bytes_of {l : List Int} (h : ∀ x ∈ l, (Lit.int .u8 x).wf = true) : Bytes l := fun x hx => bounds_u8 (h x hx)
theorem rd_mem {l : List Int} {i : Int} (h0 : 0 ≤ i) (h1 : i < (l.length : Int)) : rd l i ∈ l := by
  unfold rd
  rw [List.getD_eq_getElem?_getD, List.getElem?_eq_getElem (by omega)]
  exact List.getElem_mem _
theorem b10At {s : List Int} (hs : Bytes s) (i n : Int) (hi : 0 ≤ i ∧ i ≤ 1000) (hn : 1 ≤ n) : ∃ v : Int, laws_b10At.f s i n = some v ∧ 0 ≤ v ∧ v < n := by
  unfold laws_b10At.f
  by_cases h1 : n ≤ 1
  · rw [if_pos h1]; exact ⟨0, rfl, by omega, by omega⟩
  · rw [if_neg h1]
    by_cases h2 : i < (s.length : Int)
    · rw [if_pos h2, if_pos hi.1, if_neg (by omega)]
      have hv := hs _ (rd_mem hi.1 h2)
      rw [w_small (by omega)]
      exact ⟨_, rfl, Int.tmod_nonneg _ (by omega), Int.tmod_lt_of_pos _ (by omega)⟩
    · rw [if_neg h2, if_neg (by omega), w_small (n := i * 37) (by omega), w_small (by omega)]
      exact ⟨_, rfl, Int.tmod_nonneg _ (by omega), Int.tmod_lt_of_pos _ (by omega)⟩
end Go.Proofs.YtgaemhbffdlbaaaDoor.V
