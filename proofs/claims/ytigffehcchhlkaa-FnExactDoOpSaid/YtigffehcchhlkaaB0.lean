/- Plain words on whole numbers: masks, wraps, the result of an operation in closed form. No condition. -/
import Derived.Test.YtigffehcchhlkaaWMore
import Derived.Test.YtigffehcchhlkaaWLast
import Derived.Test.YtigffehcchhlkaaWWords
import Derived.RowKit
import Derived.Laws.BitsLemmas
namespace Go.Proofs.Ytigffehcchhlkaa.Bx
open Go.RowKit Go.Proofs.YtigffehcchhlkaaW.PrintWords

theorem mask (j : Nat) (h : (BitVec.ofInt 64 (2 ^ j - 1)).toNat = 2 ^ j - 1) (n : Int) :
    (BitVec.ofInt 64 n &&& BitVec.ofInt 64 (2 ^ j - 1)).toNat = (n % ((2 ^ 64 : Nat) : Int)).toNat % 2 ^ j := by
  rw [BitVec.toNat_and, BitVec.toNat_ofInt, h, Nat.and_two_pow_sub_one_eq_mod]
theorem m4 (n : Int) : Go.bits .and .i64 n 15 = n % 16 := by
  have key := mask 4 (by decide) n
  show IntKind.i64.wrap ((BitVec.ofInt 64 n &&& BitVec.ofInt 64 15).toNat : Nat) = n % 16
  rw [show (15 : Int) = 2 ^ 4 - 1 from rfl, key, IntKind.wrap_i64]
  omega
theorem m8 (n : Int) : Go.bits .and .i64 n 255 = n % 256 := by
  have key := mask 8 (by decide) n
  show IntKind.i64.wrap ((BitVec.ofInt 64 n &&& BitVec.ofInt 64 255).toNat : Nat) = n % 256
  rw [show (255 : Int) = 2 ^ 8 - 1 from rfl, key, IntKind.wrap_i64]
  omega
theorem m16 (n : Int) : Go.bits .and .i64 n 65535 = n % 65536 := by
  have key := mask 16 (by decide) n
  show IntKind.i64.wrap ((BitVec.ofInt 64 n &&& BitVec.ofInt 64 65535).toNat : Nat) = n % 65536
  rw [show (65535 : Int) = 2 ^ 16 - 1 from rfl, key, IntKind.wrap_i64]
  omega

/-- 2 to the number of bits, at 4, 8 and 16. -/
def M (b : Int) : Int := if b = 4 then 16 else if b = 8 then 256 else 65536
def Bits (b : Int) : Prop := b = 4 ∨ b = 8 ∨ b = 16
instance (b : Int) : Decidable (Bits b) := inferInstanceAs (Decidable (_ ∨ _ ∨ _))
def Word (b x : Int) : Prop := Bits b ∧ 0 ≤ x ∧ x < M b
instance (b x : Int) : Decidable (Word b x) := inferInstanceAs (Decidable (_ ∧ _ ∧ _))
theorem M4 : M 4 = 16 := by decide
theorem M8 : M 8 = 256 := by decide
theorem M16 : M 16 = 65536 := by decide
theorem M_pos {b : Int} : 0 < M b := by unfold M; split <;> (try split) <;> omega
theorem M_le {b : Int} : M b ≤ 65536 := by unfold M; split <;> (try split) <;> omega

theorem shl4 : shl .i64 1 4 = 16 := by decide
theorem shl8 : shl .i64 1 8 = 256 := by decide
theorem shl16 : shl .i64 1 16 = 65536 := by decide
theorem shl3 : shl .i64 1 3 = 8 := by decide
theorem shl7 : shl .i64 1 7 = 128 := by decide
theorem shl15 : shl .i64 1 15 = 32768 := by decide
theorem w_small {n : Int} (h : -9223372036854775808 ≤ n ∧ n < 9223372036854775808) : wrap64 n = n := by unfold wrap64; omega
theorem u_small {n : Int} (h : 0 ≤ n ∧ n < 18446744073709551616) : IntKind.u64.wrap n = n := by
  simp [IntKind.wrap, IntKind.bits, IntKind.signed]; omega
theorem shr_le {x k : Int} (hx : 0 ≤ x) : 0 ≤ shr .i64 x k ∧ shr .i64 x k ≤ x := by
  unfold shr
  have hp : (0 : Int) < 2 ^ min k.toNat IntKind.i64.bits := Int.pow_pos (by decide)
  exact ⟨Int.ediv_nonneg hx (by omega), Int.ediv_le_self _ hx⟩

/-- The signed value of a word. -/
def sg (b x : Int) : Int := if x < M b / 2 then x else x - M b
def clamp (n lo hi : Int) : Int := if n < lo then lo else if hi < n then hi else n
/-- The result of an operation, in closed form. -/
def res (op b x y : Int) : Int :=
  if op = 0 then (x + y) % M b else if op = 1 then (x - y) % M b else if op = 2 then (x * y) % M b
  else if op = 3 then Go.bits .and .i64 x y else if op = 4 then Go.bits .or .i64 x y else if op = 5 then Go.bits .xor .i64 x y
  else if op = 6 then (if x < y then x else y) else if op = 7 then (if x > y then x else y)
  else if op = 8 then (if sg b x ≤ sg b y then x else y) else if op = 9 then (if sg b x ≥ sg b y then x else y)
  else if op = 10 then clamp (x + y) 0 (M b - 1) else if op = 11 then clamp (sg b x + sg b y) (-(M b / 2)) (M b / 2 - 1) % M b
  else if op = 12 then clamp (x - y) 0 (M b - 1) else if op = 13 then clamp (sg b x - sg b y) (-(M b / 2)) (M b / 2 - 1) % M b
  else if op = 14 then (x + y + 1) / 2 else if op = 15 then shl .i64 x (y % b) % M b
  else if op = 16 then shr .i64 x (y % b) else shr .i64 (sg b x) (y % b) % M b

theorem nat_bits (op : BinOp) (j : Nat) (hj : j ≤ 62) (hop : op = .and ∨ op = .or ∨ op = .xor) {x y : Int} (hx : 0 ≤ x ∧ x < 2 ^ j) (hy : 0 ≤ y ∧ y < 2 ^ j) :
    0 ≤ Go.bits op .i64 x y ∧ Go.bits op .i64 x y < 2 ^ j := by
  obtain ⟨a, rfl⟩ := Int.eq_ofNat_of_zero_le hx.1
  obtain ⟨b, rfl⟩ := Int.eq_ofNat_of_zero_le hy.1
  have ha : a < 2 ^ j := by exact_mod_cast hx.2
  have hb : b < 2 ^ j := by exact_mod_cast hy.2
  have hp : 2 ^ j ≤ 2 ^ 62 := Nat.pow_le_pow_right (by decide) hj
  have ta : a % 2 ^ 64 = a := Nat.mod_eq_of_lt (by omega)
  have tb : b % 2 ^ 64 = b := Nat.mod_eq_of_lt (by omega)
  have key : ∀ c : Nat, c < 2 ^ j → 0 ≤ IntKind.i64.wrap (c : Int) ∧ IntKind.i64.wrap (c : Int) < 2 ^ j := by
    intro c hc
    have : IntKind.i64.wrap (c : Int) = c := by rw [IntKind.wrap_i64]; omega
    rw [this]; exact ⟨by omega, by exact_mod_cast hc⟩
  rcases hop with rfl | rfl | rfl
  · refine key _ ?_
    rw [BitVec.toNat_and, BitVec.ofInt_natCast, BitVec.ofInt_natCast, BitVec.toNat_ofNat, BitVec.toNat_ofNat]
    show a % 2 ^ 64 &&& b % 2 ^ 64 < 2 ^ j
    rw [ta, tb]; exact Nat.and_lt_two_pow _ hb
  · refine key _ ?_
    rw [BitVec.toNat_or, BitVec.ofInt_natCast, BitVec.ofInt_natCast, BitVec.toNat_ofNat, BitVec.toNat_ofNat]
    show a % 2 ^ 64 ||| b % 2 ^ 64 < 2 ^ j
    rw [ta, tb]; exact Nat.or_lt_two_pow ha hb
  · refine key _ ?_
    rw [BitVec.toNat_xor, BitVec.ofInt_natCast, BitVec.ofInt_natCast, BitVec.toNat_ofNat, BitVec.toNat_ofNat]
    show a % 2 ^ 64 ^^^ b % 2 ^ 64 < 2 ^ j
    rw [ta, tb]; exact Nat.xor_lt_two_pow ha hb

theorem M_pow {b : Int} (hb : Bits b) : ∃ j : Nat, j ≤ 62 ∧ M b = 2 ^ j := by
  rcases hb with rfl | rfl | rfl
  · exact ⟨4, by decide, by decide⟩
  · exact ⟨8, by decide, by decide⟩
  · exact ⟨16, by decide, by decide⟩
theorem bits_word {b x y : Int} (op : BinOp) (hop : op = .and ∨ op = .or ∨ op = .xor) (hx : Word b x) (hy : Word b y) : Word b (Go.bits op .i64 x y) := by
  obtain ⟨j, hj, e⟩ := M_pow hx.1
  refine ⟨hx.1, ?_⟩
  rw [e]
  exact nat_bits op j hj hop (e ▸ hx.2) (e ▸ hy.2)
theorem mod_word {b : Int} (hb : Bits b) (n : Int) : Word b (n % M b) := by
  have h := @M_pos b
  exact ⟨hb, Int.emod_nonneg _ (by omega), Int.emod_lt_of_pos _ h⟩
theorem ite_word {b x y : Int} {p : Prop} [Decidable p] (hx : Word b x) (hy : Word b y) : Word b (if p then x else y) := by split <;> assumption
/-- The result of an operation is a word. -/
theorem res_word {op b x y : Int} (hx : Word b x) (hy : Word b y) : Word b (res op b x y) := by
  have hM := @M_pos b
  have h1 := hx.2
  have h2 := hy.2
  unfold res
  refine ite_word (mod_word hx.1 _) (ite_word (mod_word hx.1 _) (ite_word (mod_word hx.1 _) (ite_word (bits_word _ (.inl rfl) hx hy) (ite_word (bits_word _ (.inr (.inl rfl)) hx hy) (ite_word (bits_word _ (.inr (.inr rfl)) hx hy) (ite_word (ite_word hx hy) (ite_word (ite_word hx hy) (ite_word (ite_word hx hy) (ite_word (ite_word hx hy) (ite_word ?_ (ite_word (mod_word hx.1 _) (ite_word ?_ (ite_word (mod_word hx.1 _) (ite_word ⟨hx.1, by omega, by omega⟩ (ite_word (mod_word hx.1 _) (ite_word ?_ (mod_word hx.1 _)))))))))))))))))
  · refine ⟨hx.1, ?_⟩; unfold clamp; split <;> (try split) <;> omega
  · refine ⟨hx.1, ?_⟩; unfold clamp; split <;> (try split) <;> omega
  · have := @shr_le x (y % b) h1.1
    exact ⟨hx.1, by omega, by omega⟩
end Go.Proofs.Ytigffehcchhlkaa.Bx
