/- Plain words on whole numbers: masks, wraps, the result of an operation in closed form. No condition. -/
import Derived.Test.YtpcjjminopdofaaWMore
import Derived.Test.YtpcjjminopdofaaWLast
import Derived.Test.YtpcjjminopdofaaWWords
import Derived.RowKit
import Derived.Laws.BitsLemmas
namespace Go.Proofs.Ytpcjjminopdofaa.Bx
open Go.RowKit Go.Proofs.YtpcjjminopdofaaW.PrintWords
set_option linter.unusedVariables false
set_option linter.unusedSimpArgs false

theorem mask (j : Nat) (h : (BitVec.ofInt 64 (2 ^ j - 1)).toNat = 2 ^ j - 1) (n : Int) :
    (BitVec.ofInt 64 n &&& BitVec.ofInt 64 (2 ^ j - 1)).toNat = (n % ((2 ^ 64 : Nat) : Int)).toNat % 2 ^ j := by
  rw [BitVec.toNat_and, BitVec.toNat_ofInt, h, Nat.and_two_pow_sub_one_eq_mod]
theorem m4 (n : Int) : Go.bits .and .i64 n 15 = n % 16 := by
  have key := mask 4 (by decide) n
  show IntKind.i64.wrap ((BitVec.ofInt 64 n &&& BitVec.ofInt 64 15).toNat : Nat) = n % 16
  rw [show (15 : Int) = 2 ^ 4 - 1 from rfl, key, IntKind.wrap_i64]
  omega
theorem m8 (n : Int) : Go.bits .and .i64 n 255 = n % 256 := by
  have key := mask 8 (by decide) n
  show IntKind.i64.wrap ((BitVec.ofInt 64 n &&& BitVec.ofInt 64 255).toNat : Nat) = n % 256
  rw [show (255 : Int) = 2 ^ 8 - 1 from rfl, key, IntKind.wrap_i64]
  omega
theorem m16 (n : Int) : Go.bits .and .i64 n 65535 = n % 65536 := by
  have key := mask 16 (by decide) n
  show IntKind.i64.wrap ((BitVec.ofInt 64 n &&& BitVec.ofInt 64 65535).toNat : Nat) = n % 65536
  rw [show (65535 : Int) = 2 ^ 16 - 1 from rfl, key, IntKind.wrap_i64]
  omega

/-- 2 to the number of bits, at 4, 8 and 16. -/
def M (b : Int) : Int := if b = 4 then 16 else if b = 8 then 256 else 65536
def Bits (b : Int) : Prop := b = 4 ∨ b = 8 ∨ b = 16
instance (b : Int) : Decidable (Bits b) := inferInstanceAs (Decidable (_ ∨ _ ∨ _))
def Word (b x : Int) : Prop := Bits b ∧ 0 ≤ x ∧ x < M b
instance (b x : Int) : Decidable (Word b x) := inferInstanceAs (Decidable (_ ∧ _ ∧ _))
theorem M4 : M 4 = 16 := by decide
theorem M8 : M 8 = 256 := by decide
theorem M16 : M 16 = 65536 := by decide
theorem M_pos {b : Int} : 0 < M b := by unfold M; split <;> (try split) <;> omega
theorem M_le {b : Int} : M b ≤ 65536 := by unfold M; split <;> (try split) <;> omega

theorem shl4 : shl .i64 1 4 = 16 := by decide
theorem shl8 : shl .i64 1 8 = 256 := by decide
theorem shl16 : shl .i64 1 16 = 65536 := by decide
theorem shl3 : shl .i64 1 3 = 8 := by decide
theorem shl7 : shl .i64 1 7 = 128 := by decide
theorem shl15 : shl .i64 1 15 = 32768 := by decide
theorem w_small {n : Int} (h : -9223372036854775808 ≤ n ∧ n < 9223372036854775808) : wrap64 n = n := by unfold wrap64; omega
theorem u_small {n : Int} (h : 0 ≤ n ∧ n < 18446744073709551616) : IntKind.u64.wrap n = n := by
  simp [IntKind.wrap, IntKind.bits, IntKind.signed]; omega
theorem shr_le {x k : Int} (hx : 0 ≤ x) : 0 ≤ shr .i64 x k ∧ shr .i64 x k ≤ x := by
  unfold shr
  have hp : (0 : Int) < 2 ^ min k.toNat IntKind.i64.bits := Int.pow_pos (by decide)
  exact ⟨Int.ediv_nonneg hx (by omega), Int.ediv_le_self _ hx⟩

/-- The signed value of a word. -/
def sg (b x : Int) : Int := if x < M b / 2 then x else x - M b
def clamp (n lo hi : Int) : Int := if n < lo then lo else if hi < n then hi else n
/-- The result of an operation, in closed form. -/
def res (op b x y : Int) : Int :=
  if op = 0 then (x + y) % M b else if op = 1 then (x - y) % M b else if op = 2 then (x * y) % M b
  else if op = 3 then Go.bits .and .i64 x y else if op = 4 then Go.bits .or .i64 x y else if op = 5 then Go.bits .xor .i64 x y
  else if op = 6 then (if x < y then x else y) else if op = 7 then (if x > y then x else y)
  else if op = 8 then (if sg b x ≤ sg b y then x else y) else if op = 9 then (if sg b x ≥ sg b y then x else y)
  else if op = 10 then clamp (x + y) 0 (M b - 1) else if op = 11 then clamp (sg b x + sg b y) (-(M b / 2)) (M b / 2 - 1) % M b
  else if op = 12 then clamp (x - y) 0 (M b - 1) else if op = 13 then clamp (sg b x - sg b y) (-(M b / 2)) (M b / 2 - 1) % M b
  else if op = 14 then (x + y + 1) / 2 else if op = 15 then shl .i64 x (y % b) % M b
  else if op = 16 then shr .i64 x (y % b) else shr .i64 (sg b x) (y % b) % M b

theorem nat_bits (op : BinOp) (j : Nat) (hj : j ≤ 62) (hop : op = .and ∨ op = .or ∨ op = .xor) {x y : Int} (hx : 0 ≤ x ∧ x < 2 ^ j) (hy : 0 ≤ y ∧ y < 2 ^ j) :
    0 ≤ Go.bits op .i64 x y ∧ Go.bits op .i64 x y < 2 ^ j := by
  obtain ⟨a, rfl⟩ := Int.eq_ofNat_of_zero_le hx.1
  obtain ⟨b, rfl⟩ := Int.eq_ofNat_of_zero_le hy.1
  have ha : a < 2 ^ j := by exact_mod_cast hx.2
  have hb : b < 2 ^ j := by exact_mod_cast hy.2
  have hp : 2 ^ j ≤ 2 ^ 62 := Nat.pow_le_pow_right (by decide) hj
  have ta : a % 2 ^ 64 = a := Nat.mod_eq_of_lt (by omega)
  have tb : b % 2 ^ 64 = b := Nat.mod_eq_of_lt (by omega)
  have key : ∀ c : Nat, c < 2 ^ j → 0 ≤ IntKind.i64.wrap (c : Int) ∧ IntKind.i64.wrap (c : Int) < 2 ^ j := by
    intro c hc
    have : IntKind.i64.wrap (c : Int) = c := by rw [IntKind.wrap_i64]; omega
    rw [this]; exact ⟨by omega, by exact_mod_cast hc⟩
  rcases hop with rfl | rfl | rfl
  · refine key _ ?_
    rw [BitVec.toNat_and, BitVec.ofInt_natCast, BitVec.ofInt_natCast, BitVec.toNat_ofNat, BitVec.toNat_ofNat]
    show a % 2 ^ 64 &&& b % 2 ^ 64 < 2 ^ j
    rw [ta, tb]; exact Nat.and_lt_two_pow _ hb
  · refine key _ ?_
    rw [BitVec.toNat_or, BitVec.ofInt_natCast, BitVec.ofInt_natCast, BitVec.toNat_ofNat, BitVec.toNat_ofNat]
    show a % 2 ^ 64 ||| b % 2 ^ 64 < 2 ^ j
    rw [ta, tb]; exact Nat.or_lt_two_pow ha hb
  · refine key _ ?_
    rw [BitVec.toNat_xor, BitVec.ofInt_natCast, BitVec.ofInt_natCast, BitVec.toNat_ofNat, BitVec.toNat_ofNat]
    show a % 2 ^ 64 ^^^ b % 2 ^ 64 < 2 ^ j
    rw [ta, tb]; exact Nat.xor_lt_two_pow ha hb

theorem M_pow {b : Int} (hb : Bits b) : ∃ j : Nat, j ≤ 62 ∧ M b = 2 ^ j := by
  rcases hb with rfl | rfl | rfl
  · exact ⟨4, by decide, by decide⟩
  · exact ⟨8, by decide, by decide⟩
  · exact ⟨16, by decide, by decide⟩
theorem bits_word {b x y : Int} (op : BinOp) (hop : op = .and ∨ op = .or ∨ op = .xor) (hx : Word b x) (hy : Word b y) : Word b (Go.bits op .i64 x y) := by
  obtain ⟨j, hj, e⟩ := M_pow hx.1
  refine ⟨hx.1, ?_⟩
  rw [e]
  exact nat_bits op j hj hop (e ▸ hx.2) (e ▸ hy.2)
theorem mod_word {b : Int} (hb : Bits b) (n : Int) : Word b (n % M b) := by
  have h := @M_pos b
  exact ⟨hb, Int.emod_nonneg _ (by omega), Int.emod_lt_of_pos _ h⟩
theorem ite_word {b x y : Int} {p : Prop} [Decidable p] (hx : Word b x) (hy : Word b y) : Word b (if p then x else y) := by split <;> assumption
/-- The result of an operation is a word. -/
theorem res_word {op b x y : Int} (hx : Word b x) (hy : Word b y) : Word b (res op b x y) := by
  have hM := @M_pos b
  have h1 := hx.2
  have h2 := hy.2
  unfold res
  refine ite_word (mod_word hx.1 _) (ite_word (mod_word hx.1 _) (ite_word (mod_word hx.1 _) (ite_word (bits_word _ (.inl rfl) hx hy) (ite_word (bits_word _ (.inr (.inl rfl)) hx hy) (ite_word (bits_word _ (.inr (.inr rfl)) hx hy) (ite_word (ite_word hx hy) (ite_word (ite_word hx hy) (ite_word (ite_word hx hy) (ite_word (ite_word hx hy) (ite_word ?_ (ite_word (mod_word hx.1 _) (ite_word ?_ (ite_word (mod_word hx.1 _) (ite_word ⟨hx.1, by omega, by omega⟩ (ite_word (mod_word hx.1 _) (ite_word ?_ (mod_word hx.1 _)))))))))))))))))
  · refine ⟨hx.1, ?_⟩; unfold clamp; split <;> (try split) <;> omega
  · refine ⟨hx.1, ?_⟩; unfold clamp; split <;> (try split) <;> omega
  · have := @shr_le x (y % b) h1.1
    exact ⟨hx.1, by omega, by omega⟩
theorem shr3 (x : Int) : shr .i64 x 3 = x / 8 := rfl
theorem shr7 (x : Int) : shr .i64 x 7 = x / 128 := rfl
theorem shr15 (x : Int) : shr .i64 x 15 = x / 32768 := rfl
theorem sg_le {b x : Int} (h : Word b x) : -(M b / 2) ≤ sg b x ∧ sg b x < M b / 2 := by
  obtain ⟨hb, h0, h1⟩ := h
  unfold sg
  rcases hb with rfl | rfl | rfl
  · rw [M4] at *; split <;> omega
  · rw [M8] at *; split <;> omega
  · rw [M16] at *; split <;> omega
/-- A word is what its signed value wraps to. -/
theorem sg_mod {b x : Int} (h : Word b x) : sg b x % M b = x := by
  obtain ⟨hb, h0, h1⟩ := h
  unfold sg
  rcases hb with rfl | rfl | rfl
  · rw [M4] at *; split <;> omega
  · rw [M8] at *; split <;> omega
  · rw [M16] at *; split <;> omega
theorem mx_eq (a b : Int) : mx a b = if a < b then b else a := rfl
theorem mn_clamp (n lo hi : Int) (h : lo ≤ hi) : mx lo (mn n hi) = clamp n lo hi := by
  unfold mx mn clamp
  repeat' split
  all_goals omega
theorem shlB {b : Int} (h : Bits b) : shl .i64 1 b = M b := by rcases h with rfl | rfl | rfl <;> decide
theorem shlB1 {b : Int} (h : Bits b) : shl .i64 1 (b - 1) = M b / 2 := by rcases h with rfl | rfl | rfl <;> decide
theorem tdiv2 {n : Int} (h : 0 ≤ n) : Int.tdiv n 2 = n / 2 := Int.tdiv_eq_ediv_of_nonneg h
theorem tmod_b {y b : Int} (hy : 0 ≤ y) : Int.tmod y b = y % b := Int.tmod_eq_emod_of_nonneg hy
theorem b_bounds {b : Int} (h : Bits b) : 4 ≤ b ∧ b ≤ 16 := by rcases h with rfl | rfl | rfl <;> omega

/-- Is a number one of an operation. -/
def OpOk (op : Int) : Prop := 0 ≤ op ∧ op ≤ 17
instance (op : Int) : Decidable (OpOk op) := inferInstanceAs (Decidable (_ ∧ _))
def doOp (op b x y : Int) : Int × Bool := if OpOk op ∧ Word b x ∧ Word b y then (res op b x y, true) else (0, false)
/-- The result of a comparison, in closed form. -/
def cmpB (c b x y : Int) : Bool := if c = 0 then x == y else if c = 1 then x != y else if c = 2 then decide (x < y) else if c = 3 then decide (x ≤ y) else if c = 4 then decide (sg b x < sg b y) else decide (sg b x ≤ sg b y)
def testCmp (c b x y : Int) : Bool × Bool := if (0 ≤ c ∧ c ≤ 5) ∧ Word b x ∧ Word b y then (cmpB c b x y, true) else (false, false)
def signedOf (b x : Int) : Int × Bool := if Word b x then (sg b x, true) else (0, false)
def isVal (n : Int) : Prop := -1000000000 ≤ n ∧ n ≤ 1000000000
instance (n : Int) : Decidable (isVal n) := inferInstanceAs (Decidable (_ ∧ _))
def wordOf (b n : Int) : Int × Bool := if Bits b ∧ isVal n then (n % M b, true) else (0, false)
/-- Is a number one of lanes. -/
def Lanes (n : Int) : Prop := n = 2 ∨ n = 4 ∨ n = 8 ∨ n = 16
instance (n : Int) : Decidable (Lanes n) := inferInstanceAs (Decidable (_ ∨ _ ∨ _ ∨ _))
/-- Is a list a vector, a mask. -/
def vec (b : Int) (l : List Int) : Bool := decide (Bits b) && decide (Lanes (l.length : Int)) && (List.range l.length).all fun (j : Nat) => decide (Word b (rd l (j : Int)))
def b01 (x : Int) : Bool := decide (x = 0 ∨ x = 1)
def msk (l : List Int) : Bool := decide (Lanes (l.length : Int)) && (List.range l.length).all fun (j : Nat) => b01 (rd l (j : Int))
/-- Words in a row, in all places. -/
def Words (b : Int) (l : List Int) : Prop := ∀ x ∈ l, Word b x
instance (b : Int) (l : List Int) : Decidable (Words b l) := inferInstanceAs (Decidable (∀ x ∈ l, _))
theorem rd_mem {l : List Int} {i : Int} (h0 : 0 ≤ i) (h1 : i < l.length) : rd l i ∈ l := by
  unfold rd
  rw [List.getD_eq_getElem?_getD, List.getElem?_eq_getElem (by omega)]
  exact List.getElem_mem _
theorem mem_rd {l : List Int} {x : Int} (h : x ∈ l) : ∃ j : Nat, j < l.length ∧ rd l (j : Int) = x := by
  obtain ⟨j, hj, e⟩ := List.getElem_of_mem h
  refine ⟨j, hj, ?_⟩
  unfold rd
  rw [Int.toNat_natCast, List.getD_eq_getElem?_getD, List.getElem?_eq_getElem hj]
  exact e
theorem vec_iff {b : Int} {l : List Int} : vec b l = true ↔ Bits b ∧ Lanes (l.length : Int) ∧ Words b l := by
  unfold vec Words
  simp only [Bool.and_eq_true, decide_eq_true_eq, List.all_eq_true, List.mem_range, and_assoc]
  refine and_congr_right fun _ => and_congr_right fun _ => ⟨fun h x hx => ?_, fun h j hj => h _ (rd_mem (by omega) (by omega))⟩
  obtain ⟨j, hj, rfl⟩ := mem_rd hx
  exact h j hj
theorem msk_iff {l : List Int} : msk l = true ↔ Lanes (l.length : Int) ∧ ∀ x ∈ l, x = 0 ∨ x = 1 := by
  unfold msk b01
  simp only [Bool.and_eq_true, decide_eq_true_eq, List.all_eq_true, List.mem_range]
  refine and_congr_right fun _ => ⟨fun h x hx => ?_, fun h j hj => h _ (rd_mem (by omega) (by omega))⟩
  obtain ⟨j, hj, rfl⟩ := mem_rd hx
  exact h j hj
theorem lanes_le {n : Int} (h : Lanes n) : 2 ≤ n ∧ n ≤ 16 := by rcases h with rfl | rfl | rfl | rfl <;> omega
theorem words_rd {b : Int} {l : List Int} (h : Words b l) {i : Int} (h0 : 0 ≤ i) (h1 : i < l.length) : Word b (rd l i) := h _ (rd_mem h0 h1)
/-- A choice, a truth as a number: under names of their own. -/
def sel (x y z : Int) : Int := if x = 1 then y else z
def toI (b : Bool) : Int := if b = true then 1 else 0
end Go.Proofs.Ytpcjjminopdofaa.Bx
