/- Both sides' CountOrders come to the table of ways. No condition but valid code of at most ten statements. -/
import Derived.Test.YteknfebehafbdaaVC
import Derived.Test.YteknfebehafbdaaVN
import Derived.Test.YteknfebehafbdaaVK
import Derived.Test.YteknfebehafbdaaK0
import Derived.Test.YteknfebehafbdaaK33
import Derived.Test.YteknfebehafbdaaK34
import Derived.Test.YteknfebehafbdaaK35
namespace Go.Proofs.Yteknfebehafbdaa.V
open Go.RowKit Go.Proofs.Yteknfebehafbdaa.K Go.Proofs.Yteknfebehafbdaa.Bx Go.Proofs.YteknfebehafbdaaW.PrintWords Go.Proofs.YteknfebehafbdaaW.PrintLast
set_option linter.unusedVariables false
set_option linter.unusedSimpArgs false

theorem b_and {a b : Nat} (ha : a < 2 ^ 62) (hb : b < 2 ^ 62) : Go.bits .and .i64 (a : Int) (b : Int) = ((a &&& b : Nat) : Int) := by
  have h : a &&& b < 2 ^ 62 := Nat.and_lt_two_pow _ hb
  show IntKind.i64.wrap (((BitVec.ofInt 64 (a : Int) &&& BitVec.ofInt 64 (b : Int)).toNat : Nat) : Int) = _
  rw [BitVec.toNat_and, BitVec.ofInt_natCast, BitVec.ofInt_natCast, BitVec.toNat_ofNat, BitVec.toNat_ofNat, Nat.mod_eq_of_lt (by omega), Nat.mod_eq_of_lt (by omega), IntKind.wrap_i64]
  omega
theorem b_or {a b : Nat} (ha : a < 2 ^ 62) (hb : b < 2 ^ 62) : Go.bits .or .i64 (a : Int) (b : Int) = ((a ||| b : Nat) : Int) := by
  have h : a ||| b < 2 ^ 62 := Nat.or_lt_two_pow ha hb
  show IntKind.i64.wrap (((BitVec.ofInt 64 (a : Int) ||| BitVec.ofInt 64 (b : Int)).toNat : Nat) : Int) = _
  rw [BitVec.toNat_or, BitVec.ofInt_natCast, BitVec.ofInt_natCast, BitVec.toNat_ofNat, BitVec.toNat_ofNat, Nat.mod_eq_of_lt (by omega), Nat.mod_eq_of_lt (by omega), IntKind.wrap_i64]
  omega
theorem b_andNot {a b : Nat} (ha : a < 2 ^ 62) (hb : b < 2 ^ 62) : Go.bits .andNot .i64 (a : Int) (b : Int) = ((a &&& (2 ^ 64 - (b + 1)) : Nat) : Int) := by
  have h : a &&& (2 ^ 64 - (b + 1)) < 2 ^ 62 := Nat.lt_of_le_of_lt Nat.and_le_left ha
  show IntKind.i64.wrap (((BitVec.ofInt 64 (a : Int) &&& ~~~ BitVec.ofInt 64 (b : Int)).toNat : Nat) : Int) = _
  rw [BitVec.toNat_and, BitVec.toNat_not, BitVec.ofInt_natCast, BitVec.ofInt_natCast, BitVec.toNat_ofNat, BitVec.toNat_ofNat, Nat.mod_eq_of_lt (by omega), Nat.mod_eq_of_lt (by omega : b < 2 ^ 64), IntKind.wrap_i64, show 2 ^ 64 - 1 - b = 2 ^ 64 - (b + 1) by omega]
  omega
theorem andNot_zero {a b : Nat} (ha : a < 2 ^ 62) (hb : b < 2 ^ 62) : Go.bits .andNot .i64 (a : Int) (b : Int) = 0 ↔ ∀ i, a.testBit i = true → b.testBit i = true := by
  rw [b_andNot ha hb]
  constructor
  · intro h i hi
    have h0 : a &&& (2 ^ 64 - (b + 1)) = 0 := by omega
    have h1 : (a &&& (2 ^ 64 - (b + 1))).testBit i = false := by rw [h0, Nat.zero_testBit]
    rw [Nat.testBit_and, hi, Bool.true_and, Nat.testBit_two_pow_sub_succ (by omega)] at h1
    have hi64 : i < 64 := by
      by_cases h : i < 64
      · exact h
      · have := Nat.testBit_lt_two_pow (Nat.lt_of_lt_of_le ha (Nat.pow_le_pow_right (by decide) (by omega : 62 ≤ i)))
        rw [this] at hi; cases hi
    rw [decide_eq_true hi64, Bool.true_and] at h1
    simpa using h1
  · intro h
    have h0 : a &&& (2 ^ 64 - (b + 1)) = 0 := by
      apply Nat.eq_of_testBit_eq
      intro i
      rw [Nat.testBit_and, Nat.testBit_two_pow_sub_succ (by omega), Nat.zero_testBit]
      cases hi : a.testBit i with
      | false => rfl
      | true => rw [h i hi]; simp
    rw [h0]; rfl
theorem shl_n {i : Nat} (h : i ≤ 61) : shl .i64 1 (i : Int) = ((2 ^ i : Nat) : Int) := by
  have hp : (2 : Nat) ^ i < 2 ^ 62 := Nat.pow_lt_pow_right (by decide) (by omega)
  show IntKind.i64.wrap (1 * 2 ^ min (i : Int).toNat 64) = _
  rw [Int.toNat_natCast, Nat.min_eq_left (by omega), Int.one_mul, IntKind.wrap_i64, show ((2 : Int) ^ i) = ((2 ^ i : Nat) : Int) by rw [Int.natCast_pow]; rfl]
  generalize (2 : Nat) ^ i = P at *
  omega
theorem shr_n {d i : Nat} (h : i ≤ 61) : shr .i64 (d : Int) (i : Int) = ((d / 2 ^ i : Nat) : Int) := by
  show (d : Int) / 2 ^ min (i : Int).toNat 64 = _
  rw [Int.toNat_natCast, Nat.min_eq_left (by omega), Int.natCast_ediv, Int.natCast_pow]; rfl
theorem bit_n {d i : Nat} (hd : d < 2 ^ 62) (h : i ≤ 61) : Go.bits .and .i64 (shr .i64 (d : Int) (i : Int)) 1 = if d.testBit i then 1 else 0 := by
  have h1 : d / 2 ^ i < 2 ^ 62 := Nat.lt_of_le_of_lt (Nat.div_le_self _ _) hd
  rw [shr_n h, show (1 : Int) = ((1 : Nat) : Int) from rfl, b_and h1 (by decide), Nat.and_one_is_mod, Nat.testBit_eq_decide_div_mod_eq]
  by_cases e : d / 2 ^ i % 2 = 1
  · rw [decide_eq_true e, e]; rfl
  · rw [decide_eq_false e, show d / 2 ^ i % 2 = 0 by omega]; rfl
/-- The statements before the i-th one that the j-th one must follow, as bits. -/
def bmU (l : List S58) (j : Nat) : Nat → Nat
  | 0 => 0
  | i + 1 => if mst (rd_T58 l (i : Int)) (rd_T58 l (j : Int)) then bmU l j i ||| 2 ^ i else bmU l j i
theorem bmU_lt (l : List S58) (j : Nat) : ∀ i, bmU l j i < 2 ^ i
  | 0 => by unfold bmU; decide
  | i + 1 => by
    have h := bmU_lt l j i
    have h2 : (2 : Nat) ^ i < 2 ^ (i + 1) := Nat.pow_lt_pow_right (by decide) (by omega)
    unfold bmU
    split
    · exact Nat.or_lt_two_pow (by omega) h2
    · omega
theorem bmU_bit (l : List S58) (j t : Nat) : ∀ i, (bmU l j i).testBit t = (decide (t < i) && mst (rd_T58 l (t : Int)) (rd_T58 l (j : Int)))
  | 0 => by unfold bmU; rw [Nat.zero_testBit]; rfl
  | i + 1 => by
    have ih := bmU_bit l j t i
    unfold bmU
    by_cases e : t = i
    · subst e
      cases hm : mst (rd_T58 l (t : Int)) (rd_T58 l (j : Int)) with
      | true => rw [if_pos rfl, tb_or, decide_eq_true rfl, Bool.or_true, decide_eq_true (by omega)]; rfl
      | false => rw [if_neg (by decide), ih, hm]; simp
    · rw [decide_eq_decide.mpr (by omega : t < i + 1 ↔ t < i), ← ih]
      split
      · rw [tb_or, decide_eq_false (fun h => e h.symm), Bool.or_false]
      · rfl
def bms (l : List S58) (m : Nat) : List Int := (List.range m).map fun j => ((bmU l j j : Nat) : Int)
theorem bms_len (l : List S58) (m : Nat) : (bms l m).length = m := by unfold bms; simp
theorem ok_bm {l : List S58} {d i : Nat} (hd : d < 2 ^ 62) (hi : i ≤ 61) (hf : d.testBit i = false) : Go.bits .andNot .i64 ((bmU l i i : Nat) : Int) (d : Int) = 0 ↔ okN l d i = true := by
  have hb := bmU_lt l i i
  have hp : (2 : Nat) ^ i < 2 ^ 62 := Nat.pow_lt_pow_right (by decide) (by omega)
  rw [andNot_zero (by omega) hd]
  unfold okN
  rw [hf, Bool.not_false, Bool.true_and, List.all_eq_true]
  constructor
  · intro h j hj
    have hj := List.mem_range.mp hj
    cases hm : mst (rd_T58 l (j : Int)) (rd_T58 l (i : Int)) with
    | false => simp
    | true => rw [h j (by rw [bmU_bit, hm, decide_eq_true hj]; rfl)]; rfl
  · intro h j hj
    rw [bmU_bit, Bool.and_eq_true] at hj
    have := h j (List.mem_range.mpr (of_decide_eq_true hj.1))
    rw [hj.2] at this
    simpa using this
theorem rd_midI {A Z : List Int} {e : Int} {j : Nat} (h : A.length = j) : rd (A ++ e :: Z) (j : Int) = e := by
  rw [rd_nat, List.getD_eq_getElem?_getD, List.getElem?_append_right (by omega), h, Nat.sub_self]; rfl
theorem set_midI {A Z : List Int} {e u : Int} {j : Nat} (h : A.length = j) : (A ++ e :: Z).set j u = A ++ u :: Z := by
  rw [List.set_append_right _ _ (by omega), h, Nat.sub_self]; rfl
theorem iBefore_in (l : List S58) (hl : l.length ≤ 10) {j : Nat} (hj : j < l.length) {r : List Int} (he : Ev (fun k => impl_before.l0 k l (bms l (j + 1) ++ List.replicate (l.length - 1 - j) 0) (l.length : Int) ((j + 1 : Nat) : Int)) r) : ∀ d i : Nat, i + d = j → Ev (fun k => impl_before.l1 k l (bms l j ++ ((bmU l j i : Nat) : Int) :: List.replicate (l.length - 1 - j) 0) (j : Int) (l.length : Int) (j : Int) (j : Int) (i : Int)) r := by
  have hn := bms_len l j
  intro d
  induction d with
  | zero =>
    intro i hi
    obtain rfl : i = j := by omega
    refine Ev.step (fun k => ?_) he
    simp only [impl_before.l1]
    rw [if_neg (by omega), w1 (by omega)]
    unfold bms
    rw [← range_end (F := fun j => ((bmU l j j : Nat) : Int)), List.append_assoc]; rfl
  | succ d ih =>
    intro i hi
    have hn2 : (bms l j ++ ((bmU l j i : Nat) : Int) :: List.replicate (l.length - 1 - j) 0).length = l.length := by simp [hn]; omega
    have hb := bmU_lt l j i
    have hp : (2 : Nat) ^ i < 2 ^ 62 := Nat.pow_lt_pow_right (by decide) (by omega)
    have ih' := ih (i + 1) (by omega)
    unfold bmU at ih'
    cases hm : mst (rd_T58 l (i : Int)) (rd_T58 l (j : Int)) with
    | true =>
      rw [hm, if_pos rfl] at ih'
      refine Ev.step (fun k => ?_) ih'
      simp only [impl_before.l1]
      rw [if_pos (by omega), if_pos (by omega), if_pos (by omega), if_pos (by omega), if_pos (by omega), iFollows, Option.bind_some, hm, if_pos rfl, if_pos (by omega), Int.toNat_natCast, rd_midI hn, shl_n (by omega), b_or (by omega) hp, set_midI hn, w1 (by omega)]
    | false =>
      rw [hm, if_neg (by decide)] at ih'
      refine Ev.step (fun k => ?_) ih'
      simp only [impl_before.l1]
      rw [if_pos (by omega), if_pos (by omega), if_pos (by omega), if_pos (by omega), if_pos (by omega), iFollows, Option.bind_some, hm, if_neg (by decide), w1 (by omega)]
theorem iBefore (l : List S58) (hl : l.length ≤ 10) : Ev (fun k => impl_before.f k l) (bms l l.length) := by
  unfold impl_before.f
  refine ev_if (by omega) (ev_if (by omega) ?_)
  have key : ∀ d j : Nat, j + d = l.length → Ev (fun k => impl_before.l0 k l (bms l j ++ List.replicate (l.length - j) 0) (l.length : Int) (j : Int)) (bms l l.length) := by
    intro d
    induction d with
    | zero =>
      intro j hj
      obtain rfl : j = l.length := by omega
      refine ⟨1, fun k hk => ?_⟩
      obtain ⟨k, rfl⟩ : ∃ m, k = m + 1 := ⟨k - 1, by omega⟩
      simp only [impl_before.l0]
      rw [if_neg (by omega)]; simp
    | succ d ih =>
      intro j hj
      have hn := ih (j + 1) (by omega)
      rw [show l.length - (j + 1) = l.length - 1 - j by omega] at hn
      refine Ev.step (fun k => ?_) (iBefore_in l hl (by omega : j < l.length) hn j 0 (by omega))
      simp only [impl_before.l0]
      rw [if_pos (by omega)]
      have e : List.replicate (l.length - j) (0 : Int) = ((bmU l j 0 : Nat) : Int) :: List.replicate (l.length - 1 - j) 0 := by
        rw [show l.length - j = (l.length - 1 - j) + 1 by omega, List.replicate_succ]; rfl
      rw [e]; rfl
  have := key l.length 0 (by omega)
  simpa [bms] using this
theorem pow_le10 {n : Nat} (h : n ≤ 10) : 2 ^ n ≤ 1024 := Nat.pow_le_pow_right (by decide) h
theorem last_way (l : List S58) : rd (tab l (2 ^ l.length) 0) ((2 ^ l.length - 1 : Nat) : Int) = ((cntG l (2 ^ l.length - 1) : Nat) : Int) := by
  have hp : 0 < 2 ^ l.length := Nat.pow_pos (by decide)
  rw [tab_rd (by omega), F_full l (by omega) (by omega)]
theorem iCount (l : List S58) (hl : l.length ≤ 10) : Ev (fun k => impl_CountOrders.j0 k l false) (((cntG l (2 ^ l.length - 1) : Nat) : Int), true) := by
  have hN := pow_le10 hl
  have hp : 0 < 2 ^ l.length := Nat.pow_pos (by decide)
  have hlast := last_way l
  have key : ∀ D d : Nat, d + D = 2 ^ l.length → Ev (fun k => impl_CountOrders.l0 k (bms l l.length) (tab l d 0) ((2 ^ l.length : Nat) : Int) (d : Int)) (((cntG l (2 ^ l.length - 1) : Nat) : Int), true) := by
    intro D
    induction D with
    | zero =>
      intro d hd
      obtain rfl : d = 2 ^ l.length := by omega
      refine ⟨1, fun k hk => ?_⟩
      obtain ⟨k, rfl⟩ : ∃ m, k = m + 1 := ⟨k - 1, by omega⟩
      simp only [impl_CountOrders.l0]
      rw [tab_len]
      generalize hM : 2 ^ l.length = M at *
      rw [if_neg (by omega), w_small (by omega), if_pos (by omega), if_pos (by omega), show (M : Int) - 1 = ((M - 1 : Nat) : Int) by omega, hlast]
    | succ D ih =>
      intro d hd
      have hdN : d < 2 ^ l.length := by omega
      have hd62 : d < 2 ^ 62 := by omega
      have hn := ih (d + 1) (by omega)
      have inner : ∀ e i : Nat, i + e = l.length → Ev (fun k => impl_CountOrders.l1 k (bms l l.length) (tab l d i) (d : Int) ((cntG l d : Nat) : Int) ((2 ^ l.length : Nat) : Int) (d : Int) (bms l l.length) (l.length : Int) (i : Int)) (((cntG l (2 ^ l.length - 1) : Nat) : Int), true) := by
        intro e
        induction e with
        | zero =>
          intro i hi
          obtain rfl : i = l.length := by omega
          refine Ev.step (fun k => ?_) hn
          simp only [impl_CountOrders.l1]
          rw [if_neg (by omega), w1 (by omega), tab_congr (F_next l d)]
        | succ e ihe =>
          intro i hi
          have hi' : i < l.length := by omega
          have ih' := ihe (i + 1) (by omega)
          have hor := or_lt hdN hi'
          have hp2 : (2 : Nat) ^ i < 2 ^ 62 := Nat.pow_lt_pow_right (by decide) (by omega)
          have hrd : rd (bms l l.length) (i : Int) = ((bmU l i i : Nat) : Int) := by unfold bms; rw [rd_map hi']
          refine Ev.step (fun k => ?_) ih'
          simp only [impl_CountOrders.l1]
          rw [if_pos (by omega), if_pos (by omega), bms_len, if_pos (by omega), bit_n hd62 (by omega), hrd, w1 (by omega)]
          cases hb : d.testBit i with
          | true =>
            rw [if_neg (by decide), tab_congr (F_skip (by unfold okN; rw [hb]; rfl))]
          | false =>
            rw [if_pos (by decide)]
            cases ho : okN l d i with
            | false =>
              rw [if_neg (fun h => by rw [(ok_bm hd62 (by omega) hb).mp h] at ho; cases ho), tab_congr (F_skip ho)]
            | true =>
              rw [if_pos ((ok_bm hd62 (by omega) hb).mpr ho), shl_n (by omega), b_or hd62 hp2, if_pos (by omega), tab_len, if_pos (by omega), Int.toNat_natCast, tab_put hl ho hdN hi']
      refine Ev.step (fun k => ?_) (inner l.length 0 (by omega))
      simp only [impl_CountOrders.l0]
      rw [if_pos (by omega), if_pos (by omega), tab_len, if_pos (by omega), tab_rd hdN, F_full l hdN (Nat.le_refl _), bms_len]
      rfl
  refine Ev.step (fun k => by rw [impl_CountOrders.j0, if_neg (by decide)]) ?_
  refine Ev.bind (iBefore l hl) ?_
  have e1 : shl .i64 1 (l.length : Int) = ((2 ^ l.length : Nat) : Int) := shl_n (by omega)
  simp only [e1, Int.toNat_natCast]
  refine ev_if (by omega) (ev_if (by omega) (ev_some ?_))
  simp only [List.length_replicate]
  refine ev_if (by omega) ?_
  have := key (2 ^ l.length) 0 (by omega)
  rw [← tab_start] at this
  exact this
theorem sCount (l : List S58) (hl : l.length ≤ 10) : Ev (fun k => spec_CountOrders.j0 k l false) (((cntG l (2 ^ l.length - 1) : Nat) : Int), true) := by
  have hN := pow_le10 hl
  have hp : 0 < 2 ^ l.length := Nat.pow_pos (by decide)
  have hlast := last_way l
  have key : ∀ D d : Nat, d + D = 2 ^ l.length → Ev (fun k => spec_CountOrders.l0 k l ((2 ^ l.length : Nat) : Int) (tab l d 0) (d : Int)) (((cntG l (2 ^ l.length - 1) : Nat) : Int), true) := by
    intro D
    induction D with
    | zero =>
      intro d hd
      obtain rfl : d = 2 ^ l.length := by omega
      refine ⟨1, fun k hk => ?_⟩
      obtain ⟨k, rfl⟩ : ∃ m, k = m + 1 := ⟨k - 1, by omega⟩
      simp only [spec_CountOrders.l0]
      rw [tab_len]
      generalize hM : 2 ^ l.length = M at *
      rw [if_neg (by omega), w_small (by omega), if_pos (by omega), if_pos (by omega), show (M : Int) - 1 = ((M - 1 : Nat) : Int) by omega, hlast]
    | succ D ih =>
      intro d hd
      have hdN : d < 2 ^ l.length := by omega
      have hd62 : d < 2 ^ 62 := by omega
      have hn := ih (d + 1) (by omega)
      have hrdd : ∀ i, rd (tab l d i) (d : Int) = ((cntG l d : Nat) : Int) := fun i => by rw [tab_rd hdN, F_full l hdN (Nat.le_refl _)]
      -- out of the inner loop
      have hout : ∀ i, tab l d i = tab l (d + 1) 0 → Ev (fun k => spec_CountOrders.j3 k l ((2 ^ l.length : Nat) : Int) (tab l d i) (d : Int) (i : Int) false) (((cntG l (2 ^ l.length - 1) : Nat) : Int), true) := by
        intro i hi
        refine Ev.step (fun k => ?_) hn
        simp only [spec_CountOrders.j3]
        rw [if_neg (by decide), w1 (by omega), hi]
      have inner : ∀ e i : Nat, i + e = l.length → Ev (fun k => spec_CountOrders.l1 k l ((2 ^ l.length : Nat) : Int) (tab l d i) (d : Int) (i : Int)) (((cntG l (2 ^ l.length - 1) : Nat) : Int), true) := by
        intro e
        induction e with
        | zero =>
          intro i hi
          obtain rfl : i = l.length := by omega
          refine Ev.step (fun k => ?_) (hout l.length (tab_congr (F_next l d)))
          simp only [spec_CountOrders.l1]
          rw [if_neg (by omega)]
        | succ e ihe =>
          intro i hi
          have hi' : i < l.length := by omega
          have ih' := ihe (i + 1) (by omega)
          have hor := or_lt hdN hi'
          have hp2 : (2 : Nat) ^ i < 2 ^ 62 := Nat.pow_lt_pow_right (by decide) (by omega)
          by_cases hpos : cntG l d = 0
          · refine Ev.step (fun k => ?_) (hout i (tab_congr fun T => (F_none hpos i T).trans (F_next l d T)))
            simp only [spec_CountOrders.l1]
            rw [if_pos (by omega), if_pos (by omega), tab_len, if_pos (by omega), hrdd, decide_eq_false (by omega)]
          -- the loop that tells whether the statement is free
          have free : ∀ g j : Nat, j + g = i → ∀ b : Bool, (b && (List.range g).all fun x => d.testBit (j + x) || !(mst (rd_T58 l ((j + x : Nat) : Int)) (rd_T58 l (i : Int)))) = okN l d i → Ev (fun k => spec_CountOrders.l2 k l ((2 ^ l.length : Nat) : Int) (tab l d i) (d : Int) (i : Int) b (j : Int)) (((cntG l (2 ^ l.length - 1) : Nat) : Int), true) := by
            intro g
            induction g with
            | zero =>
              intro j hj b hb
              obtain rfl : j = i := by omega
              rw [List.range_zero, List.all_nil, Bool.and_true] at hb
              refine Ev.step (fun k => ?_) ih'
              simp only [spec_CountOrders.l2]
              rw [if_neg (by omega), w1 (by omega)]
              cases b with
              | true =>
                rw [if_pos rfl, u_small (by omega), if_pos (by omega), shl_n (by omega), b_or hd62 hp2, if_pos (by omega), tab_len, if_pos (by omega), if_pos (by omega), if_pos (by omega), Int.toNat_natCast, hrdd, tab_put hl hb.symm hdN hi']
              | false =>
                rw [if_neg (by decide), tab_congr (F_skip hb.symm)]
            | succ g ihg =>
              intro j hj b hb
              rw [List.range_succ_eq_map, List.all_cons, List.all_map] at hb
              have hsh : ((List.range g).all ((fun x => d.testBit (j + x) || !(mst (rd_T58 l ((j + x : Nat) : Int)) (rd_T58 l (i : Int)))) ∘ Nat.succ)) = ((List.range g).all fun x => d.testBit (j + 1 + x) || !(mst (rd_T58 l ((j + 1 + x : Nat) : Int)) (rd_T58 l (i : Int)))) := by
                congr 1
                funext x
                show (d.testBit (j + (x + 1)) || !(mst (rd_T58 l ((j + (x + 1) : Nat) : Int)) (rd_T58 l (i : Int)))) = _
                rw [show j + (x + 1) = j + 1 + x by omega]
              rw [hsh] at hb
              cases b with
              | false =>
                refine Ev.step (fun k => ?_) (ihg (j + 1) (by omega) false hb)
                simp only [spec_CountOrders.l2]
                rw [if_pos (by omega), if_neg (by decide), w1 (by omega)]
              | true =>
                refine Ev.step (fun k => ?_) (ihg (j + 1) (by omega) (d.testBit j || !(mst (rd_T58 l (j : Int)) (rd_T58 l (i : Int)))) (by rw [← hb, Bool.true_and]; rfl))
                simp only [spec_CountOrders.l2]
                rw [if_pos (by omega), if_pos trivial, u_small (by omega), if_pos (by omega), bit_n hd62 (by omega), w1 (by omega)]
                cases hbit : d.testBit j with
                | true => rw [if_pos (show (if true = true then (1 : Int) else 0) = 1 from rfl), Bool.true_or]
                | false =>
                  rw [if_neg (by decide), if_pos (by omega), if_pos (by omega), if_pos (by omega), if_pos (by omega)]
                  unfold mustV
                  rw [Option.bind_some, Bool.false_or]
          refine Ev.step (f := fun k => spec_CountOrders.j3 k l ((2 ^ l.length : Nat) : Int) (tab l d i) (d : Int) (i : Int) true) (fun k => ?_) ?_
          · simp only [spec_CountOrders.l1]
            rw [if_pos (by omega), if_pos (by omega), tab_len, if_pos (by omega), hrdd, decide_eq_true (by omega)]
          refine Ev.step (fun k => ?_) (free i 0 (by omega) (!(d.testBit i)) (by unfold okN; simp only [Nat.zero_add]))
          simp only [spec_CountOrders.j3]
          rw [if_pos trivial, u_small (by omega), if_pos (by omega), bit_n hd62 (by omega)]
          cases d.testBit i <;> rfl
      refine Ev.step (fun k => ?_) (inner l.length 0 (by omega))
      simp only [spec_CountOrders.l0]
      rw [if_pos (by omega)]
      rfl
  refine Ev.step (fun k => by rw [spec_CountOrders.j0, if_neg (by decide)]) ?_
  have e1 : shl .i64 1 (IntKind.u64.wrap (l.length : Int)) = ((2 ^ l.length : Nat) : Int) := by rw [u_small (by omega)]; exact shl_n (by omega)
  simp only [e1, Int.toNat_natCast]
  refine ev_if (by rw [u_small (by omega)]; omega) (ev_if (by omega) (ev_if (by omega) (ev_some ?_)))
  simp only [List.length_replicate]
  refine ev_if (by omega) ?_
  have := key (2 ^ l.length) 0 (by omega)
  rw [← tab_start] at this
  exact this
end Go.Proofs.Yteknfebehafbdaa.V
