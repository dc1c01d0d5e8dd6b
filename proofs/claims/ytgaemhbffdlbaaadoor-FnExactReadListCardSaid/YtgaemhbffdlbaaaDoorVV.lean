/- The value of a decimal text: the reference's and the program's. No condition but short texts. -/
import Derived.Test.YtgaemhbffdlbaaaDoorK1
import Derived.Test.YtgaemhbffdlbaaaDoorK2
import Derived.Test.YtgaemhbffdlbaaaDoorK3
import Derived.Test.YtgaemhbffdlbaaaDoorV0
import Derived.Test.YtgaemhbffdlbaaaDoorVD
import Derived.Test.YtgaemhbffdlbaaaDoorV0
import Derived.Test.YtgaemhbffdlbaaaDoorVD
namespace Go.Proofs.YtgaemhbffdlbaaaDoor.V
open Go.RowKit Go.Proofs.YtgaemhbffdlbaaaDoor.K Go.Proofs.YtgaemhbffdlbaaaDoorW.PrintWords Go.Proofs.YtgaemhbffdlbaaaDoorW.PrintLast
set_option linter.unusedVariables false
set_option linter.unusedSimpArgs false

theorem bt_cast {s : ByteArray} {i : Nat} (h : i < s.data.toList.length) : bt s (i : Int) = ((s.data.toList[i]).toNat : Int) := by
  unfold bt
  rw [dif_pos (by simpa using h)]
  simp
  rfl
theorem nDigits_le : ∀ k u : Nat, u < 10 ^ (k + 1) → Lib.nDigits u ≤ k + 1
  | 0, u, h => by rw [Lib.nDigits_small (by simpa using h)]; omega
  | k + 1, u, h => by
    by_cases h10 : u < 10
    · rw [Lib.nDigits_small h10]; omega
    · rw [Lib.nDigits_big h10]
      have := nDigits_le k (u / 10) (by rw [Nat.pow_succ] at h; omega)
      omega
theorem dd_rec {u : Nat} (h : ¬ u < 10) : Lib.decDigits u = Lib.decDigits (u / 10) ++ [UInt8.ofNat (48 + u % 10)] := by rw [Lib.decDigits, dif_neg h]
theorem dig_nat {d : Nat} (h : d < 10) : (UInt8.ofNat (48 + d)).toNat = 48 + d := by simp; omega
theorem dd_digit : ∀ (u : Nat), ∀ b ∈ Lib.decDigits u, 48 ≤ b.toNat ∧ b.toNat ≤ 57 := by
  intro u
  induction u using Nat.strongRecOn with
  | _ u ih =>
    intro b hb
    by_cases h : u < 10
    · rw [Lib.decDigits_one h, List.mem_singleton] at hb
      subst hb
      rw [dig_nat h]; omega
    · rw [dd_rec h, List.mem_append, List.mem_singleton] at hb
      rcases hb with hb | rfl
      · exact ih (u / 10) (by omega) b hb
      · rw [dig_nat (by omega)]; omega
theorem dd_ne (u : Nat) : Lib.decDigits u ≠ [] := by
  intro h
  have h2 := Lib.decDigits_length u
  have h3 := Lib.nDigits_pos u
  rw [h] at h2
  simp at h2; omega
/-- The digits' value, other bytes passed over. -/
def av1 (n : Int) (b : UInt8) : Int := if 48 ≤ b.toNat ∧ b.toNat ≤ 57 then 10 * n + ((b.toNat : Int) - 48) else n
def av (l : List UInt8) : Int := l.foldl av1 0
def sv (l : List UInt8) : Int := if l.head? = some 45 then -(av l) else av l
theorem av_snoc (l : List UInt8) (b : UInt8) : av (l ++ [b]) = av1 (av l) b := by unfold av; rw [List.foldl_append]; rfl
theorem av_dd (u : Nat) : av (Lib.decDigits u) = u := by
  induction u using Nat.strongRecOn with
  | _ u ih =>
    by_cases h : u < 10
    · rw [Lib.decDigits_one h]
      show av1 0 _ = _
      unfold av1
      rw [dig_nat h, if_pos (by omega)]; omega
    · rw [dd_rec h, av_snoc, ih (u / 10) (by omega)]
      unfold av1
      rw [dig_nat (by omega), if_pos (by omega)]; omega
theorem av_minus (l : List UInt8) : av (45 :: l) = av l := rfl
theorem sv_itoa (v : Int) : sv (Lib.itoa v) = v := by
  unfold sv Lib.itoa
  by_cases h : v < 0
  · rw [if_pos h, if_pos (show (45 :: Lib.decDigits v.natAbs).head? = some 45 from rfl), av_minus, av_dd]; omega
  · rw [if_neg h]
    have hne : ¬ (Lib.decDigits v.toNat).head? = some 45 := by
      intro hh
      have := dd_digit v.toNat 45 (List.mem_of_head? hh)
      have e : (45 : UInt8).toNat = 45 := rfl
      omega
    rw [if_neg hne, av_dd]; omega
theorem pu_snoc (M : Nat) : ∀ (l : List UInt8) (a : Nat) (b : UInt8) (u : Nat), Lib.parseUintM M a l = .ok u → Lib.parseUintM M a (l ++ [b]) = Lib.parseUintM M u [b]
  | [], a, b, u, h => by
    simp only [Lib.parseUintM] at h
    rw [Lib.NumEnd.ok.inj h]; rfl
  | c :: r, a, b, u, h => by
    rw [List.cons_append]
    unfold Lib.parseUintM at h ⊢
    split at h
    · rename_i hc
      rw [if_pos hc]
      split at h
      · cases h
      · rename_i h1
        rw [if_neg h1]
        split at h
        · cases h
        · rename_i h2
          rw [if_neg h2]
          exact pu_snoc M r _ b u h
    · cases h
theorem pu_dd : ∀ (u : Nat), u ≤ 1000000000 → Lib.parseUintM (2 ^ 64 - 1) 0 (Lib.decDigits u) = .ok u := by
  intro u
  induction u using Nat.strongRecOn with
  | _ u ih =>
    intro hu
    have one : ∀ (a d : Nat), a ≤ 1000000000 → d < 10 → Lib.parseUintM (2 ^ 64 - 1) a [UInt8.ofNat (48 + d)] = .ok (a * 10 + d) := by
      intro a d ha hd
      have h64 : (2 : Nat) ^ 64 = 18446744073709551616 := by decide
      have hnm : ¬ (2 : Nat) ^ 64 - 1 < a * 10 + (48 + d - 48) := by rw [h64]; omega
      unfold Lib.parseUintM
      rw [dig_nat hd, if_pos (by omega), if_neg (by omega), if_neg hnm]
      unfold Lib.parseUintM
      congr 1
      omega
    by_cases h : u < 10
    · rw [Lib.decDigits_one h, one 0 u (by omega) h, Nat.zero_mul, Nat.zero_add]
    · rw [dd_rec h, pu_snoc _ _ _ _ _ (ih (u / 10) (by omega) (by omega)), one (u / 10) (u % 10) (by omega) (by omega)]
      congr 1
      omega
theorem parse_itoa {v : Int} (h : -1000000000 ≤ v ∧ v ≤ 1000000000) : Lib.parseIntB 64 (Lib.itoa v) = .ok v := by
  have hp : ∀ u : Nat, u ≤ 1000000000 → Lib.parseUintB 64 (Lib.decDigits u) = .ok u := fun u hu => by
    unfold Lib.parseUintB
    rw [if_neg (dd_ne u), pu_dd u hu]
  have e63 : (2 : Nat) ^ (64 - 1) = 9223372036854775808 := by decide
  unfold Lib.itoa
  by_cases hn : v < 0
  · rw [if_pos hn]
    unfold Lib.parseIntB
    simp only
    rw [if_pos (show (45 : UInt8).toNat = 43 ∨ (45 : UInt8).toNat = 45 from Or.inr rfl), hp _ (by omega)]
    simp only
    rw [if_neg (by simp), if_neg (by rw [e63]; omega), if_pos (by rfl)]
    congr 1
    omega
  · rw [if_neg hn]
    have hd := dd_digit v.toNat
    have hu := hp v.toNat (by omega)
    cases he : Lib.decDigits v.toNat with
    | nil => exact absurd he (dd_ne _)
    | cons c r =>
      rw [he] at hd hu
      have hc := hd c (List.mem_cons_self ..)
      unfold Lib.parseIntB
      simp only
      rw [if_neg (by omega), hu]
      simp only
      rw [if_neg (by rw [e63]; omega), if_neg (by omega), if_neg (by omega)]
      congr 1
      omega
theorem itoa_len {v : Int} (h : -1000000000 ≤ v ∧ v ≤ 1000000000) : (Lib.itoa v).length ≤ 11 := by
  have hl : ∀ u : Nat, u ≤ 1000000000 → (Lib.decDigits u).length ≤ 10 := fun u hu => by
    rw [Lib.decDigits_length]
    exact nDigits_le 9 u (by rw [show (10 : Nat) ^ (9 + 1) = 10000000000 by decide]; omega)
  unfold Lib.itoa
  by_cases hn : v < 0
  · rw [if_pos hn, List.length_cons]
    have := hl v.natAbs (by omega)
    omega
  · rw [if_neg hn]
    have := hl v.toNat (by omega)
    omega
/-- The value is told by the digits. -/
theorem valD_sv (l : List UInt8) : valD l = if (-1000000000 ≤ sv l ∧ sv l ≤ 1000000000) ∧ Lib.itoa (sv l) = l then (sv l, true) else (0, false) := by
  by_cases h : (-1000000000 ≤ sv l ∧ sv l ≤ 1000000000) ∧ Lib.itoa (sv l) = l
  · rw [if_pos h]
    unfold valD
    have := parse_itoa h.1
    rw [h.2] at this
    simp only [this]
    rw [if_pos h]
  · rw [if_neg h]
    unfold valD
    rcases hp : Lib.parseIntB 64 l with v | _ | _
    · simp only [hp]
      rw [if_neg (fun hv => ?_)]
      have : sv l = v := by
        have := sv_itoa v
        rwa [hv.2] at this
      rw [this] at h
      exact h hv
    · rfl
    · rfl
theorem av_bound : ∀ (l : List UInt8), 0 ≤ av l ∧ av l < 10 ^ l.length := by
  intro l
  have key : ∀ n (l : List UInt8), l.length = n → 0 ≤ av l ∧ av l < 10 ^ l.length := by
    intro n
    induction n with
    | zero => intro l hl; rw [List.eq_nil_of_length_eq_zero hl]; decide
    | succ n ih =>
      intro l hl
      obtain ⟨a, b, rfl⟩ : ∃ a b, l = a ++ [b] := ⟨l.dropLast, l.getLast (by intro h; rw [h] at hl; cases hl), (List.dropLast_concat_getLast _).symm⟩
      have hl2 : a.length = n := by simpa using hl
      obtain ⟨h0, h1⟩ := ih a hl2
      rw [av_snoc, hl, Int.pow_succ]
      rw [hl2] at h1
      unfold av1
      have hp : (0 : Int) < 10 ^ n := Int.pow_pos (by decide)
      generalize (10 : Int) ^ n = p at h1 hp ⊢
      split
      · omega
      · omega
  exact key l.length l rfl
theorem specValue (s : ByteArray) : Ev (fun k => spec_l01Value.f k s) (valD s.data.toList) := by
  have hlen : s.data.toList.length = s.size := by simp
  generalize hl : s.data.toList = l at hlen ⊢
  have hbt : ∀ i (h : i < l.length), bt s (i : Int) = ((l[i]).toNat : Int) := fun i h => by
    have := bt_cast (s := s) (i := i) (by rw [hl]; exact h)
    simp only [hl] at this
    exact this
  have no : valD l = (0, false) → Ev (fun k => spec_l01Value.j0 k s true) (valD l) := fun h => by
    rw [h]
    refine Ev.step (f := fun _ => some ((0 : Int), false)) (fun k => ?_) (Ev.now _)
    simp only [spec_l01Value.j0]
    rw [if_pos trivial]
  unfold spec_l01Value.f
  by_cases h1 : (s.size : Int) < 1
  · refine ev_if h1 (no ?_)
    rw [List.eq_nil_of_length_eq_zero (show l.length = 0 by omega)]; rfl
  refine ev_else h1 ?_
  by_cases h11 : (s.size : Int) > 11
  · rw [decide_eq_true h11]
    refine no ?_
    rw [valD_sv, if_neg (fun h => ?_)]
    have := itoa_len h.1
    rw [h.2] at this
    omega
  rw [decide_eq_false h11]
  refine Ev.step (f := fun k => spec_l01Value.l0 k s 0 0) (fun k => by simp only [spec_l01Value.j0]; rw [if_neg (fun h => nomatch h)]) ?_
  have hav := av_bound l
  have hp11 : (10 : Int) ^ l.length ≤ 100000000000 := by
    have : (10 : Int) ^ l.length ≤ 10 ^ 11 := by
      have := Nat.pow_le_pow_right (show 0 < 10 by decide) (show l.length ≤ 11 by omega)
      exact_mod_cast this
    simpa using this
  -- behind the digits
  have hend : ∀ n : Int, n = sv l → Ev (fun k => spec_l01Value.j2 k s n) (valD l) := by
    intro n hn
    have hv := valD_sv l
    rw [← hn] at hv
    by_cases hr : -1000000000 ≤ n ∧ n ≤ 1000000000
    · have e1 : spec_l00In.f n (-1000000000) 1000000000 = some true := by
        unfold spec_l00In.f
        rw [if_pos (by omega), decide_eq_true hr.2]
      have hd := dec n (by omega) (by omega)
      have et : ((⟨(Lib.itoa n).toArray⟩ : ByteArray).toList = s.toList) ↔ Lib.itoa n = l := by
        rw [Lib.toList_data, Lib.toList_data, hl]
      have st : ∀ k, spec_l01Value.j2 (k + 1) s n = (spec_l01Dec.f k n).bind fun t => if t.toList = s.toList then some (n, true) else some (0, false) := fun k => by
        simp only [spec_l01Value.j2]
        rw [e1, Option.bind_some, if_pos rfl]
      by_cases hi : Lib.itoa n = l
      · rw [if_pos ⟨hr, hi⟩] at hv
        rw [hv]
        exact Ev.step st (Ev.bind hd (ev_if (et.mpr hi) (Ev.now _)))
      · rw [if_neg (fun h => hi h.2)] at hv
        rw [hv]
        exact Ev.step st (Ev.bind hd (ev_else (fun h => hi (et.mp h)) (Ev.now _)))
    · rw [if_neg (fun h => hr h.1)] at hv
      rw [hv]
      have e1 : spec_l00In.f n (-1000000000) 1000000000 = some false := by
        unfold spec_l00In.f
        by_cases h0 : n ≥ -1000000000
        · rw [if_pos h0, decide_eq_false (by omega)]
        · rw [if_neg h0]
      refine Ev.step (f := fun _ => some ((0 : Int), false)) (fun k => ?_) (Ev.now _)
      simp only [spec_l01Value.j2]
      rw [e1, Option.bind_some, if_neg (fun h => nomatch h)]
  have key : ∀ d i : Nat, i + d = l.length → Ev (fun k => spec_l01Value.l0 k s (av (l.take i)) (i : Int)) (valD l) := by
    intro d
    induction d with
    | zero =>
      intro i hi
      obtain rfl : i = l.length := by omega
      rw [List.take_length]
      have h0 : 0 < l.length := by omega
      have hb0 := hbt 0 h0
      have hh : l.head? = some l[0] := by rw [List.head?_eq_getElem?, List.getElem?_eq_getElem h0]
      by_cases h45 : (l[0]).toNat = 45
      · have e45 : l[0] = 45 := UInt8.toNat_inj.mp h45
        refine Ev.step (f := fun k => spec_l01Value.j2 k s (wrap64 (-(av l)))) (fun k => ?_) (hend _ ?_)
        · simp only [spec_l01Value.l0]
          rw [if_neg (by omega), if_pos (by omega)]
          rw [if_pos (by rw [show (0 : Int) = ((0 : Nat) : Int) from rfl, hb0]; omega)]
        · unfold sv
          rw [hh, e45, if_pos rfl]
          unfold wrap64; omega
      · refine Ev.step (f := fun k => spec_l01Value.j2 k s (av l)) (fun k => ?_) (hend _ ?_)
        · simp only [spec_l01Value.l0]
          rw [if_neg (by omega), if_pos (by omega)]
          rw [if_neg (by rw [show (0 : Int) = ((0 : Nat) : Int) from rfl, hb0]; omega)]
        · unfold sv
          rw [hh, if_neg (fun h => h45 (by rw [Option.some.inj h]; rfl))]
    | succ d ih =>
      intro i hi
      have hil : i < l.length := by omega
      have hb := hbt i hil
      have hts : l.take (i + 1) = l.take i ++ [l[i]] := by rw [List.take_succ_eq_append_getElem hil]
      have ih1 := ih (i + 1) (by omega)
      rw [hts, av_snoc] at ih1
      have hbd := av_bound (l.take i)
      have hpi : (10 : Int) ^ (l.take i).length ≤ 100000000000 := by
        have : (10 : Int) ^ (l.take i).length ≤ 10 ^ 11 := by
          have := Nat.pow_le_pow_right (show 0 < 10 by decide) (show (l.take i).length ≤ 11 by rw [List.length_take]; omega)
          exact_mod_cast this
        simpa using this
      have h255 : (l[i]).toNat < 256 := UInt8.toNat_lt _
      refine Ev.step (f := fun k => spec_l01Value.l0 k s (av1 (av (l.take i)) l[i]) ((i + 1 : Nat) : Int)) (fun k => ?_) ih1
      simp only [spec_l01Value.l0]
      rw [if_pos (by omega), if_pos (by omega), hb, w1 (by omega)]
      unfold av1
      by_cases h48 : 48 ≤ (l[i]).toNat
      · rw [if_pos (by omega)]
        by_cases h57 : (l[i]).toNat ≤ 57
        · rw [if_pos (by omega), if_pos ⟨h48, h57⟩]
          congr 1
          unfold wrap64; omega
        · rw [if_neg (by omega), if_neg (fun h => h57 h.2)]
      · rw [if_neg (by omega), if_neg (fun h => h48 h.1)]
  have := key l.length 0 (by omega)
  exact this
end Go.Proofs.YtgaemhbffdlbaaaDoor.V
