/- A text cut at commas: the reference's parts are the library's. No condition but short texts. -/
import Derived.Test.YtgaemhbffdlbaaaDoorK6
import Derived.Test.YtgaemhbffdlbaaaDoorV0
import Derived.Test.YtgaemhbffdlbaaaDoorVV
import Derived.Test.YtgaemhbffdlbaaaDoorV0
import Derived.Test.YtgaemhbffdlbaaaDoorVV
import Derived.Lib.SplitLaws
import Derived.Lib.IndexBytes
namespace Go.Proofs.YtgaemhbffdlbaaaDoor.V
open Go.RowKit Go.Proofs.YtgaemhbffdlbaaaDoor.K Go.Proofs.YtgaemhbffdlbaaaDoorW.PrintWords Go.Proofs.YtgaemhbffdlbaaaDoorW.PrintLast
set_option linter.unusedVariables false
set_option linter.unusedSimpArgs false

/-- The parts of a text between commas. -/
def ct : List UInt8 → List (List UInt8)
  | [] => [[]]
  | b :: r => if b = 44 then [] :: ct r else match ct r with
    | [] => [[b]]
    | x :: xs => (b :: x) :: xs
theorem ct_ne : ∀ l, ct l ≠ []
  | [] => by simp [ct]
  | b :: r => by
    unfold ct
    split
    · simp
    · split <;> simp
theorem ct_comma (r : List UInt8) : ct (44 :: r) = [] :: ct r := by
  conv => lhs; unfold ct
  rw [if_pos rfl]
/-- What stands ahead of the first part. -/
def glue (cur : List UInt8) : List (List UInt8) → List (List UInt8)
  | [] => [cur]
  | x :: xs => (cur ++ x) :: xs
theorem glue_other {b : UInt8} (h : b ≠ 44) (cur r : List UInt8) : glue cur (ct (b :: r)) = glue (cur ++ [b]) (ct r) := by
  have e : ct (b :: r) = match ct r with
    | [] => [[b]]
    | x :: xs => (b :: x) :: xs := by
    conv => lhs; unfold ct
    rw [if_neg h]
  rw [e]
  cases hc : ct r with
  | nil => exact absurd hc (ct_ne r)
  | cons x xs => simp [glue]
theorem glue_nil (l : List UInt8) : glue [] (ct l) = ct l := by
  cases hc : ct l with
  | nil => exact absurd hc (ct_ne l)
  | cons x xs => rfl
theorem ct_none : ∀ {l : List UInt8}, (44 : UInt8) ∉ l → ct l = [l]
  | [], _ => rfl
  | b :: r, h => by
    have hb : b ≠ 44 := fun e => h (by rw [e]; exact List.mem_cons_self ..)
    have hr : (44 : UInt8) ∉ r := fun e => h (List.mem_cons_of_mem _ e)
    have := glue_other hb [] r
    rw [glue_nil] at this
    rw [this, ct_none hr]; rfl
theorem ct_first : ∀ {a : List UInt8} (r : List UInt8), (44 : UInt8) ∉ a → ct (a ++ 44 :: r) = a :: ct r
  | [], r, _ => ct_comma r
  | b :: a, r, h => by
    have hb : b ≠ 44 := fun e => h (by rw [e]; exact List.mem_cons_self ..)
    have ha : (44 : UInt8) ∉ a := fun e => h (List.mem_cons_of_mem _ e)
    have := glue_other hb [] (a ++ 44 :: r)
    rw [glue_nil] at this
    rw [List.cons_append, this, ct_first r ha]; rfl
theorem ib_none : ∀ {l : List UInt8}, (44 : UInt8) ∉ l → Lib.indexByte l 44 = -1
  | [], _ => rfl
  | b :: r, h => by
    have hb : b ≠ 44 := fun e => h (by rw [e]; exact List.mem_cons_self ..)
    have hr : (44 : UInt8) ∉ r := fun e => h (List.mem_cons_of_mem _ e)
    unfold Lib.indexByte
    rw [if_neg (by simpa using hb), ib_none hr]; rfl
theorem ib_first : ∀ {a : List UInt8} (r : List UInt8), (44 : UInt8) ∉ a → Lib.indexByte (a ++ 44 :: r) 44 = (a.length : Int)
  | [], r, _ => by
    rw [List.nil_append]
    unfold Lib.indexByte
    rw [if_pos (by simp)]; rfl
  | b :: a, r, h => by
    have hb : b ≠ 44 := fun e => h (by rw [e]; exact List.mem_cons_self ..)
    have ha : (44 : UInt8) ∉ a := fun e => h (List.mem_cons_of_mem _ e)
    rw [List.cons_append]
    unfold Lib.indexByte
    rw [if_neg (by simpa using hb), ib_first r ha, if_neg (by simp)]
    simp
theorem splitK_ct : ∀ (k : Nat) (l : List UInt8), l.count 44 = k → Lib.splitK [44] 0 k l = ct l
  | 0, l, h => by
    rw [ct_none (List.count_eq_zero.mp h)]; rfl
  | k + 1, l, h => by
    have hm : (44 : UInt8) ∈ l := List.count_pos_iff.mp (by omega)
    obtain ⟨a, r, rfl, ha⟩ := List.eq_append_cons_of_mem hm
    have hi : Lib.index (a ++ 44 :: r) [44] = (a.length : Int) := by rw [Lib.index_one, ib_first r ha]
    have hc : r.count 44 = k := by
      rw [List.count_append, List.count_cons_self, List.count_eq_zero.mpr ha] at h
      omega
    unfold Lib.splitK
    rw [hi, if_neg (by simp), ct_first r ha]
    have e1 : (a ++ 44 :: r).take ((a.length : Int).toNat + 0) = a := by simp
    have e2 : (a ++ 44 :: r).drop ((a.length : Int).toNat + [(44 : UInt8)].length) = r := by
      rw [Int.toNat_natCast, show [(44 : UInt8)].length = 1 from rfl, List.drop_append]
      simp
    rw [e1, e2, splitK_ct k r hc]
def comma : ByteArray := ⟨#[44]⟩
theorem split_ct (s : ByteArray) : (Lib.splitB comma 0 (Lib.countB s comma) s).map (·.data.toList) = ct s.data.toList := by
  rw [Lib.splitB_data]
  have e : Lib.countB s comma = s.data.toList.count 44 := Lib.count_one 44 s.data.toList
  rw [e]
  exact splitK_ct _ _ rfl
theorem ct_len : ∀ l : List UInt8, (ct l).length ≤ l.length + 1
  | [] => by simp [ct]
  | b :: r => by
    have ih := ct_len r
    by_cases hb : b = 44
    · subst hb; rw [ct_comma]; simp; omega
    · have := glue_other hb [] r
      rw [glue_nil] at this
      rw [this]
      cases hc : ct r with
      | nil => exact absurd hc (ct_ne r)
      | cons x xs => rw [hc] at ih; simp [glue] at ih ⊢; omega
/-- The reference's cut. -/
theorem specCut (s : ByteArray) (hs : s.size ≤ 1048576) : ∃ X : List ByteArray, X.map (·.data.toList) = ct s.data.toList ∧ Ev (fun k => spec_l01Cut.f k s 44) X := by
  have hlen : s.data.toList.length = s.size := by simp
  generalize hl : s.data.toList = l at hlen
  have hbt : ∀ i (h : i < l.length), bt s (i : Int) = ((l[i]).toNat : Int) := fun i h => by
    have := bt_cast (s := s) (i := i) (by rw [hl]; exact h)
    simp only [hl] at this
    exact this
  have hex : ∀ a b, (s.extract a b).data.toList = (l.drop a).take (b - a) := fun a b => by rw [Lib.extract_data, hl]
  have hend : ∀ acc : List ByteArray, ∀ fr : Int, Ev (fun k => spec_l01Cut.l0 k s 44 acc fr ((l.length + 1 : Nat) : Int)) acc := fun acc fr => by
    refine Ev.step (f := fun _ => some acc) (fun k => ?_) (Ev.now _)
    simp only [spec_l01Cut.l0]
    rw [if_neg (by omega)]
  have key : ∀ d i fr : Nat, i + d = l.length → fr ≤ i → ∀ acc : List ByteArray, acc.length ≤ i → ∃ X : List ByteArray, X.map (·.data.toList) = acc.map (·.data.toList) ++ glue ((l.drop fr).take (i - fr)) (ct (l.drop i)) ∧ Ev (fun k => spec_l01Cut.l0 k s 44 acc (fr : Int) (i : Int)) X := by
    intro d
    induction d with
    | zero =>
      intro i fr hi hf acc hacc
      obtain rfl : i = l.length := by omega
      refine ⟨acc ++ [s.extract fr l.length], ?_, ?_⟩
      · rw [List.map_append, List.map_singleton, hex, List.drop_length]
        simp [ct, glue]
      · refine Ev.step (f := fun k => spec_l01Cut.l0 k s 44 (acc ++ [s.extract fr l.length]) ((l.length + 1 : Nat) : Int) ((l.length + 1 : Nat) : Int)) (fun k => ?_) (hend _ _)
        simp only [spec_l01Cut.l0]
        rw [if_pos (by omega), if_pos (by omega), if_pos (by omega), if_pos (by omega), if_pos (by omega), w1 (by omega), Int.toNat_natCast, Int.toNat_natCast]
    | succ d ih =>
      intro i fr hi hf acc hacc
      have hil : i < l.length := by omega
      have hb := hbt i hil
      have hd : l.drop i = l[i] :: l.drop (i + 1) := List.drop_eq_getElem_cons hil
      by_cases hc : l[i] = 44
      · obtain ⟨X, hX, hE⟩ := ih (i + 1) (i + 1) (by omega) (Nat.le_refl _) (acc ++ [s.extract fr i]) (by simp; omega)
        refine ⟨X, ?_, ?_⟩
        · rw [hX, List.map_append, List.map_singleton, hex, hd, hc, ct_comma, Nat.sub_self, List.take_zero, glue_nil]
          simp [glue]
        · refine Ev.step (fun k => ?_) hE
          simp only [spec_l01Cut.l0]
          rw [if_pos (by omega), if_neg (by omega), if_pos (by omega), if_pos (by omega), if_pos (by rw [hb, hc]; rfl), if_pos (by omega), if_pos (by omega), if_pos (by omega), w1 (by omega), Int.toNat_natCast, Int.toNat_natCast]
      · obtain ⟨X, hX, hE⟩ := ih (i + 1) fr (by omega) (by omega) acc (by omega)
        refine ⟨X, ?_, ?_⟩
        · rw [hX, hd, glue_other hc]
          congr 2
          rw [show i + 1 - fr = (i - fr) + 1 by omega, List.take_add_one]
          congr 1
          rw [List.getElem?_drop, show fr + (i - fr) = i by omega, List.getElem?_eq_getElem hil]; rfl
        · refine Ev.step (fun k => ?_) hE
          simp only [spec_l01Cut.l0]
          have hne : ¬ bt s (i : Int) = 44 := by
            rw [hb]
            intro h
            exact hc (UInt8.toNat_inj.mp (by rw [show (44 : UInt8).toNat = 44 from rfl]; omega))
          rw [if_pos (by omega), if_neg (by omega), if_pos (by omega), if_pos (by omega), if_neg hne, w1 (by omega)]
  obtain ⟨X, hX, hE⟩ := key l.length 0 0 (by omega) (Nat.le_refl _) [] (Nat.le_refl _)
  refine ⟨X, ?_, ?_⟩
  · rw [hX, List.map_nil, List.nil_append, List.drop_zero, Nat.sub_self, List.take_zero, glue_nil]
  · unfold spec_l01Cut.f
    exact hE
end Go.Proofs.YtgaemhbffdlbaaaDoor.V
