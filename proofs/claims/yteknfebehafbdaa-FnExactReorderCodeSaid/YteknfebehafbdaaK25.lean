-- Laid by a program of this session.
import Derived.Test.YteknfebehafbdaaK0
import Derived.Test.YteknfebehafbdaaH0
import Derived.Test.YteknfebehafbdaaH5
import Derived.Test.YteknfebehafbdaaK1
import Derived.Test.YteknfebehafbdaaK5
namespace Go.Proofs.Yteknfebehafbdaa.K
open Go.RowKit Go.Proofs.YteknfebehafbdaaW.PrintWords Go.Proofs.YteknfebehafbdaaW.PrintLast Go.Proofs.YteknfebehafbdaaW.PrintMore Go.Proofs.Yteknfebehafbdaa.Bx Go.Shelf
attribute [local go_sem] max2_int min2_int max_two min_two max_three min_three max_four min_four   -- for this text's walks alone
set_option linter.unusedVariables false
set_option linter.unusedSimpArgs false

/-! ### spec_l03Order: function 72 -/
def hasB (l : List Int) (n : Int) : Bool := l.any fun x => decide (x = n)
/-- The places of an order are fine, from the first on. -/
def inAt (l : List S58) (o : List Int) (x i : Nat) : Bool := !(mst (rd_T58 l (i : Int)) (rd_T58 l (rd o (x : Int))) && !(hasB (o.take x) (i : Int)))
def okAt (l : List S58) (o : List Int) (x : Nat) : Bool := decide (0 ≤ rd o (x : Int) ∧ rd o (x : Int) ≤ (l.length : Int) - 1) && (!(hasB (o.take x) (rd o (x : Int))) && (List.range (rd o (x : Int)).toNat).all fun i => inAt l o x i)
def ordB (l : List S58) (o : List Int) : Bool := decide (o.length = l.length) && (List.range o.length).all fun x => okAt l o x
def spec_l03Order.f (_k : Nat) (l0 : List (S58)) (l1 : List Int) : Option (Bool) := if l0.length ≤ 1048576 then some (ordB l0 l1) else none
theorem spec_l03Order.mono : ∀ a0 a1 k, LeO (spec_l03Order.f k a0 a1) (spec_l03Order.f (k + 1) a0 a1) := fun _ _ _ => LeO.refl _
theorem all_bad {p : Nat → Bool} {n x : Nat} (hx : x < n) (h : p x = false) : (List.range n).all p = false := List.all_eq_false.mpr ⟨x, List.mem_range.mpr hx, by rw [h]; decide⟩
theorem all_good {p : Nat → Bool} {n : Nat} (h : ∀ x, x < n → p x = true) : (List.range n).all p = true := List.all_eq_true.mpr fun x hx => h x (List.mem_range.mp hx)
theorem l00In_is (n lo hi : Int) : spec_l00In.f n lo hi = some (decide (lo ≤ n ∧ n ≤ hi)) := by
 unfold spec_l00In.f
 by_cases h : n ≥ lo
 ·rw [if_pos h]; congr 1; simp; omega
 rw [if_neg h]; congr 1; simp; omega
theorem hasB_f (l : List Int) (n : Int) (hl : l.length ≤ 1048576) : ∃ k, spec_l00Has.f k l n = some (hasB l n) := by
 have key : ∀ d i : Nat, i + d = l.length → ∃ k, spec_l00Has.l0 k l n (i : Int) = some (hasB (l.drop i) n) := by
  intro d
  induction d with
  | zero =>
   intro i hi
   refine ⟨1, ?_⟩
   simp only [spec_l00Has.l0]
   rw [if_neg (by omega), List.drop_of_length_le (by omega)]; rfl
  | succ d ih =>
   intro i hi
   obtain ⟨k, hk⟩ := ih (i + 1) (by omega)
   have e : l.drop i = rd l (i : Int) :: l.drop (i + 1) := by
    rw [List.drop_eq_getElem_cons (by omega : i < l.length)]
    unfold rd
    rw [Int.toNat_natCast, List.getD_eq_getElem?_getD, List.getElem?_eq_getElem (by omega)]; rfl
   have hw : wrap64 ((i : Int) + 1) = ((i + 1 : Nat) : Int) := by unfold wrap64; omega
   refine ⟨k + 1, ?_⟩
   simp only [spec_l00Has.l0]
   rw [if_pos (by omega), if_pos (by omega), hw, e]
   by_cases h : rd l (i : Int) = n
   ·rw [if_pos h]
    unfold hasB
    rw [List.any_cons, decide_eq_true h]; rfl
   rw [if_neg h, hk]
   unfold hasB
   rw [List.any_cons, decide_eq_false h]; rfl
 obtain ⟨k, hk⟩ := key l.length 0 (by omega)
 exact ⟨k, hk⟩
theorem must_b (w : World) (a b : Addr) (x y : S58) (v : Bool) (ha : At4 w a x) (hb : At4 w b y) (hm : mst x y = v) :
  Calls Try.prog 68 #[.pointer (some a), .pointer (some b)] w fun e w' => e = .returned (.bool v) ∧ Drawn0 w w' := by
 subst hm
 exact l03Must_c w a b x y ha hb
theorem has_c (w : World) (A : Option Addr) (c : Nat) (l : List Int) (x : Nat) (n : Int) (v : Bool) (hv : hasB (l.take x) n = v) (hl : l.length ≤ 1048576) (hx : x ≤ l.length) (h : Kd.C (Kd.int .i64) w A l.length l) (hc : l.length ≤ c) :
  Calls Try.prog 101 #[.slice A x c, .int .i64 n] w fun e w' => e = .returned (.bool v) ∧ Drawn0 w w' := by
 subst hv
 obtain ⟨k, hk⟩ := hasB_f (l.take x) n (by rw [List.length_take]; omega)
 have h2 := spec_l00Has.calls k A c (l.take x) n _ w (Kd.C_take h hx) (by rw [List.length_take]; omega) hk
 rw [List.length_take, Nat.min_eq_left hx] at h2
 exact h2
set_option maxHeartbeats 8000000 in
set_option maxRecDepth 100000 in
theorem spec_l03Order.calls (k : Nat) (A0 : Option Addr) (c0 : Nat) (l0 : List (S58)) (A1 : Option Addr) (c1 : Nat) (l1 : List Int) (r : Bool) (w : World) (hr0 : Kd.C k58 w A0 l0.length l0) (hc0 : l0.length ≤ c0) (hr1 : Kd.C (Kd.int .i64) w A1 l1.length l1) (hc1 : l1.length ≤ c1) (h : spec_l03Order.f k l0 l1 = some r) :
  Calls Try.prog 72 #[.slice A0 l0.length c0, .slice A1 l1.length c1] w fun e w' => e = .returned (.bool r) ∧ Drawn0 w w' := by
 unfold spec_l03Order.f at h
 by_cases hb : l0.length ≤ 1048576
 rotate_left
 ·rw [if_neg hb] at h
  cases h
 rw [if_pos hb] at h
 obtain rfl := Option.some.inj h
 clear h
 have HR := Aside0.mk hr0
 have HC := Aside0.mk hc0
 have HR1 := Aside0.mk hr1
 have HC1 := Aside0.mk hc1
 have HL := Aside0.mk hb
 clear hr0 hc0 hr1 hc1 hb
 by_cases he : l1.length = l0.length
 rotate_left
 ·have HE : Aside0 (ordB l0 l1 = false) := ⟨by unfold ordB; rw [decide_eq_false he]; rfl⟩
  have c3b0 : ((l1.length : Int) == (l0.length : Int)) = false := beq_eq_false_iff_ne.mpr (by omega)
  have c3b1 : ((l1.length : Int) != (l0.length : Int)) = true := bne_iff_ne.mpr (by omega)
  have c3b2 : (l1.length == l0.length) = false := beq_eq_false_iff_ne.mpr he
  have c3b3 : (l1.length = l0.length) = False := eq_false he
  clear he
  go_enter Try.func72, Try.ntmps72
  go_wp2
  go_ret
  exact ⟨by rw [HE.out]; rfl, by repeat (first | exact Drawn0.refl _ | apply Drawn0.step)⟩
 have HE := Aside0.mk he
 have c3b0 : ((l1.length : Int) == (l0.length : Int)) = true := beq_iff_eq.mpr (by omega)
 have c3b1 : ((l1.length : Int) != (l0.length : Int)) = false := bne_eq_false_iff_eq.mpr (by omega)
 have c3b2 : (l1.length == l0.length) = true := beq_iff_eq.mpr he
 have hO : ordB l0 l1 = (List.range l1.length).all fun x => okAt l0 l1 x := by unfold ordB; rw [decide_eq_true he]; rfl
 rw [hO]
 clear he hO
 go_enter Try.func72, Try.ntmps72
 go_wp2
 go_loopg [5] l1.length (fun kq v5 w' => ∃ x : Nat, v5 = .int .i64 (x : Int) ∧ Aside0 (∀ j, j < x → okAt l0 l1 j = true) ∧ Aside0 (x ≤ l1.length) ∧ Aside0 (l1.length - x ≤ kq) ∧ Drawn0 w w')
 case atStart => exact ⟨0, rfl, ⟨fun j hj => absurd hj (Nat.not_lt_zero _)⟩, ⟨Nat.zero_le _⟩, ⟨by simp⟩, by repeat (first | exact Drawn0.refl _ | apply Drawn0.step)⟩
 case round =>
  clear c3b0 c3b1 c3b2
  obtain ⟨x, rfl, HOK, H1, HK, ⟨nw, rfl⟩⟩ := hrel
  by_cases c3 : (x : Int) < (l1.length : Int)
  rotate_left
  ·have c3b0 : decide ((x : Int) < (l1.length : Int)) = false := decide_eq_false c3
   have HX : Aside0 (x = l1.length) := ⟨by have := H1.out; omega⟩
   have c3n : (x < l1.length) = False := eq_false (by omega)
   clear c3
   go_wp2
   go_ret
   exact ⟨by rw [all_good (fun j hj => HOK.out j (by rw [HX.out]; exact hj))]; rfl, by repeat (first | exact Drawn0.refl _ | apply Drawn0.step)⟩

  have hxl : x < l1.length := by omega
  have c3b0 : decide ((x : Int) < (l1.length : Int)) = true := decide_eq_true c3
  have c6 : 0 ≤ (x : Int) := Int.natCast_nonneg _
  have HX2 := Aside0.mk hxl
  have HW : Aside0 (wrap64 ((x : Int) + 1) = ((x + 1 : Nat) : Int)) := ⟨by have := HL.out; have := HE.out; unfold wrap64; omega⟩
  obtain ⟨ad, e1, hx0⟩ := Kd.at_int HR1.out (x : Int) c6 c3
  cases e1
  rw [Int.toNat_natCast] at hx0
  have hxc : (x : Int) ≤ (c1 : Int) := by have := HC1.out; omega
  have hxc2 : x ≤ c1 := by have := HC1.out; omega
  have HIN : Aside0 (spec_l00In.f (rd l1 (x : Int)) 0 (wrap64 ((l0.length : Int) - 1)) = some (decide (0 ≤ rd l1 (x : Int) ∧ rd l1 (x : Int) ≤ (l0.length : Int) - 1))) := ⟨by rw [l00In_is, show wrap64 ((l0.length : Int) - 1) = (l0.length : Int) - 1 by have := HL.out; unfold wrap64; omega]⟩
  have hh := fun (m : Nat) (n : Int) (v : Bool) (hv : hasB (l1.take x) n = v) => has_c (w.drewN m) (some ad) c1 l1 x n v hv (by have := HL.out; have := HE.out; omega) (by omega) (Kd.C_drewN HR1.out m) HC1.out
  have HH := Aside0.mk hh
  clear hxl hh
  by_cases hin : 0 ≤ rd l1 (x : Int) ∧ rd l1 (x : Int) ≤ (l0.length : Int) - 1
  rotate_left
  ·have HF : Aside0 (okAt l0 l1 x = false) := ⟨by unfold okAt; rw [decide_eq_false hin]; rfl⟩
   rw [decide_eq_false hin] at HIN
   clear hin
   go_wp2
   go_quiet (first | (go_at_call 67; (with_reducible refine (spec_l00In.calls (rd l1 (x : Int)) 0 (wrap64 ((l0.length : Int) - 1)) false _ HIN.out).mono ?_); rintro e w' ⟨rfl, ⟨nd, rfl⟩⟩; (try first | exact ⟨rfl, _, World.drewN_drewN _ _ _⟩ | exact ⟨rfl, _, Eq.trans (World.drewN_drewN _ _ _) (congrArg (World.drewN _) (Nat.add_assoc _ _ _))⟩)))
   go_wp2
   go_ret
   exact ⟨by rw [all_bad HX2.out HF.out]; rfl, by repeat (first | exact Drawn0.refl _ | apply Drawn0.step)⟩
  have HI := Aside0.mk hin
  rw [decide_eq_true hin] at HIN
  cases hz : hasB (l1.take x) (rd l1 (x : Int)) with
  | true =>
   have HF : Aside0 (okAt l0 l1 x = false) := ⟨by unfold okAt; rw [hz]; simp⟩
   have HZ := Aside0.mk hz
   clear hin hz
   go_wp2
   go_quiet (first | (go_at_call 67; (with_reducible refine (spec_l00In.calls (rd l1 (x : Int)) 0 (wrap64 ((l0.length : Int) - 1)) true _ HIN.out).mono ?_); rintro e w' ⟨rfl, ⟨nd, rfl⟩⟩; (try first | exact ⟨rfl, _, World.drewN_drewN _ _ _⟩ | exact ⟨rfl, _, Eq.trans (World.drewN_drewN _ _ _) (congrArg (World.drewN _) (Nat.add_assoc _ _ _))⟩)) | (go_at_call 101; (refine (HH.out _ (rd l1 (x : Int)) true HZ.out).mono ?_); rintro e w' ⟨rfl, ⟨nd, rfl⟩⟩; (try first | exact ⟨rfl, _, World.drewN_drewN _ _ _⟩ | exact ⟨rfl, _, Eq.trans (World.drewN_drewN _ _ _) (congrArg (World.drewN _) (Nat.add_assoc _ _ _))⟩)))
   go_wp2
   go_ret
   exact ⟨by rw [all_bad HX2.out HF.out]; rfl, by repeat (first | exact Drawn0.refl _ | apply Drawn0.step)⟩
  | false =>
   have HZ := Aside0.mk hz
   obtain ⟨hi0, hi1⟩ := hin
   clear hz
   go_wp2
   go_quiet (first | (go_at_call 67; (with_reducible refine (spec_l00In.calls (rd l1 (x : Int)) 0 (wrap64 ((l0.length : Int) - 1)) true _ HIN.out).mono ?_); rintro e w' ⟨rfl, ⟨nd, rfl⟩⟩; (try first | exact ⟨rfl, _, World.drewN_drewN _ _ _⟩ | exact ⟨rfl, _, Eq.trans (World.drewN_drewN _ _ _) (congrArg (World.drewN _) (Nat.add_assoc _ _ _))⟩)) | (go_at_call 101; (refine (HH.out _ (rd l1 (x : Int)) false HZ.out).mono ?_); rintro e w' ⟨rfl, ⟨nd, rfl⟩⟩; (try first | exact ⟨rfl, _, World.drewN_drewN _ _ _⟩ | exact ⟨rfl, _, Eq.trans (World.drewN_drewN _ _ _) (congrArg (World.drewN _) (Nat.add_assoc _ _ _))⟩)))
   go_wp2
   go_loopg [6] (rd l1 (x : Int)).toNat (fun kq v6 w' => ∃ y : Nat, v6 = .int .i64 (y : Int) ∧ Aside0 (∀ j, j < y → inAt l0 l1 x j = true) ∧ Aside0 (y ≤ (rd l1 (x : Int)).toNat) ∧ Aside0 ((rd l1 (x : Int)).toNat - y ≤ kq) ∧ Drawn0 w w')
   case atStart => exact ⟨0, rfl, ⟨fun j hj => absurd hj (Nat.not_lt_zero _)⟩, ⟨Nat.zero_le _⟩, ⟨by simp⟩, by repeat (first | exact Drawn0.refl _ | apply Drawn0.step)⟩
   case round =>
    obtain ⟨y, rfl, HIA, HYL, HKY, ⟨nw2, rfl⟩⟩ := hrel
    by_cases c4 : (y : Int) < rd l1 (x : Int)
    rotate_left
    ·have c4b0 : decide ((y : Int) < rd l1 (x : Int)) = false := decide_eq_false c4
     have HYX : Aside0 (y = (rd l1 (x : Int)).toNat) := ⟨by have := HYL.out; omega⟩
     have HG : Aside0 (okAt l0 l1 x = true) := ⟨by unfold okAt; rw [decide_eq_true HI.out, HZ.out, all_good (fun j hj => HIA.out j (by rw [HYX.out]; exact hj))]; rfl⟩
     clear c4
     go_wp2
     go_roundg (l1.length - (x + 1))
     case measure => have := HK.out; have := HX2.out; omega
     case rel =>
      have := HX2.out
      exact ⟨x + 1, by first | rfl | rw [HW.out], ⟨fun j hj => by rcases Nat.lt_succ_iff_lt_or_eq.mp hj with h | h; exact HOK.out j h; rw [h]; exact HG.out⟩, ⟨by omega⟩, ⟨by omega⟩, by repeat (first | exact Drawn0.refl _ | apply Drawn0.step)⟩
    have c4b0 : decide ((y : Int) < rd l1 (x : Int)) = true := decide_eq_true c4
    have HYX : Aside0 (y < (rd l1 (x : Int)).toNat) := ⟨by omega⟩
    have c7 : 0 ≤ (y : Int) := Int.natCast_nonneg _
    have c8 : (y : Int) < (l0.length : Int) := by omega
    have c9 : rd l1 (x : Int) < (l0.length : Int) := by omega
    obtain ⟨ad3, e3, hxa⟩ := at_T58 HR.out (rd l1 (x : Int)) hi0 c9
    cases e3
    obtain ⟨ad2, e2, hya⟩ := at_T58 HR.out (y : Int) c7 c8
    cases e2
    have HXA : Aside0 (At4 _ _ (rd_T58 l0 (rd l1 (x : Int)))) := ⟨hxa⟩
    have HYA : Aside0 (At4 _ _ (rd_T58 l0 (y : Int))) := ⟨hya⟩
    have HW2 : Aside0 (wrap64 ((y : Int) + 1) = ((y + 1 : Nat) : Int)) := ⟨by have := HL.out; unfold wrap64; omega⟩
    clear hxa hya
    cases hm : mst (rd_T58 l0 (y : Int)) (rd_T58 l0 (rd l1 (x : Int))) with
    | false =>
     have HG : Aside0 (inAt l0 l1 x y = true) := ⟨by unfold inAt; rw [hm]; rfl⟩
     have HM := Aside0.mk hm
     clear hm
     go_wp2
     go_quiet (first | (go_at_call 68; (with_reducible refine (must_b _ _ _ (rd_T58 l0 (y : Int)) (rd_T58 l0 (rd l1 (x : Int))) _ ?s1 ?s2 HM.out).mono ?_); (case s1 => exact At4_drewN HYA.out _); (case s2 => exact At4_drewN HXA.out _); rintro e w' ⟨rfl, ⟨nd, rfl⟩⟩; (try first | exact ⟨rfl, _, World.drewN_drewN _ _ _⟩ | exact ⟨rfl, _, Eq.trans (World.drewN_drewN _ _ _) (congrArg (World.drewN _) (Nat.add_assoc _ _ _))⟩)))
     go_wp2
     go_roundg ((rd l1 (x : Int)).toNat - (y + 1))
     case measure => have := HKY.out; have := HYX.out; omega
     case rel =>
      have := HYX.out
      exact ⟨y + 1, by first | rfl | rw [HW2.out], ⟨fun j hj => by rcases Nat.lt_succ_iff_lt_or_eq.mp hj with h | h; exact HIA.out j h; rw [h]; exact HG.out⟩, ⟨by omega⟩, ⟨by omega⟩, by repeat (first | exact Drawn0.refl _ | apply Drawn0.step)⟩
    | true =>
     cases hzy : hasB (l1.take x) (y : Int) with
     | true =>
      have HG : Aside0 (inAt l0 l1 x y = true) := ⟨by unfold inAt; rw [hzy]; simp⟩
      have HM := Aside0.mk hm
      have HZY := Aside0.mk hzy
      clear hm hzy
      go_wp2
      go_quiet (first | (go_at_call 68; (with_reducible refine (must_b _ _ _ (rd_T58 l0 (y : Int)) (rd_T58 l0 (rd l1 (x : Int))) _ ?s1 ?s2 HM.out).mono ?_); (case s1 => exact At4_drewN HYA.out _); (case s2 => exact At4_drewN HXA.out _); rintro e w' ⟨rfl, ⟨nd, rfl⟩⟩; (try first | exact ⟨rfl, _, World.drewN_drewN _ _ _⟩ | exact ⟨rfl, _, Eq.trans (World.drewN_drewN _ _ _) (congrArg (World.drewN _) (Nat.add_assoc _ _ _))⟩)) | (go_at_call 101; (refine (HH.out _ (y : Int) _ HZY.out).mono ?_); rintro e w' ⟨rfl, ⟨nd, rfl⟩⟩; (try first | exact ⟨rfl, _, World.drewN_drewN _ _ _⟩ | exact ⟨rfl, _, Eq.trans (World.drewN_drewN _ _ _) (congrArg (World.drewN _) (Nat.add_assoc _ _ _))⟩)))
      go_wp2
      go_roundg ((rd l1 (x : Int)).toNat - (y + 1))
      case measure => have := HKY.out; have := HYX.out; omega
      case rel =>
       have := HYX.out
       exact ⟨y + 1, by first | rfl | rw [HW2.out], ⟨fun j hj => by rcases Nat.lt_succ_iff_lt_or_eq.mp hj with h | h; exact HIA.out j h; rw [h]; exact HG.out⟩, ⟨by omega⟩, ⟨by omega⟩, by repeat (first | exact Drawn0.refl _ | apply Drawn0.step)⟩
     | false =>
      have HG : Aside0 (inAt l0 l1 x y = false) := ⟨by unfold inAt; rw [hzy, hm]; rfl⟩
      have HF : Aside0 (okAt l0 l1 x = false) := ⟨by unfold okAt; rw [all_bad HYX.out HG.out]; simp⟩
      have HM := Aside0.mk hm
      have HZY := Aside0.mk hzy
      clear hm hzy
      go_wp2
      go_quiet (first | (go_at_call 68; (with_reducible refine (must_b _ _ _ (rd_T58 l0 (y : Int)) (rd_T58 l0 (rd l1 (x : Int))) _ ?s1 ?s2 HM.out).mono ?_); (case s1 => exact At4_drewN HYA.out _); (case s2 => exact At4_drewN HXA.out _); rintro e w' ⟨rfl, ⟨nd, rfl⟩⟩; (try first | exact ⟨rfl, _, World.drewN_drewN _ _ _⟩ | exact ⟨rfl, _, Eq.trans (World.drewN_drewN _ _ _) (congrArg (World.drewN _) (Nat.add_assoc _ _ _))⟩)) | (go_at_call 101; (refine (HH.out _ (y : Int) _ HZY.out).mono ?_); rintro e w' ⟨rfl, ⟨nd, rfl⟩⟩; (try first | exact ⟨rfl, _, World.drewN_drewN _ _ _⟩ | exact ⟨rfl, _, Eq.trans (World.drewN_drewN _ _ _) (congrArg (World.drewN _) (Nat.add_assoc _ _ _))⟩)))
      go_wp2
      go_ret
      exact ⟨by rw [all_bad HX2.out HF.out]; rfl, by repeat (first | exact Drawn0.refl _ | apply Drawn0.step)⟩
/-! ### spec_IsOrder: function 27 -/
def spec_IsOrder.f (k : Nat) (l0 : List (S58)) (l1 : List Int) : Option (Bool) := (spec_l03Is.f k l0).bind fun t631 => (if t631 = true then ((spec_l03Order.f k l0 l1).bind fun t632 => (some t632)) else (some false))
theorem spec_IsOrder.mono : ∀ a0 a1 k, LeO (spec_IsOrder.f k a0 a1) (spec_IsOrder.f (k + 1) a0 a1) := by
 intro a0 a1 k
 unfold spec_IsOrder.f
 repeat' first
   | (with_reducible exact spec_l03Is.mono _ _)
   | (with_reducible exact spec_l03Order.mono _ _ _)
   | (with_reducible exact LeO.refl _)
   | (with_reducible exact LeO.none _)
   | (with_reducible refine LeO.ite ?_ ?_)
   | (with_reducible refine LeO.bind ?_ (fun _ => ?_))
   | exact spec_l03Is.mono _ _
   | exact spec_l03Order.mono _ _ _
   | exact LeO.none _
   | refine LeO.ite ?_ ?_
   | refine LeO.bind ?_ (fun _ => ?_)
set_option maxHeartbeats 8000000 in
set_option maxRecDepth 100000 in
theorem spec_IsOrder.calls (k : Nat) (A0 : Option Addr) (c0 : Nat) (l0 : List (S58)) (A1 : Option Addr) (c1 : Nat) (l1 : List Int) (r : Bool) (w : World) (hr0 : Kd.C k58 w A0 l0.length l0) (hc0 : l0.length ≤ c0) (hr1 : Kd.C (Kd.int .i64) w A1 l1.length l1) (hc1 : l1.length ≤ c1) (h : spec_IsOrder.f k l0 l1 = some r) :
  Calls Try.prog 27 #[.slice A0 l0.length c0, .slice A1 l1.length c1] w fun e w' => e = .returned (.bool r) ∧ Drawn0 w w' := by
 have HR0 := Aside0.mk hr0
 have HC0 := Aside0.mk hc0
 clear hr0 hc0
 have HR1 := Aside0.mk hr1
 have HC1 := Aside0.mk hc1
 clear hr1 hc1
 have H : ((spec_l03Is.f k l0).bind fun t631 => (if t631 = true then ((spec_l03Order.f k l0 l1).bind fun t632 => (some t632)) else (some false))) = some r := h
 clear h
 replace H := Option.bind_eq_some_iff.mp H
 obtain ⟨t631, A30, H⟩ := H
 try dsimp only at H
 have A3 := Aside0.mk A30
 clear A30
 by_cases c4 : t631 = true
 rotate_left
 ·replace c4 := Bool.eq_false_iff.mpr c4
  subst c4
  rw [if_neg (show ¬ (false = true) by decide)] at H
  obtain rfl := Option.some.inj H
  go_enter Try.func27, Try.ntmps27
  go_wp2_with (first | ((with_reducible refine gate_callee (f := 60) rfl ?_); refine goesL_ (some 6) rfl rfl Try.func60 (by kernel_rfl) rfl #[.slice A0 l0.length c0] rfl (by (try simp only [List.map_toArray, List.map_cons, List.map_nil]); first | done | rfl | (simp only [List.length_drop, List.length_take]; rfl)) ?_; (with_reducible refine (spec_l03Is.calls k _ _ l0 false _ ?side1 ?side2 A3.out).mono ?_); (case side1 => repeat (first | exact HR0.out | (with_reducible refine Kd.C_alloc ?_ _) | (with_reducible refine Kd.C_drewN ?_ _) | (with_reducible refine Kd.C_drew ?_))); (case side2 => exact HC0.out); rintro e w' ⟨rfl, ⟨nd, rfl⟩⟩; refine ⟨_, rfl, ?_⟩))
  go_ret
  exact ⟨by first | rfl | (simp; done) | (simp [*]; done), by repeat (first | exact Drawn0.refl _ | apply Drawn0.step)⟩

 subst c4
 rw [if_pos rfl] at H
 replace H := Option.bind_eq_some_iff.mp H
 obtain ⟨t632, A50, H⟩ := H
 try dsimp only at H
 have A5 := Aside0.mk A50
 clear A50
 obtain rfl := Option.some.inj H
 go_enter Try.func27, Try.ntmps27
 go_wp2_with (first | ((with_reducible refine gate_callee (f := 60) rfl ?_); refine goesL_ (some 6) rfl rfl Try.func60 (by kernel_rfl) rfl #[.slice A0 l0.length c0] rfl (by (try simp only [List.map_toArray, List.map_cons, List.map_nil]); first | done | rfl | (simp only [List.length_drop, List.length_take]; rfl)) ?_; (with_reducible refine (spec_l03Is.calls k _ _ l0 true _ ?side1 ?side2 A3.out).mono ?_); (case side1 => repeat (first | exact HR0.out | (with_reducible refine Kd.C_alloc ?_ _) | (with_reducible refine Kd.C_drewN ?_ _) | (with_reducible refine Kd.C_drew ?_))); (case side2 => exact HC0.out); rintro e w' ⟨rfl, ⟨nd, rfl⟩⟩; refine ⟨_, rfl, ?_⟩) | (go_at_call 72; (with_reducible refine (spec_l03Order.calls k _ _ l0 _ _ l1 t632 _ ?side1 ?side2 ?side3 ?side4 A5.out).mono ?_); (case side1 => repeat (first | exact HR0.out | (with_reducible refine Kd.C_alloc ?_ _) | (with_reducible refine Kd.C_drewN ?_ _) | (with_reducible refine Kd.C_drew ?_))); (case side2 => exact HC0.out); (case side3 => repeat (first | exact HR1.out | (with_reducible refine Kd.C_alloc ?_ _) | (with_reducible refine Kd.C_drewN ?_ _) | (with_reducible refine Kd.C_drew ?_))); (case side4 => exact HC1.out); rintro e w' ⟨rfl, ⟨nd, rfl⟩⟩))
 go_ret
 exact ⟨by first | rfl | (simp; done) | (simp [*]; done), by repeat (first | exact Drawn0.refl _ | apply Drawn0.step)⟩
end Go.Proofs.Yteknfebehafbdaa.K
