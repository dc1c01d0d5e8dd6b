/- For all arguments the law FnExactReadList answers true. No condition. -/
import Derived.Test.YtgaemhbffdlbaaaDoorK3
import Derived.Test.YtgaemhbffdlbaaaDoorK6
import Derived.Test.YtgaemhbffdlbaaaDoorK7
import Derived.Test.YtgaemhbffdlbaaaDoorV0
import Derived.Test.YtgaemhbffdlbaaaDoorVC
import Derived.Test.YtgaemhbffdlbaaaDoorVL
import Derived.Test.YtgaemhbffdlbaaaDoorVV
import Derived.Test.YtgaemhbffdlbaaaDoorV0
import Derived.Test.YtgaemhbffdlbaaaDoorVV
import Derived.Test.YtgaemhbffdlbaaaDoorVL
import Derived.Test.YtgaemhbffdlbaaaDoorVM
import Derived.Test.YtgaemhbffdlbaaaDoorVC
namespace Go.Proofs.YtgaemhbffdlbaaaDoor.Pure
open Go.RowKit Go.Proofs.YtgaemhbffdlbaaaDoor.K Go.Proofs.YtgaemhbffdlbaaaDoor.V Go.Proofs.YtgaemhbffdlbaaaDoorW.PrintWords Go.Proofs.YtgaemhbffdlbaaaDoorW.PrintLast
set_option linter.unusedVariables false
set_option linter.unusedSimpArgs false

/-- The values of parts, if all are values and they are few. -/
def vals (ps : List (List UInt8)) : List Int × Bool := if ps.length ≤ 70 ∧ ∀ p ∈ ps, (valD p).2 = true then (ps.map fun p => (valD p).1, true) else ([], false)
theorem rdOf_cast (l : List ByteArray) (i : Nat) : rdOf ByteArray.empty l (i : Int) = l.getD i ByteArray.empty := by unfold rdOf; rw [Int.toNat_natCast]
theorem getD_data {X : List ByteArray} {i : Nat} (h : i < X.length) : (X.getD i ByteArray.empty).data.toList = (X.map (·.data.toList))[i]'(by simpa using h) := by
  rw [List.getD_eq_getElem?_getD, List.getElem?_eq_getElem h, List.getElem_map]; rfl
theorem specNums (X : List ByteArray) (ps : List (List UInt8)) (hX : X.map (·.data.toList) = ps) (h70 : ps.length ≤ 70) : Ev (fun k => spec_l01Numbers.l0 k [] X 0) (vals ps) := by
  have hl : X.length = ps.length := by rw [← hX, List.length_map]
  have hp : ∀ i (h : i < ps.length), (X.getD i ByteArray.empty).data.toList = ps[i] := fun i h => by
    have := getD_data (X := X) (i := i) (by omega)
    simp only [hX] at this
    exact this
  have key : ∀ d i : Nat, i + d = ps.length → (∀ j (h : j < ps.length), j < i → (valD ps[j]).2 = true) → Ev (fun k => spec_l01Numbers.l0 k ((ps.take i).map fun p => (valD p).1) X (i : Int)) (vals ps) := by
    intro d
    induction d with
    | zero =>
      intro i hi hall
      obtain rfl : i = ps.length := by omega
      have e : vals ps = (ps.map fun p => (valD p).1, true) := by
        unfold vals
        rw [if_pos ⟨h70, fun p hm => by
          obtain ⟨j, hj, rfl⟩ := List.getElem_of_mem hm
          exact hall j hj hj⟩]
      rw [e, List.take_length]
      refine Ev.step (f := fun _ => some (ps.map fun p => (valD p).1, true)) (fun k => ?_) (Ev.now _)
      simp only [spec_l01Numbers.l0]
      rw [if_neg (by omega)]
    | succ d ih =>
      intro i hi hall
      have hil : i < ps.length := by omega
      have hv := specValue (X.getD i ByteArray.empty)
      rw [hp i hil] at hv
      have st : ∀ k, spec_l01Numbers.l0 (k + 1) ((ps.take i).map fun p => (valD p).1) X (i : Int) = (spec_l01Value.f k (X.getD i ByteArray.empty)).bind fun b => (if b.2 = true then (if ((ps.take i).map fun p => (valD p).1).length < 17592186044416 then (spec_l01Numbers.l0 k (((ps.take i).map fun p => (valD p).1) ++ [b.1]) X ((i + 1 : Nat) : Int)) else (none)) else (some (([] : List Int), false))) := fun k => by
        simp only [spec_l01Numbers.l0]
        rw [if_pos (by omega), if_pos (by omega), rdOf_cast, w1 (by omega)]
      by_cases hc : (valD ps[i]).2 = true
      · refine Ev.step st (Ev.bind hv (ev_if hc (ev_if (by rw [List.length_map, List.length_take]; omega) ?_)))
        have e : ((ps.take i).map fun p => (valD p).1) ++ [(valD ps[i]).1] = (ps.take (i + 1)).map fun p => (valD p).1 := by
          rw [List.take_succ_eq_append_getElem hil, List.map_append, List.map_singleton]
        rw [e]
        exact ih (i + 1) (by omega) (fun j hj hji => by
          rcases Nat.lt_or_ge j i with h | h
          · exact hall j hj h
          · obtain rfl : j = i := by omega
            exact hc)
      · have e : vals ps = ([], false) := by
          unfold vals
          rw [if_neg (fun h => hc (h.2 _ (List.getElem_mem hil)))]
        rw [e]
        exact Ev.step st (Ev.bind hv (ev_else hc (Ev.now _)))
  have := key ps.length 0 (by omega) (fun j _ h => absurd h (by omega))
  exact this
theorem implNums (X : List ByteArray) (ps : List (List UInt8)) (hX : X.map (·.data.toList) = ps) (hn : ps.length ≤ 1048577) (hsz : ∀ p ∈ ps, p.length ≤ 1048576) : Ev (fun k => impl_ReadList.l0 k [] X (X.length : Int) 0) (vals ps) := by
  have hl : X.length = ps.length := by rw [← hX, List.length_map]
  have hp : ∀ i (h : i < ps.length), (X.getD i ByteArray.empty).data.toList = ps[i] := fun i h => by
    have := getD_data (X := X) (i := i) (by omega)
    simp only [hX] at this
    exact this
  have hval : ∀ i (h : i < ps.length) (k : Nat), impl_ReadDecimal.f k (X.getD i ByteArray.empty) = some (valD ps[i]) := fun i h k => by
    unfold impl_ReadDecimal.f
    have hs : (X.getD i ByteArray.empty).size ≤ 1048576 := by
      have := hsz _ (List.getElem_mem h)
      rw [← hp i h] at this
      simpa using this
    rw [if_pos hs, hp i h]
  have key : ∀ d i : Nat, i + d = ps.length → i ≤ 70 → (∀ j (h : j < ps.length), j < i → (valD ps[j]).2 = true) → Ev (fun k => impl_ReadList.l0 k ((ps.take i).map fun p => (valD p).1) X (X.length : Int) (i : Int)) (vals ps) := by
    intro d
    induction d with
    | zero =>
      intro i hi h70 hall
      obtain rfl : i = ps.length := by omega
      have e : vals ps = (ps.map fun p => (valD p).1, true) := by
        unfold vals
        rw [if_pos ⟨h70, fun p hm => by
          obtain ⟨j, hj, rfl⟩ := List.getElem_of_mem hm
          exact hall j hj hj⟩]
      rw [e, List.take_length]
      refine Ev.step (f := fun _ => some (ps.map fun p => (valD p).1, true)) (fun k => ?_) (Ev.now _)
      simp only [impl_ReadList.l0]
      rw [if_neg (by omega)]
    | succ d ih =>
      intro i hi h70 hall
      have hil : i < ps.length := by omega
      have hlen : ((ps.take i).map fun p => (valD p).1).length = i := by rw [List.length_map, List.length_take]; omega
      have st : ∀ k, impl_ReadList.l0 (k + 1) ((ps.take i).map fun p => (valD p).1) X (X.length : Int) (i : Int) = (if (valD ps[i]).2 = true then (if (((ps.take i).map fun p => (valD p).1).length : Int) = 70 then (some (([] : List Int), false)) else (if ((ps.take i).map fun p => (valD p).1).length < 17592186044416 then (impl_ReadList.l0 k (((ps.take i).map fun p => (valD p).1) ++ [(valD ps[i]).1]) X (X.length : Int) ((i + 1 : Nat) : Int)) else (none))) else (some (([] : List Int), false))) := fun k => by
        simp only [impl_ReadList.l0]
        rw [if_pos (by omega), if_pos (by omega), if_pos (by omega), rdOf_cast, hval i hil k, Option.bind_some, w1 (by omega)]
      by_cases hc : (valD ps[i]).2 = true
      · by_cases h70' : i = 70
        · have e : vals ps = ([], false) := by
            unfold vals
            rw [if_neg (fun h => by omega)]
          rw [e]
          refine Ev.step (f := fun _ => some (([] : List Int), false)) (fun k => ?_) (Ev.now _)
          rw [st, if_pos hc, if_pos (by rw [hlen]; omega)]
        · refine Ev.step (f := fun k => impl_ReadList.l0 k (((ps.take i).map fun p => (valD p).1) ++ [(valD ps[i]).1]) X (X.length : Int) ((i + 1 : Nat) : Int)) (fun k => ?_) ?_
          · rw [st, if_pos hc, if_neg (by rw [hlen]; omega), if_pos (by rw [hlen]; omega)]
          · have e : ((ps.take i).map fun p => (valD p).1) ++ [(valD ps[i]).1] = (ps.take (i + 1)).map fun p => (valD p).1 := by
              rw [List.take_succ_eq_append_getElem hil, List.map_append, List.map_singleton]
            rw [e]
            exact ih (i + 1) (by omega) (by omega) (fun j hj hji => by
              rcases Nat.lt_or_ge j i with h | h
              · exact hall j hj h
              · obtain rfl : j = i := by omega
                exact hc)
      · have e : vals ps = ([], false) := by
          unfold vals
          rw [if_neg (fun h => hc (h.2 _ (List.getElem_mem hil)))]
        rw [e]
        refine Ev.step (f := fun _ => some (([] : List Int), false)) (fun k => ?_) (Ev.now _)
        rw [st, if_neg hc]
  have := key ps.length 0 (by omega) (by omega) (fun j _ h => absurd h (by omega))
  exact this
theorem glue_sum {b : UInt8} {r : List UInt8} (hb : b ≠ 44) : ct (b :: r) = glue [b] (ct r) := by
  have := glue_other hb [] r
  rwa [glue_nil] at this
theorem ct_part : ∀ (l : List UInt8), ∀ p ∈ ct l, p.length ≤ l.length
  | [], p, h => by
    have : p = [] := by simpa [ct] using h
    rw [this]; exact Nat.le_refl _
  | b :: r, p, h => by
    have ih := ct_part r
    by_cases hb : b = 44
    · subst hb
      rw [ct_comma, List.mem_cons] at h
      rcases h with rfl | h
      · exact Nat.zero_le _
      · have := ih p h
        rw [List.length_cons]; omega
    · rw [glue_sum hb] at h
      cases hc : ct r with
      | nil => exact absurd hc (ct_ne r)
      | cons x xs =>
        rw [hc] at h ih
        unfold glue at h
        rw [List.mem_cons] at h
        rcases h with rfl | h
        · have := ih x (List.mem_cons_self ..)
          simp only [List.length_append, List.length_cons, List.length_nil]; omega
        · have := ih p (List.mem_cons_of_mem _ h)
          rw [List.length_cons]; omega
theorem ne_self (b : Bool) : ¬ (b != b) = true := by simp
theorem both (s : ByteArray) (hs : s.size ≤ 1048576) : ∃ (o : List Int) (ok : Bool), o.length ≤ 70 ∧ Ev (fun k => spec_ReadList.f k s) (o, ok) ∧ Ev (fun k => impl_ReadList.f k s) (o, ok) := by
  by_cases hn : s.toList = ([110, 111, 110, 101] : List UInt8)
  · refine ⟨[], true, by decide, ?_, ?_⟩
    · unfold spec_ReadList.f spec_l01Numbers.f
      exact Ev.bind (ev_some (ev_if hn (Ev.now _))) (Ev.now _)
    · unfold impl_ReadList.f
      exact ev_if hn (Ev.now _)
  · obtain ⟨X, hX, hE⟩ := specCut s hs
    have hsz : s.data.toList.length = s.size := by simp
    have hcl := ct_len s.data.toList
    have hXl : X.length = (ct s.data.toList).length := by rw [← hX, List.length_map]
    have hol : (vals (ct s.data.toList)).1.length ≤ 70 := by
      unfold vals
      split
      · rename_i h
        rw [List.length_map]; exact h.1
      · decide
    refine ⟨(vals (ct s.data.toList)).1, (vals (ct s.data.toList)).2, hol, ?_, ?_⟩
    · unfold spec_ReadList.f spec_l01Numbers.f
      refine Ev.bind (a := vals (ct s.data.toList)) (ev_some (ev_else hn (Ev.bind hE ?_))) (Ev.now _)
      by_cases h70 : (X.length : Int) > 70
      · have e : vals (ct s.data.toList) = ([], false) := by
          unfold vals
          rw [if_neg (fun h => by omega)]
        rw [e]
        exact ev_if h70 (Ev.now _)
      · exact ev_else h70 (specNums X _ hX (by omega))
    · unfold impl_ReadList.f
      have hsp : strings_Split.f s (⟨#[44]⟩ : ByteArray) = some (Lib.splitB comma 0 (Lib.countB s comma) s) := by
        unfold strings_Split.f
        rw [if_pos ⟨hs, by decide⟩]; rfl
      refine ev_else hn (ev_eq hsp ?_)
      exact implNums _ _ (split_ct s) (by omega) (fun p hp => by have := ct_part _ p hp; omega)
theorem FnExactReadList : laws_FnExactReadList.Pure := by
  intro a0 hw
  refine Ev.rounds (g := fun k => laws_FnExactReadList.f k a0) ?_
  unfold laws_FnExactReadList.f
  by_cases hs : (a0.size : Int) > 1048576
  · exact ev_if hs (Ev.now _)
  obtain ⟨o, ok, ho, h1, h2⟩ := both a0 (by omega)
  have hol : o.length ≤ 1048576 := by omega
  refine ev_else hs (Ev.bind h1 (Ev.bind h2 (Ev.bind (eqSame o hol) (ev_if rfl ?_))))
  refine Ev.step (fun k => by rw [laws_FnExactReadList.j0]) ?_
  refine ev_else (ne_self ok) (Ev.bind (V.mark o 1 hol (by omega)) (Ev.bind (V.held o.length 1 hol (by omega)) (ev_else (by show ¬ (1 + (o.length : Int) < 0); omega) (ev_if rfl (Ev.bind h2 (Ev.bind (eqSame o hol) (ev_if rfl ?_)))))))
  refine Ev.step (fun k => by rw [laws_FnExactReadList.j1]) ?_
  exact ev_else (ne_self ok) (Ev.bind (V.held o.length 1 hol (by omega)) (ev_else (by show ¬ (1 + (o.length : Int) < 0); omega) (ev_if rfl (Ev.now _))))
end Go.Proofs.YtgaemhbffdlbaaaDoor.Pure
