/- For all arguments the law FnExactListText answers true. No condition. -/
import Derived.Test.YtgaemhbffdlbaaaDoorK1
import Derived.Test.YtgaemhbffdlbaaaDoorK2
import Derived.Test.YtgaemhbffdlbaaaDoorK4
import Derived.Test.YtgaemhbffdlbaaaDoorK5
import Derived.Test.YtgaemhbffdlbaaaDoorV0
import Derived.Test.YtgaemhbffdlbaaaDoorVD
import Derived.Test.YtgaemhbffdlbaaaDoorVL
import Derived.Test.YtgaemhbffdlbaaaDoorV0
import Derived.Test.YtgaemhbffdlbaaaDoorVD
import Derived.Test.YtgaemhbffdlbaaaDoorVL
namespace Go.Proofs.YtgaemhbffdlbaaaDoor.Pure
open Go.RowKit Go.Proofs.YtgaemhbffdlbaaaDoor.K Go.Proofs.YtgaemhbffdlbaaaDoor.V Go.Proofs.YtgaemhbffdlbaaaDoorW.PrintWords Go.Proofs.YtgaemhbffdlbaaaDoorW.PrintLast
set_option linter.unusedVariables false
set_option linter.unusedSimpArgs false

theorem lst_at {l : List Int} (h : lstOk l = true) : l.length ≤ 70 ∧ ∀ j, j < l.length → -1000000000 ≤ rd l (j : Int) ∧ rd l (j : Int) ≤ 1000000000 := by
  unfold lstOk at h
  rw [Bool.and_eq_true, decide_eq_true_iff, List.all_eq_true] at h
  exact ⟨h.1, fun j hj => of_decide_eq_true (h.2 j (List.mem_range.mpr hj))⟩
theorem specList (l : List Int) (h : l.length ≤ 1048576) : Ev (fun k => spec_l01List.f k l) (lstOk l) := by
  unfold spec_l01List.f
  have hin : ∀ n : Int, spec_l00In.f n (-1000000000) 1000000000 = some (decide (-1000000000 ≤ n ∧ n ≤ 1000000000)) := fun n => by
    unfold spec_l00In.f
    by_cases h0 : n ≥ -1000000000
    · rw [if_pos h0]
      exact congrArg some (decide_eq_decide.mpr ⟨fun h1 => ⟨h0, h1⟩, fun h1 => h1.2⟩)
    · rw [if_neg h0, decide_eq_false (fun h1 => h0 h1.1)]
  have := loop_all (L := fun k i => spec_l01List.l0 k l i) l.length (fun j => decide (-1000000000 ≤ rd l (j : Int) ∧ rd l (j : Int) ≤ 1000000000)) (decide (l.length ≤ 70))
    (fun i hi hp r he => Ev.step (fun k => by simp only [spec_l01List.l0]; rw [if_pos (by omega), if_pos (by omega), hin, Option.bind_some, if_pos hp, w1 (by omega)]) he)
    (fun i hi hp => Ev.step (f := fun _ => some false) (fun k => by simp only [spec_l01List.l0]; rw [if_pos (by omega), if_pos (by omega), hin, Option.bind_some, if_neg (by rw [hp]; decide)]) (Ev.now _))
    (Ev.step (f := fun _ => some (decide ((l.length : Int) ≤ 70))) (fun k => by simp only [spec_l01List.l0]; rw [if_neg (by omega)]) (by
      rw [show decide ((l.length : Int) ≤ 70) = decide (l.length ≤ 70) from decide_eq_decide.mpr (by omega)]
      exact Ev.now _))
  unfold lstOk
  rw [Bool.and_comm]
  exact this
/-- The first i numbers' texts, joined. -/
def jn (l : List Int) (i : Nat) : List UInt8 := Lib.join ((l.take i).map Lib.itoa) [44]
theorem take_rd {l : List Int} {i : Nat} (h : i < l.length) : l.take (i + 1) = l.take i ++ [rd l (i : Int)] := by
  rw [List.take_succ_eq_append_getElem h, rd_nat, List.getD_eq_getElem?_getD, List.getElem?_eq_getElem h]; rfl
theorem jn_first {l : List Int} (h : 0 < l.length) : jn l 1 = Lib.itoa (rd l 0) := by
  unfold jn
  have := take_rd h
  rw [show (0 : Nat) + 1 = 1 from rfl] at this
  rw [this, List.take_zero, List.nil_append, List.map_singleton, Lib.join_one]; rfl
theorem jn_next {l : List Int} {i : Nat} (h0 : 0 < i) (h : i < l.length) : jn l (i + 1) = jn l i ++ [44] ++ Lib.itoa (rd l (i : Int)) := by
  unfold jn
  rw [take_rd h, List.map_append, List.map_singleton]
  cases he : l.take i with
  | nil =>
    have := congrArg List.length he
    rw [List.length_take, List.length_nil] at this
    omega
  | cons a r =>
    rw [List.map_cons, List.cons_append, Lib.join_cons, Lib.join_cons]
    simp [Lib.joinTail]
theorem itoa_le {l : List Int} (hv : lstOk l = true) {i : Nat} (h : i < l.length) : (Lib.itoa (rd l (i : Int))).length ≤ 21 := by
  have := (lst_at hv).2 i h
  exact Lib.itoa_length_le _ (by omega) (by omega)
theorem jn_len {l : List Int} (hv : lstOk l = true) : ∀ i, i ≤ l.length → (jn l i).length ≤ 22 * i := by
  intro i
  induction i with
  | zero => intro _; unfold jn; rw [List.take_zero]; exact Nat.le_refl _
  | succ i ih =>
    intro hi
    have h2 := itoa_le hv (i := i) (by omega)
    rcases Nat.eq_zero_or_pos i with rfl | h0
    · rw [jn_first (by omega)]
      have h3 : (Lib.itoa (rd l 0)).length ≤ 21 := h2
      omega
    · rw [jn_next h0 (by omega), List.length_append, List.length_append]
      have := ih (by omega)
      have e : [(44 : UInt8)].length = 1 := rfl
      omega
def txt (l : List Int) : List UInt8 := if l.length = 0 then [110, 111, 110, 101] else jn l l.length
theorem size_mk (l : List UInt8) : (⟨l.toArray⟩ : ByteArray).size = l.length := by simp [ByteArray.size]
theorem mk_append (a b : List UInt8) : (⟨a.toArray⟩ : ByteArray) ++ (⟨b.toArray⟩ : ByteArray) = ⟨(a ++ b).toArray⟩ := by
  apply ByteArray.ext
  rw [ByteArray.data_append]
  simp
theorem specText {l : List Int} (hv : lstOk l = true) : Ev (fun k => spec_l01Text.f k l) ⟨(txt l).toArray⟩ := by
  obtain ⟨h70, hr⟩ := lst_at hv
  unfold spec_l01Text.f txt
  by_cases h0 : l.length = 0
  · rw [if_pos h0]
    exact ev_if (by omega) (Ev.now _)
  rw [if_neg h0]
  refine ev_else (by omega) ?_
  have key : ∀ d i : Nat, i + d = l.length → Ev (fun k => spec_l01Text.l0 k l ⟨(jn l i).toArray⟩ (i : Int)) ⟨(jn l l.length).toArray⟩ := by
    intro d
    induction d with
    | zero =>
      intro i hi
      obtain rfl : i = l.length := by omega
      refine Ev.step (f := fun _ => some ⟨(jn l l.length).toArray⟩) (fun k => ?_) (Ev.now _)
      simp only [spec_l01Text.l0]
      rw [if_neg (by omega)]
    | succ d ih =>
      intro i hi
      have hd := dec (rd l (i : Int)) (by have := hr i (by omega); omega) (by have := hr i (by omega); omega)
      have hl := jn_len hv i (by omega)
      have ht := itoa_le hv (i := i) (by omega)
      rcases Nat.eq_zero_or_pos i with rfl | hp
      · refine Ev.step (f := fun k => (spec_l01Dec.f k (rd l ((0 : Nat) : Int))).bind fun t => if (⟨(jn l 0).toArray⟩ : ByteArray).size + t.size ≤ 9223372036854775807 then spec_l01Text.l0 k l ((⟨(jn l 0).toArray⟩ : ByteArray) ++ t) ((0 + 1 : Nat) : Int) else none) (fun k => ?_) (Ev.bind hd ?_)
        · simp only [spec_l01Text.l0]
          rw [if_pos (by omega), if_neg (by omega), if_pos (by omega), w1 (by omega)]
        · refine ev_if (by rw [size_mk, size_mk]; omega) ?_
          have e : (⟨(jn l 0).toArray⟩ : ByteArray) ++ (⟨(Lib.itoa (rd l ((0 : Nat) : Int))).toArray⟩ : ByteArray) = ⟨(jn l (0 + 1)).toArray⟩ := by
            rw [mk_append, show (0 : Nat) + 1 = 1 from rfl, jn_first (by omega)]; rfl
          rw [e]
          exact ih 1 (by omega)
      · refine Ev.step (f := fun k => (spec_l01Dec.f k (rd l (i : Int))).bind fun t => if ((⟨(jn l i).toArray⟩ : ByteArray) ++ (⟨#[44]⟩ : ByteArray)).size + t.size ≤ 9223372036854775807 then spec_l01Text.l0 k l (((⟨(jn l i).toArray⟩ : ByteArray) ++ (⟨#[44]⟩ : ByteArray)) ++ t) ((i + 1 : Nat) : Int) else none) (fun k => ?_) (Ev.bind hd ?_)
        · simp only [spec_l01Text.l0]
          rw [if_pos (by omega), if_pos (by omega), if_pos (by rw [size_mk]; omega), if_pos (by omega), w1 (by omega)]
        · have e1 : (⟨(jn l i).toArray⟩ : ByteArray) ++ (⟨#[44]⟩ : ByteArray) = ⟨(jn l i ++ [44]).toArray⟩ := mk_append (jn l i) [44]
          rw [e1]
          refine ev_if (by rw [size_mk, size_mk, List.length_append]; have e : [(44 : UInt8)].length = 1 := rfl; omega) ?_
          rw [mk_append, ← jn_next hp (by omega)]
          exact ih (i + 1) (by omega)
  have := key l.length 0 (by omega)
  exact this
theorem implText {l : List Int} (hv : lstOk l = true) : Ev (fun k => impl_listText.f k l) ⟨(txt l).toArray⟩ := by
  obtain ⟨h70, hr⟩ := lst_at hv
  unfold impl_listText.f txt
  by_cases h0 : l.length = 0
  · rw [if_pos h0]
    exact ev_if (by omega) (Ev.now _)
  rw [if_neg h0]
  refine ev_else (by omega) ?_
  have hm : ∀ i, (((l.take i).map fun n => (⟨(Lib.itoa n).toArray⟩ : ByteArray)).map fun b => b.data.toList) = (l.take i).map Lib.itoa := fun i => by
    rw [List.map_map]; congr 1
  have key : ∀ d i : Nat, i + d = l.length → Ev (fun k => impl_listText.l0 k ((l.take i).map fun n => (⟨(Lib.itoa n).toArray⟩ : ByteArray)) l (l.length : Int) (i : Int)) ⟨(jn l l.length).toArray⟩ := by
    intro d
    induction d with
    | zero =>
      intro i hi
      obtain rfl : i = l.length := by omega
      have hjl := jn_len hv l.length (Nat.le_refl _)
      refine Ev.step (f := fun _ => some ⟨(jn l l.length).toArray⟩) (fun k => ?_) (Ev.now _)
      simp only [impl_listText.l0]
      rw [if_neg (by omega), hm]
      refine (if_pos ⟨?_, ?_⟩).trans rfl
      · rw [List.length_map, List.length_take]; omega
      · exact (show (jn l l.length).length ≤ 140737488355328 by omega)
    | succ d ih =>
      intro i hi
      have hb := hr i (by omega)
      refine Ev.step (f := fun k => impl_listText.l0 k ((l.take (i + 1)).map fun n => (⟨(Lib.itoa n).toArray⟩ : ByteArray)) l (l.length : Int) ((i + 1 : Nat) : Int)) (fun k => ?_) (ih (i + 1) (by omega))
      simp only [impl_listText.l0]
      rw [if_pos (by omega), if_pos (by omega), if_pos (by omega)]
      unfold impl_Decimal.f
      rw [if_pos ⟨by omega, by omega⟩, Option.bind_some, if_pos (by rw [List.length_map, List.length_take]; omega), w1 (by omega), take_rd (by omega), List.map_append, List.map_singleton]
  have := key l.length 0 (by omega)
  exact this
theorem FnExactListText : laws_FnExactListText.Pure := by
  intro l _ _ _
  refine Ev.rounds (g := fun k => laws_FnExactListText.f k l) ?_
  unfold laws_FnExactListText.f
  by_cases h : (l.length : Int) > 1048576
  · exact ev_if h (Ev.now _)
  refine ev_else h ?_
  have hl : l.length ≤ 1048576 := by omega
  have hend : Ev (fun k => laws_FnExactListText.j0 k l l false) true := by
    refine Ev.step (f := fun k => (laws_toInt64S.f k l).bind fun t => ((laws_eqInt64S.f k l t).bind fun u => (if u = true then (some true) else (some false)))) (fun k => ?_) (Ev.bind (toInt l hl) (Ev.bind (eqSame l hl) (ev_if rfl (Ev.now _))))
    simp only [laws_FnExactListText.j0]
    rw [if_neg (by simp)]
  cases hv : lstOk l with
  | true =>
    have hs : Ev (fun k => spec_ListText.f k l) (⟨(txt l).toArray⟩, true) := by
      unfold spec_ListText.f
      exact Ev.bind (specList l hl) (ev_if hv (Ev.bind (specText hv) (Ev.now _)))
    have hi : Ev (fun k => impl_ListText.f k l) (⟨(txt l).toArray⟩, true) := by
      unfold impl_ListText.f impl_isList.f
      exact ev_some (ev_if hv (Ev.bind (implText hv) (Ev.now _)))
    exact Ev.bind (toInt l hl) (Ev.bind hs (Ev.bind (toInt l hl) (Ev.bind hi (ev_if rfl hend))))
  | false =>
    have hs : Ev (fun k => spec_ListText.f k l) ((⟨#[]⟩ : ByteArray), false) := by
      unfold spec_ListText.f
      exact Ev.bind (specList l hl) (ev_else (by rw [hv]; decide) (Ev.now _))
    have hi : Ev (fun k => impl_ListText.f k l) ((⟨#[]⟩ : ByteArray), false) := by
      unfold impl_ListText.f impl_isList.f
      exact ev_some (ev_else (by rw [hv]; decide) (Ev.now _))
    exact Ev.bind (toInt l hl) (Ev.bind hs (Ev.bind (toInt l hl) (Ev.bind hi (ev_if rfl hend))))
end Go.Proofs.YtgaemhbffdlbaaaDoor.Pure
