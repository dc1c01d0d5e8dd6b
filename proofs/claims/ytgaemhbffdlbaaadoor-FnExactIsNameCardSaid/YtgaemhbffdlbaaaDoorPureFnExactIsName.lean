/- For all arguments the law FnExactIsName answers true. No condition. -/
import Derived.Test.YtgaemhbffdlbaaaDoorK2
import Derived.Test.YtgaemhbffdlbaaaDoorK3
import Derived.Test.YtgaemhbffdlbaaaDoorV0
namespace Go.Proofs.YtgaemhbffdlbaaaDoor.Pure
open Go.RowKit Go.Proofs.YtgaemhbffdlbaaaDoor.K Go.Proofs.YtgaemhbffdlbaaaDoor.V Go.Proofs.YtgaemhbffdlbaaaDoorW.PrintWords Go.Proofs.YtgaemhbffdlbaaaDoorW.PrintLast
set_option linter.unusedVariables false
set_option linter.unusedSimpArgs false

theorem az_is : ∀ n : Nat, n < 256 → az.contains (UInt8.ofNat n) = decide (97 ≤ n ∧ n ≤ 122) := by decide +kernel
theorem az_at (b : UInt8) : az.contains b = decide (97 ≤ b.toNat ∧ b.toNat ≤ 122) := by
  have := az_is b.toNat b.toNat_lt
  rwa [UInt8.ofNat_toNat] at this
theorem mem_drop {p : UInt8 → Bool} {b : UInt8} (hb : p b = false) : ∀ {l : List UInt8}, b ∈ l → b ∈ l.dropWhile p
  | a :: r, h => by
    rw [List.dropWhile_cons]
    split
    · rename_i ha
      rcases List.mem_cons.mp h with rfl | h
      · rw [hb] at ha; cases ha
      · exact mem_drop hb h
    · exact h
theorem drop_all {p : UInt8 → Bool} : ∀ {l : List UInt8}, (∀ b ∈ l, p b = true) → l.dropWhile p = []
  | [], _ => rfl
  | a :: r, h => by
    rw [List.dropWhile_cons, if_pos (h a (List.mem_cons_self ..))]
    exact drop_all fun b hb => h b (List.mem_cons_of_mem _ hb)
theorem trim_all {l : List UInt8} (h : ∀ b ∈ l, az.contains b = true) : (Lib.trimS l az).isEmpty = true := by
  have e : Lib.trimRightS l az = [] := by
    unfold Lib.trimRightS
    rw [drop_all (p := (az.contains ·)) (fun b hb => h b (List.mem_reverse.mp hb))]; rfl
  unfold Lib.trimS
  rw [e]; rfl
theorem trim_some {l : List UInt8} {b : UInt8} (hm : b ∈ l) (h : az.contains b = false) : (Lib.trimS l az).isEmpty = false := by
  have h1 : b ∈ Lib.trimRightS l az := by
    unfold Lib.trimRightS
    exact List.mem_reverse.mpr (mem_drop (p := (az.contains ·)) h (List.mem_reverse.mpr hm))
  have h2 : b ∈ Lib.trimS l az := by
    unfold Lib.trimS Lib.trimLeftS
    exact mem_drop (p := (az.contains ·)) h h1
  cases e : Lib.trimS l az with
  | nil => rw [e] at h2; cases h2
  | cons _ _ => rfl
theorem bt_cast {s : ByteArray} {i : Nat} (h : i < s.size) : bt s (i : Int) = ((s.data.toList[i]'(by simpa using h)).toNat : Int) := by
  unfold bt
  rw [dif_pos (by simpa using h)]
  simp
  rfl
theorem FnExactIsName : laws_FnExactIsName.Pure := by
  intro a0 hw
  refine Ev.rounds (g := fun k => laws_FnExactIsName.f k a0) ?_
  unfold laws_FnExactIsName.f
  by_cases hs : (a0.size : Int) > 1048576
  · exact ev_if hs (Ev.now _)
  have hsz : a0.data.toList.length = a0.size := by simp
  refine ev_else hs (Ev.bind (a := decide (1 ≤ a0.size ∧ a0.size ≤ 8) && (Lib.trimS a0.data.toList az).isEmpty) ?_ ?_)
  · unfold spec_IsName.f
    have key : ∀ d i : Nat, i + d = a0.size → (∀ j (h : j < a0.data.toList.length), j < i → az.contains a0.data.toList[j] = true) → Ev (fun k => spec_IsName.l0 k a0 (i : Int)) (decide (1 ≤ a0.size ∧ a0.size ≤ 8) && (Lib.trimS a0.data.toList az).isEmpty) := by
      intro d
      induction d with
      | zero =>
        intro i hi hall
        have : (Lib.trimS a0.data.toList az).isEmpty = true := trim_all (fun b hb => by
          obtain ⟨j, hj, rfl⟩ := List.getElem_of_mem hb
          exact hall j hj (by omega))
        rw [this, Bool.and_true]
        by_cases h1 : (a0.size : Int) ≥ 1
        · refine Ev.step (f := fun _ => some (decide ((a0.size : Int) ≤ 8))) (fun k => ?_) ?_
          · simp only [spec_IsName.l0]
            rw [if_neg (by omega), if_pos h1]
          · rw [show decide (1 ≤ a0.size ∧ a0.size ≤ 8) = decide ((a0.size : Int) ≤ 8) from decide_eq_decide.mpr (by omega)]
            exact Ev.now _
        · refine Ev.step (f := fun _ => some false) (fun k => ?_) ?_
          · simp only [spec_IsName.l0]
            rw [if_neg (by omega), if_neg h1]
          · rw [decide_eq_false (by omega)]; exact Ev.now _
      | succ d ih =>
        intro i hi hall
        have hil : i < a0.data.toList.length := by omega
        have hb := bt_cast (s := a0) (i := i) (by omega)
        have haz := az_at a0.data.toList[i]
        by_cases hc : az.contains a0.data.toList[i] = true
        · rw [haz, decide_eq_true_iff] at hc
          refine Ev.step (f := fun k => spec_IsName.l0 k a0 ((i + 1 : Nat) : Int)) (fun k => ?_) (ih (i + 1) (by omega) (fun j hj hji => ?_))
          · simp only [spec_IsName.l0]
            rw [if_pos (by omega), if_pos (by omega), hb, if_neg (by omega), if_neg (by omega), w1 (by omega)]
          · rcases Nat.lt_or_ge j i with h | h
            · exact hall j hj h
            · obtain rfl : j = i := by omega
              rw [haz, decide_eq_true_iff]; exact hc
        · rw [Bool.not_eq_true] at hc
          rw [trim_some (List.getElem_mem hil) hc, Bool.and_false]
          rw [haz, decide_eq_false_iff_not] at hc
          refine Ev.step (f := fun _ => some false) (fun k => ?_) (Ev.now _)
          simp only [spec_IsName.l0]
          rw [if_pos (by omega), if_pos (by omega), hb]
          by_cases h9 : ((a0.data.toList[i]).toNat : Int) < 97
          · rw [if_pos h9]
          · rw [if_neg h9, if_pos (by omega)]
    exact key a0.size 0 (by omega) (fun j _ h => absurd h (by omega))
  · unfold impl_IsName.f
    refine ev_eq (if_pos (by omega)) (ev_else (by simp) (Ev.now _))
end Go.Proofs.YtgaemhbffdlbaaaDoor.Pure
