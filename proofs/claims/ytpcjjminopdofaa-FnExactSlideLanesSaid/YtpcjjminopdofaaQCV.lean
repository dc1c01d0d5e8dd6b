/- Plain theorems of this claim. Their conditions stand with each. -/
import Derived.Test.YtpcjjminopdofaaB0
import Derived.Test.YtpcjjminopdofaaK0
import Derived.Test.YtpcjjminopdofaaQC0
namespace Go.Proofs.Ytpcjjminopdofaa.V
open Go.RowKit Go.Proofs.Ytpcjjminopdofaa.K Go.Proofs.Ytpcjjminopdofaa.Bx Go.Proofs.YtpcjjminopdofaaW.PrintWords Go.Proofs.YtpcjjminopdofaaW.PrintLast
set_option linter.unusedVariables false
set_option linter.unusedSimpArgs false

theorem ev_if {α : Type} {c : Prop} [Decidable c] {g f : Nat → Option α} {r : α} (h : c) (k : Ev g r) : Ev (fun n => if c then g n else f n) r := Ev.congr (fun n => if_pos h) k
theorem ev_else {α : Type} {c : Prop} [Decidable c] {g f : Nat → Option α} {r : α} (h : ¬ c) (k : Ev f r) : Ev (fun n => if c then g n else f n) r := Ev.congr (fun n => if_neg h) k
theorem ev_eq {α β : Type} {g : Option α} {a : α} {f : Nat → α → Option β} {r : β} (h : g = some a) (k : Ev (fun n => f n a) r) : Ev (fun n => g.bind (f n)) r := by rw [h]; exact k
theorem w1 {i : Nat} (h : i < 2000000) : wrap64 ((i : Int) + 1) = ((i + 1 : Nat) : Int) := by unfold wrap64; omega
/-- Rounds that test one place each. -/
theorem loop_all {L : Nat → Int → Option Bool} (n : Nat) (p : Nat → Bool) (b : Bool)
    (hs : ∀ i : Nat, i < n → p i = true → ∀ r, Ev (fun k => L k ((i + 1 : Nat) : Int)) r → Ev (fun k => L k (i : Int)) r)
    (hf : ∀ i : Nat, i < n → p i = false → Ev (fun k => L k (i : Int)) false)
    (he : Ev (fun k => L k (n : Int)) b) : Ev (fun k => L k 0) ((List.range n).all p && b) := by
  have key : ∀ d i : Nat, i + d = n → Ev (fun k => L k (i : Int)) (((List.range d).all fun j => p (i + j)) && b) := by
    intro d
    induction d with
    | zero => intro i hi; obtain rfl : i = n := by omega
              simpa using he
    | succ d ih =>
      intro i hi
      cases h : p i with
      | false =>
        have : ((List.range (d + 1)).all fun j => p (i + j)) = false := by
          rw [List.all_eq_false]
          exact ⟨0, by simp, by simp [h]⟩
        rw [this]
        exact hf i (by omega) h
      | true =>
        refine hs i (by omega) h _ ?_
        have e : ((List.range (d + 1)).all fun j => p (i + j)) = ((List.range d).all fun j => p (i + 1 + j)) := by
          rw [Bool.eq_iff_iff]
          simp only [List.all_eq_true, List.mem_range]
          refine ⟨fun hh j hj => ?_, fun hh j hj => ?_⟩
          · have := hh (j + 1) (by omega)
            rwa [show i + (j + 1) = i + 1 + j by omega] at this
          · cases j with
            | zero => exact h
            | succ j =>
              have := hh j (by omega)
              rwa [show i + (j + 1) = i + 1 + j by omega]
        rw [e]
        exact ih (i + 1) (by omega)
  have := key n 0 (by omega)
  simpa using this
theorem rd_nat (l : List Int) (i : Nat) : rd l (i : Int) = l.getD i 0 := by unfold rd; rw [Int.toNat_natCast]
theorem rd_map {F : Nat → Int} {n i : Nat} (h : i < n) : rd ((List.range n).map F) (i : Int) = F i := by
  rw [rd_nat, List.getD_eq_getElem?_getD, List.getElem?_map, List.getElem?_range h]; rfl
theorem toInt (l : List Int) (h : l.length ≤ 1048576) : Ev (fun k => laws_toInt64S.f k l) l := by
  unfold laws_toInt64S.f
  refine ev_if (by omega) (ev_if (by omega) ?_)
  have key : ∀ d i : Nat, i + d = l.length → ∀ t : List Int, t = l.take i ++ List.replicate d 0 → Ev (fun k => laws_toInt64S.l0 k l t (i : Int)) l := by
    intro d
    induction d with
    | zero =>
      intro i hi t ht
      refine ⟨1, fun k hk => ?_⟩
      obtain ⟨k, rfl⟩ : ∃ m, k = m + 1 := ⟨k - 1, by omega⟩
      simp only [laws_toInt64S.l0]
      rw [if_neg (by omega), ht, List.take_of_length_le (by omega)]; simp
    | succ d ih =>
      intro i hi t ht
      have hl : t.length = l.length := by rw [ht]; simp; omega
      refine Ev.step (f := fun k => laws_toInt64S.l0 k l (t.set i (rd l (i : Int))) ((i + 1 : Nat) : Int)) (fun k => ?_) (ih (i + 1) (by omega) _ ?_)
      · simp only [laws_toInt64S.l0]
        rw [if_pos (by omega), if_pos (by omega), if_pos (by omega), w1 (by omega), Int.toNat_natCast]
      · rw [ht, List.set_append, if_neg (by simp; omega)]
        have e1 : i - (l.take i).length = 0 := by simp; omega
        rw [e1, List.replicate_succ, List.set_cons_zero, rd_nat, List.take_add_one, List.append_assoc]
        rw [List.getElem?_eq_getElem (by omega), List.getD_eq_getElem?_getD, List.getElem?_eq_getElem (by omega)]
        rfl
  have := key l.length 0 (by omega) (List.replicate l.length 0) (by simp)
  simpa using this
theorem eqSame (l : List Int) (h : l.length ≤ 1048576) : Ev (fun k => laws_eqInt64S.f k l l) true := by
  unfold laws_eqInt64S.f
  refine ev_if rfl ?_
  have := loop_all (L := fun k i => laws_eqInt64S.l0 k l l i) l.length (fun _ => true) true
    (fun i hi _ r he => Ev.step (fun k => by simp only [laws_eqInt64S.l0]; rw [if_pos (by omega), if_pos (by omega), if_pos (by omega), if_pos trivial, w1 (by omega)]) he)
    (fun i hi hp => by cases hp)
    ⟨1, fun k hk => by
      obtain ⟨k, rfl⟩ : ∃ m, k = m + 1 := ⟨k - 1, by omega⟩
      simp only [laws_eqInt64S.l0]; rw [if_neg (by omega)]⟩
  have e : ((List.range l.length).all fun _ => true) = true := List.all_eq_true.mpr fun _ _ => rfl
  rw [e] at this
  exact this
theorem sIn (n lo hi : Int) : spec_l00In.f n lo hi = some (decide (lo ≤ n ∧ n ≤ hi)) := by
  unfold spec_l00In.f
  by_cases h : n ≥ lo
  · rw [if_pos h]; congr 1; simp; omega
  · rw [if_neg h]; congr 1; simp; omega
theorem sBits (b : Int) : spec_l01Bits.f b = some (decide (Bits b)) := by
  unfold spec_l01Bits.f Bits
  by_cases h : b = 4
  · simp [h]
  · by_cases h8 : b = 8
    · simp [h8]
    · simp only [if_neg h, if_neg h8]; congr 1
      by_cases h16 : b = 16 <;> simp [h, h8, h16]
theorem sWord (b x : Int) : spec_l01Word.f b x = some (decide (Word b x)) := by
  unfold spec_l01Word.f
  rw [sBits]
  by_cases h : Bits b
  · simp only [h, decide_true, Option.bind_some, if_true]
    have hb := h
    rcases hb with rfl | rfl | rfl
    · rw [u_small (by omega), if_pos (by omega), shl4, w_small (by omega), sIn]
      simp only [Option.bind_some]; exact congrArg some (decide_eq_decide.mpr ⟨fun hh => ⟨h, by rw [M4]; omega⟩, fun hh => by have := hh.2; rw [M4] at this; omega⟩)
    · rw [u_small (by omega), if_pos (by omega), shl8, w_small (by omega), sIn]
      simp only [Option.bind_some]; exact congrArg some (decide_eq_decide.mpr ⟨fun hh => ⟨h, by rw [M8]; omega⟩, fun hh => by have := hh.2; rw [M8] at this; omega⟩)
    · rw [u_small (by omega), if_pos (by omega), shl16, w_small (by omega), sIn]
      simp only [Option.bind_some]; exact congrArg some (decide_eq_decide.mpr ⟨fun hh => ⟨h, by rw [M16]; omega⟩, fun hh => by have := hh.2; rw [M16] at this; omega⟩)
  · simp [Word, h]
theorem sLanes (n : Int) : spec_l02Lanes.f n = some (decide (Lanes n)) := by
  unfold spec_l02Lanes.f Lanes
  by_cases h2 : n = 2
  · simp [h2]
  by_cases h4 : n = 4
  · simp [h4]
  by_cases h8 : n = 8
  · simp [h8]
  simp only [if_neg h2, if_neg h4, if_neg h8]
  by_cases h16 : n = 16 <;> simp [h2, h4, h8, h16]
theorem sWords (b : Int) (l : List Int) (h : l.length ≤ 1048576) : Ev (fun k => spec_l01Words.f k b l) (((List.range l.length).all fun (j : Nat) => decide (Word b (rd l (j : Int)))) && decide (Bits b)) := by
  unfold spec_l01Words.f
  refine loop_all (L := fun k i => spec_l01Words.l0 k b l i) l.length (fun (j : Nat) => decide (Word b (rd l (j : Int)))) (decide (Bits b)) ?_ ?_ ?_
  · intro i hi hp r he
    refine Ev.step (fun k => ?_) he
    simp only [spec_l01Words.l0]
    rw [if_pos (by omega), if_pos (by omega), sWord, hp, w1 (by omega)]
    rfl
  · intro i hi hp
    refine ⟨1, fun k hk => ?_⟩
    obtain ⟨k, rfl⟩ : ∃ m, k = m + 1 := ⟨k - 1, by omega⟩
    simp only [spec_l01Words.l0]
    rw [if_pos (by omega), if_pos (by omega), sWord, hp]
    rfl
  · refine ⟨1, fun k hk => ?_⟩
    obtain ⟨k, rfl⟩ : ∃ m, k = m + 1 := ⟨k - 1, by omega⟩
    simp only [spec_l01Words.l0]
    rw [if_neg (by omega), sBits]
    rfl
theorem sIs (b : Int) (l : List Int) (h : l.length ≤ 1048576) : Ev (fun k => spec_l02Is.f k b l) (vec b l) := by
  unfold spec_l02Is.f
  refine ev_eq (sLanes _) ?_
  by_cases hl : Lanes (l.length : Int)
  · refine ev_if (by simpa using hl) (Ev.bind (sWords b l h) ?_)
    have e : vec b l = (((List.range l.length).all fun (j : Nat) => decide (Word b (rd l (j : Int)))) && decide (Bits b)) := by
      unfold vec
      rw [decide_eq_true hl, Bool.and_true, Bool.and_comm]
    rw [e]
    exact Ev.now _
  · refine ev_else (by simpa using hl) ?_
    have e : vec b l = false := by unfold vec; simp [hl]
    rw [e]
    exact Ev.now _
/-- Two vectors with as many lanes. -/
def both (b : Int) (l m : List Int) : Bool := vec b l && vec b m && decide (l.length = m.length)
theorem sBoth (b : Int) (l m : List Int) (h : l.length ≤ 1048576) (h' : m.length ≤ 1048576) : Ev (fun k => spec_l02Both.f k b l m) (both b l m) := by
  unfold spec_l02Both.f both
  refine Ev.bind (sIs b l h) ?_
  cases vec b l with
  | false => exact ev_else (by simp) (Ev.now _)
  | true =>
    refine ev_if rfl (Ev.bind (sIs b m h') ?_)
    cases vec b m with
    | false => exact ev_else (by simp) (Ev.now _)
    | true =>
      refine ev_if rfl ?_
      have e : ((l.length : Int) == (m.length : Int)) = (true && true && decide (l.length = m.length)) := by
        rw [Bool.eq_iff_iff]; simp; omega
      rw [e]
      exact Ev.now _
/-- m, m + 1, .. -/
def marks (n : Nat) (m : Int) : List Int := (List.range n).map fun (j : Nat) => m + (j : Int)
theorem mark (l : List Int) (m : Int) (h : l.length ≤ 1048576) (hm : 0 ≤ m ∧ m ≤ 10000000) : Ev (fun k => laws_markInt64S.f k l m) (m + l.length, marks l.length m) := by
  unfold laws_markInt64S.f
  have key : ∀ d i : Nat, i + d = l.length → ∀ t : List Int, t = (List.range i).map (fun (j : Nat) => m + (j : Int)) ++ l.drop i → Ev (fun k => laws_markInt64S.l0 k t (m + i) (i : Int)) (m + l.length, marks l.length m) := by
    intro d
    induction d with
    | zero =>
      intro i hi t ht
      obtain rfl : i = l.length := by omega
      have hl : t.length = l.length := by rw [ht]; simp
      refine ⟨1, fun k hk => ?_⟩
      obtain ⟨k, rfl⟩ : ∃ m, k = m + 1 := ⟨k - 1, by omega⟩
      simp only [laws_markInt64S.l0]
      rw [if_neg (by omega), ht]; simp [marks]
    | succ d ih =>
      intro i hi t ht
      have hl : t.length = l.length := by rw [ht]; simp; omega
      refine Ev.step (f := fun k => laws_markInt64S.l0 k (t.set i (m + i)) (m + ((i + 1 : Nat) : Int)) ((i + 1 : Nat) : Int)) (fun k => ?_) (ih (i + 1) (by omega) _ ?_)
      · simp only [laws_markInt64S.l0]
        rw [if_pos (by omega), if_pos (by omega), w1 (by omega), Int.toNat_natCast, show wrap64 (m + (i : Int) + 1) = m + ((i + 1 : Nat) : Int) by unfold wrap64; omega]
      · rw [ht, List.set_append, if_neg (by simp)]
        have e1 : i - ((List.range i).map (fun (j : Nat) => m + (j : Int))).length = 0 := by simp
        rw [e1, List.range_succ, List.map_append, List.append_assoc]
        congr 1
        rw [List.drop_eq_getElem_cons (by omega : i < l.length)]
        rfl
  have := key l.length 0 (by omega) l (by simp)
  simpa using this
theorem marks_len (n : Nat) (m : Int) : (marks n m).length = n := by unfold marks; simp
theorem held (n : Nat) (m : Int) (h : n ≤ 1048576) (hm : 0 ≤ m ∧ m ≤ 10000000) : Ev (fun k => laws_heldInt64S.f k (marks n m) m) (m + n) := by
  unfold laws_heldInt64S.f
  have hl := marks_len n m
  have key : ∀ d i : Nat, i + d = n → Ev (fun k => laws_heldInt64S.l0 k (marks n m) (m + i) (i : Int)) (m + n) := by
    intro d
    induction d with
    | zero =>
      intro i hi
      obtain rfl : i = n := by omega
      refine ⟨1, fun k hk => ?_⟩
      obtain ⟨k, rfl⟩ : ∃ m, k = m + 1 := ⟨k - 1, by omega⟩
      simp only [laws_heldInt64S.l0]
      rw [if_neg (by omega)]
    | succ d ih =>
      intro i hi
      refine Ev.step (f := fun k => laws_heldInt64S.l0 k (marks n m) (m + ((i + 1 : Nat) : Int)) ((i + 1 : Nat) : Int)) (fun k => ?_) (ih (i + 1) (by omega))
      simp only [laws_heldInt64S.l0]
      rw [if_pos (by omega), if_pos (by omega), if_pos (by unfold marks; rw [rd_map (by omega)]), w1 (by omega), show wrap64 (m + (i : Int) + 1) = m + ((i + 1 : Nat) : Int) by unfold wrap64; omega]
  have := key n 0 (by omega)
  simpa using this
theorem vecs_two (b : Int) (l m : List Int) : vecs b [l, m] = both b l m := by
  show ((vec b l && ((l.length : Int) == (l.length : Int))) && ((vec b m && ((m.length : Int) == (l.length : Int))) && true)) = (vec b l && vec b m && decide (l.length = m.length))
  by_cases h : l.length = m.length
  · simp [h]
  · have h1 : ¬ ((m.length : Int) = (l.length : Int)) := by omega
    simp [h, h1]
theorem both_iff {b : Int} {l m : List Int} (h : both b l m = true) : Bits b ∧ Lanes (l.length : Int) ∧ Words b l ∧ Words b m ∧ l.length = m.length := by
  unfold both at h
  rw [Bool.and_eq_true, Bool.and_eq_true, decide_eq_true_eq, vec_iff, vec_iff] at h
  exact ⟨h.1.1.1, h.1.1.2.1, h.1.1.2.2, h.1.2.2.2, h.2⟩
theorem ne_self (b : Bool) : ¬ (b != b) = true := by cases b <;> simp

end Go.Proofs.Ytpcjjminopdofaa.V
