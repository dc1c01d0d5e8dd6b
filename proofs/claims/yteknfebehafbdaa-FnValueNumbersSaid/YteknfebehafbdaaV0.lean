/- Loops in plain Lean: rounds that append, rounds that test. No condition but small lengths. -/
import Derived.Test.YteknfebehafbdaaK0
import Derived.Test.YteknfebehafbdaaB0
namespace Go.Proofs.Yteknfebehafbdaa.V
open Go.RowKit Go.Proofs.Yteknfebehafbdaa.K Go.Proofs.Yteknfebehafbdaa.Bx Go.Proofs.YteknfebehafbdaaW.PrintWords Go.Proofs.YteknfebehafbdaaW.PrintLast
set_option linter.unusedVariables false
set_option linter.unusedSimpArgs false

theorem ev_if {α : Type} {c : Prop} [Decidable c] {g f : Nat → Option α} {r : α} (h : c) (k : Ev g r) : Ev (fun n => if c then g n else f n) r := Ev.congr (fun n => if_pos h) k
theorem ev_else {α : Type} {c : Prop} [Decidable c] {g f : Nat → Option α} {r : α} (h : ¬ c) (k : Ev f r) : Ev (fun n => if c then g n else f n) r := Ev.congr (fun n => if_neg h) k
theorem ev_some {α β : Type} {a : α} {f : Nat → α → Option β} {r : β} (k : Ev (fun n => f n a) r) : Ev (fun n => (some a).bind (f n)) r := k
theorem ev_eq {α β : Type} {g : Option α} {a : α} {f : Nat → α → Option β} {r : β} (h : g = some a) (k : Ev (fun n => f n a) r) : Ev (fun n => g.bind (f n)) r := by rw [h]; exact k
theorem w1 {i : Nat} (h : i < 2000000) : wrap64 ((i : Int) + 1) = ((i + 1 : Nat) : Int) := by unfold wrap64; omega
theorem range_end {F : Nat → Int} (i : Nat) : (List.range i).map F ++ [F i] = (List.range (i + 1)).map F := by rw [List.range_succ, List.map_append]; rfl
/-- Rounds that append one value each. -/
theorem loop_app {β : Type} {L : Nat → List Int → Int → Option β} {r : β} (n : Nat) (F : Nat → Int)
    (hs : ∀ (i : Nat) (acc : List Int), i < n → acc.length = i → Ev (fun k => L k (acc ++ [F i]) ((i + 1 : Nat) : Int)) r → Ev (fun k => L k acc (i : Int)) r)
    (he : Ev (fun k => L k ((List.range n).map F) (n : Int)) r) : Ev (fun k => L k [] 0) r := by
  have key : ∀ d i : Nat, i + d = n → Ev (fun k => L k ((List.range i).map F) (i : Int)) r := by
    intro d
    induction d with
    | zero => intro i hi; obtain rfl : i = n := by omega
              exact he
    | succ d ih =>
      intro i hi
      refine hs i _ (by omega) (by simp) ?_
      rw [range_end]
      exact ih (i + 1) (by omega)
  exact key n 0 (by omega)
/-- Rounds that test one place each. -/
theorem loop_all {L : Nat → Int → Option Bool} (n : Nat) (p : Nat → Bool) (b : Bool)
    (hs : ∀ i : Nat, i < n → p i = true → ∀ r, Ev (fun k => L k ((i + 1 : Nat) : Int)) r → Ev (fun k => L k (i : Int)) r)
    (hf : ∀ i : Nat, i < n → p i = false → Ev (fun k => L k (i : Int)) false)
    (he : Ev (fun k => L k (n : Int)) b) : Ev (fun k => L k 0) ((List.range n).all p && b) := by
  have key : ∀ d i : Nat, i + d = n → Ev (fun k => L k (i : Int)) (((List.range d).all fun j => p (i + j)) && b) := by
    intro d
    induction d with
    | zero => intro i hi; obtain rfl : i = n := by omega
              simpa using he
    | succ d ih =>
      intro i hi
      cases h : p i with
      | false =>
        have : ((List.range (d + 1)).all fun j => p (i + j)) = false := by
          rw [List.all_eq_false]
          exact ⟨0, by simp, by simp [h]⟩
        rw [this]
        exact hf i (by omega) h
      | true =>
        refine hs i (by omega) h _ ?_
        have e : ((List.range (d + 1)).all fun j => p (i + j)) = ((List.range d).all fun j => p (i + 1 + j)) := by
          rw [Bool.eq_iff_iff]
          simp only [List.all_eq_true, List.mem_range]
          refine ⟨fun hh j hj => ?_, fun hh j hj => ?_⟩
          · have := hh (j + 1) (by omega)
            rwa [show i + (j + 1) = i + 1 + j by omega] at this
          · cases j with
            | zero => exact h
            | succ j =>
              have := hh j (by omega)
              rwa [show i + (j + 1) = i + 1 + j by omega]
        rw [e]
        exact ih (i + 1) (by omega)
  have := key n 0 (by omega)
  simpa using this
theorem rd_nat (l : List Int) (i : Nat) : rd l (i : Int) = l.getD i 0 := by unfold rd; rw [Int.toNat_natCast]
theorem rd_map {F : Nat → Int} {n i : Nat} (h : i < n) : rd ((List.range n).map F) (i : Int) = F i := by
  rw [rd_nat, List.getD_eq_getElem?_getD, List.getElem?_map, List.getElem?_range h]; rfl
theorem map_rd (l : List Int) : ((List.range l.length).map fun (j : Nat) => rd l (j : Int)) = l := by
  apply List.ext_getElem
  · simp
  · intro i h1 h2
    rw [List.getElem_map, List.getElem_range, rd_nat, List.getD_eq_getElem?_getD, List.getElem?_eq_getElem h2]; rfl
end Go.Proofs.Yteknfebehafbdaa.V
