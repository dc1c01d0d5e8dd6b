/- What the listed variables hold stays so while nothing but new memory is written. No condition. -/
import Derived.Test.YtgaemhbffdlbaaaDoorRows
import Derived.Below
import Derived.WalkKit
import Derived.Lib.Hide
import Derived.Lib.LaidTab
import Derived.Lib.Space
import Derived.Lib.ItoaNum
namespace Go.Proofs.YtgaemhbffdlbaaaDoor.K
open Go.RowKit
set_option linter.unusedVariables false

theorem var_below {P : Program} {w w' : World} {n : String} {cs : Array Value} (h : w.var? P n = some cs) (b : Below w.heap.size w w') : w'.var? P n = some cs := by
  unfold World.var? at h ⊢
  cases hg : P.globalNamed n with
  | none => simp [hg] at h
  | some g =>
    simp only [hg, Option.bind_some] at h ⊢
    have hlt : g < w.heap.size := by
      rcases Nat.lt_or_ge g w.heap.size with h' | h'
      · exact h'
      · simp [Array.getElem?_eq_none h'] at h
    rw [b.block g hlt]
    exact h
/-- strings.asciiSpace is as it is laid. -/
def TabF (w : World) : Prop := Lib.TabIs Tryd.prog w "strings.asciiSpace" .u8 Lib.asciiSpaceTab
/-- The table of powers of ten: its name, as the row lists it. -/
def pow10Name : String := match Rows.fnExactDecimalRow.laid with
  | [_, _, x] => x.1
  | _ => ""
/-- It is as it is laid. -/
def TabD (w : World) : Prop := Lib.TabIs Tryd.prog w pow10Name .u64 Lib.pow10Tab
/-- .. and strconv's two errors are errors. -/
def TabE (w : World) : Prop := TabD w ∧ (∃ (tp : TypeId) (p : Value), w.var? Tryd.prog "strconv.ErrSyntax" = some #[.iface tp p]) ∧ ∃ (tp : TypeId) (p : Value), w.var? Tryd.prog "strconv.ErrRange" = some #[.iface tp p]
/-- .. and internal/bytealg.MaxLen is a number. -/
def TabL (w : World) : Prop := TabE w ∧ ∃ m : Int, w.cell? ⟨7, 0, none⟩ = some (.int .i64 m)
theorem TabF.below {w w' : World} (h : TabF w) (b : Below w.heap.size w w') : TabF w' := var_below h b
theorem TabD.below {w w' : World} (h : TabD w) (b : Below w.heap.size w w') : TabD w' := var_below h b
theorem TabE.below {w w' : World} (h : TabE w) (b : Below w.heap.size w w') : TabE w' := by
  obtain ⟨h1, ⟨t2, p2, h2⟩, ⟨t3, p3, h3⟩⟩ := h
  exact ⟨h1.below b, ⟨t2, p2, var_below h2 b⟩, ⟨t3, p3, var_below h3 b⟩⟩
theorem TabL.below {w w' : World} (h : TabL w) (b : Below w.heap.size w w') : TabL w' := by
  obtain ⟨h1, m, h2⟩ := h
  refine ⟨h1.below b, m, ?_⟩
  rw [b.cell (p := ⟨7, 0, none⟩) (by
    rcases Nat.lt_or_ge 7 w.heap.size with h' | h'
    · exact h'
    · simp [World.cell?, Array.getElem?_eq_none h'] at h2)]
  exact h2
theorem within_b (a l h : Int) (w : World) : Calls Tryd.prog 42 #[.int .i64 a, .int .i64 l, .int .i64 h] w fun e w' => e = .returned (.bool (decide (l ≤ a ∧ a ≤ h))) ∧ w = w' := by
  by_cases h1 : l ≤ a
  · have e1 : decide (l ≤ a) = true := decide_eq_true h1
    rw [show decide (l ≤ a ∧ a ≤ h) = decide (a ≤ h) by simp [h1]]
    clear h1
    go_enter Tryd.func42, Tryd.ntmps42
    go_wp2
    go_ret
    exact ⟨rfl, rfl⟩
  · have e1 : decide (l ≤ a) = false := decide_eq_false h1
    rw [show decide (l ≤ a ∧ a ≤ h) = false by simp [h1]]
    clear h1
    go_enter Tryd.func42, Tryd.ntmps42
    go_wp2
    go_ret
    exact ⟨rfl, rfl⟩
theorem isValue_b (a : Int) (w : World) : Calls Tryd.prog 52 #[.int .i64 a] w fun e w' => e = .returned (.bool (decide (-1000000000 ≤ a ∧ a ≤ 1000000000))) ∧ w = w' := by
  have hw := fun w => within_b a (-1000000000) 1000000000 w
  generalize decide (-1000000000 ≤ a ∧ a ≤ 1000000000) = b at hw ⊢
  have HW := Lib.hid hw
  clear hw
  go_enter Tryd.func52, Tryd.ntmps52
  go_wp2_with (go_at_call 42; refine (HW.out _).mono ?_; rintro e w' ⟨rfl, rfl⟩)
  go_ret
  exact ⟨rfl, rfl⟩
theorem isValue_yes {a : Int} (h : -1000000000 ≤ a ∧ a ≤ 1000000000) (w : World) : Calls Tryd.prog 52 #[.int .i64 a] w fun e w' => e = .returned (.bool true) ∧ w = w' := by
  have := isValue_b a w
  rwa [decide_eq_true h] at this
theorem isValue_no {a : Int} (h : ¬ (-1000000000 ≤ a ∧ a ≤ 1000000000)) (w : World) : Calls Tryd.prog 52 #[.int .i64 a] w fun e w' => e = .returned (.bool false) ∧ w = w' := by
  have := isValue_b a w
  rwa [decide_eq_false h] at this
theorem isOp_b (a : Int) (w : World) : Calls Tryd.prog 36 #[.int .i64 a] w fun e w' => e = .returned (.bool (decide (0 ≤ a ∧ a ≤ 17))) ∧ w = w' := by
  have hw := fun w => within_b a 0 17 w
  generalize decide (0 ≤ a ∧ a ≤ 17) = b at hw ⊢
  have HW := Lib.hid hw
  clear hw
  go_enter Tryd.func36, Tryd.ntmps36
  go_wp2_with (go_at_call 42; refine (HW.out _).mono ?_; rintro e w' ⟨rfl, rfl⟩)
  go_ret
  exact ⟨rfl, rfl⟩
end Go.Proofs.YtgaemhbffdlbaaaDoor.K
