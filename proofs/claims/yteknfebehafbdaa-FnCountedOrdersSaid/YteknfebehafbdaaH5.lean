/- Whether a statement must follow another one: the two sides' own functions for it. No condition but what lies in the cells. -/
import Derived.Test.YteknfebehafbdaaK0
import Derived.Test.YteknfebehafbdaaH0
import Derived.Shelf.Abstract
import Derived.Deep.QuietTactic
import Derived.BigQuiet
import Derived.Laws.Rows
namespace Go.Proofs.Yteknfebehafbdaa.K
open Go.RowKit Go.Shelf Go.Proofs.YteknfebehafbdaaW.PrintWords Go.Proofs.YteknfebehafbdaaW.PrintLast Go.Proofs.YteknfebehafbdaaW.PrintMore
attribute [local go_sem] max2_int min2_int max_two min_two max_three min_three max_four min_four   -- for this text's walks alone
set_option linter.unusedVariables false
set_option linter.unusedSimpArgs false

/-- The greater one, as spec.l00Max tells it. -/
def lmx (a b : Int) : Int := if a > b then a else b
/-- The statement y must follow x. -/
def mst (x y : S58) : Bool := if x.f1 = y.f2 then true else if x.f1 = y.f3 then true else if x.f1 = y.f1 then true else if y.f1 = x.f2 then true else decide (y.f1 = x.f3)
/-- A statement lies at a place. -/
def At4 (w : World) (a : Addr) (x : S58) : Prop := w.cell? a = some (.int .i64 x.f0) ∧ w.cell? ⟨a.block, a.off + 1, none⟩ = some (.int .i64 x.f1) ∧ w.cell? ⟨a.block, a.off + 2, none⟩ = some (.int .i64 x.f2) ∧ w.cell? ⟨a.block, a.off + 3, none⟩ = some (.int .i64 x.f3)
theorem At4_drewN {w : World} {a : Addr} {x : S58} (h : At4 w a x) (n : Nat) : At4 (w.drewN n) a x := by
  unfold At4 at h ⊢
  simp only [World.cell?_drewN]
  exact h
set_option maxHeartbeats 4000000 in
set_option maxRecDepth 100000 in
theorem l03Must_c (w : World) (a b : Addr) (x y : S58) (ha : At4 w a x) (hb : At4 w b y) :
    Calls Try.prog 68 #[.pointer (some a), .pointer (some b)] w fun e w' => e = .returned (.bool (mst x y)) ∧ Drawn0 w w' := by
  obtain ⟨hx0, hx1, hx2, hx3⟩ := ha
  obtain ⟨hy0, hy1, hy2, hy3⟩ := hb
  unfold mst
  go_enter Try.func68, Try.ntmps68
  by_cases c0 : x.f1 = y.f2
  · rw [if_pos c0]
    have b0 : (x.f1 == y.f2) = true := beq_iff_eq.mpr c0
    clear c0
    go_wp2
    repeat (go_quiet (fail); try go_wp2)
    go_ret
    exact ⟨by first | rfl | (simp; done) | (simp [*]; done), by repeat (first | exact Drawn0.refl _ | apply Drawn0.step)⟩
  rw [if_neg c0]
  have b0 : (x.f1 == y.f2) = false := beq_eq_false_iff_ne.mpr c0
  clear c0
  by_cases c1 : x.f1 = y.f3
  · rw [if_pos c1]
    have b1 : (x.f1 == y.f3) = true := beq_iff_eq.mpr c1
    clear c1
    go_wp2
    repeat (go_quiet (fail); try go_wp2)
    go_ret
    exact ⟨by first | rfl | (simp; done) | (simp [*]; done), by repeat (first | exact Drawn0.refl _ | apply Drawn0.step)⟩
  rw [if_neg c1]
  have b1 : (x.f1 == y.f3) = false := beq_eq_false_iff_ne.mpr c1
  clear c1
  by_cases c2 : x.f1 = y.f1
  · rw [if_pos c2]
    have b2 : (x.f1 == y.f1) = true := beq_iff_eq.mpr c2
    clear c2
    go_wp2
    repeat (go_quiet (fail); try go_wp2)
    go_ret
    exact ⟨by first | rfl | (simp; done) | (simp [*]; done), by repeat (first | exact Drawn0.refl _ | apply Drawn0.step)⟩
  rw [if_neg c2]
  have b2 : (x.f1 == y.f1) = false := beq_eq_false_iff_ne.mpr c2
  clear c2
  by_cases c3 : y.f1 = x.f2
  · rw [if_pos c3]
    have b3 : (y.f1 == x.f2) = true := beq_iff_eq.mpr c3
    clear c3
    go_wp2
    repeat (go_quiet (fail); try go_wp2)
    go_ret
    exact ⟨by first | rfl | (simp; done) | (simp [*]; done), by repeat (first | exact Drawn0.refl _ | apply Drawn0.step)⟩
  rw [if_neg c3]
  have b3 : (y.f1 == x.f2) = false := beq_eq_false_iff_ne.mpr c3
  clear c3
  go_wp2
  repeat (go_quiet (fail); try go_wp2)
  go_ret
  exact ⟨by first | rfl | (simp; done) | (simp [*]; done), by repeat (first | exact Drawn0.refl _ | apply Drawn0.step)⟩
set_option maxHeartbeats 4000000 in
set_option maxRecDepth 100000 in
theorem l00Max_c (w : World) (a b : Int) :
    Calls Try.prog 105 #[.int .i64 a, .int .i64 b] w fun e w' => e = .returned (.int .i64 (lmx a b)) ∧ Drawn0 w w' := by
  unfold lmx
  go_enter Try.func105, Try.ntmps105
  by_cases c0 : a > b
  · rw [if_pos c0]
    have b0 : decide (b < a) = true := decide_eq_true c0
    go_wp2
    go_ret
    exact ⟨by first | rfl | (simp; done) | (simp [*]; done), by repeat (first | exact Drawn0.refl _ | apply Drawn0.step)⟩
  · rw [if_neg c0]
    have b0 : decide (b < a) = false := decide_eq_false c0
    go_wp2
    go_ret
    exact ⟨by first | rfl | (simp; done) | (simp [*]; done), by repeat (first | exact Drawn0.refl _ | apply Drawn0.step)⟩
end Go.Proofs.Yteknfebehafbdaa.K
