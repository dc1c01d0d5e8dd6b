/- What stays of a statement's copy while marks change; the means for a statement that leaves its order open. No condition. -/
import Derived.Test.YteknfebehafbdaaK0
import Derived.Test.YteknfebehafbdaaH0
import Derived.Test.YteknfebehafbdaaH4
import Derived.BigRegion
import Derived.ChangeAlike
import Derived.Deep.RegionHeld
namespace Go.Proofs.Yteknfebehafbdaa.K
open Go.RowKit Go.Shelf Go.Proofs.YteknfebehafbdaaW.PrintWords Go.Proofs.YteknfebehafbdaaW.PrintLast Go.Proofs.YteknfebehafbdaaW.PrintMore
set_option linter.unusedVariables false
set_option linter.unusedSimpArgs false

/-- Two fields of a statement's copy. -/
def C2k (w : World) (hs : Nat) (a b : Int) : Prop := w.cell? ⟨hs, 2, none⟩ = some (.int .i64 a) ∧ w.cell? ⟨hs, 3, none⟩ = some (.int .i64 b)
theorem C2k_new (w : World) (p d a b : Int) : C2k (w.alloc (.cells #[.int .i64 p, .int .i64 d, .int .i64 a, .int .i64 b] 58)) w.heap.size a b := by
  refine ⟨?_, ?_⟩
  · rw [World.cell?_alloc_new]; rfl
  · rw [World.cell?_alloc_new]; rfl
theorem C2k_far {w : World} {hs : Nat} {a b : Int} (h : C2k w hs a b) {p : Addr} (hp : p.block < hs) (u : Value) : C2k (w.setCell p u) hs a b := by
  refine ⟨?_, ?_⟩
  · rw [World.cell?_setCell_far _ _ _ _ (by show p.block ≠ hs; omega)]; exact h.1
  · rw [World.cell?_setCell_far _ _ _ _ (by show p.block ≠ hs; omega)]; exact h.2
end Go.Proofs.Yteknfebehafbdaa.K
