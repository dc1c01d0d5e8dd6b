/- For all arguments the law FnCompared answers true. No condition. -/
import Derived.Test.YtigffehcchhlkaaK4
import Derived.Test.YtigffehcchhlkaaD0
namespace Go.Proofs.Ytigffehcchhlkaa.Pure
open Go.RowKit Go.Proofs.Ytigffehcchhlkaa.K Go.Proofs.Ytigffehcchhlkaa.V Go.Proofs.Ytigffehcchhlkaa.Bx Go.Proofs.YtigffehcchhlkaaW.PrintWords Go.Proofs.YtigffehcchhlkaaW.PrintLast
set_option linter.unusedVariables false

theorem cmp_ok {c b x y : Int} (hc : 0 ≤ c ∧ c ≤ 5) (hx : Word b x) (hy : Word b y) : impl_TestCmp.f c b x y = some (cmpB c b x y, true) := by
  rw [iTestCmp]; unfold testCmp; rw [if_pos ⟨hc, hx, hy⟩]
theorem op_ok {c b x y : Int} (hc : OpOk c) (hx : Word b x) (hy : Word b y) : impl_DoOp.f c b x y = some (res c b x y, true) := by
  rw [iDoOp]; unfold doOp; rw [if_pos ⟨hc, hx, hy⟩]
theorem sg_ok {b x : Int} (hx : Word b x) : impl_SignedOf.f b x = some (sg b x, true) := by
  rw [iSignedOf]; unfold signedOf; rw [if_pos hx]
theorem ev_and {α : Type} {x y : Bool} {g f : Nat → Option α} {r : α} (h : x = y) (k : Ev g r) : Ev (fun n => if (x == y) = true then g n else f n) r := ev_if (by rw [h]; exact beq_self_eq_true y) k
theorem FnCompared : laws_FnCompared.Pure := by
  intro l0 l1 _ _ h0 _ _ h1
  refine Ev.rounds (g := fun k => laws_FnCompared.f k l0 l1) ?_
  have b0 := bytes_of h0
  have b1 := bytes_of h1
  unfold laws_FnCompared.f
  have hlong : ∃ t, laws_b10Long.f l0 l1 = some t := by
    unfold laws_b10Long.f
    split <;> exact ⟨_, rfl⟩
  obtain ⟨t, ht⟩ := hlong
  refine ev_eq ht ?_
  by_cases htt : t = true
  · exact ev_if htt (Ev.now _)
  refine ev_else htt ?_
  obtain ⟨b, eb, hb⟩ := drawBits b0
  refine ev_eq eb ?_
  obtain ⟨l, el, hl, hw⟩ := drawWords b1 b hb 2 (by omega)
  refine Ev.bind el (ev_if (by omega) (ev_if (by omega) ?_))
  have hx : Word b (rd l 0) := words_rd hw (by omega) (by omega)
  have hy : Word b (rd l 1) := words_rd hw (by omega) (by omega)
  generalize rd l 0 = x at hx ⊢
  generalize rd l 1 = y at hy ⊢
  refine ev_eq (cmp_ok (by omega) hx hy) (ev_eq (cmp_ok (by omega) hx hy) (ev_eq (cmp_ok (by omega) hx hy) (ev_eq (cmp_ok (by omega) hy hx) (ev_eq (cmp_ok (by omega) hx hy) (ev_eq (cmp_ok (by omega) hx hy) (ev_eq (cmp_ok (by omega) hx hy) (ev_eq (sg_ok hx) (ev_eq (sg_ok hy) (ev_eq (op_ok (by unfold OpOk; omega) hx hy) ?_)))))))))
  iterate 10 refine ev_if rfl ?_
  have e0 : cmpB 0 b x y = (x == y) := rfl
  have e1 : cmpB 1 b x y = (x != y) := rfl
  have e2 : cmpB 2 b x y = decide (x < y) := rfl
  have e2' : cmpB 2 b y x = decide (y < x) := rfl
  have e3 : cmpB 3 b x y = decide (x ≤ y) := rfl
  have e4 : cmpB 4 b x y = decide (sg b x < sg b y) := rfl
  have e5 : cmpB 5 b x y = decide (sg b x ≤ sg b y) := rfl
  have e8 : res 8 b x y = if sg b x ≤ sg b y then x else y := rfl
  have hinj : sg b x = sg b y → x = y := fun h => by rw [← sg_mod hx, ← sg_mod hy, h]
  have hlast : ((res 8 b x y == x) == cmpB 5 b x y) = true := by
    rw [e8, e5]
    by_cases hs : sg b x ≤ sg b y
    · rw [if_pos hs]; simp [hs]
    · rw [if_neg hs]
      have : y ≠ x := fun h => hs (by rw [h]; exact Int.le_refl _)
      simp [hs, this]
  refine ev_and e0 (ev_and (by rw [e0, e1]; rfl) (ev_and e2 (ev_and e2' ?_)))
  by_cases hlt : x < y
  · refine ev_if (by rw [e2]; exact decide_eq_true hlt) (ev_and (by rw [e3]; exact decide_eq_true (by omega)) (ev_and e4 (ev_and e5 ?_)))
    show Ev (fun _ => some ((res 8 b x y == x) == cmpB 5 b x y)) true
    rw [hlast]; exact Ev.now _
  · refine ev_else (by rw [e2, decide_eq_true_eq]; exact hlt) (ev_and ?_ (ev_and e4 (ev_and e5 ?_)))
    · rw [e3, e0]
      by_cases he : x = y
      · simp [he]
      · have : ¬ x ≤ y := by omega
        simp [he, this]
    · show Ev (fun _ => some ((res 8 b x y == x) == cmpB 5 b x y)) true
      rw [hlast]; exact Ev.now _

end Go.Proofs.Ytigffehcchhlkaa.Pure
