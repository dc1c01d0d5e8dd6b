/- For all arguments the law FnExactReadOp answers true. No condition. -/
import Derived.Test.YtgaemhbffdlbaaaDoorK1
import Derived.Test.YtgaemhbffdlbaaaDoorV0
namespace Go.Proofs.YtgaemhbffdlbaaaDoor.Pure
open Go.RowKit Go.Proofs.YtgaemhbffdlbaaaDoor.K Go.Proofs.YtgaemhbffdlbaaaDoor.V Go.Proofs.YtgaemhbffdlbaaaDoorW.PrintWords Go.Proofs.YtgaemhbffdlbaaaDoorW.PrintLast
set_option linter.unusedVariables false
set_option linter.unusedSimpArgs false

theorem ops_is : spec_l01OpTexts.f = some opS := rfl
theorem rdOf_cast (l : List ByteArray) (i : Nat) : rdOf ByteArray.empty l (i : Int) = l.getD i ByteArray.empty := by unfold rdOf; rw [Int.toNat_natCast]
theorem readOp (s : ByteArray) : Ev (fun k => spec_l01ReadOp.f k s) (if Lib.idxOfS opS s < 0 then (0, false) else (Lib.idxOfS opS s, true)) := by
  unfold spec_l01ReadOp.f
  refine ev_eq ops_is ?_
  have hlen : opS.length = 18 := rfl
  have key : ∀ d i : Nat, i + d = 18 → Ev (fun k => spec_l01ReadOp.l0 k s opS (i : Int)) (if Lib.idxFromS (opS.drop i) s i < 0 then (0, false) else (Lib.idxFromS (opS.drop i) s i, true)) := by
    intro d
    induction d with
    | zero =>
      intro i hi
      obtain rfl : i = 18 := by omega
      refine Ev.step (f := fun _ => some ((0 : Int), false)) (fun k => ?_) (Ev.now _)
      simp only [spec_l01ReadOp.l0]
      rw [if_neg (by rw [hlen]; decide)]
    | succ d ih =>
      intro i hi
      have e : opS.drop i = opS.getD i ByteArray.empty :: opS.drop (i + 1) := by
        rw [List.drop_eq_getElem_cons (by omega : i < opS.length), List.getD_eq_getElem?_getD, List.getElem?_eq_getElem (by omega)]; rfl
      rw [e]
      unfold Lib.idxFromS
      by_cases h : opS.getD i ByteArray.empty = s
      · rw [if_pos h, if_neg (by omega)]
        refine Ev.step (f := fun _ => some ((i : Int), true)) (fun k => ?_) (Ev.now _)
        simp only [spec_l01ReadOp.l0]
        rw [if_pos (by rw [hlen]; omega), if_pos (by omega), rdOf_cast, if_pos (by rw [h])]
      · rw [if_neg h]
        refine Ev.step (f := fun k => spec_l01ReadOp.l0 k s opS ((i + 1 : Nat) : Int)) (fun k => ?_) (ih (i + 1) (by omega))
        simp only [spec_l01ReadOp.l0]
        rw [if_pos (by rw [hlen]; omega), if_pos (by omega), rdOf_cast, if_neg (fun hh => h ((Lib.bytes_beq_iff _ _).mp (beq_iff_eq.mpr hh))), w1 (by omega)]
  exact key 18 0 rfl
theorem FnExactReadOp : laws_FnExactReadOp.Pure := by
  intro a0 hw
  refine Ev.rounds (g := fun k => laws_FnExactReadOp.f k a0) ?_
  unfold laws_FnExactReadOp.f
  by_cases hs : (a0.size : Int) > 1048576
  · exact ev_if hs (Ev.now _)
  · refine ev_else hs (Ev.bind (a := (if Lib.idxOfS opS a0 < 0 then (0, false) else (Lib.idxOfS opS a0, true))) ?_ ?_)
    · unfold spec_ReadOp.f
      exact Ev.bind (readOp a0) (Ev.now _)
    · unfold impl_ReadOp.f
      exact ev_some (ev_if rfl (ev_else (by simp) (Ev.now _)))
end Go.Proofs.YtgaemhbffdlbaaaDoor.Pure
