/- Code in plain Lean: what the laws' own helpers on code come to, and the tests of code. No condition but small lengths. -/
import Derived.Test.YteknfebehafbdaaK0
import Derived.Test.YteknfebehafbdaaB0
import Derived.Test.YteknfebehafbdaaV0
import Derived.Test.YteknfebehafbdaaK0
import Derived.Test.YteknfebehafbdaaK2
import Derived.Test.YteknfebehafbdaaK3
import Derived.Test.YteknfebehafbdaaK4
import Derived.Test.YteknfebehafbdaaK6
namespace Go.Proofs.Yteknfebehafbdaa.V
open Go.RowKit Go.Proofs.Yteknfebehafbdaa.K Go.Proofs.Yteknfebehafbdaa.Bx Go.Proofs.YteknfebehafbdaaW.PrintWords Go.Proofs.YteknfebehafbdaaW.PrintLast
set_option linter.unusedVariables false
set_option linter.unusedSimpArgs false

/-- The program's statement of the law's own one. -/
def cv (x : S62) : S58 := ⟨x.f0, x.f1, x.f2, x.f3⟩
theorem rd62 (l : List S62) (i : Nat) : rd_T62 l (i : Int) = l.getD i z62 := by unfold rd_T62; rw [Int.toNat_natCast]
theorem rd58 (l : List S58) (i : Nat) : rd_T58 l (i : Int) = l.getD i z58 := by unfold rd_T58; rw [Int.toNat_natCast]
theorem sz (l : List S62) (h : l.length ≤ 4398046511104) : laws_szStmtS.f l 1048576 = some (if 1048576 < l.length then -1 else 1048576 - (l.length : Int)) := by
  unfold laws_szStmtS.f
  have e : wrap64 (1048576 - (l.length : Int)) = 1048576 - (l.length : Int) := w_small (by omega)
  rw [e]
  by_cases hl : 1048576 < l.length
  · rw [if_pos (by omega), if_pos hl]
  · rw [if_neg (by omega), if_neg hl]
theorem toStmt (l : List S62) (h : l.length ≤ 1048576) : Ev (fun k => laws_toStmtS.f k l) (l.map cv) := by
  unfold laws_toStmtS.f
  refine ev_if (by omega) (ev_if (by omega) ?_)
  have key : ∀ d i : Nat, i + d = l.length → ∀ t : List S58, t = (l.take i).map cv ++ List.replicate d z58 → Ev (fun k => laws_toStmtS.l0 k l t (i : Int)) (l.map cv) := by
    intro d
    induction d with
    | zero =>
      intro i hi t ht
      refine ⟨1, fun k hk => ?_⟩
      obtain ⟨k, rfl⟩ : ∃ m, k = m + 1 := ⟨k - 1, by omega⟩
      simp only [laws_toStmtS.l0]
      rw [if_neg (by omega), ht, List.take_of_length_le (by omega)]; simp
    | succ d ih =>
      intro i hi t ht
      have hl : t.length = l.length := by rw [ht]; simp; omega
      refine Ev.step (f := fun k => laws_toStmtS.l0 k l (t.set i (cv (rd_T62 l (i : Int)))) ((i + 1 : Nat) : Int)) (fun k => ?_) (ih (i + 1) (by omega) _ ?_)
      · simp only [laws_toStmtS.l0, laws_toStmt.f, Option.bind_some]
        rw [if_pos (by omega), if_pos (by omega), if_pos (by omega), w1 (by omega), Int.toNat_natCast]
        rfl
      · rw [ht, List.set_append, if_neg (by simp; omega)]
        have e1 : i - ((l.take i).map cv).length = 0 := by simp; omega
        rw [e1, List.replicate_succ, List.set_cons_zero, rd62, List.take_add_one, List.map_append, List.append_assoc]
        rw [List.getElem?_eq_getElem (by omega), List.getD_eq_getElem?_getD, List.getElem?_eq_getElem (by omega)]
        rfl
  have := key l.length 0 (by omega) (List.replicate l.length z58) (by simp)
  simpa using this
theorem eqStmtSame (l : List S58) (h : l.length ≤ 1048576) : Ev (fun k => laws_eqStmtS.f k l l) true := by
  unfold laws_eqStmtS.f
  refine ev_if rfl ?_
  have := loop_all (L := fun k i => laws_eqStmtS.l0 k l l i) l.length (fun _ => true) true
    (fun i hi _ r he => Ev.step (fun k => by simp only [laws_eqStmtS.l0, laws_eqStmt.f]; rw [if_pos (by omega), if_pos (by omega), if_pos (by omega), if_pos trivial, if_pos trivial, if_pos trivial, if_pos trivial, Option.bind_some, if_pos rfl, w1 (by omega)]) he)
    (fun i hi hp => by cases hp)
    ⟨1, fun k hk => by
      obtain ⟨k, rfl⟩ : ∃ m, k = m + 1 := ⟨k - 1, by omega⟩
      simp only [laws_eqStmtS.l0]; rw [if_neg (by omega)]⟩
  have e : ((List.range l.length).all fun _ => true) = true := List.all_eq_true.mpr fun _ _ => rfl
  rw [e] at this
  exact this
theorem sIn (n lo hi : Int) : spec_l00In.f n lo hi = some (decide (lo ≤ n ∧ n ≤ hi)) := by
  unfold spec_l00In.f
  by_cases h : n ≥ lo
  · rw [if_pos h]; congr 1; simp; omega
  · rw [if_neg h]; congr 1; simp; omega
theorem sCell (n : Int) : spec_l03Cell.f n = some (cellB n) := by
  unfold spec_l03Cell.f
  rw [sIn]; rfl
theorem sOpIs (n : Int) : spec_l01OpIs.f n = some (decide (OpOk n)) := by
  unfold spec_l01OpIs.f
  rw [sIn, Option.bind_some]; rfl
/-- The test of code, for both. -/
def cOk (l : List S58) : Bool := decide (l.length ≤ 16) && (List.range l.length).all fun (j : Nat) => stOk (rd_T58 l (j : Int))
theorem sIs (l : List S58) (h : l.length ≤ 1048576) : Ev (fun k => spec_l03Is.f k l) (cOk l) := by
  unfold spec_l03Is.f
  have := loop_all (L := fun k i => spec_l03Is.l0 k l i) l.length (fun (j : Nat) => stOk (rd_T58 l (j : Int))) (decide (l.length ≤ 16)) ?_ ?_ ?_
  · rw [Bool.and_comm] at this; exact this
  · intro i hi hp r he
    refine Ev.step (fun k => ?_) he
    simp only [spec_l03Is.l0]
    rw [if_pos (by omega), if_pos (by omega), sOpIs, sCell, sCell, sCell, w1 (by omega)]
    unfold stOk at hp
    simp only [Bool.and_eq_true] at hp
    rw [hp.1, hp.2.1, hp.2.2.1, hp.2.2.2]
    rfl
  · intro i hi hp
    refine ⟨1, fun k hk => ?_⟩
    obtain ⟨k, rfl⟩ : ∃ m, k = m + 1 := ⟨k - 1, by omega⟩
    simp only [spec_l03Is.l0]
    rw [if_pos (by omega), if_pos (by omega), sOpIs, sCell, sCell, sCell]
    unfold stOk at hp
    simp only [Option.bind_some]
    cases h0 : decide (OpOk (rd_T58 l (i : Int)).f0) with
    | false => rw [if_neg (by decide)]
    | true =>
      rw [if_pos rfl]
      cases h1 : cellB (rd_T58 l (i : Int)).f1 with
      | false => rw [if_neg (by decide)]
      | true =>
        rw [if_pos rfl]
        cases h2 : cellB (rd_T58 l (i : Int)).f2 with
        | false => rw [if_neg (by decide)]
        | true =>
          rw [if_pos rfl]
          cases h3 : cellB (rd_T58 l (i : Int)).f3 with
          | false => rw [if_neg (by decide)]
          | true => rw [h0, h1, h2, h3] at hp; cases hp
  · refine ⟨1, fun k hk => ?_⟩
    obtain ⟨k, rfl⟩ : ∃ m, k = m + 1 := ⟨k - 1, by omega⟩
    simp only [spec_l03Is.l0]
    rw [if_neg (by omega)]
    congr 1
    exact decide_eq_decide.mpr (by omega)
theorem iValid (k : Nat) (l : List S58) : impl_ValidCode.f k l = some (cOk l) := rfl
end Go.Proofs.Yteknfebehafbdaa.V
