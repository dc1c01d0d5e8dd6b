/- Pairs of statements: what both sides come to; the laws' own marks on rows of rows. No condition but small lengths. -/
import Derived.Test.YteknfebehafbdaaVO
import Derived.Test.YteknfebehafbdaaVN
import Derived.Test.YteknfebehafbdaaVE
import Derived.Test.YteknfebehafbdaaVM
import Derived.Test.YteknfebehafbdaaH9
import Derived.Test.YteknfebehafbdaaK0
import Derived.Test.YteknfebehafbdaaK4
import Derived.Test.YteknfebehafbdaaK5
namespace Go.Proofs.Yteknfebehafbdaa.V
open Go.RowKit Go.Proofs.Yteknfebehafbdaa.K Go.Proofs.Yteknfebehafbdaa.Bx Go.Proofs.YteknfebehafbdaaW.PrintWords Go.Proofs.YteknfebehafbdaaW.PrintLast
set_option linter.unusedVariables false
set_option linter.unusedSimpArgs false

theorem depK_succ (l : List S58) (i : Nat) : depK l (i + 1) = depK l i ++ rowK l i (l.length - 1 - i) := rfl
theorem rowK_two {l : List S58} {i : Nat} : ∀ c, ∀ p ∈ rowK l i c, p.length = 2 := by
  intro c
  induction c with
  | zero => intro p hp; cases hp
  | succ c ih =>
    intro p hp
    unfold rowK at hp
    rcases List.mem_append.mp hp with h | h
    · exact ih p h
    · split at h
      · rw [List.mem_singleton.mp h]; rfl
      · cases h
theorem depK_two {l : List S58} : ∀ n, ∀ p ∈ depK l n, p.length = 2 := by
  intro n
  induction n with
  | zero => intro p hp; cases hp
  | succ n ih =>
    intro p hp
    rw [depK_succ] at hp
    rcases List.mem_append.mp hp with h | h
    · exact ih p h
    · exact rowK_two _ p h
theorem iDeps (l : List S58) (hv : cOk l = true) : Ev (fun k => impl_DependencesOf.f k l) (depK l l.length, true) := by
  have h16 := cOk_len hv
  have hsq : ∀ i, i ≤ l.length → (depK l i).length ≤ 256 := fun i hi => Nat.le_trans (depK_len l i) (Nat.le_trans (Nat.mul_le_mul hi (Nat.le_refl _)) (Nat.le_trans (Nat.mul_le_mul h16 h16) (by decide)))
  unfold impl_DependencesOf.f
  simp only [iValid]
  refine ev_some (ev_if hv ?_)
  have key : ∀ d i : Nat, i + d = l.length → Ev (fun k => impl_DependencesOf.l0 k l (depK l i) (l.length : Int) (i : Int)) (depK l l.length, true) := by
    intro d
    induction d with
    | zero =>
      intro i hi
      obtain rfl : i = l.length := by omega
      refine ⟨1, fun k hk => ?_⟩
      obtain ⟨k, rfl⟩ : ∃ m, k = m + 1 := ⟨k - 1, by omega⟩
      simp only [impl_DependencesOf.l0]
      rw [if_neg (by omega)]
    | succ d ih =>
      intro i hi
      have hn := ih (i + 1) (by omega)
      have inner : ∀ e c : Nat, i + 1 + c + e = l.length → Ev (fun k => impl_DependencesOf.l1 k l (depK l i ++ rowK l i c) (i : Int) ((i + 1 + c : Nat) : Int) (l.length : Int) (i : Int)) (depK l l.length, true) := by
        intro e
        induction e with
        | zero =>
          intro c hc
          refine Ev.step (fun k => ?_) hn
          simp only [impl_DependencesOf.l1]
          rw [if_neg (by omega), w1 (by omega), depK_succ]
          rw [show l.length - 1 - i = c by omega]
        | succ e ih2 =>
          intro c hc
          have hl1 := hsq i (by omega)
          have hl2 := rowK_len l i c
          have hnx := ih2 (c + 1) (by omega)
          unfold rowK at hnx
          cases hm : mst (rd_T58 l (i : Int)) (rd_T58 l ((i + 1 + c : Nat) : Int)) with
          | true =>
            rw [hm, if_pos rfl, ← List.append_assoc] at hnx
            refine Ev.step (fun k => ?_) hnx
            simp only [impl_DependencesOf.l1]
            rw [if_pos (by omega), if_pos (by omega), if_pos (by omega), if_pos (by omega), iFollows, Option.bind_some, hm, if_pos rfl, if_pos (by rw [List.length_append]; omega), w1 (by omega)]
            rfl
          | false =>
            rw [hm, if_neg (by decide), List.append_nil] at hnx
            refine Ev.step (fun k => ?_) hnx
            simp only [impl_DependencesOf.l1]
            rw [if_pos (by omega), if_pos (by omega), if_pos (by omega), if_pos (by omega), iFollows, Option.bind_some, hm, if_neg (by decide), w1 (by omega)]
            rfl
      have h0 := inner (l.length - (i + 1)) 0 (by omega)
      refine Ev.step (fun k => ?_) h0
      simp only [impl_DependencesOf.l0]
      rw [if_pos (by omega), w1 (by omega)]
      simp [rowK]
  exact key l.length 0 (by omega)
theorem rdL_get {xs : List (List Int)} {i : Nat} (h : i < xs.length) : rd_L3 xs (i : Int) = xs[i] := by
  unfold rd_L3
  rw [Int.toNat_natCast, List.getD_eq_getElem?_getD, List.getElem?_eq_getElem h]; rfl
theorem eqSS (xs : List (List Int)) (hl : xs.length ≤ 1048576) (h2 : ∀ r ∈ xs, r.length = 2) : Ev (fun k => laws_eqInt64SS.f k xs xs) true := by
  unfold laws_eqInt64SS.f
  refine ev_if rfl ?_
  have key : ∀ d i : Nat, i + d = xs.length → Ev (fun k => laws_eqInt64SS.l0 k xs xs (i : Int)) true := by
    intro d
    induction d with
    | zero =>
      intro i hi
      refine ⟨1, fun k hk => ?_⟩
      obtain ⟨k, rfl⟩ : ∃ m, k = m + 1 := ⟨k - 1, by omega⟩
      simp only [laws_eqInt64SS.l0]
      rw [if_neg (by omega)]
    | succ d ih =>
      intro i hi
      have hr : (rd_L3 xs (i : Int)).length ≤ 1048576 := by rw [rdL_get (by omega), h2 _ (List.getElem_mem _)]; omega
      refine Ev.step (f := fun k => (laws_eqInt64S.f k (rd_L3 xs (i : Int)) (rd_L3 xs (i : Int))).bind fun t => if t = true then laws_eqInt64SS.l0 k xs xs ((i + 1 : Nat) : Int) else some false) (fun k => ?_) (Ev.bind (eqSame _ hr) (ev_if rfl (ih (i + 1) (by omega))))
      simp only [laws_eqInt64SS.l0]
      rw [if_pos (by omega), if_pos (by omega), if_pos (by omega), w1 (by omega)]
  exact key xs.length 0 (by omega)
/-- Marks in rows of two. -/
def mr : Nat → Int → List (List Int)
  | 0, _ => []
  | n + 1, m => marks 2 m :: mr n (m + 2)
theorem mr_len (n : Nat) : ∀ m, (mr n m).length = n := by
  induction n with
  | zero => intro m; rfl
  | succ n ih => intro m; simp [mr, ih]
theorem mr_at (n : Nat) : ∀ (m : Int) (i : Nat) (h : i < (mr n m).length), (mr n m)[i] = marks 2 (m + 2 * (i : Int)) := by
  induction n with
  | zero => intro m i h; simp [mr] at h
  | succ n ih =>
    intro m i h
    cases i with
    | zero => simp [mr]
    | succ i =>
      have h' : i < (mr n (m + 2)).length := by rw [mr_len] at h ⊢; omega
      have e := ih (m + 2) i h'
      show (mr n (m + 2))[i] = _
      rw [e]
      congr 1
      omega
theorem markSS : ∀ (xs : List (List Int)) (m : Int), (∀ r ∈ xs, r.length = 2) → 0 ≤ m → m + 2 * (xs.length : Int) ≤ 10000000 → Ev (fun k => mkGo k xs m) (m + 2 * (xs.length : Int), mr xs.length m) := by
  intro xs
  induction xs with
  | nil =>
    intro m _ _ _
    refine ⟨0, fun k _ => ?_⟩
    show some (m, ([] : List (List Int))) = _
    simp [mr]
  | cons r rs ih =>
    intro m h2 h0 h1
    have hr : r.length = 2 := h2 r List.mem_cons_self
    simp only [List.length_cons] at h1
    have e1 := V.mark r m (by omega) (by omega)
    rw [hr] at e1
    have e2 := ih (m + ((2 : Nat) : Int)) (fun q hq => h2 q (List.mem_cons_of_mem _ hq)) (by omega) (by omega)
    refine Ev.bind e1 ?_
    have e3 : Ev (fun k => (mkGo k rs (m + ((2 : Nat) : Int))).bind fun q => some (q.1, marks 2 m :: q.2)) (m + 2 * ((r :: rs).length : Int), mr (r :: rs).length m) := by
      refine Ev.bind e2 ?_
      have e : (m + ((2 : Nat) : Int) + 2 * (rs.length : Int), marks 2 m :: mr rs.length (m + ((2 : Nat) : Int))) = (m + 2 * ((r :: rs).length : Int), mr (r :: rs).length m) := by
        refine Prod.ext ?_ rfl
        simp only [List.length_cons]
        omega
      rw [← e]
      exact Ev.now _
    exact e3
theorem heldSS (n : Nat) (m : Int) (hm : 0 ≤ m) (h1 : m + 2 * (n : Int) ≤ 10000000) (hn : n ≤ 1048576) : Ev (fun k => laws_heldInt64SS.f k (mr n m) m) (m + 2 * (n : Int)) := by
  unfold laws_heldInt64SS.f
  have hl := mr_len n m
  have key : ∀ d i : Nat, i + d = n → Ev (fun k => laws_heldInt64SS.l0 k (mr n m) (m + 2 * (i : Int)) (i : Int)) (m + 2 * (n : Int)) := by
    intro d
    induction d with
    | zero =>
      intro i hi
      obtain rfl : i = n := by omega
      refine ⟨1, fun k hk => ?_⟩
      obtain ⟨k, rfl⟩ : ∃ m, k = m + 1 := ⟨k - 1, by omega⟩
      simp only [laws_heldInt64SS.l0]
      rw [if_neg (by omega)]
    | succ d ih =>
      intro i hi
      have e1 := V.held 2 (m + 2 * (i : Int)) (by omega) (by omega)
      have hnx := ih (i + 1) (by omega)
      rw [show m + 2 * ((i + 1 : Nat) : Int) = m + 2 * (i : Int) + ((2 : Nat) : Int) by omega] at hnx
      refine Ev.step (f := fun k => (laws_heldInt64S.f k (marks 2 (m + 2 * (i : Int))) (m + 2 * (i : Int))).bind fun t => if t < 0 then some (-1) else laws_heldInt64SS.l0 k (mr n m) t ((i + 1 : Nat) : Int)) (fun k => ?_) (Ev.bind e1 (ev_else (by omega) hnx))
      simp only [laws_heldInt64SS.l0]
      rw [if_pos (by omega), if_pos (by omega), rdL_get (by omega), mr_at, w1 (by omega)]
  have := key n 0 (by omega)
  simpa using this
end Go.Proofs.Yteknfebehafbdaa.V
