/- What impl.RunCode comes to, and which cells it turns. No condition but small lengths. -/
import Derived.Test.YteknfebehafbdaaVO
import Derived.Test.YteknfebehafbdaaVS
import Derived.Test.YteknfebehafbdaaK0
import Derived.Test.YteknfebehafbdaaK3
import Derived.Test.YteknfebehafbdaaK4
import Derived.Test.YteknfebehafbdaaK5
namespace Go.Proofs.Yteknfebehafbdaa.V
open Go.RowKit Go.Proofs.Yteknfebehafbdaa.K Go.Proofs.Yteknfebehafbdaa.Bx Go.Proofs.YteknfebehafbdaaW.PrintWords Go.Proofs.YteknfebehafbdaaW.PrintLast
set_option linter.unusedVariables false
set_option linter.unusedSimpArgs false

/-- The cells behind the first i statements. -/
def runOf (b : Int) (l : List S58) (c : List Int) : Nat → List Int
  | 0 => c
  | i + 1 => (runOf b l c i).set (rd_T58 l (i : Int)).f1.toNat (res (rd_T58 l (i : Int)).f0 b (rd (runOf b l c i) (rd_T58 l (i : Int)).f2) (rd (runOf b l c i) (rd_T58 l (i : Int)).f3))
theorem runOf_len (b : Int) (l : List S58) (c : List Int) (i : Nat) : (runOf b l c i).length = c.length := by
  induction i with
  | zero => rfl
  | succ i ih => simp [runOf, ih]
theorem runOf_words {b : Int} {l : List S58} {c : List Int} (hv : cOk l = true) (hc : Words b c) (h32 : c.length = 32) : ∀ i, i ≤ l.length → Words b (runOf b l c i) := by
  intro i
  induction i with
  | zero => intro _; exact hc
  | succ i ih =>
    intro hi x hx
    have h := ih (by omega)
    obtain ⟨_, ⟨d0, d1⟩, ⟨a0, a1⟩, b0, b1⟩ := cOk_at hv (by omega : i < l.length)
    have hn := runOf_len b l c i
    rcases List.mem_or_eq_of_mem_set hx with h1 | h1
    · exact h x h1
    · rw [h1]
      exact res_word (h _ (rd_mem a0 (by omega))) (h _ (rd_mem b0 (by omega)))
theorem iRun {b : Int} {l : List S58} {c : List Int} (hv : cOk l = true) (hc : Words b c) (h32 : c.length = 32) (hl : l.length ≤ 1048576) : Ev (fun k => impl_run.l0 k b c l (l.length : Int) 0) (runOf b l c l.length) := by
  have key : ∀ d i : Nat, i + d = l.length → Ev (fun k => impl_run.l0 k b (runOf b l c i) l (l.length : Int) (i : Int)) (runOf b l c l.length) := by
    intro d
    induction d with
    | zero =>
      intro i hi
      obtain rfl : i = l.length := by omega
      refine ⟨1, fun k hk => ?_⟩
      obtain ⟨k, rfl⟩ : ∃ m, k = m + 1 := ⟨k - 1, by omega⟩
      simp only [impl_run.l0]
      rw [if_neg (by omega)]
    | succ d ih =>
      intro i hi
      obtain ⟨ho, ⟨d0, d1⟩, ⟨a0, a1⟩, b0, b1⟩ := cOk_at hv (by omega : i < l.length)
      have hn := runOf_len b l c i
      have hw := runOf_words hv hc h32 i (by omega)
      refine Ev.step (fun k => ?_) (ih (i + 1) (by omega))
      simp only [impl_run.l0]
      rw [if_pos (by omega), if_pos (by omega), if_pos (by omega), if_pos a0, if_pos (by omega), if_pos b0, if_pos (by omega), iResult ho (hw _ (rd_mem a0 (by omega))) (hw _ (rd_mem b0 (by omega))), Option.bind_some, if_pos d0, if_pos (by omega), w1 (by omega)]
      rfl
  have := key l.length 0 (by omega)
  simpa [runOf] using this
theorem celB_words {b : Int} {l : List Int} (h : celB b l = true) : Words b l ∧ l.length = 32 := by
  unfold celB at h
  rw [Bool.and_eq_true, Bool.and_eq_true, List.all_eq_true] at h
  refine ⟨fun x hx => ?_, of_decide_eq_true h.2.1⟩
  obtain ⟨i, hi, rfl⟩ := List.getElem_of_mem hx
  have := of_decide_eq_true (h.2.2 i (List.mem_range.mpr hi))
  rw [rd_nat, List.getD_eq_getElem?_getD, List.getElem?_eq_getElem hi] at this
  exact this
theorem celB_of {b : Int} {c : List Int} (hb : Bits b) (hw : Words b c) (h32 : c.length = 32) : celB b c = true := by
  unfold celB
  rw [Bool.and_eq_true, Bool.and_eq_true, List.all_eq_true]
  refine ⟨decide_eq_true hb, decide_eq_true h32, fun j hj => decide_eq_true (hw _ (rd_mem (by omega) (by have := List.mem_range.mp hj; omega)))⟩
theorem iRunCode {b : Int} {l : List S58} {c : List Int} (hv : cOk l = true) (hb : Bits b) (hw : Words b c) (h32 : c.length = 32) : Ev (fun k => impl_RunCode.f k b l c) (runOf b l c l.length, true) := by
  have hl := cOk_len hv
  unfold impl_RunCode.f
  simp only [iValid]
  refine ev_some (ev_if hv ?_)
  unfold impl_areCells.f
  refine ev_some (ev_if (celB_of hb hw h32) (Ev.bind ?_ (Ev.now _)))
  unfold impl_run.f slices_Clone_int64_int64.f
  rw [if_pos (by omega)]
  exact ev_some (iRun hv hw h32 (by omega))
theorem rdc_same {t : List Int} {i : Nat} {v : Int} (h : i < t.length) : rd (t.set i v) (i : Int) = v := by
  rw [rd_nat, List.getD_eq_getElem?_getD, List.getElem?_set_self h]; rfl
theorem rdc_other {t : List Int} {i j : Nat} {v : Int} (h : j ≠ i) : rd (t.set i v) (j : Int) = rd t (j : Int) := by
  rw [rd_nat, rd_nat, List.getD_eq_getElem?_getD, List.getD_eq_getElem?_getD, List.getElem?_set_ne (by omega)]
/-- One statement. -/
def stepC (b : Int) (s : S58) (c : List Int) : List Int := c.set s.f1.toNat (res s.f0 b (rd c s.f2) (rd c s.f3))
def runL (b : Int) : List S58 → List Int → List Int
  | [], c => c
  | s :: t, c => runL b t (stepC b s c)
theorem runL_app (b : Int) (t u : List S58) (c : List Int) : runL b (t ++ u) c = runL b u (runL b t c) := by
  induction t generalizing c with
  | nil => rfl
  | cons s t ih => exact ih _
theorem dropS {l : List S58} {i : Nat} (h : i < l.length) : l.drop i = rd_T58 l (i : Int) :: l.drop (i + 1) := by
  rw [List.drop_eq_getElem_cons h, rd58, List.getD_eq_getElem?_getD, List.getElem?_eq_getElem h]; rfl
theorem takeS {l : List S58} {i : Nat} (h : i < l.length) : l.take (i + 1) = l.take i ++ [rd_T58 l (i : Int)] := by
  rw [List.take_add_one, rd58, List.getD_eq_getElem?_getD, List.getElem?_eq_getElem h]; rfl
theorem runOf_L (b : Int) (l : List S58) (c : List Int) : ∀ i, i ≤ l.length → runOf b l c i = runL b (l.take i) c := by
  intro i
  induction i with
  | zero => intro _; simp [runOf, runL]
  | succ i ih =>
    intro hi
    rw [takeS (by omega), runL_app, ← ih (by omega)]
    rfl
theorem runOf_all (b : Int) (l : List S58) (c : List Int) : runOf b l c l.length = runL b l c := by
  rw [runOf_L b l c l.length (Nat.le_refl _), List.take_length]
/-- Two lists are alike at the marked cells. -/
def Alike (m : Nat → Bool) (A B : List Int) : Prop := ∀ x : Nat, x < 32 → m x = true → rd A (x : Int) = rd B (x : Int)
theorem rd_at {A : List Int} {n : Int} (h : 0 ≤ n) : rd A n = rd A ((n.toNat : Nat) : Int) := by rw [Int.toNat_of_nonneg h]
theorem alike_rd {m : Nat → Bool} {A B : List Int} (h : Alike m A B) {n : Int} (h0 : 0 ≤ n) (h1 : n ≤ 31) (hm : m n.toNat = true) : rd A n = rd B n := by
  rw [rd_at h0, rd_at (A := B) h0]
  exact h _ (by omega) hm
/-- What no statement writes stays. -/
theorem rd1_ge {R W : Nat → Bool} {a : Int} {x : Nat} (h : R x = true) : put R a (R a.toNat || !W a.toNat) x = true := by
  unfold put
  by_cases he : (x : Int) = a
  · rw [if_pos he, ← he, Int.toNat_natCast, h]; rfl
  · rw [if_neg he]; exact h
theorem rd1_at {R W : Nat → Bool} {a : Int} (h0 : 0 ≤ a) (h : W a.toNat = false) : put R a (R a.toNat || !W a.toNat) a.toNat = true := by
  unfold put
  rw [if_pos (by omega), h]; simp
end Go.Proofs.Yteknfebehafbdaa.V
